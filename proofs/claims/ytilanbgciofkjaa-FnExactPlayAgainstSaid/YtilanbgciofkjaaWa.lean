/- The statements' own helpers: what toIntS makes (the list, and behind it the spare cells), as one contract. -/
import Derived.Test.YtilanbgciofkjaaPHx0
import Derived.Test.YtilanbgciofkjaaPHx1
namespace Go.Proofs.Ytilanbgciofkjaa.Wr
open Go.RowKit Go.Proofs.YtilanbgciofkjaaW.PrintWords Go.Proofs.YtilanbgciofkjaaW.PrintLast Go.Proofs.YtilanbgciofkjaaW.PrintMore Go.Proofs.Ytilanbgciofkjaa.PH
set_option linter.unusedVariables false
set_option linter.unusedSimpArgs false

/-- how many spare cells a list of n elements is given -/
def roomN (n : Nat) : Nat := if n % 6 = 5 then 0 else if n % 3 = 0 then 1 else n
theorem roomN_le (n : Nat) : roomN n ≤ n + 1 := by unfold roomN; split; omega; split <;> omega
theorem room_some (n : Nat) : laws_roomBehind.f (n : Int) = some (roomN n : Int) := by
  unfold laws_roomBehind.f roomN
  have h6 : Int.tmod (n : Int) 6 = ((n % 6 : Nat) : Int) := by rw [Int.tmod_eq_emod_of_nonneg (by omega)]; omega
  have h3 : Int.tmod (n : Int) 3 = ((n % 3 : Nat) : Int) := by rw [Int.tmod_eq_emod_of_nonneg (by omega)]; omega
  rw [h6, h3]
  by_cases a : n % 6 = 5
  · rw [if_pos (by omega), if_pos a]; rfl
  · rw [if_neg (by omega), if_neg a]
    by_cases b : n % 3 = 0
    · rw [if_pos (by omega), if_pos b]; rfl
    · rw [if_neg (by omega), if_neg b]
def spareV : Int := -7000000000000000101
/-- what the array that toIntS makes holds, up to its capacity -/
def fullOf (bare : Bool) (l : List Int) : List Int := if bare = true ∧ l = [] then [] else l ++ List.replicate (roomN l.length) spareV
theorem fullOf_false (l : List Int) : fullOf false l = l ++ List.replicate (roomN l.length) spareV := by simp [fullOf]
theorem fullOf_len (bare : Bool) (l : List Int) : l.length ≤ (fullOf bare l).length := by
  unfold fullOf; split
  · rename_i h; rw [h.2]; exact Nat.le_refl _
  · simp
theorem fullOf_take (bare : Bool) (l : List Int) : (fullOf bare l).take l.length = l := by
  unfold fullOf; split
  · rename_i h; rw [h.2]; rfl
  · simp
theorem rd_nat (l : List Int) (i : Nat) : rd l (i : Int) = l.getD i 0 := rfl
theorem getD_set_self (x : List Int) (i : Nat) (v : Int) (h : i < x.length) : (x.set i v).getD i 0 = v := by
  simp [List.getD_eq_getElem?_getD, List.getElem?_set_self h]
theorem getD_set_ne (x : List Int) (i j : Nat) (v : Int) (h : i ≠ j) : (x.set i v).getD j 0 = x.getD j 0 := by
  simp [List.getD_eq_getElem?_getD, List.getElem?_set_ne h]
theorem ext_getD (x y : List Int) (hl : x.length = y.length) (h : ∀ j, j < x.length → x.getD j 0 = y.getD j 0) : x = y := by
  apply List.ext_getElem hl
  intro i h1 h2
  have := h i h1
  simpa [List.getD_eq_getElem?_getD, List.getElem?_eq_getElem h1, List.getElem?_eq_getElem h2] using this
theorem w64_succ (i n : Nat) (h : i ≤ n) (hn : n ≤ 4000000) : wrap64 ((i : Int) + 1) = ((i + 1 : Nat) : Int) := by unfold wrap64; omega

theorem l1_run (l : List Int) (N : Nat) (hN : N ≤ 4000000) (hn : l.length ≤ N) : ∀ (d k : Nat) (x : List Int) (i : Nat), x.length = N → i + d = N → l.length ≤ i → d < k →
    (∀ j, j < l.length → x.getD j 0 = l.getD j 0) → (∀ j, l.length ≤ j → j < i → x.getD j 0 = spareV) → laws_toIntS.l1 k l x (i : Int) = some (l ++ List.replicate (N - l.length) spareV)
  | d, 0, _, _, _, _, _, h, _, _ => absurd h (Nat.not_lt_zero _)
  | 0, k + 1, x, i, hx, hi, hli, _, h1, h2 => by
    simp only [laws_toIntS.l1]
    rw [if_neg (by omega), if_pos (by omega), if_pos (by omega)]
    congr 1
    apply ext_getD
    · simp; omega
    · intro j hj
      by_cases hjl : j < l.length
      · rw [h1 j hjl]; simp [List.getD_eq_getElem?_getD, List.getElem?_append_left hjl]
      · rw [h2 j (by omega) (by omega)]; simp only [List.getD_eq_getElem?_getD, List.getElem?_append_right (Nat.le_of_not_lt hjl)]; rw [List.getElem?_replicate]; rw [if_pos (by omega)]; rfl
  | d + 1, k + 1, x, i, hx, hi, hli, hk, h1, h2 => by
    simp only [laws_toIntS.l1]
    rw [if_pos (by omega), if_pos (by omega), w64_succ i N (by omega) hN]
    refine l1_run l N hN hn d k _ (i + 1) (by simp [hx]) (by omega) (by omega) (by omega) (fun j hj => ?_) (fun j hj1 hj2 => ?_)
    · rw [show ((i : Int)).toNat = i from by omega, getD_set_ne _ _ _ _ (by omega)]; exact h1 j hj
    · rw [show ((i : Int)).toNat = i from by omega]
      by_cases e : j = i
      · subst e; rw [getD_set_self _ _ _ (by omega)]; rfl
      · rw [getD_set_ne _ _ _ _ (by omega)]; exact h2 j hj1 (by omega)
theorem l0_run (l : List Int) (N : Nat) (hN : N ≤ 4000000) (hn : l.length ≤ N) : ∀ (d k : Nat) (x : List Int) (i : Nat), x.length = N → i + d = l.length → d + N + 1 < k →
    (∀ j, j < i → x.getD j 0 = l.getD j 0) → laws_toIntS.l0 k l x (i : Int) = some (l ++ List.replicate (N - l.length) spareV)
  | d, 0, _, _, _, _, h, _ => absurd h (Nat.not_lt_zero _)
  | 0, k + 1, x, i, hx, hi, hk, h1 => by
    simp only [laws_toIntS.l0]
    rw [if_neg (by omega)]
    exact l1_run l N hN hn (N - l.length) k x l.length hx (by omega) (Nat.le_refl _) (by omega) (fun j hj => h1 j (by omega)) (fun j hj1 hj2 => by omega)
  | d + 1, k + 1, x, i, hx, hi, hk, h1 => by
    simp only [laws_toIntS.l0]
    rw [if_pos (by omega), if_pos (by omega), if_pos (by omega), w64_succ i N (by omega) hN]
    refine l0_run l N hN hn d k _ (i + 1) (by simp [hx]) (by omega) (by omega) (fun j hj => ?_)
    rw [show ((i : Int)).toNat = i from by omega]
    by_cases e : j = i
    · subst e; rw [getD_set_self _ _ _ (by omega)]; rfl
    · rw [getD_set_ne _ _ _ _ (by omega)]; exact h1 j (by omega)
theorem j0_run (l : List Int) (K : Nat) (hl : l.length ≤ 1000000) (hK : l.length + (l.length + roomN l.length) + 1 < K) : laws_toIntS.j0 (K + 1) l false = some (l ++ List.replicate (roomN l.length) spareV) := by
  have hr := roomN_le l.length
  have e : wrap64 ((l.length : Int) + (roomN l.length : Int)) = ((l.length + roomN l.length : Nat) : Int) := by unfold wrap64; omega
  have h1 : (((l.length + roomN l.length : Nat) : Int)).toNat ≤ 35184372088832 := by omega
  have h2 := l0_run l (l.length + roomN l.length) (by omega) (by omega) l.length K (List.replicate (((l.length + roomN l.length : Nat) : Int)).toNat 0) 0 (by rw [List.length_replicate]; omega) (by omega) (by omega) (fun j hj => by omega)
  rw [show l.length + roomN l.length - l.length = roomN l.length from by omega] at h2
  rw [laws_toIntS.j0.eq_2, if_neg (by decide), room_some, Option.bind_some, e, if_pos (by omega), if_pos h1]
  exact h2
theorem toIntS_run (l : List Int) (bare : Bool) (hl : l.length ≤ 1000000) : ∃ k, laws_toIntS.f k l bare = some (fullOf bare l) := by
  obtain ⟨K, hK⟩ : ∃ K, l.length + (l.length + roomN l.length) + 1 < K := ⟨_, Nat.lt_succ_self _⟩
  have h := j0_run l K hl hK
  refine ⟨K + 1, ?_⟩
  unfold laws_toIntS.f
  cases bare with
  | false => rw [if_neg (by decide), fullOf_false]; exact h
  | true =>
    rw [if_pos rfl]
    by_cases hle : l = []
    · subst hle
      simp [laws_toIntS.j0, fullOf]
    · have h0 : ((l.length : Int) == 0) = false := by
        have : l.length ≠ 0 := fun h => hle (List.length_eq_zero_iff.mp h)
        simp; omega
      rw [h0, h]
      simp [fullOf, hle]

/-- toIntS, for every list within the statements' bound. -/
theorem toIntS_r (l : List Int) (bare : Bool) (A0 : Option Addr) (c0 : Nat) (w : World) (hl : l.length ≤ 1000000) (hr : Kd.C (Kd.int .i64) w A0 l.length l) (hc : l.length ≤ c0) :
    Calls Try.prog 42 #[.slice A0 l.length c0, .bool bare] w fun e w' => ∃ (A : Option Addr) (c : Nat), e = .returned (.slice A l.length c) ∧
      Kd.R (Kd.int .i64) 3 w' w.heap.size (fun _ => True) (.slice A (fullOf bare l).length c) (fullOf bare l) ∧ Below w.heap.size w w' := by
  obtain ⟨k, hk⟩ := toIntS_run l bare hl
  refine (laws_toIntS.calls k A0 c0 l bare (fullOf bare l) w hr hc hk).mono ?_
  rintro e w' ⟨v, rfl, h, hb⟩
  rcases h with ⟨rfl, h0⟩ | ⟨A, c, rfl, h⟩
  · have hl0 : l.length = 0 := by have := fullOf_len bare l; rw [h0] at this; simpa using this
    refine ⟨none, 0, by rw [hl0], ?_, hb⟩
    rw [h0]
    exact Kd.R_nil _ _ _ _ _
  · exact ⟨A, c, rfl, h, hb⟩

attribute [local go_sem] max2_int min2_int max_two min_two max_three min_three max_four min_four

/-- The slice v lies in a block of its own that holds f (at its begin). -/
def RO (W : World) (v : Value) (f : List Int) : Prop := Kd.R (Kd.int .i64) 3 W 0 (fun k => v.ownBlock = some k) v f
theorem RO_of {W : World} {base : Nat} {ok : Nat → Prop} {v : Value} {f : List Int} (h : Kd.R (Kd.int .i64) 3 W base ok v f) : RO W v f :=
  Kd.R_of_own (own_weaken (Kd.own_of_R (enc := Value.int .i64) (h1 := fun _ => rfl) h) (Nat.zero_le _)) (fun k hk => hk)
theorem RO_below {W W' : World} {v : Value} {f : List Int} (h : RO W v f) (hb : Below W.heap.size W W') : RO W' v f := Kd.R_below h hb
theorem RO_kept {W W' : World} {S : Nat → Prop} {v : Value} {f : List Int} (h : RO W v f) (hk : Kept W W' S) (hd : ∀ k, v.ownBlock = some k → ¬ S k) : RO W' v f := Kd.R_kept h hk hd
theorem RO_lt {W : World} {v : Value} {f : List Int} (h : RO W v f) : ∀ k, v.ownBlock = some k → k < W.heap.size := Kd.R_lt h
theorem RO_drew {W : World} {v : Value} {f : List Int} (h : RO W v f) : RO W.drew v f := Kd.R_drew h
/-- what is read of it by a slice of its first n cells -/
theorem RO_C {W : World} {A : Option Addr} {c : Nat} {f : List Int} (h : RO W (.slice A f.length c) f) : Kd.C (Kd.int .i64) W A f.length f := (Kd.R_reads' h).2.2
theorem RO_Ct {W : World} {A : Option Addr} {c : Nat} {f l : List Int} (h : RO W (.slice A f.length c) f) (hl : f.take l.length = l) (hn : l.length ≤ f.length) : Kd.C (Kd.int .i64) W A l.length l := by
  have h2 := (Kd.R_reads' (Kd.R_take (m := l.length) h hn)).2.2
  rw [hl] at h2
  exact h2
theorem RO_le {W : World} {A : Option Addr} {c n : Nat} {f : List Int} (h : RO W (.slice A n c) f) : n ≤ c := (Kd.R_reads' h).2.1
theorem RO_base {W : World} {b : Nat} {v : Value} {f : List Int} (h : RO W v f) (hb : ∀ k, v.ownBlock = some k → b ≤ k) : Kd.R (Kd.int .i64) 3 W b (fun k => v.ownBlock = some k) v f := by
  refine Kd.R_of_own (h1 := fun _ => rfl) ?_ (fun k hk => hk)
  have h2 := Kd.own_of_R (enc := Value.int .i64) (h1 := fun _ => rfl) h
  rcases h2 with ⟨h3, h4 | ⟨g, cap, cur, rfl, hg, hh, r⟩⟩
  · exact ⟨h3, .inl h4⟩
  · exact ⟨h3, .inr ⟨g, cap, cur, rfl, hb g rfl, hh, r⟩⟩
/-- two cells stored into a block of another type -/
theorem RO_st {W : World} {v : Value} {f : List Int} {g i t : Nat} {u : Value} {cs : Array Value} (h : RO W v f) (hg : W.heap[g]? = some (.cells cs t (0, 0))) (ht : 3 ≠ t) : RO (W.setCell ⟨g, i, none⟩ u) v f :=
  Kd.R_mono (Kd.R_far (p := ⟨g, i, none⟩) (Kd.R_types h hg (fun q hq => by
    have e : q = 3 := by simpa [Kd.int, Kd.scalar] using hq
    rw [e]
    exact ht)) (fun _ hk => hk.2) u) (fun _ hk => hk.1)
theorem RO_st2 {W : World} {v : Value} {f : List Int} {g t : Nat} {a b x y : Value} (h : RO W v f) (hg : W.heap[g]? = some (.cells #[x, y] t (0, 0))) (ht : 3 ≠ t) : RO ((W.setCell ⟨g, 0, none⟩ a).setCell ⟨g, 1, none⟩ b) v f :=
  RO_st (RO_st h hg ht) (blk_put (cs' := #[a, y]) hg 0 a rfl) ht
theorem blk_st2 {W : World} {g t : Nat} {a b x y : Value} (hg : W.heap[g]? = some (.cells #[x, y] t (0, 0))) : ((W.setCell ⟨g, 0, none⟩ a).setCell ⟨g, 1, none⟩ b).heap[g]? = some (.cells #[a, b] t (0, 0)) :=
  blk_put (cs := #[a, y]) (blk_put hg 0 a rfl) 1 b rfl
theorem blk_st2f {W : World} {g g' t : Nat} {a b : Value} {cs : Array Value} (hg : W.heap[g']? = some (.cells cs t (0, 0))) (hne : g' ≠ g) : ((W.setCell ⟨g, 0, none⟩ a).setCell ⟨g, 1, none⟩ b).heap[g']? = some (.cells cs t (0, 0)) :=
  blk_far (blk_far hg hne _) hne _
theorem below_st2 {w W : World} {g : Nat} {a b : Value} (h : Below w.heap.size w W) (hg : w.heap.size ≤ g) : Below w.heap.size w ((W.setCell ⟨g, 0, none⟩ a).setCell ⟨g, 1, none⟩ b) := below_set (below_set h hg) hg
theorem RO_new {W : World} {v u : Value} {f : List Int} (h : RO W v f) (hb : ∀ k, u.ownBlock = some k → W.heap.size ≤ k) : ∀ k, v.ownBlock = some k → ¬ u.ownBlock = some k :=
  fun k h1 h2 => by have := RO_lt h k h1; have := hb k h2; omega
theorem own_lower {W w : World} {v : Value} (hb : ∀ k, v.ownBlock = some k → W.heap.size ≤ k) (h : Below w.heap.size w W) : ∀ k, v.ownBlock = some k → w.heap.size ≤ k :=
  fun k hk => Nat.le_trans h.size (hb k hk)

theorem eq_run (l : List Int) : ∀ (d k i : Nat), i + d = l.length → l.length ≤ 4000000 → d < k → laws_eqIntS.l0 k l l (i : Int) = some true
  | d, 0, _, _, _, h => absurd h (Nat.not_lt_zero _)
  | 0, k + 1, i, hi, hl, _ => by
    rw [laws_eqIntS.l0.eq_2, if_neg (by omega)]
  | d + 1, k + 1, i, hi, hl, hk => by
    rw [laws_eqIntS.l0.eq_2, if_pos (by omega), if_pos (by omega), if_pos (by omega), if_pos rfl, w64_succ i l.length (by omega) hl]
    exact eq_run l d k (i + 1) (by omega) hl (by omega)
theorem eq_self (l : List Int) (hl : l.length ≤ 4000000) : laws_eqIntS.f (l.length + 1) l l = some true := by
  unfold laws_eqIntS.f
  rw [if_pos rfl]
  exact eq_run l l.length (l.length + 1) 0 (by omega) hl (by omega)
theorem eqIntS_c (l : List Int) (A0 : Option Addr) (c0 : Nat) (A1 : Option Addr) (c1 : Nat) (w : World) (hl : l.length ≤ 4000000) (hr0 : Kd.C (Kd.int .i64) w A0 l.length l) (hc0 : l.length ≤ c0) (hr1 : Kd.C (Kd.int .i64) w A1 l.length l) (hc1 : l.length ≤ c1) :
    Calls Try.prog 32 #[.slice A0 l.length c0, .slice A1 l.length c1] w fun e w' => e = .returned (.bool true) ∧ Drawn0 w w' :=
  laws_eqIntS.calls _ A0 c0 l A1 c1 l true w hr0 hc0 hr1 hc1 (eq_self l hl)

/-- 'x[:j]' up to the capacity -/
theorem cut_cap {P : Program} (t e : TypeId) (kh : IntKind) {i : TypeInfo} (ht : P.underlying t = some (.slice e)) (hi : P.info? e = some i) (A : Option Addr) (n c : Nat) (j : Int) (h0 : 0 ≤ j) (hm : j ≤ c) :
    ∀ W : World, (Instr.slice t (.slice A n c) none (some (.int kh j)) none).run P W = .ok (.slice A j.toNat c) W := by
  intro W
  have hel : P.elem t = e := by simp [Program.elem, ht]
  have hu : P.underlying t = some (.slice (P.elem t)) := by rw [hel]; exact ht
  have ha : (A.map fun x => x.add 0) = A := by cases A <;> simp [Addr.add]
  rw [run_slice_h W t A n c hu kh j h0 (by omega), hel]
  simp [sizeOf, typeInfo, hi, sliced, Result.andThen, ha]

set_option maxHeartbeats 1000000 in
/-- intactIntS over two arrays that hold the same: true. -/
theorem intactIntS_c (n : Nat) (f : List Int) (A0 : Option Addr) (c0 : Nat) (A1 : Option Addr) (c1 : Nat) (w : World) (hn : n ≤ 1000000) (hf : f.length = n + roomN n) (h0 : RO w (.slice A0 f.length c0) f) (h1 : RO w (.slice A1 f.length c1) f) :
    Calls Try.prog 45 #[.slice A0 n c0, .slice A1 n c1] w fun e w' => e = .returned (.bool true) ∧ Drawn0 w w' := by
  have hroom := roomN_le n
  have hcon : ∀ p q, Calls Try.prog 32 #[.slice A0 f.length c0, .slice A1 f.length c1] (w.drewN (p + q)) fun e w' => e = .returned (.bool true) ∧ ∃ m, w' = w.drewN (p + m) := fun p q =>
    (eqIntS_c f A0 c0 A1 c1 (w.drewN (p + q)) (by omega) (Kd.C_drewN (RO_C h0) _) (RO_le h0) (Kd.C_drewN (RO_C h1) _) (RO_le h1)).mono fun e w' ⟨h, ⟨m, hm⟩⟩ => ⟨h, q + m, by rw [hm, World.drewN_drewN, Nat.add_assoc]⟩
  have H0 := Aside0.mk h0
  have H1 := Aside0.mk h1
  have hr := room_some n
  have hcap0 := RO_le h0
  have hcap1 := RO_le h1
  clear h0 h1
  obtain ⟨N, hN⟩ : ∃ N, N = f.length := ⟨_, rfl⟩
  rw [← hN] at hcon hcap0 hcap1 hf
  have hw : IntKind.i64.wrap ((n : Int) + (roomN n : Int)) = (N : Int) := by rw [i64_w]; unfold wrap64; omega
  obtain ⟨i0, hi, _, hsz, _⟩ := info_parts info3
  have hcut0 := cut_cap (P := Try.prog) 22 3 .i64 Try.underlying22 hi A0 n c0 (N : Int) (by omega) (by omega)
  have hcut1 := cut_cap (P := Try.prog) 22 3 .i64 Try.underlying22 hi A1 n c1 (N : Int) (by omega) (by omega)
  rw [Int.toNat_natCast] at hcut0 hcut1
  have hroomc := laws_roomBehind.calls (n : Int) (roomN n : Int) w hr
  clear H0 H1 hr hi hsz hN hf hroom hcap0 hcap1
  go_enter Try.func45, Try.ntmps45
  go_wp2_with (go_at_call 76; refine hroomc.mono ?_; rintro e w' ⟨rfl, ⟨nq, rfl⟩⟩; clear hroomc)
  go_quiet ((go_at_call 32; exact hcon _ _))
  go_wp2
  go_ret
  exact ⟨rfl, by repeat (first | exact Drawn0.refl _ | apply Drawn0.step)⟩

def marks (a : Int) (n : Nat) : List Int := (List.range n).map fun (i : Nat) => a + (i : Int)
theorem marks_len (a : Int) (n : Nat) : (marks a n).length = n := by simp [marks]
theorem marks_at (a : Int) (n j : Nat) (h : j < n) : (marks a n).getD j 0 = a + (j : Int) := by
  simp [marks, List.getD_eq_getElem?_getD, List.getElem?_range h]
theorem w64_add (a : Int) (i : Nat) (ha0 : 0 ≤ a) (ha : a ≤ 100000000) (hi : i ≤ 4000000) : wrap64 (a + (i : Int) + 1) = a + ((i + 1 : Nat) : Int) := by unfold wrap64; omega
theorem mark_run (a : Int) (n : Nat) (ha0 : 0 ≤ a) (ha : a ≤ 100000000) (hn : n ≤ 4000000) : ∀ (d k : Nat) (x : List Int) (i : Nat), x.length = n → i + d = n → d < k → (∀ j, j < i → x.getD j 0 = a + (j : Int)) →
    laws_markIntS.l0 k x (a + (i : Int)) (i : Int) = some (a + (n : Int), marks a n)
  | d, 0, _, _, _, _, h, _ => absurd h (Nat.not_lt_zero _)
  | 0, k + 1, x, i, hx, hi, _, hj => by
    obtain rfl : i = n := by omega
    rw [laws_markIntS.l0.eq_2, if_neg (by omega)]
    congr 2
    refine ext_getD _ _ (by rw [marks_len, hx]) (fun j h => ?_)
    rw [hj j (by omega), marks_at _ _ _ (by omega)]
  | d + 1, k + 1, x, i, hx, hi, hk, hj => by
    rw [laws_markIntS.l0.eq_2, if_pos (by omega), if_pos (by omega), w64_add a i ha0 ha (by omega), w64_succ i n (by omega) hn]
    refine mark_run a n ha0 ha hn d k _ (i + 1) (by rw [List.length_set, hx]) (by omega) (by omega) (fun j h => ?_)
    rw [show ((i : Int)).toNat = i from by omega]
    by_cases e : j = i
    · subst e; exact getD_set_self _ _ _ (by omega)
    · rw [getD_set_ne _ _ _ _ (by omega)]; exact hj j (by omega)
theorem mark_all (a : Int) (x : List Int) (ha0 : 0 ≤ a) (ha : a ≤ 100000000) (hn : x.length ≤ 4000000) : laws_markIntS.f (x.length + 1) x a = some (a + (x.length : Int), marks a x.length) := by
  unfold laws_markIntS.f
  have := mark_run a x.length ha0 ha hn x.length (x.length + 1) x 0 rfl (by omega) (by omega) (fun j h => absurd h (Nat.not_lt_zero _))
  rw [show a + ((0 : Nat) : Int) = a from by omega] at this
  exact this
theorem held_run (a : Int) (n : Nat) (ha0 : 0 ≤ a) (ha : a ≤ 100000000) (hn : n ≤ 4000000) : ∀ (d k i : Nat), i + d = n → d < k → laws_heldIntS.l0 k (marks a n) (a + (i : Int)) (i : Int) = some (a + (n : Int))
  | d, 0, _, _, h => absurd h (Nat.not_lt_zero _)
  | 0, k + 1, i, hi, _ => by
    obtain rfl : i = n := by omega
    rw [laws_heldIntS.l0.eq_2, if_neg (by rw [marks_len]; omega)]
  | d + 1, k + 1, i, hi, hk => by
    rw [laws_heldIntS.l0.eq_2, if_pos (by rw [marks_len]; omega), if_pos (by omega), if_pos (by rw [rd_nat, marks_at _ _ _ (by omega)]), w64_add a i ha0 ha (by omega), w64_succ i n (by omega) hn]
    exact held_run a n ha0 ha hn d k (i + 1) (by omega) (by omega)
theorem held_all (a : Int) (n : Nat) (ha0 : 0 ≤ a) (ha : a ≤ 100000000) (hn : n ≤ 4000000) : laws_heldIntS.f (n + 1) (marks a n) a = some (a + (n : Int)) := by
  unfold laws_heldIntS.f
  have := held_run a n ha0 ha hn n (n + 1) 0 (by omega) (by omega)
  rw [show a + ((0 : Nat) : Int) = a from by omega] at this
  exact this

/-- markIntS on the first n cells of an array of the call's own. -/
theorem markIntS_c (a : Int) (n : Nat) (f : List Int) (A : Option Addr) (c : Nat) (w0 w : World) (ha0 : 0 ≤ a) (ha : a ≤ 100000000) (hn : n ≤ 4000000) (hf : n ≤ f.length) (hB : Below w0.heap.size w0 w)
    (hb : ∀ k, (Value.slice A f.length c).ownBlock = some k → w0.heap.size ≤ k) (h : RO w (.slice A f.length c) f) :
    Calls Try.prog 34 #[.slice A n c, .int .i64 a] w fun e w' => e = .returned (.int .i64 (a + (n : Int))) ∧ RO w' (.slice A (marks a n).length c) (marks a n) ∧ Below w0.heap.size w0 w' ∧
      Kept w w' (fun k => (Value.slice A n c).ownBlock = some k) := by
  have hR := Kd.R_take (m := n) (RO_base h hb) hf
  have ob : ∀ m, (Value.slice A m c).ownBlock = (Value.slice A n c).ownBlock := fun m => by cases A <;> rfl
  have hlen : (f.take n).length = n := by rw [List.length_take]; omega
  have hm := mark_all a (f.take n) ha0 ha (by omega)
  refine (laws_markIntS.calls _ (fun k => (Value.slice A n c).ownBlock = some k) (.slice A n c) (f.take n) a _ _ w0 w hB (Kd.R_mono hR (fun k hk => by rw [ob] at hk; exact hk)) hm).mono ?_
  rintro e w' ⟨rfl, hr, hb', hk⟩
  rw [hlen] at hr
  refine ⟨by rw [hlen], ?_, hb', hk⟩
  rw [marks_len]
  exact RO_of hr
theorem heldIntS_c (a : Int) (n : Nat) (A : Option Addr) (c : Nat) (w : World) (ha0 : 0 ≤ a) (ha : a ≤ 100000000) (hn : n ≤ 4000000) (h : RO w (.slice A (marks a n).length c) (marks a n)) :
    Calls Try.prog 35 #[.slice A n c, .int .i64 a] w fun e w' => e = .returned (.int .i64 (a + (n : Int))) ∧ Drawn0 w w' := by
  have := laws_heldIntS.calls (n + 1) A c (marks a n) a (a + (n : Int)) w (RO_C h) (RO_le h) (held_all a n ha0 ha hn)
  rw [marks_len] at this
  exact this

theorem own_same {A : Option Addr} {n c m d k : Nat} (h : (Value.slice A n c).ownBlock = some k) : (Value.slice A m d).ownBlock = some k := by cases A <;> exact h
theorem dj_sym {v u : Value} (h : ∀ k, v.ownBlock = some k → ¬ u.ownBlock = some k) : ∀ k, u.ownBlock = some k → ¬ v.ownBlock = some k := fun k h1 h2 => h k h2 h1
theorem RO_ne {W : World} {v : Value} {f : List Int} {g t : Nat} {cs : Array Value} (h : RO W v f) (hg : W.heap[g]? = some (.cells cs t (0, 0))) (ht : 3 ≠ t) (hv : v.ownBlock = some g) : False :=
  ((Kd.R_types h hg (fun q hq => by
    have e : q = 3 := by simpa [Kd.int, Kd.scalar] using hq
    rw [e]
    exact ht)).1 g hv).2 rfl
/-- toIntS, as the walks of the statements take it. -/
theorem toIntS_c (A0 : Option Addr) (c0 : Nat) (l : List Int) (b : Bool) (w : World) (hl : l.length ≤ 1000000) (hr : Kd.C (Kd.int .i64) w A0 l.length l) (hc : l.length ≤ c0) :
    Calls Try.prog 42 #[.slice A0 l.length c0, .bool b] w fun e w' => ∃ (A : Option Addr) (c : Nat), e = .returned (.slice A l.length c) ∧ RO w' (.slice A (fullOf b l).length c) (fullOf b l) ∧
      (∀ k, (Value.slice A (fullOf b l).length c).ownBlock = some k → w.heap.size ≤ k) ∧ Below w.heap.size w w' :=
  (toIntS_r l b A0 c0 w hl hr hc).mono fun e w' ⟨A, c, he, h, hb⟩ => ⟨A, c, he, RO_of h, Kd.R_base h, hb⟩
theorem fullOf_false_len (l : List Int) : (fullOf false l).length = l.length + roomN l.length := by rw [fullOf_false]; simp
theorem sz_ok (l : List Int) (left : Int) (h0 : (l.length : Int) ≤ left) (h1 : left ≤ 1000000) : laws_szIntS.f l left = some (left - (l.length : Int)) := by
  unfold laws_szIntS.f
  have e : wrap64 (left - (l.length : Int)) = left - (l.length : Int) := by unfold wrap64; omega
  rw [e, if_neg (by omega)]
theorem sz_big (l : List Int) (left : Int) (h0 : left < (l.length : Int)) (h1 : left ≤ 1000000) (h2 : -100000000000000000 ≤ left) (h3 : l.length ≤ 1000000000000000) : laws_szIntS.f l left = some (-1) := by
  unfold laws_szIntS.f
  have e : wrap64 (left - (l.length : Int)) = left - (l.length : Int) := by unfold wrap64; omega
  rw [e, if_pos (by omega)]
theorem szG_ok (n : Int) (l : List Int) (left : Int) (h0 : (l.length : Int) ≤ left) (h1 : left ≤ 1000000) : laws_szGraph.f n l left = some (left - (l.length : Int)) := by
  unfold laws_szGraph.f
  rw [sz_ok l left h0 h1, Option.bind_some, if_neg (by omega)]
theorem szG_big (n : Int) (l : List Int) (left : Int) (h0 : left < (l.length : Int)) (h1 : left ≤ 1000000) (h2 : -100000000000000000 ≤ left) (h3 : l.length ≤ 1000000000000000) : laws_szGraph.f n l left = some (-1) := by
  unfold laws_szGraph.f
  rw [sz_big l left h0 h1 h2 h3, Option.bind_some, if_pos (by omega)]
end Go.Proofs.Ytilanbgciofkjaa.Wr

/- Rows of the call's own, told each by itself; and the contracts of the statements' small helpers. -/
import Derived.Test.YtjpaaihohkiomaaWa
namespace Go.Proofs.Ytjpaaihohkiomaa.Wr
open Go.RowKit Go.Proofs.YtjpaaihohkiomaaW.PrintWords Go.Proofs.YtjpaaihohkiomaaW.PrintLast Go.Proofs.YtjpaaihohkiomaaW.PrintMore Go.Proofs.Ytjpaaihohkiomaa.PH
attribute [local go_sem] max2_int min2_int max_two min_two max_three min_three max_four min_four
set_option linter.unusedVariables false
set_option linter.unusedSimpArgs false

/-- The slice v lies in a block of its own that holds f (at its begin). -/
def RO (W : World) (v : Value) (f : List Int) : Prop := Kd.R (Kd.int .i64) 3 W 0 (fun k => v.ownBlock = some k) v f
theorem RO_of {W : World} {base : Nat} {ok : Nat → Prop} {v : Value} {f : List Int} (h : Kd.R (Kd.int .i64) 3 W base ok v f) : RO W v f :=
  Kd.R_of_own (own_weaken (Kd.own_of_R (enc := Value.int .i64) (h1 := fun _ => rfl) h) (Nat.zero_le _)) (fun k hk => hk)
theorem RO_below {W W' : World} {v : Value} {f : List Int} (h : RO W v f) (hb : Below W.heap.size W W') : RO W' v f := Kd.R_below h hb
theorem RO_kept {W W' : World} {S : Nat → Prop} {v : Value} {f : List Int} (h : RO W v f) (hk : Kept W W' S) (hd : ∀ k, v.ownBlock = some k → ¬ S k) : RO W' v f := Kd.R_kept h hk hd
theorem RO_lt {W : World} {v : Value} {f : List Int} (h : RO W v f) : ∀ k, v.ownBlock = some k → k < W.heap.size := Kd.R_lt h
theorem RO_drew {W : World} {v : Value} {f : List Int} (h : RO W v f) : RO W.drew v f := Kd.R_drew h
/-- what is read of it by a slice of its first n cells -/
theorem RO_C {W : World} {A : Option Addr} {c : Nat} {f : List Int} (h : RO W (.slice A f.length c) f) : Kd.C (Kd.int .i64) W A f.length f := (Kd.R_reads' h).2.2
theorem RO_Ct {W : World} {A : Option Addr} {c : Nat} {f l : List Int} (h : RO W (.slice A f.length c) f) (hl : f.take l.length = l) (hn : l.length ≤ f.length) : Kd.C (Kd.int .i64) W A l.length l := by
  have h2 := (Kd.R_reads' (Kd.R_take (m := l.length) h hn)).2.2
  rw [hl] at h2
  exact h2
theorem RO_le {W : World} {A : Option Addr} {c n : Nat} {f : List Int} (h : RO W (.slice A n c) f) : n ≤ c := (Kd.R_reads' h).2.1
theorem RO_base {W : World} {b : Nat} {v : Value} {f : List Int} (h : RO W v f) (hb : ∀ k, v.ownBlock = some k → b ≤ k) : Kd.R (Kd.int .i64) 3 W b (fun k => v.ownBlock = some k) v f := by
  refine Kd.R_of_own (h1 := fun _ => rfl) ?_ (fun k hk => hk)
  have h2 := Kd.own_of_R (enc := Value.int .i64) (h1 := fun _ => rfl) h
  rcases h2 with ⟨h3, h4 | ⟨g, cap, cur, rfl, hg, hh, r⟩⟩
  · exact ⟨h3, .inl h4⟩
  · exact ⟨h3, .inr ⟨g, cap, cur, rfl, hb g rfl, hh, r⟩⟩
/-- two cells stored into a block of another type -/
theorem RO_st {W : World} {v : Value} {f : List Int} {g i t : Nat} {u : Value} {cs : Array Value} (h : RO W v f) (hg : W.heap[g]? = some (.cells cs t (0, 0))) (ht : 3 ≠ t) : RO (W.setCell ⟨g, i, none⟩ u) v f :=
  Kd.R_mono (Kd.R_far (p := ⟨g, i, none⟩) (Kd.R_types h hg (fun q hq => by
    have e : q = 3 := by simpa [Kd.int, Kd.scalar] using hq
    rw [e]
    exact ht)) (fun _ hk => hk.2) u) (fun _ hk => hk.1)
theorem RO_st2 {W : World} {v : Value} {f : List Int} {g t : Nat} {a b x y : Value} (h : RO W v f) (hg : W.heap[g]? = some (.cells #[x, y] t (0, 0))) (ht : 3 ≠ t) : RO ((W.setCell ⟨g, 0, none⟩ a).setCell ⟨g, 1, none⟩ b) v f :=
  RO_st (RO_st h hg ht) (blk_put (cs' := #[a, y]) hg 0 a rfl) ht
theorem blk_st2 {W : World} {g t : Nat} {a b x y : Value} (hg : W.heap[g]? = some (.cells #[x, y] t (0, 0))) : ((W.setCell ⟨g, 0, none⟩ a).setCell ⟨g, 1, none⟩ b).heap[g]? = some (.cells #[a, b] t (0, 0)) :=
  blk_put (cs := #[a, y]) (blk_put hg 0 a rfl) 1 b rfl
theorem blk_st2f {W : World} {g g' t : Nat} {a b : Value} {cs : Array Value} (hg : W.heap[g']? = some (.cells cs t (0, 0))) (hne : g' ≠ g) : ((W.setCell ⟨g, 0, none⟩ a).setCell ⟨g, 1, none⟩ b).heap[g']? = some (.cells cs t (0, 0)) :=
  blk_far (blk_far hg hne _) hne _
theorem below_st2 {w W : World} {g : Nat} {a b : Value} (h : Below w.heap.size w W) (hg : w.heap.size ≤ g) : Below w.heap.size w ((W.setCell ⟨g, 0, none⟩ a).setCell ⟨g, 1, none⟩ b) := below_set (below_set h hg) hg
theorem RO_new {W : World} {v u : Value} {f : List Int} (h : RO W v f) (hb : ∀ k, u.ownBlock = some k → W.heap.size ≤ k) : ∀ k, v.ownBlock = some k → ¬ u.ownBlock = some k :=
  fun k h1 h2 => by have := RO_lt h k h1; have := hb k h2; omega
theorem own_lower {W w : World} {v : Value} (hb : ∀ k, v.ownBlock = some k → W.heap.size ≤ k) (h : Below w.heap.size w W) : ∀ k, v.ownBlock = some k → w.heap.size ≤ k :=
  fun k hk => Nat.le_trans h.size (hb k hk)

theorem eq_run (l : List Int) : ∀ (d k i : Nat), i + d = l.length → l.length ≤ 4000000 → d < k → laws_eqIntS.l0 k l l (i : Int) = some true
  | d, 0, _, _, _, h => absurd h (Nat.not_lt_zero _)
  | 0, k + 1, i, hi, hl, _ => by
    rw [laws_eqIntS.l0.eq_2, if_neg (by omega)]
  | d + 1, k + 1, i, hi, hl, hk => by
    rw [laws_eqIntS.l0.eq_2, if_pos (by omega), if_pos (by omega), if_pos (by omega), if_pos rfl, w64_succ i l.length (by omega) hl]
    exact eq_run l d k (i + 1) (by omega) hl (by omega)
theorem eq_self (l : List Int) (hl : l.length ≤ 4000000) : laws_eqIntS.f (l.length + 1) l l = some true := by
  unfold laws_eqIntS.f
  rw [if_pos rfl]
  exact eq_run l l.length (l.length + 1) 0 (by omega) hl (by omega)
theorem eqIntS_c (l : List Int) (A0 : Option Addr) (c0 : Nat) (A1 : Option Addr) (c1 : Nat) (w : World) (hl : l.length ≤ 4000000) (hr0 : Kd.C (Kd.int .i64) w A0 l.length l) (hc0 : l.length ≤ c0) (hr1 : Kd.C (Kd.int .i64) w A1 l.length l) (hc1 : l.length ≤ c1) :
    Calls Try.prog 47 #[.slice A0 l.length c0, .slice A1 l.length c1] w fun e w' => e = .returned (.bool true) ∧ Drawn0 w w' :=
  laws_eqIntS.calls _ A0 c0 l A1 c1 l true w hr0 hc0 hr1 hc1 (eq_self l hl)

/-- 'x[:j]' up to the capacity -/
theorem cut_cap {P : Program} (t e : TypeId) (kh : IntKind) {i : TypeInfo} (ht : P.underlying t = some (.slice e)) (hi : P.info? e = some i) (A : Option Addr) (n c : Nat) (j : Int) (h0 : 0 ≤ j) (hm : j ≤ c) :
    ∀ W : World, (Instr.slice t (.slice A n c) none (some (.int kh j)) none).run P W = .ok (.slice A j.toNat c) W := by
  intro W
  have hel : P.elem t = e := by simp [Program.elem, ht]
  have hu : P.underlying t = some (.slice (P.elem t)) := by rw [hel]; exact ht
  have ha : (A.map fun x => x.add 0) = A := by cases A <;> simp [Addr.add]
  rw [run_slice_h W t A n c hu kh j h0 (by omega), hel]
  simp [sizeOf, typeInfo, hi, sliced, Result.andThen, ha]

set_option maxHeartbeats 1000000 in
/-- intactIntS over two arrays that hold the same: true. -/
theorem intactIntS_c (n : Nat) (f : List Int) (A0 : Option Addr) (c0 : Nat) (A1 : Option Addr) (c1 : Nat) (w : World) (hn : n ≤ 1000000) (hf : f.length = n + roomN n) (h0 : RO w (.slice A0 f.length c0) f) (h1 : RO w (.slice A1 f.length c1) f) :
    Calls Try.prog 26 #[.slice A0 n c0, .slice A1 n c1] w fun e w' => e = .returned (.bool true) ∧ Drawn0 w w' := by
  have hroom := roomN_le n
  have hcon : ∀ p q, Calls Try.prog 47 #[.slice A0 f.length c0, .slice A1 f.length c1] (w.drewN (p + q)) fun e w' => e = .returned (.bool true) ∧ ∃ m, w' = w.drewN (p + m) := fun p q =>
    (eqIntS_c f A0 c0 A1 c1 (w.drewN (p + q)) (by omega) (Kd.C_drewN (RO_C h0) _) (RO_le h0) (Kd.C_drewN (RO_C h1) _) (RO_le h1)).mono fun e w' ⟨h, ⟨m, hm⟩⟩ => ⟨h, q + m, by rw [hm, World.drewN_drewN, Nat.add_assoc]⟩
  have H0 := Aside0.mk h0
  have H1 := Aside0.mk h1
  have hr := room_some n
  have hcap0 := RO_le h0
  have hcap1 := RO_le h1
  clear h0 h1
  obtain ⟨N, hN⟩ : ∃ N, N = f.length := ⟨_, rfl⟩
  rw [← hN] at hcon hcap0 hcap1 hf
  have hw : IntKind.i64.wrap ((n : Int) + (roomN n : Int)) = (N : Int) := by rw [i64_w]; unfold wrap64; omega
  obtain ⟨i0, hi, _, hsz, _⟩ := info_parts info3
  have hcut0 := cut_cap (P := Try.prog) 22 3 .i64 Try.underlying22 hi A0 n c0 (N : Int) (by omega) (by omega)
  have hcut1 := cut_cap (P := Try.prog) 22 3 .i64 Try.underlying22 hi A1 n c1 (N : Int) (by omega) (by omega)
  rw [Int.toNat_natCast] at hcut0 hcut1
  have hroomc := laws_roomBehind.calls (n : Int) (roomN n : Int) w hr
  clear H0 H1 hr hi hsz hN hf hroom hcap0 hcap1
  go_enter Try.func26, Try.ntmps26
  go_wp2_with (go_at_call 55; refine hroomc.mono ?_; rintro e w' ⟨rfl, ⟨nq, rfl⟩⟩; clear hroomc)
  go_quiet ((go_at_call 47; exact hcon _ _))
  go_wp2
  go_ret
  exact ⟨rfl, by repeat (first | exact Drawn0.refl _ | apply Drawn0.step)⟩
end Go.Proofs.Ytjpaaihohkiomaa.Wr

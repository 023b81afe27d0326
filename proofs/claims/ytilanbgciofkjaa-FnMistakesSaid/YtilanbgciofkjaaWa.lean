/- The statements' own helpers: what toIntS makes (the list, and behind it the spare cells), as one contract. -/
import Derived.Test.YtilanbgciofkjaaPHx0
import Derived.Test.YtilanbgciofkjaaPHx1
namespace Go.Proofs.Ytilanbgciofkjaa.Wr
open Go.RowKit Go.Proofs.YtilanbgciofkjaaW.PrintWords Go.Proofs.YtilanbgciofkjaaW.PrintLast Go.Proofs.YtilanbgciofkjaaW.PrintMore Go.Proofs.Ytilanbgciofkjaa.PH
set_option linter.unusedVariables false
set_option linter.unusedSimpArgs false

/-- how many spare cells a list of n elements is given -/
def roomN (n : Nat) : Nat := if n % 6 = 5 then 0 else if n % 3 = 0 then 1 else n
theorem roomN_le (n : Nat) : roomN n ≤ n + 1 := by unfold roomN; split; omega; split <;> omega
theorem room_some (n : Nat) : laws_roomBehind.f (n : Int) = some (roomN n : Int) := by
  unfold laws_roomBehind.f roomN
  have h6 : Int.tmod (n : Int) 6 = ((n % 6 : Nat) : Int) := by rw [Int.tmod_eq_emod_of_nonneg (by omega)]; omega
  have h3 : Int.tmod (n : Int) 3 = ((n % 3 : Nat) : Int) := by rw [Int.tmod_eq_emod_of_nonneg (by omega)]; omega
  rw [h6, h3]
  by_cases a : n % 6 = 5
  · rw [if_pos (by omega), if_pos a]; rfl
  · rw [if_neg (by omega), if_neg a]
    by_cases b : n % 3 = 0
    · rw [if_pos (by omega), if_pos b]; rfl
    · rw [if_neg (by omega), if_neg b]
theorem rd_nat (l : List Int) (i : Nat) : rd l (i : Int) = l.getD i 0 := rfl
theorem getD_set_ne (x : List Int) (i j : Nat) (v : Int) (h : i ≠ j) : (x.set i v).getD j 0 = x.getD j 0 := by
  simp [List.getD_eq_getElem?_getD, List.getElem?_set_ne h]
theorem w64_succ (i n : Nat) (h : i ≤ n) (hn : n ≤ 4000000) : wrap64 ((i : Int) + 1) = ((i + 1 : Nat) : Int) := by unfold wrap64; omega

attribute [local go_sem] max2_int min2_int max_two min_two max_three min_three max_four min_four

/-- The slice v lies in a block of its own that holds f (at its begin). -/
def RO (W : World) (v : Value) (f : List Int) : Prop := Kd.R (Kd.int .i64) 3 W 0 (fun k => v.ownBlock = some k) v f
/-- what is read of it by a slice of its first n cells -/
theorem RO_C {W : World} {A : Option Addr} {c : Nat} {f : List Int} (h : RO W (.slice A f.length c) f) : Kd.C (Kd.int .i64) W A f.length f := (Kd.R_reads' h).2.2
theorem RO_le {W : World} {A : Option Addr} {c n : Nat} {f : List Int} (h : RO W (.slice A n c) f) : n ≤ c := (Kd.R_reads' h).2.1
theorem eq_run (l : List Int) : ∀ (d k i : Nat), i + d = l.length → l.length ≤ 4000000 → d < k → laws_eqIntS.l0 k l l (i : Int) = some true
  | d, 0, _, _, _, h => absurd h (Nat.not_lt_zero _)
  | 0, k + 1, i, hi, hl, _ => by
    rw [laws_eqIntS.l0.eq_2, if_neg (by omega)]
  | d + 1, k + 1, i, hi, hl, hk => by
    rw [laws_eqIntS.l0.eq_2, if_pos (by omega), if_pos (by omega), if_pos (by omega), if_pos rfl, w64_succ i l.length (by omega) hl]
    exact eq_run l d k (i + 1) (by omega) hl (by omega)
theorem eq_self (l : List Int) (hl : l.length ≤ 4000000) : laws_eqIntS.f (l.length + 1) l l = some true := by
  unfold laws_eqIntS.f
  rw [if_pos rfl]
  exact eq_run l l.length (l.length + 1) 0 (by omega) hl (by omega)
theorem eqIntS_c (l : List Int) (A0 : Option Addr) (c0 : Nat) (A1 : Option Addr) (c1 : Nat) (w : World) (hl : l.length ≤ 4000000) (hr0 : Kd.C (Kd.int .i64) w A0 l.length l) (hc0 : l.length ≤ c0) (hr1 : Kd.C (Kd.int .i64) w A1 l.length l) (hc1 : l.length ≤ c1) :
    Calls Try.prog 32 #[.slice A0 l.length c0, .slice A1 l.length c1] w fun e w' => e = .returned (.bool true) ∧ Drawn0 w w' :=
  laws_eqIntS.calls _ A0 c0 l A1 c1 l true w hr0 hc0 hr1 hc1 (eq_self l hl)

/-- 'x[:j]' up to the capacity -/
theorem cut_cap {P : Program} (t e : TypeId) (kh : IntKind) {i : TypeInfo} (ht : P.underlying t = some (.slice e)) (hi : P.info? e = some i) (A : Option Addr) (n c : Nat) (j : Int) (h0 : 0 ≤ j) (hm : j ≤ c) :
    ∀ W : World, (Instr.slice t (.slice A n c) none (some (.int kh j)) none).run P W = .ok (.slice A j.toNat c) W := by
  intro W
  have hel : P.elem t = e := by simp [Program.elem, ht]
  have hu : P.underlying t = some (.slice (P.elem t)) := by rw [hel]; exact ht
  have ha : (A.map fun x => x.add 0) = A := by cases A <;> simp [Addr.add]
  rw [run_slice_h W t A n c hu kh j h0 (by omega), hel]
  simp [sizeOf, typeInfo, hi, sliced, Result.andThen, ha]

set_option maxHeartbeats 1000000 in
/-- intactIntS over two arrays that hold the same: true. -/
theorem intactIntS_c (n : Nat) (f : List Int) (A0 : Option Addr) (c0 : Nat) (A1 : Option Addr) (c1 : Nat) (w : World) (hn : n ≤ 1000000) (hf : f.length = n + roomN n) (h0 : RO w (.slice A0 f.length c0) f) (h1 : RO w (.slice A1 f.length c1) f) :
    Calls Try.prog 45 #[.slice A0 n c0, .slice A1 n c1] w fun e w' => e = .returned (.bool true) ∧ Drawn0 w w' := by
  have hroom := roomN_le n
  have hcon : ∀ p q, Calls Try.prog 32 #[.slice A0 f.length c0, .slice A1 f.length c1] (w.drewN (p + q)) fun e w' => e = .returned (.bool true) ∧ ∃ m, w' = w.drewN (p + m) := fun p q =>
    (eqIntS_c f A0 c0 A1 c1 (w.drewN (p + q)) (by omega) (Kd.C_drewN (RO_C h0) _) (RO_le h0) (Kd.C_drewN (RO_C h1) _) (RO_le h1)).mono fun e w' ⟨h, ⟨m, hm⟩⟩ => ⟨h, q + m, by rw [hm, World.drewN_drewN, Nat.add_assoc]⟩
  have H0 := Aside0.mk h0
  have H1 := Aside0.mk h1
  have hr := room_some n
  have hcap0 := RO_le h0
  have hcap1 := RO_le h1
  clear h0 h1
  obtain ⟨N, hN⟩ : ∃ N, N = f.length := ⟨_, rfl⟩
  rw [← hN] at hcon hcap0 hcap1 hf
  have hw : IntKind.i64.wrap ((n : Int) + (roomN n : Int)) = (N : Int) := by rw [i64_w]; unfold wrap64; omega
  obtain ⟨i0, hi, _, hsz, _⟩ := info_parts info3
  have hcut0 := cut_cap (P := Try.prog) 22 3 .i64 Try.underlying22 hi A0 n c0 (N : Int) (by omega) (by omega)
  have hcut1 := cut_cap (P := Try.prog) 22 3 .i64 Try.underlying22 hi A1 n c1 (N : Int) (by omega) (by omega)
  rw [Int.toNat_natCast] at hcut0 hcut1
  have hroomc := laws_roomBehind.calls (n : Int) (roomN n : Int) w hr
  clear H0 H1 hr hi hsz hN hf hroom hcap0 hcap1
  go_enter Try.func45, Try.ntmps45
  go_wp2_with (go_at_call 76; refine hroomc.mono ?_; rintro e w' ⟨rfl, ⟨nq, rfl⟩⟩; clear hroomc)
  go_quiet ((go_at_call 32; exact hcon _ _))
  go_wp2
  go_ret
  exact ⟨rfl, by repeat (first | exact Drawn0.refl _ | apply Drawn0.step)⟩

end Go.Proofs.Ytilanbgciofkjaa.Wr

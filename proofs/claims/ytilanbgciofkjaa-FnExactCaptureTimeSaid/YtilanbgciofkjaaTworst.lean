/- slices.Max, slices.Min; the greatest number of each row of the table: the walks. -/
import Derived.Test.YtilanbgciofkjaaMt
import Derived.Test.YtilanbgciofkjaaMb
namespace Go.Proofs.Ytilanbgciofkjaa.PA
open Go.RowKit Go.Proofs.YtilanbgciofkjaaW.PrintWords Go.Proofs.YtilanbgciofkjaaW.PrintLast Go.Proofs.YtilanbgciofkjaaW.PrintMore Go.Proofs.Ytilanbgciofkjaa.Pure
attribute [local go_sem] max2_int min2_int max_two min_two max_three min_three max_four min_four
set_option linter.unusedVariables false
set_option linter.unusedSimpArgs false
set_option maxHeartbeats 4000000 in
set_option maxRecDepth 100000 in
theorem max_c (A : Option Addr) (c : Nat) (L : List Int) (hL : 0 < L.length) (hL2 : L.length ≤ 1000) (w : World) (hr : Kd.C (Kd.int .i64) w A L.length L) :
    Calls Try.prog 97 #[.slice A L.length c] w fun e w' => e = .returned (.int .i64 (maxV L)) ∧ w' = w := by
  obtain ⟨ad, e1, hc0⟩ := Kd.at_int hr 0 (by decide) (by omega)
  subst e1
  have HR := Aside0.mk hr
  have hc0' : w.cell? ad = some (.int .i64 (L.getD 0 0)) := by
    have e : ad.add 0 = ad := by unfold Addr.add; split <;> simp_all
    rw [show (0 : Int).toNat = 0 from rfl, e] at hc0; exact hc0
  have hnl : decide ((L.length : Int) < 1) = false := by rw [decide_eq_false_iff_not]; omega
  have hlz : (0 : Int) < (L.length : Int) := by omega
  obtain ⟨z, hz⟩ : ∃ z, z = L.getD 0 0 := ⟨_, rfl⟩
  have hc00 : w.cell? (ad.add 0) = some (.int .i64 z) := by rw [hz]; exact hc0
  rw [← hz] at hc0'
  have HZ := Aside0.mk (show z = maxU L 0 from hz)
  clear hz hr hc0
  go_enter Try.func97, Try.ntmps97
  go_wp2
  go_loopg [3, 4] L.length (fun gg s3 s4 wr => ∃ (k : Nat), k + 1 ≤ L.length ∧ L.length - k ≤ gg ∧ s4 = .int .i64 ((k + 1 : Nat) : Int) ∧ s3 = .int .i64 (maxU L k) ∧ wr = w)
  case atStart => exact ⟨0, by omega, by omega, rfl, by rw [HZ.out], rfl⟩
  case round =>
    clear hc00 hc0' hnl hlz
    obtain ⟨k, hk, hgk, rfl, rfl, rfl⟩ := hrel
    by_cases hlt : k + 1 < L.length
    · have hltz : ((k + 1 : Nat) : Int) < (L.length : Int) := by omega
      obtain ⟨ad', e1, hcell0⟩ := Kd.at_int HR.out ((k + 1 : Nat) : Int) (by omega) hltz
      injection e1 with e1
      subst e1
      have hcell : wr.cell? (ad.add (k + 1)) = some (.int .i64 (L.getD (k + 1) 0)) := hcell0
      clear hcell0
      obtain ⟨y, hy⟩ : ∃ y, y = L.getD (k + 1) 0 := ⟨_, rfl⟩
      obtain ⟨u, hu⟩ : ∃ u, u = maxU L k := ⟨_, rfl⟩
      have HST := Aside0.mk (show maxU L (k + 1) = if u < y then y else u by rw [hy, hu]; rfl)
      rw [← hy] at hcell
      rw [← hu]
      clear hy hu
      obtain ⟨i, hi⟩ : ∃ i, i = k + 1 := ⟨_, rfl⟩
      rw [← hi] at hcell hltz ⊢
      have HI := Aside0.mk hi
      have hi1 : i ≤ 1000 := by omega
      clear hi
      go_wp2
      all_goals
        go_roundg (L.length - (k + 1))
        case measure => have := HI.out; omega
        case rel => exact ⟨k + 1, by omega, by omega, by rw [HI.out]; go_num, by rw [HST.out]; first | rw [if_pos (by omega)] | rw [if_neg (by omega)], rfl⟩
    · have hk1 : k + 1 = L.length := by omega
      have HV := Aside0.mk (show maxV L = maxU L k by unfold maxV; rw [← hk1]; rfl)
      have hltz : ¬ ((k + 1 : Nat) : Int) < (L.length : Int) := by omega
      obtain ⟨i, hi⟩ : ∃ i, i = k + 1 := ⟨_, rfl⟩
      rw [← hi] at hltz ⊢
      clear hi hk1
      go_wp2
      go_ret
      exact ⟨by rw [HV.out]; rfl, rfl⟩
set_option maxHeartbeats 4000000 in
set_option maxRecDepth 100000 in
theorem min_c (A : Option Addr) (c : Nat) (L : List Int) (hL : 0 < L.length) (hL2 : L.length ≤ 1000) (w : World) (hr : Kd.C (Kd.int .i64) w A L.length L) :
    Calls Try.prog 70 #[.slice A L.length c] w fun e w' => e = .returned (.int .i64 (minV L)) ∧ w' = w := by
  obtain ⟨ad, e1, hc0⟩ := Kd.at_int hr 0 (by decide) (by omega)
  subst e1
  have HR := Aside0.mk hr
  have hc0' : w.cell? ad = some (.int .i64 (L.getD 0 0)) := by
    have e : ad.add 0 = ad := by unfold Addr.add; split <;> simp_all
    rw [show (0 : Int).toNat = 0 from rfl, e] at hc0; exact hc0
  have hnl : decide ((L.length : Int) < 1) = false := by rw [decide_eq_false_iff_not]; omega
  have hlz : (0 : Int) < (L.length : Int) := by omega
  obtain ⟨z, hz⟩ : ∃ z, z = L.getD 0 0 := ⟨_, rfl⟩
  have hc00 : w.cell? (ad.add 0) = some (.int .i64 z) := by rw [hz]; exact hc0
  rw [← hz] at hc0'
  have HZ := Aside0.mk (show z = minU L 0 from hz)
  clear hz hr hc0
  go_enter Try.func70, Try.ntmps70
  go_wp2
  go_loopg [3, 4] L.length (fun gg s3 s4 wr => ∃ (k : Nat), k + 1 ≤ L.length ∧ L.length - k ≤ gg ∧ s4 = .int .i64 ((k + 1 : Nat) : Int) ∧ s3 = .int .i64 (minU L k) ∧ wr = w)
  case atStart => exact ⟨0, by omega, by omega, rfl, by rw [HZ.out], rfl⟩
  case round =>
    clear hc00 hc0' hnl hlz
    obtain ⟨k, hk, hgk, rfl, rfl, rfl⟩ := hrel
    by_cases hlt : k + 1 < L.length
    · have hltz : ((k + 1 : Nat) : Int) < (L.length : Int) := by omega
      obtain ⟨ad', e1, hcell0⟩ := Kd.at_int HR.out ((k + 1 : Nat) : Int) (by omega) hltz
      injection e1 with e1
      subst e1
      have hcell : wr.cell? (ad.add (k + 1)) = some (.int .i64 (L.getD (k + 1) 0)) := hcell0
      clear hcell0
      obtain ⟨y, hy⟩ : ∃ y, y = L.getD (k + 1) 0 := ⟨_, rfl⟩
      obtain ⟨u, hu⟩ : ∃ u, u = minU L k := ⟨_, rfl⟩
      have HST := Aside0.mk (show minU L (k + 1) = if y < u then y else u by rw [hy, hu]; rfl)
      rw [← hy] at hcell
      rw [← hu]
      clear hy hu
      obtain ⟨i, hi⟩ : ∃ i, i = k + 1 := ⟨_, rfl⟩
      rw [← hi] at hcell hltz ⊢
      have HI := Aside0.mk hi
      have hi1 : i ≤ 1000 := by omega
      clear hi
      go_wp2
      all_goals
        go_roundg (L.length - (k + 1))
        case measure => have := HI.out; omega
        case rel => exact ⟨k + 1, by omega, by omega, by rw [HI.out]; go_num, by rw [HST.out]; first | rw [if_pos (by omega)] | rw [if_neg (by omega)], rfl⟩
    · have hk1 : k + 1 = L.length := by omega
      have HV := Aside0.mk (show minV L = minU L k by unfold minV; rw [← hk1]; rfl)
      have hltz : ¬ ((k + 1 : Nat) : Int) < (L.length : Int) := by omega
      obtain ⟨i, hi⟩ : ∃ i, i = k + 1 := ⟨_, rfl⟩
      rw [← hi] at hltz ⊢
      clear hi hk1
      go_wp2
      go_ret
      exact ⟨by rw [HV.out]; rfl, rfl⟩
theorem row_reads {w : World} {T : Nat} {n : Int} {s : Value} {C E : List Int} (h : TabB w T n s C E) (m p : Nat) (hm : m ≤ 8) (hp : p < 8) (hC : C.length = 64) : Kd.C (Kd.int .i64) w (some ⟨T, 2 + p * 8, none⟩) (rowN C m p).length (rowN C m p) := by
  refine Kd.C_of_reads (enc := Value.int .i64) (d := (0 : Int)) ⟨rfl, by rw [rowN_len]; omega, fun hn => ⟨_, rfl, fun j hj => ?_⟩⟩
  rw [rowN_len] at hj
  rw [Addr.add_mid, rowN_at C m p j hj]
  exact h.cC p j hp (by omega) hC
theorem cut_run {a : Act} {o : Oper} {W : World} (x y : Operand) (ho : o.op = .slice 64 x none (some y) none) (g off n : Nat) (hx : a.eval x = .pointer (some ⟨g, off, none⟩)) (hy : a.eval y = .int .i64 (n : Int)) (hn : n ≤ 8) : (execOp a.eval o).run Try.prog W = .ok (.value (.slice (some ⟨g, off, none⟩) n 8)) W := by
  have h0 : (0 : Int) ≤ (n : Int) := Int.natCast_nonneg _
  have h8 : (n : Int) ≤ 8 := by omega
  unfold execOp
  rw [ho]
  simp only [hx, hy, Option.map_some, Option.map_none]
  clear hx hy ho
  go_simp
  all_goals (try rfl)
theorem info_int : (Try.prog.info? 3).map (fun i => (i.zero, i.size, i.bytes)) = some (some (.int .i64 0), 1, 8) := by kernel_rfl
theorem lit1_run {a : Act} {o : Oper} {W : World} (x : Operand) (ho : o.op = .buildSlice 22 1 #[(0, x)]) (v : Int) (hx : a.eval x = .int .i64 v) : (execOp a.eval o).run Try.prog W = .ok (.value (.slice (some ⟨W.heap.size, 0, none⟩) 1 1)) (W.alloc (.cells #[.int .i64 v] 3 (0, 0))) := by
  unfold execOp
  rw [ho]
  simp only [List.map_toArray, List.map_cons, List.map_nil, hx]
  clear hx ho
  go_simp
  all_goals (try rfl)
set_option maxHeartbeats 4000000 in
set_option maxRecDepth 100000 in
theorem worst_c (n : Nat) (hn8 : n ≤ 8) (s : Value) (T : Nat) (C E : List Int) (iC : InR C) (w : World) (hb : TabB w T n s C E) :
    Calls Try.prog 71 #[.pointer (some ⟨T, 0, none⟩)] w fun e w' => ∃ v : Value, e = .returned v ∧ Kd.R (Kd.int .i64) 3 w' w.heap.size (fun _ => True) v (worstC C n) ∧ Below w.heap.size w w' := by
  have BT := Aside0.mk hb
  have BT0 := Aside0.mk hb
  have IC := Aside0.mk iC
  have HB := Aside0.mk (Below.refl w.heap.size w)
  have hc0 : w.cell? ⟨T, 0, none⟩ = some (.int .i64 n) := hb.c0
  clear hb iC
  go_enter Try.func71, Try.ntmps71
  go_wp2_with (first
   | ((with_reducible refine gate_dst (N := 5) rfl ?_); refine Kd.R_lit (Kd.int .i64) _ 3 ?hg (N := 5) ?hd (xs := ([] : List Int)) (inner := []) (ok := fun _ => True) (okp := fun _ => True) ?hr ?hp (fun _ hk => hk) trivial (Below.refl _ _) (Nat.le_refl _) (by simp) ?_; (case hd => rfl); (case hg => rfl); (case hr => first | (go_simp; done) | (go_simp; rfl)); (case hp => exact (Reps.none _ _)); intro v5 w2 ho hb2 hg_ hnew_; clear hg_ hnew_;
       have n1 := Aside0.mk (BT.out.below hb2); have n2 := Aside0.mk (below_step HB.out hb2); have HO := Aside0.mk (Kd.R_lower ho (below_size HB.out)); have hc02 : w2.cell? ⟨T, 0, none⟩ = some (.int .i64 n) := n1.out.c0; clear BT HB ho hb2 hc0; have BT := n1; have HB := n2; clear n1 n2))
  go_loopg [3, 11] n (fun gg s3 s11 wr => ∃ (k : Nat), k ≤ n ∧ n - k ≤ gg ∧ s11 = .int .i64 k ∧ Aside0 (Kd.R (Kd.int .i64) 3 wr w.heap.size (fun _ => True) s3 ((worstC C n).take k)) ∧ Aside0 (TabB wr T n s C E) ∧ Aside0 (Below w.heap.size w wr))
  case atStart => exact ⟨0, Nat.zero_le _, by omega, rfl, HO, BT, HB⟩
  case round =>
    clear HO BT HB hc02
    obtain ⟨k, hk, hgk, rfl, HO, BT, HB⟩ := hrel
    by_cases hlt : k < n
    · have hltz : (k : Int) < (n : Int) := by omega
      have hk8 : k < 8 := by omega
      obtain ⟨m, hm⟩ : ∃ m, m = maxV (rowN C n k) := ⟨_, rfl⟩
      have HMX := Aside0.mk hm
      have HTK := Aside0.mk (show (worstC C n).take (k + 1) = (worstC C n).take k ++ [m] by
        rw [List.take_succ_eq_append_getElem (by rw [worstC_len]; exact hlt), hm, ← worstC_at C n k hlt]
        simp [List.getD_eq_getElem?_getD, List.getElem?_eq_getElem, worstC_len, hlt])
      have HLEN := Aside0.mk (show ((worstC C n).take k).length ≤ 8 by rw [List.length_take]; omega)
      clear hm
      go_wp2
      refine start_ (n := 16) (S := fun w' => TabB w' T n s C E) (ds := []) #[false, false, false, false, false, false, false, false, false, false, false, false, false, false, false, false] (by kernel_rfl) rfl rfl BT.out (fun hHeld => ?_)
      refine pure_ (i := 0) (N := some 14) (v := ?_) (a' := ?_) #[true, false, false, false, false, false, false, false, false, false, false, false, false, false, false, false] rfl rfl (by kernel_rfl) (fun _ _ _ h => h) (Or.inl ⟨by rfl, ?_⟩) ?_ ?_
      rotate_left
      · intro w'
        go_simp; with_reducible rfl
      rotate_left
      · show Act.put _ _ _ = _
        simp only [Act.put, List.setIfInBounds_toArray, List.set_cons_zero, List.set_cons_succ, i64_w, i32_w]
        rfl
      refine pure_ (i := 1) (N := some 15) (v := ?_) (a' := ?_) #[true, true, false, false, false, false, false, false, false, false, false, false, false, false, false, false] rfl rfl (by kernel_rfl) (fun _ _ _ h => h) (Or.inl ⟨by rfl, ?_⟩) ?_ ?_
      rotate_left
      · intro w'
        go_simp; with_reducible rfl
      rotate_left
      · show Act.put _ _ _ = _
        simp only [Act.put, List.setIfInBounds_toArray, List.set_cons_zero, List.set_cons_succ, i64_w, i32_w]
        rfl
      refine pure_ (i := 2) (N := some 16) (v := ?_) (a' := ?_) #[true, true, true, false, false, false, false, false, false, false, false, false, false, false, false, false] rfl rfl (by kernel_rfl) (fun _ _ _ h => h) (Or.inl ⟨by rfl, ?_⟩) ?_ ?_
      rotate_left
      · intro w'
        go_simp; with_reducible rfl
      rotate_left
      · show Act.put _ _ _ = _
        simp only [Act.put, List.setIfInBounds_toArray, List.set_cons_zero, List.set_cons_succ, i64_w, i32_w]
        rfl
      refine pure_ (i := 3) (N := some 17) (v := ?_) (a' := ?_) #[true, true, true, true, false, false, false, false, false, false, false, false, false, false, false, false] rfl rfl (by kernel_rfl) (fun _ _ _ h => h) (Or.inl ⟨by rfl, ?_⟩) ?_ ?_
      rotate_left
      · intro w'
        go_simp; with_reducible rfl
      rotate_left
      · show Act.put _ _ _ = _
        simp only [Act.put, List.setIfInBounds_toArray, List.set_cons_zero, List.set_cons_succ, i64_w, i32_w]
        rfl
      refine pure_ (i := 4) (N := some 18) (v := ?_) (a' := ?_) #[true, true, true, true, true, false, false, false, false, false, false, false, false, false, false, false] rfl rfl (by kernel_rfl) (fun _ _ _ h => h) (Or.inl ⟨by rfl, ?_⟩) ?_ ?_
      rotate_left
      · intro w'
        go_simp; with_reducible rfl
      rotate_left
      · show Act.put _ _ _ = _
        simp only [Act.put, List.setIfInBounds_toArray, List.set_cons_zero, List.set_cons_succ, i64_w, i32_w]
        rfl
      refine pure_ (i := 5) (N := some 19) (v := ?_) (a' := ?_) #[true, true, true, true, true, true, false, false, false, false, false, false, false, false, false, false] rfl rfl (by kernel_rfl) (fun _ _ _ h => h) (Or.inl ⟨by rfl, ?_⟩) ?_ ?_
      rotate_left
      · intro w'
        refine (row_run _ _ (by rfl) T 2 k (by rfl) (by rfl) hk8).trans ?_; with_reducible rfl
      rotate_left
      · show Act.put _ _ _ = _
        simp only [Act.put, List.setIfInBounds_toArray, List.set_cons_zero, List.set_cons_succ, i64_w, i32_w]
        rfl
      refine pure_ (i := 6) (N := some 20) (v := ?_) (a' := ?_) #[true, true, true, true, true, true, true, false, false, false, false, false, false, false, false, false] rfl rfl (by kernel_rfl) (fun _ _ _ h => h) (Or.inl ⟨by rfl, ?_⟩) ?_ ?_
      rotate_left
      · intro w'
        go_simp; with_reducible rfl
      rotate_left
      · show Act.put _ _ _ = _
        simp only [Act.put, List.setIfInBounds_toArray, List.set_cons_zero, List.set_cons_succ, i64_w, i32_w]
        rfl
      refine pure_ (i := 7) (N := some 21) (v := ?_) (a' := ?_) #[true, true, true, true, true, true, true, true, false, false, false, false, false, false, false, false] rfl rfl (by kernel_rfl) (fun _ _ _ h => h) (Or.inl ⟨by rfl, ?_⟩) ?_ ?_
      rotate_left
      · intro w'
        go_simp; with_reducible rfl
      rotate_left
      · show Act.put _ _ _ = _
        simp only [Act.put, List.setIfInBounds_toArray, List.set_cons_zero, List.set_cons_succ, i64_w, i32_w]
        rfl
      refine pure_ (i := 8) (N := some 22) (v := ?_) (a' := ?_) #[true, true, true, true, true, true, true, true, true, false, false, false, false, false, false, false] rfl rfl (by kernel_rfl) (fun _ _ _ h => h) (Or.inl ⟨by rfl, ?_⟩) ?_ ?_
      rotate_left
      · intro w'
        go_simp; with_reducible rfl
      rotate_left
      · show Act.put _ _ _ = _
        simp only [Act.put, List.setIfInBounds_toArray, List.set_cons_zero, List.set_cons_succ, i64_w, i32_w]
        rfl
      refine pure_ (i := 9) (N := some 23) (v := ?_) (a' := ?_) #[true, true, true, true, true, true, true, true, true, true, false, false, false, false, false, false] rfl rfl (by kernel_rfl) (fun _ _ _ h => h) (Or.inl ⟨by rfl, ?_⟩) ?_ ?_
      rotate_left
      · intro w'
        go_simp; with_reducible rfl
      rotate_left
      · show Act.put _ _ _ = _
        simp only [Act.put, List.setIfInBounds_toArray, List.set_cons_zero, List.set_cons_succ, i64_w, i32_w]
        rfl
      refine take_ (i := 10) (N := some 24) (v := ?_) (a' := ?_) #[true, true, true, true, true, true, true, true, true, true, true, false, false, false, false, false] rfl rfl (by kernel_rfl) (fun _ _ _ h => h) (Or.inl ⟨by rfl, ?_⟩) hHeld ?_ ?_
      rotate_left
      · rintro w' s0; refine (load_run _ (by rfl) T 0 (n : Int) (by rfl) s0.c0).trans ?_; with_reducible rfl
      rotate_left
      · show Act.put _ _ _ = _
        simp only [Act.put, List.setIfInBounds_toArray, List.set_cons_zero, List.set_cons_succ, i64_w, i32_w]
        rfl
      refine pure_ (i := 11) (N := some 25) (v := ?_) (a' := ?_) #[true, true, true, true, true, true, true, true, true, true, true, true, false, false, false, false] rfl rfl (by kernel_rfl) (fun _ _ _ h => h) (Or.inl ⟨by rfl, ?_⟩) ?_ ?_
      rotate_left
      · intro w'
        refine (cut_run _ _ (by rfl) T (2 + k * 8) n (by rfl) (by rfl) hn8).trans ?_; with_reducible rfl
      rotate_left
      · show Act.put _ _ _ = _
        simp only [Act.put, List.setIfInBounds_toArray, List.set_cons_zero, List.set_cons_succ, i64_w, i32_w]
        rfl
      have nB := Aside0.mk (HB.out.drew)
      have nT := Aside0.mk (show TabB wr.drew T n s C E from BT.out)
      have nO := Aside0.mk (Kd.R_drew HO.out)
      clear HB BT HO
      have HB := nB
      have BT := nT
      have HO := nO
      clear nB nT nO
      generalize wr.drew = w5 at HB BT HO hHeld ⊢
      refine one_ (i := 12) (N := some 26) #[true, true, true, true, true, true, true, true, true, true, true, true, true, false, false, false] rfl rfl (by kernel_rfl) (by decide) (fun K hK => ?_)
      refine goes_ Try.func97 (by kernel_rfl) rfl #[.slice (some ⟨T, 2 + k * 8, none⟩) n 8] (by rfl) rfl rfl (by (try simp only [List.map_toArray, List.map_cons, List.map_nil]); first | done | rfl) ?_
      have hmx := max_c (some ⟨T, 2 + k * 8, none⟩) 8 (rowN C n k) (by rw [rowN_len]; omega) (by rw [rowN_len]; omega) w5 (row_reads BT.out n k hn8 hk8 IC.out.1)
      rw [rowN_len, ← HMX.out] at hmx
      (with_reducible refine hmx.mono ?_)
      clear hmx
      rintro e w6 ⟨rfl, rfl⟩
      refine ⟨_, rfl, ?_⟩
      refine hK.out _ _ BT.out (fun hHeld => ?_)
      clear hK K
      refine norm_ (a' := ?_) ?_ ?_
      rotate_left
      · show Act.put _ _ _ = _
        simp only [Act.put, List.setIfInBounds_toArray, List.set_cons_zero, List.set_cons_succ, i64_w, i32_w]
        rfl
      refine one_ (i := 13) (N := some 27) #[true, true, true, true, true, true, true, true, true, true, true, true, true, true, false, false] rfl rfl (by kernel_rfl) (by decide) (fun K hK => ?_)
      refine event_step (by rfl) (lit1_run _ (by rfl) m (by rfl)) ?_
      refine hK.out _ _ (BT.out.below (below_alloc (Below.refl _ _) _)) (fun hHeld => ?_)
      clear hK K
      refine norm_ (a' := ?_) ?_ ?_
      rotate_left
      · show Act.put _ _ _ = _
        simp only [Act.put, List.setIfInBounds_toArray, List.set_cons_zero, List.set_cons_succ, i64_w, i32_w]
        rfl
      refine one_ (i := 14) (N := some 28) #[true, true, true, true, true, true, true, true, true, true, true, true, true, true, true, false] rfl rfl (by kernel_rfl) (by decide) (fun K hK => ?_)
      refine Kd.R_append_step (Kd.int .i64) (w0 := w) w.heap.size (by rfl) (.tmp 14) (.tmp 27) 22 3 (.int .i64 0) 8 (by rfl) Try.underlying22 info_int rfl (by decide) (by omega) u3 ((worstC C n).take k) m [.int .i64 m] (fun _ => True) (fun _ => False) (by rfl) (by rfl) (by exact rfl) (fun _ hk => hk.elim) (fun _ _ => trivial) HO.out HB.out (below_size HB.out) (by have := HLEN.out; omega) ?_
      intro v7 w7 ho hb hg hat
      rw [← HTK.out] at ho
      have nT := Aside0.mk (show TabB w7 T n s C E from (hb.block T BT0.out.lt).trans BT0.out)
      have nB := Aside0.mk hb
      have nO := Aside0.mk ho
      clear HB BT HO ho hb hg hat
      have HB := nB
      have BT := nT
      have HO := nO
      clear nB nT nO
      refine hK.out _ _ BT.out (fun hHeld => ?_)
      clear hK K
      refine norm_ (a' := ?_) ?_ ?_
      rotate_left
      · show Act.put _ _ _ = _
        simp only [Act.put, List.setIfInBounds_toArray, List.set_cons_zero, List.set_cons_succ, i64_w, i32_w]
        rfl
      refine pure_ (i := 15) (N := some 3) (v := ?_) (a' := ?_) #[true, true, true, true, true, true, true, true, true, true, true, true, true, true, true, true] rfl rfl (by kernel_rfl) (fun _ _ _ h => h) (Or.inl ⟨by rfl, ?_⟩) ?_ ?_
      rotate_left
      · intro w'
        go_simp; with_reducible rfl
      rotate_left
      · show Act.put _ _ _ = _
        simp only [Act.put, List.setIfInBounds_toArray, List.set_cons_zero, List.set_cons_succ, i64_w, i32_w]
        rfl
      refine done_ (by kernel_rfl) ?_
      go_wp2
      go_roundg (n - (k + 1))
      case measure => omega
      case rel => exact ⟨k + 1, by omega, by omega, by go_num, HO, BT, HB⟩
    · obtain rfl : k = n := by omega
      have HTA := Aside0.mk (show (worstC C k).take k = worstC C k by rw [List.take_of_length_le (by rw [worstC_len]; omega)])
      go_wp2
      go_ret
      exact ⟨_, rfl, by rw [← HTA.out]; exact HO.out, HB.out⟩
end Go.Proofs.Ytilanbgciofkjaa.PA

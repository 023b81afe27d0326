import Derived.Test.YtilanbgciofkjaaWe
import Derived.Test.YtilanbgciofkjaaPAx19
import Derived.Test.YtilanbgciofkjaaTmist
namespace Go.Proofs.Ytilanbgciofkjaa.Wr
open Go.RowKit Go.Proofs.YtilanbgciofkjaaW.PrintWords Go.Proofs.YtilanbgciofkjaaW.PrintLast Go.Proofs.YtilanbgciofkjaaW.PrintMore Go.Proofs.Ytilanbgciofkjaa.PH
attribute [local go_sem] max2_int min2_int max_two min_two max_three min_three max_four min_four
set_option linter.unusedVariables false
set_option linter.unusedSimpArgs false

set_option maxHeartbeats 8000000 in
set_option maxRecDepth 100000 in
theorem FnExactFirstMistake_c (n0 : Int) (Ap0_1 : Option Addr) (cp0_1 : Nat) (l0_1 : List Int) (Ap1_0 : Option Addr) (cp1_0 : Nat) (l1_0 : List Int) (Ap1_1 : Option Addr) (cp1_1 : Nat) (l1_1 : List Int) (r : Int) (ks : Nat) (ki : Nat) (w : World) (hr0_1 : Kd.C (Kd.int .i64) w Ap0_1 l0_1.length l0_1) (hc0_1 : l0_1.length ≤ cp0_1) (hr1_0 : Kd.C (Kd.int .i64) w Ap1_0 l1_0.length l1_0) (hc1_0 : l1_0.length ≤ cp1_0) (hr1_1 : Kd.C (Kd.int .i64) w Ap1_1 l1_1.length l1_1) (hc1_1 : l1_1.length ≤ cp1_1) (hl_l0_1 : l0_1.length ≤ 1000000) (hl_l1_0 : l1_0.length ≤ 1000000) (hl_l1_1 : l1_1.length ≤ 1000000) (hsum : l0_1.length + l1_0.length + l1_1.length ≤ 1000000) (hs : Go.Proofs.Ytilanbgciofkjaa.PA.spec_FirstMistake.f ks n0 l0_1 l1_0 l1_1 = some r) (hi : Go.Proofs.Ytilanbgciofkjaa.PA.impl_FirstMistake.f ki n0 l0_1 l1_0 l1_1 = some r) :
    Calls Try.prog 10 #[.agg #[.int .i64 n0, .slice Ap0_1 l0_1.length cp0_1], .agg #[.slice Ap1_0 l1_0.length cp1_0, .slice Ap1_1 l1_1.length cp1_1]] w fun e w' => e = .returned (.bool true) ∧ Below w.heap.size w w' := by
  have HRp0_1 := Aside0.mk hr0_1
  have HCp0_1 := Aside0.mk hc0_1
  have HRp1_0 := Aside0.mk hr1_0
  have HCp1_0 := Aside0.mk hc1_0
  have HRp1_1 := Aside0.mk hr1_1
  have HCp1_1 := Aside0.mk hc1_1
  have HS := Aside0.mk hs
  have HI := Aside0.mk hi
  clear hr0_1 hc0_1 hr1_0 hc1_0 hr1_1 hc1_1 hs hi
  have HB := Aside0.mk (Below.refl w.heap.size w)
  go_enter Try.func10, Try.ntmps10
  go_wp2_with (first | ((with_reducible refine gate_dst (N := 2) rfl ?_); refine box_event ?hg (N := 2) ?hd (cs := #[.int .i64 n0, .slice Ap0_1 l0_1.length cp0_1]) (t := 24) ?hr ?_; (case hd => rfl); (case hg => rfl); (case hr => first | (go_simp; done) | (go_simp; rfl)); intro g1 hg w1 hbox hb; have n0_ := Aside0.mk (below_step HB.out hb); have m0_ := Aside0.mk (hbox); have m1_ := Aside0.mk ((by rw [hg]; exact below_size HB.out : w.heap.size ≤ g1)); clear HB; have HB := n0_; have BKg1 := m0_; have GEg1 := m1_; clear n0_ m0_ m1_; clear hb hbox hg; have hcg1_0 : w1.cell? ⟨g1, 0, none⟩ = some (.int .i64 n0) := (blk_cell BKg1.out 0).trans rfl; have hcg1_1 : w1.cell? ⟨g1, 1, none⟩ = some (.slice Ap0_1 l0_1.length cp0_1) := (blk_cell BKg1.out 1).trans rfl) | ((with_reducible refine gate_dst (N := 3) rfl ?_); refine box_event ?hg (N := 3) ?hd (cs := #[.slice Ap1_0 l1_0.length cp1_0, .slice Ap1_1 l1_1.length cp1_1]) (t := 39) ?hr ?_; (case hd => rfl); (case hg => rfl); (case hr => first | (go_simp; done) | (go_simp; rfl)); intro g2 hg w2 hbox hb; have n0_ := Aside0.mk (below_step HB.out hb); have n1_ := Aside0.mk (blk_below BKg1.out hb); have m0_ := Aside0.mk (hbox); have m1_ := Aside0.mk ((by rw [hg]; exact below_size HB.out : w.heap.size ≤ g2)); have m2_ := Aside0.mk ((by rw [hg]; exact Nat.ne_of_lt (blk_lt BKg1.out) : g1 ≠ g2)); have m3_ := Aside0.mk ((by rw [hg]; exact Nat.ne_of_gt (blk_lt BKg1.out) : g2 ≠ g1)); clear HB BKg1; have HB := n0_; have BKg1 := n1_; have BKg2 := m0_; have GEg2 := m1_; have NEg1_g2 := m2_; have NEg2_g1 := m3_; clear n0_ n1_ m0_ m1_ m2_ m3_; clear hb hbox hg; clear hcg1_0 hcg1_1; have hcg1_0 : w2.cell? ⟨g1, 0, none⟩ = some (.int .i64 n0) := (blk_cell BKg1.out 0).trans rfl; have hcg1_1 : w2.cell? ⟨g1, 1, none⟩ = some (.slice Ap0_1 l0_1.length cp0_1) := (blk_cell BKg1.out 1).trans rfl; have hcg2_0 : w2.cell? ⟨g2, 0, none⟩ = some (.slice Ap1_0 l1_0.length cp1_0) := (blk_cell BKg2.out 0).trans rfl; have hcg2_1 : w2.cell? ⟨g2, 1, none⟩ = some (.slice Ap1_1 l1_1.length cp1_1) := (blk_cell BKg2.out 1).trans rfl) | ((with_reducible refine gate_callee (f := 15) rfl ?_); refine goesL_ (some 13) rfl rfl Try.func15 (by kernel_rfl) rfl #[.agg #[.int .i64 n0, .slice Ap0_1 l0_1.length cp0_1], .int .i64 1000000] rfl (by (try simp only [List.map_toArray, List.map_cons, List.map_nil]); first | done | rfl) ?_; (with_reducible refine (Go.Proofs.Ytilanbgciofkjaa.PH.laws_szGraph.calls n0 Ap0_1 cp0_1 l0_1 (1000000) (1000000 - (l0_1.length : Int)) _ (Kd.C_below HRp0_1.out HB.out) HCp0_1.out (szG_ok _ _ _ (by omega) (by omega))).mono ?_); rintro e w3 ⟨rfl, hb⟩; refine ⟨_, rfl, ?_⟩; have n0_ := Aside0.mk (below_step HB.out hb); have n1_ := Aside0.mk (blk_below BKg1.out hb); have n2_ := Aside0.mk (blk_below BKg2.out hb); clear HB BKg1 BKg2; have HB := n0_; have BKg1 := n1_; have BKg2 := n2_; clear n0_ n1_ n2_; (try clear hb); clear hcg1_0 hcg1_1 hcg2_0 hcg2_1; have hcg1_0 : w3.cell? ⟨g1, 0, none⟩ = some (.int .i64 n0) := (blk_cell BKg1.out 0).trans rfl; have hcg1_1 : w3.cell? ⟨g1, 1, none⟩ = some (.slice Ap0_1 l0_1.length cp0_1) := (blk_cell BKg1.out 1).trans rfl; have hcg2_0 : w3.cell? ⟨g2, 0, none⟩ = some (.slice Ap1_0 l1_0.length cp1_0) := (blk_cell BKg2.out 0).trans rfl; have hcg2_1 : w3.cell? ⟨g2, 1, none⟩ = some (.slice Ap1_1 l1_1.length cp1_1) := (blk_cell BKg2.out 1).trans rfl) | ((with_reducible refine gate_callee (f := 36) rfl ?_); refine goesL_ (some 18) rfl rfl Try.func36 (by kernel_rfl) rfl #[.agg #[.slice Ap1_0 l1_0.length cp1_0, .slice Ap1_1 l1_1.length cp1_1], .int .i64 (1000000 - (l0_1.length : Int))] rfl (by (try simp only [List.map_toArray, List.map_cons, List.map_nil]); first | done | rfl) ?_; (with_reducible refine (Go.Proofs.Ytilanbgciofkjaa.PH.laws_szRecord.calls Ap1_0 cp1_0 l1_0 Ap1_1 cp1_1 l1_1 (1000000 - (l0_1.length : Int)) (1000000 - (l0_1.length : Int) - (l1_0.length : Int) - (l1_1.length : Int)) _ (Kd.C_below HRp1_0.out HB.out) HCp1_0.out (Kd.C_below HRp1_1.out HB.out) HCp1_1.out (szR_ok _ _ _ (by omega) (by omega))).mono ?_); rintro e w4 ⟨rfl, hb⟩; refine ⟨_, rfl, ?_⟩; have n0_ := Aside0.mk (below_step HB.out hb); have n1_ := Aside0.mk (blk_below BKg1.out hb); have n2_ := Aside0.mk (blk_below BKg2.out hb); clear HB BKg1 BKg2; have HB := n0_; have BKg1 := n1_; have BKg2 := n2_; clear n0_ n1_ n2_; (try clear hb); clear hcg1_0 hcg1_1 hcg2_0 hcg2_1; have hcg1_0 : w4.cell? ⟨g1, 0, none⟩ = some (.int .i64 n0) := (blk_cell BKg1.out 0).trans rfl; have hcg1_1 : w4.cell? ⟨g1, 1, none⟩ = some (.slice Ap0_1 l0_1.length cp0_1) := (blk_cell BKg1.out 1).trans rfl; have hcg2_0 : w4.cell? ⟨g2, 0, none⟩ = some (.slice Ap1_0 l1_0.length cp1_0) := (blk_cell BKg2.out 0).trans rfl; have hcg2_1 : w4.cell? ⟨g2, 1, none⟩ = some (.slice Ap1_1 l1_1.length cp1_1) := (blk_cell BKg2.out 1).trans rfl))
  clear hcg1_0 hcg1_1 hcg2_0 hcg2_1
  have n0_ := Aside0.mk (below_drew1 HB.out)
  have n1_ := Aside0.mk (blk_drew BKg1.out)
  have n2_ := Aside0.mk (blk_drew BKg2.out)
  clear HB BKg1 BKg2
  have HB := n0_
  have BKg1 := n1_
  have BKg2 := n2_
  clear n0_ n1_ n2_
  refine start_ (n := 6) (S := fun w' => w'.cell? ⟨g1, 0, none⟩ = some (.int .i64 n0) ∧ w'.cell? ⟨g1, 1, none⟩ = some (.slice Ap0_1 l0_1.length cp0_1) ∧ w'.cell? ⟨g2, 0, none⟩ = some (.slice Ap1_0 l1_0.length cp1_0) ∧ w'.cell? ⟨g2, 1, none⟩ = some (.slice Ap1_1 l1_1.length cp1_1)) (ds := []) #[false, false, false, false, false, false] (by kernel_rfl) rfl rfl ⟨(blk_cell BKg1.out 0).trans rfl, (blk_cell BKg1.out 1).trans rfl, (blk_cell BKg2.out 0).trans rfl, (blk_cell BKg2.out 1).trans rfl⟩ (fun hHeld => ?_)
  generalize w4.drew = w5 at HB BKg1 BKg2 hHeld ⊢
  refine take_ (i := 0) (N := some 21) (v := ?_) (a' := ?_) #[true, false, false, false, false, false] rfl rfl (by kernel_rfl) (fun _ _ _ h => h) (Or.inl ⟨by rfl, ?_⟩) hHeld ?_ ?_
  rotate_left
  · rintro w' ⟨s0, s1, s2, s3⟩
    go_simp
    with_reducible rfl
  rotate_left
  · simp only [Act.put, List.setIfInBounds_toArray, List.set_cons_zero, List.set_cons_succ, i64_w, i32_w]
    rfl
  refine take_ (i := 2) (N := some 23) (v := ?_) (a' := ?_) #[true, false, true, false, false, false] rfl rfl (by kernel_rfl) (fun _ _ _ h => h) (Or.inl ⟨by rfl, ?_⟩) hHeld ?_ ?_
  rotate_left
  · rintro w' ⟨s0, s1, s2, s3⟩
    go_simp
    with_reducible rfl
  rotate_left
  · simp only [Act.put, List.setIfInBounds_toArray, List.set_cons_zero, List.set_cons_succ, i64_w, i32_w]
    rfl
  refine one_ (i := 1) (N := some 22) #[true, true, true, false, false, false] rfl rfl (by kernel_rfl) (by decide) (fun K hK => ?_)
  refine goes_ Try.func17 (by kernel_rfl) rfl #[.agg #[.int .i64 n0, .slice Ap0_1 l0_1.length cp0_1], .bool false] (by rfl) rfl rfl (by (try simp only [List.map_toArray, List.map_cons, List.map_nil]); first | done | rfl) ?_
  (with_reducible refine (toGraph_c n0 Ap0_1 cp0_1 l0_1 false _ hl_l0_1 (Kd.C_below HRp0_1.out HB.out) HCp0_1.out).mono ?_)
  rintro e w6 ⟨A1, c1, rfl, ho1_, hg1_, hb⟩
  refine ⟨_, rfl, ?_⟩
  have n0_ := Aside0.mk (below_step HB.out hb)
  have n1_ := Aside0.mk (blk_below BKg1.out hb)
  have n2_ := Aside0.mk (blk_below BKg2.out hb)
  have m0_ := Aside0.mk (ho1_)
  have m1_ := Aside0.mk (own_lower hg1_ HB.out)
  clear HB BKg1 BKg2
  have HB := n0_
  have BKg1 := n1_
  have BKg2 := n2_
  have HO1 := m0_
  have GB1 := m1_
  clear n0_ n1_ n2_ m0_ m1_
  (try clear hb)
  (try clear ho1_)
  (try clear hg1_)
  refine hK.out _ _ ⟨(blk_cell BKg1.out 0).trans rfl, (blk_cell BKg1.out 1).trans rfl, (blk_cell BKg2.out 0).trans rfl, (blk_cell BKg2.out 1).trans rfl⟩ (fun hHeld => ?_)
  clear hK K
  refine norm_ (a' := ?_) ?_ ?_
  rotate_left
  · show Act.put _ (some 22) _ = _
    simp only [Act.put, List.setIfInBounds_toArray, List.set_cons_zero, List.set_cons_succ, i64_w, i32_w]
    rfl
  refine one_ (i := 3) (N := some 24) #[true, true, true, true, false, false] rfl rfl (by kernel_rfl) (by decide) (fun K hK => ?_)
  refine goes_ Try.func38 (by kernel_rfl) rfl #[.agg #[.slice Ap1_0 l1_0.length cp1_0, .slice Ap1_1 l1_1.length cp1_1], .bool false] (by rfl) rfl rfl (by (try simp only [List.map_toArray, List.map_cons, List.map_nil]); first | done | rfl) ?_
  (with_reducible refine (toRecord_c Ap1_0 cp1_0 l1_0 Ap1_1 cp1_1 l1_1 false _ hl_l1_0 hl_l1_1 (Kd.C_below HRp1_0.out HB.out) HCp1_0.out (Kd.C_below HRp1_1.out HB.out) HCp1_1.out).mono ?_)
  rintro e w7 ⟨A2, c2, A3, c3, rfl, ho2_, ho3_, hg2_, hg3_, dj2_3_, hb⟩
  refine ⟨_, rfl, ?_⟩
  have n0_ := Aside0.mk (below_step HB.out hb)
  have n1_ := Aside0.mk (blk_below BKg1.out hb)
  have n2_ := Aside0.mk (blk_below BKg2.out hb)
  have n3_ := Aside0.mk (RO_below HO1.out hb)
  have m0_ := Aside0.mk (ho2_)
  have m1_ := Aside0.mk (own_lower hg2_ HB.out)
  have m2_ := Aside0.mk (RO_new HO1.out hg2_)
  have m3_ := Aside0.mk (dj_sym (RO_new HO1.out hg2_))
  have m4_ := Aside0.mk (ho3_)
  have m5_ := Aside0.mk (own_lower hg3_ HB.out)
  have m6_ := Aside0.mk (RO_new HO1.out hg3_)
  have m7_ := Aside0.mk (dj_sym (RO_new HO1.out hg3_))
  have m8_ := Aside0.mk (dj2_3_)
  have m9_ := Aside0.mk (dj_sym dj2_3_)
  clear HB BKg1 BKg2 HO1
  have HB := n0_
  have BKg1 := n1_
  have BKg2 := n2_
  have HO1 := n3_
  have HO2 := m0_
  have GB2 := m1_
  have DJ1_2 := m2_
  have DJ2_1 := m3_
  have HO3 := m4_
  have GB3 := m5_
  have DJ1_3 := m6_
  have DJ3_1 := m7_
  have DJ2_3 := m8_
  have DJ3_2 := m9_
  clear n0_ n1_ n2_ n3_ m0_ m1_ m2_ m3_ m4_ m5_ m6_ m7_ m8_ m9_
  (try clear hb)
  (try clear ho2_)
  (try clear hg2_)
  (try clear ho3_)
  (try clear hg3_)
  refine hK.out _ _ ⟨(blk_cell BKg1.out 0).trans rfl, (blk_cell BKg1.out 1).trans rfl, (blk_cell BKg2.out 0).trans rfl, (blk_cell BKg2.out 1).trans rfl⟩ (fun hHeld => ?_)
  clear hK K
  refine norm_ (a' := ?_) ?_ ?_
  rotate_left
  · show Act.put _ (some 24) _ = _
    simp only [Act.put, List.setIfInBounds_toArray, List.set_cons_zero, List.set_cons_succ, i64_w, i32_w]
    rfl
  refine one_ (i := 4) (N := some 25) #[true, true, true, true, true, false] rfl rfl (by kernel_rfl) (by decide) (fun K hK => ?_)
  refine goes_ Try.func37 (by kernel_rfl) rfl #[.agg #[.int .i64 n0, .slice A1 l0_1.length c1], .agg #[.slice A2 l1_0.length c2, .slice A3 l1_1.length c3]] (by rfl) rfl rfl (by (try simp only [List.map_toArray, List.map_cons, List.map_nil]); first | done | rfl) ?_
  (with_reducible refine (Go.Proofs.Ytilanbgciofkjaa.PA.spec_FirstMistake.calls ks (n0) A1 c1 l0_1 A2 c2 l1_0 A3 c3 l1_1 r _ (RO_Ct HO1.out (fullOf_take _ _) (fullOf_len _ _)) (Nat.le_trans (fullOf_len _ _) (RO_le HO1.out)) (RO_Ct HO2.out (fullOf_take _ _) (fullOf_len _ _)) (Nat.le_trans (fullOf_len _ _) (RO_le HO2.out)) (RO_Ct HO3.out (fullOf_take _ _) (fullOf_len _ _)) (Nat.le_trans (fullOf_len _ _) (RO_le HO3.out)) HS.out).mono ?_)
  rintro e w8 ⟨rfl, hb⟩
  refine ⟨_, rfl, ?_⟩
  have n0_ := Aside0.mk (below_step HB.out hb)
  have n1_ := Aside0.mk (blk_below BKg1.out hb)
  have n2_ := Aside0.mk (blk_below BKg2.out hb)
  have n3_ := Aside0.mk (RO_below HO1.out hb)
  have n4_ := Aside0.mk (RO_below HO2.out hb)
  have n5_ := Aside0.mk (RO_below HO3.out hb)
  clear HB BKg1 BKg2 HO1 HO2 HO3
  have HB := n0_
  have BKg1 := n1_
  have BKg2 := n2_
  have HO1 := n3_
  have HO2 := n4_
  have HO3 := n5_
  clear n0_ n1_ n2_ n3_ n4_ n5_
  (try clear hb)
  refine hK.out _ _ ⟨(blk_cell BKg1.out 0).trans rfl, (blk_cell BKg1.out 1).trans rfl, (blk_cell BKg2.out 0).trans rfl, (blk_cell BKg2.out 1).trans rfl⟩ (fun hHeld => ?_)
  clear hK K
  refine norm_ (a' := ?_) ?_ ?_
  rotate_left
  · show Act.put _ (some 25) _ = _
    simp only [Act.put, List.setIfInBounds_toArray, List.set_cons_zero, List.set_cons_succ, i64_w, i32_w]
    rfl
  refine pure_ (i := 5) (N := some 6) (v := ?_) (a' := ?_) #[true, true, true, true, true, true] rfl rfl (by kernel_rfl) (fun _ _ _ h => h) (Or.inl ⟨by rfl, ?_⟩) ?_ ?_
  rotate_left
  · intro w'
    go_simp
    with_reducible rfl
  rotate_left
  · simp only [Act.put, List.setIfInBounds_toArray, List.set_cons_zero, List.set_cons_succ, i64_w, i32_w]
    rfl
  refine done_ (by kernel_rfl) ?_
  have hcg1_0 : w8.cell? ⟨g1, 0, none⟩ = some (.int .i64 n0) := (blk_cell BKg1.out 0).trans rfl
  have hcg1_1 : w8.cell? ⟨g1, 1, none⟩ = some (.slice Ap0_1 l0_1.length cp0_1) := (blk_cell BKg1.out 1).trans rfl
  have hcg2_0 : w8.cell? ⟨g2, 0, none⟩ = some (.slice Ap1_0 l1_0.length cp1_0) := (blk_cell BKg2.out 0).trans rfl
  have hcg2_1 : w8.cell? ⟨g2, 1, none⟩ = some (.slice Ap1_1 l1_1.length cp1_1) := (blk_cell BKg2.out 1).trans rfl
  go_wp2_with (first | ((with_reducible refine gate_callee (f := 17) rfl ?_); refine goesL_ (some 27) rfl rfl Try.func17 (by kernel_rfl) rfl #[.agg #[.int .i64 n0, .slice Ap0_1 l0_1.length cp0_1], .bool false] rfl (by (try simp only [List.map_toArray, List.map_cons, List.map_nil]); first | done | rfl) ?_; (with_reducible refine (toGraph_c n0 Ap0_1 cp0_1 l0_1 false _ hl_l0_1 (Kd.C_below HRp0_1.out HB.out) HCp0_1.out).mono ?_); rintro e w9 ⟨A4, c4, rfl, ho4_, hg4_, hb⟩; refine ⟨_, rfl, ?_⟩; have n0_ := Aside0.mk (below_step HB.out hb); have n1_ := Aside0.mk (blk_below BKg1.out hb); have n2_ := Aside0.mk (blk_below BKg2.out hb); have n3_ := Aside0.mk (RO_below HO1.out hb); have n4_ := Aside0.mk (RO_below HO2.out hb); have n5_ := Aside0.mk (RO_below HO3.out hb); have m0_ := Aside0.mk (ho4_); have m1_ := Aside0.mk (own_lower hg4_ HB.out); have m2_ := Aside0.mk (RO_new HO1.out hg4_); have m3_ := Aside0.mk (dj_sym (RO_new HO1.out hg4_)); have m4_ := Aside0.mk (RO_new HO2.out hg4_); have m5_ := Aside0.mk (dj_sym (RO_new HO2.out hg4_)); have m6_ := Aside0.mk (RO_new HO3.out hg4_); have m7_ := Aside0.mk (dj_sym (RO_new HO3.out hg4_)); clear HB BKg1 BKg2 HO1 HO2 HO3; have HB := n0_; have BKg1 := n1_; have BKg2 := n2_; have HO1 := n3_; have HO2 := n4_; have HO3 := n5_; have HO4 := m0_; have GB4 := m1_; have DJ1_4 := m2_; have DJ4_1 := m3_; have DJ2_4 := m4_; have DJ4_2 := m5_; have DJ3_4 := m6_; have DJ4_3 := m7_; clear n0_ n1_ n2_ n3_ n4_ n5_ m0_ m1_ m2_ m3_ m4_ m5_ m6_ m7_; (try clear hb); (try clear ho4_); (try clear hg4_); clear hcg1_0 hcg1_1 hcg2_0 hcg2_1; have hcg1_0 : w9.cell? ⟨g1, 0, none⟩ = some (.int .i64 n0) := (blk_cell BKg1.out 0).trans rfl; have hcg1_1 : w9.cell? ⟨g1, 1, none⟩ = some (.slice Ap0_1 l0_1.length cp0_1) := (blk_cell BKg1.out 1).trans rfl; have hcg2_0 : w9.cell? ⟨g2, 0, none⟩ = some (.slice Ap1_0 l1_0.length cp1_0) := (blk_cell BKg2.out 0).trans rfl; have hcg2_1 : w9.cell? ⟨g2, 1, none⟩ = some (.slice Ap1_1 l1_1.length cp1_1) := (blk_cell BKg2.out 1).trans rfl) | ((with_reducible refine gate_dst (N := 7) rfl ?_); refine box_event ?hg (N := 7) ?hd (cs := #[.int .i64 0, .slice none 0 0]) (t := 27) ?hr ?_; (case hd => rfl); (case hg => rfl); (case hr => first | (go_simp; done) | (go_simp; rfl)); intro g3 hg w10 hbox hb; have n0_ := Aside0.mk (below_step HB.out hb); have n1_ := Aside0.mk (blk_below BKg1.out hb); have n2_ := Aside0.mk (blk_below BKg2.out hb); have n3_ := Aside0.mk (RO_below HO1.out hb); have n4_ := Aside0.mk (RO_below HO2.out hb); have n5_ := Aside0.mk (RO_below HO3.out hb); have n6_ := Aside0.mk (RO_below HO4.out hb); have m0_ := Aside0.mk (hbox); have m1_ := Aside0.mk ((by rw [hg]; exact below_size HB.out : w.heap.size ≤ g3)); have m2_ := Aside0.mk ((by rw [hg]; exact Nat.ne_of_lt (blk_lt BKg1.out) : g1 ≠ g3)); have m3_ := Aside0.mk ((by rw [hg]; exact Nat.ne_of_gt (blk_lt BKg1.out) : g3 ≠ g1)); have m4_ := Aside0.mk ((by rw [hg]; exact Nat.ne_of_lt (blk_lt BKg2.out) : g2 ≠ g3)); have m5_ := Aside0.mk ((by rw [hg]; exact Nat.ne_of_gt (blk_lt BKg2.out) : g3 ≠ g2)); clear HB BKg1 BKg2 HO1 HO2 HO3 HO4; have HB := n0_; have BKg1 := n1_; have BKg2 := n2_; have HO1 := n3_; have HO2 := n4_; have HO3 := n5_; have HO4 := n6_; have BKg3 := m0_; have GEg3 := m1_; have NEg1_g3 := m2_; have NEg3_g1 := m3_; have NEg2_g3 := m4_; have NEg3_g2 := m5_; clear n0_ n1_ n2_ n3_ n4_ n5_ n6_ m0_ m1_ m2_ m3_ m4_ m5_; clear hb hbox hg; clear hcg1_0 hcg1_1 hcg2_0 hcg2_1; have hcg1_0 : w10.cell? ⟨g1, 0, none⟩ = some (.int .i64 n0) := (blk_cell BKg1.out 0).trans rfl; have hcg1_1 : w10.cell? ⟨g1, 1, none⟩ = some (.slice Ap0_1 l0_1.length cp0_1) := (blk_cell BKg1.out 1).trans rfl; have hcg2_0 : w10.cell? ⟨g2, 0, none⟩ = some (.slice Ap1_0 l1_0.length cp1_0) := (blk_cell BKg2.out 0).trans rfl; have hcg2_1 : w10.cell? ⟨g2, 1, none⟩ = some (.slice Ap1_1 l1_1.length cp1_1) := (blk_cell BKg2.out 1).trans rfl; have hcg3_0 : w10.cell? ⟨g3, 0, none⟩ = some (.int .i64 0) := (blk_cell BKg3.out 0).trans rfl; have hfg3_0 := blk_frozen BKg3.out 0; have hcg3_1 : w10.cell? ⟨g3, 1, none⟩ = some (.slice none 0 0) := (blk_cell BKg3.out 1).trans rfl; have hfg3_1 := blk_frozen BKg3.out 1) | ((with_reducible refine gate_store (t := 27) (p := 7) rfl ?_); refine store_event (t := 27) (p := 7) (v := ?vo_w11) (w1 := (w10.setCell ⟨g3, 0, none⟩ (.int .i64 n0)).setCell ⟨g3, 1, none⟩ (.slice A4 l0_1.length c4)) ?hg ?ho ?hn ?hr ?_; (case ho => rfl); (case hg => rfl); (case hn => rfl); (case hr => first | (go_simp; done) | (go_simp; rfl)); intro w11 hw; have n0_ := Aside0.mk ((by rw [hw]; exact below_st2 HB.out GEg3.out : Below w.heap.size w w11)); have n1_ := Aside0.mk ((by rw [hw]; exact blk_st2f BKg1.out NEg1_g3.out : w11.heap[g1]? = some (.cells #[.int .i64 n0, .slice Ap0_1 l0_1.length cp0_1] 24 (0, 0)))); have n2_ := Aside0.mk ((by rw [hw]; exact blk_st2f BKg2.out NEg2_g3.out : w11.heap[g2]? = some (.cells #[.slice Ap1_0 l1_0.length cp1_0, .slice Ap1_1 l1_1.length cp1_1] 39 (0, 0)))); have n3_ := Aside0.mk ((by rw [hw]; exact blk_st2 BKg3.out : w11.heap[g3]? = some (.cells #[.int .i64 n0, .slice A4 l0_1.length c4] 27 (0, 0)))); have n4_ := Aside0.mk ((by rw [hw]; exact RO_st2 HO1.out BKg3.out (by decide) : RO w11 (.slice A1 (fullOf false l0_1).length c1) (fullOf false l0_1))); have n5_ := Aside0.mk ((by rw [hw]; exact RO_st2 HO2.out BKg3.out (by decide) : RO w11 (.slice A2 (fullOf false l1_0).length c2) (fullOf false l1_0))); have n6_ := Aside0.mk ((by rw [hw]; exact RO_st2 HO3.out BKg3.out (by decide) : RO w11 (.slice A3 (fullOf false l1_1).length c3) (fullOf false l1_1))); have n7_ := Aside0.mk ((by rw [hw]; exact RO_st2 HO4.out BKg3.out (by decide) : RO w11 (.slice A4 (fullOf false l0_1).length c4) (fullOf false l0_1))); clear HB BKg1 BKg2 BKg3 HO1 HO2 HO3 HO4; have HB := n0_; have BKg1 := n1_; have BKg2 := n2_; have BKg3 := n3_; have HO1 := n4_; have HO2 := n5_; have HO3 := n6_; have HO4 := n7_; clear n0_ n1_ n2_ n3_ n4_ n5_ n6_ n7_; clear hw; clear hcg1_0 hcg1_1 hcg2_0 hcg2_1 hcg3_0 hfg3_0 hcg3_1 hfg3_1; have hcg1_0 : w11.cell? ⟨g1, 0, none⟩ = some (.int .i64 n0) := (blk_cell BKg1.out 0).trans rfl; have hcg1_1 : w11.cell? ⟨g1, 1, none⟩ = some (.slice Ap0_1 l0_1.length cp0_1) := (blk_cell BKg1.out 1).trans rfl; have hcg2_0 : w11.cell? ⟨g2, 0, none⟩ = some (.slice Ap1_0 l1_0.length cp1_0) := (blk_cell BKg2.out 0).trans rfl; have hcg2_1 : w11.cell? ⟨g2, 1, none⟩ = some (.slice Ap1_1 l1_1.length cp1_1) := (blk_cell BKg2.out 1).trans rfl; have hcg3_0 : w11.cell? ⟨g3, 0, none⟩ = some (.int .i64 n0) := (blk_cell BKg3.out 0).trans rfl; have hfg3_0 := blk_frozen BKg3.out 0; have hcg3_1 : w11.cell? ⟨g3, 1, none⟩ = some (.slice A4 l0_1.length c4) := (blk_cell BKg3.out 1).trans rfl; have hfg3_1 := blk_frozen BKg3.out 1) | ((with_reducible refine gate_callee (f := 38) rfl ?_); refine goesL_ (some 29) rfl rfl Try.func38 (by kernel_rfl) rfl #[.agg #[.slice Ap1_0 l1_0.length cp1_0, .slice Ap1_1 l1_1.length cp1_1], .bool false] rfl (by (try simp only [List.map_toArray, List.map_cons, List.map_nil]); first | done | rfl) ?_; (with_reducible refine (toRecord_c Ap1_0 cp1_0 l1_0 Ap1_1 cp1_1 l1_1 false _ hl_l1_0 hl_l1_1 (Kd.C_below HRp1_0.out HB.out) HCp1_0.out (Kd.C_below HRp1_1.out HB.out) HCp1_1.out).mono ?_); rintro e w12 ⟨A5, c5, A6, c6, rfl, ho5_, ho6_, hg5_, hg6_, dj5_6_, hb⟩; refine ⟨_, rfl, ?_⟩; have n0_ := Aside0.mk (below_step HB.out hb); have n1_ := Aside0.mk (blk_below BKg1.out hb); have n2_ := Aside0.mk (blk_below BKg2.out hb); have n3_ := Aside0.mk (blk_below BKg3.out hb); have n4_ := Aside0.mk (RO_below HO1.out hb); have n5_ := Aside0.mk (RO_below HO2.out hb); have n6_ := Aside0.mk (RO_below HO3.out hb); have n7_ := Aside0.mk (RO_below HO4.out hb); have m0_ := Aside0.mk (ho5_); have m1_ := Aside0.mk (own_lower hg5_ HB.out); have m2_ := Aside0.mk (RO_new HO1.out hg5_); have m3_ := Aside0.mk (dj_sym (RO_new HO1.out hg5_)); have m4_ := Aside0.mk (RO_new HO2.out hg5_); have m5_ := Aside0.mk (dj_sym (RO_new HO2.out hg5_)); have m6_ := Aside0.mk (RO_new HO3.out hg5_); have m7_ := Aside0.mk (dj_sym (RO_new HO3.out hg5_)); have m8_ := Aside0.mk (RO_new HO4.out hg5_); have m9_ := Aside0.mk (dj_sym (RO_new HO4.out hg5_)); have m10_ := Aside0.mk (ho6_); have m11_ := Aside0.mk (own_lower hg6_ HB.out); have m12_ := Aside0.mk (RO_new HO1.out hg6_); have m13_ := Aside0.mk (dj_sym (RO_new HO1.out hg6_)); have m14_ := Aside0.mk (RO_new HO2.out hg6_); have m15_ := Aside0.mk (dj_sym (RO_new HO2.out hg6_)); have m16_ := Aside0.mk (RO_new HO3.out hg6_); have m17_ := Aside0.mk (dj_sym (RO_new HO3.out hg6_)); have m18_ := Aside0.mk (RO_new HO4.out hg6_); have m19_ := Aside0.mk (dj_sym (RO_new HO4.out hg6_)); have m20_ := Aside0.mk (dj5_6_); have m21_ := Aside0.mk (dj_sym dj5_6_); clear HB BKg1 BKg2 BKg3 HO1 HO2 HO3 HO4; have HB := n0_; have BKg1 := n1_; have BKg2 := n2_; have BKg3 := n3_; have HO1 := n4_; have HO2 := n5_; have HO3 := n6_; have HO4 := n7_; have HO5 := m0_; have GB5 := m1_; have DJ1_5 := m2_; have DJ5_1 := m3_; have DJ2_5 := m4_; have DJ5_2 := m5_; have DJ3_5 := m6_; have DJ5_3 := m7_; have DJ4_5 := m8_; have DJ5_4 := m9_; have HO6 := m10_; have GB6 := m11_; have DJ1_6 := m12_; have DJ6_1 := m13_; have DJ2_6 := m14_; have DJ6_2 := m15_; have DJ3_6 := m16_; have DJ6_3 := m17_; have DJ4_6 := m18_; have DJ6_4 := m19_; have DJ5_6 := m20_; have DJ6_5 := m21_; clear n0_ n1_ n2_ n3_ n4_ n5_ n6_ n7_ m0_ m1_ m2_ m3_ m4_ m5_ m6_ m7_ m8_ m9_ m10_ m11_ m12_ m13_ m14_ m15_ m16_ m17_ m18_ m19_ m20_ m21_; (try clear hb); (try clear ho5_); (try clear hg5_); (try clear ho6_); (try clear hg6_); clear hcg1_0 hcg1_1 hcg2_0 hcg2_1 hcg3_0 hfg3_0 hcg3_1 hfg3_1; have hcg1_0 : w12.cell? ⟨g1, 0, none⟩ = some (.int .i64 n0) := (blk_cell BKg1.out 0).trans rfl; have hcg1_1 : w12.cell? ⟨g1, 1, none⟩ = some (.slice Ap0_1 l0_1.length cp0_1) := (blk_cell BKg1.out 1).trans rfl; have hcg2_0 : w12.cell? ⟨g2, 0, none⟩ = some (.slice Ap1_0 l1_0.length cp1_0) := (blk_cell BKg2.out 0).trans rfl; have hcg2_1 : w12.cell? ⟨g2, 1, none⟩ = some (.slice Ap1_1 l1_1.length cp1_1) := (blk_cell BKg2.out 1).trans rfl; have hcg3_0 : w12.cell? ⟨g3, 0, none⟩ = some (.int .i64 n0) := (blk_cell BKg3.out 0).trans rfl; have hfg3_0 := blk_frozen BKg3.out 0; have hcg3_1 : w12.cell? ⟨g3, 1, none⟩ = some (.slice A4 l0_1.length c4) := (blk_cell BKg3.out 1).trans rfl; have hfg3_1 := blk_frozen BKg3.out 1) | ((with_reducible refine gate_dst (N := 8) rfl ?_); refine box_event ?hg (N := 8) ?hd (cs := #[.slice none 0 0, .slice none 0 0]) (t := 42) ?hr ?_; (case hd => rfl); (case hg => rfl); (case hr => first | (go_simp; done) | (go_simp; rfl)); intro g4 hg w13 hbox hb; have n0_ := Aside0.mk (below_step HB.out hb); have n1_ := Aside0.mk (blk_below BKg1.out hb); have n2_ := Aside0.mk (blk_below BKg2.out hb); have n3_ := Aside0.mk (blk_below BKg3.out hb); have n4_ := Aside0.mk (RO_below HO1.out hb); have n5_ := Aside0.mk (RO_below HO2.out hb); have n6_ := Aside0.mk (RO_below HO3.out hb); have n7_ := Aside0.mk (RO_below HO4.out hb); have n8_ := Aside0.mk (RO_below HO5.out hb); have n9_ := Aside0.mk (RO_below HO6.out hb); have m0_ := Aside0.mk (hbox); have m1_ := Aside0.mk ((by rw [hg]; exact below_size HB.out : w.heap.size ≤ g4)); have m2_ := Aside0.mk ((by rw [hg]; exact Nat.ne_of_lt (blk_lt BKg1.out) : g1 ≠ g4)); have m3_ := Aside0.mk ((by rw [hg]; exact Nat.ne_of_gt (blk_lt BKg1.out) : g4 ≠ g1)); have m4_ := Aside0.mk ((by rw [hg]; exact Nat.ne_of_lt (blk_lt BKg2.out) : g2 ≠ g4)); have m5_ := Aside0.mk ((by rw [hg]; exact Nat.ne_of_gt (blk_lt BKg2.out) : g4 ≠ g2)); have m6_ := Aside0.mk ((by rw [hg]; exact Nat.ne_of_lt (blk_lt BKg3.out) : g3 ≠ g4)); have m7_ := Aside0.mk ((by rw [hg]; exact Nat.ne_of_gt (blk_lt BKg3.out) : g4 ≠ g3)); clear HB BKg1 BKg2 BKg3 HO1 HO2 HO3 HO4 HO5 HO6; have HB := n0_; have BKg1 := n1_; have BKg2 := n2_; have BKg3 := n3_; have HO1 := n4_; have HO2 := n5_; have HO3 := n6_; have HO4 := n7_; have HO5 := n8_; have HO6 := n9_; have BKg4 := m0_; have GEg4 := m1_; have NEg1_g4 := m2_; have NEg4_g1 := m3_; have NEg2_g4 := m4_; have NEg4_g2 := m5_; have NEg3_g4 := m6_; have NEg4_g3 := m7_; clear n0_ n1_ n2_ n3_ n4_ n5_ n6_ n7_ n8_ n9_ m0_ m1_ m2_ m3_ m4_ m5_ m6_ m7_; clear hb hbox hg; clear hcg1_0 hcg1_1 hcg2_0 hcg2_1 hcg3_0 hfg3_0 hcg3_1 hfg3_1; have hcg1_0 : w13.cell? ⟨g1, 0, none⟩ = some (.int .i64 n0) := (blk_cell BKg1.out 0).trans rfl; have hcg1_1 : w13.cell? ⟨g1, 1, none⟩ = some (.slice Ap0_1 l0_1.length cp0_1) := (blk_cell BKg1.out 1).trans rfl; have hcg2_0 : w13.cell? ⟨g2, 0, none⟩ = some (.slice Ap1_0 l1_0.length cp1_0) := (blk_cell BKg2.out 0).trans rfl; have hcg2_1 : w13.cell? ⟨g2, 1, none⟩ = some (.slice Ap1_1 l1_1.length cp1_1) := (blk_cell BKg2.out 1).trans rfl; have hcg3_0 : w13.cell? ⟨g3, 0, none⟩ = some (.int .i64 n0) := (blk_cell BKg3.out 0).trans rfl; have hfg3_0 := blk_frozen BKg3.out 0; have hcg3_1 : w13.cell? ⟨g3, 1, none⟩ = some (.slice A4 l0_1.length c4) := (blk_cell BKg3.out 1).trans rfl; have hfg3_1 := blk_frozen BKg3.out 1; have hcg4_0 : w13.cell? ⟨g4, 0, none⟩ = some (.slice none 0 0) := (blk_cell BKg4.out 0).trans rfl; have hfg4_0 := blk_frozen BKg4.out 0; have hcg4_1 : w13.cell? ⟨g4, 1, none⟩ = some (.slice none 0 0) := (blk_cell BKg4.out 1).trans rfl; have hfg4_1 := blk_frozen BKg4.out 1) | ((with_reducible refine gate_store (t := 42) (p := 8) rfl ?_); refine store_event (t := 42) (p := 8) (v := ?vo_w14) (w1 := (w13.setCell ⟨g4, 0, none⟩ (.slice A5 l1_0.length c5)).setCell ⟨g4, 1, none⟩ (.slice A6 l1_1.length c6)) ?hg ?ho ?hn ?hr ?_; (case ho => rfl); (case hg => rfl); (case hn => rfl); (case hr => first | (go_simp; done) | (go_simp; rfl)); intro w14 hw; have n0_ := Aside0.mk ((by rw [hw]; exact below_st2 HB.out GEg4.out : Below w.heap.size w w14)); have n1_ := Aside0.mk ((by rw [hw]; exact blk_st2f BKg1.out NEg1_g4.out : w14.heap[g1]? = some (.cells #[.int .i64 n0, .slice Ap0_1 l0_1.length cp0_1] 24 (0, 0)))); have n2_ := Aside0.mk ((by rw [hw]; exact blk_st2f BKg2.out NEg2_g4.out : w14.heap[g2]? = some (.cells #[.slice Ap1_0 l1_0.length cp1_0, .slice Ap1_1 l1_1.length cp1_1] 39 (0, 0)))); have n3_ := Aside0.mk ((by rw [hw]; exact blk_st2f BKg3.out NEg3_g4.out : w14.heap[g3]? = some (.cells #[.int .i64 n0, .slice A4 l0_1.length c4] 27 (0, 0)))); have n4_ := Aside0.mk ((by rw [hw]; exact blk_st2 BKg4.out : w14.heap[g4]? = some (.cells #[.slice A5 l1_0.length c5, .slice A6 l1_1.length c6] 42 (0, 0)))); have n5_ := Aside0.mk ((by rw [hw]; exact RO_st2 HO1.out BKg4.out (by decide) : RO w14 (.slice A1 (fullOf false l0_1).length c1) (fullOf false l0_1))); have n6_ := Aside0.mk ((by rw [hw]; exact RO_st2 HO2.out BKg4.out (by decide) : RO w14 (.slice A2 (fullOf false l1_0).length c2) (fullOf false l1_0))); have n7_ := Aside0.mk ((by rw [hw]; exact RO_st2 HO3.out BKg4.out (by decide) : RO w14 (.slice A3 (fullOf false l1_1).length c3) (fullOf false l1_1))); have n8_ := Aside0.mk ((by rw [hw]; exact RO_st2 HO4.out BKg4.out (by decide) : RO w14 (.slice A4 (fullOf false l0_1).length c4) (fullOf false l0_1))); have n9_ := Aside0.mk ((by rw [hw]; exact RO_st2 HO5.out BKg4.out (by decide) : RO w14 (.slice A5 (fullOf false l1_0).length c5) (fullOf false l1_0))); have n10_ := Aside0.mk ((by rw [hw]; exact RO_st2 HO6.out BKg4.out (by decide) : RO w14 (.slice A6 (fullOf false l1_1).length c6) (fullOf false l1_1))); clear HB BKg1 BKg2 BKg3 BKg4 HO1 HO2 HO3 HO4 HO5 HO6; have HB := n0_; have BKg1 := n1_; have BKg2 := n2_; have BKg3 := n3_; have BKg4 := n4_; have HO1 := n5_; have HO2 := n6_; have HO3 := n7_; have HO4 := n8_; have HO5 := n9_; have HO6 := n10_; clear n0_ n1_ n2_ n3_ n4_ n5_ n6_ n7_ n8_ n9_ n10_; clear hw; clear hcg1_0 hcg1_1 hcg2_0 hcg2_1 hcg3_0 hfg3_0 hcg3_1 hfg3_1 hcg4_0 hfg4_0 hcg4_1 hfg4_1; have hcg1_0 : w14.cell? ⟨g1, 0, none⟩ = some (.int .i64 n0) := (blk_cell BKg1.out 0).trans rfl; have hcg1_1 : w14.cell? ⟨g1, 1, none⟩ = some (.slice Ap0_1 l0_1.length cp0_1) := (blk_cell BKg1.out 1).trans rfl; have hcg2_0 : w14.cell? ⟨g2, 0, none⟩ = some (.slice Ap1_0 l1_0.length cp1_0) := (blk_cell BKg2.out 0).trans rfl; have hcg2_1 : w14.cell? ⟨g2, 1, none⟩ = some (.slice Ap1_1 l1_1.length cp1_1) := (blk_cell BKg2.out 1).trans rfl; have hcg3_0 : w14.cell? ⟨g3, 0, none⟩ = some (.int .i64 n0) := (blk_cell BKg3.out 0).trans rfl; have hfg3_0 := blk_frozen BKg3.out 0; have hcg3_1 : w14.cell? ⟨g3, 1, none⟩ = some (.slice A4 l0_1.length c4) := (blk_cell BKg3.out 1).trans rfl; have hfg3_1 := blk_frozen BKg3.out 1; have hcg4_0 : w14.cell? ⟨g4, 0, none⟩ = some (.slice A5 l1_0.length c5) := (blk_cell BKg4.out 0).trans rfl; have hfg4_0 := blk_frozen BKg4.out 0; have hcg4_1 : w14.cell? ⟨g4, 1, none⟩ = some (.slice A6 l1_1.length c6) := (blk_cell BKg4.out 1).trans rfl; have hfg4_1 := blk_frozen BKg4.out 1) | ((with_reducible refine gate_callee (f := 39) rfl ?_); refine goesL_ (some 32) rfl rfl Try.func39 (by kernel_rfl) rfl #[.agg #[.int .i64 n0, .slice A4 l0_1.length c4], .agg #[.slice A5 l1_0.length c5, .slice A6 l1_1.length c6]] rfl (by (try simp only [List.map_toArray, List.map_cons, List.map_nil]); first | done | rfl) ?_; (with_reducible refine (Go.Proofs.Ytilanbgciofkjaa.PA.impl_FirstMistake.calls ki (n0) A4 c4 l0_1 A5 c5 l1_0 A6 c6 l1_1 r _ (RO_Ct HO4.out (fullOf_take _ _) (fullOf_len _ _)) (Nat.le_trans (fullOf_len _ _) (RO_le HO4.out)) (RO_Ct HO5.out (fullOf_take _ _) (fullOf_len _ _)) (Nat.le_trans (fullOf_len _ _) (RO_le HO5.out)) (RO_Ct HO6.out (fullOf_take _ _) (fullOf_len _ _)) (Nat.le_trans (fullOf_len _ _) (RO_le HO6.out)) HI.out).mono ?_); rintro e w15 ⟨rfl, hb⟩; refine ⟨_, rfl, ?_⟩; have n0_ := Aside0.mk (below_step HB.out hb); have n1_ := Aside0.mk (blk_below BKg1.out hb); have n2_ := Aside0.mk (blk_below BKg2.out hb); have n3_ := Aside0.mk (blk_below BKg3.out hb); have n4_ := Aside0.mk (blk_below BKg4.out hb); have n5_ := Aside0.mk (RO_below HO1.out hb); have n6_ := Aside0.mk (RO_below HO2.out hb); have n7_ := Aside0.mk (RO_below HO3.out hb); have n8_ := Aside0.mk (RO_below HO4.out hb); have n9_ := Aside0.mk (RO_below HO5.out hb); have n10_ := Aside0.mk (RO_below HO6.out hb); clear HB BKg1 BKg2 BKg3 BKg4 HO1 HO2 HO3 HO4 HO5 HO6; have HB := n0_; have BKg1 := n1_; have BKg2 := n2_; have BKg3 := n3_; have BKg4 := n4_; have HO1 := n5_; have HO2 := n6_; have HO3 := n7_; have HO4 := n8_; have HO5 := n9_; have HO6 := n10_; clear n0_ n1_ n2_ n3_ n4_ n5_ n6_ n7_ n8_ n9_ n10_; (try clear hb); clear hcg1_0 hcg1_1 hcg2_0 hcg2_1 hcg3_0 hfg3_0 hcg3_1 hfg3_1 hcg4_0 hfg4_0 hcg4_1 hfg4_1; have hcg1_0 : w15.cell? ⟨g1, 0, none⟩ = some (.int .i64 n0) := (blk_cell BKg1.out 0).trans rfl; have hcg1_1 : w15.cell? ⟨g1, 1, none⟩ = some (.slice Ap0_1 l0_1.length cp0_1) := (blk_cell BKg1.out 1).trans rfl; have hcg2_0 : w15.cell? ⟨g2, 0, none⟩ = some (.slice Ap1_0 l1_0.length cp1_0) := (blk_cell BKg2.out 0).trans rfl; have hcg2_1 : w15.cell? ⟨g2, 1, none⟩ = some (.slice Ap1_1 l1_1.length cp1_1) := (blk_cell BKg2.out 1).trans rfl; have hcg3_0 : w15.cell? ⟨g3, 0, none⟩ = some (.int .i64 n0) := (blk_cell BKg3.out 0).trans rfl; have hfg3_0 := blk_frozen BKg3.out 0; have hcg3_1 : w15.cell? ⟨g3, 1, none⟩ = some (.slice A4 l0_1.length c4) := (blk_cell BKg3.out 1).trans rfl; have hfg3_1 := blk_frozen BKg3.out 1; have hcg4_0 : w15.cell? ⟨g4, 0, none⟩ = some (.slice A5 l1_0.length c5) := (blk_cell BKg4.out 0).trans rfl; have hfg4_0 := blk_frozen BKg4.out 0; have hcg4_1 : w15.cell? ⟨g4, 1, none⟩ = some (.slice A6 l1_1.length c6) := (blk_cell BKg4.out 1).trans rfl; have hfg4_1 := blk_frozen BKg4.out 1))
  clear hcg1_0 hcg1_1 hcg2_0 hcg2_1 hcg3_0 hfg3_0 hcg3_1 hfg3_1 hcg4_0 hfg4_0 hcg4_1 hfg4_1
  have n0_ := Aside0.mk (below_drew1 HB.out)
  have n1_ := Aside0.mk (blk_drew BKg1.out)
  have n2_ := Aside0.mk (blk_drew BKg2.out)
  have n3_ := Aside0.mk (blk_drew BKg3.out)
  have n4_ := Aside0.mk (blk_drew BKg4.out)
  have n5_ := Aside0.mk (RO_drew HO1.out)
  have n6_ := Aside0.mk (RO_drew HO2.out)
  have n7_ := Aside0.mk (RO_drew HO3.out)
  have n8_ := Aside0.mk (RO_drew HO4.out)
  have n9_ := Aside0.mk (RO_drew HO5.out)
  have n10_ := Aside0.mk (RO_drew HO6.out)
  clear HB BKg1 BKg2 BKg3 BKg4 HO1 HO2 HO3 HO4 HO5 HO6
  have HB := n0_
  have BKg1 := n1_
  have BKg2 := n2_
  have BKg3 := n3_
  have BKg4 := n4_
  have HO1 := n5_
  have HO2 := n6_
  have HO3 := n7_
  have HO4 := n8_
  have HO5 := n9_
  have HO6 := n10_
  clear n0_ n1_ n2_ n3_ n4_ n5_ n6_ n7_ n8_ n9_ n10_
  refine start_ (n := 5) (S := fun w' => w'.cell? ⟨g1, 0, none⟩ = some (.int .i64 n0) ∧ w'.cell? ⟨g1, 1, none⟩ = some (.slice Ap0_1 l0_1.length cp0_1) ∧ w'.cell? ⟨g2, 0, none⟩ = some (.slice Ap1_0 l1_0.length cp1_0) ∧ w'.cell? ⟨g2, 1, none⟩ = some (.slice Ap1_1 l1_1.length cp1_1) ∧ w'.cell? ⟨g3, 0, none⟩ = some (.int .i64 n0) ∧ w'.cell? ⟨g3, 1, none⟩ = some (.slice A4 l0_1.length c4) ∧ w'.cell? ⟨g4, 0, none⟩ = some (.slice A5 l1_0.length c5) ∧ w'.cell? ⟨g4, 1, none⟩ = some (.slice A6 l1_1.length c6)) (ds := []) #[false, false, false, false, false] (by kernel_rfl) rfl rfl ⟨(blk_cell BKg1.out 0).trans rfl, (blk_cell BKg1.out 1).trans rfl, (blk_cell BKg2.out 0).trans rfl, (blk_cell BKg2.out 1).trans rfl, (blk_cell BKg3.out 0).trans rfl, (blk_cell BKg3.out 1).trans rfl, (blk_cell BKg4.out 0).trans rfl, (blk_cell BKg4.out 1).trans rfl⟩ (fun hHeld => ?_)
  generalize w15.drew = w16 at HB BKg1 BKg2 BKg3 BKg4 HO1 HO2 HO3 HO4 HO5 HO6 hHeld ⊢
  refine take_ (i := 0) (N := some 36) (v := ?_) (a' := ?_) #[true, false, false, false, false] rfl rfl (by kernel_rfl) (fun _ _ _ h => h) (Or.inl ⟨by rfl, ?_⟩) hHeld ?_ ?_
  rotate_left
  · rintro w' ⟨s0, s1, s2, s3, s4, s5, s6, s7⟩
    go_simp
    with_reducible rfl
  rotate_left
  · simp only [Act.put, List.setIfInBounds_toArray, List.set_cons_zero, List.set_cons_succ, i64_w, i32_w]
    rfl
  refine take_ (i := 1) (N := some 37) (v := ?_) (a' := ?_) #[true, true, false, false, false] rfl rfl (by kernel_rfl) (fun _ _ _ h => h) (Or.inl ⟨by rfl, ?_⟩) hHeld ?_ ?_
  rotate_left
  · rintro w' ⟨s0, s1, s2, s3, s4, s5, s6, s7⟩
    go_simp
    with_reducible rfl
  rotate_left
  · simp only [Act.put, List.setIfInBounds_toArray, List.set_cons_zero, List.set_cons_succ, i64_w, i32_w]
    rfl
  refine one_ (i := 2) (N := some 38) #[true, true, true, false, false] rfl rfl (by kernel_rfl) (by decide) (fun K hK => ?_)
  refine goes_ Try.func17 (by kernel_rfl) rfl #[.agg #[.int .i64 n0, .slice Ap0_1 l0_1.length cp0_1], .bool false] (by rfl) rfl rfl (by (try simp only [List.map_toArray, List.map_cons, List.map_nil]); first | done | rfl) ?_
  (with_reducible refine (toGraph_c n0 Ap0_1 cp0_1 l0_1 false _ hl_l0_1 (Kd.C_below HRp0_1.out HB.out) HCp0_1.out).mono ?_)
  rintro e w17 ⟨A7, c7, rfl, ho7_, hg7_, hb⟩
  refine ⟨_, rfl, ?_⟩
  have n0_ := Aside0.mk (below_step HB.out hb)
  have n1_ := Aside0.mk (blk_below BKg1.out hb)
  have n2_ := Aside0.mk (blk_below BKg2.out hb)
  have n3_ := Aside0.mk (blk_below BKg3.out hb)
  have n4_ := Aside0.mk (blk_below BKg4.out hb)
  have n5_ := Aside0.mk (RO_below HO1.out hb)
  have n6_ := Aside0.mk (RO_below HO2.out hb)
  have n7_ := Aside0.mk (RO_below HO3.out hb)
  have n8_ := Aside0.mk (RO_below HO4.out hb)
  have n9_ := Aside0.mk (RO_below HO5.out hb)
  have n10_ := Aside0.mk (RO_below HO6.out hb)
  have m0_ := Aside0.mk (ho7_)
  have m1_ := Aside0.mk (own_lower hg7_ HB.out)
  have m2_ := Aside0.mk (RO_new HO1.out hg7_)
  have m3_ := Aside0.mk (dj_sym (RO_new HO1.out hg7_))
  have m4_ := Aside0.mk (RO_new HO2.out hg7_)
  have m5_ := Aside0.mk (dj_sym (RO_new HO2.out hg7_))
  have m6_ := Aside0.mk (RO_new HO3.out hg7_)
  have m7_ := Aside0.mk (dj_sym (RO_new HO3.out hg7_))
  have m8_ := Aside0.mk (RO_new HO4.out hg7_)
  have m9_ := Aside0.mk (dj_sym (RO_new HO4.out hg7_))
  have m10_ := Aside0.mk (RO_new HO5.out hg7_)
  have m11_ := Aside0.mk (dj_sym (RO_new HO5.out hg7_))
  have m12_ := Aside0.mk (RO_new HO6.out hg7_)
  have m13_ := Aside0.mk (dj_sym (RO_new HO6.out hg7_))
  clear HB BKg1 BKg2 BKg3 BKg4 HO1 HO2 HO3 HO4 HO5 HO6
  have HB := n0_
  have BKg1 := n1_
  have BKg2 := n2_
  have BKg3 := n3_
  have BKg4 := n4_
  have HO1 := n5_
  have HO2 := n6_
  have HO3 := n7_
  have HO4 := n8_
  have HO5 := n9_
  have HO6 := n10_
  have HO7 := m0_
  have GB7 := m1_
  have DJ1_7 := m2_
  have DJ7_1 := m3_
  have DJ2_7 := m4_
  have DJ7_2 := m5_
  have DJ3_7 := m6_
  have DJ7_3 := m7_
  have DJ4_7 := m8_
  have DJ7_4 := m9_
  have DJ5_7 := m10_
  have DJ7_5 := m11_
  have DJ6_7 := m12_
  have DJ7_6 := m13_
  clear n0_ n1_ n2_ n3_ n4_ n5_ n6_ n7_ n8_ n9_ n10_ m0_ m1_ m2_ m3_ m4_ m5_ m6_ m7_ m8_ m9_ m10_ m11_ m12_ m13_
  (try clear hb)
  (try clear ho7_)
  (try clear hg7_)
  refine hK.out _ _ ⟨(blk_cell BKg1.out 0).trans rfl, (blk_cell BKg1.out 1).trans rfl, (blk_cell BKg2.out 0).trans rfl, (blk_cell BKg2.out 1).trans rfl, (blk_cell BKg3.out 0).trans rfl, (blk_cell BKg3.out 1).trans rfl, (blk_cell BKg4.out 0).trans rfl, (blk_cell BKg4.out 1).trans rfl⟩ (fun hHeld => ?_)
  clear hK K
  refine norm_ (a' := ?_) ?_ ?_
  rotate_left
  · show Act.put _ (some 38) _ = _
    simp only [Act.put, List.setIfInBounds_toArray, List.set_cons_zero, List.set_cons_succ, i64_w, i32_w]
    rfl
  refine one_ (i := 3) (N := some 39) #[true, true, true, true, false] rfl rfl (by kernel_rfl) (by decide) (fun K hK => ?_)
  refine goes_ Try.func19 (by kernel_rfl) rfl #[.agg #[.int .i64 n0, .slice A4 l0_1.length c4], .agg #[.int .i64 n0, .slice A7 l0_1.length c7]] (by rfl) rfl rfl (by (try simp only [List.map_toArray, List.map_cons, List.map_nil]); first | done | rfl) ?_
  (with_reducible refine (intactGraph_c n0 A4 c4 A7 c7 l0_1 _ hl_l0_1 HO4.out HO7.out).mono ?_)
  rintro e w18 ⟨rfl, hb⟩
  refine ⟨_, rfl, ?_⟩
  have n0_ := Aside0.mk (below_step HB.out hb)
  have n1_ := Aside0.mk (blk_below BKg1.out hb)
  have n2_ := Aside0.mk (blk_below BKg2.out hb)
  have n3_ := Aside0.mk (blk_below BKg3.out hb)
  have n4_ := Aside0.mk (blk_below BKg4.out hb)
  have n5_ := Aside0.mk (RO_below HO1.out hb)
  have n6_ := Aside0.mk (RO_below HO2.out hb)
  have n7_ := Aside0.mk (RO_below HO3.out hb)
  have n8_ := Aside0.mk (RO_below HO4.out hb)
  have n9_ := Aside0.mk (RO_below HO5.out hb)
  have n10_ := Aside0.mk (RO_below HO6.out hb)
  have n11_ := Aside0.mk (RO_below HO7.out hb)
  clear HB BKg1 BKg2 BKg3 BKg4 HO1 HO2 HO3 HO4 HO5 HO6 HO7
  have HB := n0_
  have BKg1 := n1_
  have BKg2 := n2_
  have BKg3 := n3_
  have BKg4 := n4_
  have HO1 := n5_
  have HO2 := n6_
  have HO3 := n7_
  have HO4 := n8_
  have HO5 := n9_
  have HO6 := n10_
  have HO7 := n11_
  clear n0_ n1_ n2_ n3_ n4_ n5_ n6_ n7_ n8_ n9_ n10_ n11_
  (try clear hb)
  refine hK.out _ _ ⟨(blk_cell BKg1.out 0).trans rfl, (blk_cell BKg1.out 1).trans rfl, (blk_cell BKg2.out 0).trans rfl, (blk_cell BKg2.out 1).trans rfl, (blk_cell BKg3.out 0).trans rfl, (blk_cell BKg3.out 1).trans rfl, (blk_cell BKg4.out 0).trans rfl, (blk_cell BKg4.out 1).trans rfl⟩ (fun hHeld => ?_)
  clear hK K
  refine norm_ (a' := ?_) ?_ ?_
  rotate_left
  · show Act.put _ (some 39) _ = _
    simp only [Act.put, List.setIfInBounds_toArray, List.set_cons_zero, List.set_cons_succ, i64_w, i32_w]
    rfl
  refine pure_ (i := 4) (N := some 40) (v := ?_) (a' := ?_) #[true, true, true, true, true] rfl rfl (by kernel_rfl) (fun _ _ _ h => h) (Or.inl ⟨by rfl, ?_⟩) ?_ ?_
  rotate_left
  · intro w'
    go_simp
    with_reducible rfl
  rotate_left
  · simp only [Act.put, List.setIfInBounds_toArray, List.set_cons_zero, List.set_cons_succ, i64_w, i32_w]
    rfl
  refine done_ (by kernel_rfl) ?_
  have hcg1_0 : w18.cell? ⟨g1, 0, none⟩ = some (.int .i64 n0) := (blk_cell BKg1.out 0).trans rfl
  have hcg1_1 : w18.cell? ⟨g1, 1, none⟩ = some (.slice Ap0_1 l0_1.length cp0_1) := (blk_cell BKg1.out 1).trans rfl
  have hcg2_0 : w18.cell? ⟨g2, 0, none⟩ = some (.slice Ap1_0 l1_0.length cp1_0) := (blk_cell BKg2.out 0).trans rfl
  have hcg2_1 : w18.cell? ⟨g2, 1, none⟩ = some (.slice Ap1_1 l1_1.length cp1_1) := (blk_cell BKg2.out 1).trans rfl
  have hcg3_0 : w18.cell? ⟨g3, 0, none⟩ = some (.int .i64 n0) := (blk_cell BKg3.out 0).trans rfl
  have hfg3_0 := blk_frozen BKg3.out 0
  have hcg3_1 : w18.cell? ⟨g3, 1, none⟩ = some (.slice A4 l0_1.length c4) := (blk_cell BKg3.out 1).trans rfl
  have hfg3_1 := blk_frozen BKg3.out 1
  have hcg4_0 : w18.cell? ⟨g4, 0, none⟩ = some (.slice A5 l1_0.length c5) := (blk_cell BKg4.out 0).trans rfl
  have hfg4_0 := blk_frozen BKg4.out 0
  have hcg4_1 : w18.cell? ⟨g4, 1, none⟩ = some (.slice A6 l1_1.length c6) := (blk_cell BKg4.out 1).trans rfl
  have hfg4_1 := blk_frozen BKg4.out 1
  go_wp2
  clear hcg1_0 hcg1_1 hcg2_0 hcg2_1 hcg3_0 hfg3_0 hcg3_1 hfg3_1 hcg4_0 hfg4_0 hcg4_1 hfg4_1
  have n0_ := Aside0.mk (below_drew1 HB.out)
  have n1_ := Aside0.mk (blk_drew BKg1.out)
  have n2_ := Aside0.mk (blk_drew BKg2.out)
  have n3_ := Aside0.mk (blk_drew BKg3.out)
  have n4_ := Aside0.mk (blk_drew BKg4.out)
  have n5_ := Aside0.mk (RO_drew HO1.out)
  have n6_ := Aside0.mk (RO_drew HO2.out)
  have n7_ := Aside0.mk (RO_drew HO3.out)
  have n8_ := Aside0.mk (RO_drew HO4.out)
  have n9_ := Aside0.mk (RO_drew HO5.out)
  have n10_ := Aside0.mk (RO_drew HO6.out)
  have n11_ := Aside0.mk (RO_drew HO7.out)
  clear HB BKg1 BKg2 BKg3 BKg4 HO1 HO2 HO3 HO4 HO5 HO6 HO7
  have HB := n0_
  have BKg1 := n1_
  have BKg2 := n2_
  have BKg3 := n3_
  have BKg4 := n4_
  have HO1 := n5_
  have HO2 := n6_
  have HO3 := n7_
  have HO4 := n8_
  have HO5 := n9_
  have HO6 := n10_
  have HO7 := n11_
  clear n0_ n1_ n2_ n3_ n4_ n5_ n6_ n7_ n8_ n9_ n10_ n11_
  refine start_ (n := 5) (S := fun w' => w'.cell? ⟨g1, 0, none⟩ = some (.int .i64 n0) ∧ w'.cell? ⟨g1, 1, none⟩ = some (.slice Ap0_1 l0_1.length cp0_1) ∧ w'.cell? ⟨g2, 0, none⟩ = some (.slice Ap1_0 l1_0.length cp1_0) ∧ w'.cell? ⟨g2, 1, none⟩ = some (.slice Ap1_1 l1_1.length cp1_1) ∧ w'.cell? ⟨g3, 0, none⟩ = some (.int .i64 n0) ∧ w'.cell? ⟨g3, 1, none⟩ = some (.slice A4 l0_1.length c4) ∧ w'.cell? ⟨g4, 0, none⟩ = some (.slice A5 l1_0.length c5) ∧ w'.cell? ⟨g4, 1, none⟩ = some (.slice A6 l1_1.length c6)) (ds := []) #[false, false, false, false, false] (by kernel_rfl) rfl rfl ⟨(blk_cell BKg1.out 0).trans rfl, (blk_cell BKg1.out 1).trans rfl, (blk_cell BKg2.out 0).trans rfl, (blk_cell BKg2.out 1).trans rfl, (blk_cell BKg3.out 0).trans rfl, (blk_cell BKg3.out 1).trans rfl, (blk_cell BKg4.out 0).trans rfl, (blk_cell BKg4.out 1).trans rfl⟩ (fun hHeld => ?_)
  generalize w18.drew = w19 at HB BKg1 BKg2 BKg3 BKg4 HO1 HO2 HO3 HO4 HO5 HO6 HO7 hHeld ⊢
  refine take_ (i := 0) (N := some 41) (v := ?_) (a' := ?_) #[true, false, false, false, false] rfl rfl (by kernel_rfl) (fun _ _ _ h => h) (Or.inl ⟨by rfl, ?_⟩) hHeld ?_ ?_
  rotate_left
  · rintro w' ⟨s0, s1, s2, s3, s4, s5, s6, s7⟩
    go_simp
    with_reducible rfl
  rotate_left
  · simp only [Act.put, List.setIfInBounds_toArray, List.set_cons_zero, List.set_cons_succ, i64_w, i32_w]
    rfl
  refine take_ (i := 1) (N := some 42) (v := ?_) (a' := ?_) #[true, true, false, false, false] rfl rfl (by kernel_rfl) (fun _ _ _ h => h) (Or.inl ⟨by rfl, ?_⟩) hHeld ?_ ?_
  rotate_left
  · rintro w' ⟨s0, s1, s2, s3, s4, s5, s6, s7⟩
    go_simp
    with_reducible rfl
  rotate_left
  · simp only [Act.put, List.setIfInBounds_toArray, List.set_cons_zero, List.set_cons_succ, i64_w, i32_w]
    rfl
  refine one_ (i := 2) (N := some 43) #[true, true, true, false, false] rfl rfl (by kernel_rfl) (by decide) (fun K hK => ?_)
  refine goes_ Try.func38 (by kernel_rfl) rfl #[.agg #[.slice Ap1_0 l1_0.length cp1_0, .slice Ap1_1 l1_1.length cp1_1], .bool false] (by rfl) rfl rfl (by (try simp only [List.map_toArray, List.map_cons, List.map_nil]); first | done | rfl) ?_
  (with_reducible refine (toRecord_c Ap1_0 cp1_0 l1_0 Ap1_1 cp1_1 l1_1 false _ hl_l1_0 hl_l1_1 (Kd.C_below HRp1_0.out HB.out) HCp1_0.out (Kd.C_below HRp1_1.out HB.out) HCp1_1.out).mono ?_)
  rintro e w20 ⟨A8, c8, A9, c9, rfl, ho8_, ho9_, hg8_, hg9_, dj8_9_, hb⟩
  refine ⟨_, rfl, ?_⟩
  have n0_ := Aside0.mk (below_step HB.out hb)
  have n1_ := Aside0.mk (blk_below BKg1.out hb)
  have n2_ := Aside0.mk (blk_below BKg2.out hb)
  have n3_ := Aside0.mk (blk_below BKg3.out hb)
  have n4_ := Aside0.mk (blk_below BKg4.out hb)
  have n5_ := Aside0.mk (RO_below HO1.out hb)
  have n6_ := Aside0.mk (RO_below HO2.out hb)
  have n7_ := Aside0.mk (RO_below HO3.out hb)
  have n8_ := Aside0.mk (RO_below HO4.out hb)
  have n9_ := Aside0.mk (RO_below HO5.out hb)
  have n10_ := Aside0.mk (RO_below HO6.out hb)
  have n11_ := Aside0.mk (RO_below HO7.out hb)
  have m0_ := Aside0.mk (ho8_)
  have m1_ := Aside0.mk (own_lower hg8_ HB.out)
  have m2_ := Aside0.mk (RO_new HO1.out hg8_)
  have m3_ := Aside0.mk (dj_sym (RO_new HO1.out hg8_))
  have m4_ := Aside0.mk (RO_new HO2.out hg8_)
  have m5_ := Aside0.mk (dj_sym (RO_new HO2.out hg8_))
  have m6_ := Aside0.mk (RO_new HO3.out hg8_)
  have m7_ := Aside0.mk (dj_sym (RO_new HO3.out hg8_))
  have m8_ := Aside0.mk (RO_new HO4.out hg8_)
  have m9_ := Aside0.mk (dj_sym (RO_new HO4.out hg8_))
  have m10_ := Aside0.mk (RO_new HO5.out hg8_)
  have m11_ := Aside0.mk (dj_sym (RO_new HO5.out hg8_))
  have m12_ := Aside0.mk (RO_new HO6.out hg8_)
  have m13_ := Aside0.mk (dj_sym (RO_new HO6.out hg8_))
  have m14_ := Aside0.mk (RO_new HO7.out hg8_)
  have m15_ := Aside0.mk (dj_sym (RO_new HO7.out hg8_))
  have m16_ := Aside0.mk (ho9_)
  have m17_ := Aside0.mk (own_lower hg9_ HB.out)
  have m18_ := Aside0.mk (RO_new HO1.out hg9_)
  have m19_ := Aside0.mk (dj_sym (RO_new HO1.out hg9_))
  have m20_ := Aside0.mk (RO_new HO2.out hg9_)
  have m21_ := Aside0.mk (dj_sym (RO_new HO2.out hg9_))
  have m22_ := Aside0.mk (RO_new HO3.out hg9_)
  have m23_ := Aside0.mk (dj_sym (RO_new HO3.out hg9_))
  have m24_ := Aside0.mk (RO_new HO4.out hg9_)
  have m25_ := Aside0.mk (dj_sym (RO_new HO4.out hg9_))
  have m26_ := Aside0.mk (RO_new HO5.out hg9_)
  have m27_ := Aside0.mk (dj_sym (RO_new HO5.out hg9_))
  have m28_ := Aside0.mk (RO_new HO6.out hg9_)
  have m29_ := Aside0.mk (dj_sym (RO_new HO6.out hg9_))
  have m30_ := Aside0.mk (RO_new HO7.out hg9_)
  have m31_ := Aside0.mk (dj_sym (RO_new HO7.out hg9_))
  have m32_ := Aside0.mk (dj8_9_)
  have m33_ := Aside0.mk (dj_sym dj8_9_)
  clear HB BKg1 BKg2 BKg3 BKg4 HO1 HO2 HO3 HO4 HO5 HO6 HO7
  have HB := n0_
  have BKg1 := n1_
  have BKg2 := n2_
  have BKg3 := n3_
  have BKg4 := n4_
  have HO1 := n5_
  have HO2 := n6_
  have HO3 := n7_
  have HO4 := n8_
  have HO5 := n9_
  have HO6 := n10_
  have HO7 := n11_
  have HO8 := m0_
  have GB8 := m1_
  have DJ1_8 := m2_
  have DJ8_1 := m3_
  have DJ2_8 := m4_
  have DJ8_2 := m5_
  have DJ3_8 := m6_
  have DJ8_3 := m7_
  have DJ4_8 := m8_
  have DJ8_4 := m9_
  have DJ5_8 := m10_
  have DJ8_5 := m11_
  have DJ6_8 := m12_
  have DJ8_6 := m13_
  have DJ7_8 := m14_
  have DJ8_7 := m15_
  have HO9 := m16_
  have GB9 := m17_
  have DJ1_9 := m18_
  have DJ9_1 := m19_
  have DJ2_9 := m20_
  have DJ9_2 := m21_
  have DJ3_9 := m22_
  have DJ9_3 := m23_
  have DJ4_9 := m24_
  have DJ9_4 := m25_
  have DJ5_9 := m26_
  have DJ9_5 := m27_
  have DJ6_9 := m28_
  have DJ9_6 := m29_
  have DJ7_9 := m30_
  have DJ9_7 := m31_
  have DJ8_9 := m32_
  have DJ9_8 := m33_
  clear n0_ n1_ n2_ n3_ n4_ n5_ n6_ n7_ n8_ n9_ n10_ n11_ m0_ m1_ m2_ m3_ m4_ m5_ m6_ m7_ m8_ m9_ m10_ m11_ m12_ m13_ m14_ m15_ m16_ m17_ m18_ m19_ m20_ m21_ m22_ m23_ m24_ m25_ m26_ m27_ m28_ m29_ m30_ m31_ m32_ m33_
  (try clear hb)
  (try clear ho8_)
  (try clear hg8_)
  (try clear ho9_)
  (try clear hg9_)
  refine hK.out _ _ ⟨(blk_cell BKg1.out 0).trans rfl, (blk_cell BKg1.out 1).trans rfl, (blk_cell BKg2.out 0).trans rfl, (blk_cell BKg2.out 1).trans rfl, (blk_cell BKg3.out 0).trans rfl, (blk_cell BKg3.out 1).trans rfl, (blk_cell BKg4.out 0).trans rfl, (blk_cell BKg4.out 1).trans rfl⟩ (fun hHeld => ?_)
  clear hK K
  refine norm_ (a' := ?_) ?_ ?_
  rotate_left
  · show Act.put _ (some 43) _ = _
    simp only [Act.put, List.setIfInBounds_toArray, List.set_cons_zero, List.set_cons_succ, i64_w, i32_w]
    rfl
  refine one_ (i := 3) (N := some 44) #[true, true, true, true, false] rfl rfl (by kernel_rfl) (by decide) (fun K hK => ?_)
  refine goes_ Try.func40 (by kernel_rfl) rfl #[.agg #[.slice A5 l1_0.length c5, .slice A6 l1_1.length c6], .agg #[.slice A8 l1_0.length c8, .slice A9 l1_1.length c9]] (by rfl) rfl rfl (by (try simp only [List.map_toArray, List.map_cons, List.map_nil]); first | done | rfl) ?_
  (with_reducible refine (intactRecord_c A5 c5 A6 c6 A8 c8 A9 c9 l1_0 l1_1 _ hl_l1_0 hl_l1_1 HO5.out HO6.out HO8.out HO9.out).mono ?_)
  rintro e w21 ⟨rfl, hb⟩
  refine ⟨_, rfl, ?_⟩
  have n0_ := Aside0.mk (below_step HB.out hb)
  have n1_ := Aside0.mk (blk_below BKg1.out hb)
  have n2_ := Aside0.mk (blk_below BKg2.out hb)
  have n3_ := Aside0.mk (blk_below BKg3.out hb)
  have n4_ := Aside0.mk (blk_below BKg4.out hb)
  have n5_ := Aside0.mk (RO_below HO1.out hb)
  have n6_ := Aside0.mk (RO_below HO2.out hb)
  have n7_ := Aside0.mk (RO_below HO3.out hb)
  have n8_ := Aside0.mk (RO_below HO4.out hb)
  have n9_ := Aside0.mk (RO_below HO5.out hb)
  have n10_ := Aside0.mk (RO_below HO6.out hb)
  have n11_ := Aside0.mk (RO_below HO7.out hb)
  have n12_ := Aside0.mk (RO_below HO8.out hb)
  have n13_ := Aside0.mk (RO_below HO9.out hb)
  clear HB BKg1 BKg2 BKg3 BKg4 HO1 HO2 HO3 HO4 HO5 HO6 HO7 HO8 HO9
  have HB := n0_
  have BKg1 := n1_
  have BKg2 := n2_
  have BKg3 := n3_
  have BKg4 := n4_
  have HO1 := n5_
  have HO2 := n6_
  have HO3 := n7_
  have HO4 := n8_
  have HO5 := n9_
  have HO6 := n10_
  have HO7 := n11_
  have HO8 := n12_
  have HO9 := n13_
  clear n0_ n1_ n2_ n3_ n4_ n5_ n6_ n7_ n8_ n9_ n10_ n11_ n12_ n13_
  (try clear hb)
  refine hK.out _ _ ⟨(blk_cell BKg1.out 0).trans rfl, (blk_cell BKg1.out 1).trans rfl, (blk_cell BKg2.out 0).trans rfl, (blk_cell BKg2.out 1).trans rfl, (blk_cell BKg3.out 0).trans rfl, (blk_cell BKg3.out 1).trans rfl, (blk_cell BKg4.out 0).trans rfl, (blk_cell BKg4.out 1).trans rfl⟩ (fun hHeld => ?_)
  clear hK K
  refine norm_ (a' := ?_) ?_ ?_
  rotate_left
  · show Act.put _ (some 44) _ = _
    simp only [Act.put, List.setIfInBounds_toArray, List.set_cons_zero, List.set_cons_succ, i64_w, i32_w]
    rfl
  refine pure_ (i := 4) (N := some 45) (v := ?_) (a' := ?_) #[true, true, true, true, true] rfl rfl (by kernel_rfl) (fun _ _ _ h => h) (Or.inl ⟨by rfl, ?_⟩) ?_ ?_
  rotate_left
  · intro w'
    go_simp
    with_reducible rfl
  rotate_left
  · simp only [Act.put, List.setIfInBounds_toArray, List.set_cons_zero, List.set_cons_succ, i64_w, i32_w]
    rfl
  refine done_ (by kernel_rfl) ?_
  have hcg1_0 : w21.cell? ⟨g1, 0, none⟩ = some (.int .i64 n0) := (blk_cell BKg1.out 0).trans rfl
  have hcg1_1 : w21.cell? ⟨g1, 1, none⟩ = some (.slice Ap0_1 l0_1.length cp0_1) := (blk_cell BKg1.out 1).trans rfl
  have hcg2_0 : w21.cell? ⟨g2, 0, none⟩ = some (.slice Ap1_0 l1_0.length cp1_0) := (blk_cell BKg2.out 0).trans rfl
  have hcg2_1 : w21.cell? ⟨g2, 1, none⟩ = some (.slice Ap1_1 l1_1.length cp1_1) := (blk_cell BKg2.out 1).trans rfl
  have hcg3_0 : w21.cell? ⟨g3, 0, none⟩ = some (.int .i64 n0) := (blk_cell BKg3.out 0).trans rfl
  have hfg3_0 := blk_frozen BKg3.out 0
  have hcg3_1 : w21.cell? ⟨g3, 1, none⟩ = some (.slice A4 l0_1.length c4) := (blk_cell BKg3.out 1).trans rfl
  have hfg3_1 := blk_frozen BKg3.out 1
  have hcg4_0 : w21.cell? ⟨g4, 0, none⟩ = some (.slice A5 l1_0.length c5) := (blk_cell BKg4.out 0).trans rfl
  have hfg4_0 := blk_frozen BKg4.out 0
  have hcg4_1 : w21.cell? ⟨g4, 1, none⟩ = some (.slice A6 l1_1.length c6) := (blk_cell BKg4.out 1).trans rfl
  have hfg4_1 := blk_frozen BKg4.out 1
  go_wp2
  clear hcg1_0 hcg1_1 hcg2_0 hcg2_1 hcg3_0 hfg3_0 hcg3_1 hfg3_1 hcg4_0 hfg4_0 hcg4_1 hfg4_1
  have n0_ := Aside0.mk (below_drew1 HB.out)
  have n1_ := Aside0.mk (blk_drew BKg1.out)
  have n2_ := Aside0.mk (blk_drew BKg2.out)
  have n3_ := Aside0.mk (blk_drew BKg3.out)
  have n4_ := Aside0.mk (blk_drew BKg4.out)
  have n5_ := Aside0.mk (RO_drew HO1.out)
  have n6_ := Aside0.mk (RO_drew HO2.out)
  have n7_ := Aside0.mk (RO_drew HO3.out)
  have n8_ := Aside0.mk (RO_drew HO4.out)
  have n9_ := Aside0.mk (RO_drew HO5.out)
  have n10_ := Aside0.mk (RO_drew HO6.out)
  have n11_ := Aside0.mk (RO_drew HO7.out)
  have n12_ := Aside0.mk (RO_drew HO8.out)
  have n13_ := Aside0.mk (RO_drew HO9.out)
  clear HB BKg1 BKg2 BKg3 BKg4 HO1 HO2 HO3 HO4 HO5 HO6 HO7 HO8 HO9
  have HB := n0_
  have BKg1 := n1_
  have BKg2 := n2_
  have BKg3 := n3_
  have BKg4 := n4_
  have HO1 := n5_
  have HO2 := n6_
  have HO3 := n7_
  have HO4 := n8_
  have HO5 := n9_
  have HO6 := n10_
  have HO7 := n11_
  have HO8 := n12_
  have HO9 := n13_
  clear n0_ n1_ n2_ n3_ n4_ n5_ n6_ n7_ n8_ n9_ n10_ n11_ n12_ n13_
  refine start_ (n := 6) (S := fun w' => w'.cell? ⟨g1, 0, none⟩ = some (.int .i64 n0) ∧ w'.cell? ⟨g1, 1, none⟩ = some (.slice Ap0_1 l0_1.length cp0_1) ∧ w'.cell? ⟨g2, 0, none⟩ = some (.slice Ap1_0 l1_0.length cp1_0) ∧ w'.cell? ⟨g2, 1, none⟩ = some (.slice Ap1_1 l1_1.length cp1_1) ∧ w'.cell? ⟨g3, 0, none⟩ = some (.int .i64 n0) ∧ w'.cell? ⟨g3, 1, none⟩ = some (.slice A4 l0_1.length c4) ∧ w'.cell? ⟨g4, 0, none⟩ = some (.slice A5 l1_0.length c5) ∧ w'.cell? ⟨g4, 1, none⟩ = some (.slice A6 l1_1.length c6)) (ds := []) #[false, false, false, false, false, false] (by kernel_rfl) rfl rfl ⟨(blk_cell BKg1.out 0).trans rfl, (blk_cell BKg1.out 1).trans rfl, (blk_cell BKg2.out 0).trans rfl, (blk_cell BKg2.out 1).trans rfl, (blk_cell BKg3.out 0).trans rfl, (blk_cell BKg3.out 1).trans rfl, (blk_cell BKg4.out 0).trans rfl, (blk_cell BKg4.out 1).trans rfl⟩ (fun hHeld => ?_)
  generalize w21.drew = w22 at HB BKg1 BKg2 BKg3 BKg4 HO1 HO2 HO3 HO4 HO5 HO6 HO7 HO8 HO9 hHeld ⊢
  refine take_ (i := 0) (N := some 46) (v := ?_) (a' := ?_) #[true, false, false, false, false, false] rfl rfl (by kernel_rfl) (fun _ _ _ h => h) (Or.inl ⟨by rfl, ?_⟩) hHeld ?_ ?_
  rotate_left
  · rintro w' ⟨s0, s1, s2, s3, s4, s5, s6, s7⟩
    go_simp
    with_reducible rfl
  rotate_left
  · simp only [Act.put, List.setIfInBounds_toArray, List.set_cons_zero, List.set_cons_succ, i64_w, i32_w]
    rfl
  refine take_ (i := 2) (N := some 48) (v := ?_) (a' := ?_) #[true, false, true, false, false, false] rfl rfl (by kernel_rfl) (fun _ _ _ h => h) (Or.inl ⟨by rfl, ?_⟩) hHeld ?_ ?_
  rotate_left
  · rintro w' ⟨s0, s1, s2, s3, s4, s5, s6, s7⟩
    go_simp
    with_reducible rfl
  rotate_left
  · simp only [Act.put, List.setIfInBounds_toArray, List.set_cons_zero, List.set_cons_succ, i64_w, i32_w]
    rfl
  refine one_ (i := 1) (N := some 47) #[true, true, true, false, false, false] rfl rfl (by kernel_rfl) (by decide) (fun K hK => ?_)
  refine goes_ Try.func17 (by kernel_rfl) rfl #[.agg #[.int .i64 n0, .slice Ap0_1 l0_1.length cp0_1], .bool true] (by rfl) rfl rfl (by (try simp only [List.map_toArray, List.map_cons, List.map_nil]); first | done | rfl) ?_
  (with_reducible refine (toGraph_c n0 Ap0_1 cp0_1 l0_1 true _ hl_l0_1 (Kd.C_below HRp0_1.out HB.out) HCp0_1.out).mono ?_)
  rintro e w23 ⟨A10, c10, rfl, ho10_, hg10_, hb⟩
  refine ⟨_, rfl, ?_⟩
  have n0_ := Aside0.mk (below_step HB.out hb)
  have n1_ := Aside0.mk (blk_below BKg1.out hb)
  have n2_ := Aside0.mk (blk_below BKg2.out hb)
  have n3_ := Aside0.mk (blk_below BKg3.out hb)
  have n4_ := Aside0.mk (blk_below BKg4.out hb)
  have n5_ := Aside0.mk (RO_below HO1.out hb)
  have n6_ := Aside0.mk (RO_below HO2.out hb)
  have n7_ := Aside0.mk (RO_below HO3.out hb)
  have n8_ := Aside0.mk (RO_below HO4.out hb)
  have n9_ := Aside0.mk (RO_below HO5.out hb)
  have n10_ := Aside0.mk (RO_below HO6.out hb)
  have n11_ := Aside0.mk (RO_below HO7.out hb)
  have n12_ := Aside0.mk (RO_below HO8.out hb)
  have n13_ := Aside0.mk (RO_below HO9.out hb)
  have m0_ := Aside0.mk (ho10_)
  have m1_ := Aside0.mk (own_lower hg10_ HB.out)
  have m2_ := Aside0.mk (RO_new HO1.out hg10_)
  have m3_ := Aside0.mk (dj_sym (RO_new HO1.out hg10_))
  have m4_ := Aside0.mk (RO_new HO2.out hg10_)
  have m5_ := Aside0.mk (dj_sym (RO_new HO2.out hg10_))
  have m6_ := Aside0.mk (RO_new HO3.out hg10_)
  have m7_ := Aside0.mk (dj_sym (RO_new HO3.out hg10_))
  have m8_ := Aside0.mk (RO_new HO4.out hg10_)
  have m9_ := Aside0.mk (dj_sym (RO_new HO4.out hg10_))
  have m10_ := Aside0.mk (RO_new HO5.out hg10_)
  have m11_ := Aside0.mk (dj_sym (RO_new HO5.out hg10_))
  have m12_ := Aside0.mk (RO_new HO6.out hg10_)
  have m13_ := Aside0.mk (dj_sym (RO_new HO6.out hg10_))
  have m14_ := Aside0.mk (RO_new HO7.out hg10_)
  have m15_ := Aside0.mk (dj_sym (RO_new HO7.out hg10_))
  have m16_ := Aside0.mk (RO_new HO8.out hg10_)
  have m17_ := Aside0.mk (dj_sym (RO_new HO8.out hg10_))
  have m18_ := Aside0.mk (RO_new HO9.out hg10_)
  have m19_ := Aside0.mk (dj_sym (RO_new HO9.out hg10_))
  clear HB BKg1 BKg2 BKg3 BKg4 HO1 HO2 HO3 HO4 HO5 HO6 HO7 HO8 HO9
  have HB := n0_
  have BKg1 := n1_
  have BKg2 := n2_
  have BKg3 := n3_
  have BKg4 := n4_
  have HO1 := n5_
  have HO2 := n6_
  have HO3 := n7_
  have HO4 := n8_
  have HO5 := n9_
  have HO6 := n10_
  have HO7 := n11_
  have HO8 := n12_
  have HO9 := n13_
  have HO10 := m0_
  have GB10 := m1_
  have DJ1_10 := m2_
  have DJ10_1 := m3_
  have DJ2_10 := m4_
  have DJ10_2 := m5_
  have DJ3_10 := m6_
  have DJ10_3 := m7_
  have DJ4_10 := m8_
  have DJ10_4 := m9_
  have DJ5_10 := m10_
  have DJ10_5 := m11_
  have DJ6_10 := m12_
  have DJ10_6 := m13_
  have DJ7_10 := m14_
  have DJ10_7 := m15_
  have DJ8_10 := m16_
  have DJ10_8 := m17_
  have DJ9_10 := m18_
  have DJ10_9 := m19_
  clear n0_ n1_ n2_ n3_ n4_ n5_ n6_ n7_ n8_ n9_ n10_ n11_ n12_ n13_ m0_ m1_ m2_ m3_ m4_ m5_ m6_ m7_ m8_ m9_ m10_ m11_ m12_ m13_ m14_ m15_ m16_ m17_ m18_ m19_
  (try clear hb)
  (try clear ho10_)
  (try clear hg10_)
  refine hK.out _ _ ⟨(blk_cell BKg1.out 0).trans rfl, (blk_cell BKg1.out 1).trans rfl, (blk_cell BKg2.out 0).trans rfl, (blk_cell BKg2.out 1).trans rfl, (blk_cell BKg3.out 0).trans rfl, (blk_cell BKg3.out 1).trans rfl, (blk_cell BKg4.out 0).trans rfl, (blk_cell BKg4.out 1).trans rfl⟩ (fun hHeld => ?_)
  clear hK K
  refine norm_ (a' := ?_) ?_ ?_
  rotate_left
  · show Act.put _ (some 47) _ = _
    simp only [Act.put, List.setIfInBounds_toArray, List.set_cons_zero, List.set_cons_succ, i64_w, i32_w]
    rfl
  refine one_ (i := 3) (N := some 49) #[true, true, true, true, false, false] rfl rfl (by kernel_rfl) (by decide) (fun K hK => ?_)
  refine goes_ Try.func38 (by kernel_rfl) rfl #[.agg #[.slice Ap1_0 l1_0.length cp1_0, .slice Ap1_1 l1_1.length cp1_1], .bool true] (by rfl) rfl rfl (by (try simp only [List.map_toArray, List.map_cons, List.map_nil]); first | done | rfl) ?_
  (with_reducible refine (toRecord_c Ap1_0 cp1_0 l1_0 Ap1_1 cp1_1 l1_1 true _ hl_l1_0 hl_l1_1 (Kd.C_below HRp1_0.out HB.out) HCp1_0.out (Kd.C_below HRp1_1.out HB.out) HCp1_1.out).mono ?_)
  rintro e w24 ⟨A11, c11, A12, c12, rfl, ho11_, ho12_, hg11_, hg12_, dj11_12_, hb⟩
  refine ⟨_, rfl, ?_⟩
  have n0_ := Aside0.mk (below_step HB.out hb)
  have n1_ := Aside0.mk (blk_below BKg1.out hb)
  have n2_ := Aside0.mk (blk_below BKg2.out hb)
  have n3_ := Aside0.mk (blk_below BKg3.out hb)
  have n4_ := Aside0.mk (blk_below BKg4.out hb)
  have n5_ := Aside0.mk (RO_below HO1.out hb)
  have n6_ := Aside0.mk (RO_below HO2.out hb)
  have n7_ := Aside0.mk (RO_below HO3.out hb)
  have n8_ := Aside0.mk (RO_below HO4.out hb)
  have n9_ := Aside0.mk (RO_below HO5.out hb)
  have n10_ := Aside0.mk (RO_below HO6.out hb)
  have n11_ := Aside0.mk (RO_below HO7.out hb)
  have n12_ := Aside0.mk (RO_below HO8.out hb)
  have n13_ := Aside0.mk (RO_below HO9.out hb)
  have n14_ := Aside0.mk (RO_below HO10.out hb)
  have m0_ := Aside0.mk (ho11_)
  have m1_ := Aside0.mk (own_lower hg11_ HB.out)
  have m2_ := Aside0.mk (RO_new HO1.out hg11_)
  have m3_ := Aside0.mk (dj_sym (RO_new HO1.out hg11_))
  have m4_ := Aside0.mk (RO_new HO2.out hg11_)
  have m5_ := Aside0.mk (dj_sym (RO_new HO2.out hg11_))
  have m6_ := Aside0.mk (RO_new HO3.out hg11_)
  have m7_ := Aside0.mk (dj_sym (RO_new HO3.out hg11_))
  have m8_ := Aside0.mk (RO_new HO4.out hg11_)
  have m9_ := Aside0.mk (dj_sym (RO_new HO4.out hg11_))
  have m10_ := Aside0.mk (RO_new HO5.out hg11_)
  have m11_ := Aside0.mk (dj_sym (RO_new HO5.out hg11_))
  have m12_ := Aside0.mk (RO_new HO6.out hg11_)
  have m13_ := Aside0.mk (dj_sym (RO_new HO6.out hg11_))
  have m14_ := Aside0.mk (RO_new HO7.out hg11_)
  have m15_ := Aside0.mk (dj_sym (RO_new HO7.out hg11_))
  have m16_ := Aside0.mk (RO_new HO8.out hg11_)
  have m17_ := Aside0.mk (dj_sym (RO_new HO8.out hg11_))
  have m18_ := Aside0.mk (RO_new HO9.out hg11_)
  have m19_ := Aside0.mk (dj_sym (RO_new HO9.out hg11_))
  have m20_ := Aside0.mk (RO_new HO10.out hg11_)
  have m21_ := Aside0.mk (dj_sym (RO_new HO10.out hg11_))
  have m22_ := Aside0.mk (ho12_)
  have m23_ := Aside0.mk (own_lower hg12_ HB.out)
  have m24_ := Aside0.mk (RO_new HO1.out hg12_)
  have m25_ := Aside0.mk (dj_sym (RO_new HO1.out hg12_))
  have m26_ := Aside0.mk (RO_new HO2.out hg12_)
  have m27_ := Aside0.mk (dj_sym (RO_new HO2.out hg12_))
  have m28_ := Aside0.mk (RO_new HO3.out hg12_)
  have m29_ := Aside0.mk (dj_sym (RO_new HO3.out hg12_))
  have m30_ := Aside0.mk (RO_new HO4.out hg12_)
  have m31_ := Aside0.mk (dj_sym (RO_new HO4.out hg12_))
  have m32_ := Aside0.mk (RO_new HO5.out hg12_)
  have m33_ := Aside0.mk (dj_sym (RO_new HO5.out hg12_))
  have m34_ := Aside0.mk (RO_new HO6.out hg12_)
  have m35_ := Aside0.mk (dj_sym (RO_new HO6.out hg12_))
  have m36_ := Aside0.mk (RO_new HO7.out hg12_)
  have m37_ := Aside0.mk (dj_sym (RO_new HO7.out hg12_))
  have m38_ := Aside0.mk (RO_new HO8.out hg12_)
  have m39_ := Aside0.mk (dj_sym (RO_new HO8.out hg12_))
  have m40_ := Aside0.mk (RO_new HO9.out hg12_)
  have m41_ := Aside0.mk (dj_sym (RO_new HO9.out hg12_))
  have m42_ := Aside0.mk (RO_new HO10.out hg12_)
  have m43_ := Aside0.mk (dj_sym (RO_new HO10.out hg12_))
  have m44_ := Aside0.mk (dj11_12_)
  have m45_ := Aside0.mk (dj_sym dj11_12_)
  clear HB BKg1 BKg2 BKg3 BKg4 HO1 HO2 HO3 HO4 HO5 HO6 HO7 HO8 HO9 HO10
  have HB := n0_
  have BKg1 := n1_
  have BKg2 := n2_
  have BKg3 := n3_
  have BKg4 := n4_
  have HO1 := n5_
  have HO2 := n6_
  have HO3 := n7_
  have HO4 := n8_
  have HO5 := n9_
  have HO6 := n10_
  have HO7 := n11_
  have HO8 := n12_
  have HO9 := n13_
  have HO10 := n14_
  have HO11 := m0_
  have GB11 := m1_
  have DJ1_11 := m2_
  have DJ11_1 := m3_
  have DJ2_11 := m4_
  have DJ11_2 := m5_
  have DJ3_11 := m6_
  have DJ11_3 := m7_
  have DJ4_11 := m8_
  have DJ11_4 := m9_
  have DJ5_11 := m10_
  have DJ11_5 := m11_
  have DJ6_11 := m12_
  have DJ11_6 := m13_
  have DJ7_11 := m14_
  have DJ11_7 := m15_
  have DJ8_11 := m16_
  have DJ11_8 := m17_
  have DJ9_11 := m18_
  have DJ11_9 := m19_
  have DJ10_11 := m20_
  have DJ11_10 := m21_
  have HO12 := m22_
  have GB12 := m23_
  have DJ1_12 := m24_
  have DJ12_1 := m25_
  have DJ2_12 := m26_
  have DJ12_2 := m27_
  have DJ3_12 := m28_
  have DJ12_3 := m29_
  have DJ4_12 := m30_
  have DJ12_4 := m31_
  have DJ5_12 := m32_
  have DJ12_5 := m33_
  have DJ6_12 := m34_
  have DJ12_6 := m35_
  have DJ7_12 := m36_
  have DJ12_7 := m37_
  have DJ8_12 := m38_
  have DJ12_8 := m39_
  have DJ9_12 := m40_
  have DJ12_9 := m41_
  have DJ10_12 := m42_
  have DJ12_10 := m43_
  have DJ11_12 := m44_
  have DJ12_11 := m45_
  clear n0_ n1_ n2_ n3_ n4_ n5_ n6_ n7_ n8_ n9_ n10_ n11_ n12_ n13_ n14_ m0_ m1_ m2_ m3_ m4_ m5_ m6_ m7_ m8_ m9_ m10_ m11_ m12_ m13_ m14_ m15_ m16_ m17_ m18_ m19_ m20_ m21_ m22_ m23_ m24_ m25_ m26_ m27_ m28_ m29_ m30_ m31_ m32_ m33_ m34_ m35_ m36_ m37_ m38_ m39_ m40_ m41_ m42_ m43_ m44_ m45_
  (try clear hb)
  (try clear ho11_)
  (try clear hg11_)
  (try clear ho12_)
  (try clear hg12_)
  refine hK.out _ _ ⟨(blk_cell BKg1.out 0).trans rfl, (blk_cell BKg1.out 1).trans rfl, (blk_cell BKg2.out 0).trans rfl, (blk_cell BKg2.out 1).trans rfl, (blk_cell BKg3.out 0).trans rfl, (blk_cell BKg3.out 1).trans rfl, (blk_cell BKg4.out 0).trans rfl, (blk_cell BKg4.out 1).trans rfl⟩ (fun hHeld => ?_)
  clear hK K
  refine norm_ (a' := ?_) ?_ ?_
  rotate_left
  · show Act.put _ (some 49) _ = _
    simp only [Act.put, List.setIfInBounds_toArray, List.set_cons_zero, List.set_cons_succ, i64_w, i32_w]
    rfl
  refine one_ (i := 4) (N := some 50) #[true, true, true, true, true, false] rfl rfl (by kernel_rfl) (by decide) (fun K hK => ?_)
  refine goes_ Try.func39 (by kernel_rfl) rfl #[.agg #[.int .i64 n0, .slice A10 l0_1.length c10], .agg #[.slice A11 l1_0.length c11, .slice A12 l1_1.length c12]] (by rfl) rfl rfl (by (try simp only [List.map_toArray, List.map_cons, List.map_nil]); first | done | rfl) ?_
  (with_reducible refine (Go.Proofs.Ytilanbgciofkjaa.PA.impl_FirstMistake.calls ki (n0) A10 c10 l0_1 A11 c11 l1_0 A12 c12 l1_1 r _ (RO_Ct HO10.out (fullOf_take _ _) (fullOf_len _ _)) (Nat.le_trans (fullOf_len _ _) (RO_le HO10.out)) (RO_Ct HO11.out (fullOf_take _ _) (fullOf_len _ _)) (Nat.le_trans (fullOf_len _ _) (RO_le HO11.out)) (RO_Ct HO12.out (fullOf_take _ _) (fullOf_len _ _)) (Nat.le_trans (fullOf_len _ _) (RO_le HO12.out)) HI.out).mono ?_)
  rintro e w25 ⟨rfl, hb⟩
  refine ⟨_, rfl, ?_⟩
  have n0_ := Aside0.mk (below_step HB.out hb)
  have n1_ := Aside0.mk (blk_below BKg1.out hb)
  have n2_ := Aside0.mk (blk_below BKg2.out hb)
  have n3_ := Aside0.mk (blk_below BKg3.out hb)
  have n4_ := Aside0.mk (blk_below BKg4.out hb)
  have n5_ := Aside0.mk (RO_below HO1.out hb)
  have n6_ := Aside0.mk (RO_below HO2.out hb)
  have n7_ := Aside0.mk (RO_below HO3.out hb)
  have n8_ := Aside0.mk (RO_below HO4.out hb)
  have n9_ := Aside0.mk (RO_below HO5.out hb)
  have n10_ := Aside0.mk (RO_below HO6.out hb)
  have n11_ := Aside0.mk (RO_below HO7.out hb)
  have n12_ := Aside0.mk (RO_below HO8.out hb)
  have n13_ := Aside0.mk (RO_below HO9.out hb)
  have n14_ := Aside0.mk (RO_below HO10.out hb)
  have n15_ := Aside0.mk (RO_below HO11.out hb)
  have n16_ := Aside0.mk (RO_below HO12.out hb)
  clear HB BKg1 BKg2 BKg3 BKg4 HO1 HO2 HO3 HO4 HO5 HO6 HO7 HO8 HO9 HO10 HO11 HO12
  have HB := n0_
  have BKg1 := n1_
  have BKg2 := n2_
  have BKg3 := n3_
  have BKg4 := n4_
  have HO1 := n5_
  have HO2 := n6_
  have HO3 := n7_
  have HO4 := n8_
  have HO5 := n9_
  have HO6 := n10_
  have HO7 := n11_
  have HO8 := n12_
  have HO9 := n13_
  have HO10 := n14_
  have HO11 := n15_
  have HO12 := n16_
  clear n0_ n1_ n2_ n3_ n4_ n5_ n6_ n7_ n8_ n9_ n10_ n11_ n12_ n13_ n14_ n15_ n16_
  (try clear hb)
  refine hK.out _ _ ⟨(blk_cell BKg1.out 0).trans rfl, (blk_cell BKg1.out 1).trans rfl, (blk_cell BKg2.out 0).trans rfl, (blk_cell BKg2.out 1).trans rfl, (blk_cell BKg3.out 0).trans rfl, (blk_cell BKg3.out 1).trans rfl, (blk_cell BKg4.out 0).trans rfl, (blk_cell BKg4.out 1).trans rfl⟩ (fun hHeld => ?_)
  clear hK K
  refine norm_ (a' := ?_) ?_ ?_
  rotate_left
  · show Act.put _ (some 50) _ = _
    simp only [Act.put, List.setIfInBounds_toArray, List.set_cons_zero, List.set_cons_succ, i64_w, i32_w]
    rfl
  refine pure_ (i := 5) (N := some 10) (v := ?_) (a' := ?_) #[true, true, true, true, true, true] rfl rfl (by kernel_rfl) (fun _ _ _ h => h) (Or.inl ⟨by rfl, ?_⟩) ?_ ?_
  rotate_left
  · intro w'
    go_simp
    with_reducible rfl
  rotate_left
  · simp only [Act.put, List.setIfInBounds_toArray, List.set_cons_zero, List.set_cons_succ, i64_w, i32_w]
    rfl
  refine done_ (by kernel_rfl) ?_
  have hcg1_0 : w25.cell? ⟨g1, 0, none⟩ = some (.int .i64 n0) := (blk_cell BKg1.out 0).trans rfl
  have hcg1_1 : w25.cell? ⟨g1, 1, none⟩ = some (.slice Ap0_1 l0_1.length cp0_1) := (blk_cell BKg1.out 1).trans rfl
  have hcg2_0 : w25.cell? ⟨g2, 0, none⟩ = some (.slice Ap1_0 l1_0.length cp1_0) := (blk_cell BKg2.out 0).trans rfl
  have hcg2_1 : w25.cell? ⟨g2, 1, none⟩ = some (.slice Ap1_1 l1_1.length cp1_1) := (blk_cell BKg2.out 1).trans rfl
  have hcg3_0 : w25.cell? ⟨g3, 0, none⟩ = some (.int .i64 n0) := (blk_cell BKg3.out 0).trans rfl
  have hfg3_0 := blk_frozen BKg3.out 0
  have hcg3_1 : w25.cell? ⟨g3, 1, none⟩ = some (.slice A4 l0_1.length c4) := (blk_cell BKg3.out 1).trans rfl
  have hfg3_1 := blk_frozen BKg3.out 1
  have hcg4_0 : w25.cell? ⟨g4, 0, none⟩ = some (.slice A5 l1_0.length c5) := (blk_cell BKg4.out 0).trans rfl
  have hfg4_0 := blk_frozen BKg4.out 0
  have hcg4_1 : w25.cell? ⟨g4, 1, none⟩ = some (.slice A6 l1_1.length c6) := (blk_cell BKg4.out 1).trans rfl
  have hfg4_1 := blk_frozen BKg4.out 1
  go_wp2
  go_ret
  exact ⟨rfl, HB.out⟩

set_option maxHeartbeats 4000000 in
set_option maxRecDepth 100000 in
theorem FnExactFirstMistake_big0 (n0 : Int) (Ap0_1 : Option Addr) (cp0_1 : Nat) (l0_1 : List Int) (Ap1_0 : Option Addr) (cp1_0 : Nat) (l1_0 : List Int) (Ap1_1 : Option Addr) (cp1_1 : Nat) (l1_1 : List Int) (w : World) (hr0_1 : Kd.C (Kd.int .i64) w Ap0_1 l0_1.length l0_1) (hc0_1 : l0_1.length ≤ cp0_1) (hr1_0 : Kd.C (Kd.int .i64) w Ap1_0 l1_0.length l1_0) (hc1_0 : l1_0.length ≤ cp1_0) (hr1_1 : Kd.C (Kd.int .i64) w Ap1_1 l1_1.length l1_1) (hc1_1 : l1_1.length ≤ cp1_1) (hm_l0_1 : l0_1.length ≤ 17592186044416) (hm_l1_0 : l1_0.length ≤ 17592186044416) (hm_l1_1 : l1_1.length ≤ 17592186044416) (hbig : 1000000 < (l0_1.length : Int)) :
    Calls Try.prog 10 #[.agg #[.int .i64 n0, .slice Ap0_1 l0_1.length cp0_1], .agg #[.slice Ap1_0 l1_0.length cp1_0, .slice Ap1_1 l1_1.length cp1_1]] w fun e w' => e = .returned (.bool true) ∧ Below w.heap.size w w' := by
  have HRp0_1 := Aside0.mk hr0_1
  have HCp0_1 := Aside0.mk hc0_1
  have HRp1_0 := Aside0.mk hr1_0
  have HCp1_0 := Aside0.mk hc1_0
  have HRp1_1 := Aside0.mk hr1_1
  have HCp1_1 := Aside0.mk hc1_1
  clear hr0_1 hc0_1 hr1_0 hc1_0 hr1_1 hc1_1
  have HB := Aside0.mk (Below.refl w.heap.size w)
  go_enter Try.func10, Try.ntmps10
  go_wp2_with (first | ((with_reducible refine gate_dst (N := 2) rfl ?_); refine box_event ?hg (N := 2) ?hd (cs := #[.int .i64 n0, .slice Ap0_1 l0_1.length cp0_1]) (t := 24) ?hr ?_; (case hd => rfl); (case hg => rfl); (case hr => first | (go_simp; done) | (go_simp; rfl)); intro g1 hg w1 hbox hb; have n0_ := Aside0.mk (below_step HB.out hb); have m0_ := Aside0.mk (hbox); have m1_ := Aside0.mk ((by rw [hg]; exact below_size HB.out : w.heap.size ≤ g1)); clear HB; have HB := n0_; have BKg1 := m0_; have GEg1 := m1_; clear n0_ m0_ m1_; clear hb hbox hg; have hcg1_0 : w1.cell? ⟨g1, 0, none⟩ = some (.int .i64 n0) := (blk_cell BKg1.out 0).trans rfl; have hcg1_1 : w1.cell? ⟨g1, 1, none⟩ = some (.slice Ap0_1 l0_1.length cp0_1) := (blk_cell BKg1.out 1).trans rfl) | ((with_reducible refine gate_dst (N := 3) rfl ?_); refine box_event ?hg (N := 3) ?hd (cs := #[.slice Ap1_0 l1_0.length cp1_0, .slice Ap1_1 l1_1.length cp1_1]) (t := 39) ?hr ?_; (case hd => rfl); (case hg => rfl); (case hr => first | (go_simp; done) | (go_simp; rfl)); intro g2 hg w2 hbox hb; have n0_ := Aside0.mk (below_step HB.out hb); have n1_ := Aside0.mk (blk_below BKg1.out hb); have m0_ := Aside0.mk (hbox); have m1_ := Aside0.mk ((by rw [hg]; exact below_size HB.out : w.heap.size ≤ g2)); have m2_ := Aside0.mk ((by rw [hg]; exact Nat.ne_of_lt (blk_lt BKg1.out) : g1 ≠ g2)); have m3_ := Aside0.mk ((by rw [hg]; exact Nat.ne_of_gt (blk_lt BKg1.out) : g2 ≠ g1)); clear HB BKg1; have HB := n0_; have BKg1 := n1_; have BKg2 := m0_; have GEg2 := m1_; have NEg1_g2 := m2_; have NEg2_g1 := m3_; clear n0_ n1_ m0_ m1_ m2_ m3_; clear hb hbox hg; clear hcg1_0 hcg1_1; have hcg1_0 : w2.cell? ⟨g1, 0, none⟩ = some (.int .i64 n0) := (blk_cell BKg1.out 0).trans rfl; have hcg1_1 : w2.cell? ⟨g1, 1, none⟩ = some (.slice Ap0_1 l0_1.length cp0_1) := (blk_cell BKg1.out 1).trans rfl; have hcg2_0 : w2.cell? ⟨g2, 0, none⟩ = some (.slice Ap1_0 l1_0.length cp1_0) := (blk_cell BKg2.out 0).trans rfl; have hcg2_1 : w2.cell? ⟨g2, 1, none⟩ = some (.slice Ap1_1 l1_1.length cp1_1) := (blk_cell BKg2.out 1).trans rfl) | ((with_reducible refine gate_callee (f := 15) rfl ?_); refine goesL_ (some 13) rfl rfl Try.func15 (by kernel_rfl) rfl #[.agg #[.int .i64 n0, .slice Ap0_1 l0_1.length cp0_1], .int .i64 1000000] rfl (by (try simp only [List.map_toArray, List.map_cons, List.map_nil]); first | done | rfl) ?_; (with_reducible refine (Go.Proofs.Ytilanbgciofkjaa.PH.laws_szGraph.calls n0 Ap0_1 cp0_1 l0_1 (1000000) ((-1)) _ (Kd.C_below HRp0_1.out HB.out) HCp0_1.out (szG_big _ _ _ (by omega) (by omega) (by omega) (by omega))).mono ?_); rintro e w3 ⟨rfl, hb⟩; refine ⟨_, rfl, ?_⟩; have n0_ := Aside0.mk (below_step HB.out hb); have n1_ := Aside0.mk (blk_below BKg1.out hb); have n2_ := Aside0.mk (blk_below BKg2.out hb); clear HB BKg1 BKg2; have HB := n0_; have BKg1 := n1_; have BKg2 := n2_; clear n0_ n1_ n2_; (try clear hb); clear hcg1_0 hcg1_1 hcg2_0 hcg2_1; have hcg1_0 : w3.cell? ⟨g1, 0, none⟩ = some (.int .i64 n0) := (blk_cell BKg1.out 0).trans rfl; have hcg1_1 : w3.cell? ⟨g1, 1, none⟩ = some (.slice Ap0_1 l0_1.length cp0_1) := (blk_cell BKg1.out 1).trans rfl; have hcg2_0 : w3.cell? ⟨g2, 0, none⟩ = some (.slice Ap1_0 l1_0.length cp1_0) := (blk_cell BKg2.out 0).trans rfl; have hcg2_1 : w3.cell? ⟨g2, 1, none⟩ = some (.slice Ap1_1 l1_1.length cp1_1) := (blk_cell BKg2.out 1).trans rfl))
  go_ret
  exact ⟨rfl, HB.out⟩

set_option maxHeartbeats 4000000 in
set_option maxRecDepth 100000 in
theorem FnExactFirstMistake_big1 (n0 : Int) (Ap0_1 : Option Addr) (cp0_1 : Nat) (l0_1 : List Int) (Ap1_0 : Option Addr) (cp1_0 : Nat) (l1_0 : List Int) (Ap1_1 : Option Addr) (cp1_1 : Nat) (l1_1 : List Int) (w : World) (hr0_1 : Kd.C (Kd.int .i64) w Ap0_1 l0_1.length l0_1) (hc0_1 : l0_1.length ≤ cp0_1) (hr1_0 : Kd.C (Kd.int .i64) w Ap1_0 l1_0.length l1_0) (hc1_0 : l1_0.length ≤ cp1_0) (hr1_1 : Kd.C (Kd.int .i64) w Ap1_1 l1_1.length l1_1) (hc1_1 : l1_1.length ≤ cp1_1) (hm_l0_1 : l0_1.length ≤ 17592186044416) (hm_l1_0 : l1_0.length ≤ 17592186044416) (hm_l1_1 : l1_1.length ≤ 17592186044416) (hbig : 1000000 < (l0_1.length : Int) + (l1_0.length : Int) + (l1_1.length : Int)) (hok : (l0_1.length : Int) ≤ 1000000) :
    Calls Try.prog 10 #[.agg #[.int .i64 n0, .slice Ap0_1 l0_1.length cp0_1], .agg #[.slice Ap1_0 l1_0.length cp1_0, .slice Ap1_1 l1_1.length cp1_1]] w fun e w' => e = .returned (.bool true) ∧ Below w.heap.size w w' := by
  have HRp0_1 := Aside0.mk hr0_1
  have HCp0_1 := Aside0.mk hc0_1
  have HRp1_0 := Aside0.mk hr1_0
  have HCp1_0 := Aside0.mk hc1_0
  have HRp1_1 := Aside0.mk hr1_1
  have HCp1_1 := Aside0.mk hc1_1
  clear hr0_1 hc0_1 hr1_0 hc1_0 hr1_1 hc1_1
  have HB := Aside0.mk (Below.refl w.heap.size w)
  go_enter Try.func10, Try.ntmps10
  go_wp2_with (first | ((with_reducible refine gate_dst (N := 2) rfl ?_); refine box_event ?hg (N := 2) ?hd (cs := #[.int .i64 n0, .slice Ap0_1 l0_1.length cp0_1]) (t := 24) ?hr ?_; (case hd => rfl); (case hg => rfl); (case hr => first | (go_simp; done) | (go_simp; rfl)); intro g1 hg w1 hbox hb; have n0_ := Aside0.mk (below_step HB.out hb); have m0_ := Aside0.mk (hbox); have m1_ := Aside0.mk ((by rw [hg]; exact below_size HB.out : w.heap.size ≤ g1)); clear HB; have HB := n0_; have BKg1 := m0_; have GEg1 := m1_; clear n0_ m0_ m1_; clear hb hbox hg; have hcg1_0 : w1.cell? ⟨g1, 0, none⟩ = some (.int .i64 n0) := (blk_cell BKg1.out 0).trans rfl; have hcg1_1 : w1.cell? ⟨g1, 1, none⟩ = some (.slice Ap0_1 l0_1.length cp0_1) := (blk_cell BKg1.out 1).trans rfl) | ((with_reducible refine gate_dst (N := 3) rfl ?_); refine box_event ?hg (N := 3) ?hd (cs := #[.slice Ap1_0 l1_0.length cp1_0, .slice Ap1_1 l1_1.length cp1_1]) (t := 39) ?hr ?_; (case hd => rfl); (case hg => rfl); (case hr => first | (go_simp; done) | (go_simp; rfl)); intro g2 hg w2 hbox hb; have n0_ := Aside0.mk (below_step HB.out hb); have n1_ := Aside0.mk (blk_below BKg1.out hb); have m0_ := Aside0.mk (hbox); have m1_ := Aside0.mk ((by rw [hg]; exact below_size HB.out : w.heap.size ≤ g2)); have m2_ := Aside0.mk ((by rw [hg]; exact Nat.ne_of_lt (blk_lt BKg1.out) : g1 ≠ g2)); have m3_ := Aside0.mk ((by rw [hg]; exact Nat.ne_of_gt (blk_lt BKg1.out) : g2 ≠ g1)); clear HB BKg1; have HB := n0_; have BKg1 := n1_; have BKg2 := m0_; have GEg2 := m1_; have NEg1_g2 := m2_; have NEg2_g1 := m3_; clear n0_ n1_ m0_ m1_ m2_ m3_; clear hb hbox hg; clear hcg1_0 hcg1_1; have hcg1_0 : w2.cell? ⟨g1, 0, none⟩ = some (.int .i64 n0) := (blk_cell BKg1.out 0).trans rfl; have hcg1_1 : w2.cell? ⟨g1, 1, none⟩ = some (.slice Ap0_1 l0_1.length cp0_1) := (blk_cell BKg1.out 1).trans rfl; have hcg2_0 : w2.cell? ⟨g2, 0, none⟩ = some (.slice Ap1_0 l1_0.length cp1_0) := (blk_cell BKg2.out 0).trans rfl; have hcg2_1 : w2.cell? ⟨g2, 1, none⟩ = some (.slice Ap1_1 l1_1.length cp1_1) := (blk_cell BKg2.out 1).trans rfl) | ((with_reducible refine gate_callee (f := 15) rfl ?_); refine goesL_ (some 13) rfl rfl Try.func15 (by kernel_rfl) rfl #[.agg #[.int .i64 n0, .slice Ap0_1 l0_1.length cp0_1], .int .i64 1000000] rfl (by (try simp only [List.map_toArray, List.map_cons, List.map_nil]); first | done | rfl) ?_; (with_reducible refine (Go.Proofs.Ytilanbgciofkjaa.PH.laws_szGraph.calls n0 Ap0_1 cp0_1 l0_1 (1000000) (1000000 - (l0_1.length : Int)) _ (Kd.C_below HRp0_1.out HB.out) HCp0_1.out (szG_ok _ _ _ (by omega) (by omega))).mono ?_); rintro e w3 ⟨rfl, hb⟩; refine ⟨_, rfl, ?_⟩; have n0_ := Aside0.mk (below_step HB.out hb); have n1_ := Aside0.mk (blk_below BKg1.out hb); have n2_ := Aside0.mk (blk_below BKg2.out hb); clear HB BKg1 BKg2; have HB := n0_; have BKg1 := n1_; have BKg2 := n2_; clear n0_ n1_ n2_; (try clear hb); clear hcg1_0 hcg1_1 hcg2_0 hcg2_1; have hcg1_0 : w3.cell? ⟨g1, 0, none⟩ = some (.int .i64 n0) := (blk_cell BKg1.out 0).trans rfl; have hcg1_1 : w3.cell? ⟨g1, 1, none⟩ = some (.slice Ap0_1 l0_1.length cp0_1) := (blk_cell BKg1.out 1).trans rfl; have hcg2_0 : w3.cell? ⟨g2, 0, none⟩ = some (.slice Ap1_0 l1_0.length cp1_0) := (blk_cell BKg2.out 0).trans rfl; have hcg2_1 : w3.cell? ⟨g2, 1, none⟩ = some (.slice Ap1_1 l1_1.length cp1_1) := (blk_cell BKg2.out 1).trans rfl) | ((with_reducible refine gate_callee (f := 36) rfl ?_); refine goesL_ (some 18) rfl rfl Try.func36 (by kernel_rfl) rfl #[.agg #[.slice Ap1_0 l1_0.length cp1_0, .slice Ap1_1 l1_1.length cp1_1], .int .i64 (1000000 - (l0_1.length : Int))] rfl (by (try simp only [List.map_toArray, List.map_cons, List.map_nil]); first | done | rfl) ?_; (with_reducible refine (Go.Proofs.Ytilanbgciofkjaa.PH.laws_szRecord.calls Ap1_0 cp1_0 l1_0 Ap1_1 cp1_1 l1_1 (1000000 - (l0_1.length : Int)) ((-1)) _ (Kd.C_below HRp1_0.out HB.out) HCp1_0.out (Kd.C_below HRp1_1.out HB.out) HCp1_1.out (szR_big _ _ _ (by omega) (by omega) (by omega) (by omega) (by omega))).mono ?_); rintro e w4 ⟨rfl, hb⟩; refine ⟨_, rfl, ?_⟩; have n0_ := Aside0.mk (below_step HB.out hb); have n1_ := Aside0.mk (blk_below BKg1.out hb); have n2_ := Aside0.mk (blk_below BKg2.out hb); clear HB BKg1 BKg2; have HB := n0_; have BKg1 := n1_; have BKg2 := n2_; clear n0_ n1_ n2_; (try clear hb); clear hcg1_0 hcg1_1 hcg2_0 hcg2_1; have hcg1_0 : w4.cell? ⟨g1, 0, none⟩ = some (.int .i64 n0) := (blk_cell BKg1.out 0).trans rfl; have hcg1_1 : w4.cell? ⟨g1, 1, none⟩ = some (.slice Ap0_1 l0_1.length cp0_1) := (blk_cell BKg1.out 1).trans rfl; have hcg2_0 : w4.cell? ⟨g2, 0, none⟩ = some (.slice Ap1_0 l1_0.length cp1_0) := (blk_cell BKg2.out 0).trans rfl; have hcg2_1 : w4.cell? ⟨g2, 1, none⟩ = some (.slice Ap1_1 l1_1.length cp1_1) := (blk_cell BKg2.out 1).trans rfl))
  go_ret
  exact ⟨rfl, HB.out⟩

end Go.Proofs.Ytilanbgciofkjaa.Wr

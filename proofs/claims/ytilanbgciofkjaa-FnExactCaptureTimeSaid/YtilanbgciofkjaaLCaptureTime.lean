import Derived.Test.YtilanbgciofkjaaWe
import Derived.Test.YtilanbgciofkjaaPAx16
import Derived.Test.YtilanbgciofkjaaTstarts
namespace Go.Proofs.Ytilanbgciofkjaa.Wr
open Go.RowKit Go.Proofs.YtilanbgciofkjaaW.PrintWords Go.Proofs.YtilanbgciofkjaaW.PrintLast Go.Proofs.YtilanbgciofkjaaW.PrintMore Go.Proofs.Ytilanbgciofkjaa.PH
attribute [local go_sem] max2_int min2_int max_two min_two max_three min_three max_four min_four
set_option linter.unusedVariables false
set_option linter.unusedSimpArgs false

set_option maxHeartbeats 8000000 in
set_option maxRecDepth 100000 in
theorem FnExactCaptureTime_c (n0 : Int) (Ap0_1 : Option Addr) (cp0_1 : Nat) (l0_1 : List Int) (r : Int) (ks : Nat) (ki : Nat) (w : World) (hr0_1 : Kd.C (Kd.int .i64) w Ap0_1 l0_1.length l0_1) (hc0_1 : l0_1.length ≤ cp0_1) (hl_l0_1 : l0_1.length ≤ 1000000) (hsum : l0_1.length ≤ 1000000) (hs : Go.Proofs.Ytilanbgciofkjaa.PA.spec_CaptureTime.f ks n0 l0_1 = some r) (hi : Go.Proofs.Ytilanbgciofkjaa.PA.impl_CaptureTime.f ki n0 l0_1 = some r) :
    Calls Try.prog 8 #[.agg #[.int .i64 n0, .slice Ap0_1 l0_1.length cp0_1]] w fun e w' => e = .returned (.bool true) ∧ Below w.heap.size w w' := by
  have HRp0_1 := Aside0.mk hr0_1
  have HCp0_1 := Aside0.mk hc0_1
  have HS := Aside0.mk hs
  have HI := Aside0.mk hi
  clear hr0_1 hc0_1 hs hi
  have HB := Aside0.mk (Below.refl w.heap.size w)
  go_enter Try.func8, Try.ntmps8
  go_wp2_with (first | ((with_reducible refine gate_dst (N := 1) rfl ?_); refine box_event ?hg (N := 1) ?hd (cs := #[.int .i64 n0, .slice Ap0_1 l0_1.length cp0_1]) (t := 24) ?hr ?_; (case hd => rfl); (case hg => rfl); (case hr => first | (go_simp; done) | (go_simp; rfl)); intro g1 hg w1 hbox hb; have n0_ := Aside0.mk (below_step HB.out hb); have m0_ := Aside0.mk (hbox); have m1_ := Aside0.mk ((by rw [hg]; exact below_size HB.out : w.heap.size ≤ g1)); clear HB; have HB := n0_; have BKg1 := m0_; have GEg1 := m1_; clear n0_ m0_ m1_; clear hb hbox hg; have hcg1_0 : w1.cell? ⟨g1, 0, none⟩ = some (.int .i64 n0) := (blk_cell BKg1.out 0).trans rfl; have hcg1_1 : w1.cell? ⟨g1, 1, none⟩ = some (.slice Ap0_1 l0_1.length cp0_1) := (blk_cell BKg1.out 1).trans rfl) | ((with_reducible refine gate_callee (f := 15) rfl ?_); refine goesL_ (some 10) rfl rfl Try.func15 (by kernel_rfl) rfl #[.agg #[.int .i64 n0, .slice Ap0_1 l0_1.length cp0_1], .int .i64 1000000] rfl (by (try simp only [List.map_toArray, List.map_cons, List.map_nil]); first | done | rfl) ?_; (with_reducible refine (Go.Proofs.Ytilanbgciofkjaa.PH.laws_szGraph.calls n0 Ap0_1 cp0_1 l0_1 (1000000) (1000000 - (l0_1.length : Int)) _ (Kd.C_below HRp0_1.out HB.out) HCp0_1.out (szG_ok _ _ _ (by omega) (by omega))).mono ?_); rintro e w2 ⟨rfl, hb⟩; refine ⟨_, rfl, ?_⟩; have n0_ := Aside0.mk (below_step HB.out hb); have n1_ := Aside0.mk (blk_below BKg1.out hb); clear HB BKg1; have HB := n0_; have BKg1 := n1_; clear n0_ n1_; (try clear hb); clear hcg1_0 hcg1_1; have hcg1_0 : w2.cell? ⟨g1, 0, none⟩ = some (.int .i64 n0) := (blk_cell BKg1.out 0).trans rfl; have hcg1_1 : w2.cell? ⟨g1, 1, none⟩ = some (.slice Ap0_1 l0_1.length cp0_1) := (blk_cell BKg1.out 1).trans rfl) | ((with_reducible refine gate_callee (f := 17) rfl ?_); refine goesL_ (some 14) rfl rfl Try.func17 (by kernel_rfl) rfl #[.agg #[.int .i64 n0, .slice Ap0_1 l0_1.length cp0_1], .bool false] rfl (by (try simp only [List.map_toArray, List.map_cons, List.map_nil]); first | done | rfl) ?_; (with_reducible refine (toGraph_c n0 Ap0_1 cp0_1 l0_1 false _ hl_l0_1 (Kd.C_below HRp0_1.out HB.out) HCp0_1.out).mono ?_); rintro e w3 ⟨A1, c1, rfl, ho1_, hg1_, hb⟩; refine ⟨_, rfl, ?_⟩; have n0_ := Aside0.mk (below_step HB.out hb); have n1_ := Aside0.mk (blk_below BKg1.out hb); have m0_ := Aside0.mk (ho1_); have m1_ := Aside0.mk (own_lower hg1_ HB.out); clear HB BKg1; have HB := n0_; have BKg1 := n1_; have HO1 := m0_; have GB1 := m1_; clear n0_ n1_ m0_ m1_; (try clear hb); (try clear ho1_); (try clear hg1_); clear hcg1_0 hcg1_1; have hcg1_0 : w3.cell? ⟨g1, 0, none⟩ = some (.int .i64 n0) := (blk_cell BKg1.out 0).trans rfl; have hcg1_1 : w3.cell? ⟨g1, 1, none⟩ = some (.slice Ap0_1 l0_1.length cp0_1) := (blk_cell BKg1.out 1).trans rfl) | ((with_reducible refine gate_callee (f := 28) rfl ?_); refine goesL_ (some 15) rfl rfl Try.func28 (by kernel_rfl) rfl #[.agg #[.int .i64 n0, .slice A1 l0_1.length c1]] rfl (by (try simp only [List.map_toArray, List.map_cons, List.map_nil]); first | done | rfl) ?_; (with_reducible refine (Go.Proofs.Ytilanbgciofkjaa.PA.spec_CaptureTime.calls ks (n0) A1 c1 l0_1 r _ (RO_Ct HO1.out (fullOf_take _ _) (fullOf_len _ _)) (Nat.le_trans (fullOf_len _ _) (RO_le HO1.out)) HS.out).mono ?_); rintro e w4 ⟨rfl, hb⟩; refine ⟨_, rfl, ?_⟩; have n0_ := Aside0.mk (below_step HB.out hb); have n1_ := Aside0.mk (blk_below BKg1.out hb); have n2_ := Aside0.mk (RO_below HO1.out hb); clear HB BKg1 HO1; have HB := n0_; have BKg1 := n1_; have HO1 := n2_; clear n0_ n1_ n2_; (try clear hb); clear hcg1_0 hcg1_1; have hcg1_0 : w4.cell? ⟨g1, 0, none⟩ = some (.int .i64 n0) := (blk_cell BKg1.out 0).trans rfl; have hcg1_1 : w4.cell? ⟨g1, 1, none⟩ = some (.slice Ap0_1 l0_1.length cp0_1) := (blk_cell BKg1.out 1).trans rfl) | ((with_reducible refine gate_callee (f := 17) rfl ?_); refine goesL_ (some 17) rfl rfl Try.func17 (by kernel_rfl) rfl #[.agg #[.int .i64 n0, .slice Ap0_1 l0_1.length cp0_1], .bool false] rfl (by (try simp only [List.map_toArray, List.map_cons, List.map_nil]); first | done | rfl) ?_; (with_reducible refine (toGraph_c n0 Ap0_1 cp0_1 l0_1 false _ hl_l0_1 (Kd.C_below HRp0_1.out HB.out) HCp0_1.out).mono ?_); rintro e w5 ⟨A2, c2, rfl, ho2_, hg2_, hb⟩; refine ⟨_, rfl, ?_⟩; have n0_ := Aside0.mk (below_step HB.out hb); have n1_ := Aside0.mk (blk_below BKg1.out hb); have n2_ := Aside0.mk (RO_below HO1.out hb); have m0_ := Aside0.mk (ho2_); have m1_ := Aside0.mk (own_lower hg2_ HB.out); have m2_ := Aside0.mk (RO_new HO1.out hg2_); have m3_ := Aside0.mk (dj_sym (RO_new HO1.out hg2_)); clear HB BKg1 HO1; have HB := n0_; have BKg1 := n1_; have HO1 := n2_; have HO2 := m0_; have GB2 := m1_; have DJ1_2 := m2_; have DJ2_1 := m3_; clear n0_ n1_ n2_ m0_ m1_ m2_ m3_; (try clear hb); (try clear ho2_); (try clear hg2_); clear hcg1_0 hcg1_1; have hcg1_0 : w5.cell? ⟨g1, 0, none⟩ = some (.int .i64 n0) := (blk_cell BKg1.out 0).trans rfl; have hcg1_1 : w5.cell? ⟨g1, 1, none⟩ = some (.slice Ap0_1 l0_1.length cp0_1) := (blk_cell BKg1.out 1).trans rfl) | ((with_reducible refine gate_dst (N := 5) rfl ?_); refine box_event ?hg (N := 5) ?hd (cs := #[.int .i64 0, .slice none 0 0]) (t := 27) ?hr ?_; (case hd => rfl); (case hg => rfl); (case hr => first | (go_simp; done) | (go_simp; rfl)); intro g2 hg w6 hbox hb; have n0_ := Aside0.mk (below_step HB.out hb); have n1_ := Aside0.mk (blk_below BKg1.out hb); have n2_ := Aside0.mk (RO_below HO1.out hb); have n3_ := Aside0.mk (RO_below HO2.out hb); have m0_ := Aside0.mk (hbox); have m1_ := Aside0.mk ((by rw [hg]; exact below_size HB.out : w.heap.size ≤ g2)); have m2_ := Aside0.mk ((by rw [hg]; exact Nat.ne_of_lt (blk_lt BKg1.out) : g1 ≠ g2)); have m3_ := Aside0.mk ((by rw [hg]; exact Nat.ne_of_gt (blk_lt BKg1.out) : g2 ≠ g1)); clear HB BKg1 HO1 HO2; have HB := n0_; have BKg1 := n1_; have HO1 := n2_; have HO2 := n3_; have BKg2 := m0_; have GEg2 := m1_; have NEg1_g2 := m2_; have NEg2_g1 := m3_; clear n0_ n1_ n2_ n3_ m0_ m1_ m2_ m3_; clear hb hbox hg; clear hcg1_0 hcg1_1; have hcg1_0 : w6.cell? ⟨g1, 0, none⟩ = some (.int .i64 n0) := (blk_cell BKg1.out 0).trans rfl; have hcg1_1 : w6.cell? ⟨g1, 1, none⟩ = some (.slice Ap0_1 l0_1.length cp0_1) := (blk_cell BKg1.out 1).trans rfl; have hcg2_0 : w6.cell? ⟨g2, 0, none⟩ = some (.int .i64 0) := (blk_cell BKg2.out 0).trans rfl; have hfg2_0 := blk_frozen BKg2.out 0; have hcg2_1 : w6.cell? ⟨g2, 1, none⟩ = some (.slice none 0 0) := (blk_cell BKg2.out 1).trans rfl; have hfg2_1 := blk_frozen BKg2.out 1) | ((with_reducible refine gate_store (t := 27) (p := 5) rfl ?_); refine store_event (t := 27) (p := 5) (v := ?vo_w7) (w1 := (w6.setCell ⟨g2, 0, none⟩ (.int .i64 n0)).setCell ⟨g2, 1, none⟩ (.slice A2 l0_1.length c2)) ?hg ?ho ?hn ?hr ?_; (case ho => rfl); (case hg => rfl); (case hn => rfl); (case hr => first | (go_simp; done) | (go_simp; rfl)); intro w7 hw; have n0_ := Aside0.mk ((by rw [hw]; exact below_st2 HB.out GEg2.out : Below w.heap.size w w7)); have n1_ := Aside0.mk ((by rw [hw]; exact blk_st2f BKg1.out NEg1_g2.out : w7.heap[g1]? = some (.cells #[.int .i64 n0, .slice Ap0_1 l0_1.length cp0_1] 24 (0, 0)))); have n2_ := Aside0.mk ((by rw [hw]; exact blk_st2 BKg2.out : w7.heap[g2]? = some (.cells #[.int .i64 n0, .slice A2 l0_1.length c2] 27 (0, 0)))); have n3_ := Aside0.mk ((by rw [hw]; exact RO_st2 HO1.out BKg2.out (by decide) : RO w7 (.slice A1 (fullOf false l0_1).length c1) (fullOf false l0_1))); have n4_ := Aside0.mk ((by rw [hw]; exact RO_st2 HO2.out BKg2.out (by decide) : RO w7 (.slice A2 (fullOf false l0_1).length c2) (fullOf false l0_1))); clear HB BKg1 BKg2 HO1 HO2; have HB := n0_; have BKg1 := n1_; have BKg2 := n2_; have HO1 := n3_; have HO2 := n4_; clear n0_ n1_ n2_ n3_ n4_; clear hw; clear hcg1_0 hcg1_1 hcg2_0 hfg2_0 hcg2_1 hfg2_1; have hcg1_0 : w7.cell? ⟨g1, 0, none⟩ = some (.int .i64 n0) := (blk_cell BKg1.out 0).trans rfl; have hcg1_1 : w7.cell? ⟨g1, 1, none⟩ = some (.slice Ap0_1 l0_1.length cp0_1) := (blk_cell BKg1.out 1).trans rfl; have hcg2_0 : w7.cell? ⟨g2, 0, none⟩ = some (.int .i64 n0) := (blk_cell BKg2.out 0).trans rfl; have hfg2_0 := blk_frozen BKg2.out 0; have hcg2_1 : w7.cell? ⟨g2, 1, none⟩ = some (.slice A2 l0_1.length c2) := (blk_cell BKg2.out 1).trans rfl; have hfg2_1 := blk_frozen BKg2.out 1) | ((with_reducible refine gate_callee (f := 29) rfl ?_); refine goesL_ (some 19) rfl rfl Try.func29 (by kernel_rfl) rfl #[.agg #[.int .i64 n0, .slice A2 l0_1.length c2]] rfl (by (try simp only [List.map_toArray, List.map_cons, List.map_nil]); first | done | rfl) ?_; (with_reducible refine (Go.Proofs.Ytilanbgciofkjaa.PA.impl_CaptureTime.calls ki (n0) A2 c2 l0_1 r _ (RO_Ct HO2.out (fullOf_take _ _) (fullOf_len _ _)) (Nat.le_trans (fullOf_len _ _) (RO_le HO2.out)) HI.out).mono ?_); rintro e w8 ⟨rfl, hb⟩; refine ⟨_, rfl, ?_⟩; have n0_ := Aside0.mk (below_step HB.out hb); have n1_ := Aside0.mk (blk_below BKg1.out hb); have n2_ := Aside0.mk (blk_below BKg2.out hb); have n3_ := Aside0.mk (RO_below HO1.out hb); have n4_ := Aside0.mk (RO_below HO2.out hb); clear HB BKg1 BKg2 HO1 HO2; have HB := n0_; have BKg1 := n1_; have BKg2 := n2_; have HO1 := n3_; have HO2 := n4_; clear n0_ n1_ n2_ n3_ n4_; (try clear hb); clear hcg1_0 hcg1_1 hcg2_0 hfg2_0 hcg2_1 hfg2_1; have hcg1_0 : w8.cell? ⟨g1, 0, none⟩ = some (.int .i64 n0) := (blk_cell BKg1.out 0).trans rfl; have hcg1_1 : w8.cell? ⟨g1, 1, none⟩ = some (.slice Ap0_1 l0_1.length cp0_1) := (blk_cell BKg1.out 1).trans rfl; have hcg2_0 : w8.cell? ⟨g2, 0, none⟩ = some (.int .i64 n0) := (blk_cell BKg2.out 0).trans rfl; have hfg2_0 := blk_frozen BKg2.out 0; have hcg2_1 : w8.cell? ⟨g2, 1, none⟩ = some (.slice A2 l0_1.length c2) := (blk_cell BKg2.out 1).trans rfl; have hfg2_1 := blk_frozen BKg2.out 1))
  clear hcg1_0 hcg1_1 hcg2_0 hfg2_0 hcg2_1 hfg2_1
  have n0_ := Aside0.mk (below_drew1 HB.out)
  have n1_ := Aside0.mk (blk_drew BKg1.out)
  have n2_ := Aside0.mk (blk_drew BKg2.out)
  have n3_ := Aside0.mk (RO_drew HO1.out)
  have n4_ := Aside0.mk (RO_drew HO2.out)
  clear HB BKg1 BKg2 HO1 HO2
  have HB := n0_
  have BKg1 := n1_
  have BKg2 := n2_
  have HO1 := n3_
  have HO2 := n4_
  clear n0_ n1_ n2_ n3_ n4_
  refine start_ (n := 5) (S := fun w' => w'.cell? ⟨g1, 0, none⟩ = some (.int .i64 n0) ∧ w'.cell? ⟨g1, 1, none⟩ = some (.slice Ap0_1 l0_1.length cp0_1) ∧ w'.cell? ⟨g2, 0, none⟩ = some (.int .i64 n0) ∧ w'.cell? ⟨g2, 1, none⟩ = some (.slice A2 l0_1.length c2)) (ds := []) #[false, false, false, false, false] (by kernel_rfl) rfl rfl ⟨(blk_cell BKg1.out 0).trans rfl, (blk_cell BKg1.out 1).trans rfl, (blk_cell BKg2.out 0).trans rfl, (blk_cell BKg2.out 1).trans rfl⟩ (fun hHeld => ?_)
  generalize w8.drew = w9 at HB BKg1 BKg2 HO1 HO2 hHeld ⊢
  refine take_ (i := 0) (N := some 23) (v := ?_) (a' := ?_) #[true, false, false, false, false] rfl rfl (by kernel_rfl) (fun _ _ _ h => h) (Or.inl ⟨by rfl, ?_⟩) hHeld ?_ ?_
  rotate_left
  · rintro w' ⟨s0, s1, s2, s3⟩
    go_simp
    with_reducible rfl
  rotate_left
  · simp only [Act.put, List.setIfInBounds_toArray, List.set_cons_zero, List.set_cons_succ, i64_w, i32_w]
    rfl
  refine take_ (i := 1) (N := some 24) (v := ?_) (a' := ?_) #[true, true, false, false, false] rfl rfl (by kernel_rfl) (fun _ _ _ h => h) (Or.inl ⟨by rfl, ?_⟩) hHeld ?_ ?_
  rotate_left
  · rintro w' ⟨s0, s1, s2, s3⟩
    go_simp
    with_reducible rfl
  rotate_left
  · simp only [Act.put, List.setIfInBounds_toArray, List.set_cons_zero, List.set_cons_succ, i64_w, i32_w]
    rfl
  refine one_ (i := 2) (N := some 25) #[true, true, true, false, false] rfl rfl (by kernel_rfl) (by decide) (fun K hK => ?_)
  refine goes_ Try.func17 (by kernel_rfl) rfl #[.agg #[.int .i64 n0, .slice Ap0_1 l0_1.length cp0_1], .bool false] (by rfl) rfl rfl (by (try simp only [List.map_toArray, List.map_cons, List.map_nil]); first | done | rfl) ?_
  (with_reducible refine (toGraph_c n0 Ap0_1 cp0_1 l0_1 false _ hl_l0_1 (Kd.C_below HRp0_1.out HB.out) HCp0_1.out).mono ?_)
  rintro e w10 ⟨A3, c3, rfl, ho3_, hg3_, hb⟩
  refine ⟨_, rfl, ?_⟩
  have n0_ := Aside0.mk (below_step HB.out hb)
  have n1_ := Aside0.mk (blk_below BKg1.out hb)
  have n2_ := Aside0.mk (blk_below BKg2.out hb)
  have n3_ := Aside0.mk (RO_below HO1.out hb)
  have n4_ := Aside0.mk (RO_below HO2.out hb)
  have m0_ := Aside0.mk (ho3_)
  have m1_ := Aside0.mk (own_lower hg3_ HB.out)
  have m2_ := Aside0.mk (RO_new HO1.out hg3_)
  have m3_ := Aside0.mk (dj_sym (RO_new HO1.out hg3_))
  have m4_ := Aside0.mk (RO_new HO2.out hg3_)
  have m5_ := Aside0.mk (dj_sym (RO_new HO2.out hg3_))
  clear HB BKg1 BKg2 HO1 HO2
  have HB := n0_
  have BKg1 := n1_
  have BKg2 := n2_
  have HO1 := n3_
  have HO2 := n4_
  have HO3 := m0_
  have GB3 := m1_
  have DJ1_3 := m2_
  have DJ3_1 := m3_
  have DJ2_3 := m4_
  have DJ3_2 := m5_
  clear n0_ n1_ n2_ n3_ n4_ m0_ m1_ m2_ m3_ m4_ m5_
  (try clear hb)
  (try clear ho3_)
  (try clear hg3_)
  refine hK.out _ _ ⟨(blk_cell BKg1.out 0).trans rfl, (blk_cell BKg1.out 1).trans rfl, (blk_cell BKg2.out 0).trans rfl, (blk_cell BKg2.out 1).trans rfl⟩ (fun hHeld => ?_)
  clear hK K
  refine norm_ (a' := ?_) ?_ ?_
  rotate_left
  · show Act.put _ (some 25) _ = _
    simp only [Act.put, List.setIfInBounds_toArray, List.set_cons_zero, List.set_cons_succ, i64_w, i32_w]
    rfl
  refine one_ (i := 3) (N := some 26) #[true, true, true, true, false] rfl rfl (by kernel_rfl) (by decide) (fun K hK => ?_)
  refine goes_ Try.func19 (by kernel_rfl) rfl #[.agg #[.int .i64 n0, .slice A2 l0_1.length c2], .agg #[.int .i64 n0, .slice A3 l0_1.length c3]] (by rfl) rfl rfl (by (try simp only [List.map_toArray, List.map_cons, List.map_nil]); first | done | rfl) ?_
  (with_reducible refine (intactGraph_c n0 A2 c2 A3 c3 l0_1 _ hl_l0_1 HO2.out HO3.out).mono ?_)
  rintro e w11 ⟨rfl, hb⟩
  refine ⟨_, rfl, ?_⟩
  have n0_ := Aside0.mk (below_step HB.out hb)
  have n1_ := Aside0.mk (blk_below BKg1.out hb)
  have n2_ := Aside0.mk (blk_below BKg2.out hb)
  have n3_ := Aside0.mk (RO_below HO1.out hb)
  have n4_ := Aside0.mk (RO_below HO2.out hb)
  have n5_ := Aside0.mk (RO_below HO3.out hb)
  clear HB BKg1 BKg2 HO1 HO2 HO3
  have HB := n0_
  have BKg1 := n1_
  have BKg2 := n2_
  have HO1 := n3_
  have HO2 := n4_
  have HO3 := n5_
  clear n0_ n1_ n2_ n3_ n4_ n5_
  (try clear hb)
  refine hK.out _ _ ⟨(blk_cell BKg1.out 0).trans rfl, (blk_cell BKg1.out 1).trans rfl, (blk_cell BKg2.out 0).trans rfl, (blk_cell BKg2.out 1).trans rfl⟩ (fun hHeld => ?_)
  clear hK K
  refine norm_ (a' := ?_) ?_ ?_
  rotate_left
  · show Act.put _ (some 26) _ = _
    simp only [Act.put, List.setIfInBounds_toArray, List.set_cons_zero, List.set_cons_succ, i64_w, i32_w]
    rfl
  refine pure_ (i := 4) (N := some 27) (v := ?_) (a' := ?_) #[true, true, true, true, true] rfl rfl (by kernel_rfl) (fun _ _ _ h => h) (Or.inl ⟨by rfl, ?_⟩) ?_ ?_
  rotate_left
  · intro w'
    go_simp
    with_reducible rfl
  rotate_left
  · simp only [Act.put, List.setIfInBounds_toArray, List.set_cons_zero, List.set_cons_succ, i64_w, i32_w]
    rfl
  refine done_ (by kernel_rfl) ?_
  have hcg1_0 : w11.cell? ⟨g1, 0, none⟩ = some (.int .i64 n0) := (blk_cell BKg1.out 0).trans rfl
  have hcg1_1 : w11.cell? ⟨g1, 1, none⟩ = some (.slice Ap0_1 l0_1.length cp0_1) := (blk_cell BKg1.out 1).trans rfl
  have hcg2_0 : w11.cell? ⟨g2, 0, none⟩ = some (.int .i64 n0) := (blk_cell BKg2.out 0).trans rfl
  have hfg2_0 := blk_frozen BKg2.out 0
  have hcg2_1 : w11.cell? ⟨g2, 1, none⟩ = some (.slice A2 l0_1.length c2) := (blk_cell BKg2.out 1).trans rfl
  have hfg2_1 := blk_frozen BKg2.out 1
  go_wp2_with (first | ((with_reducible refine gate_callee (f := 17) rfl ?_); refine goesL_ (some 29) rfl rfl Try.func17 (by kernel_rfl) rfl #[.agg #[.int .i64 n0, .slice Ap0_1 l0_1.length cp0_1], .bool true] rfl (by (try simp only [List.map_toArray, List.map_cons, List.map_nil]); first | done | rfl) ?_; (with_reducible refine (toGraph_c n0 Ap0_1 cp0_1 l0_1 true _ hl_l0_1 (Kd.C_below HRp0_1.out HB.out) HCp0_1.out).mono ?_); rintro e w12 ⟨A4, c4, rfl, ho4_, hg4_, hb⟩; refine ⟨_, rfl, ?_⟩; have n0_ := Aside0.mk (below_step HB.out hb); have n1_ := Aside0.mk (blk_below BKg1.out hb); have n2_ := Aside0.mk (blk_below BKg2.out hb); have n3_ := Aside0.mk (RO_below HO1.out hb); have n4_ := Aside0.mk (RO_below HO2.out hb); have n5_ := Aside0.mk (RO_below HO3.out hb); have m0_ := Aside0.mk (ho4_); have m1_ := Aside0.mk (own_lower hg4_ HB.out); have m2_ := Aside0.mk (RO_new HO1.out hg4_); have m3_ := Aside0.mk (dj_sym (RO_new HO1.out hg4_)); have m4_ := Aside0.mk (RO_new HO2.out hg4_); have m5_ := Aside0.mk (dj_sym (RO_new HO2.out hg4_)); have m6_ := Aside0.mk (RO_new HO3.out hg4_); have m7_ := Aside0.mk (dj_sym (RO_new HO3.out hg4_)); clear HB BKg1 BKg2 HO1 HO2 HO3; have HB := n0_; have BKg1 := n1_; have BKg2 := n2_; have HO1 := n3_; have HO2 := n4_; have HO3 := n5_; have HO4 := m0_; have GB4 := m1_; have DJ1_4 := m2_; have DJ4_1 := m3_; have DJ2_4 := m4_; have DJ4_2 := m5_; have DJ3_4 := m6_; have DJ4_3 := m7_; clear n0_ n1_ n2_ n3_ n4_ n5_ m0_ m1_ m2_ m3_ m4_ m5_ m6_ m7_; (try clear hb); (try clear ho4_); (try clear hg4_); clear hcg1_0 hcg1_1 hcg2_0 hfg2_0 hcg2_1 hfg2_1; have hcg1_0 : w12.cell? ⟨g1, 0, none⟩ = some (.int .i64 n0) := (blk_cell BKg1.out 0).trans rfl; have hcg1_1 : w12.cell? ⟨g1, 1, none⟩ = some (.slice Ap0_1 l0_1.length cp0_1) := (blk_cell BKg1.out 1).trans rfl; have hcg2_0 : w12.cell? ⟨g2, 0, none⟩ = some (.int .i64 n0) := (blk_cell BKg2.out 0).trans rfl; have hfg2_0 := blk_frozen BKg2.out 0; have hcg2_1 : w12.cell? ⟨g2, 1, none⟩ = some (.slice A2 l0_1.length c2) := (blk_cell BKg2.out 1).trans rfl; have hfg2_1 := blk_frozen BKg2.out 1) | ((with_reducible refine gate_callee (f := 29) rfl ?_); refine goesL_ (some 30) rfl rfl Try.func29 (by kernel_rfl) rfl #[.agg #[.int .i64 n0, .slice A4 l0_1.length c4]] rfl (by (try simp only [List.map_toArray, List.map_cons, List.map_nil]); first | done | rfl) ?_; (with_reducible refine (Go.Proofs.Ytilanbgciofkjaa.PA.impl_CaptureTime.calls ki (n0) A4 c4 l0_1 r _ (RO_Ct HO4.out (fullOf_take _ _) (fullOf_len _ _)) (Nat.le_trans (fullOf_len _ _) (RO_le HO4.out)) HI.out).mono ?_); rintro e w13 ⟨rfl, hb⟩; refine ⟨_, rfl, ?_⟩; have n0_ := Aside0.mk (below_step HB.out hb); have n1_ := Aside0.mk (blk_below BKg1.out hb); have n2_ := Aside0.mk (blk_below BKg2.out hb); have n3_ := Aside0.mk (RO_below HO1.out hb); have n4_ := Aside0.mk (RO_below HO2.out hb); have n5_ := Aside0.mk (RO_below HO3.out hb); have n6_ := Aside0.mk (RO_below HO4.out hb); clear HB BKg1 BKg2 HO1 HO2 HO3 HO4; have HB := n0_; have BKg1 := n1_; have BKg2 := n2_; have HO1 := n3_; have HO2 := n4_; have HO3 := n5_; have HO4 := n6_; clear n0_ n1_ n2_ n3_ n4_ n5_ n6_; (try clear hb); clear hcg1_0 hcg1_1 hcg2_0 hfg2_0 hcg2_1 hfg2_1; have hcg1_0 : w13.cell? ⟨g1, 0, none⟩ = some (.int .i64 n0) := (blk_cell BKg1.out 0).trans rfl; have hcg1_1 : w13.cell? ⟨g1, 1, none⟩ = some (.slice Ap0_1 l0_1.length cp0_1) := (blk_cell BKg1.out 1).trans rfl; have hcg2_0 : w13.cell? ⟨g2, 0, none⟩ = some (.int .i64 n0) := (blk_cell BKg2.out 0).trans rfl; have hfg2_0 := blk_frozen BKg2.out 0; have hcg2_1 : w13.cell? ⟨g2, 1, none⟩ = some (.slice A2 l0_1.length c2) := (blk_cell BKg2.out 1).trans rfl; have hfg2_1 := blk_frozen BKg2.out 1))
  go_ret
  exact ⟨rfl, HB.out⟩

set_option maxHeartbeats 4000000 in
set_option maxRecDepth 100000 in
theorem FnExactCaptureTime_big0 (n0 : Int) (Ap0_1 : Option Addr) (cp0_1 : Nat) (l0_1 : List Int) (w : World) (hr0_1 : Kd.C (Kd.int .i64) w Ap0_1 l0_1.length l0_1) (hc0_1 : l0_1.length ≤ cp0_1) (hm_l0_1 : l0_1.length ≤ 17592186044416) (hbig : 1000000 < (l0_1.length : Int)) :
    Calls Try.prog 8 #[.agg #[.int .i64 n0, .slice Ap0_1 l0_1.length cp0_1]] w fun e w' => e = .returned (.bool true) ∧ Below w.heap.size w w' := by
  have HRp0_1 := Aside0.mk hr0_1
  have HCp0_1 := Aside0.mk hc0_1
  clear hr0_1 hc0_1
  have HB := Aside0.mk (Below.refl w.heap.size w)
  go_enter Try.func8, Try.ntmps8
  go_wp2_with (first | ((with_reducible refine gate_dst (N := 1) rfl ?_); refine box_event ?hg (N := 1) ?hd (cs := #[.int .i64 n0, .slice Ap0_1 l0_1.length cp0_1]) (t := 24) ?hr ?_; (case hd => rfl); (case hg => rfl); (case hr => first | (go_simp; done) | (go_simp; rfl)); intro g1 hg w1 hbox hb; have n0_ := Aside0.mk (below_step HB.out hb); have m0_ := Aside0.mk (hbox); have m1_ := Aside0.mk ((by rw [hg]; exact below_size HB.out : w.heap.size ≤ g1)); clear HB; have HB := n0_; have BKg1 := m0_; have GEg1 := m1_; clear n0_ m0_ m1_; clear hb hbox hg; have hcg1_0 : w1.cell? ⟨g1, 0, none⟩ = some (.int .i64 n0) := (blk_cell BKg1.out 0).trans rfl; have hcg1_1 : w1.cell? ⟨g1, 1, none⟩ = some (.slice Ap0_1 l0_1.length cp0_1) := (blk_cell BKg1.out 1).trans rfl) | ((with_reducible refine gate_callee (f := 15) rfl ?_); refine goesL_ (some 10) rfl rfl Try.func15 (by kernel_rfl) rfl #[.agg #[.int .i64 n0, .slice Ap0_1 l0_1.length cp0_1], .int .i64 1000000] rfl (by (try simp only [List.map_toArray, List.map_cons, List.map_nil]); first | done | rfl) ?_; (with_reducible refine (Go.Proofs.Ytilanbgciofkjaa.PH.laws_szGraph.calls n0 Ap0_1 cp0_1 l0_1 (1000000) ((-1)) _ (Kd.C_below HRp0_1.out HB.out) HCp0_1.out (szG_big _ _ _ (by omega) (by omega) (by omega) (by omega))).mono ?_); rintro e w2 ⟨rfl, hb⟩; refine ⟨_, rfl, ?_⟩; have n0_ := Aside0.mk (below_step HB.out hb); have n1_ := Aside0.mk (blk_below BKg1.out hb); clear HB BKg1; have HB := n0_; have BKg1 := n1_; clear n0_ n1_; (try clear hb); clear hcg1_0 hcg1_1; have hcg1_0 : w2.cell? ⟨g1, 0, none⟩ = some (.int .i64 n0) := (blk_cell BKg1.out 0).trans rfl; have hcg1_1 : w2.cell? ⟨g1, 1, none⟩ = some (.slice Ap0_1 l0_1.length cp0_1) := (blk_cell BKg1.out 1).trans rfl))
  go_ret
  exact ⟨rfl, HB.out⟩

end Go.Proofs.Ytilanbgciofkjaa.Wr

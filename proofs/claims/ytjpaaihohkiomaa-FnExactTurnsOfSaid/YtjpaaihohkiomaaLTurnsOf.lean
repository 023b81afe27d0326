import Derived.Test.YtjpaaihohkiomaaWe
import Derived.Test.YtjpaaihohkiomaaPAx1
namespace Go.Proofs.Ytjpaaihohkiomaa.Wr
open Go.RowKit Go.Proofs.YtjpaaihohkiomaaW.PrintWords Go.Proofs.YtjpaaihohkiomaaW.PrintLast Go.Proofs.YtjpaaihohkiomaaW.PrintMore Go.Proofs.Ytjpaaihohkiomaa.PH
attribute [local go_sem] max2_int min2_int max_two min_two max_three min_three max_four min_four
set_option linter.unusedVariables false
set_option linter.unusedSimpArgs false

set_option maxHeartbeats 8000000 in
set_option maxRecDepth 100000 in
theorem FnExactTurnsOf_c (Ap0_0 : Option Addr) (cp0_0 : Nat) (l0_0 : List Int) (Ap0_1 : Option Addr) (cp0_1 : Nat) (l0_1 : List Int) (r : Int) (w : World) (hr0_0 : Kd.C (Kd.int .i64) w Ap0_0 l0_0.length l0_0) (hc0_0 : l0_0.length ≤ cp0_0) (hr0_1 : Kd.C (Kd.int .i64) w Ap0_1 l0_1.length l0_1) (hc0_1 : l0_1.length ≤ cp0_1) (hl_l0_0 : l0_0.length ≤ 1000000) (hl_l0_1 : l0_1.length ≤ 1000000) (hsum : l0_0.length + l0_1.length ≤ 1000000) (hs : Go.Proofs.Ytjpaaihohkiomaa.PA.spec_TurnsOf.f l0_0 l0_1 = some r) (hi : Go.Proofs.Ytjpaaihohkiomaa.PA.impl_TurnsOf.f l0_0 l0_1 = some r) :
    Calls Try.prog 3 #[.agg #[.slice Ap0_0 l0_0.length cp0_0, .slice Ap0_1 l0_1.length cp0_1]] w fun e w' => e = .returned (.bool true) ∧ Below w.heap.size w w' := by
  have HRp0_0 := Aside0.mk hr0_0
  have HCp0_0 := Aside0.mk hc0_0
  have HRp0_1 := Aside0.mk hr0_1
  have HCp0_1 := Aside0.mk hc0_1
  have HS := Aside0.mk hs
  have HI := Aside0.mk hi
  clear hr0_0 hc0_0 hr0_1 hc0_1 hs hi
  have HB := Aside0.mk (Below.refl w.heap.size w)
  go_enter Try.func3, Try.ntmps3
  go_wp2_with (first | ((with_reducible refine gate_dst (N := 1) rfl ?_); refine box_event ?hg (N := 1) ?hd (cs := #[.slice Ap0_0 l0_0.length cp0_0, .slice Ap0_1 l0_1.length cp0_1]) (t := 24) ?hr ?_; (case hd => rfl); (case hg => rfl); (case hr => first | (go_simp; done) | (go_simp; rfl)); intro g1 hg w1 hbox hb; have n0_ := Aside0.mk (below_step HB.out hb); have m0_ := Aside0.mk (hbox); have m1_ := Aside0.mk ((by rw [hg]; exact below_size HB.out : w.heap.size ≤ g1)); clear HB; have HB := n0_; have BKg1 := m0_; have GEg1 := m1_; clear n0_ m0_ m1_; clear hb hbox hg; have hcg1_0 : w1.cell? ⟨g1, 0, none⟩ = some (.slice Ap0_0 l0_0.length cp0_0) := (blk_cell BKg1.out 0).trans rfl; have hcg1_1 : w1.cell? ⟨g1, 1, none⟩ = some (.slice Ap0_1 l0_1.length cp0_1) := (blk_cell BKg1.out 1).trans rfl) | ((with_reducible refine gate_callee (f := 15) rfl ?_); refine goesL_ (some 10) rfl rfl Try.func15 (by kernel_rfl) rfl #[.agg #[.slice Ap0_0 l0_0.length cp0_0, .slice Ap0_1 l0_1.length cp0_1], .int .i64 1000000] rfl (by (try simp only [List.map_toArray, List.map_cons, List.map_nil]); first | done | rfl) ?_; (with_reducible refine (Go.Proofs.Ytjpaaihohkiomaa.PH.laws_szRecord.calls Ap0_0 cp0_0 l0_0 Ap0_1 cp0_1 l0_1 (1000000) (1000000 - (l0_0.length : Int) - (l0_1.length : Int)) _ (Kd.C_below HRp0_0.out HB.out) HCp0_0.out (Kd.C_below HRp0_1.out HB.out) HCp0_1.out (szR_ok _ _ _ (by omega) (by omega))).mono ?_); rintro e w2 ⟨rfl, hb⟩; refine ⟨_, rfl, ?_⟩; have n0_ := Aside0.mk (below_step HB.out hb); have n1_ := Aside0.mk (blk_below BKg1.out hb); clear HB BKg1; have HB := n0_; have BKg1 := n1_; clear n0_ n1_; (try clear hb); clear hcg1_0 hcg1_1; have hcg1_0 : w2.cell? ⟨g1, 0, none⟩ = some (.slice Ap0_0 l0_0.length cp0_0) := (blk_cell BKg1.out 0).trans rfl; have hcg1_1 : w2.cell? ⟨g1, 1, none⟩ = some (.slice Ap0_1 l0_1.length cp0_1) := (blk_cell BKg1.out 1).trans rfl) | ((with_reducible refine gate_callee (f := 17) rfl ?_); refine goesL_ (some 14) rfl rfl Try.func17 (by kernel_rfl) rfl #[.agg #[.slice Ap0_0 l0_0.length cp0_0, .slice Ap0_1 l0_1.length cp0_1], .bool false] rfl (by (try simp only [List.map_toArray, List.map_cons, List.map_nil]); first | done | rfl) ?_; (with_reducible refine (toRecord_c Ap0_0 cp0_0 l0_0 Ap0_1 cp0_1 l0_1 false _ hl_l0_0 hl_l0_1 (Kd.C_below HRp0_0.out HB.out) HCp0_0.out (Kd.C_below HRp0_1.out HB.out) HCp0_1.out).mono ?_); rintro e w3 ⟨A1, c1, A2, c2, rfl, ho1_, ho2_, hg1_, hg2_, dj1_2_, hb⟩; refine ⟨_, rfl, ?_⟩; have n0_ := Aside0.mk (below_step HB.out hb); have n1_ := Aside0.mk (blk_below BKg1.out hb); have m0_ := Aside0.mk (ho1_); have m1_ := Aside0.mk (own_lower hg1_ HB.out); have m2_ := Aside0.mk (ho2_); have m3_ := Aside0.mk (own_lower hg2_ HB.out); have m4_ := Aside0.mk (dj1_2_); have m5_ := Aside0.mk (dj_sym dj1_2_); clear HB BKg1; have HB := n0_; have BKg1 := n1_; have HO1 := m0_; have GB1 := m1_; have HO2 := m2_; have GB2 := m3_; have DJ1_2 := m4_; have DJ2_1 := m5_; clear n0_ n1_ m0_ m1_ m2_ m3_ m4_ m5_; (try clear hb); (try clear ho1_); (try clear hg1_); (try clear ho2_); (try clear hg2_); clear hcg1_0 hcg1_1; have hcg1_0 : w3.cell? ⟨g1, 0, none⟩ = some (.slice Ap0_0 l0_0.length cp0_0) := (blk_cell BKg1.out 0).trans rfl; have hcg1_1 : w3.cell? ⟨g1, 1, none⟩ = some (.slice Ap0_1 l0_1.length cp0_1) := (blk_cell BKg1.out 1).trans rfl) | ((with_reducible refine gate_callee (f := 16) rfl ?_); refine goesL_ (some 15) rfl rfl Try.func16 (by kernel_rfl) rfl #[.agg #[.slice A1 l0_0.length c1, .slice A2 l0_1.length c2]] rfl (by (try simp only [List.map_toArray, List.map_cons, List.map_nil]); first | done | rfl) ?_; (with_reducible refine (Go.Proofs.Ytjpaaihohkiomaa.PA.spec_TurnsOf.calls A1 c1 l0_0 A2 c2 l0_1 r _ (RO_Ct HO1.out (fullOf_take _ _) (fullOf_len _ _)) (Nat.le_trans (fullOf_len _ _) (RO_le HO1.out)) (RO_Ct HO2.out (fullOf_take _ _) (fullOf_len _ _)) (Nat.le_trans (fullOf_len _ _) (RO_le HO2.out)) HS.out).mono ?_); rintro e w4 ⟨rfl, hb⟩; refine ⟨_, rfl, ?_⟩; have n0_ := Aside0.mk (below_step HB.out hb); have n1_ := Aside0.mk (blk_below BKg1.out hb); have n2_ := Aside0.mk (RO_below HO1.out hb); have n3_ := Aside0.mk (RO_below HO2.out hb); clear HB BKg1 HO1 HO2; have HB := n0_; have BKg1 := n1_; have HO1 := n2_; have HO2 := n3_; clear n0_ n1_ n2_ n3_; (try clear hb); clear hcg1_0 hcg1_1; have hcg1_0 : w4.cell? ⟨g1, 0, none⟩ = some (.slice Ap0_0 l0_0.length cp0_0) := (blk_cell BKg1.out 0).trans rfl; have hcg1_1 : w4.cell? ⟨g1, 1, none⟩ = some (.slice Ap0_1 l0_1.length cp0_1) := (blk_cell BKg1.out 1).trans rfl) | ((with_reducible refine gate_callee (f := 17) rfl ?_); refine goesL_ (some 17) rfl rfl Try.func17 (by kernel_rfl) rfl #[.agg #[.slice Ap0_0 l0_0.length cp0_0, .slice Ap0_1 l0_1.length cp0_1], .bool false] rfl (by (try simp only [List.map_toArray, List.map_cons, List.map_nil]); first | done | rfl) ?_; (with_reducible refine (toRecord_c Ap0_0 cp0_0 l0_0 Ap0_1 cp0_1 l0_1 false _ hl_l0_0 hl_l0_1 (Kd.C_below HRp0_0.out HB.out) HCp0_0.out (Kd.C_below HRp0_1.out HB.out) HCp0_1.out).mono ?_); rintro e w5 ⟨A3, c3, A4, c4, rfl, ho3_, ho4_, hg3_, hg4_, dj3_4_, hb⟩; refine ⟨_, rfl, ?_⟩; have n0_ := Aside0.mk (below_step HB.out hb); have n1_ := Aside0.mk (blk_below BKg1.out hb); have n2_ := Aside0.mk (RO_below HO1.out hb); have n3_ := Aside0.mk (RO_below HO2.out hb); have m0_ := Aside0.mk (ho3_); have m1_ := Aside0.mk (own_lower hg3_ HB.out); have m2_ := Aside0.mk (RO_new HO1.out hg3_); have m3_ := Aside0.mk (dj_sym (RO_new HO1.out hg3_)); have m4_ := Aside0.mk (RO_new HO2.out hg3_); have m5_ := Aside0.mk (dj_sym (RO_new HO2.out hg3_)); have m6_ := Aside0.mk (ho4_); have m7_ := Aside0.mk (own_lower hg4_ HB.out); have m8_ := Aside0.mk (RO_new HO1.out hg4_); have m9_ := Aside0.mk (dj_sym (RO_new HO1.out hg4_)); have m10_ := Aside0.mk (RO_new HO2.out hg4_); have m11_ := Aside0.mk (dj_sym (RO_new HO2.out hg4_)); have m12_ := Aside0.mk (dj3_4_); have m13_ := Aside0.mk (dj_sym dj3_4_); clear HB BKg1 HO1 HO2; have HB := n0_; have BKg1 := n1_; have HO1 := n2_; have HO2 := n3_; have HO3 := m0_; have GB3 := m1_; have DJ1_3 := m2_; have DJ3_1 := m3_; have DJ2_3 := m4_; have DJ3_2 := m5_; have HO4 := m6_; have GB4 := m7_; have DJ1_4 := m8_; have DJ4_1 := m9_; have DJ2_4 := m10_; have DJ4_2 := m11_; have DJ3_4 := m12_; have DJ4_3 := m13_; clear n0_ n1_ n2_ n3_ m0_ m1_ m2_ m3_ m4_ m5_ m6_ m7_ m8_ m9_ m10_ m11_ m12_ m13_; (try clear hb); (try clear ho3_); (try clear hg3_); (try clear ho4_); (try clear hg4_); clear hcg1_0 hcg1_1; have hcg1_0 : w5.cell? ⟨g1, 0, none⟩ = some (.slice Ap0_0 l0_0.length cp0_0) := (blk_cell BKg1.out 0).trans rfl; have hcg1_1 : w5.cell? ⟨g1, 1, none⟩ = some (.slice Ap0_1 l0_1.length cp0_1) := (blk_cell BKg1.out 1).trans rfl) | ((with_reducible refine gate_dst (N := 5) rfl ?_); refine box_event ?hg (N := 5) ?hd (cs := #[.slice none 0 0, .slice none 0 0]) (t := 27) ?hr ?_; (case hd => rfl); (case hg => rfl); (case hr => first | (go_simp; done) | (go_simp; rfl)); intro g2 hg w6 hbox hb; have n0_ := Aside0.mk (below_step HB.out hb); have n1_ := Aside0.mk (blk_below BKg1.out hb); have n2_ := Aside0.mk (RO_below HO1.out hb); have n3_ := Aside0.mk (RO_below HO2.out hb); have n4_ := Aside0.mk (RO_below HO3.out hb); have n5_ := Aside0.mk (RO_below HO4.out hb); have m0_ := Aside0.mk (hbox); have m1_ := Aside0.mk ((by rw [hg]; exact below_size HB.out : w.heap.size ≤ g2)); have m2_ := Aside0.mk ((by rw [hg]; exact Nat.ne_of_lt (blk_lt BKg1.out) : g1 ≠ g2)); have m3_ := Aside0.mk ((by rw [hg]; exact Nat.ne_of_gt (blk_lt BKg1.out) : g2 ≠ g1)); clear HB BKg1 HO1 HO2 HO3 HO4; have HB := n0_; have BKg1 := n1_; have HO1 := n2_; have HO2 := n3_; have HO3 := n4_; have HO4 := n5_; have BKg2 := m0_; have GEg2 := m1_; have NEg1_g2 := m2_; have NEg2_g1 := m3_; clear n0_ n1_ n2_ n3_ n4_ n5_ m0_ m1_ m2_ m3_; clear hb hbox hg; clear hcg1_0 hcg1_1; have hcg1_0 : w6.cell? ⟨g1, 0, none⟩ = some (.slice Ap0_0 l0_0.length cp0_0) := (blk_cell BKg1.out 0).trans rfl; have hcg1_1 : w6.cell? ⟨g1, 1, none⟩ = some (.slice Ap0_1 l0_1.length cp0_1) := (blk_cell BKg1.out 1).trans rfl; have hcg2_0 : w6.cell? ⟨g2, 0, none⟩ = some (.slice none 0 0) := (blk_cell BKg2.out 0).trans rfl; have hfg2_0 := blk_frozen BKg2.out 0; have hcg2_1 : w6.cell? ⟨g2, 1, none⟩ = some (.slice none 0 0) := (blk_cell BKg2.out 1).trans rfl; have hfg2_1 := blk_frozen BKg2.out 1) | ((with_reducible refine gate_store (t := 27) (p := 5) rfl ?_); refine store_event (t := 27) (p := 5) (v := ?vo_w7) (w1 := (w6.setCell ⟨g2, 0, none⟩ (.slice A3 l0_0.length c3)).setCell ⟨g2, 1, none⟩ (.slice A4 l0_1.length c4)) ?hg ?ho ?hn ?hr ?_; (case ho => rfl); (case hg => rfl); (case hn => rfl); (case hr => first | (go_simp; done) | (go_simp; rfl)); intro w7 hw; have n0_ := Aside0.mk ((by rw [hw]; exact below_st2 HB.out GEg2.out : Below w.heap.size w w7)); have n1_ := Aside0.mk ((by rw [hw]; exact blk_st2f BKg1.out NEg1_g2.out : w7.heap[g1]? = some (.cells #[.slice Ap0_0 l0_0.length cp0_0, .slice Ap0_1 l0_1.length cp0_1] 24 (0, 0)))); have n2_ := Aside0.mk ((by rw [hw]; exact blk_st2 BKg2.out : w7.heap[g2]? = some (.cells #[.slice A3 l0_0.length c3, .slice A4 l0_1.length c4] 27 (0, 0)))); have n3_ := Aside0.mk ((by rw [hw]; exact RO_st2 HO1.out BKg2.out (by decide) : RO w7 (.slice A1 (fullOf false l0_0).length c1) (fullOf false l0_0))); have n4_ := Aside0.mk ((by rw [hw]; exact RO_st2 HO2.out BKg2.out (by decide) : RO w7 (.slice A2 (fullOf false l0_1).length c2) (fullOf false l0_1))); have n5_ := Aside0.mk ((by rw [hw]; exact RO_st2 HO3.out BKg2.out (by decide) : RO w7 (.slice A3 (fullOf false l0_0).length c3) (fullOf false l0_0))); have n6_ := Aside0.mk ((by rw [hw]; exact RO_st2 HO4.out BKg2.out (by decide) : RO w7 (.slice A4 (fullOf false l0_1).length c4) (fullOf false l0_1))); clear HB BKg1 BKg2 HO1 HO2 HO3 HO4; have HB := n0_; have BKg1 := n1_; have BKg2 := n2_; have HO1 := n3_; have HO2 := n4_; have HO3 := n5_; have HO4 := n6_; clear n0_ n1_ n2_ n3_ n4_ n5_ n6_; clear hw; clear hcg1_0 hcg1_1 hcg2_0 hfg2_0 hcg2_1 hfg2_1; have hcg1_0 : w7.cell? ⟨g1, 0, none⟩ = some (.slice Ap0_0 l0_0.length cp0_0) := (blk_cell BKg1.out 0).trans rfl; have hcg1_1 : w7.cell? ⟨g1, 1, none⟩ = some (.slice Ap0_1 l0_1.length cp0_1) := (blk_cell BKg1.out 1).trans rfl; have hcg2_0 : w7.cell? ⟨g2, 0, none⟩ = some (.slice A3 l0_0.length c3) := (blk_cell BKg2.out 0).trans rfl; have hfg2_0 := blk_frozen BKg2.out 0; have hcg2_1 : w7.cell? ⟨g2, 1, none⟩ = some (.slice A4 l0_1.length c4) := (blk_cell BKg2.out 1).trans rfl; have hfg2_1 := blk_frozen BKg2.out 1) | ((with_reducible refine gate_callee (f := 18) rfl ?_); refine goesL_ (some 19) rfl rfl Try.func18 (by kernel_rfl) rfl #[.agg #[.slice A3 l0_0.length c3, .slice A4 l0_1.length c4]] rfl (by (try simp only [List.map_toArray, List.map_cons, List.map_nil]); first | done | rfl) ?_; (with_reducible refine (Go.Proofs.Ytjpaaihohkiomaa.PA.impl_TurnsOf.calls A3 c3 l0_0 A4 c4 l0_1 r _ (RO_Ct HO3.out (fullOf_take _ _) (fullOf_len _ _)) (Nat.le_trans (fullOf_len _ _) (RO_le HO3.out)) (RO_Ct HO4.out (fullOf_take _ _) (fullOf_len _ _)) (Nat.le_trans (fullOf_len _ _) (RO_le HO4.out)) HI.out).mono ?_); rintro e w8 ⟨rfl, hb⟩; refine ⟨_, rfl, ?_⟩; have n0_ := Aside0.mk (below_step HB.out hb); have n1_ := Aside0.mk (blk_below BKg1.out hb); have n2_ := Aside0.mk (blk_below BKg2.out hb); have n3_ := Aside0.mk (RO_below HO1.out hb); have n4_ := Aside0.mk (RO_below HO2.out hb); have n5_ := Aside0.mk (RO_below HO3.out hb); have n6_ := Aside0.mk (RO_below HO4.out hb); clear HB BKg1 BKg2 HO1 HO2 HO3 HO4; have HB := n0_; have BKg1 := n1_; have BKg2 := n2_; have HO1 := n3_; have HO2 := n4_; have HO3 := n5_; have HO4 := n6_; clear n0_ n1_ n2_ n3_ n4_ n5_ n6_; (try clear hb); clear hcg1_0 hcg1_1 hcg2_0 hfg2_0 hcg2_1 hfg2_1; have hcg1_0 : w8.cell? ⟨g1, 0, none⟩ = some (.slice Ap0_0 l0_0.length cp0_0) := (blk_cell BKg1.out 0).trans rfl; have hcg1_1 : w8.cell? ⟨g1, 1, none⟩ = some (.slice Ap0_1 l0_1.length cp0_1) := (blk_cell BKg1.out 1).trans rfl; have hcg2_0 : w8.cell? ⟨g2, 0, none⟩ = some (.slice A3 l0_0.length c3) := (blk_cell BKg2.out 0).trans rfl; have hfg2_0 := blk_frozen BKg2.out 0; have hcg2_1 : w8.cell? ⟨g2, 1, none⟩ = some (.slice A4 l0_1.length c4) := (blk_cell BKg2.out 1).trans rfl; have hfg2_1 := blk_frozen BKg2.out 1))
  clear hcg1_0 hcg1_1 hcg2_0 hfg2_0 hcg2_1 hfg2_1
  have n0_ := Aside0.mk (below_drew1 HB.out)
  have n1_ := Aside0.mk (blk_drew BKg1.out)
  have n2_ := Aside0.mk (blk_drew BKg2.out)
  have n3_ := Aside0.mk (RO_drew HO1.out)
  have n4_ := Aside0.mk (RO_drew HO2.out)
  have n5_ := Aside0.mk (RO_drew HO3.out)
  have n6_ := Aside0.mk (RO_drew HO4.out)
  clear HB BKg1 BKg2 HO1 HO2 HO3 HO4
  have HB := n0_
  have BKg1 := n1_
  have BKg2 := n2_
  have HO1 := n3_
  have HO2 := n4_
  have HO3 := n5_
  have HO4 := n6_
  clear n0_ n1_ n2_ n3_ n4_ n5_ n6_
  refine start_ (n := 5) (S := fun w' => w'.cell? ⟨g1, 0, none⟩ = some (.slice Ap0_0 l0_0.length cp0_0) ∧ w'.cell? ⟨g1, 1, none⟩ = some (.slice Ap0_1 l0_1.length cp0_1) ∧ w'.cell? ⟨g2, 0, none⟩ = some (.slice A3 l0_0.length c3) ∧ w'.cell? ⟨g2, 1, none⟩ = some (.slice A4 l0_1.length c4)) (ds := []) #[false, false, false, false, false] (by kernel_rfl) rfl rfl ⟨(blk_cell BKg1.out 0).trans rfl, (blk_cell BKg1.out 1).trans rfl, (blk_cell BKg2.out 0).trans rfl, (blk_cell BKg2.out 1).trans rfl⟩ (fun hHeld => ?_)
  generalize w8.drew = w9 at HB BKg1 BKg2 HO1 HO2 HO3 HO4 hHeld ⊢
  refine take_ (i := 0) (N := some 23) (v := ?_) (a' := ?_) #[true, false, false, false, false] rfl rfl (by kernel_rfl) (fun _ _ _ h => h) (Or.inl ⟨by rfl, ?_⟩) hHeld ?_ ?_
  rotate_left
  · rintro w' ⟨s0, s1, s2, s3⟩
    go_simp
    with_reducible rfl
  rotate_left
  · simp only [Act.put, List.setIfInBounds_toArray, List.set_cons_zero, List.set_cons_succ, i64_w, i32_w]
    rfl
  refine take_ (i := 1) (N := some 24) (v := ?_) (a' := ?_) #[true, true, false, false, false] rfl rfl (by kernel_rfl) (fun _ _ _ h => h) (Or.inl ⟨by rfl, ?_⟩) hHeld ?_ ?_
  rotate_left
  · rintro w' ⟨s0, s1, s2, s3⟩
    go_simp
    with_reducible rfl
  rotate_left
  · simp only [Act.put, List.setIfInBounds_toArray, List.set_cons_zero, List.set_cons_succ, i64_w, i32_w]
    rfl
  refine one_ (i := 2) (N := some 25) #[true, true, true, false, false] rfl rfl (by kernel_rfl) (by decide) (fun K hK => ?_)
  refine goes_ Try.func17 (by kernel_rfl) rfl #[.agg #[.slice Ap0_0 l0_0.length cp0_0, .slice Ap0_1 l0_1.length cp0_1], .bool false] (by rfl) rfl rfl (by (try simp only [List.map_toArray, List.map_cons, List.map_nil]); first | done | rfl) ?_
  (with_reducible refine (toRecord_c Ap0_0 cp0_0 l0_0 Ap0_1 cp0_1 l0_1 false _ hl_l0_0 hl_l0_1 (Kd.C_below HRp0_0.out HB.out) HCp0_0.out (Kd.C_below HRp0_1.out HB.out) HCp0_1.out).mono ?_)
  rintro e w10 ⟨A5, c5, A6, c6, rfl, ho5_, ho6_, hg5_, hg6_, dj5_6_, hb⟩
  refine ⟨_, rfl, ?_⟩
  have n0_ := Aside0.mk (below_step HB.out hb)
  have n1_ := Aside0.mk (blk_below BKg1.out hb)
  have n2_ := Aside0.mk (blk_below BKg2.out hb)
  have n3_ := Aside0.mk (RO_below HO1.out hb)
  have n4_ := Aside0.mk (RO_below HO2.out hb)
  have n5_ := Aside0.mk (RO_below HO3.out hb)
  have n6_ := Aside0.mk (RO_below HO4.out hb)
  have m0_ := Aside0.mk (ho5_)
  have m1_ := Aside0.mk (own_lower hg5_ HB.out)
  have m2_ := Aside0.mk (RO_new HO1.out hg5_)
  have m3_ := Aside0.mk (dj_sym (RO_new HO1.out hg5_))
  have m4_ := Aside0.mk (RO_new HO2.out hg5_)
  have m5_ := Aside0.mk (dj_sym (RO_new HO2.out hg5_))
  have m6_ := Aside0.mk (RO_new HO3.out hg5_)
  have m7_ := Aside0.mk (dj_sym (RO_new HO3.out hg5_))
  have m8_ := Aside0.mk (RO_new HO4.out hg5_)
  have m9_ := Aside0.mk (dj_sym (RO_new HO4.out hg5_))
  have m10_ := Aside0.mk (ho6_)
  have m11_ := Aside0.mk (own_lower hg6_ HB.out)
  have m12_ := Aside0.mk (RO_new HO1.out hg6_)
  have m13_ := Aside0.mk (dj_sym (RO_new HO1.out hg6_))
  have m14_ := Aside0.mk (RO_new HO2.out hg6_)
  have m15_ := Aside0.mk (dj_sym (RO_new HO2.out hg6_))
  have m16_ := Aside0.mk (RO_new HO3.out hg6_)
  have m17_ := Aside0.mk (dj_sym (RO_new HO3.out hg6_))
  have m18_ := Aside0.mk (RO_new HO4.out hg6_)
  have m19_ := Aside0.mk (dj_sym (RO_new HO4.out hg6_))
  have m20_ := Aside0.mk (dj5_6_)
  have m21_ := Aside0.mk (dj_sym dj5_6_)
  clear HB BKg1 BKg2 HO1 HO2 HO3 HO4
  have HB := n0_
  have BKg1 := n1_
  have BKg2 := n2_
  have HO1 := n3_
  have HO2 := n4_
  have HO3 := n5_
  have HO4 := n6_
  have HO5 := m0_
  have GB5 := m1_
  have DJ1_5 := m2_
  have DJ5_1 := m3_
  have DJ2_5 := m4_
  have DJ5_2 := m5_
  have DJ3_5 := m6_
  have DJ5_3 := m7_
  have DJ4_5 := m8_
  have DJ5_4 := m9_
  have HO6 := m10_
  have GB6 := m11_
  have DJ1_6 := m12_
  have DJ6_1 := m13_
  have DJ2_6 := m14_
  have DJ6_2 := m15_
  have DJ3_6 := m16_
  have DJ6_3 := m17_
  have DJ4_6 := m18_
  have DJ6_4 := m19_
  have DJ5_6 := m20_
  have DJ6_5 := m21_
  clear n0_ n1_ n2_ n3_ n4_ n5_ n6_ m0_ m1_ m2_ m3_ m4_ m5_ m6_ m7_ m8_ m9_ m10_ m11_ m12_ m13_ m14_ m15_ m16_ m17_ m18_ m19_ m20_ m21_
  (try clear hb)
  (try clear ho5_)
  (try clear hg5_)
  (try clear ho6_)
  (try clear hg6_)
  refine hK.out _ _ ⟨(blk_cell BKg1.out 0).trans rfl, (blk_cell BKg1.out 1).trans rfl, (blk_cell BKg2.out 0).trans rfl, (blk_cell BKg2.out 1).trans rfl⟩ (fun hHeld => ?_)
  clear hK K
  refine norm_ (a' := ?_) ?_ ?_
  rotate_left
  · show Act.put _ (some 25) _ = _
    simp only [Act.put, List.setIfInBounds_toArray, List.set_cons_zero, List.set_cons_succ, i64_w, i32_w]
    rfl
  refine one_ (i := 3) (N := some 26) #[true, true, true, true, false] rfl rfl (by kernel_rfl) (by decide) (fun K hK => ?_)
  refine goes_ Try.func19 (by kernel_rfl) rfl #[.agg #[.slice A3 l0_0.length c3, .slice A4 l0_1.length c4], .agg #[.slice A5 l0_0.length c5, .slice A6 l0_1.length c6]] (by rfl) rfl rfl (by (try simp only [List.map_toArray, List.map_cons, List.map_nil]); first | done | rfl) ?_
  (with_reducible refine (intactRecord_c A3 c3 A4 c4 A5 c5 A6 c6 l0_0 l0_1 _ hl_l0_0 hl_l0_1 HO3.out HO4.out HO5.out HO6.out).mono ?_)
  rintro e w11 ⟨rfl, hb⟩
  refine ⟨_, rfl, ?_⟩
  have n0_ := Aside0.mk (below_step HB.out hb)
  have n1_ := Aside0.mk (blk_below BKg1.out hb)
  have n2_ := Aside0.mk (blk_below BKg2.out hb)
  have n3_ := Aside0.mk (RO_below HO1.out hb)
  have n4_ := Aside0.mk (RO_below HO2.out hb)
  have n5_ := Aside0.mk (RO_below HO3.out hb)
  have n6_ := Aside0.mk (RO_below HO4.out hb)
  have n7_ := Aside0.mk (RO_below HO5.out hb)
  have n8_ := Aside0.mk (RO_below HO6.out hb)
  clear HB BKg1 BKg2 HO1 HO2 HO3 HO4 HO5 HO6
  have HB := n0_
  have BKg1 := n1_
  have BKg2 := n2_
  have HO1 := n3_
  have HO2 := n4_
  have HO3 := n5_
  have HO4 := n6_
  have HO5 := n7_
  have HO6 := n8_
  clear n0_ n1_ n2_ n3_ n4_ n5_ n6_ n7_ n8_
  (try clear hb)
  refine hK.out _ _ ⟨(blk_cell BKg1.out 0).trans rfl, (blk_cell BKg1.out 1).trans rfl, (blk_cell BKg2.out 0).trans rfl, (blk_cell BKg2.out 1).trans rfl⟩ (fun hHeld => ?_)
  clear hK K
  refine norm_ (a' := ?_) ?_ ?_
  rotate_left
  · show Act.put _ (some 26) _ = _
    simp only [Act.put, List.setIfInBounds_toArray, List.set_cons_zero, List.set_cons_succ, i64_w, i32_w]
    rfl
  refine pure_ (i := 4) (N := some 27) (v := ?_) (a' := ?_) #[true, true, true, true, true] rfl rfl (by kernel_rfl) (fun _ _ _ h => h) (Or.inl ⟨by rfl, ?_⟩) ?_ ?_
  rotate_left
  · intro w'
    go_simp
    with_reducible rfl
  rotate_left
  · simp only [Act.put, List.setIfInBounds_toArray, List.set_cons_zero, List.set_cons_succ, i64_w, i32_w]
    rfl
  refine done_ (by kernel_rfl) ?_
  have hcg1_0 : w11.cell? ⟨g1, 0, none⟩ = some (.slice Ap0_0 l0_0.length cp0_0) := (blk_cell BKg1.out 0).trans rfl
  have hcg1_1 : w11.cell? ⟨g1, 1, none⟩ = some (.slice Ap0_1 l0_1.length cp0_1) := (blk_cell BKg1.out 1).trans rfl
  have hcg2_0 : w11.cell? ⟨g2, 0, none⟩ = some (.slice A3 l0_0.length c3) := (blk_cell BKg2.out 0).trans rfl
  have hfg2_0 := blk_frozen BKg2.out 0
  have hcg2_1 : w11.cell? ⟨g2, 1, none⟩ = some (.slice A4 l0_1.length c4) := (blk_cell BKg2.out 1).trans rfl
  have hfg2_1 := blk_frozen BKg2.out 1
  go_wp2_with (first | ((with_reducible refine gate_callee (f := 17) rfl ?_); refine goesL_ (some 29) rfl rfl Try.func17 (by kernel_rfl) rfl #[.agg #[.slice Ap0_0 l0_0.length cp0_0, .slice Ap0_1 l0_1.length cp0_1], .bool true] rfl (by (try simp only [List.map_toArray, List.map_cons, List.map_nil]); first | done | rfl) ?_; (with_reducible refine (toRecord_c Ap0_0 cp0_0 l0_0 Ap0_1 cp0_1 l0_1 true _ hl_l0_0 hl_l0_1 (Kd.C_below HRp0_0.out HB.out) HCp0_0.out (Kd.C_below HRp0_1.out HB.out) HCp0_1.out).mono ?_); rintro e w12 ⟨A7, c7, A8, c8, rfl, ho7_, ho8_, hg7_, hg8_, dj7_8_, hb⟩; refine ⟨_, rfl, ?_⟩; have n0_ := Aside0.mk (below_step HB.out hb); have n1_ := Aside0.mk (blk_below BKg1.out hb); have n2_ := Aside0.mk (blk_below BKg2.out hb); have n3_ := Aside0.mk (RO_below HO1.out hb); have n4_ := Aside0.mk (RO_below HO2.out hb); have n5_ := Aside0.mk (RO_below HO3.out hb); have n6_ := Aside0.mk (RO_below HO4.out hb); have n7_ := Aside0.mk (RO_below HO5.out hb); have n8_ := Aside0.mk (RO_below HO6.out hb); have m0_ := Aside0.mk (ho7_); have m1_ := Aside0.mk (own_lower hg7_ HB.out); have m2_ := Aside0.mk (RO_new HO1.out hg7_); have m3_ := Aside0.mk (dj_sym (RO_new HO1.out hg7_)); have m4_ := Aside0.mk (RO_new HO2.out hg7_); have m5_ := Aside0.mk (dj_sym (RO_new HO2.out hg7_)); have m6_ := Aside0.mk (RO_new HO3.out hg7_); have m7_ := Aside0.mk (dj_sym (RO_new HO3.out hg7_)); have m8_ := Aside0.mk (RO_new HO4.out hg7_); have m9_ := Aside0.mk (dj_sym (RO_new HO4.out hg7_)); have m10_ := Aside0.mk (RO_new HO5.out hg7_); have m11_ := Aside0.mk (dj_sym (RO_new HO5.out hg7_)); have m12_ := Aside0.mk (RO_new HO6.out hg7_); have m13_ := Aside0.mk (dj_sym (RO_new HO6.out hg7_)); have m14_ := Aside0.mk (ho8_); have m15_ := Aside0.mk (own_lower hg8_ HB.out); have m16_ := Aside0.mk (RO_new HO1.out hg8_); have m17_ := Aside0.mk (dj_sym (RO_new HO1.out hg8_)); have m18_ := Aside0.mk (RO_new HO2.out hg8_); have m19_ := Aside0.mk (dj_sym (RO_new HO2.out hg8_)); have m20_ := Aside0.mk (RO_new HO3.out hg8_); have m21_ := Aside0.mk (dj_sym (RO_new HO3.out hg8_)); have m22_ := Aside0.mk (RO_new HO4.out hg8_); have m23_ := Aside0.mk (dj_sym (RO_new HO4.out hg8_)); have m24_ := Aside0.mk (RO_new HO5.out hg8_); have m25_ := Aside0.mk (dj_sym (RO_new HO5.out hg8_)); have m26_ := Aside0.mk (RO_new HO6.out hg8_); have m27_ := Aside0.mk (dj_sym (RO_new HO6.out hg8_)); have m28_ := Aside0.mk (dj7_8_); have m29_ := Aside0.mk (dj_sym dj7_8_); clear HB BKg1 BKg2 HO1 HO2 HO3 HO4 HO5 HO6; have HB := n0_; have BKg1 := n1_; have BKg2 := n2_; have HO1 := n3_; have HO2 := n4_; have HO3 := n5_; have HO4 := n6_; have HO5 := n7_; have HO6 := n8_; have HO7 := m0_; have GB7 := m1_; have DJ1_7 := m2_; have DJ7_1 := m3_; have DJ2_7 := m4_; have DJ7_2 := m5_; have DJ3_7 := m6_; have DJ7_3 := m7_; have DJ4_7 := m8_; have DJ7_4 := m9_; have DJ5_7 := m10_; have DJ7_5 := m11_; have DJ6_7 := m12_; have DJ7_6 := m13_; have HO8 := m14_; have GB8 := m15_; have DJ1_8 := m16_; have DJ8_1 := m17_; have DJ2_8 := m18_; have DJ8_2 := m19_; have DJ3_8 := m20_; have DJ8_3 := m21_; have DJ4_8 := m22_; have DJ8_4 := m23_; have DJ5_8 := m24_; have DJ8_5 := m25_; have DJ6_8 := m26_; have DJ8_6 := m27_; have DJ7_8 := m28_; have DJ8_7 := m29_; clear n0_ n1_ n2_ n3_ n4_ n5_ n6_ n7_ n8_ m0_ m1_ m2_ m3_ m4_ m5_ m6_ m7_ m8_ m9_ m10_ m11_ m12_ m13_ m14_ m15_ m16_ m17_ m18_ m19_ m20_ m21_ m22_ m23_ m24_ m25_ m26_ m27_ m28_ m29_; (try clear hb); (try clear ho7_); (try clear hg7_); (try clear ho8_); (try clear hg8_); clear hcg1_0 hcg1_1 hcg2_0 hfg2_0 hcg2_1 hfg2_1; have hcg1_0 : w12.cell? ⟨g1, 0, none⟩ = some (.slice Ap0_0 l0_0.length cp0_0) := (blk_cell BKg1.out 0).trans rfl; have hcg1_1 : w12.cell? ⟨g1, 1, none⟩ = some (.slice Ap0_1 l0_1.length cp0_1) := (blk_cell BKg1.out 1).trans rfl; have hcg2_0 : w12.cell? ⟨g2, 0, none⟩ = some (.slice A3 l0_0.length c3) := (blk_cell BKg2.out 0).trans rfl; have hfg2_0 := blk_frozen BKg2.out 0; have hcg2_1 : w12.cell? ⟨g2, 1, none⟩ = some (.slice A4 l0_1.length c4) := (blk_cell BKg2.out 1).trans rfl; have hfg2_1 := blk_frozen BKg2.out 1) | ((with_reducible refine gate_callee (f := 18) rfl ?_); refine goesL_ (some 30) rfl rfl Try.func18 (by kernel_rfl) rfl #[.agg #[.slice A7 l0_0.length c7, .slice A8 l0_1.length c8]] rfl (by (try simp only [List.map_toArray, List.map_cons, List.map_nil]); first | done | rfl) ?_; (with_reducible refine (Go.Proofs.Ytjpaaihohkiomaa.PA.impl_TurnsOf.calls A7 c7 l0_0 A8 c8 l0_1 r _ (RO_Ct HO7.out (fullOf_take _ _) (fullOf_len _ _)) (Nat.le_trans (fullOf_len _ _) (RO_le HO7.out)) (RO_Ct HO8.out (fullOf_take _ _) (fullOf_len _ _)) (Nat.le_trans (fullOf_len _ _) (RO_le HO8.out)) HI.out).mono ?_); rintro e w13 ⟨rfl, hb⟩; refine ⟨_, rfl, ?_⟩; have n0_ := Aside0.mk (below_step HB.out hb); have n1_ := Aside0.mk (blk_below BKg1.out hb); have n2_ := Aside0.mk (blk_below BKg2.out hb); have n3_ := Aside0.mk (RO_below HO1.out hb); have n4_ := Aside0.mk (RO_below HO2.out hb); have n5_ := Aside0.mk (RO_below HO3.out hb); have n6_ := Aside0.mk (RO_below HO4.out hb); have n7_ := Aside0.mk (RO_below HO5.out hb); have n8_ := Aside0.mk (RO_below HO6.out hb); have n9_ := Aside0.mk (RO_below HO7.out hb); have n10_ := Aside0.mk (RO_below HO8.out hb); clear HB BKg1 BKg2 HO1 HO2 HO3 HO4 HO5 HO6 HO7 HO8; have HB := n0_; have BKg1 := n1_; have BKg2 := n2_; have HO1 := n3_; have HO2 := n4_; have HO3 := n5_; have HO4 := n6_; have HO5 := n7_; have HO6 := n8_; have HO7 := n9_; have HO8 := n10_; clear n0_ n1_ n2_ n3_ n4_ n5_ n6_ n7_ n8_ n9_ n10_; (try clear hb); clear hcg1_0 hcg1_1 hcg2_0 hfg2_0 hcg2_1 hfg2_1; have hcg1_0 : w13.cell? ⟨g1, 0, none⟩ = some (.slice Ap0_0 l0_0.length cp0_0) := (blk_cell BKg1.out 0).trans rfl; have hcg1_1 : w13.cell? ⟨g1, 1, none⟩ = some (.slice Ap0_1 l0_1.length cp0_1) := (blk_cell BKg1.out 1).trans rfl; have hcg2_0 : w13.cell? ⟨g2, 0, none⟩ = some (.slice A3 l0_0.length c3) := (blk_cell BKg2.out 0).trans rfl; have hfg2_0 := blk_frozen BKg2.out 0; have hcg2_1 : w13.cell? ⟨g2, 1, none⟩ = some (.slice A4 l0_1.length c4) := (blk_cell BKg2.out 1).trans rfl; have hfg2_1 := blk_frozen BKg2.out 1))
  go_ret
  exact ⟨rfl, HB.out⟩

set_option maxHeartbeats 4000000 in
set_option maxRecDepth 100000 in
theorem FnExactTurnsOf_big0 (Ap0_0 : Option Addr) (cp0_0 : Nat) (l0_0 : List Int) (Ap0_1 : Option Addr) (cp0_1 : Nat) (l0_1 : List Int) (w : World) (hr0_0 : Kd.C (Kd.int .i64) w Ap0_0 l0_0.length l0_0) (hc0_0 : l0_0.length ≤ cp0_0) (hr0_1 : Kd.C (Kd.int .i64) w Ap0_1 l0_1.length l0_1) (hc0_1 : l0_1.length ≤ cp0_1) (hm_l0_0 : l0_0.length ≤ 17592186044416) (hm_l0_1 : l0_1.length ≤ 17592186044416) (hbig : 1000000 < (l0_0.length : Int) + (l0_1.length : Int)) :
    Calls Try.prog 3 #[.agg #[.slice Ap0_0 l0_0.length cp0_0, .slice Ap0_1 l0_1.length cp0_1]] w fun e w' => e = .returned (.bool true) ∧ Below w.heap.size w w' := by
  have HRp0_0 := Aside0.mk hr0_0
  have HCp0_0 := Aside0.mk hc0_0
  have HRp0_1 := Aside0.mk hr0_1
  have HCp0_1 := Aside0.mk hc0_1
  clear hr0_0 hc0_0 hr0_1 hc0_1
  have HB := Aside0.mk (Below.refl w.heap.size w)
  go_enter Try.func3, Try.ntmps3
  go_wp2_with (first | ((with_reducible refine gate_dst (N := 1) rfl ?_); refine box_event ?hg (N := 1) ?hd (cs := #[.slice Ap0_0 l0_0.length cp0_0, .slice Ap0_1 l0_1.length cp0_1]) (t := 24) ?hr ?_; (case hd => rfl); (case hg => rfl); (case hr => first | (go_simp; done) | (go_simp; rfl)); intro g1 hg w1 hbox hb; have n0_ := Aside0.mk (below_step HB.out hb); have m0_ := Aside0.mk (hbox); have m1_ := Aside0.mk ((by rw [hg]; exact below_size HB.out : w.heap.size ≤ g1)); clear HB; have HB := n0_; have BKg1 := m0_; have GEg1 := m1_; clear n0_ m0_ m1_; clear hb hbox hg; have hcg1_0 : w1.cell? ⟨g1, 0, none⟩ = some (.slice Ap0_0 l0_0.length cp0_0) := (blk_cell BKg1.out 0).trans rfl; have hcg1_1 : w1.cell? ⟨g1, 1, none⟩ = some (.slice Ap0_1 l0_1.length cp0_1) := (blk_cell BKg1.out 1).trans rfl) | ((with_reducible refine gate_callee (f := 15) rfl ?_); refine goesL_ (some 10) rfl rfl Try.func15 (by kernel_rfl) rfl #[.agg #[.slice Ap0_0 l0_0.length cp0_0, .slice Ap0_1 l0_1.length cp0_1], .int .i64 1000000] rfl (by (try simp only [List.map_toArray, List.map_cons, List.map_nil]); first | done | rfl) ?_; (with_reducible refine (Go.Proofs.Ytjpaaihohkiomaa.PH.laws_szRecord.calls Ap0_0 cp0_0 l0_0 Ap0_1 cp0_1 l0_1 (1000000) ((-1)) _ (Kd.C_below HRp0_0.out HB.out) HCp0_0.out (Kd.C_below HRp0_1.out HB.out) HCp0_1.out (szR_big _ _ _ (by omega) (by omega) (by omega) (by omega) (by omega))).mono ?_); rintro e w2 ⟨rfl, hb⟩; refine ⟨_, rfl, ?_⟩; have n0_ := Aside0.mk (below_step HB.out hb); have n1_ := Aside0.mk (blk_below BKg1.out hb); clear HB BKg1; have HB := n0_; have BKg1 := n1_; clear n0_ n1_; (try clear hb); clear hcg1_0 hcg1_1; have hcg1_0 : w2.cell? ⟨g1, 0, none⟩ = some (.slice Ap0_0 l0_0.length cp0_0) := (blk_cell BKg1.out 0).trans rfl; have hcg1_1 : w2.cell? ⟨g1, 1, none⟩ = some (.slice Ap0_1 l0_1.length cp0_1) := (blk_cell BKg1.out 1).trans rfl))
  go_ret
  exact ⟨rfl, HB.out⟩

end Go.Proofs.Ytjpaaihohkiomaa.Wr

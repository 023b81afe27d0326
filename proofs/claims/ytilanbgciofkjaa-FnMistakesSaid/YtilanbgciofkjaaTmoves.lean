/- PursuerMoves and FugitiveMoves: the walks. -/
import Derived.Test.YtilanbgciofkjaaMt
import Derived.Test.YtilanbgciofkjaaMb
namespace Go.Proofs.Ytilanbgciofkjaa.PA
open Go.RowKit Go.Proofs.YtilanbgciofkjaaW.PrintWords Go.Proofs.YtilanbgciofkjaaW.PrintLast Go.Proofs.YtilanbgciofkjaaW.PrintMore Go.Proofs.Ytilanbgciofkjaa.Pure
attribute [local go_sem] max2_int min2_int max_two min_two max_three min_three max_four min_four
set_option linter.unusedVariables false
set_option linter.unusedSimpArgs false
/-- the pursuer's number of moves -/
def impl_PursuerMoves.f (k : Nat) (a0_0 : Int) (l0_1 : List Int) (a1 : Int) (a2 : Int) : Option (Int) := (impl_Graph_hold.f k a0_0 l0_1 [a1, a2]).bind fun t => if t = true then some (dist l0_1 a1.toNat a2.toNat) else some (-1)
theorem impl_PursuerMoves.mono : ∀ a0 a1 a2 a3 k, LeO (impl_PursuerMoves.f k a0 a1 a2 a3) (impl_PursuerMoves.f (k + 1) a0 a1 a2 a3) := fun a0 a1 a2 a3 k => LeO.bind (impl_Graph_hold.mono a0 a1 [a2, a3] k) (fun _ => LeO.refl _)
set_option maxHeartbeats 4000000 in
set_option maxRecDepth 100000 in
theorem impl_PursuerMoves.calls (k : Nat) (a0_0 : Int) (A0_1 : Option Addr) (c0_1 : Nat) (l0_1 : List Int) (a1 : Int) (a2 : Int) (r : Int) (w : World) (hr0_1 : Kd.C (Kd.int .i64) w A0_1 l0_1.length l0_1) (hc0_1 : l0_1.length ≤ c0_1) (h : impl_PursuerMoves.f k a0_0 l0_1 a1 a2 = some r) :
    Calls Try.prog 21 #[.agg #[.int .i64 a0_0, .slice A0_1 l0_1.length c0_1], .int .i64 a1, .int .i64 a2] w fun e w' => e = .returned (.int .i64 r) ∧ Below w.heap.size w w' := by
  replace h := Option.bind_eq_some_iff.1 h
  obtain ⟨t, ht, h⟩ := h
  by_cases hb : t = true
  · subst hb
    obtain ⟨g, hv⟩ := (hold_inv ht).1 rfl
    obtain ⟨n, rfl⟩ : ∃ n : Nat, a0_0 = (n : Int) := ⟨a0_0.toNat, by have := g.lo; omega⟩
    obtain ⟨p, f, rfl, rfl, hp, hf⟩ := verts2 hv
    have hn8 : n ≤ 8 := by have := g.len8; have := nlen g; omega
    have hp8 : p < 8 := by omega
    have hf8 : f < 8 := by omega
    have HT := Aside0.mk ht
    have HR := Aside0.mk hr0_1
    have HBW := Aside0.mk (Below.refl w.heap.size w)
    simp only [↓reduceIte, Int.toNat_natCast] at h
    obtain rfl := Option.some.inj h
    clear ht hr0_1 hv h
    go_enter Try.func21, Try.ntmps21
    go_wp2_with (first
     | ((with_reducible refine gate_dst (N := 3) rfl ?_); refine box_event rfl (N := 3) rfl (cs := #[.int .i64 n, .slice A0_1 l0_1.length c0_1]) (t := 27) (by first | (go_simp; done) | (go_simp; rfl)) ?_; intro gb hgb w1 hbox hb1;
         have BG := Aside0.mk hbox; have HB := Aside0.mk hb1; have hz0 : w1.cell? ⟨gb, 0, none⟩ = some (.int .i64 n) := (blk_cell BG.out 0).trans rfl; have hz1 : w1.cell? ⟨gb, 1, none⟩ = some (.slice A0_1 l0_1.length c0_1) := (blk_cell BG.out 1).trans rfl; clear hbox hgb hb1)
     | ((with_reducible refine gate_dst (N := 10) rfl ?_); refine Kd.R_lit (Kd.int .i64) _ 3 ?hg (N := 10) ?hd (xs := ([(p : Int), (f : Int)] : List Int)) (inner := [.int .i64 (p : Int), .int .i64 (f : Int)]) (ok := fun _ => True) (okp := fun _ => True) ?hr ?hp (fun _ hk => hk) trivial (Below.refl _ _) (Nat.le_refl _) (by simp) ?_; (case hd => rfl); (case hg => rfl); (case hr => first | (go_simp; done) | (go_simp; rfl)); (case hp => exact (Reps.one (show Kd.M (Kd.int .i64) _ _ _ (p : Int) [.int .i64 (p : Int)] from rfl) (Reps.one (show Kd.M (Kd.int .i64) _ _ _ (f : Int) [.int .i64 (f : Int)] from rfl) (Reps.none _ _)))); intro v10 w2 ho hb2 hg_ hnew_; clear hg_ hnew_;
         obtain ⟨A10, c10, e10⟩ := Kd.R_slice ho; subst e10;
         have HO := Aside0.mk ho; have BG2 := Aside0.mk (blk_below BG.out hb2); have HB2 := Aside0.mk (below_step HB.out hb2); clear ho hb2 BG HB hz0 hz1; have BG := BG2; have HB := HB2; clear BG2 HB2;
         have hz0 : w2.cell? ⟨gb, 0, none⟩ = some (.int .i64 n) := (blk_cell BG.out 0).trans rfl; have hz1 : w2.cell? ⟨gb, 1, none⟩ = some (.slice A0_1 l0_1.length c0_1) := (blk_cell BG.out 1).trans rfl)
     | ((with_reducible refine gate_callee (f := 62) rfl ?_); refine goesL_ (some 11) rfl rfl Try.func62 (by kernel_rfl) rfl #[.agg #[.int .i64 n, .slice A0_1 l0_1.length c0_1], .slice A10 ([(p : Int), (f : Int)] : List Int).length c10] rfl (by (try simp only [List.map_toArray, List.map_cons, List.map_nil]); first | done | rfl) ?_; (with_reducible refine (impl_Graph_hold.calls k n A0_1 c0_1 l0_1 A10 c10 [(p : Int), (f : Int)] true w2 (Kd.C_below HR.out HB.out) hc0_1 (Kd.R_reads' HO.out).2.2 (Kd.R_reads' HO.out).2.1 HT.out).mono ?_); rintro e w3 ⟨rfl, hb3⟩; refine ⟨_, rfl, ?_⟩;
         have BG2 := Aside0.mk (blk_below BG.out hb3); have HB2 := Aside0.mk (below_step HB.out hb3); clear hb3 BG HB hz0 hz1 HO; have BG := BG2; have HB := HB2; clear BG2 HB2;
         have hz0 : w3.cell? ⟨gb, 0, none⟩ = some (.int .i64 n) := (blk_cell BG.out 0).trans rfl; have hz1 : w3.cell? ⟨gb, 1, none⟩ = some (.slice A0_1 l0_1.length c0_1) := (blk_cell BG.out 1).trans rfl)
     | ((with_reducible refine gate_callee (f := 64) rfl ?_); refine goesL_ (some 14) rfl rfl Try.func64 (by kernel_rfl) rfl #[.agg #[.int .i64 n, .slice A0_1 l0_1.length c0_1]] rfl (by (try simp only [List.map_toArray, List.map_cons, List.map_nil]); first | done | rfl) ?_; (with_reducible refine (tableOf_c g A0_1 c0_1 hc0_1 w3 (Kd.C_below HR.out HB.out)).mono ?_); rintro e w4 ⟨T, C, E, rfl, hT, hBK, hb4, hF⟩; refine ⟨_, rfl, ?_⟩; have BK := Aside0.mk hBK; have TF := Aside0.mk hF; have HB2 := Aside0.mk (below_step HB.out hb4); clear hb4 hT hBK hF BG HB hz0 hz1; have HB := HB2; clear HB2; obtain ⟨cv, hcv⟩ : ∃ cv, cv = C.getD (8 * p + f) 0 := ⟨_, rfl⟩; have HCE := Aside0.mk (by rw [hcv]; exact BK.out.cC p f hp8 hf8 TF.out.inC.1 : w4.cell? ⟨T, 2 + p * 8 + f, none⟩ = some (.int .i64 cv)); have HTD := Aside0.mk (by rw [hcv]; exact TabFin.dist hn8 TF.out p f hp hf : impl_told.f cv = some (dist l0_1 p f)); clear hcv) | ((with_reducible refine gate_dst (N := 19) rfl ?_); refine Kd.event_run rfl (row_run _ _ rfl T 2 p rfl rfl hp8) ?_) | ((with_reducible refine gate_dst (N := 20) rfl ?_); refine Kd.event_run rfl (col_run _ _ rfl T (2 + p * 8) f rfl rfl hf8) ?_) | ((with_reducible refine gate_dst (N := 21) rfl ?_); refine Kd.event_run rfl (load_run _ rfl T (2 + p * 8 + f) _ rfl HCE.out) ?_) | ((with_reducible refine gate_callee (f := 63) rfl ?_); refine goesL_ (some 22) rfl rfl Try.func63 (by kernel_rfl) rfl #[.int .i64 cv] rfl (by (try simp only [List.map_toArray, List.map_cons, List.map_nil]); first | done | rfl) ?_; (with_reducible refine (impl_told.calls cv _ _ HTD.out).mono ?_); rintro e w5 ⟨rfl, hd⟩; refine ⟨_, rfl, ?_⟩; have HB2 := Aside0.mk (below_step HB.out hd.below); clear hd HB; have HB := HB2; clear HB2))
    go_ret
    exact ⟨rfl, HB.out⟩
  · have hbf : t = false := by simpa using hb
    subst hbf
    have HT := Aside0.mk ht
    have HR := Aside0.mk hr0_1
    simp only [↓reduceIte, Bool.false_eq_true] at h
    obtain rfl := Option.some.inj h
    clear ht hr0_1 hb h
    go_enter Try.func21, Try.ntmps21
    go_wp2_with (first
     | ((with_reducible refine gate_dst (N := 3) rfl ?_); refine box_event rfl (N := 3) rfl (cs := #[.int .i64 a0_0, .slice A0_1 l0_1.length c0_1]) (t := 27) (by first | (go_simp; done) | (go_simp; rfl)) ?_; intro gb hgb w1 hbox hb1;
         have BG := Aside0.mk hbox; have HB := Aside0.mk hb1; have hz0 : w1.cell? ⟨gb, 0, none⟩ = some (.int .i64 a0_0) := (blk_cell BG.out 0).trans rfl; have hz1 : w1.cell? ⟨gb, 1, none⟩ = some (.slice A0_1 l0_1.length c0_1) := (blk_cell BG.out 1).trans rfl; clear hbox hgb hb1)
     | ((with_reducible refine gate_dst (N := 10) rfl ?_); refine Kd.R_lit (Kd.int .i64) _ 3 ?hg (N := 10) ?hd (xs := ([a1, a2] : List Int)) (inner := [.int .i64 a1, .int .i64 a2]) (ok := fun _ => True) (okp := fun _ => True) ?hr ?hp (fun _ hk => hk) trivial (Below.refl _ _) (Nat.le_refl _) (by simp) ?_; (case hd => rfl); (case hg => rfl); (case hr => first | (go_simp; done) | (go_simp; rfl)); (case hp => exact (Reps.one (show Kd.M (Kd.int .i64) _ _ _ a1 [.int .i64 a1] from rfl) (Reps.one (show Kd.M (Kd.int .i64) _ _ _ a2 [.int .i64 a2] from rfl) (Reps.none _ _)))); intro v10 w2 ho hb2 hg_ hnew_; clear hg_ hnew_;
         obtain ⟨A10, c10, e10⟩ := Kd.R_slice ho; subst e10;
         have HO := Aside0.mk ho; have BG2 := Aside0.mk (blk_below BG.out hb2); have HB2 := Aside0.mk (below_step HB.out hb2); clear ho hb2 BG HB hz0 hz1; have BG := BG2; have HB := HB2; clear BG2 HB2;
         have hz0 : w2.cell? ⟨gb, 0, none⟩ = some (.int .i64 a0_0) := (blk_cell BG.out 0).trans rfl; have hz1 : w2.cell? ⟨gb, 1, none⟩ = some (.slice A0_1 l0_1.length c0_1) := (blk_cell BG.out 1).trans rfl)
     | ((with_reducible refine gate_callee (f := 62) rfl ?_); refine goesL_ (some 11) rfl rfl Try.func62 (by kernel_rfl) rfl #[.agg #[.int .i64 a0_0, .slice A0_1 l0_1.length c0_1], .slice A10 ([a1, a2] : List Int).length c10] rfl (by (try simp only [List.map_toArray, List.map_cons, List.map_nil]); first | done | rfl) ?_; (with_reducible refine (impl_Graph_hold.calls k a0_0 A0_1 c0_1 l0_1 A10 c10 [a1, a2] false w2 (Kd.C_below HR.out HB.out) hc0_1 (Kd.R_reads' HO.out).2.2 (Kd.R_reads' HO.out).2.1 HT.out).mono ?_); rintro e w3 ⟨rfl, hb3⟩; refine ⟨_, rfl, ?_⟩;
         have BG2 := Aside0.mk (blk_below BG.out hb3); have HB2 := Aside0.mk (below_step HB.out hb3); clear hb3 BG HB hz0 hz1 HO; have BG := BG2; have HB := HB2; clear BG2 HB2;
         have hz0 : w3.cell? ⟨gb, 0, none⟩ = some (.int .i64 a0_0) := (blk_cell BG.out 0).trans rfl; have hz1 : w3.cell? ⟨gb, 1, none⟩ = some (.slice A0_1 l0_1.length c0_1) := (blk_cell BG.out 1).trans rfl)
     )
    go_ret
    exact ⟨rfl, HB.out⟩
/-- the fugitive's number of moves -/
def impl_FugitiveMoves.f (k : Nat) (a0_0 : Int) (l0_1 : List Int) (a1 : Int) (a2 : Int) : Option (Int) := (impl_Graph_hold.f k a0_0 l0_1 [a1, a2]).bind fun t => if t = true then some (edist l0_1 a1.toNat a2.toNat) else some (-1)
theorem impl_FugitiveMoves.mono : ∀ a0 a1 a2 a3 k, LeO (impl_FugitiveMoves.f k a0 a1 a2 a3) (impl_FugitiveMoves.f (k + 1) a0 a1 a2 a3) := fun a0 a1 a2 a3 k => LeO.bind (impl_Graph_hold.mono a0 a1 [a2, a3] k) (fun _ => LeO.refl _)
set_option maxHeartbeats 4000000 in
set_option maxRecDepth 100000 in
theorem impl_FugitiveMoves.calls (k : Nat) (a0_0 : Int) (A0_1 : Option Addr) (c0_1 : Nat) (l0_1 : List Int) (a1 : Int) (a2 : Int) (r : Int) (w : World) (hr0_1 : Kd.C (Kd.int .i64) w A0_1 l0_1.length l0_1) (hc0_1 : l0_1.length ≤ c0_1) (h : impl_FugitiveMoves.f k a0_0 l0_1 a1 a2 = some r) :
    Calls Try.prog 18 #[.agg #[.int .i64 a0_0, .slice A0_1 l0_1.length c0_1], .int .i64 a1, .int .i64 a2] w fun e w' => e = .returned (.int .i64 r) ∧ Below w.heap.size w w' := by
  replace h := Option.bind_eq_some_iff.1 h
  obtain ⟨t, ht, h⟩ := h
  by_cases hb : t = true
  · subst hb
    obtain ⟨g, hv⟩ := (hold_inv ht).1 rfl
    obtain ⟨n, rfl⟩ : ∃ n : Nat, a0_0 = (n : Int) := ⟨a0_0.toNat, by have := g.lo; omega⟩
    obtain ⟨p, f, rfl, rfl, hp, hf⟩ := verts2 hv
    have hn8 : n ≤ 8 := by have := g.len8; have := nlen g; omega
    have hp8 : p < 8 := by omega
    have hf8 : f < 8 := by omega
    have HT := Aside0.mk ht
    have HR := Aside0.mk hr0_1
    have HBW := Aside0.mk (Below.refl w.heap.size w)
    simp only [↓reduceIte, Int.toNat_natCast] at h
    obtain rfl := Option.some.inj h
    clear ht hr0_1 hv h
    go_enter Try.func18, Try.ntmps18
    go_wp2_with (first
     | ((with_reducible refine gate_dst (N := 3) rfl ?_); refine box_event rfl (N := 3) rfl (cs := #[.int .i64 n, .slice A0_1 l0_1.length c0_1]) (t := 27) (by first | (go_simp; done) | (go_simp; rfl)) ?_; intro gb hgb w1 hbox hb1;
         have BG := Aside0.mk hbox; have HB := Aside0.mk hb1; have hz0 : w1.cell? ⟨gb, 0, none⟩ = some (.int .i64 n) := (blk_cell BG.out 0).trans rfl; have hz1 : w1.cell? ⟨gb, 1, none⟩ = some (.slice A0_1 l0_1.length c0_1) := (blk_cell BG.out 1).trans rfl; clear hbox hgb hb1)
     | ((with_reducible refine gate_dst (N := 10) rfl ?_); refine Kd.R_lit (Kd.int .i64) _ 3 ?hg (N := 10) ?hd (xs := ([(p : Int), (f : Int)] : List Int)) (inner := [.int .i64 (p : Int), .int .i64 (f : Int)]) (ok := fun _ => True) (okp := fun _ => True) ?hr ?hp (fun _ hk => hk) trivial (Below.refl _ _) (Nat.le_refl _) (by simp) ?_; (case hd => rfl); (case hg => rfl); (case hr => first | (go_simp; done) | (go_simp; rfl)); (case hp => exact (Reps.one (show Kd.M (Kd.int .i64) _ _ _ (p : Int) [.int .i64 (p : Int)] from rfl) (Reps.one (show Kd.M (Kd.int .i64) _ _ _ (f : Int) [.int .i64 (f : Int)] from rfl) (Reps.none _ _)))); intro v10 w2 ho hb2 hg_ hnew_; clear hg_ hnew_;
         obtain ⟨A10, c10, e10⟩ := Kd.R_slice ho; subst e10;
         have HO := Aside0.mk ho; have BG2 := Aside0.mk (blk_below BG.out hb2); have HB2 := Aside0.mk (below_step HB.out hb2); clear ho hb2 BG HB hz0 hz1; have BG := BG2; have HB := HB2; clear BG2 HB2;
         have hz0 : w2.cell? ⟨gb, 0, none⟩ = some (.int .i64 n) := (blk_cell BG.out 0).trans rfl; have hz1 : w2.cell? ⟨gb, 1, none⟩ = some (.slice A0_1 l0_1.length c0_1) := (blk_cell BG.out 1).trans rfl)
     | ((with_reducible refine gate_callee (f := 62) rfl ?_); refine goesL_ (some 11) rfl rfl Try.func62 (by kernel_rfl) rfl #[.agg #[.int .i64 n, .slice A0_1 l0_1.length c0_1], .slice A10 ([(p : Int), (f : Int)] : List Int).length c10] rfl (by (try simp only [List.map_toArray, List.map_cons, List.map_nil]); first | done | rfl) ?_; (with_reducible refine (impl_Graph_hold.calls k n A0_1 c0_1 l0_1 A10 c10 [(p : Int), (f : Int)] true w2 (Kd.C_below HR.out HB.out) hc0_1 (Kd.R_reads' HO.out).2.2 (Kd.R_reads' HO.out).2.1 HT.out).mono ?_); rintro e w3 ⟨rfl, hb3⟩; refine ⟨_, rfl, ?_⟩;
         have BG2 := Aside0.mk (blk_below BG.out hb3); have HB2 := Aside0.mk (below_step HB.out hb3); clear hb3 BG HB hz0 hz1 HO; have BG := BG2; have HB := HB2; clear BG2 HB2;
         have hz0 : w3.cell? ⟨gb, 0, none⟩ = some (.int .i64 n) := (blk_cell BG.out 0).trans rfl; have hz1 : w3.cell? ⟨gb, 1, none⟩ = some (.slice A0_1 l0_1.length c0_1) := (blk_cell BG.out 1).trans rfl)
     | ((with_reducible refine gate_callee (f := 64) rfl ?_); refine goesL_ (some 14) rfl rfl Try.func64 (by kernel_rfl) rfl #[.agg #[.int .i64 n, .slice A0_1 l0_1.length c0_1]] rfl (by (try simp only [List.map_toArray, List.map_cons, List.map_nil]); first | done | rfl) ?_; (with_reducible refine (tableOf_c g A0_1 c0_1 hc0_1 w3 (Kd.C_below HR.out HB.out)).mono ?_); rintro e w4 ⟨T, C, E, rfl, hT, hBK, hb4, hF⟩; refine ⟨_, rfl, ?_⟩; have BK := Aside0.mk hBK; have TF := Aside0.mk hF; have HB2 := Aside0.mk (below_step HB.out hb4); clear hb4 hT hBK hF BG HB hz0 hz1; have HB := HB2; clear HB2; obtain ⟨cv, hcv⟩ : ∃ cv, cv = E.getD (8 * p + f) 0 := ⟨_, rfl⟩; have HCE := Aside0.mk (by rw [hcv]; exact BK.out.cE p f hp8 hf8 TF.out.inC.1 TF.out.inE.1 : w4.cell? ⟨T, 66 + p * 8 + f, none⟩ = some (.int .i64 cv)); have HTD := Aside0.mk (by rw [hcv]; exact TabFin.edist hn8 TF.out p f hp hf : impl_told.f cv = some (edist l0_1 p f)); clear hcv) | ((with_reducible refine gate_dst (N := 19) rfl ?_); refine Kd.event_run rfl (row_run _ _ rfl T 66 p rfl rfl hp8) ?_) | ((with_reducible refine gate_dst (N := 20) rfl ?_); refine Kd.event_run rfl (col_run _ _ rfl T (66 + p * 8) f rfl rfl hf8) ?_) | ((with_reducible refine gate_dst (N := 21) rfl ?_); refine Kd.event_run rfl (load_run _ rfl T (66 + p * 8 + f) _ rfl HCE.out) ?_) | ((with_reducible refine gate_callee (f := 63) rfl ?_); refine goesL_ (some 22) rfl rfl Try.func63 (by kernel_rfl) rfl #[.int .i64 cv] rfl (by (try simp only [List.map_toArray, List.map_cons, List.map_nil]); first | done | rfl) ?_; (with_reducible refine (impl_told.calls cv _ _ HTD.out).mono ?_); rintro e w5 ⟨rfl, hd⟩; refine ⟨_, rfl, ?_⟩; have HB2 := Aside0.mk (below_step HB.out hd.below); clear hd HB; have HB := HB2; clear HB2))
    go_ret
    exact ⟨rfl, HB.out⟩
  · have hbf : t = false := by simpa using hb
    subst hbf
    have HT := Aside0.mk ht
    have HR := Aside0.mk hr0_1
    simp only [↓reduceIte, Bool.false_eq_true] at h
    obtain rfl := Option.some.inj h
    clear ht hr0_1 hb h
    go_enter Try.func18, Try.ntmps18
    go_wp2_with (first
     | ((with_reducible refine gate_dst (N := 3) rfl ?_); refine box_event rfl (N := 3) rfl (cs := #[.int .i64 a0_0, .slice A0_1 l0_1.length c0_1]) (t := 27) (by first | (go_simp; done) | (go_simp; rfl)) ?_; intro gb hgb w1 hbox hb1;
         have BG := Aside0.mk hbox; have HB := Aside0.mk hb1; have hz0 : w1.cell? ⟨gb, 0, none⟩ = some (.int .i64 a0_0) := (blk_cell BG.out 0).trans rfl; have hz1 : w1.cell? ⟨gb, 1, none⟩ = some (.slice A0_1 l0_1.length c0_1) := (blk_cell BG.out 1).trans rfl; clear hbox hgb hb1)
     | ((with_reducible refine gate_dst (N := 10) rfl ?_); refine Kd.R_lit (Kd.int .i64) _ 3 ?hg (N := 10) ?hd (xs := ([a1, a2] : List Int)) (inner := [.int .i64 a1, .int .i64 a2]) (ok := fun _ => True) (okp := fun _ => True) ?hr ?hp (fun _ hk => hk) trivial (Below.refl _ _) (Nat.le_refl _) (by simp) ?_; (case hd => rfl); (case hg => rfl); (case hr => first | (go_simp; done) | (go_simp; rfl)); (case hp => exact (Reps.one (show Kd.M (Kd.int .i64) _ _ _ a1 [.int .i64 a1] from rfl) (Reps.one (show Kd.M (Kd.int .i64) _ _ _ a2 [.int .i64 a2] from rfl) (Reps.none _ _)))); intro v10 w2 ho hb2 hg_ hnew_; clear hg_ hnew_;
         obtain ⟨A10, c10, e10⟩ := Kd.R_slice ho; subst e10;
         have HO := Aside0.mk ho; have BG2 := Aside0.mk (blk_below BG.out hb2); have HB2 := Aside0.mk (below_step HB.out hb2); clear ho hb2 BG HB hz0 hz1; have BG := BG2; have HB := HB2; clear BG2 HB2;
         have hz0 : w2.cell? ⟨gb, 0, none⟩ = some (.int .i64 a0_0) := (blk_cell BG.out 0).trans rfl; have hz1 : w2.cell? ⟨gb, 1, none⟩ = some (.slice A0_1 l0_1.length c0_1) := (blk_cell BG.out 1).trans rfl)
     | ((with_reducible refine gate_callee (f := 62) rfl ?_); refine goesL_ (some 11) rfl rfl Try.func62 (by kernel_rfl) rfl #[.agg #[.int .i64 a0_0, .slice A0_1 l0_1.length c0_1], .slice A10 ([a1, a2] : List Int).length c10] rfl (by (try simp only [List.map_toArray, List.map_cons, List.map_nil]); first | done | rfl) ?_; (with_reducible refine (impl_Graph_hold.calls k a0_0 A0_1 c0_1 l0_1 A10 c10 [a1, a2] false w2 (Kd.C_below HR.out HB.out) hc0_1 (Kd.R_reads' HO.out).2.2 (Kd.R_reads' HO.out).2.1 HT.out).mono ?_); rintro e w3 ⟨rfl, hb3⟩; refine ⟨_, rfl, ?_⟩;
         have BG2 := Aside0.mk (blk_below BG.out hb3); have HB2 := Aside0.mk (below_step HB.out hb3); clear hb3 BG HB hz0 hz1 HO; have BG := BG2; have HB := HB2; clear BG2 HB2;
         have hz0 : w3.cell? ⟨gb, 0, none⟩ = some (.int .i64 a0_0) := (blk_cell BG.out 0).trans rfl; have hz1 : w3.cell? ⟨gb, 1, none⟩ = some (.slice A0_1 l0_1.length c0_1) := (blk_cell BG.out 1).trans rfl)
     )
    go_ret
    exact ⟨rfl, HB.out⟩
end Go.Proofs.Ytilanbgciofkjaa.PA

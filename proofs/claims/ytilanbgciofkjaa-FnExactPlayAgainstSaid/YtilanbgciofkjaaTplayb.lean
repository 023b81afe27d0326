/- Games that are played, to the end: a game that cannot begin, the two kinds of moves, PlayBest and PlayAgainst. -/
import Derived.Test.YtilanbgciofkjaaTplay
import Derived.Test.YtilanbgciofkjaaMt
import Derived.Test.YtilanbgciofkjaaMb
import Derived.Test.YtilanbgciofkjaaPAx7
import Derived.Test.YtilanbgciofkjaaPAx9
namespace Go.Proofs.Ytilanbgciofkjaa.PA
open Go.RowKit Go.Proofs.YtilanbgciofkjaaW.PrintWords Go.Proofs.YtilanbgciofkjaaW.PrintLast Go.Proofs.YtilanbgciofkjaaW.PrintMore Go.Proofs.Ytilanbgciofkjaa.Pure
attribute [local go_sem] max2_int min2_int max_two min_two max_three min_three max_four min_four
set_option linter.unusedVariables false
set_option linter.unusedSimpArgs false
set_option maxHeartbeats 4000000 in
set_option maxRecDepth 100000 in
/-- a game that cannot begin -/
theorem played_f (k : Nat) (n : Int) (l : List Int) (A : Option Addr) (c : Nat) (hc : l.length ≤ c) (p f turns : Int) (fv : Value) (w : World) (hr : Kd.C (Kd.int .i64) w A l.length l)
    (h : impl_Graph_hold.f k n l [p, f] = some false ∨ (impl_Graph_hold.f k n l [p, f] = some true ∧ impl_in.f turns 0 59 = some false)) :
    Calls Try.prog 77 #[.agg #[.int .i64 n, .slice A l.length c], .int .i64 p, .int .i64 f, .int .i64 turns, fv] w fun e w' => PlayedP ([], [], false) w e w' := by
  have HR := Aside0.mk hr
  clear hr
  rcases h with hk | ⟨hk, hi⟩
  · have HT := Aside0.mk hk
    clear hk
    go_enter Try.func77, Try.ntmps77
    go_wp2_with (first
     | ((with_reducible refine gate_dst (N := 5) rfl ?_); refine box_event rfl (N := 5) rfl (cs := #[.int .i64 n, .slice A l.length c]) (t := 27) (by first | (go_simp; done) | (go_simp; rfl)) ?_; intro g5 hgb w1 hbox hb1;
           have BG := Aside0.mk hbox; have HB := Aside0.mk hb1; have hz0 : w1.cell? ⟨g5, 0, none⟩ = some (.int .i64 n) := (blk_cell BG.out 0).trans rfl; have hz1 : w1.cell? ⟨g5, 1, none⟩ = some (.slice A l.length c) := (blk_cell BG.out 1).trans rfl; clear hbox hgb hb1)
     | ((with_reducible refine gate_dst (N := 10) rfl ?_); refine box_event rfl (N := 10) rfl (cs := #[.slice none 0 0, .slice none 0 0]) (t := 42) (by first | (go_simp; done) | (go_simp; rfl)) ?_; intro g10 hg10 w2 hbox hb1;
           have BR := Aside0.mk hbox; have HGE := Aside0.mk (by rw [hg10]; exact below_size HB.out : w.heap.size ≤ g10); have n1 := Aside0.mk (blk_below BG.out hb1); have n2 := Aside0.mk (below_step HB.out hb1); clear hbox hg10 hb1 BG HB hz0 hz1; have BG := n1; have HB := n2; clear n1 n2;
           have hz0 : w2.cell? ⟨g5, 0, none⟩ = some (.int .i64 n) := (blk_cell BG.out 0).trans rfl; have hz1 : w2.cell? ⟨g5, 1, none⟩ = some (.slice A l.length c) := (blk_cell BG.out 1).trans rfl)
     | ((with_reducible refine gate_dst (N := 20) rfl ?_); refine Kd.R_lit (Kd.int .i64) _ 3 ?hg (N := 20) ?hd (xs := ([p, f] : List Int)) (inner := [.int .i64 p, .int .i64 f]) (ok := fun _ => True) (okp := fun _ => True) ?hr ?hp (fun _ hk => hk) trivial (Below.refl _ _) (Nat.le_refl _) (by simp) ?_; (case hd => rfl); (case hg => rfl); (case hr => first | (go_simp; done) | (go_simp; rfl)); (case hp => exact (Reps.one (show Kd.M (Kd.int .i64) _ _ _ p [.int .i64 p] from rfl) (Reps.one (show Kd.M (Kd.int .i64) _ _ _ f [.int .i64 f] from rfl) (Reps.none _ _)))); intro v20 w3 ho hb2 hg_ hnew_; clear hg_ hnew_;
           obtain ⟨A20, c20, e20⟩ := Kd.R_slice ho; subst e20;
           have HO := Aside0.mk ho; have n0 := Aside0.mk (blk_below BR.out hb2); have n1 := Aside0.mk (blk_below BG.out hb2); have n2 := Aside0.mk (below_step HB.out hb2); clear ho hb2 BG BR HB hz0 hz1; have BR := n0; have BG := n1; have HB := n2; clear n0 n1 n2;
           have hz0 : w3.cell? ⟨g5, 0, none⟩ = some (.int .i64 n) := (blk_cell BG.out 0).trans rfl; have hz1 : w3.cell? ⟨g5, 1, none⟩ = some (.slice A l.length c) := (blk_cell BG.out 1).trans rfl)
     | ((with_reducible refine gate_callee (f := 62) rfl ?_); refine goesL_ (some 21) rfl rfl Try.func62 (by kernel_rfl) rfl #[.agg #[.int .i64 n, .slice A l.length c], .slice A20 ([p, f] : List Int).length c20] rfl (by (try simp only [List.map_toArray, List.map_cons, List.map_nil]); first | done | rfl) ?_; (with_reducible refine (impl_Graph_hold.calls k n A c l A20 c20 [p, f] false w3 (Kd.C_below HR.out HB.out) hc (Kd.R_reads' HO.out).2.2 (Kd.R_reads' HO.out).2.1 HT.out).mono ?_); rintro e w4 ⟨rfl, hb3⟩; refine ⟨_, rfl, ?_⟩;
           have n0 := Aside0.mk (blk_below BR.out hb3); have n2 := Aside0.mk (below_step HB.out hb3); clear hb3 BG BR HB hz0 hz1 HO; have BR := n0; have HB := n2; clear n0 n2)
     | ((with_reducible refine gate_ (.store 42 (.tmp 10) (.tmp 28)) rfl ?_); refine store_event (w1 := (w4.setCell ⟨g10, 0, none⟩ (.slice none 0 0)).setCell ⟨g10, 1, none⟩ (.slice none 0 0)) rfl rfl rfl (store2_run (.tmp 10) (.tmp 28) rfl g10 (.slice none 0 0) (.slice none 0 0) _ _ _ rfl rfl BR.out ⟨_, _, _, rfl⟩ ⟨_, _, _, rfl⟩) ?_; intro w9 hw; have HE := Aside0.mk (plS_fail BR.out HB.out HGE.out hw); clear hw)
     )
    refine bodyPost_ret (results_ct rfl _ _ g10 42 #[.slice none 0 0, .slice none 0 0] (0, 0) _ rfl HE.out.1 Try.underlying42 rfl (by kernel_rfl)) rfl ?_
    exact ⟨_, _, rfl, Kd.R_nil _ _ _ _ _, Kd.R_nil _ _ _ _ _, HE.out.2⟩
  · have HT := Aside0.mk hk
    have HI := Aside0.mk hi
    clear hk hi
    go_enter Try.func77, Try.ntmps77
    go_wp2_with (first
     | ((with_reducible refine gate_dst (N := 5) rfl ?_); refine box_event rfl (N := 5) rfl (cs := #[.int .i64 n, .slice A l.length c]) (t := 27) (by first | (go_simp; done) | (go_simp; rfl)) ?_; intro g5 hgb w1 hbox hb1;
           have BG := Aside0.mk hbox; have HB := Aside0.mk hb1; have hz0 : w1.cell? ⟨g5, 0, none⟩ = some (.int .i64 n) := (blk_cell BG.out 0).trans rfl; have hz1 : w1.cell? ⟨g5, 1, none⟩ = some (.slice A l.length c) := (blk_cell BG.out 1).trans rfl; clear hbox hgb hb1)
     | ((with_reducible refine gate_dst (N := 10) rfl ?_); refine box_event rfl (N := 10) rfl (cs := #[.slice none 0 0, .slice none 0 0]) (t := 42) (by first | (go_simp; done) | (go_simp; rfl)) ?_; intro g10 hg10 w2 hbox hb1;
           have BR := Aside0.mk hbox; have HGE := Aside0.mk (by rw [hg10]; exact below_size HB.out : w.heap.size ≤ g10); have n1 := Aside0.mk (blk_below BG.out hb1); have n2 := Aside0.mk (below_step HB.out hb1); clear hbox hg10 hb1 BG HB hz0 hz1; have BG := n1; have HB := n2; clear n1 n2;
           have hz0 : w2.cell? ⟨g5, 0, none⟩ = some (.int .i64 n) := (blk_cell BG.out 0).trans rfl; have hz1 : w2.cell? ⟨g5, 1, none⟩ = some (.slice A l.length c) := (blk_cell BG.out 1).trans rfl)
     | ((with_reducible refine gate_dst (N := 20) rfl ?_); refine Kd.R_lit (Kd.int .i64) _ 3 ?hg (N := 20) ?hd (xs := ([p, f] : List Int)) (inner := [.int .i64 p, .int .i64 f]) (ok := fun _ => True) (okp := fun _ => True) ?hr ?hp (fun _ hk => hk) trivial (Below.refl _ _) (Nat.le_refl _) (by simp) ?_; (case hd => rfl); (case hg => rfl); (case hr => first | (go_simp; done) | (go_simp; rfl)); (case hp => exact (Reps.one (show Kd.M (Kd.int .i64) _ _ _ p [.int .i64 p] from rfl) (Reps.one (show Kd.M (Kd.int .i64) _ _ _ f [.int .i64 f] from rfl) (Reps.none _ _)))); intro v20 w3 ho hb2 hg_ hnew_; clear hg_ hnew_;
           obtain ⟨A20, c20, e20⟩ := Kd.R_slice ho; subst e20;
           have HO := Aside0.mk ho; have n0 := Aside0.mk (blk_below BR.out hb2); have n1 := Aside0.mk (blk_below BG.out hb2); have n2 := Aside0.mk (below_step HB.out hb2); clear ho hb2 BG BR HB hz0 hz1; have BR := n0; have BG := n1; have HB := n2; clear n0 n1 n2;
           have hz0 : w3.cell? ⟨g5, 0, none⟩ = some (.int .i64 n) := (blk_cell BG.out 0).trans rfl; have hz1 : w3.cell? ⟨g5, 1, none⟩ = some (.slice A l.length c) := (blk_cell BG.out 1).trans rfl)
     | ((with_reducible refine gate_callee (f := 62) rfl ?_); refine goesL_ (some 21) rfl rfl Try.func62 (by kernel_rfl) rfl #[.agg #[.int .i64 n, .slice A l.length c], .slice A20 ([p, f] : List Int).length c20] rfl (by (try simp only [List.map_toArray, List.map_cons, List.map_nil]); first | done | rfl) ?_; (with_reducible refine (impl_Graph_hold.calls k n A c l A20 c20 [p, f] true w3 (Kd.C_below HR.out HB.out) hc (Kd.R_reads' HO.out).2.2 (Kd.R_reads' HO.out).2.1 HT.out).mono ?_); rintro e w4 ⟨rfl, hb3⟩; refine ⟨_, rfl, ?_⟩;
           have n0 := Aside0.mk (blk_below BR.out hb3); have n2 := Aside0.mk (below_step HB.out hb3); clear hb3 BG BR HB hz0 hz1 HO; have BR := n0; have HB := n2; clear n0 n2)
     | ((with_reducible refine gate_callee (f := 87) rfl ?_); refine gate_guard (by rfl) ?_; refine goesL_ (some 25) rfl rfl Try.func87 (by kernel_rfl) rfl #[.int .i64 turns, .int .i64 0, .int .i64 59] rfl (by (try simp only [List.map_toArray, List.map_cons, List.map_nil]); first | done | rfl) ?_; (with_reducible refine (impl_in.calls turns 0 59 false _ HI.out).mono ?_); rintro e w5 ⟨rfl, hd⟩; refine ⟨_, rfl, ?_⟩; have hb3 := hd.below;
           have n0 := Aside0.mk (blk_below BR.out hb3); have n2 := Aside0.mk (below_step HB.out hb3); clear hb3 hd BR HB; have BR := n0; have HB := n2; clear n0 n2)
     | ((with_reducible refine gate_ (.store 42 (.tmp 10) (.tmp 28)) rfl ?_); refine store_event (w1 := (w5.setCell ⟨g10, 0, none⟩ (.slice none 0 0)).setCell ⟨g10, 1, none⟩ (.slice none 0 0)) rfl rfl rfl (store2_run (.tmp 10) (.tmp 28) rfl g10 (.slice none 0 0) (.slice none 0 0) _ _ _ rfl rfl BR.out ⟨_, _, _, rfl⟩ ⟨_, _, _, rfl⟩) ?_; intro w9 hw; have HE := Aside0.mk (plS_fail BR.out HB.out HGE.out hw); clear hw)
     )
    refine bodyPost_ret (results_ct rfl _ _ g10 42 #[.slice none 0 0, .slice none 0 0] (0, 0) _ rfl HE.out.1 Try.underlying42 rfl (by kernel_rfl)) rfl ?_
    exact ⟨_, _, rfl, Kd.R_nil _ _ _ _ _, Kd.R_nil _ _ _ _ _, HE.out.2⟩
set_option maxHeartbeats 4000000 in
set_option maxRecDepth 100000 in
/-- the moves of PlayAgainst -/
theorem pa1_c (M : List Int) (A : Option Addr) (c : Nat) (hc : M.length ≤ c) (hM : M.length ≤ 1000) (g : Nat) (T : Value) (j : Int) (hj0 : 0 ≤ j) (hj : j < (M.length : Int)) (p f : Int) (w : World) (hb : w.heap[g]? = some (.cells #[.slice A M.length c] 22 (0, 0))) (hr : Kd.C (Kd.int .i64) w A M.length M) :
    Calls Try.prog 78 #[T, .int .i64 j, .int .i64 p, .int .i64 f, .pointer (some ⟨g, 0, none⟩)] w fun e w' => e = .returned (.int .i64 (rd M j)) ∧ Below w.heap.size w w' := by
  have hg : w.cell? ⟨g, 0, none⟩ = some (.slice A M.length c) := (blk_cell hb 0).trans rfl
  obtain ⟨ad, rfl, hx⟩ := Kd.at_int hr j hj0 hj
  have HR := Aside0.mk hr
  have BK := Aside0.mk hb
  clear hr hb
  go_enter Try.func78, Try.ntmps78
  go_wp2
  go_ret
  exact ⟨rfl, Below.refl _ _⟩
theorem ret_end {w w3 w4 : World} {g b : Nat} {v0 v1 : Value} {P F : List Int} (h0 : Kd.R (Kd.int .i64) 3 w3 b (fun k_ => some k_ ≠ v1.ownBlock) v0 P) (h1 : Kd.R (Kd.int .i64) 3 w3 b (fun k_ => some k_ ≠ v0.ownBlock) v1 F) (hle : w.heap.size ≤ b) (hgb : g < b) (hge : w.heap.size ≤ g) (hB : Below w.heap.size w w3)
    (hc : w3.heap[g]? = some (.cells #[.slice none 0 0, .slice none 0 0] 42 (0, 0))) (hw : w4 = (w3.setCell ⟨g, 0, none⟩ v0).setCell ⟨g, 1, none⟩ v1) :
    w4.heap[g]? = some (.cells #[v0, v1] 42 (0, 0)) ∧ Kd.R (Kd.int .i64) 3 w4 w.heap.size (fun k_ => some k_ ≠ v1.ownBlock) v0 P ∧ Kd.R (Kd.int .i64) 3 w4 w.heap.size (fun k_ => some k_ ≠ v0.ownBlock) v1 F ∧ Below w.heap.size w w4 := by
  have hmv : ∀ {z : Value} {Z : List Int} {ok : Nat → Prop}, Kd.R (Kd.int .i64) 3 w3 b ok z Z → Kd.R (Kd.int .i64) 3 w4 w.heap.size ok z Z := fun {z Z ok} h => by
    refine Kd.R_mono (Kd.R_lower (Kd.R_move (Kd.R_bound h) (fun k hk => ?_)) hle) (fun k hk => hk.1)
    have hne : k ≠ g := by have := hk.2.1; omega
    rw [hw, Below.heap_setCell _ _ _ _ hne, Below.heap_setCell _ _ _ _ hne]
  refine ⟨?_, hmv h0, hmv h1, ?_⟩
  · rw [hw]; exact blk_put (blk_put hc 0 v0 rfl) 1 v1 rfl
  · rw [hw]; exact (hB.setCell hge v0).setCell hge v1
set_option maxHeartbeats 4000000 in
set_option maxRecDepth 100000 in
theorem playAgainst_c (r : List Int × List Int × Bool) (n : Int) (l : List Int) (A : Option Addr) (c : Nat) (p f : Int) (M : List Int) (A3 : Option Addr) (c3 : Nat) (w : World)
    (h : ∀ W g, Below w.heap.size w W → W.heap[g]? = some (.cells #[.slice A3 M.length c3] 22 (0, 0)) → Calls Try.prog 77 #[.agg #[.int .i64 n, .slice A l.length c], .int .i64 p, .int .i64 f, .int .i64 M.length, .func (.func 78) #[] #[.pointer (some ⟨g, 0, none⟩)]] W fun e w' => PlayedP r W e w') :
    Calls Try.prog 43 #[.agg #[.int .i64 n, .slice A l.length c], .int .i64 p, .int .i64 f, .slice A3 M.length c3] w fun e w' => PlayedP r w e w' := by
  have HC := Aside0.mk h
  clear h
  go_enter Try.func43, Try.ntmps43
  go_wp2_with (first
   | ((with_reducible refine gate_dst (N := 4) rfl ?_); refine box_event rfl (N := 4) rfl (cs := #[.int .i64 n, .slice A l.length c]) (t := 27) (by first | (go_simp; done) | (go_simp; rfl)) ?_; intro g4 hgb w1 hbox hb1;
         have BG := Aside0.mk hbox; have HB := Aside0.mk hb1; have hz0 : w1.cell? ⟨g4, 0, none⟩ = some (.int .i64 n) := (blk_cell BG.out 0).trans rfl; have hz1 : w1.cell? ⟨g4, 1, none⟩ = some (.slice A l.length c) := (blk_cell BG.out 1).trans rfl; clear hbox hgb hb1)
   | ((with_reducible refine gate_dst (N := 7) rfl ?_); refine box_event rfl (N := 7) rfl (cs := #[.slice A3 M.length c3]) (t := 22) (by first | (go_simp; done) | (go_simp; rfl)) ?_; intro g7 hg7 w2 hbox hb1;
       have BM := Aside0.mk hbox; have n1 := Aside0.mk (blk_below BG.out hb1); have n2 := Aside0.mk (below_step HB.out hb1); clear hbox hg7 hb1 BG HB hz0 hz1; have BG := n1; have HB := n2; clear n1 n2;
       have hz0 : w2.cell? ⟨g4, 0, none⟩ = some (.int .i64 n) := (blk_cell BG.out 0).trans rfl; have hz1 : w2.cell? ⟨g4, 1, none⟩ = some (.slice A l.length c) := (blk_cell BG.out 1).trans rfl; have hz2 : w2.cell? ⟨g7, 0, none⟩ = some (.slice A3 M.length c3) := (blk_cell BM.out 0).trans rfl)
   | ((with_reducible refine gate_dst (N := 8) rfl ?_); refine box_event rfl (N := 8) rfl (cs := #[.slice none 0 0, .slice none 0 0]) (t := 42) (by first | (go_simp; done) | (go_simp; rfl)) ?_; intro g8 hg8 w25 hbox hb1;
       have BR := Aside0.mk hbox; have HGE := Aside0.mk (by rw [hg8]; exact below_size HB.out : w.heap.size ≤ g8); have n0 := Aside0.mk (blk_below BM.out hb1); have n1 := Aside0.mk (blk_below BG.out hb1); have n2 := Aside0.mk (below_step HB.out hb1); clear hbox hg8 hb1 BG HB BM hz0 hz1 hz2; have BM := n0; have BG := n1; have HB := n2; clear n0 n1 n2;
       have hz0 : w25.cell? ⟨g4, 0, none⟩ = some (.int .i64 n) := (blk_cell BG.out 0).trans rfl; have hz1 : w25.cell? ⟨g4, 1, none⟩ = some (.slice A l.length c) := (blk_cell BG.out 1).trans rfl; have hz2 : w25.cell? ⟨g7, 0, none⟩ = some (.slice A3 M.length c3) := (blk_cell BM.out 0).trans rfl)
   | ((with_reducible refine gate_callee (f := 77) rfl ?_); refine goesL_ (some 16) rfl rfl Try.func77 (by kernel_rfl) rfl #[.agg #[.int .i64 n, .slice A l.length c], .int .i64 p, .int .i64 f, .int .i64 M.length, .func (.func 78) #[] #[.pointer (some ⟨g7, 0, none⟩)]] rfl (by (try simp only [List.map_toArray, List.map_cons, List.map_nil]); first | done | rfl) ?_; (with_reducible refine (HC.out w25 g7 HB.out BM.out).mono ?_); rintro e w3 ⟨v0, v1, rfl, h0, h1, hb3⟩; refine ⟨_, rfl, ?_⟩;
         obtain ⟨A0, c0, e0⟩ := Kd.R_slice h0; obtain ⟨A1, c1, e1⟩ := Kd.R_slice h1; subst e0 e1; have H0 := Aside0.mk h0; have H1 := Aside0.mk h1; have HLT := Aside0.mk (⟨blk_lt BR.out, below_size HB.out⟩ : g8 < w25.heap.size ∧ w.heap.size ≤ w25.heap.size); have n0 := Aside0.mk (blk_below BR.out hb3); have n2 := Aside0.mk (below_step HB.out hb3); clear hb3 BG BR HB h0 h1 hz0 hz1; have BR := n0; have HB := n2; clear n0 n2)
   | ((with_reducible refine gate_ (.store 42 (.tmp 8) (.tmp 17)) rfl ?_); refine store_event (w1 := (w3.setCell ⟨g8, 0, none⟩ (.slice A0 r.1.length c0)).setCell ⟨g8, 1, none⟩ (.slice A1 r.2.1.length c1)) rfl rfl rfl (store2_run (.tmp 8) (.tmp 17) rfl g8 (.slice A0 r.1.length c0) (.slice A1 r.2.1.length c1) _ _ _ rfl rfl BR.out ⟨_, _, _, rfl⟩ ⟨_, _, _, rfl⟩) ?_; intro w4 hw; have HE := Aside0.mk (ret_end H0.out H1.out HLT.out.2 HLT.out.1 HGE.out HB.out BR.out hw); clear hw)
   )
  refine bodyPost_ret (results_ct rfl _ _ g8 42 #[.slice A0 r.1.length c0, .slice A1 r.2.1.length c1] (0, 0) _ rfl HE.out.1 Try.underlying42 rfl (by kernel_rfl)) rfl ?_
  exact ⟨_, _, rfl, HE.out.2.1, HE.out.2.2.1, HE.out.2.2.2⟩
def impl_PlayAgainst.f (k : Nat) (a0_0 : Int) (l0_1 : List Int) (a1 : Int) (a2 : Int) (l3 : List Int) : Option (List Int × List Int × Bool) := (impl_Graph_hold.f k a0_0 l0_1 [a1, a2]).bind fun t => if t = true ∧ l3.length ≤ 59 then some (played3 (playL l0_1 a0_0.toNat (fun j _ _ => l3.getD j 0) l3.length 0 a1.toNat a2.toNat [a1] [a2])) else some ([], [], false)
theorem impl_PlayAgainst.mono : ∀ a0 a1 a2 a3 a4 k, LeO (impl_PlayAgainst.f k a0 a1 a2 a3 a4) (impl_PlayAgainst.f (k + 1) a0 a1 a2 a3 a4) := fun a0 a1 a2 a3 a4 k => LeO.bind (impl_Graph_hold.mono _ _ _ _) (fun _ => LeO.refl _)
theorem hold_false {k : Nat} {n : Int} {l L : List Int} {t : Bool} (h : impl_Graph_hold.f k n l L = some t) (ht : ¬ t = true) : impl_Graph_hold.f k n l L = some false := by cases t <;> simp_all
theorem impl_PlayAgainst.calls (k : Nat) (a0_0 : Int) (A0_1 : Option Addr) (c0_1 : Nat) (l0_1 : List Int) (a1 : Int) (a2 : Int) (A3 : Option Addr) (c3 : Nat) (l3 : List Int) (r1 : List Int) (r2 : List Int) (r3 : Bool) (w : World) (hr0_1 : Kd.C (Kd.int .i64) w A0_1 l0_1.length l0_1) (hc0_1 : l0_1.length ≤ c0_1) (hr3 : Kd.C (Kd.int .i64) w A3 l3.length l3) (hc3 : l3.length ≤ c3) (h : impl_PlayAgainst.f k a0_0 l0_1 a1 a2 l3 = some (r1, r2, r3)) :
    Calls Try.prog 43 #[.agg #[.int .i64 a0_0, .slice A0_1 l0_1.length c0_1], .int .i64 a1, .int .i64 a2, .slice A3 l3.length c3] w fun e w' => ∃ v0_ v1_ : Value, e = .returned (.tuple #[.agg #[v0_, v1_], .bool r3]) ∧ Kd.R (Kd.int .i64) 3 w' w.heap.size (fun k_ => some k_ ≠ (v1_ : Value).ownBlock) v0_ r1 ∧ Kd.R (Kd.int .i64) 3 w' w.heap.size (fun k_ => some k_ ≠ (v0_ : Value).ownBlock) v1_ r2 ∧ Below w.heap.size w w' := by
  obtain ⟨t, ht, h⟩ := Option.bind_eq_some_iff.1 h
  refine playAgainst_c (r1, r2, r3) a0_0 l0_1 A0_1 c0_1 a1 a2 l3 A3 c3 w (fun W g7 hW hM => ?_)
  have hR := Kd.C_below hr0_1 hW
  have hR3 := Kd.C_below hr3 hW
  by_cases hc : t = true ∧ l3.length ≤ 59
  · rw [if_pos hc] at h
    injection h with h
    obtain ⟨g, hv⟩ := (hold_inv ht).1 hc.1
    obtain ⟨n, rfl⟩ : ∃ m : Nat, a0_0 = (m : Int) := ⟨a0_0.toNat, by have := g.lo; omega⟩
    obtain ⟨p, f, rfl, rfl, hp, hf⟩ := verts2 hv
    simp only [Int.toNat_natCast] at h
    have hp := played_c g A0_1 c0_1 hc0_1 p f l3.length hp hf hc.2 78 #[.pointer (some ⟨g7, 0, none⟩)] (fun args w => enters_ Try.func78 (by kernel_rfl) rfl args w) (fun j _ _ => l3.getD j 0) W hR (fun W2 T C E j p f hB hT hF hp hf hj => by
      have h := pa1_c l3 A3 c3 hc3 (by omega) g7 (.pointer (some ⟨T, 0, none⟩)) (j : Int) (by omega) (by omega) (p : Int) (f : Int) W2 (blk_below hM hB) (Kd.C_below hR3 hB)
      rw [rd_nat] at h
      have e : (#[.pointer (some ⟨T, 0, none⟩), .int .i64 j, .int .i64 p, .int .i64 f] : Array Value) ++ #[.pointer (some ⟨g7, 0, none⟩)] = #[.pointer (some ⟨T, 0, none⟩), .int .i64 j, .int .i64 p, .int .i64 f, .pointer (some ⟨g7, 0, none⟩)] := rfl
      rw [e]; exact h)
    rw [h] at hp
    exact hp
  · rw [if_neg hc] at h
    injection h with h
    have hp := played_f k a0_0 l0_1 A0_1 c0_1 hc0_1 a1 a2 l3.length (.func (.func 78) #[] #[.pointer (some ⟨g7, 0, none⟩)]) W hR (by
      by_cases ht2 : t = true
      · exact .inr ⟨ht2 ▸ ht, by rw [in_impl, decide_eq_false (fun h => hc ⟨ht2, by omega⟩)]⟩
      · exact .inl (hold_false ht ht2))
    rw [h] at hp
    exact hp
end Go.Proofs.Ytilanbgciofkjaa.PA

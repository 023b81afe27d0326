/- WinningStarts, IsPursuerWin, CaptureTime: the walks. -/
import Derived.Test.YtilanbgciofkjaaTworst
import Derived.Test.YtilanbgciofkjaaEstarts
namespace Go.Proofs.Ytilanbgciofkjaa.PA
open Go.RowKit Go.Proofs.YtilanbgciofkjaaW.PrintWords Go.Proofs.YtilanbgciofkjaaW.PrintLast Go.Proofs.YtilanbgciofkjaaW.PrintMore Go.Proofs.Ytilanbgciofkjaa.Pure
attribute [local go_sem] max2_int min2_int max_two min_two max_three min_three max_four min_four
set_option linter.unusedVariables false
set_option linter.unusedSimpArgs false
theorem own_ok {e : Nat} {w : World} {base : Nat} {ok : Nat → Prop} {v : Value} {xs : List Int} (h : Kd.R (Kd.int .i64) e w base ok v xs) : Kd.R (Kd.int .i64) e w base (fun k => v.ownBlock = some k) v xs := Kd.R_of_own (Kd.own_of_R h) (fun k hk => hk)
theorem Kd.R_lt {e : Nat} {w : World} {base : Nat} {ok : Nat → Prop} {v : Value} {xs : List Int} (h : Kd.R (Kd.int .i64) e w base ok v xs) (k : Nat) (hk : v.ownBlock = some k) : k < w.heap.size := own_lt (Kd.own_of_R h) k hk
def impl_WinningStarts.f (k : Nat) (a0_0 : Int) (l0_1 : List Int) : Option (List Int) := (impl_GraphOk.f k a0_0 l0_1).bind fun t => if t = true then some (startsV l0_1 a0_0.toNat) else some []
theorem impl_WinningStarts.mono : ∀ a0 a1 k, LeO (impl_WinningStarts.f k a0 a1) (impl_WinningStarts.f (k + 1) a0 a1) := fun a0 a1 k => LeO.bind (impl_GraphOk.mono a0 a1 k) (fun _ => LeO.refl _)
set_option maxHeartbeats 4000000 in
set_option maxRecDepth 100000 in
theorem impl_WinningStarts.calls (k : Nat) (a0_0 : Int) (A0_1 : Option Addr) (c0_1 : Nat) (l0_1 : List Int) (r : List Int) (w : World) (hr0_1 : Kd.C (Kd.int .i64) w A0_1 l0_1.length l0_1) (hc0_1 : l0_1.length ≤ c0_1) (h : impl_WinningStarts.f k a0_0 l0_1 = some r) :
    Calls Try.prog 31 #[.agg #[.int .i64 a0_0, .slice A0_1 l0_1.length c0_1]] w fun e w' => ∃ v0_ : Value, e = .returned (v0_) ∧ Kd.R (Kd.int .i64) 3 w' w.heap.size (fun _ => True) v0_ r ∧ Below w.heap.size w w' := by
  replace h := Option.bind_eq_some_iff.1 h
  obtain ⟨t, ht, h⟩ := h
  have HT := Aside0.mk ht
  have HR := Aside0.mk hr0_1
  by_cases hb : t = true
  · subst hb
    have g := (graph_inv ht).1 rfl
    obtain ⟨n, rfl⟩ : ∃ n : Nat, a0_0 = (n : Int) := ⟨a0_0.toNat, by have := g.lo; omega⟩
    have hn8 : n ≤ 8 := by have := g.len8; have := nlen g; omega
    simp only [↓reduceIte, Int.toNat_natCast] at h
    obtain rfl := Option.some.inj h
    clear ht hr0_1 h
    go_enter Try.func31, Try.ntmps31
    go_wp2_with (first
     | ((with_reducible refine gate_dst (N := 1) rfl ?_); refine box_event rfl (N := 1) rfl (cs := #[.int .i64 n, .slice A0_1 l0_1.length c0_1]) (t := 27) (by first | (go_simp; done) | (go_simp; rfl)) ?_; intro gb hgb w1 hbox hb1;
           have BG := Aside0.mk hbox; have HB := Aside0.mk hb1; have hz0 : w1.cell? ⟨gb, 0, none⟩ = some (.int .i64 n) := (blk_cell BG.out 0).trans rfl; have hz1 : w1.cell? ⟨gb, 1, none⟩ = some (.slice A0_1 l0_1.length c0_1) := (blk_cell BG.out 1).trans rfl; clear hbox hgb hb1)
     | ((with_reducible refine gate_callee (f := 69) rfl ?_); refine goesL_ (some 7) rfl rfl Try.func69 (by kernel_rfl) rfl #[.agg #[.int .i64 n, .slice A0_1 l0_1.length c0_1]] rfl (by (try simp only [List.map_toArray, List.map_cons, List.map_nil]); first | done | rfl) ?_; (with_reducible refine (impl_GraphOk.calls k n A0_1 c0_1 l0_1 true w1 (Kd.C_below HR.out HB.out) hc0_1 HT.out).mono ?_); rintro e w3 ⟨rfl, hb3⟩; refine ⟨_, rfl, ?_⟩;
           have BG2 := Aside0.mk (blk_below BG.out hb3); have HB2 := Aside0.mk (below_step HB.out hb3); clear hb3 BG HB hz0 hz1; have BG := BG2; have HB := HB2; clear BG2 HB2;
           have hz0 : w3.cell? ⟨gb, 0, none⟩ = some (.int .i64 n) := (blk_cell BG.out 0).trans rfl; have hz1 : w3.cell? ⟨gb, 1, none⟩ = some (.slice A0_1 l0_1.length c0_1) := (blk_cell BG.out 1).trans rfl)
     | ((with_reducible refine gate_dst (N := 9) rfl ?_); refine Kd.R_lit (Kd.int .i64) _ 3 ?hg (N := 9) ?hd (xs := ([] : List Int)) (inner := []) (ok := fun _ => True) (okp := fun _ => True) ?hr ?hp (fun _ hk => hk) trivial (Below.refl _ _) (Nat.le_refl _) (by simp) ?_; (case hd => rfl); (case hg => rfl); (case hr => first | (go_simp; done) | (go_simp; rfl)); (case hp => exact (Reps.none _ _)); intro v9 w4_ ho hb2 hg_ hnew_; clear hg_ hnew_;
         have n1 := Aside0.mk (blk_below BG.out hb2); have n2 := Aside0.mk (below_step HB.out hb2); have HO := Aside0.mk (Kd.R_lower ho (below_size HB.out)); clear BG HB ho hb2 hz0 hz1; have BG := n1; have HB := n2; clear n1 n2;
         have hz0 : w4_.cell? ⟨gb, 0, none⟩ = some (.int .i64 n) := (blk_cell BG.out 0).trans rfl; have hz1 : w4_.cell? ⟨gb, 1, none⟩ = some (.slice A0_1 l0_1.length c0_1) := (blk_cell BG.out 1).trans rfl)
     | ((with_reducible refine gate_callee (f := 64) rfl ?_); refine goesL_ (some 11) rfl rfl Try.func64 (by kernel_rfl) rfl #[.agg #[.int .i64 n, .slice A0_1 l0_1.length c0_1]] rfl (by (try simp only [List.map_toArray, List.map_cons, List.map_nil]); first | done | rfl) ?_; (with_reducible refine (tableOf_c g A0_1 c0_1 hc0_1 w4_ (Kd.C_below HR.out HB.out)).mono ?_); rintro e w4 ⟨T, C, E, rfl, hT, hBK, hb4, hF⟩; refine ⟨_, rfl, ?_⟩; have BK := Aside0.mk hBK; have TF := Aside0.mk hF; have HB2 := Aside0.mk (below_step HB.out hb4); (try (have HO2 := Aside0.mk (Kd.R_below HO.out hb4); have HOL := Aside0.mk (fun k hk => Nat.lt_of_lt_of_le (Kd.R_lt HO.out k hk) hb4.size); clear HO; have HO := HO2; clear HO2)); clear hb4 hT hBK hF BG HB hz0 hz1; have HB := HB2; clear HB2)
     | ((with_reducible refine gate_callee (f := 71) rfl ?_); refine goesL_ (some 12) rfl rfl Try.func71 (by kernel_rfl) rfl #[.pointer (some ⟨T, 0, none⟩)] rfl (by (try simp only [List.map_toArray, List.map_cons, List.map_nil]); first | done | rfl) ?_; (with_reducible refine (worst_c n hn8 (.slice A0_1 l0_1.length c0_1) T C E TF.out.inC w4 BK.out).mono ?_); rintro e w5 ⟨v5, rfl, ho5, hb5⟩; refine ⟨_, rfl, ?_⟩; obtain ⟨A5, c5, e5⟩ := Kd.R_slice ho5; subst e5; have HW := Aside0.mk (own_ok (Kd.R_lower ho5 (below_size HB.out))); (try (have NE := Aside0.mk (fun k hk j hj => by have h1 := HOL.out j hj; have h2 := own_base (Kd.own_of_R ho5) k hk; omega : ∀ k, (Value.slice A5 (worstC C n).length c5).ownBlock = some k → ∀ j, v9.ownBlock = some j → k ≠ j); have HO2 := Aside0.mk (Kd.R_below HO.out hb5); clear HO HOL; have HO := HO2; clear HO2)); have HB2 := Aside0.mk (below_step HB.out hb5); clear hb5 ho5 HB; have HB := HB2; clear HB2)
     )
    have HST := Aside0.mk (show startsV l0_1 n = numsOf (fun p => decide ((worstC C n).getD p 0 < 1000)) n from (numsOf_congr (fun p hp => worst_wins g TF.out p hp)).symm)
    have HWL := Aside0.mk (worstC_len C n)
    go_loopg [3, 14] n (fun gg s3 s14 wr => ∃ (p : Nat), p ≤ n ∧ n - p ≤ gg ∧ s14 = .int .i64 p ∧ Aside0 (Kd.R (Kd.int .i64) 3 wr w.heap.size (fun _ => True) s3 (numsOf (fun p => decide ((worstC C n).getD p 0 < 1000)) p)) ∧ Aside0 (Kd.R (Kd.int .i64) 3 wr w.heap.size (fun k => (Value.slice A5 (worstC C n).length c5).ownBlock = some k) (.slice A5 (worstC C n).length c5) (worstC C n)) ∧ Aside0 (∀ k, (Value.slice A5 (worstC C n).length c5).ownBlock = some k → ∀ j, s3.ownBlock = some j → k ≠ j) ∧ Aside0 (Below w.heap.size w wr))
    case atStart => exact ⟨0, Nat.zero_le _, by omega, rfl, HO, HW, ⟨fun k hk j hj e => NE.out k hk j hj e⟩, HB⟩
    case round =>
      clear HO HW NE HB
      obtain ⟨p, hp, hgp, rfl, HO, HW, NE, HB⟩ := hrel
      by_cases hlt : p < n
      · have hltz : (p : Int) < ((worstC C n).length : Int) := by have := HWL.out; omega
        obtain ⟨ad, e1, hcell0⟩ := Kd.at_int (Kd.R_reads' HW.out).2.2 (p : Int) (by omega) hltz
        have hcell : wr.cell? (ad.add p) = some (.int .i64 ((worstC C n).getD p 0)) := hcell0
        subst e1
        clear hcell0
        have hp8 : p < 8 := by omega
        obtain ⟨m, hm⟩ : ∃ m, m = (worstC C n).getD p 0 := ⟨_, rfl⟩
        have HSU := Aside0.mk (numsOf_succ (fun p => decide ((worstC C n).getD p 0 < 1000)) p)
        have HNL := Aside0.mk (numsOf_len (fun p => decide ((worstC C n).getD p 0 < 1000)) p)
        have HM := Aside0.mk hm
        rw [← hm] at hcell
        clear hm
        by_cases hlm : m < 1000
        · have hlmb : decide (m < 1000) = true := decide_eq_true hlm
          have HAP := Aside0.mk (show numsOf (fun p => decide ((worstC C n).getD p 0 < 1000)) (p + 1) = numsOf (fun p => decide ((worstC C n).getD p 0 < 1000)) p ++ [(p : Int)] by rw [HSU.out, if_pos (by rw [← HM.out]; exact hlmb)])
          clear HSU hlm
          go_wp2_with (first
           | ((with_reducible refine gate_builtin (b := .append) (xs := #[.tmp 21, .tmp 23]) rfl ?_); at_builtin; refine Kd.R_append (Kd.int .i64) (w0 := w) w.heap.size rfl (.tmp 21) (.tmp 23) 22 3 (.int .i64 0) 8 rfl Try.underlying22 info_int rfl (by decide) (by omega) u3 (numsOf (fun p => decide ((worstC C n).getD p 0 < 1000)) p) p [.int .i64 p] (fun _ => True) (fun _ => False) rfl rfl ?aP (fun _ hk => hk.elim) ?aF ?aO ?aB ?aS ?aL ?_; (case aP => exact rfl); (case aB => exact HB.out); (case aF => exact (fun _ _ => trivial)); (case aO => exact HO.out); (case aS => exact (below_size HB.out)); (case aL => have := HNL.out; omega);
               intro v7 w7 ho hb hg hat; rw [← HAP.out] at ho;
               have HO2 := Aside0.mk ho; have HB2 := Aside0.mk hb;
               have HW2 := Aside0.mk (Kd.R_grown HW.out hg (fun k hk e => NE.out k hk k e.symm rfl));
               have NE2 := Aside0.mk (fun k hk j hj => hat.elim (fun h1 => NE.out k hk j (h1 ▸ hj)) (fun ⟨b, h1, h2⟩ => by have h3 := Kd.R_lt HW.out k hk; rw [h1] at hj; injection hj with hj; omega) : ∀ k, (Value.slice (some ad) (worstC C n).length c5).ownBlock = some k → ∀ j, v7.ownBlock = some j → k ≠ j);
               clear HO HB HW NE ho hb hg hat))
          go_roundg (n - (p + 1))
          case measure => omega
          case rel => exact ⟨p + 1, by omega, by omega, by go_num, HO2, HW2, NE2, HB2⟩
        · have hlmb : decide (m < 1000) = false := decide_eq_false hlm
          have HAP := Aside0.mk (show numsOf (fun p => decide ((worstC C n).getD p 0 < 1000)) (p + 1) = numsOf (fun p => decide ((worstC C n).getD p 0 < 1000)) p by rw [HSU.out, if_neg (by rw [← HM.out, hlmb]; decide)])
          clear HSU hlm
          go_wp2
          go_roundg (n - (p + 1))
          case measure => omega
          case rel => exact ⟨p + 1, by omega, by omega, by go_num, ⟨by rw [HAP.out]; exact HO.out⟩, HW, NE, HB⟩
      · obtain rfl : n = p := by omega
        have hltz : ¬ (n : Int) < ((worstC C n).length : Int) := by have := HWL.out; omega
        go_wp2
        go_ret
        exact ⟨_, rfl, by rw [HST.out]; exact HO.out, HB.out⟩
  · have hbf : t = false := by simpa using hb
    subst hbf
    simp only [↓reduceIte, Bool.false_eq_true] at h
    obtain rfl := Option.some.inj h
    clear ht hr0_1 hb h
    go_enter Try.func31, Try.ntmps31
    go_wp2_with (first
     | ((with_reducible refine gate_dst (N := 1) rfl ?_); refine box_event rfl (N := 1) rfl (cs := #[.int .i64 a0_0, .slice A0_1 l0_1.length c0_1]) (t := 27) (by first | (go_simp; done) | (go_simp; rfl)) ?_; intro gb hgb w1 hbox hb1;
           have BG := Aside0.mk hbox; have HB := Aside0.mk hb1; have hz0 : w1.cell? ⟨gb, 0, none⟩ = some (.int .i64 a0_0) := (blk_cell BG.out 0).trans rfl; have hz1 : w1.cell? ⟨gb, 1, none⟩ = some (.slice A0_1 l0_1.length c0_1) := (blk_cell BG.out 1).trans rfl; clear hbox hgb hb1)
     | ((with_reducible refine gate_callee (f := 69) rfl ?_); refine goesL_ (some 7) rfl rfl Try.func69 (by kernel_rfl) rfl #[.agg #[.int .i64 a0_0, .slice A0_1 l0_1.length c0_1]] rfl (by (try simp only [List.map_toArray, List.map_cons, List.map_nil]); first | done | rfl) ?_; (with_reducible refine (impl_GraphOk.calls k a0_0 A0_1 c0_1 l0_1 false w1 (Kd.C_below HR.out HB.out) hc0_1 HT.out).mono ?_); rintro e w3 ⟨rfl, hb3⟩; refine ⟨_, rfl, ?_⟩;
           have BG2 := Aside0.mk (blk_below BG.out hb3); have HB2 := Aside0.mk (below_step HB.out hb3); clear hb3 BG HB hz0 hz1; have BG := BG2; have HB := HB2; clear BG2 HB2;
           have hz0 : w3.cell? ⟨gb, 0, none⟩ = some (.int .i64 a0_0) := (blk_cell BG.out 0).trans rfl; have hz1 : w3.cell? ⟨gb, 1, none⟩ = some (.slice A0_1 l0_1.length c0_1) := (blk_cell BG.out 1).trans rfl)
     )
    go_ret
    exact ⟨_, rfl, Kd.R_nil _ _ _ _ _, HB.out⟩
def impl_IsPursuerWin.f (k : Nat) (a0_0 : Int) (l0_1 : List Int) : Option (Bool) := (impl_WinningStarts.f k a0_0 l0_1).bind fun t => some (decide ((t.length : Int) > 0))
theorem impl_IsPursuerWin.mono : ∀ a0 a1 k, LeO (impl_IsPursuerWin.f k a0 a1) (impl_IsPursuerWin.f (k + 1) a0 a1) := fun a0 a1 k => LeO.bind (impl_WinningStarts.mono a0 a1 k) (fun _ => LeO.refl _)
set_option maxHeartbeats 4000000 in
set_option maxRecDepth 100000 in
theorem impl_IsPursuerWin.calls (k : Nat) (a0_0 : Int) (A0_1 : Option Addr) (c0_1 : Nat) (l0_1 : List Int) (r : Bool) (w : World) (hr0_1 : Kd.C (Kd.int .i64) w A0_1 l0_1.length l0_1) (hc0_1 : l0_1.length ≤ c0_1) (h : impl_IsPursuerWin.f k a0_0 l0_1 = some r) :
    Calls Try.prog 23 #[.agg #[.int .i64 a0_0, .slice A0_1 l0_1.length c0_1]] w fun e w' => e = .returned (.bool r) ∧ Below w.heap.size w w' := by
  replace h := Option.bind_eq_some_iff.1 h
  obtain ⟨t, ht, h⟩ := h
  obtain rfl := Option.some.inj h
  have HT := Aside0.mk ht
  have HR := Aside0.mk hr0_1
  clear h ht hr0_1
  go_enter Try.func23, Try.ntmps23
  go_wp2_with (first
   | ((with_reducible refine gate_dst (N := 1) rfl ?_); refine box_event rfl (N := 1) rfl (cs := #[.int .i64 a0_0, .slice A0_1 l0_1.length c0_1]) (t := 27) (by first | (go_simp; done) | (go_simp; rfl)) ?_; intro gb hgb w1 hbox hb1;
         have BG := Aside0.mk hbox; have HB := Aside0.mk hb1; have hz0 : w1.cell? ⟨gb, 0, none⟩ = some (.int .i64 a0_0) := (blk_cell BG.out 0).trans rfl; have hz1 : w1.cell? ⟨gb, 1, none⟩ = some (.slice A0_1 l0_1.length c0_1) := (blk_cell BG.out 1).trans rfl; clear hbox hgb hb1)
   | ((with_reducible refine gate_callee (f := 31) rfl ?_); refine goesL_ (some 4) rfl rfl Try.func31 (by kernel_rfl) rfl #[.agg #[.int .i64 a0_0, .slice A0_1 l0_1.length c0_1]] rfl (by (try simp only [List.map_toArray, List.map_cons, List.map_nil]); first | done | rfl) ?_; (with_reducible refine (impl_WinningStarts.calls k a0_0 A0_1 c0_1 l0_1 t w1 (Kd.C_below HR.out HB.out) hc0_1 HT.out).mono ?_); rintro e w3 ⟨v3, rfl, ho3, hb3⟩; refine ⟨_, rfl, ?_⟩; obtain ⟨A3, c3, e3⟩ := Kd.R_slice ho3; subst e3; have HB2 := Aside0.mk (below_step HB.out hb3); clear hb3 ho3 BG HB hz0 hz1; have HB := HB2; clear HB2)
   )
  go_ret
  refine ⟨?_, HB.out⟩
  have e : decide ((t.length : Int) > 0) = decide (0 < t.length) := by rw [Bool.eq_iff_iff, decide_eq_true_eq, decide_eq_true_eq]; omega
  rw [e]
  rfl
def impl_CaptureTime.f (k : Nat) (a0_0 : Int) (l0_1 : List Int) : Option (Int) := (impl_GraphOk.f k a0_0 l0_1).bind fun t => if t = true then some (captV l0_1 a0_0.toNat) else some (-1)
theorem impl_CaptureTime.mono : ∀ a0 a1 k, LeO (impl_CaptureTime.f k a0 a1) (impl_CaptureTime.f (k + 1) a0 a1) := fun a0 a1 k => LeO.bind (impl_GraphOk.mono a0 a1 k) (fun _ => LeO.refl _)
set_option maxHeartbeats 4000000 in
set_option maxRecDepth 100000 in
theorem impl_CaptureTime.calls (k : Nat) (a0_0 : Int) (A0_1 : Option Addr) (c0_1 : Nat) (l0_1 : List Int) (r : Int) (w : World) (hr0_1 : Kd.C (Kd.int .i64) w A0_1 l0_1.length l0_1) (hc0_1 : l0_1.length ≤ c0_1) (h : impl_CaptureTime.f k a0_0 l0_1 = some r) :
    Calls Try.prog 29 #[.agg #[.int .i64 a0_0, .slice A0_1 l0_1.length c0_1]] w fun e w' => e = .returned (.int .i64 r) ∧ Below w.heap.size w w' := by
  replace h := Option.bind_eq_some_iff.1 h
  obtain ⟨t, ht, h⟩ := h
  have HT := Aside0.mk ht
  have HR := Aside0.mk hr0_1
  by_cases hb : t = true
  · subst hb
    have g := (graph_inv ht).1 rfl
    obtain ⟨n, rfl⟩ : ∃ n : Nat, a0_0 = (n : Int) := ⟨a0_0.toNat, by have := g.lo; omega⟩
    have hn8 : n ≤ 8 := by have := g.len8; have := nlen g; omega
    have hn1 : 1 ≤ n := by have := g.len1; have := nlen g; omega
    simp only [↓reduceIte, Int.toNat_natCast] at h
    obtain rfl := Option.some.inj h
    clear ht hr0_1 h
    go_enter Try.func29, Try.ntmps29
    go_wp2_with (first
     | ((with_reducible refine gate_dst (N := 1) rfl ?_); refine box_event rfl (N := 1) rfl (cs := #[.int .i64 n, .slice A0_1 l0_1.length c0_1]) (t := 27) (by first | (go_simp; done) | (go_simp; rfl)) ?_; intro gb hgb w1 hbox hb1;
           have BG := Aside0.mk hbox; have HB := Aside0.mk hb1; have hz0 : w1.cell? ⟨gb, 0, none⟩ = some (.int .i64 n) := (blk_cell BG.out 0).trans rfl; have hz1 : w1.cell? ⟨gb, 1, none⟩ = some (.slice A0_1 l0_1.length c0_1) := (blk_cell BG.out 1).trans rfl; clear hbox hgb hb1)
     | ((with_reducible refine gate_callee (f := 69) rfl ?_); refine goesL_ (some 4) rfl rfl Try.func69 (by kernel_rfl) rfl #[.agg #[.int .i64 n, .slice A0_1 l0_1.length c0_1]] rfl (by (try simp only [List.map_toArray, List.map_cons, List.map_nil]); first | done | rfl) ?_; (with_reducible refine (impl_GraphOk.calls k n A0_1 c0_1 l0_1 true w1 (Kd.C_below HR.out HB.out) hc0_1 HT.out).mono ?_); rintro e w3 ⟨rfl, hb3⟩; refine ⟨_, rfl, ?_⟩;
           have BG2 := Aside0.mk (blk_below BG.out hb3); have HB2 := Aside0.mk (below_step HB.out hb3); clear hb3 BG HB hz0 hz1; have BG := BG2; have HB := HB2; clear BG2 HB2;
           have hz0 : w3.cell? ⟨gb, 0, none⟩ = some (.int .i64 n) := (blk_cell BG.out 0).trans rfl; have hz1 : w3.cell? ⟨gb, 1, none⟩ = some (.slice A0_1 l0_1.length c0_1) := (blk_cell BG.out 1).trans rfl)
     | ((with_reducible refine gate_callee (f := 64) rfl ?_); refine goesL_ (some 7) rfl rfl Try.func64 (by kernel_rfl) rfl #[.agg #[.int .i64 n, .slice A0_1 l0_1.length c0_1]] rfl (by (try simp only [List.map_toArray, List.map_cons, List.map_nil]); first | done | rfl) ?_; (with_reducible refine (tableOf_c g A0_1 c0_1 hc0_1 w3 (Kd.C_below HR.out HB.out)).mono ?_); rintro e w4 ⟨T, C, E, rfl, hT, hBK, hb4, hF⟩; refine ⟨_, rfl, ?_⟩; have BK := Aside0.mk hBK; have TF := Aside0.mk hF; have HB2 := Aside0.mk (below_step HB.out hb4); (try (have HO2 := Aside0.mk (Kd.R_below HO.out hb4); have HOL := Aside0.mk (fun k hk => Nat.lt_of_lt_of_le (Kd.R_lt HO.out k hk) hb4.size); clear HO; have HO := HO2; clear HO2)); clear hb4 hT hBK hF BG HB hz0 hz1; have HB := HB2; clear HB2)
     | ((with_reducible refine gate_callee (f := 71) rfl ?_); refine goesL_ (some 8) rfl rfl Try.func71 (by kernel_rfl) rfl #[.pointer (some ⟨T, 0, none⟩)] rfl (by (try simp only [List.map_toArray, List.map_cons, List.map_nil]); first | done | rfl) ?_; (with_reducible refine (worst_c n hn8 (.slice A0_1 l0_1.length c0_1) T C E TF.out.inC w4 BK.out).mono ?_); rintro e w5 ⟨v5, rfl, ho5, hb5⟩; refine ⟨_, rfl, ?_⟩; obtain ⟨A5, c5, e5⟩ := Kd.R_slice ho5; subst e5; have HW := Aside0.mk (own_ok (Kd.R_lower ho5 (below_size HB.out))); (try (have NE := Aside0.mk (fun k hk j hj => by have h1 := HOL.out j hj; have h2 := own_base (Kd.own_of_R ho5) k hk; omega : ∀ k, (Value.slice A5 (worstC C n).length c5).ownBlock = some k → ∀ j, v9.ownBlock = some j → k ≠ j); have HO2 := Aside0.mk (Kd.R_below HO.out hb5); clear HO HOL; have HO := HO2; clear HO2)); have HB2 := Aside0.mk (below_step HB.out hb5); clear hb5 ho5 HB; have HB := HB2; clear HB2)
     | ((with_reducible refine gate_callee (f := 70) rfl ?_); refine goesL_ (some 9) rfl rfl Try.func70 (by kernel_rfl) rfl #[.slice A5 (worstC C n).length c5] rfl (by (try simp only [List.map_toArray, List.map_cons, List.map_nil]); first | done | rfl) ?_; (with_reducible refine (min_c A5 c5 (worstC C n) (by rw [worstC_len]; omega) (by rw [worstC_len]; omega) w5 (Kd.R_reads' HW.out).2.2).mono ?_); rintro e w6 ⟨rfl, rfl⟩; refine ⟨_, rfl, ?_⟩; obtain ⟨m, hm⟩ : ∃ m, m = minV (worstC C n) := ⟨_, rfl⟩; have HTD := Aside0.mk (by rw [hm]; exact min_capt g TF.out : impl_told.f m = some (captV l0_1 n)); rw [← hm]; clear hm)
     | ((with_reducible refine gate_callee (f := 63) rfl ?_); refine goesL_ (some 10) rfl rfl Try.func63 (by kernel_rfl) rfl #[.int .i64 m] rfl (by (try simp only [List.map_toArray, List.map_cons, List.map_nil]); first | done | rfl) ?_; (with_reducible refine (impl_told.calls m _ _ HTD.out).mono ?_); rintro e w7 ⟨rfl, hd⟩; refine ⟨_, rfl, ?_⟩; have HB2 := Aside0.mk (below_step HB.out hd.below); clear hd HB; have HB := HB2; clear HB2)
     )
    go_ret
    exact ⟨rfl, HB.out⟩
  · have hbf : t = false := by simpa using hb
    subst hbf
    simp only [↓reduceIte, Bool.false_eq_true] at h
    obtain rfl := Option.some.inj h
    clear ht hr0_1 hb h
    go_enter Try.func29, Try.ntmps29
    go_wp2_with (first
     | ((with_reducible refine gate_dst (N := 1) rfl ?_); refine box_event rfl (N := 1) rfl (cs := #[.int .i64 a0_0, .slice A0_1 l0_1.length c0_1]) (t := 27) (by first | (go_simp; done) | (go_simp; rfl)) ?_; intro gb hgb w1 hbox hb1;
           have BG := Aside0.mk hbox; have HB := Aside0.mk hb1; have hz0 : w1.cell? ⟨gb, 0, none⟩ = some (.int .i64 a0_0) := (blk_cell BG.out 0).trans rfl; have hz1 : w1.cell? ⟨gb, 1, none⟩ = some (.slice A0_1 l0_1.length c0_1) := (blk_cell BG.out 1).trans rfl; clear hbox hgb hb1)
     | ((with_reducible refine gate_callee (f := 69) rfl ?_); refine goesL_ (some 4) rfl rfl Try.func69 (by kernel_rfl) rfl #[.agg #[.int .i64 a0_0, .slice A0_1 l0_1.length c0_1]] rfl (by (try simp only [List.map_toArray, List.map_cons, List.map_nil]); first | done | rfl) ?_; (with_reducible refine (impl_GraphOk.calls k a0_0 A0_1 c0_1 l0_1 false w1 (Kd.C_below HR.out HB.out) hc0_1 HT.out).mono ?_); rintro e w3 ⟨rfl, hb3⟩; refine ⟨_, rfl, ?_⟩;
           have BG2 := Aside0.mk (blk_below BG.out hb3); have HB2 := Aside0.mk (below_step HB.out hb3); clear hb3 BG HB hz0 hz1; have BG := BG2; have HB := HB2; clear BG2 HB2;
           have hz0 : w3.cell? ⟨gb, 0, none⟩ = some (.int .i64 a0_0) := (blk_cell BG.out 0).trans rfl; have hz1 : w3.cell? ⟨gb, 1, none⟩ = some (.slice A0_1 l0_1.length c0_1) := (blk_cell BG.out 1).trans rfl)
     )
    go_ret
    exact ⟨rfl, HB.out⟩
end Go.Proofs.Ytilanbgciofkjaa.PA

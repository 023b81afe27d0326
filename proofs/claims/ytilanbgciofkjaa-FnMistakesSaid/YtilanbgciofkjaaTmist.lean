/- FirstMistake: the walk. -/
import Derived.Test.YtilanbgciofkjaaMt
import Derived.Test.YtilanbgciofkjaaEmist
import Derived.Test.YtilanbgciofkjaaPAx21
namespace Go.Proofs.Ytilanbgciofkjaa.PA
open Go.RowKit Go.Proofs.YtilanbgciofkjaaW.PrintWords Go.Proofs.YtilanbgciofkjaaW.PrintLast Go.Proofs.YtilanbgciofkjaaW.PrintMore Go.Proofs.Ytilanbgciofkjaa.Pure
attribute [local go_sem] max2_int min2_int max_two min_two max_three min_three max_four min_four
set_option linter.unusedVariables false
set_option linter.unusedSimpArgs false
def impl_FirstMistake.f (k : Nat) (a0_0 : Int) (l0_1 : List Int) (l1_0 : List Int) (l1_1 : List Int) : Option (Int) := (if l1_0.length ≤ 1000000 then impl_RecordOk.f k a0_0 l0_1 l1_0 l1_1 else none).bind fun t => if t = true then some (fmV l0_1 l1_0 l1_1) else some 0
theorem impl_FirstMistake.mono : ∀ a0 a1 a2 a3 k, LeO (impl_FirstMistake.f k a0 a1 a2 a3) (impl_FirstMistake.f (k + 1) a0 a1 a2 a3) := fun a0 a1 a2 a3 k => LeO.bind (LeO.ite (impl_RecordOk.mono a0 a1 a2 a3 k) (LeO.refl _)) (fun _ => LeO.refl _)
set_option maxHeartbeats 4000000 in
set_option maxRecDepth 100000 in
theorem impl_FirstMistake.calls (k : Nat) (a0_0 : Int) (A0_1 : Option Addr) (c0_1 : Nat) (l0_1 : List Int) (A1_0 : Option Addr) (c1_0 : Nat) (l1_0 : List Int) (A1_1 : Option Addr) (c1_1 : Nat) (l1_1 : List Int) (r : Int) (w : World) (hr0_1 : Kd.C (Kd.int .i64) w A0_1 l0_1.length l0_1) (hc0_1 : l0_1.length ≤ c0_1) (hr1_0 : Kd.C (Kd.int .i64) w A1_0 l1_0.length l1_0) (hc1_0 : l1_0.length ≤ c1_0) (hr1_1 : Kd.C (Kd.int .i64) w A1_1 l1_1.length l1_1) (hc1_1 : l1_1.length ≤ c1_1) (h : impl_FirstMistake.f k a0_0 l0_1 l1_0 l1_1 = some r) :
    Calls Try.prog 39 #[.agg #[.int .i64 a0_0, .slice A0_1 l0_1.length c0_1], .agg #[.slice A1_0 l1_0.length c1_0, .slice A1_1 l1_1.length c1_1]] w fun e w' => e = .returned (.int .i64 r) ∧ Below w.heap.size w w' := by
  replace h := Option.bind_eq_some_iff.1 h
  obtain ⟨t, ht, h⟩ := h
  have hL : l1_0.length ≤ 1000000 := Decidable.byContradiction fun hn => by rw [if_neg hn] at ht; cases ht
  rw [if_pos hL] at ht
  have HT := Aside0.mk ht
  have HR := Aside0.mk hr0_1
  have HR0 := Aside0.mk hr1_0
  have HR1 := Aside0.mk hr1_1
  by_cases hb : t = true
  · subst hb
    have hrok := (rec_inv hL ht).1 rfl
    have g := hrok.g
    obtain ⟨n, rfl⟩ : ∃ n : Nat, a0_0 = (n : Int) := ⟨a0_0.toNat, by have := g.lo; omega⟩
    have hn8 : n ≤ 8 := by have := g.len8; have := nlen g; omega
    have hlen := hrok.len
    have h60 := hrok.most
    have HROK := Aside0.mk hrok
    have HLE := Aside0.mk hlen
    simp only [↓reduceIte] at h
    obtain rfl := Option.some.inj h
    clear ht hr0_1 hr1_0 hr1_1 h hrok hL hlen
    go_enter Try.func39, Try.ntmps39
    go_wp2_with (first
     | ((with_reducible refine gate_dst (N := 2) rfl ?_); refine box_event rfl (N := 2) rfl (cs := #[.int .i64 n, .slice A0_1 l0_1.length c0_1]) (t := 27) (by first | (go_simp; done) | (go_simp; rfl)) ?_; intro gb hgb w1 hbox hb1;
           have BG := Aside0.mk hbox; have HB := Aside0.mk hb1; have hz0 : w1.cell? ⟨gb, 0, none⟩ = some (.int .i64 n) := (blk_cell BG.out 0).trans rfl; have hz1 : w1.cell? ⟨gb, 1, none⟩ = some (.slice A0_1 l0_1.length c0_1) := (blk_cell BG.out 1).trans rfl; clear hbox hgb hb1)
     | ((with_reducible refine gate_dst (N := 3) rfl ?_); refine box_event rfl (N := 3) rfl (cs := #[.slice A1_0 l1_0.length c1_0, .slice A1_1 l1_1.length c1_1]) (t := 42) (by first | (go_simp; done) | (go_simp; rfl)) ?_; intro gr hgr w2 hbox hb1;
           have BR := Aside0.mk hbox; have n1 := Aside0.mk (blk_below BG.out hb1); have n2 := Aside0.mk (below_step HB.out hb1); clear hbox hgr hb1 BG HB hz0 hz1; have BG := n1; have HB := n2; clear n1 n2;
           have hz0 : w2.cell? ⟨gb, 0, none⟩ = some (.int .i64 n) := (blk_cell BG.out 0).trans rfl; have hz1 : w2.cell? ⟨gb, 1, none⟩ = some (.slice A0_1 l0_1.length c0_1) := (blk_cell BG.out 1).trans rfl;
           have hy0 : w2.cell? ⟨gr, 0, none⟩ = some (.slice A1_0 l1_0.length c1_0) := (blk_cell BR.out 0).trans rfl; have hy1 : w2.cell? ⟨gr, 1, none⟩ = some (.slice A1_1 l1_1.length c1_1) := (blk_cell BR.out 1).trans rfl)
     | ((with_reducible refine gate_callee (f := 55) rfl ?_); refine goesL_ (some 10) rfl rfl Try.func55 (by kernel_rfl) rfl #[.agg #[.int .i64 n, .slice A0_1 l0_1.length c0_1], .agg #[.slice A1_0 l1_0.length c1_0, .slice A1_1 l1_1.length c1_1]] rfl (by (try simp only [List.map_toArray, List.map_cons, List.map_nil]); first | done | rfl) ?_; (with_reducible refine (impl_RecordOk.calls k n A0_1 c0_1 l0_1 A1_0 c1_0 l1_0 A1_1 c1_1 l1_1 true w2 (Kd.C_below HR.out HB.out) hc0_1 (Kd.C_below HR0.out HB.out) hc1_0 (Kd.C_below HR1.out HB.out) hc1_1 HT.out).mono ?_); rintro e w3 ⟨rfl, hb3⟩; refine ⟨_, rfl, ?_⟩;
           have n0 := Aside0.mk (blk_below BR.out hb3); have n1 := Aside0.mk (blk_below BG.out hb3); have n2 := Aside0.mk (below_step HB.out hb3); clear hb3 BG BR HB hz0 hz1 hy0 hy1; have BR := n0; have BG := n1; have HB := n2; clear n0 n1 n2;
           have hz0 : w3.cell? ⟨gb, 0, none⟩ = some (.int .i64 n) := (blk_cell BG.out 0).trans rfl; have hz1 : w3.cell? ⟨gb, 1, none⟩ = some (.slice A0_1 l0_1.length c0_1) := (blk_cell BG.out 1).trans rfl)
     | ((with_reducible refine gate_callee (f := 64) rfl ?_); refine goesL_ (some 13) rfl rfl Try.func64 (by kernel_rfl) rfl #[.agg #[.int .i64 n, .slice A0_1 l0_1.length c0_1]] rfl (by (try simp only [List.map_toArray, List.map_cons, List.map_nil]); first | done | rfl) ?_; (with_reducible refine (tableOf_c g A0_1 c0_1 hc0_1 w3 (Kd.C_below HR.out HB.out)).mono ?_); rintro e w4 ⟨T, C, E, rfl, hT, hBK, hb4, hF⟩; refine ⟨_, rfl, ?_⟩; have BK := Aside0.mk hBK; have TF := Aside0.mk hF; have HB2 := Aside0.mk (below_step HB.out hb4); have BR2 := Aside0.mk (blk_below BR.out hb4); clear hb4 hT hBK hF BG BR HB hz0 hz1; have HB := HB2; have BR := BR2; clear HB2 BR2))
    go_loopg [6] l1_0.length (fun gg s6 wr => ∃ (j q : Nat), j + 1 ≤ l1_0.length ∧ l1_0.length - (j + 1) ≤ gg ∧ s6 = .int .i64 ((j : Int) + 1) ∧ Aside0 (∀ i, i < j → badT l0_1 l1_0 l1_1 i = false) ∧ wr = w4.drewN q)
    case atStart => exact ⟨0, 0, by have := HROK.out.one; omega, by omega, rfl, ⟨fun i hi => absurd hi (Nat.not_lt_zero _)⟩, rfl⟩
    case round =>
      obtain ⟨j, q, hj, hgj, rfl, HN, hwr⟩ := hrel
      have hb0 := (Below.refl w4.heap.size w4)
      have BRr := Aside0.mk (show wr.heap[gr]? = some (.cells #[.slice A1_0 l1_0.length c1_0, .slice A1_1 l1_1.length c1_1] 42 (0, 0)) by rw [hwr]; exact BR.out)
      have BKr := Aside0.mk (show TabB wr T n (.slice A0_1 l0_1.length c0_1) C E by rw [hwr]; exact BK.out)
      have HBr := Aside0.mk (show Below w.heap.size w wr by rw [hwr]; exact pw_below_drewN HB.out q)
      have HWR := Aside0.mk hwr
      clear hwr hb0
      have hy0 : wr.cell? ⟨gr, 0, none⟩ = some (.slice A1_0 l1_0.length c1_0) := (blk_cell BRr.out 0).trans rfl
      obtain ⟨iz, hiz⟩ : ∃ iz : Int, iz = (j : Int) + 1 := ⟨_, rfl⟩
      rw [← hiz]
      have HIZ := Aside0.mk hiz
      clear hiz
      by_cases hlt : j + 1 < l1_0.length
      · have hltz : iz < (l1_0.length : Int) := by have := HIZ.out; omega
        have hltz2 : iz < (l1_1.length : Int) := by have := HIZ.out; have := HLE.out; omega
        have hizz : 0 ≤ iz := by have := HIZ.out; omega
        have hjz : (j : Int) < (l1_0.length : Int) := by omega
        have hjz2 : (j : Int) < (l1_1.length : Int) := by have := HLE.out; omega
        have hy1 : wr.cell? ⟨gr, 1, none⟩ = some (.slice A1_1 l1_1.length c1_1) := (blk_cell BRr.out 1).trans rfl
        obtain ⟨ad0, e0, hp0⟩ := Kd.at_int (Kd.C_below HR0.out HBr.out) (j : Int) (by omega) hjz
        obtain ⟨ad1, e1, hf0⟩ := Kd.at_int (Kd.C_below HR1.out HBr.out) (j : Int) (by omega) hjz2
        obtain ⟨ad0', e0', hp2⟩ := Kd.at_int (Kd.C_below HR0.out HBr.out) ((j + 1 : Nat) : Int) (by omega) (by omega)
        subst e0 e1
        injection e0' with e0'
        subst e0'
        have hvp := HROK.out.p j (by omega)
        have hvf := HROK.out.f j (by omega)
        have hvp2 := HROK.out.p (j + 1) hlt
        obtain ⟨p, hpe, hpn⟩ : ∃ p : Nat, l1_0.getD j 0 = (p : Int) ∧ p < n := ⟨(l1_0.getD j 0).toNat, by omega, by omega⟩
        obtain ⟨f, hfe, hfn⟩ : ∃ f : Nat, l1_1.getD j 0 = (f : Int) ∧ f < n := ⟨(l1_1.getD j 0).toNat, by omega, by omega⟩
        obtain ⟨p2, hp2e, hp2n⟩ : ∃ p2 : Nat, l1_0.getD (j + 1) 0 = (p2 : Int) ∧ p2 < n := ⟨(l1_0.getD (j + 1) 0).toNat, by omega, by omega⟩
        have hcp : wr.cell? (ad0.add j) = some (.int .i64 (p : Int)) := by rw [← hpe]; exact hp0
        have hcf : wr.cell? (ad1.add j) = some (.int .i64 (f : Int)) := by rw [← hfe]; exact hf0
        have hcp2 : wr.cell? (ad0.add iz.toNat) = some (.int .i64 (p2 : Int)) := by rw [← hp2e, show iz.toNat = j + 1 from by have := HIZ.out; omega]; exact hp2
        obtain ⟨cv, hcv⟩ : ∃ cv, cv = C.getD (8 * p + f) 0 := ⟨_, rfl⟩
        obtain ⟨ev, hev⟩ : ∃ ev, ev = E.getD (8 * p2 + f) 0 := ⟨_, rfl⟩
        have hBAD := bad_of g TF.out l1_0 l1_1 j p f p2 hpn hfn hp2n hpe hfe hp2e
        rw [← hcv, ← hev] at hBAD
        have HBAD := Aside0.mk hBAD
        have hcvb := TF.out.inC.2 (8 * p + f) (by omega)
        rw [← hcv] at hcvb
        obtain ⟨hcv0, hcv1⟩ := hcvb
        have hp8 : p < 8 := by omega
        have hf8 : f < 8 := by omega
        have hp28 : p2 < 8 := by omega
        have hcC : wr.cell? ⟨T, 2 + p * 8 + f, none⟩ = some (.int .i64 cv) := by rw [hcv]; exact BKr.out.cC p f hp8 hf8 TF.out.inC.1
        have hcE : wr.cell? ⟨T, 66 + p2 * 8 + f, none⟩ = some (.int .i64 ev) := by rw [hev]; exact BKr.out.cE p2 f hp28 hf8 TF.out.inC.1 TF.out.inE.1
        have hw1 : IntKind.i64.wrap (iz - 1) = (j : Int) := by rw [HIZ.out, i64_w]; unfold wrap64; omega
        have hw2 : IntKind.i64.wrap (cv - 1) = cv - 1 := by rw [i64_w]; unfold wrap64; omega
        have hpz : (p : Int) < 8 := by omega
        have hfz : (f : Int) < 8 := by omega
        have hp2z : (p2 : Int) < 8 := by omega
        have hpz0 : (0 : Int) ≤ (p : Int) := Int.natCast_nonneg _
        have hfz0 : (0 : Int) ≤ (f : Int) := Int.natCast_nonneg _
        have hp2z0 : (0 : Int) ≤ (p2 : Int) := Int.natCast_nonneg _
        have hjz0 : (0 : Int) ≤ (j : Int) := Int.natCast_nonneg _
        clear hp0 hf0 hp2 hvp hvf hvp2 hpe hfe hp2e hcv hev hBAD
        by_cases hc1000 : cv < 1000
        · have hcb : decide (cv < 1000) = true := decide_eq_true hc1000
          by_cases hne : ev = cv - 1
          · have hneb : (ev != cv - 1) = false := by rw [bne_eq_false_iff_eq]; exact hne
            have HB0 := Aside0.mk (show badT l0_1 l1_0 l1_1 j = false by rw [HBAD.out, hcb, hneb]; rfl)
            clear hne hc1000 HBAD
            go_wp2
            go_quiet (fail)
            go_wp2
            go_quiet (fail)
            go_wp2
            go_roundg (l1_0.length - (j + 1 + 1))
            case measure => omega
            case rel => exact ⟨j + 1, _, by omega, by omega, by rw [HIZ.out]; go_num, ⟨fun i hi => if e : i = j then e ▸ HB0.out else HN.out i (by omega)⟩, by rw [HWR.out]; exact World.drewN_drewN ..⟩
          · have hneb : (ev != cv - 1) = true := by rw [bne_iff_ne]; exact hne
            have HB0 := Aside0.mk (show badT l0_1 l1_0 l1_1 j = true by rw [HBAD.out, hcb, hneb]; rfl)
            clear hne hc1000 HBAD
            have HV := Aside0.mk (fmV_some hlt HB0.out HN.out)
            go_wp2
            go_quiet (fail)
            go_wp2
            go_quiet (fail)
            go_wp2
            go_ret
            exact ⟨by rw [HV.out, ← HIZ.out]; rfl, by first | exact pw_below_drewN HBr.out _ | exact pw_below_drewN (pw_below_drewN HBr.out _) _⟩
        · have hcb : decide (cv < 1000) = false := decide_eq_false hc1000
          have HB0 := Aside0.mk (show badT l0_1 l1_0 l1_1 j = false by rw [HBAD.out, hcb]; rfl)
          clear hc1000 HBAD
          go_wp2
          go_quiet (fail)
          go_wp2
          go_quiet (fail)
          go_wp2
          go_roundg (l1_0.length - (j + 1 + 1))
          case measure => omega
          case rel => exact ⟨j + 1, _, by omega, by omega, by rw [HIZ.out]; go_num, ⟨fun i hi => if e : i = j then e ▸ HB0.out else HN.out i (by omega)⟩, by rw [HWR.out]; exact World.drewN_drewN ..⟩
      · have hltz : ¬ iz < (l1_0.length : Int) := by have := HIZ.out; omega
        have HV := Aside0.mk (fmV_none (l := l0_1) (P := l1_0) (F := l1_1) (fun i hi => HN.out i (by omega)))
        go_wp2
        go_ret
        exact ⟨by rw [HV.out]; rfl, HBr.out⟩
  · have hbf : t = false := by simpa using hb
    subst hbf
    simp only [↓reduceIte, Bool.false_eq_true] at h
    obtain rfl := Option.some.inj h
    clear ht hr0_1 hr1_0 hr1_1 hb h
    go_enter Try.func39, Try.ntmps39
    go_wp2_with (first
     | ((with_reducible refine gate_dst (N := 2) rfl ?_); refine box_event rfl (N := 2) rfl (cs := #[.int .i64 a0_0, .slice A0_1 l0_1.length c0_1]) (t := 27) (by first | (go_simp; done) | (go_simp; rfl)) ?_; intro gb hgb w1 hbox hb1;
           have BG := Aside0.mk hbox; have HB := Aside0.mk hb1; have hz0 : w1.cell? ⟨gb, 0, none⟩ = some (.int .i64 a0_0) := (blk_cell BG.out 0).trans rfl; have hz1 : w1.cell? ⟨gb, 1, none⟩ = some (.slice A0_1 l0_1.length c0_1) := (blk_cell BG.out 1).trans rfl; clear hbox hgb hb1)
     | ((with_reducible refine gate_dst (N := 3) rfl ?_); refine box_event rfl (N := 3) rfl (cs := #[.slice A1_0 l1_0.length c1_0, .slice A1_1 l1_1.length c1_1]) (t := 42) (by first | (go_simp; done) | (go_simp; rfl)) ?_; intro gr hgr w2 hbox hb1;
           have BR := Aside0.mk hbox; have n1 := Aside0.mk (blk_below BG.out hb1); have n2 := Aside0.mk (below_step HB.out hb1); clear hbox hgr hb1 BG HB hz0 hz1; have BG := n1; have HB := n2; clear n1 n2;
           have hz0 : w2.cell? ⟨gb, 0, none⟩ = some (.int .i64 a0_0) := (blk_cell BG.out 0).trans rfl; have hz1 : w2.cell? ⟨gb, 1, none⟩ = some (.slice A0_1 l0_1.length c0_1) := (blk_cell BG.out 1).trans rfl;
           have hy0 : w2.cell? ⟨gr, 0, none⟩ = some (.slice A1_0 l1_0.length c1_0) := (blk_cell BR.out 0).trans rfl; have hy1 : w2.cell? ⟨gr, 1, none⟩ = some (.slice A1_1 l1_1.length c1_1) := (blk_cell BR.out 1).trans rfl)
     | ((with_reducible refine gate_callee (f := 55) rfl ?_); refine goesL_ (some 10) rfl rfl Try.func55 (by kernel_rfl) rfl #[.agg #[.int .i64 a0_0, .slice A0_1 l0_1.length c0_1], .agg #[.slice A1_0 l1_0.length c1_0, .slice A1_1 l1_1.length c1_1]] rfl (by (try simp only [List.map_toArray, List.map_cons, List.map_nil]); first | done | rfl) ?_; (with_reducible refine (impl_RecordOk.calls k a0_0 A0_1 c0_1 l0_1 A1_0 c1_0 l1_0 A1_1 c1_1 l1_1 false w2 (Kd.C_below HR.out HB.out) hc0_1 (Kd.C_below HR0.out HB.out) hc1_0 (Kd.C_below HR1.out HB.out) hc1_1 HT.out).mono ?_); rintro e w3 ⟨rfl, hb3⟩; refine ⟨_, rfl, ?_⟩;
           have n0 := Aside0.mk (blk_below BR.out hb3); have n1 := Aside0.mk (blk_below BG.out hb3); have n2 := Aside0.mk (below_step HB.out hb3); clear hb3 BG BR HB hz0 hz1 hy0 hy1; have BR := n0; have BG := n1; have HB := n2; clear n0 n1 n2;
           have hz0 : w3.cell? ⟨gb, 0, none⟩ = some (.int .i64 a0_0) := (blk_cell BG.out 0).trans rfl; have hz1 : w3.cell? ⟨gb, 1, none⟩ = some (.slice A0_1 l0_1.length c0_1) := (blk_cell BG.out 1).trans rfl)
     )
    go_ret
    exact ⟨rfl, HB.out⟩
end Go.Proofs.Ytilanbgciofkjaa.PA

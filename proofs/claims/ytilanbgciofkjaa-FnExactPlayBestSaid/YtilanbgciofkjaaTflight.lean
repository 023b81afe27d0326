/- The fugitive's best move, out of the table: the walk; BestEscape. -/
import Derived.Test.YtilanbgciofkjaaMt
import Derived.Test.YtilanbgciofkjaaMb
namespace Go.Proofs.Ytilanbgciofkjaa.PA
open Go.RowKit Go.Proofs.YtilanbgciofkjaaW.PrintWords Go.Proofs.YtilanbgciofkjaaW.PrintLast Go.Proofs.YtilanbgciofkjaaW.PrintMore Go.Proofs.Ytilanbgciofkjaa.Pure
attribute [local go_sem] max2_int min2_int max_two min_two max_three min_three max_four min_four
set_option linter.unusedVariables false
set_option linter.unusedSimpArgs false
set_option maxHeartbeats 4000000 in
set_option maxRecDepth 100000 in
theorem flight_c {n : Nat} {l : List Int} (g : GOk (n : Int) l) (A : Option Addr) (c : Nat) (hc : l.length ≤ c) (T : Nat) (C E : List Int) (hF : TabFin n l C E) (p f : Nat) (hp : p < n) (hf : f < n) (w : World) (hb : TabB w T n (.slice A l.length c) C E) (hr : Kd.C (Kd.int .i64) w A l.length l) :
    Calls Try.prog 67 #[.pointer (some ⟨T, 0, none⟩), .int .i64 p, .int .i64 f] w fun e w' => e = .returned (.int .i64 (flightV l p f)) ∧ Below w.heap.size w w' := by
  have HLN := Aside0.mk (nlen g)
  have hn8 : n ≤ 8 := by have := g.len8; have := HLN.out; omega
  have hp8 : p < 8 := by omega
  have HR := Aside0.mk hr
  have HF := Aside0.mk hF
  have BT := Aside0.mk hb
  have HB := Aside0.mk (Below.refl w.heap.size w)
  by_cases hpf : p = f
  · have hpfb : ((p : Int) == (f : Int)) = true := by rw [beq_iff_eq]; omega
    have HV := Aside0.mk (show flightV l p f = (f : Int) by unfold flightV; rw [if_pos hpf])
    clear hpf hr hF hb
    go_enter Try.func67, Try.ntmps67
    go_wp2
    go_ret
    exact ⟨by rw [HV.out]; rfl, HB.out⟩
  · have hpfb : ((p : Int) == (f : Int)) = false := by rw [beq_eq_false_iff_ne]; omega
    have HV := Aside0.mk (show flightV l p f = (stayL l f).foldl (flC C p) (-1) by
      unfold flightV
      rw [if_neg hpf, flC_fold g hF p hp _ (-1) (by omega) (fun x hx => by obtain ⟨u, rfl, hu, _⟩ := stayL_mem g f (by have := HLN.out; omega) x hx; have := HLN.out; omega)])
    have hc0 : w.cell? ⟨T, 0, none⟩ = some (.int .i64 n) := hb.c0
    have hc1 : w.cell? ⟨T, 1, none⟩ = some (.slice A l.length c) := hb.c1
    clear hpf hr hF hb
    go_enter Try.func67, Try.ntmps67
    go_wp2_with (first
     | ((with_reducible refine gate_callee (f := 94) rfl ?_); refine goesL_ (some 19) rfl rfl Try.func94 (by kernel_rfl) rfl #[.agg #[.int .i64 n, .slice A l.length c], .int .i64 f] rfl (by (try simp only [List.map_toArray, List.map_cons, List.map_nil]); first | done | rfl) ?_; (with_reducible refine (stay_c g f (by have := HLN.out; omega) A c hc _ HR.out).mono ?_); rintro e w4 ⟨rfl, hb⟩; refine ⟨_, rfl, ?_⟩;
        have n0 := Aside0.mk (BT.out.below hb); have n2 := Aside0.mk (below_step HB.out hb); clear BT HB hb hc0 hc1; have BT := n0; have HB := n2; clear n0 n2)
     | ((with_reducible refine gate_callee (f := 86) rfl ?_); refine goesL_ (some 20) rfl rfl Try.func86 (by kernel_rfl) rfl #[.int .i64 ((stayN l f : Nat) : Int)] rfl (by (try simp only [List.map_toArray, List.map_cons, List.map_nil]); first | done | rfl) ?_; (with_reducible refine (list_c g f (by have := HLN.out; omega) _).mono ?_); rintro e w5 ⟨A5, c5, rfl, ho, hb⟩; refine ⟨_, rfl, ?_⟩;
        have n0 := Aside0.mk (BT.out.below hb); have n2 := Aside0.mk (below_step HB.out hb); have HO := Aside0.mk ho; clear BT HB hb ho; have BT := n0; have HB := n2; clear n0 n2))
    have HLL := Aside0.mk (stayL_len l f)
    go_loopg [7, 22] (stayL l f).length (fun gg s7 s22 wr => ∃ (k q : Nat), k ≤ (stayL l f).length ∧ (stayL l f).length - k ≤ gg ∧ s22 = .int .i64 k ∧ s7 = .int .i64 (((stayL l f).take k).foldl (flC C p) (-1)) ∧ wr = w5.drewN q)
    case atStart => exact ⟨0, 0, Nat.zero_le _, by omega, rfl, rfl, rfl⟩
    case round =>
      obtain ⟨k, q, hk, hgk, rfl, rfl, hwr⟩ := hrel
      have BTr := Aside0.mk (show TabB wr T n (.slice A l.length c) C E by rw [hwr]; exact BT.out)
      have HBr := Aside0.mk (show Below w.heap.size w wr by rw [hwr]; exact pw_below_drewN HB.out q)
      have HOr := Aside0.mk (show Kd.R (Kd.int .i64) 3 wr w4.heap.size (fun _ => True) (.slice A5 (stayL l f).length c5) (stayL l f) by rw [hwr]; exact Kd.R_drewN HO.out q)
      have HWR := Aside0.mk hwr
      clear hwr
      by_cases hklt : k < (stayL l f).length
      · have hkz : (k : Int) < ((stayL l f).length : Int) := by omega
        obtain ⟨ad, e1, hcell0⟩ := Kd.at_int (Kd.R_reads' HOr.out).2.2 (k : Int) (by omega) hkz
        subst e1
        have hcell : wr.cell? (ad.add k) = some (.int .i64 ((stayL l f).getD k 0)) := hcell0
        clear hcell0
        obtain ⟨u, hu, hul, _⟩ := stayL_mem g f (by have := HLN.out; omega) _ (getD_mem _ k hklt)
        rw [hu] at hcell
        have hu8 : u < 8 := by have := g.len8; omega
        have huz0 : (0 : Int) ≤ (u : Int) := Int.natCast_nonneg _
        have huz : (u : Int) < 8 := by omega
        have hpz0 : (0 : Int) ≤ (p : Int) := Int.natCast_nonneg _
        have hpz : (p : Int) < 8 := by omega
        have hk8 : k < 8 := by have := HLL.out; omega
        obtain ⟨cu, hcue⟩ : ∃ cu, cu = C.getD (8 * p + u) 0 := ⟨_, rfl⟩
        have hcu : wr.cell? ⟨T, 2 + p * 8 + u, none⟩ = some (.int .i64 cu) := by rw [hcue]; exact BTr.out.cC p u hp8 hu8 HF.out.inC.1
        have HCU := Aside0.mk hcue
        have HU := Aside0.mk hu
        clear hcue hu
        have HTK := Aside0.mk (foldl_take_succ (flC C p) (-1) (stayL l f) k 0 hklt)
        by_cases hk0 : k = 0
        · have HST := Aside0.mk (show ((stayL l f).take (k + 1)).foldl (flC C p) (-1) = (u : Int) by rw [HTK.out, HU.out, hk0]; rfl)
          have hbest : ((stayL l f).take k).foldl (flC C p) (-1) = -1 := by rw [hk0]; rfl
          rw [hbest]
          clear HTK hbest hk0
          go_wp2
          go_quiet (fail)
          go_wp2
          go_roundg ((stayL l f).length - (k + 1))
          case measure => omega
          case rel => exact ⟨k + 1, _, by omega, by omega, by go_num, by rw [HST.out], by rw [HWR.out]; exact World.drewN_drewN ..⟩
        · obtain ⟨b, hbe, hbn⟩ := flC_at g C p f hf k (by omega) hk
          obtain ⟨cb, hcbe⟩ : ∃ cb, cb = C.getD (8 * p + b) 0 := ⟨_, rfl⟩
          have hb8 : b < 8 := by omega
          have hbz0 : (0 : Int) ≤ (b : Int) := Int.natCast_nonneg _
          have hbz : (b : Int) < 8 := by omega
          have hcb : wr.cell? ⟨T, 2 + p * 8 + b, none⟩ = some (.int .i64 cb) := by rw [hcbe]; exact BTr.out.cC p b hp8 hb8 HF.out.inC.1
          have HST := Aside0.mk (show ((stayL l f).take (k + 1)).foldl (flC C p) (-1) = if cu > cb then (u : Int) else (b : Int) by rw [HTK.out, HU.out, hbe, HCU.out, hcbe]; unfold flC; rw [if_neg (by omega)]; rfl)
          have hbn0 : decide ((b : Int) < 0) = false := by rw [decide_eq_false_iff_not]; omega
          rw [hbe]
          clear HTK hbe hcbe hk0
          by_cases hgt : cu > cb
          · have HST2 := Aside0.mk (HST.out.trans (if_pos hgt))
            have hgtb : decide (cu > cb) = true := decide_eq_true hgt
            clear HST hgt
            go_wp2
            go_quiet (fail)
            go_wp2
            go_roundg ((stayL l f).length - (k + 1))
            case measure => omega
            case rel => exact ⟨k + 1, _, by omega, by omega, by go_num, by rw [HST2.out], by rw [HWR.out]; exact World.drewN_drewN ..⟩
          · have HST2 := Aside0.mk (HST.out.trans (if_neg hgt))
            have hgtb : decide (cu > cb) = false := decide_eq_false hgt
            clear HST hgt
            go_wp2
            go_quiet (fail)
            go_wp2
            go_roundg ((stayL l f).length - (k + 1))
            case measure => omega
            case rel => exact ⟨k + 1, _, by omega, by omega, by go_num, by rw [HST2.out], by rw [HWR.out]; exact World.drewN_drewN ..⟩
      · obtain rfl : k = (stayL l f).length := by omega
        rw [List.take_length]
        go_wp2
        go_ret
        exact ⟨by rw [HV.out]; rfl, HBr.out⟩
end Go.Proofs.Ytilanbgciofkjaa.PA

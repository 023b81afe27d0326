/- One round of the program's table. -/
import Derived.Test.YtilanbgciofkjaaTeq
import Derived.Test.YtilanbgciofkjaaEtab
namespace Go.Proofs.Ytilanbgciofkjaa.PA
open Go.RowKit Go.Proofs.YtilanbgciofkjaaW.PrintWords Go.Proofs.YtilanbgciofkjaaW.PrintLast Go.Proofs.YtilanbgciofkjaaW.PrintMore Go.Proofs.Ytilanbgciofkjaa.Pure
attribute [local go_sem] max2_int min2_int max_two min_two max_three min_three max_four min_four
set_option linter.unusedVariables false
set_option linter.unusedSimpArgs false
def zer64 : Array Value := (List.replicate 64 (vI 0)).toArray
theorem infA : (Try.prog.info? 65).map (fun i => (i.zero, i.size)) = some (some (.agg zer64), 64) := by kernel_rfl
theorem sizA : (Try.prog.info? 65).map (·.size) = some 64 := (zero_of_info infA).2
theorem run_allocA {a : Act} {o : Oper} (ho : o.op = .alloc 65) (W : World) : (execOp a.eval o).run Try.prog W = .ok (.value (.pointer (some ⟨W.heap.size, 0, none⟩))) (W.alloc (.cells zer64 65 (0, 0))) := by
  have hz := (zero_of_info infA).1
  unfold execOp
  rw [ho]
  simp [Instr.alloc, Sem.run_bind, hz, newVar, newRow, Value.cells]
theorem run_storeA {a : Act} {o : Oper} {W : World} {g : Nat} {old : Array Value} {p x : Operand} {C : List Int} (ho : o.op = .store 65 p x) (hp : a.eval p = .pointer (some ⟨g, 0, none⟩)) (hx : a.eval x = .agg (C.map vI).toArray) (hC : C.length = 64) (hg : W.heap[g]? = some (.cells old 65 (0, 0))) (hold : old.size = 64) :
    (execOp a.eval o).run Try.prog W = .ok .skip (W.setRow g (C.map vI).toArray) := by
  have h := run_storeVar_row (P := Try.prog) W g 65 65 old (C.map vI).toArray hg (by rw [List.size_toArray, List.length_map, hC]; exact sizA) (by simp [hC, hold]) (Array.all_eq_true_iff_forall_mem.2 (fun v hv => by
    have hv' : v ∈ C.map vI := by simpa using hv
    obtain ⟨c, _, rfl⟩ := List.mem_map.1 hv'
    rfl))
  unfold execOp
  simp only [ho, hp, hx, Instr.storeAt, Instr.sureAddr, Sem.run_bind, Sem.run_pure, Result.andThen_ok, h]
theorem zer64_size : zer64.size = 64 := rfl
theorem grown_setRow (w : World) (g : Nat) (cs : Array Value) : w.grownBy (w.setRow g cs) (some g) :=
  ⟨rfl, rfl, rfl, by rw [setRow_size]; exact Nat.le_refl _, fun i hi hne => setRow_other w g i cs (fun e => hne (by rw [e]))⟩
theorem load_tab {a : Act} {o : Oper} {W : World} {x : Operand} (ho : o.op = .load 65 x) (g off : Nat) (hx : a.eval x = .pointer (some ⟨g, off, none⟩)) (cs : List Value) (hc : W.rangeAt g off cs) (hl : cs.length = 64) : (execOp a.eval o).run Try.prog W = .ok (.value (.agg cs.toArray)) W := by
  unfold execOp
  simp only [ho, hx, run_loadAt_mid W g off 65 cs _ hc Try.underlying65 rfl (by rw [hl]; exact sizA), Sem.run_bind, Result.andThen_ok, Sem.run_pure]
def OldB (w : World) (g : Nat) (C : List Int) : Prop := w.heap[g]? = some (.cells (C.map vI).toArray 65 (0, 0))
theorem OldB.at_ {w : World} {g : Nat} {C : List Int} (h : OldB w g C) (p f : Nat) (hp : p < 8) (hf : f < 8) (hC : C.length = 64) : w.cell? ⟨g, 0 + p * 8 + f, none⟩ = some (.int .i64 (C.getD (8 * p + f) 0)) := by
  rw [blk_cell h, List.getElem?_toArray, show 0 + p * 8 + f = 8 * p + f from by omega, List.getElem?_map, List.getElem?_eq_getElem (by omega), List.getD_eq_getElem?_getD, List.getElem?_eq_getElem (by omega)]
  rfl
/-- what a round leaves -/
def RoundP (n : Nat) (l : List Int) (T : Nat) (s : Value) (C E : List Int) (w : World) (e : Ending) (w' : World) : Prop :=
  ∃ C' E', e = .returned (.bool (!decide (C' = C))) ∧ Grid n (mostF l C) E (8 * n) E' ∧ Grid n (fewF l E') C (8 * n) C' ∧ TabB w' T n s C' E' ∧ w.grownBy w' (some T)
theorem OldB.range {w : World} {g : Nat} {C : List Int} (h : OldB w g C) : w.rangeAt g 0 (C.map vI) := by
  intro j v hv
  rw [blk_cell h, List.getElem?_toArray, Nat.zero_add]
  exact hv
set_option maxHeartbeats 4000000 in
set_option maxRecDepth 100000 in
theorem round_c {n : Nat} {l : List Int} (g : GOk (n : Int) l) (A : Option Addr) (c : Nat) (hc : l.length ≤ c) (T : Nat) (C E : List Int) (iC : InR C) (iE : InR E) (w : World) (hb : TabB w T n (.slice A l.length c) C E) (hr : RowS w T A l) :
    Calls Try.prog 91 #[.pointer (some ⟨T, 0, none⟩)] w fun e w' => RoundP n l T (.slice A l.length c) C E w e w' := by
  have hln : l.length = n := by have := g.len; omega
  have hn8 : n ≤ 8 := by have := g.len8; omega
  have BK := Aside0.mk hb
  have HR := Aside0.mk hr
  have IC := Aside0.mk iC
  have IE := Aside0.mk iE
  have HLN := Aside0.mk hln
  clear hb hr iC iE hln
  go_enter Try.func91, Try.ntmps91
  go_wp2_with (first
   | ((with_reducible refine gate_dst (N := 17) rfl ?_); refine wpList_load_mid rfl 65 (.tmp 16) rfl T 2 rfl (C.map vI) (.array 8 64) ?hc Try.underlying65 rfl ?hi ?_; (case hc => exact BK.out.range); (case hi => rw [List.length_map, IC.out.1]; exact sizA))
   | ((with_reducible refine gate_dst (N := 3) rfl ?_); refine box_event rfl (N := 3) rfl (cs := zer64) (t := 65) (run_allocA rfl w) ?_; intro g2 hg2 w2 hbox hb2)
   | ((with_reducible refine gate_ (.store 65 (.tmp 3) (.tmp 17)) rfl ?_); refine store_event rfl rfl rfl (w1 := w2.setRow g2 (C.map vI).toArray) (run_storeA rfl rfl rfl IC.out.1 hbox zer64_size) ?_; intro w3 hw3;
      have HG := Aside0.mk ((grown_of_below hb2 (some T)).andThen (by rw [hw3]; exact grown_setRow w2 g2 (C.map vI).toArray) (fun j hj => by left; cases hj; omega) : w.grownBy w3 (some T));
      have OB := Aside0.mk (by rw [hw3]; exact setRow_heap w2 g2 _ _ 65 (0, 0) hbox : OldB w3 g2 C);
      have NE := Aside0.mk (by have := BK.out.lt; omega : g2 ≠ T);
      have BK3 := Aside0.mk (by unfold TabB; rw [hw3, setRow_other _ _ _ _ (by have := NE.out; omega)]; exact BK.out.below hb2 : TabB w3 T n (.slice A l.length c) C E);
      have hc0 : w3.cell? ⟨T, 0, none⟩ = some (.int .i64 n) := BK3.out.c0;
      clear hw3 hbox hb2 hg2 BK))
  go_loopg [23] n (fun gg s23 wr => ∃ (p : Nat) (E1 : List Int), p ≤ n ∧ n - p ≤ gg ∧ s23 = .int .i64 p ∧ Aside0 (Grid n (mostF l C) E (8 * p) E1) ∧ Aside0 (TabB wr T n (.slice A l.length c) C E1) ∧ Aside0 (OldB wr g2 C) ∧ Aside0 (w.grownBy wr (some T)))
  case atStart => exact ⟨0, E, Nat.zero_le _, by omega, rfl, ⟨Grid.start IE.out⟩, BK3, OB, HG⟩
  case round =>
    clear OB HG hc0 BK3
    obtain ⟨p, E1, hpm, hgg, rfl, GR, BKr, OBr, HGr⟩ := hrel
    have hcr : wr.cell? ⟨T, 0, none⟩ = some (.int .i64 n) := BKr.out.c0
    by_cases hlt : p < n
    · have hltz : (p : Int) < (n : Int) := by omega
      go_wp2
      obtain ⟨wo, rfl⟩ : ∃ wo : World, wo = wr := ⟨_, rfl⟩
      go_loopg [31] n (fun gg s31 wr => ∃ (f : Nat) (E1 : List Int), f ≤ n ∧ n - f ≤ gg ∧ s31 = .int .i64 f ∧ Aside0 (Grid n (mostF l C) E (8 * p + f) E1) ∧ Aside0 (TabB wr T n (.slice A l.length c) C E1) ∧ Aside0 (OldB wr g2 C) ∧ Aside0 (w.grownBy wr (some T)))
      case atStart => exact ⟨0, E1, Nat.zero_le _, by omega, rfl, GR, BKr, OBr, HGr⟩
      case round =>
        clear GR BKr OBr HGr hcr
        obtain ⟨f, E1, hfm, hgf, rfl, GR, BKr, OBr, HGr⟩ := hrel
        have hcr : wr.cell? ⟨T, 0, none⟩ = some (.int .i64 n) := BKr.out.c0
        by_cases hflt : f < n
        · have hfltz : (f : Int) < (n : Int) := by omega
          by_cases hpf : p = f
          · have hpfb : ((p : Int) == (f : Int)) = true := by rw [beq_iff_eq]; omega
            have HP := Aside0.mk hpf
            clear hpf
            go_wp2
            go_roundg (n - (f + 1))
            case measure => omega
            case rel => exact ⟨f + 1, E1, by omega, by omega, by go_num, ⟨by have := HP.out; subst this; exact Grid.skip (by omega) GR.out⟩, BKr, OBr, HGr⟩
          · have hpfb : ((p : Int) == (f : Int)) = false := by rw [beq_eq_false_iff_ne]; omega
            have HP := Aside0.mk hpf
            clear hpf
            have hc1 : wr.cell? ⟨T, 1, none⟩ = some (.slice A l.length c) := BKr.out.c1
            go_wp2_with (first
             | ((with_reducible refine gate_callee (f := 94) rfl ?_); refine goesL_ (some 42) rfl rfl Try.func94 (by kernel_rfl) rfl #[.agg #[.int .i64 n, .slice A l.length c], .int .i64 f] rfl (by (try simp only [List.map_toArray, List.map_cons, List.map_nil]); first | done | rfl) ?_; (with_reducible refine (stay_c g f (by have := HLN.out; omega) A c hc _ (HR.out.now HGr.out)).mono ?_); rintro e w4 ⟨rfl, hb⟩; refine ⟨_, rfl, ?_⟩;
                have n0 := Aside0.mk (BKr.out.below hb); have n1 := Aside0.mk (blk_below OBr.out hb : OldB w4 g2 C); have n2 := Aside0.mk (grown_then HGr.out hb); clear BKr OBr HGr hb hcr hc1; have BKr := n0; have OBr := n1; have HGr := n2; clear n0 n1 n2)
             | ((with_reducible refine gate_callee (f := 86) rfl ?_); refine goesL_ (some 43) rfl rfl Try.func86 (by kernel_rfl) rfl #[.int .i64 ((stayN l f : Nat) : Int)] rfl (by (try simp only [List.map_toArray, List.map_cons, List.map_nil]); first | done | rfl) ?_; (with_reducible refine (list_c g f (by have := HLN.out; omega) _).mono ?_); rintro e w5 ⟨A5, c5, rfl, ho, hb⟩; refine ⟨_, rfl, ?_⟩;
                have n0 := Aside0.mk (BKr.out.below hb); have n1 := Aside0.mk (blk_below OBr.out hb : OldB w5 g2 C); have n2 := Aside0.mk (grown_then HGr.out hb); have HO := Aside0.mk ho; clear BKr OBr HGr hb ho; have BKr := n0; have OBr := n1; have HGr := n2; clear n0 n1 n2))
            have hin0 := (mostF_in g IC.out p f (by have := HLN.out; omega) (by have := HLN.out; omega))
            have HIN := Aside0.mk hin0
            clear hin0
            have HLL := Aside0.mk (stayL_len l f)
            go_loopg [6, 45] (stayL l f).length (fun gg s6 s45 wr => ∃ (k : Nat), k ≤ (stayL l f).length ∧ (stayL l f).length - k ≤ gg ∧ s45 = .int .i64 k ∧ s6 = .int .i64 (((stayL l f).take k).foldl (mostS C p) 0) ∧ wr = w5)
            case atStart => exact ⟨0, Nat.zero_le _, by omega, rfl, rfl, rfl⟩
            case round =>
              obtain ⟨k, hk, hgk, rfl, rfl, rfl⟩ := hrel
              by_cases hklt : k < (stayL l f).length
              · have hkz : (k : Int) < ((stayL l f).length : Int) := by omega
                obtain ⟨ad, e1, hcell0⟩ := Kd.at_int (Kd.R_reads' HO.out).2.2 (k : Int) (by omega) hkz
                subst e1
                have hcell : wr.cell? (ad.add k) = some (.int .i64 ((stayL l f).getD k 0)) := hcell0
                clear hcell0
                obtain ⟨u, hu, hul, _⟩ := stayL_mem g f (by have := HLN.out; omega) _ (getD_mem _ k hklt)
                rw [hu] at hcell
                have hu8 : u < 8 := by have := g.len8; omega
                have hp8 : p < 8 := by omega
                have hk8 : k < 8 := by have := HLL.out; omega
                obtain ⟨cv, hcve⟩ : ∃ cv, cv = C.getD (8 * p + u) 0 := ⟨_, rfl⟩
                have hcv : wr.cell? ⟨g2, 0 + p * 8 + u, none⟩ = some (.int .i64 cv) := by rw [hcve]; exact OldB.at_ OBr.out p u hp8 hu8 IC.out.1
                have HST : Aside0 (∀ m, mostS C p m ((stayL l f).getD k 0) = if m < cv then cv else m) := ⟨fun m => by rw [hu, hcve]; rfl⟩
                clear hu hcve
                go_wp2_with (first
                 | ((with_reducible refine gate_dst (N := 52) rfl ?_); refine Kd.event_run rfl (row_run _ _ rfl g2 0 p rfl rfl hp8) ?_)
                 | ((with_reducible refine gate_dst (N := 53) rfl ?_); refine Kd.event_run rfl (col_run _ _ rfl g2 (0 + p * 8) u rfl rfl hu8) ?_)
                 | ((with_reducible refine gate_dst (N := 54) rfl ?_); refine Kd.event_run rfl (load_run _ rfl g2 (0 + p * 8 + u) _ rfl hcv) ?_; clear hcv))
                all_goals
                  go_roundg ((stayL l f).length - (k + 1))
                  case measure => omega
                  case rel => exact ⟨k + 1, by omega, by omega, by go_num, by rw [foldl_take_succ _ _ _ _ 0 hklt, HST.out]; first | rw [if_pos (by assumption)] | rw [if_neg (by omega)], rfl⟩
              · obtain rfl : k = (stayL l f).length := by omega
                rw [List.take_length]
                have hp8 : p < 8 := by omega
                have hf8 : f < 8 := by omega
                have HCE := Aside0.mk (BKr.out.cE p f hp8 hf8 IC.out.1 GR.out.1.1)
                have HFZ := Aside0.mk (BKr.out.frozen (66 + p * 8 + f))
                go_wp2_with (first
                 | ((with_reducible refine gate_dst (N := 63) rfl ?_); refine Kd.event_run rfl (row_run _ _ rfl T 66 p rfl rfl hp8) ?_)
                 | ((with_reducible refine gate_dst (N := 64) rfl ?_); refine Kd.event_run rfl (col_run _ _ rfl T (66 + p * 8) f rfl rfl hf8) ?_)
                 | ((with_reducible refine gate_ (.store 3 (.tmp 64) (.tmp 60)) rfl ?_); refine store_event rfl rfl rfl (w1 := wr.setCell ⟨T, 66 + p * 8 + f, none⟩ (.int .i64 (mostF l C p f))) (put_run _ _ rfl T (66 + p * 8 + f) _ _ rfl rfl HCE.out HFZ.out) ?_; intro w6 hw6;
                     have BK6 := Aside0.mk (by rw [hw6]; exact BKr.out.setE p f hp8 hf8 IC.out.1 _ : TabB w6 T n (.slice A l.length c) C (E1.set (8 * p + f) (mostF l C p f)));
                     have OB6 := Aside0.mk (by rw [hw6]; exact blk_far OBr.out NE.out _ : OldB w6 g2 C);
                     have HG6 := Aside0.mk (by rw [hw6]; exact grown_set_then HGr.out _ : w.grownBy w6 (some T)); clear hw6 BKr OBr HGr))
                go_roundg (n - (f + 1))
                case measure => omega
                case rel => exact ⟨f + 1, _, by omega, by omega, by go_num, ⟨Grid.put hp8 hflt hn8 HP.out HIN.out GR.out⟩, BK6, OB6, HG6⟩
        · obtain rfl : f = n := by omega
          go_wp2
          go_roundg (f - (p + 1))
          case measure => omega
          case rel => exact ⟨p + 1, E1, by omega, by omega, by go_num, ⟨Grid.row hn8 GR.out⟩, BKr, OBr, HGr⟩
    · obtain rfl : p = n := by omega
      go_wp2
      obtain ⟨wo, rfl⟩ : ∃ wo : World, wo = wr := ⟨_, rfl⟩
      have IE1 := Aside0.mk GR.out.1
      have GE := Aside0.mk GR.out
      clear GR
      go_loopg [72] p (fun gg s72 wr => ∃ (q : Nat) (C1 : List Int), q ≤ p ∧ p - q ≤ gg ∧ s72 = .int .i64 q ∧ Aside0 (Grid p (fewF l E1) C (8 * q) C1) ∧ Aside0 (TabB wr T p (.slice A l.length c) C1 E1) ∧ Aside0 (OldB wr g2 C) ∧ Aside0 (w.grownBy wr (some T)))
      case atStart => exact ⟨0, C, Nat.zero_le _, by omega, rfl, ⟨Grid.start IC.out⟩, BKr, OBr, HGr⟩
      case round =>
        clear BKr OBr HGr hcr
        obtain ⟨q, C1, hqm, hgq, rfl, GR, BKr, OBr, HGr⟩ := hrel
        have hcr : wr.cell? ⟨T, 0, none⟩ = some (.int .i64 p) := BKr.out.c0
        by_cases hlt2 : q < p
        · have hltz2 : (q : Int) < (p : Int) := by omega
          go_wp2
          obtain ⟨wo2, rfl⟩ : ∃ wo2 : World, wo2 = wr := ⟨_, rfl⟩
          go_loopg [80] p (fun gg s80 wr => ∃ (f : Nat) (C1 : List Int), f ≤ p ∧ p - f ≤ gg ∧ s80 = .int .i64 f ∧ Aside0 (Grid p (fewF l E1) C (8 * q + f) C1) ∧ Aside0 (TabB wr T p (.slice A l.length c) C1 E1) ∧ Aside0 (OldB wr g2 C) ∧ Aside0 (w.grownBy wr (some T)))
          case atStart => exact ⟨0, C1, Nat.zero_le _, by omega, rfl, GR, BKr, OBr, HGr⟩
          case round =>
            clear GR BKr OBr HGr hcr
            obtain ⟨f, C1, hfm, hgf, rfl, GR, BKr, OBr, HGr⟩ := hrel
            have hcr : wr.cell? ⟨T, 0, none⟩ = some (.int .i64 p) := BKr.out.c0
            by_cases hflt : f < p
            · have hfltz : (f : Int) < (p : Int) := by omega
              by_cases hpf : q = f
              · have hpfb : ((q : Int) == (f : Int)) = true := by rw [beq_iff_eq]; omega
                have HP := Aside0.mk hpf
                clear hpf
                go_wp2
                go_roundg (p - (f + 1))
                case measure => omega
                case rel => exact ⟨f + 1, C1, by omega, by omega, by go_num, ⟨by have := HP.out; subst this; exact Grid.skip (by omega) GR.out⟩, BKr, OBr, HGr⟩
              · have hpfb : ((q : Int) == (f : Int)) = false := by rw [beq_eq_false_iff_ne]; omega
                have HP := Aside0.mk hpf
                clear hpf
                have hc1 : wr.cell? ⟨T, 1, none⟩ = some (.slice A l.length c) := BKr.out.c1
                go_wp2_with (first
                 | ((with_reducible refine gate_callee (f := 94) rfl ?_); refine goesL_ (some 91) rfl rfl Try.func94 (by kernel_rfl) rfl #[.agg #[.int .i64 p, .slice A l.length c], .int .i64 q] rfl (by (try simp only [List.map_toArray, List.map_cons, List.map_nil]); first | done | rfl) ?_; (with_reducible refine (stay_c g q (by have := HLN.out; omega) A c hc _ (HR.out.now HGr.out)).mono ?_); rintro e w4 ⟨rfl, hb⟩; refine ⟨_, rfl, ?_⟩;
                    have n0 := Aside0.mk (BKr.out.below hb); have n1 := Aside0.mk (blk_below OBr.out hb : OldB w4 g2 C); have n2 := Aside0.mk (grown_then HGr.out hb); clear BKr OBr HGr hb hcr hc1; have BKr := n0; have OBr := n1; have HGr := n2; clear n0 n1 n2)
                 | ((with_reducible refine gate_callee (f := 86) rfl ?_); refine goesL_ (some 92) rfl rfl Try.func86 (by kernel_rfl) rfl #[.int .i64 ((stayN l q : Nat) : Int)] rfl (by (try simp only [List.map_toArray, List.map_cons, List.map_nil]); first | done | rfl) ?_; (with_reducible refine (list_c g q (by have := HLN.out; omega) _).mono ?_); rintro e w5 ⟨A5, c5, rfl, ho, hb⟩; refine ⟨_, rfl, ?_⟩;
                    have n0 := Aside0.mk (BKr.out.below hb); have n1 := Aside0.mk (blk_below OBr.out hb : OldB w5 g2 C); have n2 := Aside0.mk (grown_then HGr.out hb); have HO := Aside0.mk ho; clear BKr OBr HGr hb ho; have BKr := n0; have OBr := n1; have HGr := n2; clear n0 n1 n2))
                have hin0 := (fewF_in g IE1.out q f (by have := HLN.out; omega) (by have := HLN.out; omega))
                have HIN := Aside0.mk hin0
                clear hin0
                have HLL := Aside0.mk (stayL_len l q)
                have hf8 : f < 8 := by omega
                have hq8 : q < 8 := by omega
                go_loopg [11, 94] (stayL l q).length (fun gg s11 s94 wr => ∃ (k : Nat), k ≤ (stayL l q).length ∧ (stayL l q).length - k ≤ gg ∧ s94 = .int .i64 k ∧ s11 = .int .i64 (((stayL l q).take k).foldl (fewS E1 f) 1000) ∧ wr = w5)
                case atStart => exact ⟨0, Nat.zero_le _, by omega, rfl, rfl, rfl⟩
                case round =>
                  obtain ⟨k, hk, hgk, rfl, rfl, rfl⟩ := hrel
                  by_cases hklt : k < (stayL l q).length
                  · have hkz : (k : Int) < ((stayL l q).length : Int) := by omega
                    obtain ⟨ad, e1, hcell0⟩ := Kd.at_int (Kd.R_reads' HO.out).2.2 (k : Int) (by omega) hkz
                    subst e1
                    have hcell : wr.cell? (ad.add k) = some (.int .i64 ((stayL l q).getD k 0)) := hcell0
                    clear hcell0
                    obtain ⟨u, hu, hul, _⟩ := stayL_mem g q (by have := HLN.out; omega) _ (getD_mem _ k hklt)
                    rw [hu] at hcell
                    have hu8 : u < 8 := by have := g.len8; omega
                    have hk8 : k < 8 := by have := HLL.out; omega
                    obtain ⟨cv, hcve⟩ : ∃ cv, cv = E1.getD (8 * u + f) 0 := ⟨_, rfl⟩
                    have hcv : wr.cell? ⟨T, 66 + u * 8 + f, none⟩ = some (.int .i64 cv) := by rw [hcve]; exact BKr.out.cE u f hu8 hf8 GR.out.1.1 IE1.out.1
                    have hcv0 : 0 ≤ cv ∧ cv ≤ 1000 := by rw [hcve]; exact IE1.out.2 _ (by omega)
                    obtain ⟨hcva, hcvb⟩ := hcv0
                    have HST : Aside0 (∀ m, fewS E1 f m ((stayL l q).getD k 0) = if 1 + cv < m then 1 + cv else m) := ⟨fun m => by rw [hu, hcve]; rfl⟩
                    clear hu hcve
                    go_wp2_with (first
                     | ((with_reducible refine gate_dst (N := 104) rfl ?_); refine Kd.event_run rfl (row_run _ _ rfl T 66 u rfl rfl hu8) ?_)
                     | ((with_reducible refine gate_dst (N := 105) rfl ?_); refine Kd.event_run rfl (col_run _ _ rfl T (66 + u * 8) f rfl rfl hf8) ?_)
                     | ((with_reducible refine gate_dst (N := 106) rfl ?_); refine Kd.event_run rfl (load_run _ rfl T (66 + u * 8 + f) _ rfl hcv) ?_; clear hcv))
                    all_goals
                      go_roundg ((stayL l q).length - (k + 1))
                      case measure => omega
                      case rel => exact ⟨k + 1, by omega, by omega, by go_num, by rw [foldl_take_succ _ _ _ _ 0 hklt, HST.out]; first | rw [if_pos (by omega)] | rw [if_neg (by omega)], rfl⟩
                  · obtain rfl : k = (stayL l q).length := by omega
                    rw [List.take_length]
                    have HCE := Aside0.mk (BKr.out.cC q f hq8 hf8 GR.out.1.1)
                    have HFZ := Aside0.mk (BKr.out.frozen (2 + q * 8 + f))
                    go_wp2_with (first
                     | ((with_reducible refine gate_dst (N := 116) rfl ?_); refine Kd.event_run rfl (row_run _ _ rfl T 2 q rfl rfl hq8) ?_)
                     | ((with_reducible refine gate_dst (N := 117) rfl ?_); refine Kd.event_run rfl (col_run _ _ rfl T (2 + q * 8) f rfl rfl hf8) ?_)
                     | ((with_reducible refine gate_ (.store 3 (.tmp 117) (.tmp 113)) rfl ?_); refine store_event rfl rfl rfl (w1 := wr.setCell ⟨T, 2 + q * 8 + f, none⟩ (.int .i64 (fewF l E1 q f))) (put_run _ _ rfl T (2 + q * 8 + f) _ _ rfl rfl HCE.out HFZ.out) ?_; intro w6 hw6;
                         have BK6 := Aside0.mk (by rw [hw6]; exact BKr.out.setC q f hq8 hf8 GR.out.1.1 _ : TabB w6 T p (.slice A l.length c) (C1.set (8 * q + f) (fewF l E1 q f)) E1);
                         have OB6 := Aside0.mk (by rw [hw6]; exact blk_far OBr.out NE.out _ : OldB w6 g2 C);
                         have HG6 := Aside0.mk (by rw [hw6]; exact grown_set_then HGr.out _ : w.grownBy w6 (some T)); clear hw6 BKr OBr HGr))
                    go_roundg (p - (f + 1))
                    case measure => omega
                    case rel => exact ⟨f + 1, _, by omega, by omega, by go_num, ⟨Grid.put hq8 hflt hn8 HP.out HIN.out GR.out⟩, BK6, OB6, HG6⟩
            · obtain rfl : f = p := by omega
              go_wp2
              go_roundg (f - (q + 1))
              case measure => omega
              case rel => exact ⟨q + 1, C1, by omega, by omega, by go_num, ⟨Grid.row hn8 GR.out⟩, BKr, OBr, HGr⟩
        · obtain rfl : q = p := by omega
          go_wp2
          have hS : TabB wr.drew T q (.slice A l.length c) C1 E1 ∧ OldB wr.drew g2 C := ⟨BKr.out, OBr.out⟩
          refine start_ (n := 7) (S := fun w' => TabB w' T q (.slice A l.length c) C1 E1 ∧ OldB w' g2 C) (ds := []) #[false, false, false, false, false, false, false] (by kernel_rfl) rfl rfl hS (fun hHeld => ?_)
          refine pure_ (i := 0) (N := some 120) (v := ?_) (a' := ?_) #[true, false, false, false, false, false, false] rfl rfl (by kernel_rfl) (fun _ _ _ h => h) (Or.inl ⟨by rfl, ?_⟩) ?_ ?_
          rotate_left
          · intro w'
            go_simp; with_reducible rfl
          rotate_left
          · show Act.put _ _ _ = _
            simp only [Act.put, List.setIfInBounds_toArray, List.set_cons_zero, List.set_cons_succ, i64_w, i32_w]
            rfl
          refine pure_ (i := 1) (N := some 121) (v := ?_) (a' := ?_) #[true, true, false, false, false, false, false] rfl rfl (by kernel_rfl) (fun _ _ _ h => h) (Or.inl ⟨by rfl, ?_⟩) ?_ ?_
          rotate_left
          · intro w'
            go_simp; with_reducible rfl
          rotate_left
          · show Act.put _ _ _ = _
            simp only [Act.put, List.setIfInBounds_toArray, List.set_cons_zero, List.set_cons_succ, i64_w, i32_w]
            rfl
          refine pure_ (i := 2) (N := some 122) (v := ?_) (a' := ?_) #[true, true, true, false, false, false, false] rfl rfl (by kernel_rfl) (fun _ _ _ h => h) (Or.inl ⟨by rfl, ?_⟩) ?_ ?_
          rotate_left
          · intro w'
            go_simp; with_reducible rfl
          rotate_left
          · show Act.put _ _ _ = _
            simp only [Act.put, List.setIfInBounds_toArray, List.set_cons_zero, List.set_cons_succ, i64_w, i32_w]
            rfl
          refine take_ (i := 3) (N := some 123) (v := ?_) (a' := ?_) #[true, true, true, true, false, false, false] rfl rfl (by kernel_rfl) (fun _ _ _ h => h) (Or.inl ⟨by rfl, ?_⟩) hHeld ?_ ?_
          rotate_left
          · rintro w' ⟨h1, h2⟩; refine (load_tab (by rfl) T 2 (by rfl) (C1.map vI) h1.range (by rw [List.length_map, GR.out.1.1])).trans ?_; with_reducible rfl
          rotate_left
          · show Act.put _ _ _ = _
            simp only [Act.put, List.setIfInBounds_toArray, List.set_cons_zero, List.set_cons_succ, i64_w, i32_w]
            rfl
          refine take_ (i := 4) (N := some 124) (v := ?_) (a' := ?_) #[true, true, true, true, true, false, false] rfl rfl (by kernel_rfl) (fun _ _ _ h => h) (Or.inl ⟨by rfl, ?_⟩) hHeld ?_ ?_
          rotate_left
          · rintro w' ⟨h1, h2⟩; refine (load_tab (by rfl) g2 0 (by rfl) (C.map vI) h2.range (by rw [List.length_map, IC.out.1])).trans ?_; with_reducible rfl
          rotate_left
          · show Act.put _ _ _ = _
            simp only [Act.put, List.setIfInBounds_toArray, List.set_cons_zero, List.set_cons_succ, i64_w, i32_w]
            rfl
          refine pure_ (i := 5) (N := some 125) (v := ?_) (a' := ?_) #[true, true, true, true, true, true, false] rfl rfl (by kernel_rfl) (fun _ _ _ h => h) (Or.inl ⟨by rfl, ?_⟩) ?_ ?_
          rotate_left
          · intro w'
            refine (neq_run _ _ _ (by rfl) C1 C (by rfl) (by rfl) GR.out.1.1 IC.out.1).trans ?_; with_reducible rfl
          rotate_left
          · show Act.put _ _ _ = _
            simp only [Act.put, List.setIfInBounds_toArray, List.set_cons_zero, List.set_cons_succ, i64_w, i32_w]
            rfl
          refine pure_ (i := 6) (N := some 2) (v := ?_) (a' := ?_) #[true, true, true, true, true, true, true] rfl rfl (by kernel_rfl) (fun _ _ _ h => h) (Or.inl ⟨by rfl, ?_⟩) ?_ ?_
          rotate_left
          · intro w'
            go_simp; with_reducible rfl
          rotate_left
          · show Act.put _ _ _ = _
            simp only [Act.put, List.setIfInBounds_toArray, List.set_cons_zero, List.set_cons_succ, i64_w, i32_w]
            rfl
          refine done_ (by kernel_rfl) ?_
          go_wp2
          go_ret
          exact ⟨C1, E1, rfl, GE.out, GR.out, BKr.out, grown_draw HGr.out 1⟩
end Go.Proofs.Ytilanbgciofkjaa.PA

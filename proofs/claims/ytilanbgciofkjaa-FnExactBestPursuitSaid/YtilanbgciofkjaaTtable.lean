/- The program's table of a valid graph. -/
import Derived.Test.YtilanbgciofkjaaTround
import Derived.Test.YtilanbgciofkjaaEwin
namespace Go.Proofs.Ytilanbgciofkjaa.PA
open Go.RowKit Go.Proofs.YtilanbgciofkjaaW.PrintWords Go.Proofs.YtilanbgciofkjaaW.PrintLast Go.Proofs.YtilanbgciofkjaaW.PrintMore Go.Proofs.Ytilanbgciofkjaa.Pure
attribute [local go_sem] max2_int min2_int max_two min_two max_three min_three max_four min_four
set_option linter.unusedVariables false
set_option linter.unusedSimpArgs false
def zeros : List Int := List.replicate 64 0
theorem zeros_at (i : Nat) : zeros.getD i 0 = 0 := by
  unfold zeros
  rw [List.getD_eq_getElem?_getD, List.getElem?_replicate]
  split <;> rfl
theorem zeros_in : InR zeros := ⟨by simp only [zeros, List.length_replicate], fun i hi => by rw [zeros_at]; decide⟩
theorem zeros_diag : Diag zeros := fun p hp => zeros_at _
theorem built67 (n : Int) (s : Value) : Try.prog.built 67 [(0, .agg #[.int .i64 n, s])] = some (tabA n s zeros zeros) := by kernel_rfl
theorem build_run {a : Act} {o : Oper} {W : World} (x : Operand) (ho : o.op = .build 67 #[(0, x)]) (n : Int) (s : Value) (hx : a.eval x = .agg #[.int .i64 n, s]) : (execOp a.eval o).run Try.prog W = .ok (.value (.agg (tabA n s zeros zeros))) W := by
  have h := run_build (P := Try.prog) W 67 #[(0, .agg #[.int .i64 n, s])] (tabA n s zeros zeros) (built67 n s)
  unfold execOp
  simp only [ho, List.map_toArray, List.map_cons, List.map_nil, hx, Sem.run_bind, h, Result.andThen_ok, Sem.run_pure]
theorem boxT_run {a : Act} {o : Oper} {W : World} (x : Operand) (ho : o.op = .box 67 x) (cs : Array Value) (hx : a.eval x = .agg cs) : (execOp a.eval o).run Try.prog W = .ok (.value (.pointer (some ⟨W.heap.size, 0, none⟩))) (W.alloc (.cells cs 67 (0, 0))) := by
  unfold execOp
  simp [ho, hx, Instr.box, newVar, newRow, Value.cells]
theorem put_step {P : Program} {ops : Array Oper} {o : Oper} {a : Act} {Q : Exit → Act → World → Prop} {Kc : Act → World → Prop} {W w1 : World} (hw : Region.wanted o (yielded ops a.tmps) = true) (hN : o.dst = none) (hrun : (execOp a.eval o).run P W = .ok .skip w1) (h : Kc a w1) :
    if Region.wanted o (yielded ops a.tmps) = true then Oper.wp P o a W Kc Q else Kc (a.put none undef) W := by
  rw [if_pos hw]
  unfold Oper.wp
  rw [hrun]
  show Kc (a.put o.dst undef) w1
  rw [hN]
  exact h
theorem C_blk {w : World} {A : Option Addr} {n : Nat} {xs : List Int} (h : Kd.C (Kd.int .i64) w A n xs) (ad : Addr) (e : A = some ad) (hn : 0 < n) : ad.block < w.heap.size := by
  obtain ⟨ad', e', hc⟩ := Kd.at_int h 0 (by decide) (by omega)
  rw [e] at e'
  cases e'
  have := World.block_lt_of_cell? w _ hc
  rwa [add_block] at this
/-- what the call leaves: a table in memory of its own -/
def TableP (n : Nat) (l : List Int) (s : Value) (w : World) (e : Ending) (w' : World) : Prop :=
  ∃ T C E, e = .returned (.pointer (some ⟨T, 0, none⟩)) ∧ w.heap.size ≤ T ∧ TabB w' T n s C E ∧ Below w.heap.size w w' ∧ TabFin n l C E
set_option maxHeartbeats 4000000 in
set_option maxRecDepth 100000 in
theorem tableOf_c {n : Nat} {l : List Int} (g : GOk (n : Int) l) (A : Option Addr) (c : Nat) (hc : l.length ≤ c) (w : World) (hr : Kd.C (Kd.int .i64) w A l.length l) :
    Calls Try.prog 64 #[.agg #[.int .i64 n, .slice A l.length c]] w fun e w' => TableP n l (.slice A l.length c) w e w' := by
  have HLN := Aside0.mk (nlen g)
  have hn8 : n ≤ 8 := by have := g.len8; have := HLN.out; omega
  have HR := Aside0.mk hr
  clear hr
  go_enter Try.func64, Try.ntmps64
  go_wp2_with (first
   | ((with_reducible refine gate_dst (N := 1) rfl ?_); refine box_event rfl (N := 1) rfl (cs := #[.int .i64 n, .slice A l.length c]) (t := 27) (by first | (go_simp; done) | (go_simp; rfl)) ?_; intro g1 hg1 w1 hbox hb1;
       have BG := Aside0.mk hbox; have HG1 := Aside0.mk hg1; have HB := Aside0.mk hb1; have hz0 : w1.cell? ⟨g1, 0, none⟩ = some (.int .i64 n) := (blk_cell BG.out 0).trans rfl; have hz1 : w1.cell? ⟨g1, 1, none⟩ = some (.slice A l.length c) := (blk_cell BG.out 1).trans rfl; clear hbox hg1 hb1)
   | ((with_reducible refine gate_dst (N := 7) rfl ?_); refine Kd.event_run rfl (build_run _ rfl n (.slice A l.length c) rfl) ?_)
   | ((with_reducible refine gate_dst (N := 8) rfl ?_); refine box_event rfl (N := 8) rfl (cs := tabA n (.slice A l.length c) zeros zeros) (t := 67) (boxT_run _ rfl _ rfl) ?_; intro T hT w2 hbox hb2;
       have BK := Aside0.mk (show TabB w2 T n (.slice A l.length c) zeros zeros from hbox);
       have HT := Aside0.mk (by have := HB.out.size; omega : w.heap.size ≤ T);
       have NE := Aside0.mk (by have := blk_lt BG.out; omega : g1 ≠ T);
       have HGr := Aside0.mk (⟨hb2.os.trans HB.out.os, hb2.tape.trans HB.out.tape, hb2.output.trans HB.out.output, Nat.le_trans HB.out.size hb2.size, fun i hi => (hb2.block i (Nat.lt_of_lt_of_le hi HB.out.size)).trans (HB.out.block i hi)⟩ : Below w.heap.size w w2);
       have BG2 := Aside0.mk (blk_below BG.out hb2); clear BG; have BG := BG2; clear BG2;
       have hz0 : w2.cell? ⟨g1, 0, none⟩ = some (.int .i64 n) := (blk_cell BG.out 0).trans rfl; clear hbox hT hb2 HB HG1))
  go_loopg [11] n (fun gg s11 wr => ∃ (p : Nat) (X : List Int), p ≤ n ∧ n - p ≤ gg ∧ s11 = .int .i64 p ∧ Aside0 (Grid n (fun _ _ => 1000) zeros (8 * p) X) ∧ Aside0 (TabB wr T n (.slice A l.length c) X X) ∧ Aside0 (wr.heap[g1]? = some (.cells #[.int .i64 n, .slice A l.length c] 27 (0, 0))) ∧ Aside0 (Below w.heap.size w wr))
  case atStart => exact ⟨0, zeros, Nat.zero_le _, by omega, rfl, ⟨Grid.start zeros_in⟩, BK, BG, HGr⟩
  case round =>
    clear BK BG HGr hz0 hz1
    obtain ⟨p, X, hpm, hgg, rfl, GR, BK, BG, HB⟩ := hrel
    have hz0 : wr.cell? ⟨g1, 0, none⟩ = some (.int .i64 n) := (blk_cell BG.out 0).trans rfl
    by_cases hlt : p < n
    · have hltz : (p : Int) < (n : Int) := by omega
      go_wp2
      obtain ⟨wo, rfl⟩ : ∃ wo : World, wo = wr := ⟨_, rfl⟩
      go_loopg [16] n (fun gg s16 wr => ∃ (f : Nat) (X : List Int), f ≤ n ∧ n - f ≤ gg ∧ s16 = .int .i64 f ∧ Aside0 (Grid n (fun _ _ => 1000) zeros (8 * p + f) X) ∧ Aside0 (TabB wr T n (.slice A l.length c) X X) ∧ Aside0 (wr.heap[g1]? = some (.cells #[.int .i64 n, .slice A l.length c] 27 (0, 0))) ∧ Aside0 (Below w.heap.size w wr))
      case atStart => exact ⟨0, X, Nat.zero_le _, by omega, rfl, GR, BK, BG, HB⟩
      case round =>
        clear GR BK BG HB hz0
        obtain ⟨f, X, hfm, hgf, rfl, GR, BK, BG, HB⟩ := hrel
        have hz0 : wr.cell? ⟨g1, 0, none⟩ = some (.int .i64 n) := (blk_cell BG.out 0).trans rfl
        by_cases hflt : f < n
        · have hfltz : (f : Int) < (n : Int) := by omega
          by_cases hpf : p = f
          · have hpfb : ((p : Int) != (f : Int)) = false := by rw [bne_eq_false_iff_eq]; omega
            have HP := Aside0.mk hpf
            clear hpf
            go_wp2
            go_roundg (n - (f + 1))
            case measure => omega
            case rel => exact ⟨f + 1, X, by omega, by omega, by go_num, ⟨by have := HP.out; subst this; exact Grid.skip (by omega) GR.out⟩, BK, BG, HB⟩
          · have hpfb : ((p : Int) != (f : Int)) = true := by rw [bne_iff_ne]; omega
            have HP := Aside0.mk hpf
            clear hpf
            have hp8 : p < 8 := by omega
            have hf8 : f < 8 := by omega
            go_wp2
            refine start_ (n := 16) (S := fun _ => True) (ds := []) #[false, false, false, false, false, false, false, false, false, false, false, false, false, false, false, false] (by kernel_rfl) rfl rfl trivial (fun hHeld => ?_)
            refine pure_ (i := 0) (N := some 22) (v := ?_) (a' := ?_) #[true, false, false, false, false, false, false, false, false, false, false, false, false, false, false, false] rfl rfl (by kernel_rfl) (fun _ _ _ h => h) (Or.inl ⟨by rfl, ?_⟩) ?_ ?_
            rotate_left
            · intro w'
              go_simp; with_reducible rfl
            rotate_left
            · show Act.put _ _ _ = _
              simp only [Act.put, List.setIfInBounds_toArray, List.set_cons_zero, List.set_cons_succ, i64_w, i32_w]
              rfl
            refine pure_ (i := 1) (N := some 23) (v := ?_) (a' := ?_) #[true, true, false, false, false, false, false, false, false, false, false, false, false, false, false, false] rfl rfl (by kernel_rfl) (fun _ _ _ h => h) (Or.inl ⟨by rfl, ?_⟩) ?_ ?_
            rotate_left
            · intro w'
              go_simp; with_reducible rfl
            rotate_left
            · show Act.put _ _ _ = _
              simp only [Act.put, List.setIfInBounds_toArray, List.set_cons_zero, List.set_cons_succ, i64_w, i32_w]
              rfl
            refine pure_ (i := 2) (N := some 24) (v := ?_) (a' := ?_) #[true, true, true, false, false, false, false, false, false, false, false, false, false, false, false, false] rfl rfl (by kernel_rfl) (fun _ _ _ h => h) (Or.inl ⟨by rfl, ?_⟩) ?_ ?_
            rotate_left
            · intro w'
              go_simp; with_reducible rfl
            rotate_left
            · show Act.put _ _ _ = _
              simp only [Act.put, List.setIfInBounds_toArray, List.set_cons_zero, List.set_cons_succ, i64_w, i32_w]
              rfl
            refine pure_ (i := 3) (N := some 25) (v := ?_) (a' := ?_) #[true, true, true, true, false, false, false, false, false, false, false, false, false, false, false, false] rfl rfl (by kernel_rfl) (fun _ _ _ h => h) (Or.inl ⟨by rfl, ?_⟩) ?_ ?_
            rotate_left
            · intro w'
              go_simp; with_reducible rfl
            rotate_left
            · show Act.put _ _ _ = _
              simp only [Act.put, List.setIfInBounds_toArray, List.set_cons_zero, List.set_cons_succ, i64_w, i32_w]
              rfl
            refine pure_ (i := 4) (N := some 26) (v := ?_) (a' := ?_) #[true, true, true, true, true, false, false, false, false, false, false, false, false, false, false, false] rfl rfl (by kernel_rfl) (fun _ _ _ h => h) (Or.inl ⟨by rfl, ?_⟩) ?_ ?_
            rotate_left
            · intro w'
              go_simp; with_reducible rfl
            rotate_left
            · show Act.put _ _ _ = _
              simp only [Act.put, List.setIfInBounds_toArray, List.set_cons_zero, List.set_cons_succ, i64_w, i32_w]
              rfl
            refine pure_ (i := 5) (N := some 27) (v := ?_) (a' := ?_) #[true, true, true, true, true, true, false, false, false, false, false, false, false, false, false, false] rfl rfl (by kernel_rfl) (fun _ _ _ h => h) (Or.inl ⟨by rfl, ?_⟩) ?_ ?_
            rotate_left
            · intro w'
              go_simp; with_reducible rfl
            rotate_left
            · show Act.put _ _ _ = _
              simp only [Act.put, List.setIfInBounds_toArray, List.set_cons_zero, List.set_cons_succ, i64_w, i32_w]
              rfl
            refine pure_ (i := 6) (N := some 28) (v := ?_) (a' := ?_) #[true, true, true, true, true, true, true, false, false, false, false, false, false, false, false, false] rfl rfl (by kernel_rfl) (fun _ _ _ h => h) (Or.inl ⟨by rfl, ?_⟩) ?_ ?_
            rotate_left
            · intro w'
              go_simp; with_reducible rfl
            rotate_left
            · show Act.put _ _ _ = _
              simp only [Act.put, List.setIfInBounds_toArray, List.set_cons_zero, List.set_cons_succ, i64_w, i32_w]
              rfl
            refine pure_ (i := 7) (N := some 29) (v := ?_) (a' := ?_) #[true, true, true, true, true, true, true, true, false, false, false, false, false, false, false, false] rfl rfl (by kernel_rfl) (fun _ _ _ h => h) (Or.inl ⟨by rfl, ?_⟩) ?_ ?_
            rotate_left
            · intro w'
              go_simp; with_reducible rfl
            rotate_left
            · show Act.put _ _ _ = _
              simp only [Act.put, List.setIfInBounds_toArray, List.set_cons_zero, List.set_cons_succ, i64_w, i32_w]
              rfl
            refine pure_ (i := 8) (N := some 30) (v := ?_) (a' := ?_) #[true, true, true, true, true, true, true, true, true, false, false, false, false, false, false, false] rfl rfl (by kernel_rfl) (fun _ _ _ h => h) (Or.inl ⟨by rfl, ?_⟩) ?_ ?_
            rotate_left
            · intro w'
              refine (row_run _ _ (by rfl) T 2 p (by rfl) (by rfl) hp8).trans ?_; with_reducible rfl
            rotate_left
            · show Act.put _ _ _ = _
              simp only [Act.put, List.setIfInBounds_toArray, List.set_cons_zero, List.set_cons_succ, i64_w, i32_w]
              rfl
            refine pure_ (i := 9) (N := some 31) (v := ?_) (a' := ?_) #[true, true, true, true, true, true, true, true, true, true, false, false, false, false, false, false] rfl rfl (by kernel_rfl) (fun _ _ _ h => h) (Or.inl ⟨by rfl, ?_⟩) ?_ ?_
            rotate_left
            · intro w'
              refine (col_run _ _ (by rfl) T (2 + p * 8) f (by rfl) (by rfl) hf8).trans ?_; with_reducible rfl
            rotate_left
            · show Act.put _ _ _ = _
              simp only [Act.put, List.setIfInBounds_toArray, List.set_cons_zero, List.set_cons_succ, i64_w, i32_w]
              rfl
            refine pure_ (i := 11) (N := some 32) (v := ?_) (a' := ?_) #[true, true, true, true, true, true, true, true, true, true, false, true, false, false, false, false] rfl rfl (by kernel_rfl) (fun _ _ _ h => h) (Or.inl ⟨by rfl, ?_⟩) ?_ ?_
            rotate_left
            · intro w'
              go_simp; with_reducible rfl
            rotate_left
            · show Act.put _ _ _ = _
              simp only [Act.put, List.setIfInBounds_toArray, List.set_cons_zero, List.set_cons_succ, i64_w, i32_w]
              rfl
            refine pure_ (i := 12) (N := some 33) (v := ?_) (a' := ?_) #[true, true, true, true, true, true, true, true, true, true, false, true, true, false, false, false] rfl rfl (by kernel_rfl) (fun _ _ _ h => h) (Or.inl ⟨by rfl, ?_⟩) ?_ ?_
            rotate_left
            · intro w'
              go_simp; with_reducible rfl
            rotate_left
            · show Act.put _ _ _ = _
              simp only [Act.put, List.setIfInBounds_toArray, List.set_cons_zero, List.set_cons_succ, i64_w, i32_w]
              rfl
            refine pure_ (i := 13) (N := some 34) (v := ?_) (a' := ?_) #[true, true, true, true, true, true, true, true, true, true, false, true, true, true, false, false] rfl rfl (by kernel_rfl) (fun _ _ _ h => h) (Or.inl ⟨by rfl, ?_⟩) ?_ ?_
            rotate_left
            · intro w'
              refine (row_run _ _ (by rfl) T 66 p (by rfl) (by rfl) hp8).trans ?_; with_reducible rfl
            rotate_left
            · show Act.put _ _ _ = _
              simp only [Act.put, List.setIfInBounds_toArray, List.set_cons_zero, List.set_cons_succ, i64_w, i32_w]
              rfl
            refine one_ (i := 10) (N := none) #[true, true, true, true, true, true, true, true, true, true, true, true, true, true, false, false] rfl rfl (by kernel_rfl) (by decide) (fun K hK => ?_)
            refine put_step (by rfl) (by rfl) (put_run _ _ (by rfl) T (2 + p * 8 + f) _ 1000 (by rfl) (by rfl) (TabB.cC (w := wr.drew) BK.out p f hp8 hf8 GR.out.1.1) (TabB.frozen (w := wr.drew) BK.out _)) ?_
            obtain ⟨w5, hw5⟩ : ∃ w5, w5 = wr.drew.setCell ⟨T, 2 + p * 8 + f, none⟩ (.int .i64 1000) := ⟨_, rfl⟩
            have BK5 := Aside0.mk (by rw [hw5]; exact TabB.setC (w := wr.drew) BK.out p f hp8 hf8 GR.out.1.1 1000 : TabB w5 T n (.slice A l.length c) (X.set (8 * p + f) 1000) X)
            have BG5 := Aside0.mk (by rw [hw5]; exact blk_far (w := wr.drew) BG.out NE.out _ : w5.heap[g1]? = some (.cells #[.int .i64 n, .slice A l.length c] 27 (0, 0)))
            have HB5 := Aside0.mk (by rw [hw5]; exact HB.out.drew.setCell HT.out _ : Below w.heap.size w w5)
            rw [← hw5]
            clear hw5 BK BG HB
            refine hK.out _ _ trivial (fun hHeld => ?_)
            clear hK K
            refine pure_ (i := 14) (N := some 35) (v := ?_) (a' := ?_) #[true, true, true, true, true, true, true, true, true, true, true, true, true, true, true, false] rfl rfl (by kernel_rfl) (fun _ _ _ h => h) (Or.inl ⟨by rfl, ?_⟩) ?_ ?_
            rotate_left
            · intro w'
              refine (col_run _ _ (by rfl) T (66 + p * 8) f (by rfl) (by rfl) hf8).trans ?_; with_reducible rfl
            rotate_left
            · show Act.put _ _ _ = _
              simp only [Act.put, List.setIfInBounds_toArray, List.set_cons_zero, List.set_cons_succ, i64_w, i32_w]
              rfl
            refine one_ (i := 15) (N := none) #[true, true, true, true, true, true, true, true, true, true, true, true, true, true, true, true] rfl rfl (by kernel_rfl) (by decide) (fun K hK => ?_)
            refine put_step (by rfl) (by rfl) (put_run _ _ (by rfl) T (66 + p * 8 + f) _ 1000 (by rfl) (by rfl) (BK5.out.cE p f hp8 hf8 (by rw [List.length_set]; exact GR.out.1.1) GR.out.1.1) (BK5.out.frozen _)) ?_
            obtain ⟨w6, hw6⟩ : ∃ w6, w6 = w5.setCell ⟨T, 66 + p * 8 + f, none⟩ (.int .i64 1000) := ⟨_, rfl⟩
            have BK6 := Aside0.mk (by rw [hw6]; exact BK5.out.setE p f hp8 hf8 (by rw [List.length_set]; exact GR.out.1.1) 1000 : TabB w6 T n (.slice A l.length c) (X.set (8 * p + f) 1000) (X.set (8 * p + f) 1000))
            have BG6 := Aside0.mk (by rw [hw6]; exact blk_far BG5.out NE.out _ : w6.heap[g1]? = some (.cells #[.int .i64 n, .slice A l.length c] 27 (0, 0)))
            have HB6 := Aside0.mk (by rw [hw6]; exact HB5.out.setCell HT.out _ : Below w.heap.size w w6)
            rw [← hw6]
            clear hw6 BK5 BG5 HB5
            refine hK.out _ _ trivial (fun hHeld2 => ?_)
            clear hK K
            refine done_ (by kernel_rfl) ?_
            go_wp2
            go_roundg (n - (f + 1))
            case measure => omega
            case rel => exact ⟨f + 1, _, by omega, by omega, by go_num, ⟨Grid.put hp8 hflt hn8 HP.out (by decide) GR.out⟩, BK6, BG6, HB6⟩
        · obtain rfl : f = n := by omega
          go_wp2
          go_roundg (f - (p + 1))
          case measure => omega
          case rel => exact ⟨p + 1, X, by omega, by omega, by go_num, ⟨Grid.row hn8 GR.out⟩, BK, BG, HB⟩
    · obtain rfl : n = p := by omega
      have VS := Aside0.mk (Val.start g GR.out zeros_diag)
      have DX := Aside0.mk (zeros_diag.grid GR.out)
      have IX := Aside0.mk GR.out.1
      clear GR BG hz0
      go_wp2
      obtain ⟨wo, rfl⟩ : ∃ wo : World, wo = wr := ⟨_, rfl⟩
      go_loopg [38] 66 (fun gg _ wr => ∃ (r : Nat) (C E : List Int), 66 - r ≤ gg ∧ Aside0 (r ≤ cnt n l r) ∧ Aside0 (Val n l r C) ∧ Aside0 (Diag C) ∧ Aside0 (Diag E) ∧ Aside0 (InR E) ∧ Aside0 (TabB wr T n (.slice A l.length c) C E) ∧ Aside0 (Below w.heap.size w wr))
      case atStart => exact ⟨0, X, X, by omega, ⟨Nat.zero_le _⟩, VS, DX, DX, IX, BK, HB⟩
      case round =>
        clear VS DX IX BK HB
        obtain ⟨r, C, E, hgr, RC, VC, DC, DE, IE, BK, HB⟩ := hrel
        have hr64 : r ≤ 64 := Nat.le_trans RC.out (cnt_le n l r)
        have IC := Aside0.mk VC.out.1
        have hrow := Aside0.mk (RowS.of (T := T) (Kd.C_below HR.out (⟨HB.out.os, HB.out.tape, HB.out.output, HB.out.size, HB.out.block⟩ : Below w.heap.size w wr)) (fun ad e hl => by have := C_blk HR.out ad e hl; have := HT.out; omega))
        go_wp2_with (first
         | ((with_reducible refine gate_callee (f := 91) rfl ?_); refine goesL_ (some 39) rfl rfl Try.func91 (by kernel_rfl) rfl #[.pointer (some ⟨T, 0, none⟩)] rfl (by (try simp only [List.map_toArray, List.map_cons, List.map_nil]); first | done | rfl) ?_; (with_reducible refine (round_c g A c hc T C E IC.out IE.out wr BK.out hrow.out).mono ?_); rintro e w2 ⟨C', E', rfl, hG1, hG2, hb2, hg2⟩; refine ⟨_, rfl, ?_⟩;
             have HH := Aside0.mk (⟨hG1, hG2, hb2, hg2⟩ : Grid n (mostF l C) E (8 * n) E' ∧ Grid n (fewF l E') C (8 * n) C' ∧ TabB w2 T n (.slice A l.length c) C' E' ∧ wr.grownBy w2 (some T)); clear hG1 hG2 hb2 hg2;
             have HB2 := Aside0.mk (HB.out.grown HH.out.2.2.2 HB.out.size (fun k e => by cases e; exact HT.out) : Below w.heap.size w w2)))
        · have hne0 : (!decide (C' = C)) = true := by assumption
          have hne : ¬ C' = C := by simpa using hne0
          have VE := EVal.of g VC.out DE.out HH.out.1
          have VC2 := Val.step g VC.out DC.out VE HH.out.2.1
          have hch := Val.change g VC.out VC2 HH.out.2.1 hne
          have hr2 : r + 1 ≤ 64 := by have := RC.out; have := cnt_le n l (r + 1); omega
          go_roundg (66 - (r + 1))
          case measure => omega
          case rel => exact ⟨r + 1, C', E', by omega, ⟨by have := RC.out; omega⟩, ⟨VC2⟩, ⟨DC.out.grid HH.out.2.1⟩, ⟨DE.out.grid HH.out.1⟩, ⟨HH.out.1.1⟩, ⟨HH.out.2.2.1⟩, HB2⟩
        · have he0 : (!decide (C' = C)) = false := by assumption
          have he : C' = C := by simpa using he0
          have VE := EVal.of g VC.out DE.out HH.out.1
          have VC2 := Val.step g VC.out DC.out VE HH.out.2.1
          have HF := Aside0.mk (TabFin.of g hr64 VC.out (he ▸ VC2) DE.out HH.out.1)
          have HK := Aside0.mk (he ▸ HH.out.2.2.1 : TabB w2 T n (.slice A l.length c) C E')
          go_ret
          exact ⟨T, C, E', rfl, HT.out, HK.out, HB2.out, HF.out⟩
end Go.Proofs.Ytilanbgciofkjaa.PA

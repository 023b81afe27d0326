/- The pursuer's best move, out of the table: the walk. -/
import Derived.Test.YtilanbgciofkjaaMt
import Derived.Test.YtilanbgciofkjaaMb
namespace Go.Proofs.Ytilanbgciofkjaa.PA
open Go.RowKit Go.Proofs.YtilanbgciofkjaaW.PrintWords Go.Proofs.YtilanbgciofkjaaW.PrintLast Go.Proofs.YtilanbgciofkjaaW.PrintMore Go.Proofs.Ytilanbgciofkjaa.Pure
attribute [local go_sem] max2_int min2_int max_two min_two max_three min_three max_four min_four
set_option linter.unusedVariables false
set_option linter.unusedSimpArgs false
set_option maxHeartbeats 1000000 in
/-- slices.IndexFunc, the function told at the list's own elements alone -/
theorem idxFunc_mem (p : Int → Bool) (g : Nat) (lb : Array Value) (A : Option Addr) (c : Nat) (l : List Int) (w : World) (eg : ∀ args w, (callFunc g args).run Try.prog w = .ok (.enter g args) w)
    (hp : ∀ x ∈ l, ∀ q, Calls Try.prog g (#[.int .i64 x] ++ lb) (w.drewN q) fun e w' => e = .returned (.bool (p x)) ∧ Drawn0 (w.drewN q) w') (hr : Kd.C (Kd.int .i64) w A l.length l) :
    Calls Try.prog 93 #[.slice A l.length c, .func (.func g) #[] lb] w fun e w' => e = .returned (.int .i64 (fidx p l 0)) ∧ Drawn0 w w' := by
  have hbig := hr.2.1
  have HR := Aside0.mk hr
  have HP := Aside0.mk hp
  clear hr hp
  have FI : ∀ m, m < l.length → (∀ j, j < m → p (l.getD j 0) = false) → p (l.getD m 0) = true → fidx p l 0 = (m : Int) := fun m h1 h2 h3 => by have := fidx_at p l 0 m h1 h2 h3; simpa using this
  have FN : (∀ j, j < l.length → p (l.getD j 0) = false) → fidx p l 0 = -1 := fidx_no p l 0
  have FIa := Aside0.mk FI
  have FNa := Aside0.mk FN
  clear FI FN
  generalize fidx p l 0 = res at FIa FNa ⊢
  go_enter Try.func93, Try.ntmps93
  go_wp2
  go_loopg [5, 8] l.length (fun gg _ s8 wr => ∃ kk q : Nat, kk ≤ l.length ∧ l.length - kk ≤ gg ∧ s8 = .int .i64 kk ∧ wr = w.drewN q ∧ Aside0 (∀ j, j < kk → p (l.getD j 0) = false))
  case atStart => exact ⟨0, 0, Nat.zero_le _, by omega, rfl, rfl, ⟨fun j hj => absurd hj (Nat.not_lt_zero _)⟩⟩
  case round =>
    obtain ⟨kk, q, hkk, hg, rfl, rfl, AA⟩ := hrel
    by_cases hlt : kk < l.length
    · have hltz : (kk : Int) < (l.length : Int) := by omega
      obtain ⟨ad, e1, hcell0⟩ := Kd.at_int HR.out (kk : Int) (by omega) hltz
      subst e1
      have hcell : w.cell? (ad.add kk) = some (.int .i64 (l.getD kk 0)) := hcell0
      clear hcell0
      have hcall := HP.out (l.getD kk 0) (getD_mem l kk hlt) q
      have PB : Aside0 (p (l.getD kk 0) = p (l.getD kk 0)) := ⟨rfl⟩
      generalize hy : l.getD kk 0 = y at hcell hcall PB
      have B : Aside0 (l.getD kk 0 = y) := ⟨hy⟩
      clear hy
      cases hq : p y with
      | true =>
        rw [hq] at hcall
        have Q : Aside0 (p y = true) := ⟨hq⟩
        clear hq PB
        have e3 := FIa.out kk hlt AA.out (by rw [B.out]; exact Q.out)
        clear FIa FNa
        subst e3
        go_wp2_with fail
        refine hcall.mono ?_
        rintro e w' ⟨rfl, ⟨q', rfl⟩⟩
        clear hcall
        go_wp2
        go_ret
        exact ⟨rfl, ⟨q + q', rfl⟩⟩
      | false =>
        rw [hq] at hcall
        have Q : Aside0 (p y = false) := ⟨hq⟩
        clear hq PB
        go_wp2_with fail
        refine hcall.mono ?_
        rintro e w' ⟨rfl, ⟨q', rfl⟩⟩
        clear hcall
        go_wp2
        go_roundg (l.length - (kk + 1))
        case measure => omega
        case rel =>
          refine ⟨kk + 1, q + q', by omega, by omega, by go_num, rfl, ⟨fun j hj => ?_⟩⟩
          by_cases e : j = kk
          · subst e
            rw [B.out]; exact Q.out
          · exact AA.out j (by omega)
    · have hltz : ¬ (kk : Int) < (l.length : Int) := by omega
      have e1 : kk = l.length := by omega
      subst e1
      have e3 := FNa.out AA.out
      clear FIa FNa
      subst e3
      go_wp2
      go_ret
      exact ⟨rfl, ⟨q, rfl⟩⟩
theorem read_step {P : Program} {ops : Array Oper} {oi : Oper} {a : Act} {w : World} {K : Act → World → Prop} {Q : Exit → Act → World → Prop} {N : Option Tmp} (v : Value) (hw : Region.wanted oi (yielded ops a.tmps) = true) (hN : oi.dst = N) (hrun : (execOp a.eval oi).run P w = .ok (.value v) w) (h : K (a.put N v) w) : if Region.wanted oi (yielded ops a.tmps) = true then Oper.wp P oi a w K Q else K (a.put N undef) w := by
  subst hN
  rw [if_pos hw]
  unfold Oper.wp
  rw [hrun]
  exact h
/-- the closure: a move after which the fugitive's number is one less -/
def pursP (C E : List Int) (p f : Nat) (x : Int) : Bool := E.getD (8 * x.toNat + f) 0 == C.getD (8 * p + f) 0 - 1
set_option maxHeartbeats 4000000 in
set_option maxRecDepth 100000 in
theorem purs_closure (n : Int) (s : Value) (T : Nat) (C E : List Int) (iC : InR C) (iE : InR E) (p f x : Nat) (hp8 : p < 8) (hf8 : f < 8) (hx8 : x < 8) (b1 b2 b3 : Nat) (W : World) (hb : TabB W T n s C E)
    (h1 : W.cell? ⟨b1, 0, none⟩ = some (.pointer (some ⟨T, 0, none⟩))) (h2 : W.cell? ⟨b2, 0, none⟩ = some (.int .i64 f)) (h3 : W.cell? ⟨b3, 0, none⟩ = some (.int .i64 p)) :
    Calls Try.prog 95 #[.int .i64 x, .pointer (some ⟨b1, 0, none⟩), .pointer (some ⟨b2, 0, none⟩), .pointer (some ⟨b3, 0, none⟩)] W fun e w' => e = .returned (.bool (pursP C E p f (x : Int))) ∧ Drawn0 W w' := by
  obtain ⟨cv, hcv⟩ : ∃ cv, cv = C.getD (8 * p + f) 0 := ⟨_, rfl⟩
  obtain ⟨ev, hev⟩ : ∃ ev, ev = E.getD (8 * x + f) 0 := ⟨_, rfl⟩
  have hcb := iC.2 (8 * p + f) (by omega)
  rw [← hcv] at hcb
  have hc1 := hcb.1
  have hc2 := hcb.2
  have hPV : pursP C E p f (x : Int) = (ev == cv - 1) := by unfold pursP; rw [hcv, hev]; rfl
  rw [hPV]
  have HC : ∀ W' : World, TabB W' T n s C E → W'.cell? ⟨T, 2 + p * 8 + f, none⟩ = some (.int .i64 cv) := fun W' h => by rw [hcv]; exact h.cC p f hp8 hf8 iC.1
  have HE : ∀ W' : World, TabB W' T n s C E → W'.cell? ⟨T, 66 + x * 8 + f, none⟩ = some (.int .i64 ev) := fun W' h => by rw [hev]; exact h.cE x f hx8 hf8 iC.1 iE.1
  have HCa := Aside0.mk HC
  have HEa := Aside0.mk HE
  have HS := Aside0.mk (show W.drew.cell? ⟨b1, 0, none⟩ = some (.pointer (some ⟨T, 0, none⟩)) ∧ W.drew.cell? ⟨b2, 0, none⟩ = some (.int .i64 f) ∧ W.drew.cell? ⟨b3, 0, none⟩ = some (.int .i64 p) ∧ TabB W.drew T n s C E from ⟨h1, h2, h3, hb⟩)
  clear hcv hev hcb hPV HC HE h1 h2 h3 hb iC iE
  go_enter Try.func95, Try.ntmps95
  go_wp2
  refine start_ (n := 19) (S := fun w' => w'.cell? ⟨b1, 0, none⟩ = some (.pointer (some ⟨T, 0, none⟩)) ∧ w'.cell? ⟨b2, 0, none⟩ = some (.int .i64 f) ∧ w'.cell? ⟨b3, 0, none⟩ = some (.int .i64 p) ∧ TabB w' T n s C E) (ds := []) #[false, false, false, false, false, false, false, false, false, false, false, false, false, false, false, false, false, false, false] (by kernel_rfl) rfl rfl HS.out (fun hHeld => ?_)
  refine take_ (i := 0) (N := some 6) (v := ?_) (a' := ?_) #[true, false, false, false, false, false, false, false, false, false, false, false, false, false, false, false, false, false, false] rfl rfl (by kernel_rfl) (fun _ _ _ h => h) (Or.inl ⟨by rfl, ?_⟩) hHeld ?_ ?_
  rotate_left
  · rintro w' ⟨s0, s1, s2, s3⟩; go_simp; with_reducible rfl
  rotate_left
  · show Act.put _ _ _ = _
    simp only [Act.put, List.setIfInBounds_toArray, List.set_cons_zero, List.set_cons_succ, i64_w, i32_w]
    rfl
  refine pure_ (i := 1) (N := some 7) (v := ?_) (a' := ?_) #[true, true, false, false, false, false, false, false, false, false, false, false, false, false, false, false, false, false, false] rfl rfl (by kernel_rfl) (fun _ _ _ h => h) (Or.inl ⟨by rfl, ?_⟩) ?_ ?_
  rotate_left
  · intro w'
    go_simp; with_reducible rfl
  rotate_left
  · show Act.put _ _ _ = _
    simp only [Act.put, List.setIfInBounds_toArray, List.set_cons_zero, List.set_cons_succ, i64_w, i32_w]
    rfl
  refine take_ (i := 2) (N := some 8) (v := ?_) (a' := ?_) #[true, true, true, false, false, false, false, false, false, false, false, false, false, false, false, false, false, false, false] rfl rfl (by kernel_rfl) (fun _ _ _ h => h) (Or.inl ⟨by rfl, ?_⟩) hHeld ?_ ?_
  rotate_left
  · rintro w' ⟨s0, s1, s2, s3⟩; go_simp; with_reducible rfl
  rotate_left
  · show Act.put _ _ _ = _
    simp only [Act.put, List.setIfInBounds_toArray, List.set_cons_zero, List.set_cons_succ, i64_w, i32_w]
    rfl
  refine pure_ (i := 3) (N := some 9) (v := ?_) (a' := ?_) #[true, true, true, true, false, false, false, false, false, false, false, false, false, false, false, false, false, false, false] rfl rfl (by kernel_rfl) (fun _ _ _ h => h) (Or.inl ⟨by rfl, ?_⟩) ?_ ?_
  rotate_left
  · intro w'
    go_simp; with_reducible rfl
  rotate_left
  · show Act.put _ _ _ = _
    simp only [Act.put, List.setIfInBounds_toArray, List.set_cons_zero, List.set_cons_succ, i64_w, i32_w]
    rfl
  refine pure_ (i := 4) (N := some 10) (v := ?_) (a' := ?_) #[true, true, true, true, true, false, false, false, false, false, false, false, false, false, false, false, false, false, false] rfl rfl (by kernel_rfl) (fun _ _ _ h => h) (Or.inl ⟨by rfl, ?_⟩) ?_ ?_
  rotate_left
  · intro w'
    go_simp; with_reducible rfl
  rotate_left
  · show Act.put _ _ _ = _
    simp only [Act.put, List.setIfInBounds_toArray, List.set_cons_zero, List.set_cons_succ, i64_w, i32_w]
    rfl
  refine pure_ (i := 5) (N := some 11) (v := ?_) (a' := ?_) #[true, true, true, true, true, true, false, false, false, false, false, false, false, false, false, false, false, false, false] rfl rfl (by kernel_rfl) (fun _ _ _ h => h) (Or.inl ⟨by rfl, ?_⟩) ?_ ?_
  rotate_left
  · intro w'
    refine (row_run _ _ (by rfl) T 66 x (by rfl) (by rfl) hx8).trans ?_; with_reducible rfl
  rotate_left
  · show Act.put _ _ _ = _
    simp only [Act.put, List.setIfInBounds_toArray, List.set_cons_zero, List.set_cons_succ, i64_w, i32_w]
    rfl
  refine pure_ (i := 6) (N := some 12) (v := ?_) (a' := ?_) #[true, true, true, true, true, true, true, false, false, false, false, false, false, false, false, false, false, false, false] rfl rfl (by kernel_rfl) (fun _ _ _ h => h) (Or.inl ⟨by rfl, ?_⟩) ?_ ?_
  rotate_left
  · intro w'
    refine (col_run _ _ (by rfl) T (66 + x * 8) f (by rfl) (by rfl) hf8).trans ?_; with_reducible rfl
  rotate_left
  · show Act.put _ _ _ = _
    simp only [Act.put, List.setIfInBounds_toArray, List.set_cons_zero, List.set_cons_succ, i64_w, i32_w]
    rfl
  refine take_ (i := 7) (N := some 13) (v := ?_) (a' := ?_) #[true, true, true, true, true, true, true, true, false, false, false, false, false, false, false, false, false, false, false] rfl rfl (by kernel_rfl) (fun _ _ _ h => h) (Or.inl ⟨by rfl, ?_⟩) hHeld ?_ ?_
  rotate_left
  · rintro w' ⟨s0, s1, s2, s3⟩; refine (load_run _ (by rfl) T (66 + x * 8 + f) ev (by rfl) (HEa.out _ s3)).trans ?_; with_reducible rfl
  rotate_left
  · show Act.put _ _ _ = _
    simp only [Act.put, List.setIfInBounds_toArray, List.set_cons_zero, List.set_cons_succ, i64_w, i32_w]
    rfl
  refine take_ (i := 8) (N := some 14) (v := ?_) (a' := ?_) #[true, true, true, true, true, true, true, true, true, false, false, false, false, false, false, false, false, false, false] rfl rfl (by kernel_rfl) (fun _ _ _ h => h) (Or.inl ⟨by rfl, ?_⟩) hHeld ?_ ?_
  rotate_left
  · rintro w' ⟨s0, s1, s2, s3⟩; go_simp; with_reducible rfl
  rotate_left
  · show Act.put _ _ _ = _
    simp only [Act.put, List.setIfInBounds_toArray, List.set_cons_zero, List.set_cons_succ, i64_w, i32_w]
    rfl
  refine take_ (i := 9) (N := some 15) (v := ?_) (a' := ?_) #[true, true, true, true, true, true, true, true, true, true, false, false, false, false, false, false, false, false, false] rfl rfl (by kernel_rfl) (fun _ _ _ h => h) (Or.inl ⟨by rfl, ?_⟩) hHeld ?_ ?_
  rotate_left
  · rintro w' ⟨s0, s1, s2, s3⟩; go_simp; with_reducible rfl
  rotate_left
  · show Act.put _ _ _ = _
    simp only [Act.put, List.setIfInBounds_toArray, List.set_cons_zero, List.set_cons_succ, i64_w, i32_w]
    rfl
  refine take_ (i := 10) (N := some 16) (v := ?_) (a' := ?_) #[true, true, true, true, true, true, true, true, true, true, true, false, false, false, false, false, false, false, false] rfl rfl (by kernel_rfl) (fun _ _ _ h => h) (Or.inl ⟨by rfl, ?_⟩) hHeld ?_ ?_
  rotate_left
  · rintro w' ⟨s0, s1, s2, s3⟩; go_simp; with_reducible rfl
  rotate_left
  · show Act.put _ _ _ = _
    simp only [Act.put, List.setIfInBounds_toArray, List.set_cons_zero, List.set_cons_succ, i64_w, i32_w]
    rfl
  refine pure_ (i := 11) (N := some 17) (v := ?_) (a' := ?_) #[true, true, true, true, true, true, true, true, true, true, true, true, false, false, false, false, false, false, false] rfl rfl (by kernel_rfl) (fun _ _ _ h => h) (Or.inl ⟨by rfl, ?_⟩) ?_ ?_
  rotate_left
  · intro w'
    go_simp; with_reducible rfl
  rotate_left
  · show Act.put _ _ _ = _
    simp only [Act.put, List.setIfInBounds_toArray, List.set_cons_zero, List.set_cons_succ, i64_w, i32_w]
    rfl
  refine pure_ (i := 12) (N := some 18) (v := ?_) (a' := ?_) #[true, true, true, true, true, true, true, true, true, true, true, true, true, false, false, false, false, false, false] rfl rfl (by kernel_rfl) (fun _ _ _ h => h) (Or.inl ⟨by rfl, ?_⟩) ?_ ?_
  rotate_left
  · intro w'
    go_simp; with_reducible rfl
  rotate_left
  · show Act.put _ _ _ = _
    simp only [Act.put, List.setIfInBounds_toArray, List.set_cons_zero, List.set_cons_succ, i64_w, i32_w]
    rfl
  refine pure_ (i := 13) (N := some 19) (v := ?_) (a' := ?_) #[true, true, true, true, true, true, true, true, true, true, true, true, true, true, false, false, false, false, false] rfl rfl (by kernel_rfl) (fun _ _ _ h => h) (Or.inl ⟨by rfl, ?_⟩) ?_ ?_
  rotate_left
  · intro w'
    refine (row_run _ _ (by rfl) T 2 p (by rfl) (by rfl) hp8).trans ?_; with_reducible rfl
  rotate_left
  · show Act.put _ _ _ = _
    simp only [Act.put, List.setIfInBounds_toArray, List.set_cons_zero, List.set_cons_succ, i64_w, i32_w]
    rfl
  refine pure_ (i := 14) (N := some 20) (v := ?_) (a' := ?_) #[true, true, true, true, true, true, true, true, true, true, true, true, true, true, true, false, false, false, false] rfl rfl (by kernel_rfl) (fun _ _ _ h => h) (Or.inl ⟨by rfl, ?_⟩) ?_ ?_
  rotate_left
  · intro w'
    refine (col_run _ _ (by rfl) T (2 + p * 8) f (by rfl) (by rfl) hf8).trans ?_; with_reducible rfl
  rotate_left
  · show Act.put _ _ _ = _
    simp only [Act.put, List.setIfInBounds_toArray, List.set_cons_zero, List.set_cons_succ, i64_w, i32_w]
    rfl
  refine take_ (i := 15) (N := some 21) (v := ?_) (a' := ?_) #[true, true, true, true, true, true, true, true, true, true, true, true, true, true, true, true, false, false, false] rfl rfl (by kernel_rfl) (fun _ _ _ h => h) (Or.inl ⟨by rfl, ?_⟩) hHeld ?_ ?_
  rotate_left
  · rintro w' ⟨s0, s1, s2, s3⟩; refine (load_run _ (by rfl) T (2 + p * 8 + f) cv (by rfl) (HCa.out _ s3)).trans ?_; with_reducible rfl
  rotate_left
  · show Act.put _ _ _ = _
    simp only [Act.put, List.setIfInBounds_toArray, List.set_cons_zero, List.set_cons_succ, i64_w, i32_w]
    rfl
  refine pure_ (i := 16) (N := some 22) (v := ?_) (a' := ?_) #[true, true, true, true, true, true, true, true, true, true, true, true, true, true, true, true, true, false, false] rfl rfl (by kernel_rfl) (fun _ _ _ h => h) (Or.inl ⟨by rfl, ?_⟩) ?_ ?_
  rotate_left
  · intro w'
    go_simp; with_reducible rfl
  rotate_left
  · show Act.put _ _ _ = _
    simp only [Act.put, List.setIfInBounds_toArray, List.set_cons_zero, List.set_cons_succ, i64_w, i32_w]
    rfl
  refine pure_ (i := 17) (N := some 23) (v := ?_) (a' := ?_) #[true, true, true, true, true, true, true, true, true, true, true, true, true, true, true, true, true, true, false] rfl rfl (by kernel_rfl) (fun _ _ _ h => h) (Or.inl ⟨by rfl, ?_⟩) ?_ ?_
  rotate_left
  · intro w'
    go_simp; with_reducible rfl
  rotate_left
  · show Act.put _ _ _ = _
    simp only [Act.put, List.setIfInBounds_toArray, List.set_cons_zero, List.set_cons_succ, i64_w, i32_w]
    rfl
  refine pure_ (i := 18) (N := some 5) (v := ?_) (a' := ?_) #[true, true, true, true, true, true, true, true, true, true, true, true, true, true, true, true, true, true, true] rfl rfl (by kernel_rfl) (fun _ _ _ h => h) (Or.inl ⟨by rfl, ?_⟩) ?_ ?_
  rotate_left
  · intro w'
    go_simp; with_reducible rfl
  rotate_left
  · show Act.put _ _ _ = _
    simp only [Act.put, List.setIfInBounds_toArray, List.set_cons_zero, List.set_cons_succ, i64_w, i32_w]
    rfl
  refine done_ (by kernel_rfl) ?_
  go_wp2
  go_ret
  have e1 : wrap64 (cv - 1) = cv - 1 := by unfold wrap64; omega
  refine ⟨?_, ⟨1, rfl⟩⟩
  show Ending.returned (.bool (ev == wrap64 (cv - 1))) = _
  rw [e1]
theorem loadG_run {a : Act} {o : Oper} {W : World} (x : Operand) (ho : o.op = .load 27 x) (T : Nat) (n : Int) (s : Value) (C E : List Int) (hx : a.eval x = .pointer (some ⟨T, 0, none⟩)) (h : TabB W T n s C E) (hs : ∃ A l c, s = .slice A l c) : (execOp a.eval o).run Try.prog W = .ok (.value (.agg #[.int .i64 n, s])) W := by
  obtain ⟨A, l, c, rfl⟩ := hs
  have h0 := h.c0
  have h1 := h.c1
  unfold execOp
  rw [ho]
  simp only [hx]
  clear hx ho h
  go_simp
  all_goals (try rfl)
theorem eg_purs : ∀ args w, (callFunc 95 args).run Try.prog w = .ok (.enter 95 args) w := entersOf Try.func95 (by kernel_rfl) rfl
theorem pursP_dist {n : Nat} {l : List Int} (g : GOk (n : Int) l) {C E : List Int} (hF : TabFin n l C E) (p f : Nat) (hp : p < n) (hf : f < n) (v : Nat) (hv : v < 1000) (h0 : v ≠ 0) (hC : C.getD (8 * p + f) 0 = (v : Int)) (hd : dist l p f = (v : Int)) :
    ∃ m, m < (stayL l p).length ∧ fidx (pursP C E p f) (stayL l p) 0 = (m : Int) ∧ (stayL l p).getD m 0 = pursV l p f := by
  have key : ∀ x ∈ stayL l p, pursP C E p f x = decide (edist l x.toNat f = dist l p f - 1) := fun x hx => by
    have hxn := stay_vert g p hp x hx
    unfold pursP
    rw [hC, hd]
    rcases esc_dist g hF x.toNat f hxn hf with ⟨h1, h2⟩ | ⟨u, hu, h1, h2⟩
    · rw [h1, h2, Bool.eq_iff_iff, beq_iff_eq, decide_eq_true_eq]; omega
    · rw [h1, h2, Bool.eq_iff_iff, beq_iff_eq, decide_eq_true_eq]
  obtain ⟨x, hx, hxe⟩ := move_some l p f v hv hd h0
  obtain ⟨m, h1, h2, h3⟩ := fidx_find (pursP C E p f) (stayL l p) 0 ⟨x, hx, by rw [key x hx, hxe]; simp⟩
  refine ⟨m, h1, by rw [h2]; omega, ?_⟩
  unfold pursV
  rw [if_neg (by omega), if_neg (by omega)]
  have h4 : (stayL l p).find? (pursP C E p f) = (stayL l p).find? fun x => decide (edist l x.toNat f = dist l p f - 1) := by
    have : ∀ L : List Int, (∀ x ∈ L, pursP C E p f x = decide (edist l x.toNat f = dist l p f - 1)) → L.find? (pursP C E p f) = L.find? fun x => decide (edist l x.toNat f = dist l p f - 1) := fun L => by
      induction L with
      | nil => intro _; rw [List.find?_nil, List.find?_nil]
      | cons y L ih =>
        intro h
        rw [List.find?_cons, List.find?_cons, h y List.mem_cons_self, ih (fun z hz => h z (List.mem_cons_of_mem _ hz))]
    exact this _ key
  rw [← h4, h3]; rfl
set_option maxHeartbeats 4000000 in
set_option maxRecDepth 100000 in
theorem purs_c {n : Nat} {l : List Int} (g : GOk (n : Int) l) (A : Option Addr) (c : Nat) (hc : l.length ≤ c) (T : Nat) (C E : List Int) (hF : TabFin n l C E) (p f : Nat) (hp : p < n) (hf : f < n) (w : World) (hb : TabB w T n (.slice A l.length c) C E) (hr : Kd.C (Kd.int .i64) w A l.length l) :
    Calls Try.prog 66 #[.pointer (some ⟨T, 0, none⟩), .int .i64 p, .int .i64 f] w fun e w' => e = .returned (.int .i64 (pursV l p f)) ∧ Below w.heap.size w w' := by
  have HLN := Aside0.mk (nlen g)
  have hn8 : n ≤ 8 := by have := g.len8; have := HLN.out; omega
  have hp8 : p < 8 := by omega
  have hf8 : f < 8 := by omega
  have HR := Aside0.mk hr
  have HF := Aside0.mk hF
  have BT := Aside0.mk hb
  have HB := Aside0.mk (Below.refl w.heap.size w)
  clear hr hF hb
  obtain ⟨cv, hcve⟩ : ∃ cv, cv = C.getD (8 * p + f) 0 := ⟨_, rfl⟩
  have HC : Aside0 (∀ W' : World, TabB W' T n (.slice A l.length c) C E → W'.cell? ⟨T, 2 + p * 8 + f, none⟩ = some (.int .i64 cv)) := ⟨fun W' h => by rw [hcve]; exact h.cC p f hp8 hf8 HF.out.inC.1⟩
  have HCV := Aside0.mk hcve
  clear hcve
  have HW := Aside0.mk (win_dist g HF.out p f hp hf)
  go_enter Try.func66, Try.ntmps66
  go_wp2_with (first
   | ((with_reducible refine gate_dst (N := 3) rfl ?_); refine box_event rfl (N := 3) rfl (cs := #[.pointer (some ⟨T, 0, none⟩)]) (t := 68) (by first | (go_simp; done) | (go_simp; rfl)) ?_; intro g3 hg w1 hbox hb;
       have B3 := Aside0.mk hbox; have n1 := Aside0.mk (BT.out.below hb); have n2 := Aside0.mk (below_step HB.out hb); clear BT HB hbox hg hb; have BT := n1; have HB := n2; clear n1 n2)
   | ((with_reducible refine gate_dst (N := 4) rfl ?_); refine box_event rfl (N := 4) rfl (cs := #[.int .i64 p]) (t := 3) (by first | (go_simp; done) | (go_simp; rfl)) ?_; intro g4 hg w2 hbox hb;
       have B4 := Aside0.mk hbox; have n0 := Aside0.mk (blk_below B3.out hb); have n1 := Aside0.mk (BT.out.below hb); have n2 := Aside0.mk (below_step HB.out hb); clear B3 BT HB hbox hg hb; have B3 := n0; have BT := n1; have HB := n2; clear n0 n1 n2)
   | ((with_reducible refine gate_dst (N := 5) rfl ?_); refine box_event rfl (N := 5) rfl (cs := #[.int .i64 f]) (t := 3) (by first | (go_simp; done) | (go_simp; rfl)) ?_; intro g5 hg w3 hbox hb;
       have B5 := Aside0.mk hbox; have n0 := Aside0.mk (blk_below B3.out hb); have n3 := Aside0.mk (blk_below B4.out hb); have n1 := Aside0.mk (BT.out.below hb); have n2 := Aside0.mk (below_step HB.out hb); clear B3 B4 BT HB hbox hg hb; have B3 := n0; have B4 := n3; have BT := n1; have HB := n2; clear n0 n1 n2 n3))
  have HS := Aside0.mk (⟨(blk_cell (w := w3.drew) B3.out 0).trans rfl, (blk_cell (w := w3.drew) B4.out 0).trans rfl, (blk_cell (w := w3.drew) B5.out 0).trans rfl, BT.out⟩ : w3.drew.cell? ⟨g3, 0, none⟩ = some (.pointer (some ⟨T, 0, none⟩)) ∧ w3.drew.cell? ⟨g4, 0, none⟩ = some (.int .i64 p) ∧ w3.drew.cell? ⟨g5, 0, none⟩ = some (.int .i64 f) ∧ TabB w3.drew T n (.slice A l.length c) C E)
  refine start_ (n := 8) (S := fun w' => w'.cell? ⟨g3, 0, none⟩ = some (.pointer (some ⟨T, 0, none⟩)) ∧ w'.cell? ⟨g4, 0, none⟩ = some (.int .i64 p) ∧ w'.cell? ⟨g5, 0, none⟩ = some (.int .i64 f) ∧ TabB w' T n (.slice A l.length c) C E) (ds := []) #[false, false, false, false, false, false, false, false] (by kernel_rfl) rfl rfl HS.out (fun hHeld => ?_)
  refine take_ (i := 0) (N := some 8) (v := ?_) (a' := ?_) #[true, false, false, false, false, false, false, false] rfl rfl (by kernel_rfl) (fun _ _ _ h => h) (Or.inl ⟨by rfl, ?_⟩) hHeld ?_ ?_
  rotate_left
  · rintro w' ⟨s0, s1, s2, s3⟩; go_simp; with_reducible rfl
  rotate_left
  · show Act.put _ _ _ = _
    simp only [Act.put, List.setIfInBounds_toArray, List.set_cons_zero, List.set_cons_succ, i64_w, i32_w]
    rfl
  refine take_ (i := 1) (N := some 9) (v := ?_) (a' := ?_) #[true, true, false, false, false, false, false, false] rfl rfl (by kernel_rfl) (fun _ _ _ h => h) (Or.inl ⟨by rfl, ?_⟩) hHeld ?_ ?_
  rotate_left
  · rintro w' ⟨s0, s1, s2, s3⟩; go_simp; with_reducible rfl
  rotate_left
  · show Act.put _ _ _ = _
    simp only [Act.put, List.setIfInBounds_toArray, List.set_cons_zero, List.set_cons_succ, i64_w, i32_w]
    rfl
  refine take_ (i := 2) (N := some 10) (v := ?_) (a' := ?_) #[true, true, true, false, false, false, false, false] rfl rfl (by kernel_rfl) (fun _ _ _ h => h) (Or.inl ⟨by rfl, ?_⟩) hHeld ?_ ?_
  rotate_left
  · rintro w' ⟨s0, s1, s2, s3⟩; go_simp; with_reducible rfl
  rotate_left
  · show Act.put _ _ _ = _
    simp only [Act.put, List.setIfInBounds_toArray, List.set_cons_zero, List.set_cons_succ, i64_w, i32_w]
    rfl
  refine pure_ (i := 3) (N := some 11) (v := ?_) (a' := ?_) #[true, true, true, true, false, false, false, false] rfl rfl (by kernel_rfl) (fun _ _ _ h => h) (Or.inl ⟨by rfl, ?_⟩) ?_ ?_
  rotate_left
  · intro w'
    go_simp; with_reducible rfl
  rotate_left
  · show Act.put _ _ _ = _
    simp only [Act.put, List.setIfInBounds_toArray, List.set_cons_zero, List.set_cons_succ, i64_w, i32_w]
    rfl
  refine pure_ (i := 4) (N := some 12) (v := ?_) (a' := ?_) #[true, true, true, true, true, false, false, false] rfl rfl (by kernel_rfl) (fun _ _ _ h => h) (Or.inl ⟨by rfl, ?_⟩) ?_ ?_
  rotate_left
  · intro w'
    go_simp; with_reducible rfl
  rotate_left
  · show Act.put _ _ _ = _
    simp only [Act.put, List.setIfInBounds_toArray, List.set_cons_zero, List.set_cons_succ, i64_w, i32_w]
    rfl
  refine pure_ (i := 5) (N := some 13) (v := ?_) (a' := ?_) #[true, true, true, true, true, true, false, false] rfl rfl (by kernel_rfl) (fun _ _ _ h => h) (Or.inl ⟨by rfl, ?_⟩) ?_ ?_
  rotate_left
  · intro w'
    refine (row_run _ _ (by rfl) T 2 p (by rfl) (by rfl) hp8).trans ?_; with_reducible rfl
  rotate_left
  · show Act.put _ _ _ = _
    simp only [Act.put, List.setIfInBounds_toArray, List.set_cons_zero, List.set_cons_succ, i64_w, i32_w]
    rfl
  refine pure_ (i := 6) (N := some 14) (v := ?_) (a' := ?_) #[true, true, true, true, true, true, true, false] rfl rfl (by kernel_rfl) (fun _ _ _ h => h) (Or.inl ⟨by rfl, ?_⟩) ?_ ?_
  rotate_left
  · intro w'
    refine (col_run _ _ (by rfl) T (2 + p * 8) f (by rfl) (by rfl) hf8).trans ?_; with_reducible rfl
  rotate_left
  · show Act.put _ _ _ = _
    simp only [Act.put, List.setIfInBounds_toArray, List.set_cons_zero, List.set_cons_succ, i64_w, i32_w]
    rfl
  refine take_ (i := 7) (N := some 15) (v := ?_) (a' := ?_) #[true, true, true, true, true, true, true, true] rfl rfl (by kernel_rfl) (fun _ _ _ h => h) (Or.inl ⟨by rfl, ?_⟩) hHeld ?_ ?_
  rotate_left
  · rintro w' ⟨s0, s1, s2, s3⟩; refine (load_run _ (by rfl) T (2 + p * 8 + f) cv (by rfl) (HC.out _ s3)).trans ?_; with_reducible rfl
  rotate_left
  · show Act.put _ _ _ = _
    simp only [Act.put, List.setIfInBounds_toArray, List.set_cons_zero, List.set_cons_succ, i64_w, i32_w]
    rfl
  refine done_ (by kernel_rfl) ?_
  have BT2 := Aside0.mk (show TabB w3.drew T n (.slice A l.length c) C E from BT.out)
  have C3 := Aside0.mk HS.out.1
  have C4 := Aside0.mk HS.out.2.1
  have C5 := Aside0.mk HS.out.2.2.1
  have HB2 := Aside0.mk (HB.out.drew : Below w.heap.size w w3.drew)
  clear HS hHeld B3 B4 B5 BT HB
  generalize w3.drew = w4 at BT2 C3 C4 C5 HB2 ⊢
  have hc4 := C4.out
  rcases HW.out with ⟨h1, h2⟩ | ⟨v, hv, h1, h2, _, _⟩
  · have hcv : cv = 1000 := HCV.out.trans h1
    have HV := Aside0.mk (show pursV l p f = -1 by unfold pursV; rw [h2]; rfl)
    clear h1 h2 HW HCV HC
    subst hcv
    go_wp2
    go_ret
    exact ⟨by rw [HV.out]; rfl, HB2.out⟩
  · have hcv : cv = (v : Int) := HCV.out.trans h1
    by_cases hv0 : v = 0
    · have HV := Aside0.mk (show pursV l p f = (p : Int) by unfold pursV; rw [h2, hv0]; rfl)
      have hcv0 : cv = 0 := by rw [hcv, hv0]; rfl
      clear h1 h2 HW HCV HC hcv
      subst hcv0
      go_wp2
      go_ret
      exact ⟨by rw [HV.out]; rfl, HB2.out⟩
    · obtain ⟨m, hm1, hm2, hm3⟩ := pursP_dist g HF.out p f hp hf v hv hv0 h1 h2
      have HM3 := Aside0.mk hm3
      have HM2 := Aside0.mk hm2
      have hb0 : (cv == 0) = false := by rw [beq_eq_false_iff_ne]; omega
      have hb1 : (cv == 1000) = false := by rw [beq_eq_false_iff_ne]; omega
      clear h1 h2 HW HCV HC hcv hm2 hm3 hv hv0
      go_wp2
      have HS := Aside0.mk (⟨C3.out, C4.out, C5.out, BT2.out⟩ : (fun w' : World => w'.cell? ⟨g3, 0, none⟩ = some (.pointer (some ⟨T, 0, none⟩)) ∧ w'.cell? ⟨g4, 0, none⟩ = some (.int .i64 p) ∧ w'.cell? ⟨g5, 0, none⟩ = some (.int .i64 f) ∧ TabB w' T n (.slice A l.length c) C E) w4.drew)
      refine start_ (n := 10) (S := fun w' => w'.cell? ⟨g3, 0, none⟩ = some (.pointer (some ⟨T, 0, none⟩)) ∧ w'.cell? ⟨g4, 0, none⟩ = some (.int .i64 p) ∧ w'.cell? ⟨g5, 0, none⟩ = some (.int .i64 f) ∧ TabB w' T n (.slice A l.length c) C E) (ds := []) #[false, false, false, false, false, false, false, false, false, false] (by kernel_rfl) rfl rfl HS.out (fun hHeld => ?_)
      refine take_ (i := 0) (N := some 21) (v := ?_) (a' := ?_) #[true, false, false, false, false, false, false, false, false, false] rfl rfl (by kernel_rfl) (fun _ _ _ h => h) (Or.inl ⟨by rfl, ?_⟩) hHeld ?_ ?_
      rotate_left
      · rintro w' ⟨s0, s1, s2, s3⟩; go_simp; with_reducible rfl
      rotate_left
      · show Act.put _ _ _ = _
        simp only [Act.put, List.setIfInBounds_toArray, List.set_cons_zero, List.set_cons_succ, i64_w, i32_w]
        rfl
      refine pure_ (i := 1) (N := some 22) (v := ?_) (a' := ?_) #[true, true, false, false, false, false, false, false, false, false] rfl rfl (by kernel_rfl) (fun _ _ _ h => h) (Or.inl ⟨by rfl, ?_⟩) ?_ ?_
      rotate_left
      · intro w'
        go_simp; with_reducible rfl
      rotate_left
      · show Act.put _ _ _ = _
        simp only [Act.put, List.setIfInBounds_toArray, List.set_cons_zero, List.set_cons_succ, i64_w, i32_w]
        rfl
      refine pure_ (i := 2) (N := some 23) (v := ?_) (a' := ?_) #[true, true, true, false, false, false, false, false, false, false] rfl rfl (by kernel_rfl) (fun _ _ _ h => h) (Or.inl ⟨by rfl, ?_⟩) ?_ ?_
      rotate_left
      · intro w'
        go_simp; with_reducible rfl
      rotate_left
      · show Act.put _ _ _ = _
        simp only [Act.put, List.setIfInBounds_toArray, List.set_cons_zero, List.set_cons_succ, i64_w, i32_w]
        rfl
      refine take_ (i := 3) (N := some 24) (v := ?_) (a' := ?_) #[true, true, true, true, false, false, false, false, false, false] rfl rfl (by kernel_rfl) (fun _ _ _ h => h) (Or.inl ⟨by rfl, ?_⟩) hHeld ?_ ?_
      rotate_left
      · rintro w' ⟨s0, s1, s2, s3⟩; refine (loadG_run _ (by rfl) T n (.slice A l.length c) C E (by rfl) s3 ⟨_, _, _, rfl⟩).trans ?_; with_reducible rfl
      rotate_left
      · show Act.put _ _ _ = _
        simp only [Act.put, List.setIfInBounds_toArray, List.set_cons_zero, List.set_cons_succ, i64_w, i32_w]
        rfl
      refine take_ (i := 4) (N := some 25) (v := ?_) (a' := ?_) #[true, true, true, true, true, false, false, false, false, false] rfl rfl (by kernel_rfl) (fun _ _ _ h => h) (Or.inl ⟨by rfl, ?_⟩) hHeld ?_ ?_
      rotate_left
      · rintro w' ⟨s0, s1, s2, s3⟩; go_simp; with_reducible rfl
      rotate_left
      · show Act.put _ _ _ = _
        simp only [Act.put, List.setIfInBounds_toArray, List.set_cons_zero, List.set_cons_succ, i64_w, i32_w]
        rfl
      refine pure_ (i := 7) (N := some 28) (v := ?_) (a' := ?_) #[true, true, true, true, true, false, false, true, false, false] rfl rfl (by kernel_rfl) (fun _ _ _ h => h) (Or.inl ⟨by rfl, ?_⟩) ?_ ?_
      rotate_left
      · intro w'
        go_simp; with_reducible rfl
      rotate_left
      · show Act.put _ _ _ = _
        simp only [Act.put, List.setIfInBounds_toArray, List.set_cons_zero, List.set_cons_succ, i64_w, i32_w]
        rfl
      have nB := Aside0.mk (HB2.out.drew)
      have n3 := Aside0.mk (show w4.drew.cell? ⟨g3, 0, none⟩ = some (.pointer (some ⟨T, 0, none⟩)) from C3.out)
      have n4 := Aside0.mk (show w4.drew.cell? ⟨g4, 0, none⟩ = some (.int .i64 p) from C4.out)
      have n5 := Aside0.mk (show w4.drew.cell? ⟨g5, 0, none⟩ = some (.int .i64 f) from C5.out)
      have nT := Aside0.mk (show TabB w4.drew T n (.slice A l.length c) C E from BT2.out)
      clear C3 C4 C5 BT2 HB2
      have C3 := n3
      have C4 := n4
      have C5 := n5
      have BT2 := nT
      have HB2 := nB
      clear n3 n4 n5 nT nB
      generalize w4.drew = w5 at C3 C4 C5 BT2 HB2 hHeld ⊢
      refine one_ (i := 5) (N := some 26) #[true, true, true, true, true, true, false, true, false, false] rfl rfl (by kernel_rfl) (by decide) (fun K hK => ?_)
      refine goes_ Try.func94 (by kernel_rfl) rfl #[.agg #[.int .i64 n, .slice A l.length c], .int .i64 p] (by rfl) rfl rfl (by (try simp only [List.map_toArray, List.map_cons, List.map_nil]); first | done | rfl) ?_
      (with_reducible refine (stay_c g p (by have := HLN.out; omega) A c hc _ (Kd.C_below HR.out HB2.out)).mono ?_)
      rintro e w6 ⟨rfl, hb⟩
      refine ⟨_, rfl, ?_⟩
      have n3 := Aside0.mk (pw_cell_below hb C3.out)
      have n4 := Aside0.mk (pw_cell_below hb C4.out)
      have n5 := Aside0.mk (pw_cell_below hb C5.out)
      have nT := Aside0.mk (BT2.out.below hb)
      have nB := Aside0.mk (below_step HB2.out hb)
      clear C3 C4 C5 BT2 HB2 hb
      have C3 := n3
      have C4 := n4
      have C5 := n5
      have BT2 := nT
      have HB2 := nB
      clear n3 n4 n5 nT nB
      refine hK.out _ _ ⟨C3.out, C4.out, C5.out, BT2.out⟩ (fun hHeld => ?_)
      clear hK K
      refine norm_ (a' := ?_) ?_ ?_
      rotate_left
      · show Act.put _ _ _ = _
        simp only [Act.put, List.setIfInBounds_toArray, List.set_cons_zero, List.set_cons_succ, i64_w, i32_w]
        rfl
      refine one_ (i := 6) (N := some 27) #[true, true, true, true, true, true, true, true, false, false] rfl rfl (by kernel_rfl) (by decide) (fun K hK => ?_)
      refine goes_ Try.func86 (by kernel_rfl) rfl #[.int .i64 ((stayN l p : Nat) : Int)] (by rfl) rfl rfl (by (try simp only [List.map_toArray, List.map_cons, List.map_nil]); first | done | rfl) ?_
      (with_reducible refine (list_c g p (by have := HLN.out; omega) _).mono ?_)
      rintro e w7 ⟨A7, c7, rfl, ho, hb⟩
      refine ⟨_, rfl, ?_⟩
      have HO := Aside0.mk ho
      clear ho
      have n3 := Aside0.mk (pw_cell_below hb C3.out)
      have n4 := Aside0.mk (pw_cell_below hb C4.out)
      have n5 := Aside0.mk (pw_cell_below hb C5.out)
      have nT := Aside0.mk (BT2.out.below hb)
      have nB := Aside0.mk (below_step HB2.out hb)
      clear C3 C4 C5 BT2 HB2 hb
      have C3 := n3
      have C4 := n4
      have C5 := n5
      have BT2 := nT
      have HB2 := nB
      clear n3 n4 n5 nT nB
      refine hK.out _ _ ⟨C3.out, C4.out, C5.out, BT2.out⟩ (fun hHeld => ?_)
      clear hK K
      refine norm_ (a' := ?_) ?_ ?_
      rotate_left
      · show Act.put _ _ _ = _
        simp only [Act.put, List.setIfInBounds_toArray, List.set_cons_zero, List.set_cons_succ, i64_w, i32_w]
        rfl
      refine one_ (i := 8) (N := some 29) #[true, true, true, true, true, true, true, true, true, false] rfl rfl (by kernel_rfl) (by decide) (fun K hK => ?_)
      refine goes_ Try.func93 (by kernel_rfl) rfl #[.slice A7 (stayL l p).length c7, .func (.func 95) #[] #[.pointer (some ⟨g3, 0, none⟩), .pointer (some ⟨g5, 0, none⟩), .pointer (some ⟨g4, 0, none⟩)]] (by rfl) rfl rfl (by (try simp only [List.map_toArray, List.map_cons, List.map_nil]); first | done | rfl) ?_
      have hcl : ∀ x ∈ stayL l p, ∀ q, Calls Try.prog 95 (#[.int .i64 x] ++ #[.pointer (some ⟨g3, 0, none⟩), .pointer (some ⟨g5, 0, none⟩), .pointer (some ⟨g4, 0, none⟩)]) (w7.drewN q) fun e w' => e = .returned (.bool (pursP C E p f x)) ∧ Drawn0 (w7.drewN q) w' := fun x hx q => by
        obtain ⟨u, rfl, hu, _⟩ := stayL_mem g p (by have := HLN.out; omega) x hx
        exact purs_closure n (.slice A l.length c) T C E HF.out.inC HF.out.inE p f u hp8 hf8 (by have := HLN.out; omega) g3 g5 g4 (w7.drewN q) BT2.out C3.out C5.out C4.out
      (with_reducible refine (idxFunc_mem (pursP C E p f) 95 #[.pointer (some ⟨g3, 0, none⟩), .pointer (some ⟨g5, 0, none⟩), .pointer (some ⟨g4, 0, none⟩)] A7 c7 (stayL l p) w7 eg_purs hcl (Kd.R_reads' HO.out).2.2).mono ?_)
      clear hcl
      rw [HM2.out]
      rintro e w8 ⟨rfl, hd_⟩
      refine ⟨_, rfl, ?_⟩
      have hb := hd_.below
      clear hd_ HO
      have n3 := Aside0.mk (pw_cell_below hb C3.out)
      have n4 := Aside0.mk (pw_cell_below hb C4.out)
      have n5 := Aside0.mk (pw_cell_below hb C5.out)
      have nT := Aside0.mk (BT2.out.below hb)
      have nB := Aside0.mk (below_step HB2.out hb)
      clear C3 C4 C5 BT2 HB2 hb
      have C3 := n3
      have C4 := n4
      have C5 := n5
      have BT2 := nT
      have HB2 := nB
      clear n3 n4 n5 nT nB
      refine hK.out _ _ ⟨C3.out, C4.out, C5.out, BT2.out⟩ (fun hHeld => ?_)
      clear hK K
      refine norm_ (a' := ?_) ?_ ?_
      rotate_left
      · show Act.put _ _ _ = _
        simp only [Act.put, List.setIfInBounds_toArray, List.set_cons_zero, List.set_cons_succ, i64_w, i32_w]
        rfl
      refine pure_ (i := 9) (N := some 7) (v := ?_) (a' := ?_) #[true, true, true, true, true, true, true, true, true, true] rfl rfl (by kernel_rfl) (fun _ _ _ h => h) (Or.inl ⟨by rfl, ?_⟩) ?_ ?_
      rotate_left
      · intro w'
        go_simp; with_reducible rfl
      rotate_left
      · show Act.put _ _ _ = _
        simp only [Act.put, List.setIfInBounds_toArray, List.set_cons_zero, List.set_cons_succ, i64_w, i32_w]
        rfl
      refine done_ (by kernel_rfl) ?_
      go_wp2
      have HS2 := Aside0.mk (⟨C3.out, C4.out, C5.out, BT2.out⟩ : (fun w' : World => w'.cell? ⟨g3, 0, none⟩ = some (.pointer (some ⟨T, 0, none⟩)) ∧ w'.cell? ⟨g4, 0, none⟩ = some (.int .i64 p) ∧ w'.cell? ⟨g5, 0, none⟩ = some (.int .i64 f) ∧ TabB w' T n (.slice A l.length c) C E) w8.drew)
      refine start_ (n := 11) (S := fun w' => w'.cell? ⟨g3, 0, none⟩ = some (.pointer (some ⟨T, 0, none⟩)) ∧ w'.cell? ⟨g4, 0, none⟩ = some (.int .i64 p) ∧ w'.cell? ⟨g5, 0, none⟩ = some (.int .i64 f) ∧ TabB w' T n (.slice A l.length c) C E) (ds := []) #[false, false, false, false, false, false, false, false, false, false, false] (by kernel_rfl) rfl rfl HS2.out (fun hHeld => ?_)
      refine take_ (i := 0) (N := some 30) (v := ?_) (a' := ?_) #[true, false, false, false, false, false, false, false, false, false, false] rfl rfl (by kernel_rfl) (fun _ _ _ h => h) (Or.inl ⟨by rfl, ?_⟩) hHeld ?_ ?_
      rotate_left
      · rintro w' ⟨s0, s1, s2, s3⟩; go_simp; with_reducible rfl
      rotate_left
      · show Act.put _ _ _ = _
        simp only [Act.put, List.setIfInBounds_toArray, List.set_cons_zero, List.set_cons_succ, i64_w, i32_w]
        rfl
      refine pure_ (i := 1) (N := some 31) (v := ?_) (a' := ?_) #[true, true, false, false, false, false, false, false, false, false, false] rfl rfl (by kernel_rfl) (fun _ _ _ h => h) (Or.inl ⟨by rfl, ?_⟩) ?_ ?_
      rotate_left
      · intro w'
        go_simp; with_reducible rfl
      rotate_left
      · show Act.put _ _ _ = _
        simp only [Act.put, List.setIfInBounds_toArray, List.set_cons_zero, List.set_cons_succ, i64_w, i32_w]
        rfl
      refine pure_ (i := 2) (N := some 32) (v := ?_) (a' := ?_) #[true, true, true, false, false, false, false, false, false, false, false] rfl rfl (by kernel_rfl) (fun _ _ _ h => h) (Or.inl ⟨by rfl, ?_⟩) ?_ ?_
      rotate_left
      · intro w'
        go_simp; with_reducible rfl
      rotate_left
      · show Act.put _ _ _ = _
        simp only [Act.put, List.setIfInBounds_toArray, List.set_cons_zero, List.set_cons_succ, i64_w, i32_w]
        rfl
      refine take_ (i := 3) (N := some 33) (v := ?_) (a' := ?_) #[true, true, true, true, false, false, false, false, false, false, false] rfl rfl (by kernel_rfl) (fun _ _ _ h => h) (Or.inl ⟨by rfl, ?_⟩) hHeld ?_ ?_
      rotate_left
      · rintro w' ⟨s0, s1, s2, s3⟩; refine (loadG_run _ (by rfl) T n (.slice A l.length c) C E (by rfl) s3 ⟨_, _, _, rfl⟩).trans ?_; with_reducible rfl
      rotate_left
      · show Act.put _ _ _ = _
        simp only [Act.put, List.setIfInBounds_toArray, List.set_cons_zero, List.set_cons_succ, i64_w, i32_w]
        rfl
      refine take_ (i := 4) (N := some 34) (v := ?_) (a' := ?_) #[true, true, true, true, true, false, false, false, false, false, false] rfl rfl (by kernel_rfl) (fun _ _ _ h => h) (Or.inl ⟨by rfl, ?_⟩) hHeld ?_ ?_
      rotate_left
      · rintro w' ⟨s0, s1, s2, s3⟩; go_simp; with_reducible rfl
      rotate_left
      · show Act.put _ _ _ = _
        simp only [Act.put, List.setIfInBounds_toArray, List.set_cons_zero, List.set_cons_succ, i64_w, i32_w]
        rfl
      refine pure_ (i := 7) (N := some 37) (v := ?_) (a' := ?_) #[true, true, true, true, true, false, false, true, false, false, false] rfl rfl (by kernel_rfl) (fun _ _ _ h => h) (Or.inl ⟨by rfl, ?_⟩) ?_ ?_
      rotate_left
      · intro w'
        go_simp; with_reducible rfl
      rotate_left
      · show Act.put _ _ _ = _
        simp only [Act.put, List.setIfInBounds_toArray, List.set_cons_zero, List.set_cons_succ, i64_w, i32_w]
        rfl
      have nB := Aside0.mk (HB2.out.drew)
      have n3 := Aside0.mk (show w8.drew.cell? ⟨g3, 0, none⟩ = some (.pointer (some ⟨T, 0, none⟩)) from C3.out)
      have n4 := Aside0.mk (show w8.drew.cell? ⟨g4, 0, none⟩ = some (.int .i64 p) from C4.out)
      have n5 := Aside0.mk (show w8.drew.cell? ⟨g5, 0, none⟩ = some (.int .i64 f) from C5.out)
      have nT := Aside0.mk (show TabB w8.drew T n (.slice A l.length c) C E from BT2.out)
      clear C3 C4 C5 BT2 HB2
      have C3 := n3
      have C4 := n4
      have C5 := n5
      have BT2 := nT
      have HB2 := nB
      clear n3 n4 n5 nT nB
      generalize w8.drew = w9 at C3 C4 C5 BT2 HB2 hHeld ⊢
      refine one_ (i := 5) (N := some 35) #[true, true, true, true, true, true, false, true, false, false, false] rfl rfl (by kernel_rfl) (by decide) (fun K hK => ?_)
      refine goes_ Try.func94 (by kernel_rfl) rfl #[.agg #[.int .i64 n, .slice A l.length c], .int .i64 p] (by rfl) rfl rfl (by (try simp only [List.map_toArray, List.map_cons, List.map_nil]); first | done | rfl) ?_
      (with_reducible refine (stay_c g p (by have := HLN.out; omega) A c hc _ (Kd.C_below HR.out HB2.out)).mono ?_)
      rintro e w10 ⟨rfl, hb⟩
      refine ⟨_, rfl, ?_⟩
      have n3 := Aside0.mk (pw_cell_below hb C3.out)
      have n4 := Aside0.mk (pw_cell_below hb C4.out)
      have n5 := Aside0.mk (pw_cell_below hb C5.out)
      have nT := Aside0.mk (BT2.out.below hb)
      have nB := Aside0.mk (below_step HB2.out hb)
      clear C3 C4 C5 BT2 HB2 hb
      have C3 := n3
      have C4 := n4
      have C5 := n5
      have BT2 := nT
      have HB2 := nB
      clear n3 n4 n5 nT nB
      refine hK.out _ _ ⟨C3.out, C4.out, C5.out, BT2.out⟩ (fun hHeld => ?_)
      clear hK K
      refine norm_ (a' := ?_) ?_ ?_
      rotate_left
      · show Act.put _ _ _ = _
        simp only [Act.put, List.setIfInBounds_toArray, List.set_cons_zero, List.set_cons_succ, i64_w, i32_w]
        rfl
      refine one_ (i := 6) (N := some 36) #[true, true, true, true, true, true, true, true, false, false, false] rfl rfl (by kernel_rfl) (by decide) (fun K hK => ?_)
      refine goes_ Try.func86 (by kernel_rfl) rfl #[.int .i64 ((stayN l p : Nat) : Int)] (by rfl) rfl rfl (by (try simp only [List.map_toArray, List.map_cons, List.map_nil]); first | done | rfl) ?_
      (with_reducible refine (list_c g p (by have := HLN.out; omega) _).mono ?_)
      rintro e w11 ⟨A11, c11, rfl, ho, hb⟩
      refine ⟨_, rfl, ?_⟩
      have HO := Aside0.mk ho
      clear ho
      have n3 := Aside0.mk (pw_cell_below hb C3.out)
      have n4 := Aside0.mk (pw_cell_below hb C4.out)
      have n5 := Aside0.mk (pw_cell_below hb C5.out)
      have nT := Aside0.mk (BT2.out.below hb)
      have nB := Aside0.mk (below_step HB2.out hb)
      clear C3 C4 C5 BT2 HB2 hb
      have C3 := n3
      have C4 := n4
      have C5 := n5
      have BT2 := nT
      have HB2 := nB
      clear n3 n4 n5 nT nB
      refine hK.out _ _ ⟨C3.out, C4.out, C5.out, BT2.out⟩ (fun hHeld => ?_)
      clear hK K
      refine norm_ (a' := ?_) ?_ ?_
      rotate_left
      · show Act.put _ _ _ = _
        simp only [Act.put, List.setIfInBounds_toArray, List.set_cons_zero, List.set_cons_succ, i64_w, i32_w]
        rfl
      have hmz : (m : Int) < ((stayL l p).length : Int) := by omega
      obtain ⟨ad, e1, hcell0⟩ := Kd.at_int (Kd.R_reads' HO.out).2.2 (m : Int) (by omega) hmz
      have hcell : w11.cell? (ad.add m) = some (.int .i64 ((stayL l p).getD m 0)) := hcell0
      clear hcell0 HO
      rw [HM3.out] at hcell
      subst e1
      refine pure_ (i := 8) (N := some 38) (v := ?_) (a' := ?_) #[true, true, true, true, true, true, true, true, true, false, false] rfl rfl (by kernel_rfl) (fun _ _ _ h => h) (Or.inl ⟨by rfl, ?_⟩) ?_ ?_
      rotate_left
      · intro w'
        go_simp; with_reducible rfl
      rotate_left
      · show Act.put _ _ _ = _
        simp only [Act.put, List.setIfInBounds_toArray, List.set_cons_zero, List.set_cons_succ, i64_w, i32_w]
        rfl
      refine one_ (i := 9) (N := some 39) #[true, true, true, true, true, true, true, true, true, true, false] rfl rfl (by kernel_rfl) (by decide) (fun K hK => ?_)
      refine read_step (.int .i64 (pursV l p f)) (by rfl) (by rfl) ?_ ?_
      · go_simp
      refine hK.out _ _ ⟨C3.out, C4.out, C5.out, BT2.out⟩ (fun hHeld => ?_)
      clear hK K
      refine norm_ (a' := ?_) ?_ ?_
      rotate_left
      · show Act.put _ _ _ = _
        simp only [Act.put, List.setIfInBounds_toArray, List.set_cons_zero, List.set_cons_succ, i64_w, i32_w]
        rfl
      refine pure_ (i := 10) (N := some 6) (v := ?_) (a' := ?_) #[true, true, true, true, true, true, true, true, true, true, true] rfl rfl (by kernel_rfl) (fun _ _ _ h => h) (Or.inl ⟨by rfl, ?_⟩) ?_ ?_
      rotate_left
      · intro w'
        go_simp; with_reducible rfl
      rotate_left
      · show Act.put _ _ _ = _
        simp only [Act.put, List.setIfInBounds_toArray, List.set_cons_zero, List.set_cons_succ, i64_w, i32_w]
        rfl
      refine done_ (by kernel_rfl) ?_
      go_wp2
      go_ret
      exact ⟨rfl, HB2.out⟩
end Go.Proofs.Ytilanbgciofkjaa.PA

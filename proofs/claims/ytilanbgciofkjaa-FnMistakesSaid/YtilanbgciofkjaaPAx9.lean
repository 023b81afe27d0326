-- Written by this claim's printing program (wip/tools/xprint.py) out of the translation; Lean checks it.
import Derived.Test.YtilanbgciofkjaaPAx0
import Derived.Test.YtilanbgciofkjaaPAx7
import Derived.Test.YtilanbgciofkjaaPAx8
namespace Go.Proofs.Ytilanbgciofkjaa.PA
open Go.RowKit Go.Proofs.YtilanbgciofkjaaW.PrintWords Go.Proofs.YtilanbgciofkjaaW.PrintLast Go.Proofs.YtilanbgciofkjaaW.PrintMore
attribute [local go_sem] max2_int min2_int max_two min_two max_three min_three max_four min_four   -- for this text's walks alone
set_option linter.unusedVariables false
set_option linter.unusedSimpArgs false

-- NOT PRINTED: function 93 (slices_IndexFunc_int_int)

-- NOT PRINTED: function 108 (slices_ContainsFunc_int_int)

/-! ### impl_Graph_isVertex: function 88 -/
def isVerP (a v : Int) : Bool := decide (0 ≤ v) && decide (v ≤ wrap64 (a - 1))
/-- the closure: v is no vertex -/
theorem isVer_closure (a x : Int) (B : Nat) (W : World) (hcell : W.cell? ⟨B, 0, none⟩ = some (.int .i64 a)) :
 Calls Try.prog 109 #[.int .i64 x, .pointer (some ⟨B, 0, none⟩)] W fun e w' => e = .returned (.bool (!isVerP a x)) ∧ Drawn0 W w' := by
 by_cases h0 : 0 ≤ x
 · have d0 : decide (0 ≤ x) = true := decide_eq_true h0
   go_enter Try.func109, Try.ntmps109
   go_wp2
   go_ret
   exact ⟨by simp [isVerP, h0], by repeat (first | exact Drawn0.refl _ | apply Drawn0.step)⟩
 · have d0 : decide (0 ≤ x) = false := decide_eq_false h0
   go_enter Try.func109, Try.ntmps109
   go_wp2
   go_ret
   exact ⟨by simp [isVerP, h0], by repeat (first | exact Drawn0.refl _ | apply Drawn0.step)⟩
/-- the place of the first element for which p holds, from k on -/
def fidx (p : Int → Bool) : List Int → Nat → Int
 | [], _ => -1
 | x :: xs, k => if p x then (k : Int) else fidx p xs (k + 1)
theorem fidx_any (p : Int → Bool) : ∀ (l : List Int) (k : Nat), decide (0 ≤ fidx p l k) = l.any p
 | [], _ => by simp [fidx]
 | x :: xs, k => by
  unfold fidx
  cases h : p x with
  | true => simp [h]
  | false => simp only [h, Bool.false_eq_true, if_false, List.any_cons, Bool.false_or]; exact fidx_any p xs (k + 1)
theorem fidx_at (p : Int → Bool) : ∀ (l : List Int) (k m : Nat), m < l.length → (∀ j, j < m → p (l.getD j 0) = false) → p (l.getD m 0) = true → fidx p l k = ((k + m : Nat) : Int)
 | [], _, m, h, _, _ => absurd h (Nat.not_lt_zero _)
 | x :: xs, k, 0, _, _, hp => by have : p x = true := hp; unfold fidx; rw [if_pos this]; rfl
 | x :: xs, k, m + 1, h, hj, hp => by
  have h0 : p x = false := hj 0 (by omega)
  unfold fidx
  rw [h0, if_neg (by decide), fidx_at p xs (k + 1) m (by simp only [List.length_cons] at h; omega) (fun j hjm => hj (j + 1) (by omega)) hp]
  omega
theorem fidx_no (p : Int → Bool) : ∀ (l : List Int) (k : Nat), (∀ j, j < l.length → p (l.getD j 0) = false) → fidx p l k = -1
 | [], _, _ => rfl
 | x :: xs, k, hj => by
  have h0 : p x = false := hj 0 (by simp)
  unfold fidx
  rw [h0, if_neg (by decide)]
  exact fidx_no p xs (k + 1) (fun j h => hj (j + 1) (by simp only [List.length_cons]; omega))
theorem entersOf {f : FuncId} {fn : Func} {c : Code} (hf : Try.prog.funcs[f]? = some fn) (hname : (fn.name == "runtime.NumGoroutine") = false) (hb : fn.body = some c) : ∀ args w, (callFunc f args).run Try.prog w = .ok (.enter f args) w := by
 intro args w
 have h1 : fn.name ≠ "runtime.NumGoroutine" := by simpa using hname
 simp [callFunc, hf, h1, hb, mark]
set_option maxHeartbeats 1000000 in
theorem slicesIndexFunc (p : Int → Bool) (g : Nat) (lb : Array Value) (A : Option Addr) (c : Nat) (l : List Int) (w : World) (eg : ∀ args w, (callFunc g args).run Try.prog w = .ok (.enter g args) w)
 (hp : ∀ x q, Calls Try.prog g (#[.int .i64 x] ++ lb) (w.drewN q) fun e w' => e = .returned (.bool (p x)) ∧ Drawn0 (w.drewN q) w') (hr : Kd.C (Kd.int .i64) w A l.length l) :
 Calls Try.prog 93 #[.slice A l.length c, .func (.func g) #[] lb] w fun e w' => e = .returned (.int .i64 (fidx p l 0)) ∧ Drawn0 w w' := by
 have hbig := hr.2.1
 have HR := Aside0.mk hr
 clear hr
 have FI : ∀ m, m < l.length → (∀ j, j < m → p (l.getD j 0) = false) → p (l.getD m 0) = true → fidx p l 0 = (m : Int) := fun m h1 h2 h3 => by have := fidx_at p l 0 m h1 h2 h3; simpa using this
 have FN : (∀ j, j < l.length → p (l.getD j 0) = false) → fidx p l 0 = -1 := fidx_no p l 0
 have FIa := Aside0.mk FI
 have FNa := Aside0.mk FN
 clear FI FN
 generalize fidx p l 0 = res at FIa FNa ⊢
 go_enter Try.func93, Try.ntmps93
 go_wp2
 go_loopg [5, 8] l.length (fun gg _ s8 wr => ∃ kk q : Nat, kk ≤ l.length ∧ l.length - kk ≤ gg ∧ s8 = .int .i64 kk ∧ wr = w.drewN q ∧ Aside0 (∀ j, j < kk → p (l.getD j 0) = false))
 case atStart => exact ⟨0, 0, Nat.zero_le _, by omega, rfl, rfl, ⟨fun j hj => absurd hj (Nat.not_lt_zero _)⟩⟩
 case round =>
  obtain ⟨kk, q, hkk, hg, rfl, rfl, AA⟩ := hrel
  by_cases hlt : kk < l.length
  · have hltz : (kk : Int) < (l.length : Int) := by omega
    obtain ⟨ad, e1, hcell0⟩ := Kd.at_int HR.out (kk : Int) (by omega) hltz
    subst e1
    have hcell : w.cell? (ad.add kk) = some (.int .i64 (l.getD kk 0)) := hcell0
    clear hcell0
    have hcall := hp (l.getD kk 0) q
    have PB : Aside0 (p (l.getD kk 0) = p (l.getD kk 0)) := ⟨rfl⟩
    generalize hy : l.getD kk 0 = y at hcell hcall PB
    have B : Aside0 (l.getD kk 0 = y) := ⟨hy⟩
    clear hy hp
    cases hq : p y with
    | true =>
     rw [hq] at hcall
     have Q : Aside0 (p y = true) := ⟨hq⟩
     clear hq PB
     have e3 := FIa.out kk hlt AA.out (by rw [B.out]; exact Q.out)
     clear FIa FNa
     subst e3
     go_wp2_with fail
     refine hcall.mono ?_
     rintro e w' ⟨rfl, ⟨q', rfl⟩⟩
     clear hcall
     go_wp2
     go_ret
     exact ⟨rfl, ⟨q + q', rfl⟩⟩
    | false =>
     rw [hq] at hcall
     have Q : Aside0 (p y = false) := ⟨hq⟩
     clear hq PB
     go_wp2_with fail
     refine hcall.mono ?_
     rintro e w' ⟨rfl, ⟨q', rfl⟩⟩
     clear hcall
     go_wp2
     go_roundg (l.length - (kk + 1))
     case measure => omega
     case rel =>
      refine ⟨kk + 1, q + q', by omega, by omega, by go_num, rfl, ⟨fun j hj => ?_⟩⟩
      by_cases e : j = kk
      · subst e
        rw [B.out]; exact Q.out
      · exact AA.out j (by omega)
  · have hltz : ¬ (kk : Int) < (l.length : Int) := by omega
    have e1 : kk = l.length := by omega
    subst e1
    have e3 := FNa.out AA.out
    clear FIa FNa
    subst e3
    go_wp2
    go_ret
    exact ⟨rfl, ⟨q, rfl⟩⟩
set_option maxHeartbeats 1000000 in
theorem slicesContainsFunc (p : Int → Bool) (g : Nat) (lb : Array Value) (A : Option Addr) (c : Nat) (l : List Int) (w : World) (eg : ∀ args w, (callFunc g args).run Try.prog w = .ok (.enter g args) w)
 (hp : ∀ x q, Calls Try.prog g (#[.int .i64 x] ++ lb) (w.drewN q) fun e w' => e = .returned (.bool (p x)) ∧ Drawn0 (w.drewN q) w') (hr : Kd.C (Kd.int .i64) w A l.length l) :
 Calls Try.prog 108 #[.slice A l.length c, .func (.func g) #[] lb] w fun e w' => e = .returned (.bool (l.any p)) ∧ Drawn0 w w' := by
 have hcon := slicesIndexFunc p g lb A c l w eg hp hr
 rw [← fidx_any p l 0]
 clear hp hr eg
 generalize fidx p l 0 = res at hcon ⊢
 go_enter Try.func108, Try.ntmps108
 go_wp2_with (go_at_call 93; refine hcon.mono ?_; rintro e w' ⟨rfl, ⟨q', rfl⟩⟩; clear hcon)
 go_ret
 exact ⟨rfl, ⟨q', rfl⟩⟩
def impl_Graph_isVertex.f (a0_0 : Int) (l0_1 : List Int) (l1 : List Int) : Option (Bool) := some (!(l1.any fun v => !isVerP a0_0 v))
set_option maxHeartbeats 1000000 in
theorem impl_Graph_isVertex.calls (a0_0 : Int) (A0_1 : Option Addr) (c0_1 : Nat) (l0_1 : List Int) (A1 : Option Addr) (c1 : Nat) (l1 : List Int) (r : Bool) (w : World) (hr0_1 : Kd.C (Kd.int .i64) w A0_1 l0_1.length l0_1) (hc0_1 : l0_1.length ≤ c0_1) (hr1 : Kd.C (Kd.int .i64) w A1 l1.length l1) (hc1 : l1.length ≤ c1) (h : impl_Graph_isVertex.f a0_0 l0_1 l1 = some r) :
 Calls Try.prog 88 #[.agg #[.int .i64 a0_0, .slice A0_1 l0_1.length c0_1], .slice A1 l1.length c1] w fun e w' => e = .returned (.bool r) ∧ Below w.heap.size w w' := by
 have hu := Try.underlying27
 obtain rfl := Option.some.inj h
 have eg : ∀ args w, (callFunc 109 args).run Try.prog w = .ok (.enter 109 args) w := entersOf Try.func109 (by kernel_rfl) rfl
 have hcon := slicesContainsFunc (fun v => !isVerP a0_0 v) 109 #[.pointer (some ⟨w.heap.size, 0, none⟩)] A1 c1 l1 (w.alloc (.cells #[.int .i64 a0_0, .slice A0_1 l0_1.length c0_1] 27)) eg
  (fun x q => isVer_closure a0_0 x w.heap.size _ (by simp)) (Kd.C_alloc hr1 _)
 clear hr0_1 hr1 hc1 hc0_1 eg
 generalize (l1.any fun v => !isVerP a0_0 v) = res at hcon ⊢
 go_enter Try.func88, Try.ntmps88
 go_wp2_with (go_at_call 108; refine hcon.mono ?_; rintro e w' ⟨rfl, ⟨q', rfl⟩⟩; clear hcon)
 go_ret
 exact ⟨rfl, pw_below_drewN (below_alloc (Below.refl _ _) _) _⟩

/-! ### impl_Graph_hold: function 62 -/
def impl_Graph_hold.f (k : Nat) (a0_0 : Int) (l0_1 : List Int) (l1 : List Int) : Option (Bool) := (impl_GraphOk.f k a0_0 l0_1).bind fun t174 => (if t174 = true then ((impl_Graph_isVertex.f a0_0 l0_1 l1).bind fun t175 => (some t175)) else (some false))
theorem impl_Graph_hold.mono : ∀ a0 a1 a2 k, LeO (impl_Graph_hold.f k a0 a1 a2) (impl_Graph_hold.f (k + 1) a0 a1 a2) := by
 intro a0 a1 a2 k
 unfold impl_Graph_hold.f
 repeat' first
  | (with_reducible exact impl_GraphOk.mono _ _ _)
  | (with_reducible exact LeO.refl _)
  | (with_reducible exact LeO.none _)
  | (with_reducible refine LeO.ite ?_ ?_)
  | (with_reducible refine LeO.bind ?_ (fun _ => ?_))
  | exact impl_GraphOk.mono _ _ _
  | exact LeO.none _
  | refine LeO.ite ?_ ?_
  | refine LeO.bind ?_ (fun _ => ?_)
set_option maxHeartbeats 8000000 in
set_option maxRecDepth 100000 in
theorem impl_Graph_hold.calls (k : Nat) (a0_0 : Int) (A0_1 : Option Addr) (c0_1 : Nat) (l0_1 : List Int) (A1 : Option Addr) (c1 : Nat) (l1 : List Int) (r : Bool) (w : World) (hr0_1 : Kd.C (Kd.int .i64) w A0_1 l0_1.length l0_1) (hc0_1 : l0_1.length ≤ c0_1) (hr1 : Kd.C (Kd.int .i64) w A1 l1.length l1) (hc1 : l1.length ≤ c1) (h : impl_Graph_hold.f k a0_0 l0_1 l1 = some r) :
 Calls Try.prog 62 #[.agg #[.int .i64 a0_0, .slice A0_1 l0_1.length c0_1], .slice A1 l1.length c1] w fun e w' => e = .returned (.bool r) ∧ Below w.heap.size w w' := by
 have hu27 := Try.underlying27
 have HR0_1 := Aside0.mk hr0_1
 have HC0_1 := Aside0.mk hc0_1
 clear hr0_1 hc0_1
 have HR1 := Aside0.mk hr1
 have HC1 := Aside0.mk hc1
 clear hr1 hc1
 have HB := Aside0.mk (Below.refl w.heap.size w)
 have H : ((impl_GraphOk.f k a0_0 l0_1).bind fun t174 => (if t174 = true then ((impl_Graph_isVertex.f a0_0 l0_1 l1).bind fun t175 => (some t175)) else (some false))) = some r := h
 clear h
 replace H := Option.bind_eq_some_iff.mp H
 obtain ⟨t174, A30, H⟩ := H
 replace H : (if t174 = true then ((impl_Graph_isVertex.f a0_0 l0_1 l1).bind fun t175 => (some t175)) else (some false)) = some r := H
 have A3 := Aside0.mk A30
 clear A30
 by_cases c4 : t174 = true
 · subst c4
   have H1 : ((impl_Graph_isVertex.f a0_0 l0_1 l1).bind fun t175 => (some t175)) = some r := by rw [if_pos rfl] at H; exact H
   clear H
   have H := H1
   clear H1
   replace H := Option.bind_eq_some_iff.mp H
   obtain ⟨t175, A50, H⟩ := H
   replace H : (some t175) = some r := H
   have A5 := Aside0.mk A50
   clear A50
   obtain rfl := Option.some.inj H
   go_enter Try.func62, Try.ntmps62
   go_wp2_with (first | ((with_reducible refine gate_dst (N := 2) rfl ?_); refine box_event ?hg (N := 2) ?hd (cs := #[.int .i64 a0_0, .slice A0_1 l0_1.length c0_1]) (t := 27) ?hr ?_; (case hd => rfl); (case hg => rfl); (case hr => first | (go_simp; done) | (go_simp; rfl)); intro gb173 hg w6 hbox hb; have n0_ := Aside0.mk (below_step (by repeat (first | (with_reducible first | exact HB.out | apply below_alloc | apply pw_below_drewN | apply below_drew1) | exact HB.out)) hb); have n1_ := Aside0.mk (hbox); have n2_ := Aside0.mk ((by rw [hg]; exact (below_size (by repeat (first | (with_reducible first | exact HB.out | apply below_alloc | apply pw_below_drewN | apply below_drew1) | exact HB.out))) : w.heap.size ≤ gb173)); have n3_ := Aside0.mk ((by rw [hg]; exact (below_size (by repeat (first | (with_reducible first | exact HB.out | apply below_alloc | apply pw_below_drewN | apply below_drew1) | exact HB.out))) : w.heap.size ≤ gb173)); clear HB; have HB := n0_; have BK173 := n1_; have GW173 := n2_; have GE173 := n3_; clear n0_ n1_ n2_ n3_; clear hb hbox hg; have hcz7_0 : w6.cell? ⟨gb173, 0, none⟩ = some (.int .i64 a0_0) := (blk_cell BK173.out 0).trans rfl; have hcz7_1 : w6.cell? ⟨gb173, 1, none⟩ = some (.slice A0_1 l0_1.length c0_1) := (blk_cell BK173.out 1).trans rfl; have hfz7_0 := blk_frozen BK173.out 0; have hfz7_1 := blk_frozen BK173.out 1) | ((with_reducible refine gate_callee (f := 69) rfl ?_); refine goesL_ (some 6) rfl rfl Try.func69 (by kernel_rfl) rfl #[.agg #[.int .i64 a0_0, .slice A0_1 l0_1.length c0_1]] rfl (by (try simp only [List.map_toArray, List.map_cons, List.map_nil]); first | done | rfl | (simp only [List.length_drop, List.length_take]; rfl)) ?_; (with_reducible refine (impl_GraphOk.calls k a0_0 _ _ l0_1 true _ ?side1 ?side2 A3.out).mono ?_); (case side1 => repeat (first | exact (Kd.C_below HR0_1.out HB.out) | (with_reducible refine Kd.C_alloc ?_ _) | (with_reducible refine Kd.C_drewN ?_ _) | (with_reducible refine Kd.C_drew ?_))); (case side2 => exact HC0_1.out); rintro e w8 ⟨rfl, hb⟩; refine ⟨_, rfl, ?_⟩; have n0_ := Aside0.mk (blk_below (g := gb173) (o := .cells #[.int .i64 a0_0, .slice A0_1 l0_1.length c0_1] 27 (0, 0)) (by (with_reducible repeat (first | refine blk_drewN ?_ _ | refine blk_drew ?_ | refine blk_alloc ?_ _)); exact BK173.out) hb); have n1_ := Aside0.mk (below_step (by repeat (first | (with_reducible first | exact HB.out | apply below_alloc | apply pw_below_drewN | apply below_drew1 | refine below_set ?_ GE173.out) | exact HB.out)) hb); clear BK173; clear HB; have BK173 := n0_; have HB := n1_; clear n0_ n1_; (try clear hb); (try clear hb2); (try clear hk); (try clear hi); have hcz9_0 : w8.cell? ⟨gb173, 0, none⟩ = some (.int .i64 a0_0) := (blk_cell BK173.out 0).trans rfl; have hcz9_1 : w8.cell? ⟨gb173, 1, none⟩ = some (.slice A0_1 l0_1.length c0_1) := (blk_cell BK173.out 1).trans rfl; have hfz9_0 := blk_frozen BK173.out 0; have hfz9_1 := blk_frozen BK173.out 1) | (go_at_call 88; (with_reducible refine (impl_Graph_isVertex.calls a0_0 _ _ l0_1 _ _ l1 t175 _ ?side1 ?side2 ?side3 ?side4 A5.out).mono ?_); (case side1 => repeat (first | exact (Kd.C_below HR0_1.out HB.out) | (with_reducible refine Kd.C_alloc ?_ _) | (with_reducible refine Kd.C_drewN ?_ _) | (with_reducible refine Kd.C_drew ?_))); (case side2 => exact HC0_1.out); (case side3 => repeat (first | exact (Kd.C_below HR1.out HB.out) | (with_reducible refine Kd.C_alloc ?_ _) | (with_reducible refine Kd.C_drewN ?_ _) | (with_reducible refine Kd.C_drew ?_))); (case side4 => exact HC1.out); rintro e w10 ⟨rfl, hb⟩; have n0_ := Aside0.mk (blk_below (g := gb173) (o := .cells #[.int .i64 a0_0, .slice A0_1 l0_1.length c0_1] 27 (0, 0)) (by (with_reducible repeat (first | refine blk_drewN ?_ _ | refine blk_drew ?_ | refine blk_alloc ?_ _)); exact BK173.out) hb); have n1_ := Aside0.mk (below_step (by repeat (first | (with_reducible first | exact HB.out | apply below_alloc | apply pw_below_drewN | apply below_drew1 | refine below_set ?_ GE173.out) | exact HB.out)) hb); clear BK173; clear HB; have BK173 := n0_; have HB := n1_; clear n0_ n1_; (try clear hb); (try clear hb2); (try clear hk); (try clear hi)))
   go_ret
   exact ⟨by first | rfl | (simp [errW_none, errW_some] <;> rfl) | (simp [*, errW_none, errW_some] <;> rfl), by repeat (first | (with_reducible first | exact HB.out | apply below_alloc | apply pw_below_drewN | apply below_drew1 | refine below_set ?_ GE173.out) | exact HB.out)⟩
 · replace c4 := Bool.eq_false_iff.mpr c4
   subst c4
   have H1 : (some false) = some r := by rw [if_neg (show ¬ (false = true) by decide)] at H; exact H
   clear H
   have H := H1
   clear H1
   obtain rfl := Option.some.inj H
   go_enter Try.func62, Try.ntmps62
   go_wp2_with (first | ((with_reducible refine gate_dst (N := 2) rfl ?_); refine box_event ?hg (N := 2) ?hd (cs := #[.int .i64 a0_0, .slice A0_1 l0_1.length c0_1]) (t := 27) ?hr ?_; (case hd => rfl); (case hg => rfl); (case hr => first | (go_simp; done) | (go_simp; rfl)); intro gb173 hg w11 hbox hb; have n0_ := Aside0.mk (below_step (by repeat (first | (with_reducible first | exact HB.out | apply below_alloc | apply pw_below_drewN | apply below_drew1) | exact HB.out)) hb); have n1_ := Aside0.mk (hbox); have n2_ := Aside0.mk ((by rw [hg]; exact (below_size (by repeat (first | (with_reducible first | exact HB.out | apply below_alloc | apply pw_below_drewN | apply below_drew1) | exact HB.out))) : w.heap.size ≤ gb173)); have n3_ := Aside0.mk ((by rw [hg]; exact (below_size (by repeat (first | (with_reducible first | exact HB.out | apply below_alloc | apply pw_below_drewN | apply below_drew1) | exact HB.out))) : w.heap.size ≤ gb173)); clear HB; have HB := n0_; have BK173 := n1_; have GW173 := n2_; have GE173 := n3_; clear n0_ n1_ n2_ n3_; clear hb hbox hg; have hcz12_0 : w11.cell? ⟨gb173, 0, none⟩ = some (.int .i64 a0_0) := (blk_cell BK173.out 0).trans rfl; have hcz12_1 : w11.cell? ⟨gb173, 1, none⟩ = some (.slice A0_1 l0_1.length c0_1) := (blk_cell BK173.out 1).trans rfl; have hfz12_0 := blk_frozen BK173.out 0; have hfz12_1 := blk_frozen BK173.out 1) | ((with_reducible refine gate_callee (f := 69) rfl ?_); refine goesL_ (some 6) rfl rfl Try.func69 (by kernel_rfl) rfl #[.agg #[.int .i64 a0_0, .slice A0_1 l0_1.length c0_1]] rfl (by (try simp only [List.map_toArray, List.map_cons, List.map_nil]); first | done | rfl | (simp only [List.length_drop, List.length_take]; rfl)) ?_; (with_reducible refine (impl_GraphOk.calls k a0_0 _ _ l0_1 false _ ?side1 ?side2 A3.out).mono ?_); (case side1 => repeat (first | exact (Kd.C_below HR0_1.out HB.out) | (with_reducible refine Kd.C_alloc ?_ _) | (with_reducible refine Kd.C_drewN ?_ _) | (with_reducible refine Kd.C_drew ?_))); (case side2 => exact HC0_1.out); rintro e w13 ⟨rfl, hb⟩; refine ⟨_, rfl, ?_⟩; have n0_ := Aside0.mk (blk_below (g := gb173) (o := .cells #[.int .i64 a0_0, .slice A0_1 l0_1.length c0_1] 27 (0, 0)) (by (with_reducible repeat (first | refine blk_drewN ?_ _ | refine blk_drew ?_ | refine blk_alloc ?_ _)); exact BK173.out) hb); have n1_ := Aside0.mk (below_step (by repeat (first | (with_reducible first | exact HB.out | apply below_alloc | apply pw_below_drewN | apply below_drew1 | refine below_set ?_ GE173.out) | exact HB.out)) hb); clear BK173; clear HB; have BK173 := n0_; have HB := n1_; clear n0_ n1_; (try clear hb); (try clear hb2); (try clear hk); (try clear hi)))
   go_ret
   exact ⟨by first | rfl | (simp [errW_none, errW_some] <;> rfl) | (simp [*, errW_none, errW_some] <;> rfl), by repeat (first | (with_reducible first | exact HB.out | apply below_alloc | apply pw_below_drewN | apply below_drew1 | refine below_set ?_ GE173.out) | exact HB.out)⟩

/-! ### impl_told: function 63 -/
def impl_told.f (a0 : Int) : Option (Int) := if a0 ≥ 1000 then (some (-1)) else (some a0)
set_option maxHeartbeats 8000000 in
set_option maxRecDepth 100000 in
theorem impl_told.calls (a0 : Int) (r : Int) (w : World) (h : impl_told.f a0 = some r) :
 Calls Try.prog 63 #[.int .i64 a0] w fun e w' => e = .returned (.int .i64 r) ∧ Drawn0 w w' := by
 have H : (if a0 ≥ 1000 then (some (-1)) else (some a0)) = some r := h
 clear h
 by_cases c2 : a0 ≥ 1000
 · rw [if_pos c2] at H
   have c2b0 : decide (1000 ≤ a0) = true := decide_eq_true c2
   clear c2
   obtain rfl := Option.some.inj H
   go_enter Try.func63, Try.ntmps63
   go_wp2
   go_ret
   exact ⟨by first | rfl | (simp; done) | (simp [*]; done), by repeat (first | exact Drawn0.refl _ | apply Drawn0.step)⟩
 · rw [if_neg c2] at H
   have c2b0 : decide (1000 ≤ a0) = false := decide_eq_false c2
   clear c2
   obtain rfl := Option.some.inj H
   go_enter Try.func63, Try.ntmps63
   go_wp2
   go_ret
   exact ⟨by first | rfl | (simp; done) | (simp [*]; done), by repeat (first | exact Drawn0.refl _ | apply Drawn0.step)⟩

/-! ### impl_isSet: function 107 -/
def impl_isSet.f (a0 : Int) : Option (Bool) := (impl_in.f a0 0 255).bind fun t176 => (some t176)
set_option maxHeartbeats 8000000 in
set_option maxRecDepth 100000 in
theorem impl_isSet.calls (a0 : Int) (r : Bool) (w : World) (h : impl_isSet.f a0 = some r) :
 Calls Try.prog 107 #[.int .i64 a0] w fun e w' => e = .returned (.bool r) ∧ Drawn0 w w' := by
 have H : ((impl_in.f a0 0 255).bind fun t176 => (some t176)) = some r := h
 clear h
 replace H := Option.bind_eq_some_iff.mp H
 obtain ⟨t176, A20, H⟩ := H
 replace H : (some t176) = some r := H
 have A2 := Aside0.mk A20
 clear A20
 obtain rfl := Option.some.inj H
 go_enter Try.func107, Try.ntmps107
 go_wp2_with (first | ((with_reducible refine gate_callee (f := 87) rfl ?_); refine goesL_ (some 4) rfl rfl Try.func87 (by kernel_rfl) rfl #[.int .i64 a0, .int .i64 0, .int .i64 255] rfl (by (try simp only [List.map_toArray, List.map_cons, List.map_nil]); first | done | rfl | (simp only [List.length_drop, List.length_take]; rfl)) ?_; (with_reducible refine (impl_in.calls a0 0 255 t176 _ A2.out).mono ?_); rintro e w' ⟨rfl, ⟨nd, rfl⟩⟩; refine ⟨_, rfl, ?_⟩))
 go_ret
 exact ⟨by first | rfl | (simp; done) | (simp [*]; done), by repeat (first | exact Drawn0.refl _ | apply Drawn0.step)⟩

end Go.Proofs.Ytilanbgciofkjaa.PA

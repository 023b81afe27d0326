-- Written by this claim's printing program (wip/tools/xprint.py) out of the translation; Lean checks it.
import Derived.Test.YtjpaaihohkiomaaPAx0
namespace Go.Proofs.Ytjpaaihohkiomaa.PA
open Go.RowKit Go.Proofs.YtjpaaihohkiomaaW.PrintWords Go.Proofs.YtjpaaihohkiomaaW.PrintLast Go.Proofs.YtjpaaihohkiomaaW.PrintMore
attribute [local go_sem] max2_int min2_int max_two min_two max_three min_three max_four min_four   -- for this text's walks alone
set_option linter.unusedVariables false
set_option linter.unusedSimpArgs false

-- NOT PRINTED: function 95 (slices_IndexFunc_int_int)

-- NOT PRINTED: function 87 (slices_ContainsFunc_int_int)

/-! ### impl_Graph_isVertex: function 64 -/
def isVerP (a v : Int) : Bool := decide (0 ≤ v) && decide (v ≤ wrap64 (a - 1))
/-- the closure: v is no vertex -/
theorem isVer_closure (a x : Int) (B : Nat) (W : World) (hcell : W.cell? ⟨B, 0, none⟩ = some (.int .i64 a)) :
    Calls Try.prog 88 #[.int .i64 x, .pointer (some ⟨B, 0, none⟩)] W fun e w' => e = .returned (.bool (!isVerP a x)) ∧ Drawn0 W w' := by
  by_cases h0 : 0 ≤ x
  · have d0 : decide (0 ≤ x) = true := decide_eq_true h0
    go_enter Try.func88, Try.ntmps88
    go_wp2
    go_ret
    exact ⟨by simp [isVerP, h0], by repeat (first | exact Drawn0.refl _ | apply Drawn0.step)⟩
  · have d0 : decide (0 ≤ x) = false := decide_eq_false h0
    go_enter Try.func88, Try.ntmps88
    go_wp2
    go_ret
    exact ⟨by simp [isVerP, h0], by repeat (first | exact Drawn0.refl _ | apply Drawn0.step)⟩
/-- the place of the first element for which p holds, from k on -/
def fidx (p : Int → Bool) : List Int → Nat → Int
  | [], _ => -1
  | x :: xs, k => if p x then (k : Int) else fidx p xs (k + 1)
theorem fidx_any (p : Int → Bool) : ∀ (l : List Int) (k : Nat), decide (0 ≤ fidx p l k) = l.any p
  | [], _ => by simp [fidx]
  | x :: xs, k => by
    unfold fidx
    cases h : p x with
    | true => simp [h]
    | false => simp only [h, Bool.false_eq_true, if_false, List.any_cons, Bool.false_or]; exact fidx_any p xs (k + 1)
theorem fidx_at (p : Int → Bool) : ∀ (l : List Int) (k m : Nat), m < l.length → (∀ j, j < m → p (l.getD j 0) = false) → p (l.getD m 0) = true → fidx p l k = ((k + m : Nat) : Int)
  | [], _, m, h, _, _ => absurd h (Nat.not_lt_zero _)
  | x :: xs, k, 0, _, _, hp => by have : p x = true := hp; unfold fidx; rw [if_pos this]; rfl
  | x :: xs, k, m + 1, h, hj, hp => by
    have h0 : p x = false := hj 0 (by omega)
    unfold fidx
    rw [h0, if_neg (by decide), fidx_at p xs (k + 1) m (by simp only [List.length_cons] at h; omega) (fun j hjm => hj (j + 1) (by omega)) hp]
    omega
theorem fidx_no (p : Int → Bool) : ∀ (l : List Int) (k : Nat), (∀ j, j < l.length → p (l.getD j 0) = false) → fidx p l k = -1
  | [], _, _ => rfl
  | x :: xs, k, hj => by
    have h0 : p x = false := hj 0 (by simp)
    unfold fidx
    rw [h0, if_neg (by decide)]
    exact fidx_no p xs (k + 1) (fun j h => hj (j + 1) (by simp only [List.length_cons]; omega))
theorem entersOf {f : FuncId} {fn : Func} {c : Code} (hf : Try.prog.funcs[f]? = some fn) (hname : (fn.name == "runtime.NumGoroutine") = false) (hb : fn.body = some c) : ∀ args w, (callFunc f args).run Try.prog w = .ok (.enter f args) w := by
  intro args w
  have h1 : fn.name ≠ "runtime.NumGoroutine" := by simpa using hname
  simp [callFunc, hf, h1, hb, mark]
set_option maxHeartbeats 1000000 in
theorem slicesIndexFunc (p : Int → Bool) (g : Nat) (lb : Array Value) (A : Option Addr) (c : Nat) (l : List Int) (w : World) (eg : ∀ args w, (callFunc g args).run Try.prog w = .ok (.enter g args) w)
    (hp : ∀ x q, Calls Try.prog g (#[.int .i64 x] ++ lb) (w.drewN q) fun e w' => e = .returned (.bool (p x)) ∧ Drawn0 (w.drewN q) w') (hr : Kd.C (Kd.int .i64) w A l.length l) :
    Calls Try.prog 95 #[.slice A l.length c, .func (.func g) #[] lb] w fun e w' => e = .returned (.int .i64 (fidx p l 0)) ∧ Drawn0 w w' := by
  have hbig := hr.2.1
  have HR := Aside0.mk hr
  clear hr
  have FI : ∀ m, m < l.length → (∀ j, j < m → p (l.getD j 0) = false) → p (l.getD m 0) = true → fidx p l 0 = (m : Int) := fun m h1 h2 h3 => by have := fidx_at p l 0 m h1 h2 h3; simpa using this
  have FN : (∀ j, j < l.length → p (l.getD j 0) = false) → fidx p l 0 = -1 := fidx_no p l 0
  have FIa := Aside0.mk FI
  have FNa := Aside0.mk FN
  clear FI FN
  generalize fidx p l 0 = res at FIa FNa ⊢
  go_enter Try.func95, Try.ntmps95
  go_wp2
  go_loopg [5, 8] l.length (fun gg _ s8 wr => ∃ kk q : Nat, kk ≤ l.length ∧ l.length - kk ≤ gg ∧ s8 = .int .i64 kk ∧ wr = w.drewN q ∧ Aside0 (∀ j, j < kk → p (l.getD j 0) = false))
  case atStart => exact ⟨0, 0, Nat.zero_le _, by omega, rfl, rfl, ⟨fun j hj => absurd hj (Nat.not_lt_zero _)⟩⟩
  case round =>
    obtain ⟨kk, q, hkk, hg, rfl, rfl, AA⟩ := hrel
    by_cases hlt : kk < l.length
    · have hltz : (kk : Int) < (l.length : Int) := by omega
      obtain ⟨ad, e1, hcell0⟩ := Kd.at_int HR.out (kk : Int) (by omega) hltz
      subst e1
      have hcell : w.cell? (ad.add kk) = some (.int .i64 (l.getD kk 0)) := hcell0
      clear hcell0
      have hcall := hp (l.getD kk 0) q
      have PB : Aside0 (p (l.getD kk 0) = p (l.getD kk 0)) := ⟨rfl⟩
      generalize hy : l.getD kk 0 = y at hcell hcall PB
      have B : Aside0 (l.getD kk 0 = y) := ⟨hy⟩
      clear hy hp
      cases hq : p y with
      | true =>
        rw [hq] at hcall
        have Q : Aside0 (p y = true) := ⟨hq⟩
        clear hq PB
        have e3 := FIa.out kk hlt AA.out (by rw [B.out]; exact Q.out)
        clear FIa FNa
        subst e3
        go_wp2_with fail
        refine hcall.mono ?_
        rintro e w' ⟨rfl, ⟨q', rfl⟩⟩
        clear hcall
        go_wp2
        go_ret
        exact ⟨rfl, ⟨q + q', rfl⟩⟩
      | false =>
        rw [hq] at hcall
        have Q : Aside0 (p y = false) := ⟨hq⟩
        clear hq PB
        go_wp2_with fail
        refine hcall.mono ?_
        rintro e w' ⟨rfl, ⟨q', rfl⟩⟩
        clear hcall
        go_wp2
        go_roundg (l.length - (kk + 1))
        case measure => omega
        case rel =>
          refine ⟨kk + 1, q + q', by omega, by omega, by go_num, rfl, ⟨fun j hj => ?_⟩⟩
          by_cases e : j = kk
          · subst e
            rw [B.out]; exact Q.out
          · exact AA.out j (by omega)
    · have hltz : ¬ (kk : Int) < (l.length : Int) := by omega
      have e1 : kk = l.length := by omega
      subst e1
      have e3 := FNa.out AA.out
      clear FIa FNa
      subst e3
      go_wp2
      go_ret
      exact ⟨rfl, ⟨q, rfl⟩⟩
set_option maxHeartbeats 1000000 in
theorem slicesContainsFunc (p : Int → Bool) (g : Nat) (lb : Array Value) (A : Option Addr) (c : Nat) (l : List Int) (w : World) (eg : ∀ args w, (callFunc g args).run Try.prog w = .ok (.enter g args) w)
    (hp : ∀ x q, Calls Try.prog g (#[.int .i64 x] ++ lb) (w.drewN q) fun e w' => e = .returned (.bool (p x)) ∧ Drawn0 (w.drewN q) w') (hr : Kd.C (Kd.int .i64) w A l.length l) :
    Calls Try.prog 87 #[.slice A l.length c, .func (.func g) #[] lb] w fun e w' => e = .returned (.bool (l.any p)) ∧ Drawn0 w w' := by
  have hcon := slicesIndexFunc p g lb A c l w eg hp hr
  rw [← fidx_any p l 0]
  clear hp hr eg
  generalize fidx p l 0 = res at hcon ⊢
  go_enter Try.func87, Try.ntmps87
  go_wp2_with (go_at_call 95; refine hcon.mono ?_; rintro e w' ⟨rfl, ⟨q', rfl⟩⟩; clear hcon)
  go_ret
  exact ⟨rfl, ⟨q', rfl⟩⟩
def impl_Graph_isVertex.f (a0_0 : Int) (l0_1 : List Int) (l1 : List Int) : Option (Bool) := some (!(l1.any fun v => !isVerP a0_0 v))
set_option maxHeartbeats 1000000 in
theorem impl_Graph_isVertex.calls (a0_0 : Int) (A0_1 : Option Addr) (c0_1 : Nat) (l0_1 : List Int) (A1 : Option Addr) (c1 : Nat) (l1 : List Int) (r : Bool) (w : World) (hr0_1 : Kd.C (Kd.int .i64) w A0_1 l0_1.length l0_1) (hc0_1 : l0_1.length ≤ c0_1) (hr1 : Kd.C (Kd.int .i64) w A1 l1.length l1) (hc1 : l1.length ≤ c1) (h : impl_Graph_isVertex.f a0_0 l0_1 l1 = some r) :
    Calls Try.prog 64 #[.agg #[.int .i64 a0_0, .slice A0_1 l0_1.length c0_1], .slice A1 l1.length c1] w fun e w' => e = .returned (.bool r) ∧ Below w.heap.size w w' := by
  have hu := Try.underlying35
  obtain rfl := Option.some.inj h
  have eg : ∀ args w, (callFunc 88 args).run Try.prog w = .ok (.enter 88 args) w := entersOf Try.func88 (by kernel_rfl) rfl
  have hcon := slicesContainsFunc (fun v => !isVerP a0_0 v) 88 #[.pointer (some ⟨w.heap.size, 0, none⟩)] A1 c1 l1 (w.alloc (.cells #[.int .i64 a0_0, .slice A0_1 l0_1.length c0_1] 35)) eg
    (fun x q => isVer_closure a0_0 x w.heap.size _ (by simp)) (Kd.C_alloc hr1 _)
  clear hr0_1 hr1 hc1 hc0_1 eg
  generalize (l1.any fun v => !isVerP a0_0 v) = res at hcon ⊢
  go_enter Try.func64, Try.ntmps64
  go_wp2_with (go_at_call 87; refine hcon.mono ?_; rintro e w' ⟨rfl, ⟨q', rfl⟩⟩; clear hcon)
  go_ret
  exact ⟨rfl, pw_below_drewN (below_alloc (Below.refl _ _) _) _⟩

/-! ### impl_bit: function 83 -/
def impl_bit.f (a0 : Int) : Option (Int) := if 0 ≤ a0 then (some (shl .i64 1 a0)) else (none)
set_option maxHeartbeats 8000000 in
set_option maxRecDepth 100000 in
theorem impl_bit.calls (a0 : Int) (r : Int) (w : World) (h : impl_bit.f a0 = some r) :
    Calls Try.prog 83 #[.int .i64 a0] w fun e w' => e = .returned (.int .i64 r) ∧ Drawn0 w w' := by
  have H : (if 0 ≤ a0 then (some (shl .i64 1 a0)) else (none)) = some r := h
  clear h
  by_cases c2 : 0 ≤ a0
  · rw [if_pos c2] at H
    have c2b0 := eq_true c2
    have c2b1 : decide (0 ≤ a0) = true := decide_eq_true c2
    clear c2
    obtain ⟨ji3, hji3⟩ : ∃ j_ : Int, (shl .i64 1 a0) = j_ := ⟨_, rfl⟩
    replace H : (some ji3) = some r := by first | (rw [hji3] at H; exact H) | (simp only [hji3] at H ⊢; exact H)
    have hji3_ : (IntKind.i64.wrap (1 * 2 ^ min a0.toNat 64)) = ji3 := hji3
    have hji3z : a0 ≤ 64 → (IntKind.i64.wrap (1 * 2 ^ a0.toNat)) = ji3 := shl_small hji3
    have hji3u : (IntKind.i64.wrap (2 ^ min a0.toNat 64)) = ji3 := by have h_ := hji3_; rw [Int.one_mul] at h_; exact h_
    have hji3v : a0 ≤ 64 → (IntKind.i64.wrap (2 ^ a0.toNat)) = ji3 := fun hle_ => by have h_ := hji3z hle_; rw [Int.one_mul] at h_; exact h_
    have hji3y : (wrap64 (1 * 2 ^ min a0.toNat 64)) = ji3 := (i64_w _).symm.trans hji3_
    have hji3x : a0 ≤ 64 → (wrap64 (1 * 2 ^ a0.toNat)) = ji3 := fun h_ => (i64_w _).symm.trans (hji3z h_)
    obtain rfl := Option.some.inj H
    go_enter Try.func83, Try.ntmps83
    go_wp2
    go_ret
    exact ⟨by first | rfl | (simp; done) | (simp only [← hji3] <;> (first | rfl | simp)) | (simp [*]; done), by repeat (first | exact Drawn0.refl _ | apply Drawn0.step)⟩
  · rw [if_neg c2] at H
    exact absurd H (by simp)

/-! ### impl_Graph_all: function 58 -/
def impl_Graph_all.f (a0_0 : Int) (l0_1 : List Int) : Option (Int) := (impl_bit.f a0_0).bind fun t139 => (some (wrap64 (t139 - 1)))
set_option maxHeartbeats 8000000 in
set_option maxRecDepth 100000 in
theorem impl_Graph_all.calls (a0_0 : Int) (A0_1 : Option Addr) (c0_1 : Nat) (l0_1 : List Int) (r : Int) (w : World) (hr0_1 : Kd.C (Kd.int .i64) w A0_1 l0_1.length l0_1) (hc0_1 : l0_1.length ≤ c0_1) (h : impl_Graph_all.f a0_0 l0_1 = some r) :
    Calls Try.prog 58 #[.agg #[.int .i64 a0_0, .slice A0_1 l0_1.length c0_1]] w fun e w' => e = .returned (.int .i64 r) ∧ Below w.heap.size w w' := by
  have hu35 := Try.underlying35
  have HR0_1 := Aside0.mk hr0_1
  have HC0_1 := Aside0.mk hc0_1
  clear hr0_1 hc0_1
  have HB := Aside0.mk (Below.refl w.heap.size w)
  have H : ((impl_bit.f a0_0).bind fun t139 => (some (wrap64 (t139 - 1)))) = some r := h
  clear h
  replace H := Option.bind_eq_some_iff.mp H
  obtain ⟨t139, A20, H⟩ := H
  replace H : (some (wrap64 (t139 - 1))) = some r := H
  have A2 := Aside0.mk A20
  clear A20
  obtain rfl := Option.some.inj H
  go_enter Try.func58, Try.ntmps58
  go_wp2_with (first | ((with_reducible refine gate_dst (N := 1) rfl ?_); refine box_event ?hg (N := 1) ?hd (cs := #[.int .i64 a0_0, .slice A0_1 l0_1.length c0_1]) (t := 35) ?hr ?_; (case hd => rfl); (case hg => rfl); (case hr => first | (go_simp; done) | (go_simp; rfl)); intro gb138 hg w3 hbox hb; have n0_ := Aside0.mk (below_step (by repeat (first | (with_reducible first | exact HB.out | apply below_alloc | apply pw_below_drewN | apply below_drew1) | exact HB.out)) hb); have n1_ := Aside0.mk (hbox); have n2_ := Aside0.mk ((by rw [hg]; exact (below_size (by repeat (first | (with_reducible first | exact HB.out | apply below_alloc | apply pw_below_drewN | apply below_drew1) | exact HB.out))) : w.heap.size ≤ gb138)); have n3_ := Aside0.mk ((by rw [hg]; exact (below_size (by repeat (first | (with_reducible first | exact HB.out | apply below_alloc | apply pw_below_drewN | apply below_drew1) | exact HB.out))) : w.heap.size ≤ gb138)); clear HB; have HB := n0_; have BK138 := n1_; have GW138 := n2_; have GE138 := n3_; clear n0_ n1_ n2_ n3_; clear hb hbox hg; have hcz4_0 : w3.cell? ⟨gb138, 0, none⟩ = some (.int .i64 a0_0) := (blk_cell BK138.out 0).trans rfl; have hcz4_1 : w3.cell? ⟨gb138, 1, none⟩ = some (.slice A0_1 l0_1.length c0_1) := (blk_cell BK138.out 1).trans rfl; have hfz4_0 := blk_frozen BK138.out 0; have hfz4_1 := blk_frozen BK138.out 1) | ((with_reducible refine gate_callee (f := 83) rfl ?_); refine goesL_ (some 5) rfl rfl Try.func83 (by kernel_rfl) rfl #[.int .i64 a0_0] rfl (by (try simp only [List.map_toArray, List.map_cons, List.map_nil]); first | done | rfl | (simp only [List.length_drop, List.length_take]; rfl)) ?_; (with_reducible refine (impl_bit.calls a0_0 t139 _ A2.out).mono ?_); rintro e w' ⟨rfl, ⟨nd, rfl⟩⟩; refine ⟨_, rfl, ?_⟩))
  go_ret
  exact ⟨by first | rfl | (simp [errW_none, errW_some] <;> rfl) | (simp [*, errW_none, errW_some] <;> rfl), by repeat (first | (with_reducible first | exact HB.out | apply below_alloc | apply pw_below_drewN | apply below_drew1 | refine below_set ?_ GE138.out) | exact HB.out)⟩

/-! ### impl_has: function 70 -/
def impl_has.f (a0 : Int) (a1 : Int) : Option (Bool) := if 0 ≤ a1 then (some ((Go.bits .and .i64 (shr .i64 a0 a1) 1) == 1)) else (none)
set_option maxHeartbeats 8000000 in
set_option maxRecDepth 100000 in
theorem impl_has.calls (a0 : Int) (a1 : Int) (r : Bool) (w : World) (h : impl_has.f a0 a1 = some r) :
    Calls Try.prog 70 #[.int .i64 a0, .int .i64 a1] w fun e w' => e = .returned (.bool r) ∧ Drawn0 w w' := by
  have H : (if 0 ≤ a1 then (some ((Go.bits .and .i64 (shr .i64 a0 a1) 1) == 1)) else (none)) = some r := h
  clear h
  by_cases c3 : 0 ≤ a1
  · rw [if_pos c3] at H
    have c3b0 := eq_true c3
    have c3b1 : decide (0 ≤ a1) = true := decide_eq_true c3
    clear c3
    obtain ⟨ji4, hji4⟩ : ∃ j_ : Int, (shr .i64 a0 a1) = j_ := ⟨_, rfl⟩
    replace H : (some ((Go.bits .and .i64 (ji4) 1) == 1)) = some r := by first | (rw [hji4] at H; exact H) | (simp only [hji4] at H ⊢; exact H)
    have hji4_ : (a0 / 2 ^ min a1.toNat 64) = ji4 := hji4
    have hji4z : a1 ≤ 64 → (a0 / 2 ^ a1.toNat) = ji4 := shr_small hji4
    obtain rfl := Option.some.inj H
    go_enter Try.func70, Try.ntmps70
    go_wp2
    go_ret
    exact ⟨by first | rfl | (simp; done) | (simp only [← hji4] <;> (first | rfl | simp)) | (simp [*]; done), by repeat (first | exact Drawn0.refl _ | apply Drawn0.step)⟩
  · rw [if_neg c3] at H
    exact absurd H (by simp)

/-! ### impl_in: function 77 -/
def impl_in.f (a0 : Int) (a1 : Int) (a2 : Int) : Option (Bool) := if a1 ≤ a0 then (some (decide (a0 ≤ a2))) else (some false)
set_option maxHeartbeats 8000000 in
set_option maxRecDepth 100000 in
theorem impl_in.calls (a0 : Int) (a1 : Int) (a2 : Int) (r : Bool) (w : World) (h : impl_in.f a0 a1 a2 = some r) :
    Calls Try.prog 77 #[.int .i64 a0, .int .i64 a1, .int .i64 a2] w fun e w' => e = .returned (.bool r) ∧ Drawn0 w w' := by
  have H : (if a1 ≤ a0 then (some (decide (a0 ≤ a2))) else (some false)) = some r := h
  clear h
  by_cases c4 : a1 ≤ a0
  · rw [if_pos c4] at H
    have c4b0 : decide (a1 ≤ a0) = true := decide_eq_true c4
    clear c4
    obtain rfl := Option.some.inj H
    go_enter Try.func77, Try.ntmps77
    go_wp2
    go_ret
    exact ⟨by first | rfl | (simp; done) | (simp [*]; done), by repeat (first | exact Drawn0.refl _ | apply Drawn0.step)⟩
  · rw [if_neg c4] at H
    have c4b0 : decide (a1 ≤ a0) = false := decide_eq_false c4
    clear c4
    obtain rfl := Option.some.inj H
    go_enter Try.func77, Try.ntmps77
    go_wp2
    go_ret
    exact ⟨by first | rfl | (simp; done) | (simp [*]; done), by repeat (first | exact Drawn0.refl _ | apply Drawn0.step)⟩

end Go.Proofs.Ytjpaaihohkiomaa.PA

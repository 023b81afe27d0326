/- Games that are played: the walk. -/
import Derived.Test.YtilanbgciofkjaaTpurs
import Derived.Test.YtilanbgciofkjaaTworst
import Derived.Test.YtilanbgciofkjaaEplay
import Derived.Test.YtilanbgciofkjaaPAx7
import Derived.Test.YtilanbgciofkjaaPAx9
namespace Go.Proofs.Ytilanbgciofkjaa.PA
open Go.RowKit Go.Proofs.YtilanbgciofkjaaW.PrintWords Go.Proofs.YtilanbgciofkjaaW.PrintLast Go.Proofs.YtilanbgciofkjaaW.PrintMore Go.Proofs.Ytilanbgciofkjaa.Pure
attribute [local go_sem] max2_int min2_int max_two min_two max_three min_three max_four min_four
set_option linter.unusedVariables false
set_option linter.unusedSimpArgs false
abbrev KI (w : World) (base : Nat) (v : Value) (xs : List Int) : Prop := Kd.R (Kd.int .i64) 3 w base (fun _ => True) v xs
/-- a cell of its own that holds one number -/
def LitB (w : World) (b : Nat) (y : Int) : Prop := w.heap[b]? = some (.cells #[.int .i64 y] 3 (0, 0))
theorem app_run {W : World} (base : Nat) (v : Value) (xs : List Int) (b : Nat) (y : Int) (ty : TypeId) (HO : KI W base v xs) (hl : LitB W b y) (hbase : base ≤ W.heap.size) (hlen : xs.length ≤ 1000) :
    ∃ v1 w1, (Builtin.append_ #[22, 22] ty #[v, .slice (some ⟨b, 0, none⟩) 1 1]).run Try.prog W = .ok v1 w1 ∧ KI w1 base v1 (xs ++ [y]) ∧ W.grownBy w1 v.ownBlock ∧ (v1.ownBlock = v.ownBlock ∨ v1.ownBlock = some W.heap.size) := by
  obtain ⟨i0, hi, hzz⟩ := Option.map_eq_some_iff.1 info_int
  simp only [Prod.mk.injEq] at hzz
  obtain ⟨hz0, hz1, hz2⟩ := hzz
  have hcells : ∀ (j : Nat) u, (nums .i64 [y])[j]? = some u → W.cell? ((⟨b, 0, none⟩ : Addr).add j) = some u := by
    intro j u hu
    have hj : j = 0 := by
      rcases j with _ | j
      · rfl
      · simp [nums] at hu
    subst hj
    simp [nums] at hu
    subst hu
    have e : (⟨b, 0, none⟩ : Addr).add 0 = ⟨b, 0, none⟩ := by unfold Addr.add; split <;> simp_all
    rw [e]
    exact (blk_cell hl 0).trans rfl
  have hown := Kd.own_of_R HO
  obtain ⟨v1, w1, hr, h2, h3, _, h5⟩ := run_append_own_at (P := Try.prog) W base 22 ty 3 i0 (.int .i64 0) 1 8 Try.underlying22 hi hz0 hz1 hz2 rfl (by omega) v xs.length (encs (Value.int .i64) xs) hown ⟨b, 0, none⟩ 1 1 (nums .i64 [y]) (by simp [nums]) hcells
    (by intro u hu; simp only [nums, List.mem_map] at hu; obtain ⟨q, _, rfl⟩ := hu; rfl) (by simp only [maxLen]; omega) (by omega) hbase
  refine ⟨v1, w1, hr, ?_, h3, h5⟩
  refine Kd.R_of_own ?_ (fun _ _ => trivial)
  have e : (xs ++ [y]).length = xs.length + 1 := by simp
  rw [e]
  simpa [encs, nums] using h2
/-- all that the game keeps in memory -/
structure PlS (w0 : World) (T : Nat) (n : Int) (s : Value) (C E : List Int) (g5 g10 g13 : Nat) (rP rF vP : Value) (P : List Int) (vF : Value) (F : List Int) (w : World) : Prop where
  tab : TabB w T n s C E
  gb : w.heap[g5]? = some (.cells #[.int .i64 n, s] 27 (0, 0))
  rb : w.heap[g10]? = some (.cells #[.slice none 0 0, .slice none 0 0] 42 (0, 0))
  rc : w.heap[g13]? = some (.cells #[rP, rF] 42 (0, 0))
  hP : KI w w0.heap.size vP P
  hF : KI w w0.heap.size vF F
  ap : ∀ k, vP.ownBlock = some k → ∀ j, vF.ownBlock = some j → k ≠ j
  bel : Below w0.heap.size w0 w
section
variable {w0 : World} {T : Nat} {n : Int} {s : Value} {C E : List Int} {g5 g10 g13 : Nat} {rP rF vP : Value} {P : List Int} {vF : Value} {F : List Int} {w w1 : World}
theorem PlS.below (h : PlS w0 T n s C E g5 g10 g13 rP rF vP P vF F w) (hb : Below w.heap.size w w1) : PlS w0 T n s C E g5 g10 g13 rP rF vP P vF F w1 :=
  ⟨h.tab.below hb, blk_below h.gb hb, blk_below h.rb hb, blk_below h.rc hb, Kd.R_below h.hP hb, Kd.R_below h.hF hb, h.ap, below_step h.bel hb⟩
theorem own_ne {v : Value} {xs : List Int} {base g : Nat} {t : TypeId} {cs : Array Value} (h : KI w base v xs) (hg : w.heap[g]? = some (.cells cs t (0, 0))) (hne : t ≠ 3) : some g ≠ v.ownBlock := by
  intro e
  obtain ⟨cells, hc⟩ := own_typed (Kd.own_of_R h) g e.symm
  rw [hg] at hc
  injection hc with hc
  injection hc with _ hc
  exact hne hc
/-- an append to the pursuer's list -/
theorem PlS.appP (h : PlS w0 T n s C E g5 g10 g13 rP rF vP P vF F w) (b : Nat) (y : Int) (hl : LitB w b y) (hlen : P.length ≤ 1000) (ty : TypeId) :
    ∃ v1 w1, (Builtin.append_ #[22, 22] ty #[vP, .slice (some ⟨b, 0, none⟩) 1 1]).run Try.prog w = .ok v1 w1 ∧ PlS w0 T n s C E g5 g10 g13 rP rF v1 (P ++ [y]) vF F w1 ∧ (∀ b' y', LitB w b' y' → some b' ≠ vP.ownBlock → LitB w1 b' y') := by
  obtain ⟨v1, w1, hr, h1, hg, hat⟩ := app_run w0.heap.size vP P b y ty h.hP hl (below_size h.bel) hlen
  refine ⟨v1, w1, hr, ⟨blk_grown h.tab hg (own_ne h.hP h.tab (by decide)), blk_grown h.gb hg (own_ne h.hP h.gb (by decide)), blk_grown h.rb hg (own_ne h.hP h.rb (by decide)), blk_grown h.rc hg (own_ne h.hP h.rc (by decide)), h1, ?_, ?_, h.bel.grown hg (below_size h.bel) (fun k hk => own_base (Kd.own_of_R h.hP) k hk)⟩, fun b' y' hb' hne => blk_grown hb' hg hne⟩
  · exact Kd.R_mono (Kd.R_grown (own_ok h.hF) hg (fun k hk e => h.ap k e.symm k hk rfl)) (fun _ _ => trivial)
  · intro k hk j hj e
    rcases hat with hat | hat
    · exact h.ap k (hat ▸ hk) j hj e
    · rw [hat] at hk; injection hk with hk
      have := own_lt (Kd.own_of_R h.hF) j hj
      omega
theorem PlS.appF (h : PlS w0 T n s C E g5 g10 g13 rP rF vP P vF F w) (b : Nat) (y : Int) (hl : LitB w b y) (hlen : F.length ≤ 1000) (ty : TypeId) :
    ∃ v1 w1, (Builtin.append_ #[22, 22] ty #[vF, .slice (some ⟨b, 0, none⟩) 1 1]).run Try.prog w = .ok v1 w1 ∧ PlS w0 T n s C E g5 g10 g13 rP rF vP P v1 (F ++ [y]) w1 ∧ (∀ b' y', LitB w b' y' → some b' ≠ vF.ownBlock → LitB w1 b' y') := by
  obtain ⟨v1, w1, hr, h1, hg, hat⟩ := app_run w0.heap.size vF F b y ty h.hF hl (below_size h.bel) hlen
  refine ⟨v1, w1, hr, ⟨blk_grown h.tab hg (own_ne h.hF h.tab (by decide)), blk_grown h.gb hg (own_ne h.hF h.gb (by decide)), blk_grown h.rb hg (own_ne h.hF h.rb (by decide)), blk_grown h.rc hg (own_ne h.hF h.rc (by decide)), ?_, h1, ?_, h.bel.grown hg (below_size h.bel) (fun k hk => own_base (Kd.own_of_R h.hF) k hk)⟩, fun b' y' hb' hne => blk_grown hb' hg hne⟩
  · exact Kd.R_mono (Kd.R_grown (own_ok h.hP) hg (fun k hk e => h.ap k hk k e.symm rfl)) (fun _ _ => trivial)
  · intro k hk j hj e
    rcases hat with hat | hat
    · exact h.ap k hk j (hat ▸ hj) e
    · rw [hat] at hj; injection hj with hj
      have := own_lt (Kd.own_of_R h.hP) k hk
      omega
end
/-- what a game leaves -/
def PlayedP (r : List Int × List Int × Bool) (w : World) (e : Ending) (w' : World) : Prop :=
  ∃ v0_ v1_ : Value, e = .returned (.tuple #[.agg #[v0_, v1_], .bool r.2.2]) ∧ Kd.R (Kd.int .i64) 3 w' w.heap.size (fun k_ => some k_ ≠ (v1_ : Value).ownBlock) v0_ r.1 ∧ Kd.R (Kd.int .i64) 3 w' w.heap.size (fun k_ => some k_ ≠ (v0_ : Value).ownBlock) v1_ r.2.1 ∧ Below w.heap.size w w'
theorem built42 (a b : Value) (ha : ∃ A n c, a = .slice A n c) (hb : ∃ A n c, b = .slice A n c) : Try.prog.built 42 [(0, a), (1, b)] = some #[a, b] := by
  obtain ⟨A, n, c, rfl⟩ := ha
  obtain ⟨B, m, d, rfl⟩ := hb
  kernel_rfl
theorem build42_run {a : Act} {o : Oper} {W : World} (x y : Operand) (ho : o.op = .build 42 #[(0, x), (1, y)]) (u v : Value) (hx : a.eval x = u) (hy : a.eval y = v) (ha : ∃ A n c, u = .slice A n c) (hb : ∃ A n c, v = .slice A n c) : (execOp a.eval o).run Try.prog W = .ok (.value (.agg #[u, v])) W := by
  have h := run_build (P := Try.prog) W 42 #[(0, u), (1, v)] #[u, v] (built42 u v ha hb)
  unfold execOp
  simp only [ho, List.map_toArray, List.map_cons, List.map_nil, hx, hy, Sem.run_bind, h, Result.andThen_ok, Sem.run_pure]
theorem plS_start {w0 w9 w10 : World} {T : Nat} {n : Int} {s : Value} {C E : List Int} {g5 g10 g13 : Nat} {u v x y : Value} {P F : List Int} (hw : w10 = (w9.setCell ⟨g13, 0, none⟩ u).setCell ⟨g13, 1, none⟩ v) (hT : TabB w9 T n s C E) (hG : w9.heap[g5]? = some (.cells #[.int .i64 n, s] 27 (0, 0)))
    (hR : w9.heap[g10]? = some (.cells #[.slice none 0 0, .slice none 0 0] 42 (0, 0))) (hC : w9.heap[g13]? = some (.cells #[x, y] 42 (0, 0))) (hP : KI w9 w0.heap.size u P) (hF : KI w9 w0.heap.size v F) (ha : ∀ k, u.ownBlock = some k → ∀ j, v.ownBlock = some j → k ≠ j)
    (hB : Below w0.heap.size w0 w9) (hN : T ≠ g13 ∧ g5 ≠ g13 ∧ g10 ≠ g13) (hg : w0.heap.size ≤ g13) : PlS w0 T n s C E g5 g10 g13 u v u P v F w10 := by
  have far : ∀ (g' : Nat) (o : Obj), g' ≠ g13 → w9.heap[g']? = some o → w10.heap[g']? = some o := fun g' o hne h => by
    rw [hw, Below.heap_setCell _ _ _ _ hne, Below.heap_setCell _ _ _ _ hne]; exact h
  have hmv : ∀ {z : Value} {Z : List Int}, KI w9 w0.heap.size z Z → KI w10 w0.heap.size z Z := fun {z Z} h => by
    refine Kd.R_mono (Kd.R_move (own_ok h) (fun k hk => ?_)) (fun _ _ => trivial)
    have hne : k ≠ g13 := fun e => own_ne h hC (by decide) (by rw [hk, e])
    rw [hw, Below.heap_setCell _ _ _ _ hne, Below.heap_setCell _ _ _ _ hne]
  refine ⟨far _ _ hN.1 hT, far _ _ hN.2.1 hG, far _ _ hN.2.2 hR, ?_, hmv hP, hmv hF, ha, ?_⟩
  · rw [hw]
    exact blk_put (blk_put hC 0 u rfl) 1 v rfl
  · rw [hw]
    exact (hB.setCell hg u).setCell hg v
theorem store2_run {a : Act} {o : Oper} {W : World} (x y : Operand) (ho : o.op = .store 42 x y) (g : Nat) (u v p q : Value) (t : TypeId) (hx : a.eval x = .pointer (some ⟨g, 0, none⟩)) (hy : a.eval y = .agg #[u, v]) (hg : W.heap[g]? = some (.cells #[p, q] t (0, 0))) (ha : ∃ A n c, u = .slice A n c) (hb : ∃ A n c, v = .slice A n c) :
    (execOp a.eval o).run Try.prog W = .ok .skip ((W.setCell ⟨g, 0, none⟩ u).setCell ⟨g, 1, none⟩ v) := by
  obtain ⟨A, n, c, rfl⟩ := ha
  obtain ⟨B, m, d, rfl⟩ := hb
  have h0 : W.cell? ⟨g, 0, none⟩ = some p := (blk_cell hg 0).trans rfl
  have h1 : W.cell? ⟨g, 1, none⟩ = some q := (blk_cell hg 1).trans rfl
  have f0 := blk_frozen hg 0
  have f1 := blk_frozen hg 1
  unfold execOp
  rw [ho]
  simp only [hx, hy]
  clear hx hy ho hg
  go_simp
  all_goals (try rfl)
theorem PlS.drew {w0 : World} {T : Nat} {n : Int} {s : Value} {C E : List Int} {g5 g10 g13 : Nat} {rP rF vP : Value} {P : List Int} {vF : Value} {F : List Int} {w : World} (h : PlS w0 T n s C E g5 g10 g13 rP rF vP P vF F w) : PlS w0 T n s C E g5 g10 g13 rP rF vP P vF F w.drew := h.below (below_drew (Below.refl _ _))
theorem PlS.alloc {w0 : World} {T : Nat} {n : Int} {s : Value} {C E : List Int} {g5 g10 g13 : Nat} {rP rF vP : Value} {P : List Int} {vF : Value} {F : List Int} {w : World} (h : PlS w0 T n s C E g5 g10 g13 rP rF vP P vF F w) (o : Obj) : PlS w0 T n s C E g5 g10 g13 rP rF vP P vF F (w.alloc o) := h.below (below_alloc (Below.refl _ _) o)
theorem lit_new (w : World) (y : Int) : LitB (w.alloc (.cells #[.int .i64 y] 3 (0, 0))) w.heap.size y := blk_new w _
theorem lit_ne {w : World} {base : Nat} {v : Value} {xs : List Int} (h : KI w base v xs) : some w.heap.size ≠ v.ownBlock := fun e => by
  have := own_lt (Kd.own_of_R h) w.heap.size e.symm
  omega
theorem appOp_run {a : Act} {o : Oper} {W : World} (x y : Operand) (ho : o.op = .call { callee := .builtin .append, args := #[x, y], argTypes := #[22, 22] }) (u v r : Value) (W1 : World) (hx : a.eval x = u) (hy : a.eval y = v) (hr : (Builtin.append_ #[22, 22] o.type #[u, v]).run Try.prog W = .ok r W1) : (execOp a.eval o).run Try.prog W = .ok (.value r) W1 := by
  unfold execOp
  simp only [ho, resolve, invoke, builtin, Sem.run_bind, Sem.run_pure, Result.andThen_ok, List.map_toArray, List.map_cons, List.map_nil, hx, hy, hr]
theorem put22_run {a : Act} {o : Oper} {W : World} (x y : Operand) (ho : o.op = .store 22 x y) (g off : Nat) (u : Value) (A : Option Addr) (m c : Nat) (hx : a.eval x = .pointer (some ⟨g, off, none⟩)) (hy : a.eval y = .slice A m c) (hc : W.cell? ⟨g, off, none⟩ = some u) (hf : W.frozen? ⟨g, off, none⟩ = false) : (execOp a.eval o).run Try.prog W = .ok .skip (W.setCell ⟨g, off, none⟩ (.slice A m c)) := by
  unfold execOp
  rw [ho]
  simp only [hx, hy]
  clear hx hy ho
  go_simp
  all_goals (try rfl)
/-- the record is written anew -/
theorem PlS.stored {w0 : World} {T : Nat} {n : Int} {s : Value} {C E : List Int} {g5 g10 g13 : Nat} {rP rF vP : Value} {P : List Int} {vF : Value} {F : List Int} {w w1 : World} (h : PlS w0 T n s C E g5 g10 g13 rP rF vP P vF F w) (hw : w1 = (w.setCell ⟨g13, 0, none⟩ vP).setCell ⟨g13, 1, none⟩ vF) (hg : (g10 ≠ g13 ∧ g5 ≠ g13) ∧ w0.heap.size ≤ g13) : PlS w0 T n s C E g5 g10 g13 vP vF vP P vF F w1 :=
  plS_start hw h.tab h.gb h.rb h.rc h.hP h.hF h.ap h.bel ⟨blk_ne h.tab h.rc (by decide), hg.1.2, hg.1.1⟩ hg.2
/-- the record is handed back -/
theorem plS_end {w0 w w1 : World} {T : Nat} {n : Int} {s : Value} {C E : List Int} {g5 g10 g13 : Nat} {rP rF vP : Value} {P : List Int} {vF : Value} {F : List Int} (h : PlS w0 T n s C E g5 g10 g13 rP rF vP P vF F w) (hg : w0.heap.size ≤ g10) (hw : w1 = (w.setCell ⟨g10, 0, none⟩ vP).setCell ⟨g10, 1, none⟩ vF) :
    w1.heap[g10]? = some (.cells #[vP, vF] 42 (0, 0)) ∧ Kd.R (Kd.int .i64) 3 w1 w0.heap.size (fun k_ => some k_ ≠ vF.ownBlock) vP P ∧ Kd.R (Kd.int .i64) 3 w1 w0.heap.size (fun k_ => some k_ ≠ vP.ownBlock) vF F ∧ Below w0.heap.size w0 w1 := by
  have hmv : ∀ {z : Value} {Z : List Int}, KI w w0.heap.size z Z → Kd.R (Kd.int .i64) 3 w1 w0.heap.size (fun k => z.ownBlock = some k) z Z := fun {z Z} h2 => by
    refine Kd.R_move (own_ok h2) (fun k hk => ?_)
    have hne : k ≠ g10 := fun e => own_ne h2 h.rb (by decide) (by rw [hk, e])
    rw [hw, Below.heap_setCell _ _ _ _ hne, Below.heap_setCell _ _ _ _ hne]
  refine ⟨?_, Kd.R_mono (hmv h.hP) (fun k hk e => h.ap k hk k e.symm rfl), Kd.R_mono (hmv h.hF) (fun k hk e => h.ap k e.symm k hk rfl), ?_⟩
  · rw [hw]; exact blk_put (blk_put h.rb 0 vP rfl) 1 vF rfl
  · rw [hw]; exact (h.bel.setCell hg vP).setCell hg vF
theorem plS_fail {w0 w w1 : World} {g10 : Nat} (h : w.heap[g10]? = some (.cells #[.slice none 0 0, .slice none 0 0] 42 (0, 0))) (hb : Below w0.heap.size w0 w) (hg : w0.heap.size ≤ g10) (hw : w1 = (w.setCell ⟨g10, 0, none⟩ (.slice none 0 0)).setCell ⟨g10, 1, none⟩ (.slice none 0 0)) :
    w1.heap[g10]? = some (.cells #[.slice none 0 0, .slice none 0 0] 42 (0, 0)) ∧ Below w0.heap.size w0 w1 := by
  refine ⟨?_, ?_⟩
  · rw [hw]; exact blk_put (blk_put h 0 _ rfl) 1 _ rfl
  · rw [hw]; exact (hb.setCell hg _).setCell hg _
set_option maxHeartbeats 4000000 in
set_option maxRecDepth 100000 in
theorem played_c {n : Nat} {l : List Int} (g : GOk (n : Int) l) (A : Option Addr) (c : Nat) (hc : l.length ≤ c) (p0 f0 turns : Nat) (hp0 : p0 < n) (hf0 : f0 < n) (ht59 : turns ≤ 59) (gm : Nat) (lb : Array Value) (eg : ∀ args w, (callFunc gm args).run Try.prog w = .ok (.enter gm args) w) (mv : Nat → Nat → Nat → Int) (w : World) (hr : Kd.C (Kd.int .i64) w A l.length l)
    (hmv : ∀ (W : World) (T : Nat) (C E : List Int) (j p f : Nat), Below w.heap.size w W → TabB W T n (.slice A l.length c) C E → TabFin n l C E → p < n → f < n → j < turns → Calls Try.prog gm (#[.pointer (some ⟨T, 0, none⟩), .int .i64 j, .int .i64 p, .int .i64 f] ++ lb) W fun e w' => e = .returned (.int .i64 (mv j p f)) ∧ Below W.heap.size W w') :
    Calls Try.prog 77 #[.agg #[.int .i64 n, .slice A l.length c], .int .i64 p0, .int .i64 f0, .int .i64 turns, .func (.func gm) #[] lb] w fun e w' => PlayedP (played3 (playL l n mv turns 0 p0 f0 [(p0 : Int)] [(f0 : Int)])) w e w' := by
  have HLN := Aside0.mk (nlen g)
  have hn8 : n ≤ 8 := by have := g.len8; have := HLN.out; omega
  have HR := Aside0.mk hr
  have HMV := Aside0.mk hmv
  have HI := Aside0.mk (show impl_in.f (turns : Int) 0 59 = some true by rw [in_impl, decide_eq_true (by omega)])
  obtain ⟨k, hk⟩ := (hold_t (L := [(p0 : Int), (f0 : Int)]) g (by simp [verts]; omega)).rounds
  have HT := Aside0.mk hk
  clear hr hmv hk
  go_enter Try.func77, Try.ntmps77
  go_wp2_with (first
   | ((with_reducible refine gate_dst (N := 5) rfl ?_); refine box_event rfl (N := 5) rfl (cs := #[.int .i64 n, .slice A l.length c]) (t := 27) (by first | (go_simp; done) | (go_simp; rfl)) ?_; intro g5 hgb w1 hbox hb1;
         have BG := Aside0.mk hbox; have HB := Aside0.mk hb1; have hz0 : w1.cell? ⟨g5, 0, none⟩ = some (.int .i64 n) := (blk_cell BG.out 0).trans rfl; have hz1 : w1.cell? ⟨g5, 1, none⟩ = some (.slice A l.length c) := (blk_cell BG.out 1).trans rfl; clear hbox hgb hb1)
   | ((with_reducible refine gate_dst (N := 10) rfl ?_); refine box_event rfl (N := 10) rfl (cs := #[.slice none 0 0, .slice none 0 0]) (t := 42) (by first | (go_simp; done) | (go_simp; rfl)) ?_; intro g10 hg10 w2 hbox hb1;
         have BR := Aside0.mk hbox; have HGE := Aside0.mk (by rw [hg10]; exact below_size HB.out : w.heap.size ≤ g10); have n1 := Aside0.mk (blk_below BG.out hb1); have n2 := Aside0.mk (below_step HB.out hb1); clear hbox hg10 hb1 BG HB hz0 hz1; have BG := n1; have HB := n2; clear n1 n2;
         have hz0 : w2.cell? ⟨g5, 0, none⟩ = some (.int .i64 n) := (blk_cell BG.out 0).trans rfl; have hz1 : w2.cell? ⟨g5, 1, none⟩ = some (.slice A l.length c) := (blk_cell BG.out 1).trans rfl)
   | ((with_reducible refine gate_dst (N := 20) rfl ?_); refine Kd.R_lit (Kd.int .i64) _ 3 ?hg (N := 20) ?hd (xs := ([(p0 : Int), (f0 : Int)] : List Int)) (inner := [.int .i64 (p0 : Int), .int .i64 (f0 : Int)]) (ok := fun _ => True) (okp := fun _ => True) ?hr ?hp (fun _ hk => hk) trivial (Below.refl _ _) (Nat.le_refl _) (by simp) ?_; (case hd => rfl); (case hg => rfl); (case hr => first | (go_simp; done) | (go_simp; rfl)); (case hp => exact (Reps.one (show Kd.M (Kd.int .i64) _ _ _ (p0 : Int) [.int .i64 (p0 : Int)] from rfl) (Reps.one (show Kd.M (Kd.int .i64) _ _ _ (f0 : Int) [.int .i64 (f0 : Int)] from rfl) (Reps.none _ _)))); intro v20 w3 ho hb2 hg_ hnew_; clear hg_ hnew_;
         obtain ⟨A20, c20, e20⟩ := Kd.R_slice ho; subst e20;
         have HO := Aside0.mk ho; have n0 := Aside0.mk (blk_below BR.out hb2); have n1 := Aside0.mk (blk_below BG.out hb2); have n2 := Aside0.mk (below_step HB.out hb2); clear ho hb2 BG BR HB hz0 hz1; have BR := n0; have BG := n1; have HB := n2; clear n0 n1 n2;
         have hz0 : w3.cell? ⟨g5, 0, none⟩ = some (.int .i64 n) := (blk_cell BG.out 0).trans rfl; have hz1 : w3.cell? ⟨g5, 1, none⟩ = some (.slice A l.length c) := (blk_cell BG.out 1).trans rfl)
   | ((with_reducible refine gate_callee (f := 62) rfl ?_); refine goesL_ (some 21) rfl rfl Try.func62 (by kernel_rfl) rfl #[.agg #[.int .i64 n, .slice A l.length c], .slice A20 ([(p0 : Int), (f0 : Int)] : List Int).length c20] rfl (by (try simp only [List.map_toArray, List.map_cons, List.map_nil]); first | done | rfl) ?_; (with_reducible refine (impl_Graph_hold.calls k n A c l A20 c20 [(p0 : Int), (f0 : Int)] true w3 (Kd.C_below HR.out HB.out) hc (Kd.R_reads' HO.out).2.2 (Kd.R_reads' HO.out).2.1 HT.out).mono ?_); rintro e w4 ⟨rfl, hb3⟩; refine ⟨_, rfl, ?_⟩;
         have n0 := Aside0.mk (blk_below BR.out hb3); have n1 := Aside0.mk (blk_below BG.out hb3); have n2 := Aside0.mk (below_step HB.out hb3); clear hb3 BG BR HB hz0 hz1 HO; have BR := n0; have BG := n1; have HB := n2; clear n0 n1 n2;
         have hz0 : w4.cell? ⟨g5, 0, none⟩ = some (.int .i64 n) := (blk_cell BG.out 0).trans rfl; have hz1 : w4.cell? ⟨g5, 1, none⟩ = some (.slice A l.length c) := (blk_cell BG.out 1).trans rfl)
   | ((with_reducible refine gate_callee (f := 87) rfl ?_); refine gate_guard (by rfl) ?_; refine goesL_ (some 25) rfl rfl Try.func87 (by kernel_rfl) rfl #[.int .i64 turns, .int .i64 0, .int .i64 59] rfl (by (try simp only [List.map_toArray, List.map_cons, List.map_nil]); first | done | rfl) ?_; (with_reducible refine (impl_in.calls turns 0 59 true _ HI.out).mono ?_); rintro e w5 ⟨rfl, hd⟩; refine ⟨_, rfl, ?_⟩; have hb3 := hd.below;
         have n0 := Aside0.mk (blk_below BR.out hb3); have n1 := Aside0.mk (blk_below BG.out hb3); have n2 := Aside0.mk (below_step HB.out hb3); clear hb3 hd BG BR HB hz0 hz1; have BR := n0; have BG := n1; have HB := n2; clear n0 n1 n2;
         have hz0 : w5.cell? ⟨g5, 0, none⟩ = some (.int .i64 n) := (blk_cell BG.out 0).trans rfl; have hz1 : w5.cell? ⟨g5, 1, none⟩ = some (.slice A l.length c) := (blk_cell BG.out 1).trans rfl)
   | ((with_reducible refine gate_callee (f := 64) rfl ?_); refine goesL_ (some 30) rfl rfl Try.func64 (by kernel_rfl) rfl #[.agg #[.int .i64 n, .slice A l.length c]] rfl (by (try simp only [List.map_toArray, List.map_cons, List.map_nil]); first | done | rfl) ?_; (with_reducible refine (tableOf_c g A c hc w5 (Kd.C_below HR.out HB.out)).mono ?_); rintro e w6 ⟨T, C, E, rfl, hT, hBK, hb4, hF⟩; refine ⟨_, rfl, ?_⟩; have BK := Aside0.mk hBK; have TF := Aside0.mk hF;
       have n0 := Aside0.mk (blk_below BR.out hb4); have n1 := Aside0.mk (blk_below BG.out hb4); have n2 := Aside0.mk (below_step HB.out hb4); clear hb4 hT hBK hF BG BR HB hz0 hz1; have BR := n0; have BG := n1; have HB := n2; clear n0 n1 n2)
   | ((with_reducible refine gate_dst (N := 32) rfl ?_); refine Kd.R_lit (Kd.int .i64) _ 3 ?hg (N := 32) ?hd (xs := ([(p0 : Int)] : List Int)) (inner := [.int .i64 (p0 : Int)]) (ok := fun _ => True) (okp := fun _ => True) ?hr ?hp (fun _ hk => hk) trivial (Below.refl _ _) (Nat.le_refl _) (by simp) ?_; (case hd => rfl); (case hg => rfl); (case hr => first | (go_simp; done) | (go_simp; rfl)); (case hp => exact (Reps.one (show Kd.M (Kd.int .i64) _ _ _ (p0 : Int) [.int .i64 (p0 : Int)] from rfl) (Reps.none _ _))); intro v32 w7 ho hb4 hg_ hnew_; clear hg_ hnew_;
       have n0 := Aside0.mk (blk_below BR.out hb4); have n1 := Aside0.mk (blk_below BG.out hb4); have n2 := Aside0.mk (below_step HB.out hb4); have n3 := Aside0.mk (BK.out.below hb4); obtain ⟨A32, c32, e32⟩ := Kd.R_slice ho; have HPL := Aside0.mk (fun k hk => own_lt (Kd.own_of_R ho) k hk : ∀ k, v32.ownBlock = some k → k < w7.heap.size); have HP := Aside0.mk (Kd.R_lower ho (below_size HB.out)); clear BG BR HB BK hb4 ho ; have BR := n0; have BG := n1; have HB := n2; have BK := n3; clear n0 n1 n2 n3; subst e32)
   | ((with_reducible refine gate_dst (N := 34) rfl ?_); refine Kd.R_lit (Kd.int .i64) _ 3 ?hg (N := 34) ?hd (xs := ([(f0 : Int)] : List Int)) (inner := [.int .i64 (f0 : Int)]) (ok := fun _ => True) (okp := fun _ => True) ?hr ?hp (fun _ hk => hk) trivial (Below.refl _ _) (Nat.le_refl _) (by simp) ?_; (case hd => rfl); (case hg => rfl); (case hr => first | (go_simp; done) | (go_simp; rfl)); (case hp => exact (Reps.one (show Kd.M (Kd.int .i64) _ _ _ (f0 : Int) [.int .i64 (f0 : Int)] from rfl) (Reps.none _ _))); intro v34 w8 ho hb4 hg_ hnew_; clear hg_ hnew_;
       have n0 := Aside0.mk (blk_below BR.out hb4); have n1 := Aside0.mk (blk_below BG.out hb4); have n2 := Aside0.mk (below_step HB.out hb4); have n3 := Aside0.mk (BK.out.below hb4); obtain ⟨A34, c34, e34⟩ := Kd.R_slice ho; have AP := Aside0.mk (fun k hk j hj => by have h1 := HPL.out k hk; have h2 := own_base (Kd.own_of_R ho) j hj; omega : ∀ k, (Value.slice A32 ([(p0 : Int)] : List Int).length c32).ownBlock = some k → ∀ j, v34.ownBlock = some j → k ≠ j); have HP2 := Aside0.mk (Kd.R_below HP.out hb4); have HF := Aside0.mk (Kd.R_lower ho (below_size HB.out)); clear BG BR HB BK hb4 ho HPL HP; have HP := HP2; clear HP2; have BR := n0; have BG := n1; have HB := n2; have BK := n3; clear n0 n1 n2 n3; subst e34)
   | ((with_reducible refine gate_dst (N := 35) rfl ?_); refine Kd.event_run rfl (build42_run _ _ rfl (.slice A32 ([(p0 : Int)] : List Int).length c32) (.slice A34 ([(f0 : Int)] : List Int).length c34) rfl rfl ⟨_, _, _, rfl⟩ ⟨_, _, _, rfl⟩) ?_)
   | ((with_reducible refine gate_dst (N := 13) rfl ?_); refine box_event rfl (N := 13) rfl (cs := #[.slice none 0 0, .slice none 0 0]) (t := 42) (by first | (go_simp; done) | (go_simp; rfl)) ?_; intro g13 hg13 w9 hbox hb4;
       have BC := Aside0.mk hbox; have HGE13 := Aside0.mk (by rw [hg13]; exact below_size HB.out : w.heap.size ≤ g13); have NG := Aside0.mk (by rw [hg13]; exact ⟨Nat.ne_of_lt BK.out.lt, Nat.ne_of_lt (blk_lt BG.out), Nat.ne_of_lt (blk_lt BR.out)⟩ : T ≠ g13 ∧ g5 ≠ g13 ∧ g10 ≠ g13); have n0 := Aside0.mk (blk_below BR.out hb4); have n1 := Aside0.mk (blk_below BG.out hb4); have n2 := Aside0.mk (below_step HB.out hb4); have n3 := Aside0.mk (BK.out.below hb4); have HP2 := Aside0.mk (Kd.R_below HP.out hb4); have HF2 := Aside0.mk (Kd.R_below HF.out hb4); clear BG BR HB BK hb4 hbox hg13 HP HF; have HP := HP2; have HF := HF2; clear HP2 HF2; have BR := n0; have BG := n1; have HB := n2; have BK := n3; clear n0 n1 n2 n3)
   | ((with_reducible refine gate_ (.store 42 (.tmp 13) (.tmp 35)) rfl ?_); refine store_event (w1 := (w9.setCell ⟨g13, 0, none⟩ (.slice A32 ([(p0 : Int)] : List Int).length c32)).setCell ⟨g13, 1, none⟩ (.slice A34 ([(f0 : Int)] : List Int).length c34)) rfl rfl rfl (store2_run (.tmp 13) (.tmp 35) rfl g13 (.slice A32 ([(p0 : Int)] : List Int).length c32) (.slice A34 ([(f0 : Int)] : List Int).length c34) _ _ _ rfl rfl BC.out ⟨_, _, _, rfl⟩ ⟨_, _, _, rfl⟩) ?_; intro w10 hw;
       have HS := Aside0.mk (plS_start hw BK.out BG.out BR.out BC.out HP.out HF.out AP.out HB.out NG.out HGE13.out : PlS w T n (.slice A l.length c) C E g5 g10 g13 (.slice A32 ([(p0 : Int)] : List Int).length c32) (.slice A34 ([(f0 : Int)] : List Int).length c34) (.slice A32 ([(p0 : Int)] : List Int).length c32) [(p0 : Int)] (.slice A34 ([(f0 : Int)] : List Int).length c34) [(f0 : Int)] w10); have HGE2 := Aside0.mk (⟨HGE.out, ⟨NG.out.2.2, NG.out.2.1⟩, HGE13.out⟩ : w.heap.size ≤ g10 ∧ (g10 ≠ g13 ∧ g5 ≠ g13) ∧ w.heap.size ≤ g13); clear hw BK BG BR BC HP HF AP HB NG HGE13 HGE; have HGE := HGE2; clear HGE2)
   )
  obtain ⟨R0, hR0⟩ : ∃ R0, R0 = playL l n mv turns 0 p0 f0 [(p0 : Int)] [(f0 : Int)] := ⟨_, rfl⟩
  have HR0 := Aside0.mk hR0
  clear hR0
  go_loopg [1, 2, 14] turns (fun gg s1 s2 s14 wr => ∃ (j p f : Nat) (P F : List Int) (vP vF : Value), j ≤ turns ∧ turns - j ≤ gg ∧ s1 = .int .i64 p ∧ s2 = .int .i64 f ∧ s14 = .int .i64 j ∧ p < n ∧ f < n ∧ Aside0 (P.length ≤ j + 1 ∧ F.length ≤ j + 1) ∧ Aside0 (playL l n mv (turns - j) j p f P F = R0) ∧ Aside0 (PlS w T n (.slice A l.length c) C E g5 g10 g13 vP vF vP P vF F wr))
  case atStart => exact ⟨0, p0, f0, _, _, _, _, Nat.zero_le _, by omega, rfl, rfl, rfl, hp0, hf0, ⟨by simp⟩, ⟨HR0.out.symm⟩, HS⟩
  case round =>
    clear HS
    obtain ⟨j, p, f, P, F, vP, vF, hj, hgj, rfl, rfl, rfl, hp, hf, HLEN, HPL, HS⟩ := hrel
    obtain ⟨AP, cP, eP⟩ := Kd.R_slice HS.out.hP
    obtain ⟨AF, cF, eF⟩ := Kd.R_slice HS.out.hF
    subst eP eF
    have hr0 : wr.cell? ⟨g13, 0, none⟩ = some (.slice AP P.length cP) := (blk_cell HS.out.rc 0).trans rfl
    have hr1 : wr.cell? ⟨g13, 1, none⟩ = some (.slice AF F.length cF) := (blk_cell HS.out.rc 1).trans rfl
    by_cases hend : turns ≤ j ∨ p = f
    · have HV := Aside0.mk (show R0 = some (P, F) by
        rw [← HPL.out]
        rcases hend with h | h
        · rw [show turns - j = 0 from by omega]; rfl
        · cases hd : turns - j with
          | zero => rfl
          | succ d => unfold playL; rw [if_pos h])
      by_cases hj2 : j < turns
      · have hjz : (j : Int) < (turns : Int) := by omega
        have hpfb : ((p : Int) != (f : Int)) = false := by rw [bne_eq_false_iff_eq]; omega
        clear hend
        go_wp2_with (first
         | ((with_reducible refine gate_ (.store 42 (.tmp 10) (.tmp 89)) rfl ?_); refine store_event (w1 := (wr.setCell ⟨g10, 0, none⟩ (.slice AP P.length cP)).setCell ⟨g10, 1, none⟩ (.slice AF F.length cF)) rfl rfl rfl (store2_run (.tmp 10) (.tmp 89) rfl g10 (.slice AP P.length cP) (.slice AF F.length cF) _ _ _ rfl rfl HS.out.rb ⟨_, _, _, rfl⟩ ⟨_, _, _, rfl⟩) ?_; intro w9 hw; have HE := Aside0.mk (plS_end HS.out HGE.out.1 hw); clear hw))
        refine bodyPost_ret (results_ct rfl _ _ g10 42 #[.slice AP P.length cP, .slice AF F.length cF] (0, 0) _ rfl HE.out.1 Try.underlying42 rfl (by kernel_rfl)) rfl ?_
        rw [← HR0.out, HV.out]
        exact ⟨_, _, rfl, HE.out.2.1, HE.out.2.2.1, HE.out.2.2.2⟩
      · have hjz : ¬ (j : Int) < (turns : Int) := by omega
        clear hend
        go_wp2_with (first
         | ((with_reducible refine gate_ (.store 42 (.tmp 10) (.tmp 89)) rfl ?_); refine store_event (w1 := (wr.setCell ⟨g10, 0, none⟩ (.slice AP P.length cP)).setCell ⟨g10, 1, none⟩ (.slice AF F.length cF)) rfl rfl rfl (store2_run (.tmp 10) (.tmp 89) rfl g10 (.slice AP P.length cP) (.slice AF F.length cF) _ _ _ rfl rfl HS.out.rb ⟨_, _, _, rfl⟩ ⟨_, _, _, rfl⟩) ?_; intro w9 hw; have HE := Aside0.mk (plS_end HS.out HGE.out.1 hw); clear hw))
        refine bodyPost_ret (results_ct rfl _ _ g10 42 #[.slice AP P.length cP, .slice AF F.length cF] (0, 0) _ rfl HE.out.1 Try.underlying42 rfl (by kernel_rfl)) rfl ?_
        rw [← HR0.out, HV.out]
        exact ⟨_, _, rfl, HE.out.2.1, HE.out.2.2.1, HE.out.2.2.2⟩
    · have hjlt : j < turns := by omega
      have hjz : (j : Int) < (turns : Int) := by omega
      have hpfb : ((p : Int) != (f : Int)) = true := by rw [bne_iff_ne]; omega
      rcases pursV_vert g p f hp with hpv | ⟨q, hpv, hqn⟩
      · have HPV := Aside0.mk hpv
        have HCH := Aside0.mk (show chaseV l p f = p by unfold chaseV; rw [hpv]; rfl)
        have hqn := hp
        have hqz : (0 : Int) ≤ (p : Int) := Int.natCast_nonneg _
        clear hpv
        have hqf : ¬ p = f := fun h => hend (.inr h)
        have hqfb : ((p : Int) != (f : Int)) = true := by rw [bne_iff_ne]; omega
        obtain ⟨x, hx⟩ : ∃ x, x = mv j p f := ⟨_, rfl⟩
        have HX := Aside0.mk hx
        have HPL2 := Aside0.mk (show (if 0 ≤ x ∧ x < (n : Int) ∧ (stayN l f).testBit x.toNat = true then playL l n mv (turns - (j + 1)) (j + 1) p x.toNat (P ++ [(p : Int)]) (F ++ [x]) else none) = R0 by
          rw [← HPL.out, show turns - j = (turns - (j + 1)) + 1 from by omega]
          conv => rhs; unfold playL
          rw [if_neg (fun h => hend (.inr h)), if_neg (fun h => hqf (HCH.out.symm.trans h)), HCH.out, hx])
        clear hx HPL hqf
        go_wp2_with (first
         | ((with_reducible refine gate_callee (f := 66) rfl ?_); refine goesL_ (some 49) rfl rfl Try.func66 (by kernel_rfl) rfl #[.pointer (some ⟨T, 0, none⟩), .int .i64 p, .int .i64 f] rfl (by (try simp only [List.map_toArray, List.map_cons, List.map_nil]); first | done | rfl) ?_; (with_reducible refine (purs_c g A c hc T C E TF.out p f hp hf wr HS.out.tab (Kd.C_below HR.out HS.out.bel)).mono ?_); rintro e w2 ⟨rfl, hb⟩; refine ⟨_, rfl, ?_⟩; rw [HPV.out]; have HS2 := Aside0.mk (HS.out.below hb); clear HS hb hr0 hr1; have HS := HS2; clear HS2;
               have hr0 : w2.cell? ⟨g13, 0, none⟩ = some (.slice AP P.length cP) := (blk_cell HS.out.rc 0).trans rfl; have hr1 : w2.cell? ⟨g13, 1, none⟩ = some (.slice AF F.length cF) := (blk_cell HS.out.rc 1).trans rfl)
         )
        refine (HMV.out w2 T C E j p f HS.out.bel HS.out.tab TF.out hqn hf hjlt).mono ?_
        rintro e w3 ⟨rfl, hb⟩
        rw [← HX.out]
        have HS2 := Aside0.mk (HS.out.below hb)
        clear HS hb hr0 hr1
        have HS := HS2
        clear HS2
        have hr0 : w3.cell? ⟨g13, 0, none⟩ = some (.slice AP P.length cP) := (blk_cell HS.out.rc 0).trans rfl
        have hr1 : w3.cell? ⟨g13, 1, none⟩ = some (.slice AF F.length cF) := (blk_cell HS.out.rc 1).trans rfl
        have hz0 : w3.cell? ⟨g5, 0, none⟩ = some (.int .i64 n) := (blk_cell HS.out.gb 0).trans rfl
        have hz1 : w3.cell? ⟨g5, 1, none⟩ = some (.slice A l.length c) := (blk_cell HS.out.gb 1).trans rfl
        by_cases hxv : 0 ≤ x ∧ x < (n : Int)
        · have HVX := Aside0.mk (show impl_Graph_isVertex.f n l [x] = some true by rw [vert_impl (n : Int) l [x] g.lo g.hi]; simp [verts]; omega)
          obtain ⟨y, hy, hyn⟩ : ∃ y : Nat, x = (y : Int) ∧ y < n := ⟨x.toNat, by omega, by omega⟩
          have HHX0 : impl_has.f ((stayN l f : Nat) : Int) x = some ((stayN l f).testBit y) := by rw [hy, has_impl _ _ (by have := stayN_lt8 g f (by have := HLN.out; omega); omega) (by omega)]
          have HY := Aside0.mk hy
          by_cases hbit : (stayN l f).testBit y = true
          · rw [hbit] at HHX0
            have HHX := Aside0.mk HHX0
            have HPL3 := Aside0.mk (show playL l n mv (turns - (j + 1)) (j + 1) p y (P ++ [(p : Int)]) (F ++ [x]) = R0 by
              have h := HPL2.out
              rw [if_pos ⟨hxv.1, hxv.2, by rw [hy, Int.toNat_natCast]; exact hbit⟩] at h
              rw [← h]
              congr 1
              omega)
            clear HPL2 hbit HHX0 hy hxv
            go_wp2_with (first
             | ((with_reducible refine gate_dst (N := 64) rfl ?_); refine Kd.R_lit (Kd.int .i64) _ 3 ?hg (N := 64) ?hd (xs := ([x] : List Int)) (inner := [.int .i64 x]) (ok := fun _ => True) (okp := fun _ => True) ?hr ?hp (fun _ hk => hk) trivial (Below.refl _ _) (Nat.le_refl _) (by simp) ?_; (case hd => rfl); (case hg => rfl); (case hr => first | (go_simp; done) | (go_simp; rfl)); (case hp => exact (Reps.one (show Kd.M (Kd.int .i64) _ _ _ x [.int .i64 x] from rfl) (Reps.none _ _))); intro v64 w4 ho hb hg_ hnew_; clear hg_ hnew_; obtain ⟨A64, c64, e64⟩ := Kd.R_slice ho; subst e64; have HO := Aside0.mk ho; clear ho hz0 hz1;
                   have HS2 := Aside0.mk (HS.out.below hb); clear HS hb hr0 hr1; have HS := HS2; clear HS2; have hz0 : w4.cell? ⟨g5, 0, none⟩ = some (.int .i64 n) := (blk_cell HS.out.gb 0).trans rfl; have hz1 : w4.cell? ⟨g5, 1, none⟩ = some (.slice A l.length c) := (blk_cell HS.out.gb 1).trans rfl)
             | ((with_reducible refine gate_callee (f := 88) rfl ?_); refine goesL_ (some 65) rfl rfl Try.func88 (by kernel_rfl) rfl #[.agg #[.int .i64 n, .slice A l.length c], .slice A64 ([x] : List Int).length c64] rfl (by (try simp only [List.map_toArray, List.map_cons, List.map_nil]); first | done | rfl) ?_; (with_reducible refine (impl_Graph_isVertex.calls n A c l A64 c64 [x] true w4 (Kd.C_below HR.out HS.out.bel) hc (Kd.R_reads' HO.out).2.2 (Kd.R_reads' HO.out).2.1 HVX.out).mono ?_); rintro e w5 ⟨rfl, hb⟩; refine ⟨_, rfl, ?_⟩; clear hz0 hz1 HO;
                   have HS2 := Aside0.mk (HS.out.below hb); clear HS hb; have HS := HS2; clear HS2; have hz0 : w5.cell? ⟨g5, 0, none⟩ = some (.int .i64 n) := (blk_cell HS.out.gb 0).trans rfl; have hz1 : w5.cell? ⟨g5, 1, none⟩ = some (.slice A l.length c) := (blk_cell HS.out.gb 1).trans rfl)
             | ((with_reducible refine gate_callee (f := 94) rfl ?_); refine gate_guard (by rfl) ?_; refine goesL_ (some 70) rfl rfl Try.func94 (by kernel_rfl) rfl #[.agg #[.int .i64 n, .slice A l.length c], .int .i64 f] rfl (by (try simp only [List.map_toArray, List.map_cons, List.map_nil]); first | done | rfl) ?_; (with_reducible refine (stay_c g f (by have := HLN.out; omega) A c hc _ (Kd.C_below HR.out HS.out.bel)).mono ?_); rintro e w6 ⟨rfl, hb⟩; refine ⟨_, rfl, ?_⟩; clear hz0 hz1; have HS2 := Aside0.mk (HS.out.below hb); clear HS hb; have HS := HS2; clear HS2)
             | ((with_reducible refine gate_callee (f := 85) rfl ?_); refine gate_guard (by rfl) ?_; refine goesL_ (some 72) rfl rfl Try.func85 (by kernel_rfl) rfl #[.int .i64 ((stayN l f : Nat) : Int), .int .i64 x] rfl (by (try simp only [List.map_toArray, List.map_cons, List.map_nil]); first | done | rfl) ?_; (with_reducible refine (impl_has.calls ((stayN l f : Nat) : Int) x true _ HHX.out).mono ?_); rintro e w7 ⟨rfl, hd⟩; refine ⟨_, rfl, ?_⟩; have hb := hd.below; have HS2 := Aside0.mk (HS.out.below hb); clear HS hb hd; have HS := HS2; clear HS2;
                   have hr0 : w7.cell? ⟨g13, 0, none⟩ = some (.slice AP P.length cP) := (blk_cell HS.out.rc 0).trans rfl; have hr1 : w7.cell? ⟨g13, 1, none⟩ = some (.slice AF F.length cF) := (blk_cell HS.out.rc 1).trans rfl)
             )
            have HLP := Aside0.mk (show P.length ≤ 1000 by have := HLEN.out.1; omega)
            have HLF := Aside0.mk (show F.length ≤ 1000 by have := HLEN.out.2; omega)
            have hS := Aside0.mk (⟨(blk_cell HS.out.rc 0).trans rfl, (blk_cell HS.out.rc 1).trans rfl⟩ : w7.drew.cell? ⟨g13, 0, none⟩ = some (.slice AP P.length cP) ∧ w7.drew.cell? ⟨g13, 1, none⟩ = some (.slice AF F.length cF))
            refine start_ (n := 14) (S := fun w' => w'.cell? ⟨g13, 0, none⟩ = some (.slice AP P.length cP) ∧ w'.cell? ⟨g13, 1, none⟩ = some (.slice AF F.length cF)) (ds := [11, 13]) #[false, false, false, false, false, false, false, false, false, false, false, false, false, false] (by kernel_rfl) rfl rfl hS.out (fun hHeld => ?_)
            refine pure_ (i := 0) (N := some 77) (v := ?_) (a' := ?_) #[true, false, false, false, false, false, false, false, false, false, false, false, false, false] rfl rfl (by kernel_rfl) (fun _ _ _ h => h) (Or.inl ⟨by rfl, ?_⟩) ?_ ?_
            rotate_left
            · intro w'
              go_simp; with_reducible rfl
            rotate_left
            · show Act.put _ _ _ = _
              simp only [Act.put, List.setIfInBounds_toArray, List.set_cons_zero, List.set_cons_succ, i64_w, i32_w]
              rfl
            refine take_ (i := 1) (N := some 78) (v := ?_) (a' := ?_) #[true, true, false, false, false, false, false, false, false, false, false, false, false, false] rfl rfl (by kernel_rfl) (fun _ _ _ h => h) (Or.inl ⟨by rfl, ?_⟩) hHeld ?_ ?_
            rotate_left
            · rintro w' ⟨s0, s1⟩; go_simp; with_reducible rfl
            rotate_left
            · show Act.put _ _ _ = _
              simp only [Act.put, List.setIfInBounds_toArray, List.set_cons_zero, List.set_cons_succ, i64_w, i32_w]
              rfl
            refine pure_ (i := 2) (N := some 79) (v := ?_) (a' := ?_) #[true, true, true, false, false, false, false, false, false, false, false, false, false, false] rfl rfl (by kernel_rfl) (fun _ _ _ h => h) (Or.inl ⟨by rfl, ?_⟩) ?_ ?_
            rotate_left
            · intro w'
              go_simp; with_reducible rfl
            rotate_left
            · show Act.put _ _ _ = _
              simp only [Act.put, List.setIfInBounds_toArray, List.set_cons_zero, List.set_cons_succ, i64_w, i32_w]
              rfl
            refine pure_ (i := 5) (N := some 82) (v := ?_) (a' := ?_) #[true, true, true, false, false, true, false, false, false, false, false, false, false, false] rfl rfl (by kernel_rfl) (fun _ _ _ h => h) (Or.inl ⟨by rfl, ?_⟩) ?_ ?_
            rotate_left
            · intro w'
              go_simp; with_reducible rfl
            rotate_left
            · show Act.put _ _ _ = _
              simp only [Act.put, List.setIfInBounds_toArray, List.set_cons_zero, List.set_cons_succ, i64_w, i32_w]
              rfl
            refine take_ (i := 6) (N := some 83) (v := ?_) (a' := ?_) #[true, true, true, false, false, true, true, false, false, false, false, false, false, false] rfl rfl (by kernel_rfl) (fun _ _ _ h => h) (Or.inl ⟨by rfl, ?_⟩) hHeld ?_ ?_
            rotate_left
            · rintro w' ⟨s0, s1⟩; go_simp; with_reducible rfl
            rotate_left
            · show Act.put _ _ _ = _
              simp only [Act.put, List.setIfInBounds_toArray, List.set_cons_zero, List.set_cons_succ, i64_w, i32_w]
              rfl
            refine pure_ (i := 7) (N := some 84) (v := ?_) (a' := ?_) #[true, true, true, false, false, true, true, true, false, false, false, false, false, false] rfl rfl (by kernel_rfl) (fun _ _ _ h => h) (Or.inl ⟨by rfl, ?_⟩) ?_ ?_
            rotate_left
            · intro w'
              go_simp; with_reducible rfl
            rotate_left
            · show Act.put _ _ _ = _
              simp only [Act.put, List.setIfInBounds_toArray, List.set_cons_zero, List.set_cons_succ, i64_w, i32_w]
              rfl
            have HSd := Aside0.mk (HS.out.drew)
            clear HS hS
            generalize w7.drew = wd at HSd hHeld ⊢
            refine join_ (σ := Nat × Value × Nat) 4 #[true, true, true, true, true, true, true, true, true, false, true, false, false, false] (fun s => [(80, .slice (some ⟨s.1, 0, none⟩) 1 1), (81, s.2.1), (85, .slice (some ⟨s.2.2, 0, none⟩) 1 1), (87, .pointer (some ⟨g13, 0, none⟩))]) (fun s w' => PlS w T n (.slice A l.length c) C E g5 g10 g13 (.slice AP P.length cP) (.slice AF F.length cF) s.2.1 (P ++ [(p : Int)]) (.slice AF F.length cF) F w' ∧ LitB w' s.2.2 x) ?_ ?_
            · rintro ⟨b3, v1, b8⟩ wj ⟨HSj0, hlj⟩
              have HSj := Aside0.mk HSj0
              clear HSj0
              refine norm_ (a' := ?_) ?_ ?_
              rotate_left
              · simp only [putAll, Act.put, List.setIfInBounds_toArray, List.set_cons_zero, List.set_cons_succ]
                rfl
              obtain ⟨v2, wk, hrun, HSk0, _⟩ := HSj.out.appF b8 x hlj HLF.out 22
              have HSk := Aside0.mk HSk0
              clear HSk0 HSj
              refine one_ (i := 9) (N := some 86) #[true, true, true, true, true, true, true, true, true, true, true, false, false, false] rfl rfl (by kernel_rfl) (by decide) (fun K hK => ?_)
              refine event_step (by rfl) (appOp_run _ _ (by rfl) _ _ _ _ (by rfl) (by rfl) hrun) ?_
              refine hK.out _ _ ⟨(blk_cell HSk.out.rc 0).trans rfl, (blk_cell HSk.out.rc 1).trans rfl⟩ (fun hHeld => ?_)
              clear hK K hrun hlj
              refine norm_ (a' := ?_) ?_ ?_
              rotate_left
              · show Act.put _ _ _ = _
                simp only [Act.put, List.setIfInBounds_toArray, List.set_cons_zero, List.set_cons_succ, i64_w, i32_w]
                rfl
              obtain ⟨A1, c1, e1⟩ := Kd.R_slice HSk.out.hP
              obtain ⟨A2, c2, e2⟩ := Kd.R_slice HSk.out.hF
              subst e1 e2
              refine last_ (i := 11) (N := none) #[true, true, true, true, true, true, true, true, true, true, true, true, false, false] rfl rfl (by kernel_rfl) (by decide) (fun K hK => ?_)
              refine put_step (by rfl) (by rfl) (put22_run _ _ (by rfl) g13 0 _ _ _ _ (by rfl) (by rfl) ((blk_cell HSk.out.rc 0).trans rfl) (blk_frozen HSk.out.rc 0)) ?_
              refine hK.out _ _ ?_
              clear hK K
              refine pure_ (i := 12) (N := some 88) (v := ?_) (a' := ?_) #[true, true, true, true, true, true, true, true, true, true, true, true, true, false] rfl rfl (by kernel_rfl) (fun _ _ _ h => h) (Or.inl ⟨by rfl, ?_⟩) ?_ ?_
              rotate_left
              · intro w'
                go_simp; with_reducible rfl
              rotate_left
              · show Act.put _ _ _ = _
                simp only [Act.put, List.setIfInBounds_toArray, List.set_cons_zero, List.set_cons_succ, i64_w, i32_w]
                rfl
              refine last_ (i := 13) (N := none) #[true, true, true, true, true, true, true, true, true, true, true, true, true, true] rfl rfl (by kernel_rfl) (by decide) (fun K hK => ?_)
              refine put_step (by rfl) (by rfl) (put22_run _ _ (by rfl) g13 1 _ _ _ _ (by rfl) (by rfl) ((blk_cell (blk_put HSk.out.rc 0 _ rfl) 1).trans rfl) (blk_frozen (blk_put HSk.out.rc 0 _ rfl) 1)) ?_
              refine hK.out _ _ ?_
              clear hK K
              refine done_ (by kernel_rfl) ?_
              obtain ⟨wl, hwl⟩ : ∃ wl, wl = (wk.setCell ⟨g13, 0, none⟩ (.slice A1 (P ++ [(p : Int)]).length c1)).setCell ⟨g13, 1, none⟩ (.slice A2 (F ++ [x]).length c2) := ⟨_, rfl⟩
              rw [← hwl]
              have HSl := Aside0.mk (HSk.out.stored hwl HGE.out.2)
              clear hwl HSk
              go_wp2
              go_roundg (turns - (j + 1))
              case measure => omega
              case rel => exact ⟨j + 1, _, y, _, _, _, _, by omega, by omega, rfl, by rw [HY.out], by go_num, hqn, hyn, ⟨by have := HLEN.out; simp only [List.length_append, List.length_cons, List.length_nil]; omega⟩, HPL3, HSl⟩
            · intro hcont
              refine two_ (i := 3) (j := 8) (Ni := some 80) (Nj := some 85) #[true, true, true, true, false, true, true, true, false, false, false, false, false, false] #[true, true, true, false, false, true, true, true, true, false, false, false, false, false] rfl rfl rfl rfl (by kernel_rfl) (by decide) (by decide) (fun K hK => ?_) (fun K hK => ?_)
              · refine event_step (by rfl) (lit1_run _ (by rfl) (p : Int) (by rfl)) ?_
                refine hK.out _ _ ⟨(blk_cell (blk_alloc HSd.out.rc _) 0).trans rfl, (blk_cell (blk_alloc HSd.out.rc _) 1).trans rfl⟩ (fun hHeld => ?_)
                clear hK K
                have H1 := Aside0.mk (HSd.out.alloc (.cells #[.int .i64 (p : Int)] 3 (0, 0)))
                have hl3 := lit_new wd (p : Int)
                refine norm_ (a' := ?_) ?_ ?_
                rotate_left
                · show Act.put _ _ _ = _
                  simp only [Act.put, List.setIfInBounds_toArray, List.set_cons_zero, List.set_cons_succ, i64_w, i32_w]
                  rfl
                refine two_ (i := 4) (j := 8) (Ni := some 81) (Nj := some 85) #[true, true, true, true, true, true, true, true, false, false, false, false, false, false] #[true, true, true, true, false, true, true, true, true, false, false, false, false, false] rfl rfl rfl rfl (by kernel_rfl) (by decide) (by decide) (fun K hK => ?_) (fun K hK => ?_)
                · obtain ⟨v1, wm, hrun, HSm0, _⟩ := H1.out.appP wd.heap.size (p : Int) hl3 HLP.out 22
                  refine event_step (by rfl) (appOp_run _ _ (by rfl) _ _ _ _ (by rfl) (by rfl) hrun) ?_
                  refine hK.out _ _ ⟨(blk_cell HSm0.rc 0).trans rfl, (blk_cell HSm0.rc 1).trans rfl⟩ (fun hHeld => ?_)
                  clear hK K
                  refine norm_ (a' := ?_) ?_ ?_
                  rotate_left
                  · show Act.put _ _ _ = _
                    simp only [Act.put, List.setIfInBounds_toArray, List.set_cons_zero, List.set_cons_succ, i64_w, i32_w]
                    rfl
                  refine pure_ (i := 10) (N := some 87) (v := ?_) (a' := ?_) #[true, true, true, true, true, true, true, true, false, false, true, false, false, false] rfl rfl (by kernel_rfl) (fun _ _ _ h => h) (Or.inl ⟨by rfl, ?_⟩) ?_ ?_
                  rotate_left
                  · intro w'
                    go_simp; with_reducible rfl
                  rotate_left
                  · show Act.put _ _ _ = _
                    simp only [Act.put, List.setIfInBounds_toArray, List.set_cons_zero, List.set_cons_succ, i64_w, i32_w]
                    rfl
                  refine one_ (i := 8) (N := some 85) #[true, true, true, true, true, true, true, true, true, false, true, false, false, false] rfl rfl (by kernel_rfl) (by decide) (fun K hK => ?_)
                  refine event_step (by rfl) (lit1_run _ (by rfl) x (by rfl)) ?_
                  refine hK.out _ _ ⟨(blk_cell (blk_alloc HSm0.rc _) 0).trans rfl, (blk_cell (blk_alloc HSm0.rc _) 1).trans rfl⟩ (fun hHeld => ?_)
                  clear hK K
                  exact norm_ (by rfl) (hcont ⟨wd.heap.size, v1, wm.heap.size⟩ _ ⟨HSm0.alloc _, lit_new wm _⟩)
                · refine event_step (by rfl) (lit1_run _ (by rfl) x (by rfl)) ?_
                  refine hK.out _ _ ⟨(blk_cell (blk_alloc H1.out.rc _) 0).trans rfl, (blk_cell (blk_alloc H1.out.rc _) 1).trans rfl⟩ (fun hHeld => ?_)
                  clear hK K
                  refine norm_ (a' := ?_) ?_ ?_
                  rotate_left
                  · show Act.put _ _ _ = _
                    simp only [Act.put, List.setIfInBounds_toArray, List.set_cons_zero, List.set_cons_succ, i64_w, i32_w]
                    rfl
                  obtain ⟨v1, wm, hrun, HSm0, hlm⟩ := (H1.out.alloc (.cells #[.int .i64 x] 3 (0, 0))).appP wd.heap.size (p : Int) (blk_alloc hl3 _) HLP.out 22
                  refine one_ (i := 4) (N := some 81) #[true, true, true, true, true, true, true, true, true, false, false, false, false, false] rfl rfl (by kernel_rfl) (by decide) (fun K hK => ?_)
                  refine event_step (by rfl) (appOp_run _ _ (by rfl) _ _ _ _ (by rfl) (by rfl) hrun) ?_
                  refine hK.out _ _ ⟨(blk_cell HSm0.rc 0).trans rfl, (blk_cell HSm0.rc 1).trans rfl⟩ (fun hHeld => ?_)
                  clear hK K
                  refine norm_ (a' := ?_) ?_ ?_
                  rotate_left
                  · show Act.put _ _ _ = _
                    simp only [Act.put, List.setIfInBounds_toArray, List.set_cons_zero, List.set_cons_succ, i64_w, i32_w]
                    rfl
                  refine pure_ (i := 10) (N := some 87) (v := ?_) (a' := ?_) #[true, true, true, true, true, true, true, true, true, false, true, false, false, false] rfl rfl (by kernel_rfl) (fun _ _ _ h => h) (Or.inl ⟨by rfl, ?_⟩) ?_ ?_
                  rotate_left
                  · intro w'
                    go_simp; with_reducible rfl
                  rotate_left
                  · show Act.put _ _ _ = _
                    simp only [Act.put, List.setIfInBounds_toArray, List.set_cons_zero, List.set_cons_succ, i64_w, i32_w]
                    rfl
                  exact norm_ (by rfl) (hcont ⟨wd.heap.size, v1, (wd.alloc (.cells #[.int .i64 (p : Int)] 3 (0, 0))).heap.size⟩ _ ⟨HSm0, hlm _ _ (lit_new _ _) (lit_ne H1.out.hP)⟩)
              · refine event_step (by rfl) (lit1_run _ (by rfl) x (by rfl)) ?_
                refine hK.out _ _ ⟨(blk_cell (blk_alloc HSd.out.rc _) 0).trans rfl, (blk_cell (blk_alloc HSd.out.rc _) 1).trans rfl⟩ (fun hHeld => ?_)
                clear hK K
                have H1 := Aside0.mk (HSd.out.alloc (.cells #[.int .i64 x] 3 (0, 0)))
                have hl8 := lit_new wd x
                refine norm_ (a' := ?_) ?_ ?_
                rotate_left
                · show Act.put _ _ _ = _
                  simp only [Act.put, List.setIfInBounds_toArray, List.set_cons_zero, List.set_cons_succ, i64_w, i32_w]
                  rfl
                refine one_ (i := 3) (N := some 80) #[true, true, true, true, false, true, true, true, true, false, false, false, false, false] rfl rfl (by kernel_rfl) (by decide) (fun K hK => ?_)
                refine event_step (by rfl) (lit1_run _ (by rfl) (p : Int) (by rfl)) ?_
                refine hK.out _ _ ⟨(blk_cell (blk_alloc H1.out.rc _) 0).trans rfl, (blk_cell (blk_alloc H1.out.rc _) 1).trans rfl⟩ (fun hHeld => ?_)
                clear hK K
                refine norm_ (a' := ?_) ?_ ?_
                rotate_left
                · show Act.put _ _ _ = _
                  simp only [Act.put, List.setIfInBounds_toArray, List.set_cons_zero, List.set_cons_succ, i64_w, i32_w]
                  rfl
                obtain ⟨v1, wm, hrun, HSm0, hlm⟩ := (H1.out.alloc (.cells #[.int .i64 (p : Int)] 3 (0, 0))).appP _ (p : Int) (lit_new _ _) HLP.out 22
                refine one_ (i := 4) (N := some 81) #[true, true, true, true, true, true, true, true, true, false, false, false, false, false] rfl rfl (by kernel_rfl) (by decide) (fun K hK => ?_)
                refine event_step (by rfl) (appOp_run _ _ (by rfl) _ _ _ _ (by rfl) (by rfl) hrun) ?_
                refine hK.out _ _ ⟨(blk_cell HSm0.rc 0).trans rfl, (blk_cell HSm0.rc 1).trans rfl⟩ (fun hHeld => ?_)
                clear hK K
                refine norm_ (a' := ?_) ?_ ?_
                rotate_left
                · show Act.put _ _ _ = _
                  simp only [Act.put, List.setIfInBounds_toArray, List.set_cons_zero, List.set_cons_succ, i64_w, i32_w]
                  rfl
                refine pure_ (i := 10) (N := some 87) (v := ?_) (a' := ?_) #[true, true, true, true, true, true, true, true, true, false, true, false, false, false] rfl rfl (by kernel_rfl) (fun _ _ _ h => h) (Or.inl ⟨by rfl, ?_⟩) ?_ ?_
                rotate_left
                · intro w'
                  go_simp; with_reducible rfl
                rotate_left
                · show Act.put _ _ _ = _
                  simp only [Act.put, List.setIfInBounds_toArray, List.set_cons_zero, List.set_cons_succ, i64_w, i32_w]
                  rfl
                exact norm_ (by rfl) (hcont ⟨(wd.alloc (.cells #[.int .i64 x] 3 (0, 0))).heap.size, v1, wd.heap.size⟩ _ ⟨HSm0, hlm _ _ (blk_alloc hl8 _) (lit_ne HSd.out.hP)⟩)
          · have hbit2 : (stayN l f).testBit y = false := by simpa using hbit
            rw [hbit2] at HHX0
            have HHX := Aside0.mk HHX0
            have HV := Aside0.mk (show R0 = none by
              have h := HPL2.out
              rw [if_neg (fun h => hbit (by have := h.2.2; rw [hy, Int.toNat_natCast] at this; exact this))] at h
              exact h.symm)
            clear HPL2 hbit HHX0 hy hxv hbit2
            go_wp2_with (first
             | ((with_reducible refine gate_dst (N := 64) rfl ?_); refine Kd.R_lit (Kd.int .i64) _ 3 ?hg (N := 64) ?hd (xs := ([x] : List Int)) (inner := [.int .i64 x]) (ok := fun _ => True) (okp := fun _ => True) ?hr ?hp (fun _ hk => hk) trivial (Below.refl _ _) (Nat.le_refl _) (by simp) ?_; (case hd => rfl); (case hg => rfl); (case hr => first | (go_simp; done) | (go_simp; rfl)); (case hp => exact (Reps.one (show Kd.M (Kd.int .i64) _ _ _ x [.int .i64 x] from rfl) (Reps.none _ _))); intro v64 w4 ho hb hg_ hnew_; clear hg_ hnew_; obtain ⟨A64, c64, e64⟩ := Kd.R_slice ho; subst e64; have HO := Aside0.mk ho; clear ho hz0 hz1;
                   have HS2 := Aside0.mk (HS.out.below hb); clear HS hb hr0 hr1; have HS := HS2; clear HS2; have hz0 : w4.cell? ⟨g5, 0, none⟩ = some (.int .i64 n) := (blk_cell HS.out.gb 0).trans rfl; have hz1 : w4.cell? ⟨g5, 1, none⟩ = some (.slice A l.length c) := (blk_cell HS.out.gb 1).trans rfl)
             | ((with_reducible refine gate_callee (f := 88) rfl ?_); refine goesL_ (some 65) rfl rfl Try.func88 (by kernel_rfl) rfl #[.agg #[.int .i64 n, .slice A l.length c], .slice A64 ([x] : List Int).length c64] rfl (by (try simp only [List.map_toArray, List.map_cons, List.map_nil]); first | done | rfl) ?_; (with_reducible refine (impl_Graph_isVertex.calls n A c l A64 c64 [x] true w4 (Kd.C_below HR.out HS.out.bel) hc (Kd.R_reads' HO.out).2.2 (Kd.R_reads' HO.out).2.1 HVX.out).mono ?_); rintro e w5 ⟨rfl, hb⟩; refine ⟨_, rfl, ?_⟩; clear hz0 hz1 HO;
                   have HS2 := Aside0.mk (HS.out.below hb); clear HS hb; have HS := HS2; clear HS2; have hz0 : w5.cell? ⟨g5, 0, none⟩ = some (.int .i64 n) := (blk_cell HS.out.gb 0).trans rfl; have hz1 : w5.cell? ⟨g5, 1, none⟩ = some (.slice A l.length c) := (blk_cell HS.out.gb 1).trans rfl)
             | ((with_reducible refine gate_callee (f := 94) rfl ?_); refine gate_guard (by rfl) ?_; refine goesL_ (some 70) rfl rfl Try.func94 (by kernel_rfl) rfl #[.agg #[.int .i64 n, .slice A l.length c], .int .i64 f] rfl (by (try simp only [List.map_toArray, List.map_cons, List.map_nil]); first | done | rfl) ?_; (with_reducible refine (stay_c g f (by have := HLN.out; omega) A c hc _ (Kd.C_below HR.out HS.out.bel)).mono ?_); rintro e w6 ⟨rfl, hb⟩; refine ⟨_, rfl, ?_⟩; clear hz0 hz1; have HS2 := Aside0.mk (HS.out.below hb); clear HS hb; have HS := HS2; clear HS2)
             | ((with_reducible refine gate_callee (f := 85) rfl ?_); refine gate_guard (by rfl) ?_; refine goesL_ (some 72) rfl rfl Try.func85 (by kernel_rfl) rfl #[.int .i64 ((stayN l f : Nat) : Int), .int .i64 x] rfl (by (try simp only [List.map_toArray, List.map_cons, List.map_nil]); first | done | rfl) ?_; (with_reducible refine (impl_has.calls ((stayN l f : Nat) : Int) x false _ HHX.out).mono ?_); rintro e w7 ⟨rfl, hd⟩; refine ⟨_, rfl, ?_⟩; have hb := hd.below; have HS2 := Aside0.mk (HS.out.below hb); clear HS hb hd; have HS := HS2; clear HS2;
                   have hr0 : w7.cell? ⟨g13, 0, none⟩ = some (.slice AP P.length cP) := (blk_cell HS.out.rc 0).trans rfl; have hr1 : w7.cell? ⟨g13, 1, none⟩ = some (.slice AF F.length cF) := (blk_cell HS.out.rc 1).trans rfl)
             | ((with_reducible refine gate_ (.store 42 (.tmp 10) (.tmp 75)) rfl ?_); refine store_event (w1 := (w7.setCell ⟨g10, 0, none⟩ (.slice none 0 0)).setCell ⟨g10, 1, none⟩ (.slice none 0 0)) rfl rfl rfl (store2_run (.tmp 10) (.tmp 75) rfl g10 (.slice none 0 0) (.slice none 0 0) _ _ _ rfl rfl HS.out.rb ⟨_, _, _, rfl⟩ ⟨_, _, _, rfl⟩) ?_; intro w9 hw; have HE := Aside0.mk (plS_fail HS.out.rb HS.out.bel HGE.out.1 hw); clear hw))
            refine bodyPost_ret (results_ct rfl _ _ g10 42 #[.slice none 0 0, .slice none 0 0] (0, 0) _ rfl HE.out.1 Try.underlying42 rfl (by kernel_rfl)) rfl ?_
            rw [← HR0.out, HV.out]
            exact ⟨_, _, rfl, Kd.R_nil _ _ _ _ _, Kd.R_nil _ _ _ _ _, HE.out.2⟩
        · have HVX := Aside0.mk (show impl_Graph_isVertex.f n l [x] = some false by rw [vert_impl (n : Int) l [x] g.lo g.hi]; simp [verts]; omega)
          have HV := Aside0.mk (show R0 = none by
            have h := HPL2.out
            rw [if_neg (fun h => hxv ⟨h.1, h.2.1⟩)] at h
            exact h.symm)
          clear HPL2 hxv
          go_wp2_with (first
           | ((with_reducible refine gate_dst (N := 64) rfl ?_); refine Kd.R_lit (Kd.int .i64) _ 3 ?hg (N := 64) ?hd (xs := ([x] : List Int)) (inner := [.int .i64 x]) (ok := fun _ => True) (okp := fun _ => True) ?hr ?hp (fun _ hk => hk) trivial (Below.refl _ _) (Nat.le_refl _) (by simp) ?_; (case hd => rfl); (case hg => rfl); (case hr => first | (go_simp; done) | (go_simp; rfl)); (case hp => exact (Reps.one (show Kd.M (Kd.int .i64) _ _ _ x [.int .i64 x] from rfl) (Reps.none _ _))); intro v64 w4 ho hb hg_ hnew_; clear hg_ hnew_; obtain ⟨A64, c64, e64⟩ := Kd.R_slice ho; subst e64; have HO := Aside0.mk ho; clear ho hz0 hz1;
                 have HS2 := Aside0.mk (HS.out.below hb); clear HS hb hr0 hr1; have HS := HS2; clear HS2; have hz0 : w4.cell? ⟨g5, 0, none⟩ = some (.int .i64 n) := (blk_cell HS.out.gb 0).trans rfl; have hz1 : w4.cell? ⟨g5, 1, none⟩ = some (.slice A l.length c) := (blk_cell HS.out.gb 1).trans rfl)
           | ((with_reducible refine gate_callee (f := 88) rfl ?_); refine goesL_ (some 65) rfl rfl Try.func88 (by kernel_rfl) rfl #[.agg #[.int .i64 n, .slice A l.length c], .slice A64 ([x] : List Int).length c64] rfl (by (try simp only [List.map_toArray, List.map_cons, List.map_nil]); first | done | rfl) ?_; (with_reducible refine (impl_Graph_isVertex.calls n A c l A64 c64 [x] false w4 (Kd.C_below HR.out HS.out.bel) hc (Kd.R_reads' HO.out).2.2 (Kd.R_reads' HO.out).2.1 HVX.out).mono ?_); rintro e w5 ⟨rfl, hb⟩; refine ⟨_, rfl, ?_⟩; clear hz0 hz1 HO;
                 have HS2 := Aside0.mk (HS.out.below hb); clear HS hb; have HS := HS2; clear HS2; have hz0 : w5.cell? ⟨g5, 0, none⟩ = some (.int .i64 n) := (blk_cell HS.out.gb 0).trans rfl; have hz1 : w5.cell? ⟨g5, 1, none⟩ = some (.slice A l.length c) := (blk_cell HS.out.gb 1).trans rfl)
           | ((with_reducible refine gate_ (.store 42 (.tmp 10) (.tmp 75)) rfl ?_); refine store_event (w1 := (w5.setCell ⟨g10, 0, none⟩ (.slice none 0 0)).setCell ⟨g10, 1, none⟩ (.slice none 0 0)) rfl rfl rfl (store2_run (.tmp 10) (.tmp 75) rfl g10 (.slice none 0 0) (.slice none 0 0) _ _ _ rfl rfl HS.out.rb ⟨_, _, _, rfl⟩ ⟨_, _, _, rfl⟩) ?_; intro w9 hw; have HE := Aside0.mk (plS_fail HS.out.rb HS.out.bel HGE.out.1 hw); clear hw))
          refine bodyPost_ret (results_ct rfl _ _ g10 42 #[.slice none 0 0, .slice none 0 0] (0, 0) _ rfl HE.out.1 Try.underlying42 rfl (by kernel_rfl)) rfl ?_
          rw [← HR0.out, HV.out]
          exact ⟨_, _, rfl, Kd.R_nil _ _ _ _ _, Kd.R_nil _ _ _ _ _, HE.out.2⟩
      · have HPV := Aside0.mk hpv
        have HCH := Aside0.mk (show chaseV l p f = q by unfold chaseV; rw [hpv, if_neg (by omega)]; rfl)
        have hqz : (0 : Int) ≤ (q : Int) := Int.natCast_nonneg _
        clear hpv
        by_cases hqf : q = f
        · have hqfb : ((q : Int) != (f : Int)) = false := by rw [bne_eq_false_iff_eq]; omega
          have HPL2 := Aside0.mk (show playL l n mv (turns - (j + 1)) (j + 1) q f (P ++ [(q : Int)]) (F ++ [(f : Int)]) = R0 by
            rw [← HPL.out, show turns - j = (turns - (j + 1)) + 1 from by omega]
            conv => rhs; unfold playL
            rw [if_neg (fun h => hend (.inr h)), if_pos (HCH.out.trans hqf), HCH.out])
          clear hqf HPL
          go_wp2_with (first
           | ((with_reducible refine gate_callee (f := 66) rfl ?_); refine goesL_ (some 49) rfl rfl Try.func66 (by kernel_rfl) rfl #[.pointer (some ⟨T, 0, none⟩), .int .i64 p, .int .i64 f] rfl (by (try simp only [List.map_toArray, List.map_cons, List.map_nil]); first | done | rfl) ?_; (with_reducible refine (purs_c g A c hc T C E TF.out p f hp hf wr HS.out.tab (Kd.C_below HR.out HS.out.bel)).mono ?_); rintro e w2 ⟨rfl, hb⟩; refine ⟨_, rfl, ?_⟩; rw [HPV.out]; have HS2 := Aside0.mk (HS.out.below hb); clear HS hb hr0 hr1; have HS := HS2; clear HS2;
                 have hr0 : w2.cell? ⟨g13, 0, none⟩ = some (.slice AP P.length cP) := (blk_cell HS.out.rc 0).trans rfl; have hr1 : w2.cell? ⟨g13, 1, none⟩ = some (.slice AF F.length cF) := (blk_cell HS.out.rc 1).trans rfl)
           )
          have HLP := Aside0.mk (show P.length ≤ 1000 by have := HLEN.out.1; omega)
          have HLF := Aside0.mk (show F.length ≤ 1000 by have := HLEN.out.2; omega)
          have hS := Aside0.mk (⟨(blk_cell HS.out.rc 0).trans rfl, (blk_cell HS.out.rc 1).trans rfl⟩ : w2.drew.cell? ⟨g13, 0, none⟩ = some (.slice AP P.length cP) ∧ w2.drew.cell? ⟨g13, 1, none⟩ = some (.slice AF F.length cF))
          refine start_ (n := 14) (S := fun w' => w'.cell? ⟨g13, 0, none⟩ = some (.slice AP P.length cP) ∧ w'.cell? ⟨g13, 1, none⟩ = some (.slice AF F.length cF)) (ds := [11, 13]) #[false, false, false, false, false, false, false, false, false, false, false, false, false, false] (by kernel_rfl) rfl rfl hS.out (fun hHeld => ?_)
          refine pure_ (i := 0) (N := some 77) (v := ?_) (a' := ?_) #[true, false, false, false, false, false, false, false, false, false, false, false, false, false] rfl rfl (by kernel_rfl) (fun _ _ _ h => h) (Or.inl ⟨by rfl, ?_⟩) ?_ ?_
          rotate_left
          · intro w'
            go_simp; with_reducible rfl
          rotate_left
          · show Act.put _ _ _ = _
            simp only [Act.put, List.setIfInBounds_toArray, List.set_cons_zero, List.set_cons_succ, i64_w, i32_w]
            rfl
          refine take_ (i := 1) (N := some 78) (v := ?_) (a' := ?_) #[true, true, false, false, false, false, false, false, false, false, false, false, false, false] rfl rfl (by kernel_rfl) (fun _ _ _ h => h) (Or.inl ⟨by rfl, ?_⟩) hHeld ?_ ?_
          rotate_left
          · rintro w' ⟨s0, s1⟩; go_simp; with_reducible rfl
          rotate_left
          · show Act.put _ _ _ = _
            simp only [Act.put, List.setIfInBounds_toArray, List.set_cons_zero, List.set_cons_succ, i64_w, i32_w]
            rfl
          refine pure_ (i := 2) (N := some 79) (v := ?_) (a' := ?_) #[true, true, true, false, false, false, false, false, false, false, false, false, false, false] rfl rfl (by kernel_rfl) (fun _ _ _ h => h) (Or.inl ⟨by rfl, ?_⟩) ?_ ?_
          rotate_left
          · intro w'
            go_simp; with_reducible rfl
          rotate_left
          · show Act.put _ _ _ = _
            simp only [Act.put, List.setIfInBounds_toArray, List.set_cons_zero, List.set_cons_succ, i64_w, i32_w]
            rfl
          refine pure_ (i := 5) (N := some 82) (v := ?_) (a' := ?_) #[true, true, true, false, false, true, false, false, false, false, false, false, false, false] rfl rfl (by kernel_rfl) (fun _ _ _ h => h) (Or.inl ⟨by rfl, ?_⟩) ?_ ?_
          rotate_left
          · intro w'
            go_simp; with_reducible rfl
          rotate_left
          · show Act.put _ _ _ = _
            simp only [Act.put, List.setIfInBounds_toArray, List.set_cons_zero, List.set_cons_succ, i64_w, i32_w]
            rfl
          refine take_ (i := 6) (N := some 83) (v := ?_) (a' := ?_) #[true, true, true, false, false, true, true, false, false, false, false, false, false, false] rfl rfl (by kernel_rfl) (fun _ _ _ h => h) (Or.inl ⟨by rfl, ?_⟩) hHeld ?_ ?_
          rotate_left
          · rintro w' ⟨s0, s1⟩; go_simp; with_reducible rfl
          rotate_left
          · show Act.put _ _ _ = _
            simp only [Act.put, List.setIfInBounds_toArray, List.set_cons_zero, List.set_cons_succ, i64_w, i32_w]
            rfl
          refine pure_ (i := 7) (N := some 84) (v := ?_) (a' := ?_) #[true, true, true, false, false, true, true, true, false, false, false, false, false, false] rfl rfl (by kernel_rfl) (fun _ _ _ h => h) (Or.inl ⟨by rfl, ?_⟩) ?_ ?_
          rotate_left
          · intro w'
            go_simp; with_reducible rfl
          rotate_left
          · show Act.put _ _ _ = _
            simp only [Act.put, List.setIfInBounds_toArray, List.set_cons_zero, List.set_cons_succ, i64_w, i32_w]
            rfl
          have HSd := Aside0.mk (HS.out.drew)
          clear HS hS
          generalize w2.drew = wd at HSd hHeld ⊢
          refine join_ (σ := Nat × Value × Nat) 4 #[true, true, true, true, true, true, true, true, true, false, true, false, false, false] (fun s => [(80, .slice (some ⟨s.1, 0, none⟩) 1 1), (81, s.2.1), (85, .slice (some ⟨s.2.2, 0, none⟩) 1 1), (87, .pointer (some ⟨g13, 0, none⟩))]) (fun s w' => PlS w T n (.slice A l.length c) C E g5 g10 g13 (.slice AP P.length cP) (.slice AF F.length cF) s.2.1 (P ++ [(q : Int)]) (.slice AF F.length cF) F w' ∧ LitB w' s.2.2 (f : Int)) ?_ ?_
          · rintro ⟨b3, v1, b8⟩ wj ⟨HSj0, hlj⟩
            have HSj := Aside0.mk HSj0
            clear HSj0
            refine norm_ (a' := ?_) ?_ ?_
            rotate_left
            · simp only [putAll, Act.put, List.setIfInBounds_toArray, List.set_cons_zero, List.set_cons_succ]
              rfl
            obtain ⟨v2, wk, hrun, HSk0, _⟩ := HSj.out.appF b8 (f : Int) hlj HLF.out 22
            have HSk := Aside0.mk HSk0
            clear HSk0 HSj
            refine one_ (i := 9) (N := some 86) #[true, true, true, true, true, true, true, true, true, true, true, false, false, false] rfl rfl (by kernel_rfl) (by decide) (fun K hK => ?_)
            refine event_step (by rfl) (appOp_run _ _ (by rfl) _ _ _ _ (by rfl) (by rfl) hrun) ?_
            refine hK.out _ _ ⟨(blk_cell HSk.out.rc 0).trans rfl, (blk_cell HSk.out.rc 1).trans rfl⟩ (fun hHeld => ?_)
            clear hK K hrun hlj
            refine norm_ (a' := ?_) ?_ ?_
            rotate_left
            · show Act.put _ _ _ = _
              simp only [Act.put, List.setIfInBounds_toArray, List.set_cons_zero, List.set_cons_succ, i64_w, i32_w]
              rfl
            obtain ⟨A1, c1, e1⟩ := Kd.R_slice HSk.out.hP
            obtain ⟨A2, c2, e2⟩ := Kd.R_slice HSk.out.hF
            subst e1 e2
            refine last_ (i := 11) (N := none) #[true, true, true, true, true, true, true, true, true, true, true, true, false, false] rfl rfl (by kernel_rfl) (by decide) (fun K hK => ?_)
            refine put_step (by rfl) (by rfl) (put22_run _ _ (by rfl) g13 0 _ _ _ _ (by rfl) (by rfl) ((blk_cell HSk.out.rc 0).trans rfl) (blk_frozen HSk.out.rc 0)) ?_
            refine hK.out _ _ ?_
            clear hK K
            refine pure_ (i := 12) (N := some 88) (v := ?_) (a' := ?_) #[true, true, true, true, true, true, true, true, true, true, true, true, true, false] rfl rfl (by kernel_rfl) (fun _ _ _ h => h) (Or.inl ⟨by rfl, ?_⟩) ?_ ?_
            rotate_left
            · intro w'
              go_simp; with_reducible rfl
            rotate_left
            · show Act.put _ _ _ = _
              simp only [Act.put, List.setIfInBounds_toArray, List.set_cons_zero, List.set_cons_succ, i64_w, i32_w]
              rfl
            refine last_ (i := 13) (N := none) #[true, true, true, true, true, true, true, true, true, true, true, true, true, true] rfl rfl (by kernel_rfl) (by decide) (fun K hK => ?_)
            refine put_step (by rfl) (by rfl) (put22_run _ _ (by rfl) g13 1 _ _ _ _ (by rfl) (by rfl) ((blk_cell (blk_put HSk.out.rc 0 _ rfl) 1).trans rfl) (blk_frozen (blk_put HSk.out.rc 0 _ rfl) 1)) ?_
            refine hK.out _ _ ?_
            clear hK K
            refine done_ (by kernel_rfl) ?_
            obtain ⟨wl, hwl⟩ : ∃ wl, wl = (wk.setCell ⟨g13, 0, none⟩ (.slice A1 (P ++ [(q : Int)]).length c1)).setCell ⟨g13, 1, none⟩ (.slice A2 (F ++ [(f : Int)]).length c2) := ⟨_, rfl⟩
            rw [← hwl]
            have HSl := Aside0.mk (HSk.out.stored hwl HGE.out.2)
            clear hwl HSk
            go_wp2
            go_roundg (turns - (j + 1))
            case measure => omega
            case rel => exact ⟨j + 1, _, f, _, _, _, _, by omega, by omega, rfl, rfl, by go_num, hqn, hf, ⟨by have := HLEN.out; simp only [List.length_append, List.length_cons, List.length_nil]; omega⟩, HPL2, HSl⟩
          · intro hcont
            refine two_ (i := 3) (j := 8) (Ni := some 80) (Nj := some 85) #[true, true, true, true, false, true, true, true, false, false, false, false, false, false] #[true, true, true, false, false, true, true, true, true, false, false, false, false, false] rfl rfl rfl rfl (by kernel_rfl) (by decide) (by decide) (fun K hK => ?_) (fun K hK => ?_)
            · refine event_step (by rfl) (lit1_run _ (by rfl) (q : Int) (by rfl)) ?_
              refine hK.out _ _ ⟨(blk_cell (blk_alloc HSd.out.rc _) 0).trans rfl, (blk_cell (blk_alloc HSd.out.rc _) 1).trans rfl⟩ (fun hHeld => ?_)
              clear hK K
              have H1 := Aside0.mk (HSd.out.alloc (.cells #[.int .i64 (q : Int)] 3 (0, 0)))
              have hl3 := lit_new wd (q : Int)
              refine norm_ (a' := ?_) ?_ ?_
              rotate_left
              · show Act.put _ _ _ = _
                simp only [Act.put, List.setIfInBounds_toArray, List.set_cons_zero, List.set_cons_succ, i64_w, i32_w]
                rfl
              refine two_ (i := 4) (j := 8) (Ni := some 81) (Nj := some 85) #[true, true, true, true, true, true, true, true, false, false, false, false, false, false] #[true, true, true, true, false, true, true, true, true, false, false, false, false, false] rfl rfl rfl rfl (by kernel_rfl) (by decide) (by decide) (fun K hK => ?_) (fun K hK => ?_)
              · obtain ⟨v1, wm, hrun, HSm0, _⟩ := H1.out.appP wd.heap.size (q : Int) hl3 HLP.out 22
                refine event_step (by rfl) (appOp_run _ _ (by rfl) _ _ _ _ (by rfl) (by rfl) hrun) ?_
                refine hK.out _ _ ⟨(blk_cell HSm0.rc 0).trans rfl, (blk_cell HSm0.rc 1).trans rfl⟩ (fun hHeld => ?_)
                clear hK K
                refine norm_ (a' := ?_) ?_ ?_
                rotate_left
                · show Act.put _ _ _ = _
                  simp only [Act.put, List.setIfInBounds_toArray, List.set_cons_zero, List.set_cons_succ, i64_w, i32_w]
                  rfl
                refine pure_ (i := 10) (N := some 87) (v := ?_) (a' := ?_) #[true, true, true, true, true, true, true, true, false, false, true, false, false, false] rfl rfl (by kernel_rfl) (fun _ _ _ h => h) (Or.inl ⟨by rfl, ?_⟩) ?_ ?_
                rotate_left
                · intro w'
                  go_simp; with_reducible rfl
                rotate_left
                · show Act.put _ _ _ = _
                  simp only [Act.put, List.setIfInBounds_toArray, List.set_cons_zero, List.set_cons_succ, i64_w, i32_w]
                  rfl
                refine one_ (i := 8) (N := some 85) #[true, true, true, true, true, true, true, true, true, false, true, false, false, false] rfl rfl (by kernel_rfl) (by decide) (fun K hK => ?_)
                refine event_step (by rfl) (lit1_run _ (by rfl) (f : Int) (by rfl)) ?_
                refine hK.out _ _ ⟨(blk_cell (blk_alloc HSm0.rc _) 0).trans rfl, (blk_cell (blk_alloc HSm0.rc _) 1).trans rfl⟩ (fun hHeld => ?_)
                clear hK K
                exact norm_ (by rfl) (hcont ⟨wd.heap.size, v1, wm.heap.size⟩ _ ⟨HSm0.alloc _, lit_new wm _⟩)
              · refine event_step (by rfl) (lit1_run _ (by rfl) (f : Int) (by rfl)) ?_
                refine hK.out _ _ ⟨(blk_cell (blk_alloc H1.out.rc _) 0).trans rfl, (blk_cell (blk_alloc H1.out.rc _) 1).trans rfl⟩ (fun hHeld => ?_)
                clear hK K
                refine norm_ (a' := ?_) ?_ ?_
                rotate_left
                · show Act.put _ _ _ = _
                  simp only [Act.put, List.setIfInBounds_toArray, List.set_cons_zero, List.set_cons_succ, i64_w, i32_w]
                  rfl
                obtain ⟨v1, wm, hrun, HSm0, hlm⟩ := (H1.out.alloc (.cells #[.int .i64 (f : Int)] 3 (0, 0))).appP wd.heap.size (q : Int) (blk_alloc hl3 _) HLP.out 22
                refine one_ (i := 4) (N := some 81) #[true, true, true, true, true, true, true, true, true, false, false, false, false, false] rfl rfl (by kernel_rfl) (by decide) (fun K hK => ?_)
                refine event_step (by rfl) (appOp_run _ _ (by rfl) _ _ _ _ (by rfl) (by rfl) hrun) ?_
                refine hK.out _ _ ⟨(blk_cell HSm0.rc 0).trans rfl, (blk_cell HSm0.rc 1).trans rfl⟩ (fun hHeld => ?_)
                clear hK K
                refine norm_ (a' := ?_) ?_ ?_
                rotate_left
                · show Act.put _ _ _ = _
                  simp only [Act.put, List.setIfInBounds_toArray, List.set_cons_zero, List.set_cons_succ, i64_w, i32_w]
                  rfl
                refine pure_ (i := 10) (N := some 87) (v := ?_) (a' := ?_) #[true, true, true, true, true, true, true, true, true, false, true, false, false, false] rfl rfl (by kernel_rfl) (fun _ _ _ h => h) (Or.inl ⟨by rfl, ?_⟩) ?_ ?_
                rotate_left
                · intro w'
                  go_simp; with_reducible rfl
                rotate_left
                · show Act.put _ _ _ = _
                  simp only [Act.put, List.setIfInBounds_toArray, List.set_cons_zero, List.set_cons_succ, i64_w, i32_w]
                  rfl
                exact norm_ (by rfl) (hcont ⟨wd.heap.size, v1, (wd.alloc (.cells #[.int .i64 (q : Int)] 3 (0, 0))).heap.size⟩ _ ⟨HSm0, hlm _ _ (lit_new _ _) (lit_ne H1.out.hP)⟩)
            · refine event_step (by rfl) (lit1_run _ (by rfl) (f : Int) (by rfl)) ?_
              refine hK.out _ _ ⟨(blk_cell (blk_alloc HSd.out.rc _) 0).trans rfl, (blk_cell (blk_alloc HSd.out.rc _) 1).trans rfl⟩ (fun hHeld => ?_)
              clear hK K
              have H1 := Aside0.mk (HSd.out.alloc (.cells #[.int .i64 (f : Int)] 3 (0, 0)))
              have hl8 := lit_new wd (f : Int)
              refine norm_ (a' := ?_) ?_ ?_
              rotate_left
              · show Act.put _ _ _ = _
                simp only [Act.put, List.setIfInBounds_toArray, List.set_cons_zero, List.set_cons_succ, i64_w, i32_w]
                rfl
              refine one_ (i := 3) (N := some 80) #[true, true, true, true, false, true, true, true, true, false, false, false, false, false] rfl rfl (by kernel_rfl) (by decide) (fun K hK => ?_)
              refine event_step (by rfl) (lit1_run _ (by rfl) (q : Int) (by rfl)) ?_
              refine hK.out _ _ ⟨(blk_cell (blk_alloc H1.out.rc _) 0).trans rfl, (blk_cell (blk_alloc H1.out.rc _) 1).trans rfl⟩ (fun hHeld => ?_)
              clear hK K
              refine norm_ (a' := ?_) ?_ ?_
              rotate_left
              · show Act.put _ _ _ = _
                simp only [Act.put, List.setIfInBounds_toArray, List.set_cons_zero, List.set_cons_succ, i64_w, i32_w]
                rfl
              obtain ⟨v1, wm, hrun, HSm0, hlm⟩ := (H1.out.alloc (.cells #[.int .i64 (q : Int)] 3 (0, 0))).appP _ (q : Int) (lit_new _ _) HLP.out 22
              refine one_ (i := 4) (N := some 81) #[true, true, true, true, true, true, true, true, true, false, false, false, false, false] rfl rfl (by kernel_rfl) (by decide) (fun K hK => ?_)
              refine event_step (by rfl) (appOp_run _ _ (by rfl) _ _ _ _ (by rfl) (by rfl) hrun) ?_
              refine hK.out _ _ ⟨(blk_cell HSm0.rc 0).trans rfl, (blk_cell HSm0.rc 1).trans rfl⟩ (fun hHeld => ?_)
              clear hK K
              refine norm_ (a' := ?_) ?_ ?_
              rotate_left
              · show Act.put _ _ _ = _
                simp only [Act.put, List.setIfInBounds_toArray, List.set_cons_zero, List.set_cons_succ, i64_w, i32_w]
                rfl
              refine pure_ (i := 10) (N := some 87) (v := ?_) (a' := ?_) #[true, true, true, true, true, true, true, true, true, false, true, false, false, false] rfl rfl (by kernel_rfl) (fun _ _ _ h => h) (Or.inl ⟨by rfl, ?_⟩) ?_ ?_
              rotate_left
              · intro w'
                go_simp; with_reducible rfl
              rotate_left
              · show Act.put _ _ _ = _
                simp only [Act.put, List.setIfInBounds_toArray, List.set_cons_zero, List.set_cons_succ, i64_w, i32_w]
                rfl
              exact norm_ (by rfl) (hcont ⟨(wd.alloc (.cells #[.int .i64 (f : Int)] 3 (0, 0))).heap.size, v1, wd.heap.size⟩ _ ⟨HSm0, hlm _ _ (blk_alloc hl8 _) (lit_ne HSd.out.hP)⟩)
        · have hqfb : ((q : Int) != (f : Int)) = true := by rw [bne_iff_ne]; omega
          obtain ⟨x, hx⟩ : ∃ x, x = mv j q f := ⟨_, rfl⟩
          have HX := Aside0.mk hx
          have HPL2 := Aside0.mk (show (if 0 ≤ x ∧ x < (n : Int) ∧ (stayN l f).testBit x.toNat = true then playL l n mv (turns - (j + 1)) (j + 1) q x.toNat (P ++ [(q : Int)]) (F ++ [x]) else none) = R0 by
            rw [← HPL.out, show turns - j = (turns - (j + 1)) + 1 from by omega]
            conv => rhs; unfold playL
            rw [if_neg (fun h => hend (.inr h)), if_neg (fun h => hqf (HCH.out.symm.trans h)), HCH.out, hx])
          clear hx HPL hqf
          go_wp2_with (first
           | ((with_reducible refine gate_callee (f := 66) rfl ?_); refine goesL_ (some 49) rfl rfl Try.func66 (by kernel_rfl) rfl #[.pointer (some ⟨T, 0, none⟩), .int .i64 p, .int .i64 f] rfl (by (try simp only [List.map_toArray, List.map_cons, List.map_nil]); first | done | rfl) ?_; (with_reducible refine (purs_c g A c hc T C E TF.out p f hp hf wr HS.out.tab (Kd.C_below HR.out HS.out.bel)).mono ?_); rintro e w2 ⟨rfl, hb⟩; refine ⟨_, rfl, ?_⟩; rw [HPV.out]; have HS2 := Aside0.mk (HS.out.below hb); clear HS hb hr0 hr1; have HS := HS2; clear HS2;
                 have hr0 : w2.cell? ⟨g13, 0, none⟩ = some (.slice AP P.length cP) := (blk_cell HS.out.rc 0).trans rfl; have hr1 : w2.cell? ⟨g13, 1, none⟩ = some (.slice AF F.length cF) := (blk_cell HS.out.rc 1).trans rfl)
           )
          refine (HMV.out w2 T C E j q f HS.out.bel HS.out.tab TF.out hqn hf hjlt).mono ?_
          rintro e w3 ⟨rfl, hb⟩
          rw [← HX.out]
          have HS2 := Aside0.mk (HS.out.below hb)
          clear HS hb hr0 hr1
          have HS := HS2
          clear HS2
          have hr0 : w3.cell? ⟨g13, 0, none⟩ = some (.slice AP P.length cP) := (blk_cell HS.out.rc 0).trans rfl
          have hr1 : w3.cell? ⟨g13, 1, none⟩ = some (.slice AF F.length cF) := (blk_cell HS.out.rc 1).trans rfl
          have hz0 : w3.cell? ⟨g5, 0, none⟩ = some (.int .i64 n) := (blk_cell HS.out.gb 0).trans rfl
          have hz1 : w3.cell? ⟨g5, 1, none⟩ = some (.slice A l.length c) := (blk_cell HS.out.gb 1).trans rfl
          by_cases hxv : 0 ≤ x ∧ x < (n : Int)
          · have HVX := Aside0.mk (show impl_Graph_isVertex.f n l [x] = some true by rw [vert_impl (n : Int) l [x] g.lo g.hi]; simp [verts]; omega)
            obtain ⟨y, hy, hyn⟩ : ∃ y : Nat, x = (y : Int) ∧ y < n := ⟨x.toNat, by omega, by omega⟩
            have HHX0 : impl_has.f ((stayN l f : Nat) : Int) x = some ((stayN l f).testBit y) := by rw [hy, has_impl _ _ (by have := stayN_lt8 g f (by have := HLN.out; omega); omega) (by omega)]
            have HY := Aside0.mk hy
            by_cases hbit : (stayN l f).testBit y = true
            · rw [hbit] at HHX0
              have HHX := Aside0.mk HHX0
              have HPL3 := Aside0.mk (show playL l n mv (turns - (j + 1)) (j + 1) q y (P ++ [(q : Int)]) (F ++ [x]) = R0 by
                have h := HPL2.out
                rw [if_pos ⟨hxv.1, hxv.2, by rw [hy, Int.toNat_natCast]; exact hbit⟩] at h
                rw [← h]
                congr 1
                omega)
              clear HPL2 hbit HHX0 hy hxv
              go_wp2_with (first
               | ((with_reducible refine gate_dst (N := 64) rfl ?_); refine Kd.R_lit (Kd.int .i64) _ 3 ?hg (N := 64) ?hd (xs := ([x] : List Int)) (inner := [.int .i64 x]) (ok := fun _ => True) (okp := fun _ => True) ?hr ?hp (fun _ hk => hk) trivial (Below.refl _ _) (Nat.le_refl _) (by simp) ?_; (case hd => rfl); (case hg => rfl); (case hr => first | (go_simp; done) | (go_simp; rfl)); (case hp => exact (Reps.one (show Kd.M (Kd.int .i64) _ _ _ x [.int .i64 x] from rfl) (Reps.none _ _))); intro v64 w4 ho hb hg_ hnew_; clear hg_ hnew_; obtain ⟨A64, c64, e64⟩ := Kd.R_slice ho; subst e64; have HO := Aside0.mk ho; clear ho hz0 hz1;
                     have HS2 := Aside0.mk (HS.out.below hb); clear HS hb hr0 hr1; have HS := HS2; clear HS2; have hz0 : w4.cell? ⟨g5, 0, none⟩ = some (.int .i64 n) := (blk_cell HS.out.gb 0).trans rfl; have hz1 : w4.cell? ⟨g5, 1, none⟩ = some (.slice A l.length c) := (blk_cell HS.out.gb 1).trans rfl)
               | ((with_reducible refine gate_callee (f := 88) rfl ?_); refine goesL_ (some 65) rfl rfl Try.func88 (by kernel_rfl) rfl #[.agg #[.int .i64 n, .slice A l.length c], .slice A64 ([x] : List Int).length c64] rfl (by (try simp only [List.map_toArray, List.map_cons, List.map_nil]); first | done | rfl) ?_; (with_reducible refine (impl_Graph_isVertex.calls n A c l A64 c64 [x] true w4 (Kd.C_below HR.out HS.out.bel) hc (Kd.R_reads' HO.out).2.2 (Kd.R_reads' HO.out).2.1 HVX.out).mono ?_); rintro e w5 ⟨rfl, hb⟩; refine ⟨_, rfl, ?_⟩; clear hz0 hz1 HO;
                     have HS2 := Aside0.mk (HS.out.below hb); clear HS hb; have HS := HS2; clear HS2; have hz0 : w5.cell? ⟨g5, 0, none⟩ = some (.int .i64 n) := (blk_cell HS.out.gb 0).trans rfl; have hz1 : w5.cell? ⟨g5, 1, none⟩ = some (.slice A l.length c) := (blk_cell HS.out.gb 1).trans rfl)
               | ((with_reducible refine gate_callee (f := 94) rfl ?_); refine gate_guard (by rfl) ?_; refine goesL_ (some 70) rfl rfl Try.func94 (by kernel_rfl) rfl #[.agg #[.int .i64 n, .slice A l.length c], .int .i64 f] rfl (by (try simp only [List.map_toArray, List.map_cons, List.map_nil]); first | done | rfl) ?_; (with_reducible refine (stay_c g f (by have := HLN.out; omega) A c hc _ (Kd.C_below HR.out HS.out.bel)).mono ?_); rintro e w6 ⟨rfl, hb⟩; refine ⟨_, rfl, ?_⟩; clear hz0 hz1; have HS2 := Aside0.mk (HS.out.below hb); clear HS hb; have HS := HS2; clear HS2)
               | ((with_reducible refine gate_callee (f := 85) rfl ?_); refine gate_guard (by rfl) ?_; refine goesL_ (some 72) rfl rfl Try.func85 (by kernel_rfl) rfl #[.int .i64 ((stayN l f : Nat) : Int), .int .i64 x] rfl (by (try simp only [List.map_toArray, List.map_cons, List.map_nil]); first | done | rfl) ?_; (with_reducible refine (impl_has.calls ((stayN l f : Nat) : Int) x true _ HHX.out).mono ?_); rintro e w7 ⟨rfl, hd⟩; refine ⟨_, rfl, ?_⟩; have hb := hd.below; have HS2 := Aside0.mk (HS.out.below hb); clear HS hb hd; have HS := HS2; clear HS2;
                     have hr0 : w7.cell? ⟨g13, 0, none⟩ = some (.slice AP P.length cP) := (blk_cell HS.out.rc 0).trans rfl; have hr1 : w7.cell? ⟨g13, 1, none⟩ = some (.slice AF F.length cF) := (blk_cell HS.out.rc 1).trans rfl)
               )
              have HLP := Aside0.mk (show P.length ≤ 1000 by have := HLEN.out.1; omega)
              have HLF := Aside0.mk (show F.length ≤ 1000 by have := HLEN.out.2; omega)
              have hS := Aside0.mk (⟨(blk_cell HS.out.rc 0).trans rfl, (blk_cell HS.out.rc 1).trans rfl⟩ : w7.drew.cell? ⟨g13, 0, none⟩ = some (.slice AP P.length cP) ∧ w7.drew.cell? ⟨g13, 1, none⟩ = some (.slice AF F.length cF))
              refine start_ (n := 14) (S := fun w' => w'.cell? ⟨g13, 0, none⟩ = some (.slice AP P.length cP) ∧ w'.cell? ⟨g13, 1, none⟩ = some (.slice AF F.length cF)) (ds := [11, 13]) #[false, false, false, false, false, false, false, false, false, false, false, false, false, false] (by kernel_rfl) rfl rfl hS.out (fun hHeld => ?_)
              refine pure_ (i := 0) (N := some 77) (v := ?_) (a' := ?_) #[true, false, false, false, false, false, false, false, false, false, false, false, false, false] rfl rfl (by kernel_rfl) (fun _ _ _ h => h) (Or.inl ⟨by rfl, ?_⟩) ?_ ?_
              rotate_left
              · intro w'
                go_simp; with_reducible rfl
              rotate_left
              · show Act.put _ _ _ = _
                simp only [Act.put, List.setIfInBounds_toArray, List.set_cons_zero, List.set_cons_succ, i64_w, i32_w]
                rfl
              refine take_ (i := 1) (N := some 78) (v := ?_) (a' := ?_) #[true, true, false, false, false, false, false, false, false, false, false, false, false, false] rfl rfl (by kernel_rfl) (fun _ _ _ h => h) (Or.inl ⟨by rfl, ?_⟩) hHeld ?_ ?_
              rotate_left
              · rintro w' ⟨s0, s1⟩; go_simp; with_reducible rfl
              rotate_left
              · show Act.put _ _ _ = _
                simp only [Act.put, List.setIfInBounds_toArray, List.set_cons_zero, List.set_cons_succ, i64_w, i32_w]
                rfl
              refine pure_ (i := 2) (N := some 79) (v := ?_) (a' := ?_) #[true, true, true, false, false, false, false, false, false, false, false, false, false, false] rfl rfl (by kernel_rfl) (fun _ _ _ h => h) (Or.inl ⟨by rfl, ?_⟩) ?_ ?_
              rotate_left
              · intro w'
                go_simp; with_reducible rfl
              rotate_left
              · show Act.put _ _ _ = _
                simp only [Act.put, List.setIfInBounds_toArray, List.set_cons_zero, List.set_cons_succ, i64_w, i32_w]
                rfl
              refine pure_ (i := 5) (N := some 82) (v := ?_) (a' := ?_) #[true, true, true, false, false, true, false, false, false, false, false, false, false, false] rfl rfl (by kernel_rfl) (fun _ _ _ h => h) (Or.inl ⟨by rfl, ?_⟩) ?_ ?_
              rotate_left
              · intro w'
                go_simp; with_reducible rfl
              rotate_left
              · show Act.put _ _ _ = _
                simp only [Act.put, List.setIfInBounds_toArray, List.set_cons_zero, List.set_cons_succ, i64_w, i32_w]
                rfl
              refine take_ (i := 6) (N := some 83) (v := ?_) (a' := ?_) #[true, true, true, false, false, true, true, false, false, false, false, false, false, false] rfl rfl (by kernel_rfl) (fun _ _ _ h => h) (Or.inl ⟨by rfl, ?_⟩) hHeld ?_ ?_
              rotate_left
              · rintro w' ⟨s0, s1⟩; go_simp; with_reducible rfl
              rotate_left
              · show Act.put _ _ _ = _
                simp only [Act.put, List.setIfInBounds_toArray, List.set_cons_zero, List.set_cons_succ, i64_w, i32_w]
                rfl
              refine pure_ (i := 7) (N := some 84) (v := ?_) (a' := ?_) #[true, true, true, false, false, true, true, true, false, false, false, false, false, false] rfl rfl (by kernel_rfl) (fun _ _ _ h => h) (Or.inl ⟨by rfl, ?_⟩) ?_ ?_
              rotate_left
              · intro w'
                go_simp; with_reducible rfl
              rotate_left
              · show Act.put _ _ _ = _
                simp only [Act.put, List.setIfInBounds_toArray, List.set_cons_zero, List.set_cons_succ, i64_w, i32_w]
                rfl
              have HSd := Aside0.mk (HS.out.drew)
              clear HS hS
              generalize w7.drew = wd at HSd hHeld ⊢
              refine join_ (σ := Nat × Value × Nat) 4 #[true, true, true, true, true, true, true, true, true, false, true, false, false, false] (fun s => [(80, .slice (some ⟨s.1, 0, none⟩) 1 1), (81, s.2.1), (85, .slice (some ⟨s.2.2, 0, none⟩) 1 1), (87, .pointer (some ⟨g13, 0, none⟩))]) (fun s w' => PlS w T n (.slice A l.length c) C E g5 g10 g13 (.slice AP P.length cP) (.slice AF F.length cF) s.2.1 (P ++ [(q : Int)]) (.slice AF F.length cF) F w' ∧ LitB w' s.2.2 x) ?_ ?_
              · rintro ⟨b3, v1, b8⟩ wj ⟨HSj0, hlj⟩
                have HSj := Aside0.mk HSj0
                clear HSj0
                refine norm_ (a' := ?_) ?_ ?_
                rotate_left
                · simp only [putAll, Act.put, List.setIfInBounds_toArray, List.set_cons_zero, List.set_cons_succ]
                  rfl
                obtain ⟨v2, wk, hrun, HSk0, _⟩ := HSj.out.appF b8 x hlj HLF.out 22
                have HSk := Aside0.mk HSk0
                clear HSk0 HSj
                refine one_ (i := 9) (N := some 86) #[true, true, true, true, true, true, true, true, true, true, true, false, false, false] rfl rfl (by kernel_rfl) (by decide) (fun K hK => ?_)
                refine event_step (by rfl) (appOp_run _ _ (by rfl) _ _ _ _ (by rfl) (by rfl) hrun) ?_
                refine hK.out _ _ ⟨(blk_cell HSk.out.rc 0).trans rfl, (blk_cell HSk.out.rc 1).trans rfl⟩ (fun hHeld => ?_)
                clear hK K hrun hlj
                refine norm_ (a' := ?_) ?_ ?_
                rotate_left
                · show Act.put _ _ _ = _
                  simp only [Act.put, List.setIfInBounds_toArray, List.set_cons_zero, List.set_cons_succ, i64_w, i32_w]
                  rfl
                obtain ⟨A1, c1, e1⟩ := Kd.R_slice HSk.out.hP
                obtain ⟨A2, c2, e2⟩ := Kd.R_slice HSk.out.hF
                subst e1 e2
                refine last_ (i := 11) (N := none) #[true, true, true, true, true, true, true, true, true, true, true, true, false, false] rfl rfl (by kernel_rfl) (by decide) (fun K hK => ?_)
                refine put_step (by rfl) (by rfl) (put22_run _ _ (by rfl) g13 0 _ _ _ _ (by rfl) (by rfl) ((blk_cell HSk.out.rc 0).trans rfl) (blk_frozen HSk.out.rc 0)) ?_
                refine hK.out _ _ ?_
                clear hK K
                refine pure_ (i := 12) (N := some 88) (v := ?_) (a' := ?_) #[true, true, true, true, true, true, true, true, true, true, true, true, true, false] rfl rfl (by kernel_rfl) (fun _ _ _ h => h) (Or.inl ⟨by rfl, ?_⟩) ?_ ?_
                rotate_left
                · intro w'
                  go_simp; with_reducible rfl
                rotate_left
                · show Act.put _ _ _ = _
                  simp only [Act.put, List.setIfInBounds_toArray, List.set_cons_zero, List.set_cons_succ, i64_w, i32_w]
                  rfl
                refine last_ (i := 13) (N := none) #[true, true, true, true, true, true, true, true, true, true, true, true, true, true] rfl rfl (by kernel_rfl) (by decide) (fun K hK => ?_)
                refine put_step (by rfl) (by rfl) (put22_run _ _ (by rfl) g13 1 _ _ _ _ (by rfl) (by rfl) ((blk_cell (blk_put HSk.out.rc 0 _ rfl) 1).trans rfl) (blk_frozen (blk_put HSk.out.rc 0 _ rfl) 1)) ?_
                refine hK.out _ _ ?_
                clear hK K
                refine done_ (by kernel_rfl) ?_
                obtain ⟨wl, hwl⟩ : ∃ wl, wl = (wk.setCell ⟨g13, 0, none⟩ (.slice A1 (P ++ [(q : Int)]).length c1)).setCell ⟨g13, 1, none⟩ (.slice A2 (F ++ [x]).length c2) := ⟨_, rfl⟩
                rw [← hwl]
                have HSl := Aside0.mk (HSk.out.stored hwl HGE.out.2)
                clear hwl HSk
                go_wp2
                go_roundg (turns - (j + 1))
                case measure => omega
                case rel => exact ⟨j + 1, _, y, _, _, _, _, by omega, by omega, rfl, by rw [HY.out], by go_num, hqn, hyn, ⟨by have := HLEN.out; simp only [List.length_append, List.length_cons, List.length_nil]; omega⟩, HPL3, HSl⟩
              · intro hcont
                refine two_ (i := 3) (j := 8) (Ni := some 80) (Nj := some 85) #[true, true, true, true, false, true, true, true, false, false, false, false, false, false] #[true, true, true, false, false, true, true, true, true, false, false, false, false, false] rfl rfl rfl rfl (by kernel_rfl) (by decide) (by decide) (fun K hK => ?_) (fun K hK => ?_)
                · refine event_step (by rfl) (lit1_run _ (by rfl) (q : Int) (by rfl)) ?_
                  refine hK.out _ _ ⟨(blk_cell (blk_alloc HSd.out.rc _) 0).trans rfl, (blk_cell (blk_alloc HSd.out.rc _) 1).trans rfl⟩ (fun hHeld => ?_)
                  clear hK K
                  have H1 := Aside0.mk (HSd.out.alloc (.cells #[.int .i64 (q : Int)] 3 (0, 0)))
                  have hl3 := lit_new wd (q : Int)
                  refine norm_ (a' := ?_) ?_ ?_
                  rotate_left
                  · show Act.put _ _ _ = _
                    simp only [Act.put, List.setIfInBounds_toArray, List.set_cons_zero, List.set_cons_succ, i64_w, i32_w]
                    rfl
                  refine two_ (i := 4) (j := 8) (Ni := some 81) (Nj := some 85) #[true, true, true, true, true, true, true, true, false, false, false, false, false, false] #[true, true, true, true, false, true, true, true, true, false, false, false, false, false] rfl rfl rfl rfl (by kernel_rfl) (by decide) (by decide) (fun K hK => ?_) (fun K hK => ?_)
                  · obtain ⟨v1, wm, hrun, HSm0, _⟩ := H1.out.appP wd.heap.size (q : Int) hl3 HLP.out 22
                    refine event_step (by rfl) (appOp_run _ _ (by rfl) _ _ _ _ (by rfl) (by rfl) hrun) ?_
                    refine hK.out _ _ ⟨(blk_cell HSm0.rc 0).trans rfl, (blk_cell HSm0.rc 1).trans rfl⟩ (fun hHeld => ?_)
                    clear hK K
                    refine norm_ (a' := ?_) ?_ ?_
                    rotate_left
                    · show Act.put _ _ _ = _
                      simp only [Act.put, List.setIfInBounds_toArray, List.set_cons_zero, List.set_cons_succ, i64_w, i32_w]
                      rfl
                    refine pure_ (i := 10) (N := some 87) (v := ?_) (a' := ?_) #[true, true, true, true, true, true, true, true, false, false, true, false, false, false] rfl rfl (by kernel_rfl) (fun _ _ _ h => h) (Or.inl ⟨by rfl, ?_⟩) ?_ ?_
                    rotate_left
                    · intro w'
                      go_simp; with_reducible rfl
                    rotate_left
                    · show Act.put _ _ _ = _
                      simp only [Act.put, List.setIfInBounds_toArray, List.set_cons_zero, List.set_cons_succ, i64_w, i32_w]
                      rfl
                    refine one_ (i := 8) (N := some 85) #[true, true, true, true, true, true, true, true, true, false, true, false, false, false] rfl rfl (by kernel_rfl) (by decide) (fun K hK => ?_)
                    refine event_step (by rfl) (lit1_run _ (by rfl) x (by rfl)) ?_
                    refine hK.out _ _ ⟨(blk_cell (blk_alloc HSm0.rc _) 0).trans rfl, (blk_cell (blk_alloc HSm0.rc _) 1).trans rfl⟩ (fun hHeld => ?_)
                    clear hK K
                    exact norm_ (by rfl) (hcont ⟨wd.heap.size, v1, wm.heap.size⟩ _ ⟨HSm0.alloc _, lit_new wm _⟩)
                  · refine event_step (by rfl) (lit1_run _ (by rfl) x (by rfl)) ?_
                    refine hK.out _ _ ⟨(blk_cell (blk_alloc H1.out.rc _) 0).trans rfl, (blk_cell (blk_alloc H1.out.rc _) 1).trans rfl⟩ (fun hHeld => ?_)
                    clear hK K
                    refine norm_ (a' := ?_) ?_ ?_
                    rotate_left
                    · show Act.put _ _ _ = _
                      simp only [Act.put, List.setIfInBounds_toArray, List.set_cons_zero, List.set_cons_succ, i64_w, i32_w]
                      rfl
                    obtain ⟨v1, wm, hrun, HSm0, hlm⟩ := (H1.out.alloc (.cells #[.int .i64 x] 3 (0, 0))).appP wd.heap.size (q : Int) (blk_alloc hl3 _) HLP.out 22
                    refine one_ (i := 4) (N := some 81) #[true, true, true, true, true, true, true, true, true, false, false, false, false, false] rfl rfl (by kernel_rfl) (by decide) (fun K hK => ?_)
                    refine event_step (by rfl) (appOp_run _ _ (by rfl) _ _ _ _ (by rfl) (by rfl) hrun) ?_
                    refine hK.out _ _ ⟨(blk_cell HSm0.rc 0).trans rfl, (blk_cell HSm0.rc 1).trans rfl⟩ (fun hHeld => ?_)
                    clear hK K
                    refine norm_ (a' := ?_) ?_ ?_
                    rotate_left
                    · show Act.put _ _ _ = _
                      simp only [Act.put, List.setIfInBounds_toArray, List.set_cons_zero, List.set_cons_succ, i64_w, i32_w]
                      rfl
                    refine pure_ (i := 10) (N := some 87) (v := ?_) (a' := ?_) #[true, true, true, true, true, true, true, true, true, false, true, false, false, false] rfl rfl (by kernel_rfl) (fun _ _ _ h => h) (Or.inl ⟨by rfl, ?_⟩) ?_ ?_
                    rotate_left
                    · intro w'
                      go_simp; with_reducible rfl
                    rotate_left
                    · show Act.put _ _ _ = _
                      simp only [Act.put, List.setIfInBounds_toArray, List.set_cons_zero, List.set_cons_succ, i64_w, i32_w]
                      rfl
                    exact norm_ (by rfl) (hcont ⟨wd.heap.size, v1, (wd.alloc (.cells #[.int .i64 (q : Int)] 3 (0, 0))).heap.size⟩ _ ⟨HSm0, hlm _ _ (lit_new _ _) (lit_ne H1.out.hP)⟩)
                · refine event_step (by rfl) (lit1_run _ (by rfl) x (by rfl)) ?_
                  refine hK.out _ _ ⟨(blk_cell (blk_alloc HSd.out.rc _) 0).trans rfl, (blk_cell (blk_alloc HSd.out.rc _) 1).trans rfl⟩ (fun hHeld => ?_)
                  clear hK K
                  have H1 := Aside0.mk (HSd.out.alloc (.cells #[.int .i64 x] 3 (0, 0)))
                  have hl8 := lit_new wd x
                  refine norm_ (a' := ?_) ?_ ?_
                  rotate_left
                  · show Act.put _ _ _ = _
                    simp only [Act.put, List.setIfInBounds_toArray, List.set_cons_zero, List.set_cons_succ, i64_w, i32_w]
                    rfl
                  refine one_ (i := 3) (N := some 80) #[true, true, true, true, false, true, true, true, true, false, false, false, false, false] rfl rfl (by kernel_rfl) (by decide) (fun K hK => ?_)
                  refine event_step (by rfl) (lit1_run _ (by rfl) (q : Int) (by rfl)) ?_
                  refine hK.out _ _ ⟨(blk_cell (blk_alloc H1.out.rc _) 0).trans rfl, (blk_cell (blk_alloc H1.out.rc _) 1).trans rfl⟩ (fun hHeld => ?_)
                  clear hK K
                  refine norm_ (a' := ?_) ?_ ?_
                  rotate_left
                  · show Act.put _ _ _ = _
                    simp only [Act.put, List.setIfInBounds_toArray, List.set_cons_zero, List.set_cons_succ, i64_w, i32_w]
                    rfl
                  obtain ⟨v1, wm, hrun, HSm0, hlm⟩ := (H1.out.alloc (.cells #[.int .i64 (q : Int)] 3 (0, 0))).appP _ (q : Int) (lit_new _ _) HLP.out 22
                  refine one_ (i := 4) (N := some 81) #[true, true, true, true, true, true, true, true, true, false, false, false, false, false] rfl rfl (by kernel_rfl) (by decide) (fun K hK => ?_)
                  refine event_step (by rfl) (appOp_run _ _ (by rfl) _ _ _ _ (by rfl) (by rfl) hrun) ?_
                  refine hK.out _ _ ⟨(blk_cell HSm0.rc 0).trans rfl, (blk_cell HSm0.rc 1).trans rfl⟩ (fun hHeld => ?_)
                  clear hK K
                  refine norm_ (a' := ?_) ?_ ?_
                  rotate_left
                  · show Act.put _ _ _ = _
                    simp only [Act.put, List.setIfInBounds_toArray, List.set_cons_zero, List.set_cons_succ, i64_w, i32_w]
                    rfl
                  refine pure_ (i := 10) (N := some 87) (v := ?_) (a' := ?_) #[true, true, true, true, true, true, true, true, true, false, true, false, false, false] rfl rfl (by kernel_rfl) (fun _ _ _ h => h) (Or.inl ⟨by rfl, ?_⟩) ?_ ?_
                  rotate_left
                  · intro w'
                    go_simp; with_reducible rfl
                  rotate_left
                  · show Act.put _ _ _ = _
                    simp only [Act.put, List.setIfInBounds_toArray, List.set_cons_zero, List.set_cons_succ, i64_w, i32_w]
                    rfl
                  exact norm_ (by rfl) (hcont ⟨(wd.alloc (.cells #[.int .i64 x] 3 (0, 0))).heap.size, v1, wd.heap.size⟩ _ ⟨HSm0, hlm _ _ (blk_alloc hl8 _) (lit_ne HSd.out.hP)⟩)
            · have hbit2 : (stayN l f).testBit y = false := by simpa using hbit
              rw [hbit2] at HHX0
              have HHX := Aside0.mk HHX0
              have HV := Aside0.mk (show R0 = none by
                have h := HPL2.out
                rw [if_neg (fun h => hbit (by have := h.2.2; rw [hy, Int.toNat_natCast] at this; exact this))] at h
                exact h.symm)
              clear HPL2 hbit HHX0 hy hxv hbit2
              go_wp2_with (first
               | ((with_reducible refine gate_dst (N := 64) rfl ?_); refine Kd.R_lit (Kd.int .i64) _ 3 ?hg (N := 64) ?hd (xs := ([x] : List Int)) (inner := [.int .i64 x]) (ok := fun _ => True) (okp := fun _ => True) ?hr ?hp (fun _ hk => hk) trivial (Below.refl _ _) (Nat.le_refl _) (by simp) ?_; (case hd => rfl); (case hg => rfl); (case hr => first | (go_simp; done) | (go_simp; rfl)); (case hp => exact (Reps.one (show Kd.M (Kd.int .i64) _ _ _ x [.int .i64 x] from rfl) (Reps.none _ _))); intro v64 w4 ho hb hg_ hnew_; clear hg_ hnew_; obtain ⟨A64, c64, e64⟩ := Kd.R_slice ho; subst e64; have HO := Aside0.mk ho; clear ho hz0 hz1;
                     have HS2 := Aside0.mk (HS.out.below hb); clear HS hb hr0 hr1; have HS := HS2; clear HS2; have hz0 : w4.cell? ⟨g5, 0, none⟩ = some (.int .i64 n) := (blk_cell HS.out.gb 0).trans rfl; have hz1 : w4.cell? ⟨g5, 1, none⟩ = some (.slice A l.length c) := (blk_cell HS.out.gb 1).trans rfl)
               | ((with_reducible refine gate_callee (f := 88) rfl ?_); refine goesL_ (some 65) rfl rfl Try.func88 (by kernel_rfl) rfl #[.agg #[.int .i64 n, .slice A l.length c], .slice A64 ([x] : List Int).length c64] rfl (by (try simp only [List.map_toArray, List.map_cons, List.map_nil]); first | done | rfl) ?_; (with_reducible refine (impl_Graph_isVertex.calls n A c l A64 c64 [x] true w4 (Kd.C_below HR.out HS.out.bel) hc (Kd.R_reads' HO.out).2.2 (Kd.R_reads' HO.out).2.1 HVX.out).mono ?_); rintro e w5 ⟨rfl, hb⟩; refine ⟨_, rfl, ?_⟩; clear hz0 hz1 HO;
                     have HS2 := Aside0.mk (HS.out.below hb); clear HS hb; have HS := HS2; clear HS2; have hz0 : w5.cell? ⟨g5, 0, none⟩ = some (.int .i64 n) := (blk_cell HS.out.gb 0).trans rfl; have hz1 : w5.cell? ⟨g5, 1, none⟩ = some (.slice A l.length c) := (blk_cell HS.out.gb 1).trans rfl)
               | ((with_reducible refine gate_callee (f := 94) rfl ?_); refine gate_guard (by rfl) ?_; refine goesL_ (some 70) rfl rfl Try.func94 (by kernel_rfl) rfl #[.agg #[.int .i64 n, .slice A l.length c], .int .i64 f] rfl (by (try simp only [List.map_toArray, List.map_cons, List.map_nil]); first | done | rfl) ?_; (with_reducible refine (stay_c g f (by have := HLN.out; omega) A c hc _ (Kd.C_below HR.out HS.out.bel)).mono ?_); rintro e w6 ⟨rfl, hb⟩; refine ⟨_, rfl, ?_⟩; clear hz0 hz1; have HS2 := Aside0.mk (HS.out.below hb); clear HS hb; have HS := HS2; clear HS2)
               | ((with_reducible refine gate_callee (f := 85) rfl ?_); refine gate_guard (by rfl) ?_; refine goesL_ (some 72) rfl rfl Try.func85 (by kernel_rfl) rfl #[.int .i64 ((stayN l f : Nat) : Int), .int .i64 x] rfl (by (try simp only [List.map_toArray, List.map_cons, List.map_nil]); first | done | rfl) ?_; (with_reducible refine (impl_has.calls ((stayN l f : Nat) : Int) x false _ HHX.out).mono ?_); rintro e w7 ⟨rfl, hd⟩; refine ⟨_, rfl, ?_⟩; have hb := hd.below; have HS2 := Aside0.mk (HS.out.below hb); clear HS hb hd; have HS := HS2; clear HS2;
                     have hr0 : w7.cell? ⟨g13, 0, none⟩ = some (.slice AP P.length cP) := (blk_cell HS.out.rc 0).trans rfl; have hr1 : w7.cell? ⟨g13, 1, none⟩ = some (.slice AF F.length cF) := (blk_cell HS.out.rc 1).trans rfl)
               | ((with_reducible refine gate_ (.store 42 (.tmp 10) (.tmp 75)) rfl ?_); refine store_event (w1 := (w7.setCell ⟨g10, 0, none⟩ (.slice none 0 0)).setCell ⟨g10, 1, none⟩ (.slice none 0 0)) rfl rfl rfl (store2_run (.tmp 10) (.tmp 75) rfl g10 (.slice none 0 0) (.slice none 0 0) _ _ _ rfl rfl HS.out.rb ⟨_, _, _, rfl⟩ ⟨_, _, _, rfl⟩) ?_; intro w9 hw; have HE := Aside0.mk (plS_fail HS.out.rb HS.out.bel HGE.out.1 hw); clear hw))
              refine bodyPost_ret (results_ct rfl _ _ g10 42 #[.slice none 0 0, .slice none 0 0] (0, 0) _ rfl HE.out.1 Try.underlying42 rfl (by kernel_rfl)) rfl ?_
              rw [← HR0.out, HV.out]
              exact ⟨_, _, rfl, Kd.R_nil _ _ _ _ _, Kd.R_nil _ _ _ _ _, HE.out.2⟩
          · have HVX := Aside0.mk (show impl_Graph_isVertex.f n l [x] = some false by rw [vert_impl (n : Int) l [x] g.lo g.hi]; simp [verts]; omega)
            have HV := Aside0.mk (show R0 = none by
              have h := HPL2.out
              rw [if_neg (fun h => hxv ⟨h.1, h.2.1⟩)] at h
              exact h.symm)
            clear HPL2 hxv
            go_wp2_with (first
             | ((with_reducible refine gate_dst (N := 64) rfl ?_); refine Kd.R_lit (Kd.int .i64) _ 3 ?hg (N := 64) ?hd (xs := ([x] : List Int)) (inner := [.int .i64 x]) (ok := fun _ => True) (okp := fun _ => True) ?hr ?hp (fun _ hk => hk) trivial (Below.refl _ _) (Nat.le_refl _) (by simp) ?_; (case hd => rfl); (case hg => rfl); (case hr => first | (go_simp; done) | (go_simp; rfl)); (case hp => exact (Reps.one (show Kd.M (Kd.int .i64) _ _ _ x [.int .i64 x] from rfl) (Reps.none _ _))); intro v64 w4 ho hb hg_ hnew_; clear hg_ hnew_; obtain ⟨A64, c64, e64⟩ := Kd.R_slice ho; subst e64; have HO := Aside0.mk ho; clear ho hz0 hz1;
                   have HS2 := Aside0.mk (HS.out.below hb); clear HS hb hr0 hr1; have HS := HS2; clear HS2; have hz0 : w4.cell? ⟨g5, 0, none⟩ = some (.int .i64 n) := (blk_cell HS.out.gb 0).trans rfl; have hz1 : w4.cell? ⟨g5, 1, none⟩ = some (.slice A l.length c) := (blk_cell HS.out.gb 1).trans rfl)
             | ((with_reducible refine gate_callee (f := 88) rfl ?_); refine goesL_ (some 65) rfl rfl Try.func88 (by kernel_rfl) rfl #[.agg #[.int .i64 n, .slice A l.length c], .slice A64 ([x] : List Int).length c64] rfl (by (try simp only [List.map_toArray, List.map_cons, List.map_nil]); first | done | rfl) ?_; (with_reducible refine (impl_Graph_isVertex.calls n A c l A64 c64 [x] false w4 (Kd.C_below HR.out HS.out.bel) hc (Kd.R_reads' HO.out).2.2 (Kd.R_reads' HO.out).2.1 HVX.out).mono ?_); rintro e w5 ⟨rfl, hb⟩; refine ⟨_, rfl, ?_⟩; clear hz0 hz1 HO;
                   have HS2 := Aside0.mk (HS.out.below hb); clear HS hb; have HS := HS2; clear HS2; have hz0 : w5.cell? ⟨g5, 0, none⟩ = some (.int .i64 n) := (blk_cell HS.out.gb 0).trans rfl; have hz1 : w5.cell? ⟨g5, 1, none⟩ = some (.slice A l.length c) := (blk_cell HS.out.gb 1).trans rfl)
             | ((with_reducible refine gate_ (.store 42 (.tmp 10) (.tmp 75)) rfl ?_); refine store_event (w1 := (w5.setCell ⟨g10, 0, none⟩ (.slice none 0 0)).setCell ⟨g10, 1, none⟩ (.slice none 0 0)) rfl rfl rfl (store2_run (.tmp 10) (.tmp 75) rfl g10 (.slice none 0 0) (.slice none 0 0) _ _ _ rfl rfl HS.out.rb ⟨_, _, _, rfl⟩ ⟨_, _, _, rfl⟩) ?_; intro w9 hw; have HE := Aside0.mk (plS_fail HS.out.rb HS.out.bel HGE.out.1 hw); clear hw))
            refine bodyPost_ret (results_ct rfl _ _ g10 42 #[.slice none 0 0, .slice none 0 0] (0, 0) _ rfl HE.out.1 Try.underlying42 rfl (by kernel_rfl)) rfl ?_
            rw [← HR0.out, HV.out]
            exact ⟨_, _, rfl, Kd.R_nil _ _ _ _ _, Kd.R_nil _ _ _ _ _, HE.out.2⟩
end Go.Proofs.Ytilanbgciofkjaa.PA

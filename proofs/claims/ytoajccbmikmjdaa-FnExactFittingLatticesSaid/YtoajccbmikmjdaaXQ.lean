import Derived.Test.YtoajccbmikmjdaaXSort
set_option linter.unusedVariables false
namespace Go.Proofs.YtoajccbmikmjdaaX
open Go.RowKit Go.Proofs.YtoajccbmikmjdaaW.PrintWords Go.Proofs.YtoajccbmikmjdaaW.PrintLast Go.Proofs.YtoajccbmikmjdaaW.PrintMore

theorem qfar {w : World} {g b t j : Nat} {x : Option Nat} {cs : Array Value} {u : Value} (n : Aside0 (g ≠ b)) (h : w.heap[g]? = some (.cells cs t (0, 0))) : (w.setCell ⟨b, j, x⟩ u).heap[g]? = some (.cells cs t (0, 0)) := blk_far h n.out u
section
variable {w W w2 : World} {g gb : Nat} {o : Obj}
theorem qB (h : Below w.heap.size w W := by repeat (first | (with_reducible first | exact HB.out | apply below_alloc | apply pw_below_drewN | apply below_drew1 | refine below_set ?_ (Aside0.out (by with_reducible assumption))) | exact HB.out)) : Below w.heap.size w W := h
theorem qbs {W0 : World} (hB : Aside0 (Below w.heap.size w W0)) (hb : Below W.heap.size W w2) (h : Below w.heap.size w W := by repeat (first | (with_reducible first | exact HB.out | apply below_alloc | apply pw_below_drewN | apply below_drew1 | refine below_set ?_ (Aside0.out (by with_reducible assumption))) | exact HB.out)) : Aside0 (Below w.heap.size w w2) := ⟨below_step h hb⟩
theorem qgs {W0 : World} (hB : Aside0 (Below w.heap.size w W0)) (hg : gb = W.heap.size) (h : Below w.heap.size w W := by repeat (first | (with_reducible first | exact HB.out | apply below_alloc | apply pw_below_drewN | apply below_drew1 | refine below_set ?_ (Aside0.out (by with_reducible assumption))) | exact HB.out)) : Aside0 (w.heap.size ≤ gb) := ⟨by rw [hg]; exact below_size h⟩
theorem qK {S : Nat → Prop} {W0 : World} (hK : Aside0 (Kept w W0 S)) (h : Kept w W S := by repeat (first | (with_reducible first | exact HK.out | apply Kept.alloc | apply Kept.drewN | apply Kept.drew | refine Kept.setCell ?_ (.inr (Aside0.out (by with_reducible assumption))) _) | exact HK.out)) : Kept w W S := h
theorem qp (h : w.heap[g]? = some o) (hx : w.heap[g]? = some o → W.heap[g]? = some o := by intro h_; (with_reducible repeat (first | refine blk_drewN ?_ _ | refine blk_drew ?_ | refine blk_alloc ?_ _)); exact h_) : W.heap[g]? = some o := hx h
theorem qbb (h : Aside0 (w.heap[g]? = some o)) (hb : Below W.heap.size W w2) (hx : w.heap[g]? = some o → W.heap[g]? = some o := by intro h_; (with_reducible repeat (first | refine blk_drewN ?_ _ | refine blk_drew ?_ | refine blk_alloc ?_ _)); exact h_) : Aside0 (w2.heap[g]? = some o) := ⟨blk_below (hx h.out) hb⟩
theorem qw (h : W.heap[g]? = some o := by (with_reducible repeat (first | refine blk_drewN ?_ _ | refine blk_drew ?_ | refine blk_alloc ?_ _)); (repeat ((first | with_reducible apply blk_put | (with_reducible (apply qfar; assumption))); (with_reducible repeat (first | refine blk_drewN ?_ _ | refine blk_drew ?_ | refine blk_alloc ?_ _)))); (refine Aside0.out ?_; with_reducible assumption); all_goals (first | ((try simp only [List.setIfInBounds_toArray, List.set_cons_zero, List.set_cons_succ]); rfl) | simp only [List.setIfInBounds_toArray, List.set_cons_zero, List.set_cons_succ])) : W.heap[g]? = some o := h
theorem qbq (hb : Below W.heap.size W w2) (h : W.heap[g]? = some o := by (with_reducible repeat (first | refine blk_drewN ?_ _ | refine blk_drew ?_ | refine blk_alloc ?_ _)); (repeat ((first | with_reducible apply blk_put | (with_reducible (apply qfar; assumption))); (with_reducible repeat (first | refine blk_drewN ?_ _ | refine blk_drew ?_ | refine blk_alloc ?_ _)))); (refine Aside0.out ?_; with_reducible assumption); all_goals (first | ((try simp only [List.setIfInBounds_toArray, List.set_cons_zero, List.set_cons_succ]); rfl) | simp only [List.setIfInBounds_toArray, List.set_cons_zero, List.set_cons_succ])) : Aside0 (w2.heap[g]? = some o) := ⟨blk_below h hb⟩
theorem qnl (hg : gb = W.heap.size) (h : W.heap[g]? = some o := by (with_reducible repeat (first | refine blk_drewN ?_ _ | refine blk_drew ?_ | refine blk_alloc ?_ _)); (repeat ((first | with_reducible apply blk_put | (with_reducible (apply qfar; assumption))); (with_reducible repeat (first | refine blk_drewN ?_ _ | refine blk_drew ?_ | refine blk_alloc ?_ _)))); (refine Aside0.out ?_; with_reducible assumption); all_goals (first | ((try simp only [List.setIfInBounds_toArray, List.set_cons_zero, List.set_cons_succ]); rfl) | simp only [List.setIfInBounds_toArray, List.set_cons_zero, List.set_cons_succ])) : Aside0 (g ≠ gb) := ⟨by rw [hg]; exact Nat.ne_of_lt (blk_lt h)⟩
theorem qng (hg : gb = W.heap.size) (h : W.heap[g]? = some o := by (with_reducible repeat (first | refine blk_drewN ?_ _ | refine blk_drew ?_ | refine blk_alloc ?_ _)); (repeat ((first | with_reducible apply blk_put | (with_reducible (apply qfar; assumption))); (with_reducible repeat (first | refine blk_drewN ?_ _ | refine blk_drew ?_ | refine blk_alloc ?_ _)))); (refine Aside0.out ?_; with_reducible assumption); all_goals (first | ((try simp only [List.setIfInBounds_toArray, List.set_cons_zero, List.set_cons_succ]); rfl) | simp only [List.setIfInBounds_toArray, List.set_cons_zero, List.set_cons_succ])) : Aside0 (gb ≠ g) := ⟨by rw [hg]; exact Nat.ne_of_gt (blk_lt h)⟩
theorem qnL (h : Aside0 (w.heap[g]? = some o)) (hg : gb = W.heap.size) (hx : w.heap[g]? = some o → W.heap[g]? = some o := by intro h_; (with_reducible repeat (first | refine blk_drewN ?_ _ | refine blk_drew ?_ | refine blk_alloc ?_ _)); exact h_) : Aside0 (g ≠ gb) := qnl hg (hx h.out)
theorem qnG (h : Aside0 (w.heap[g]? = some o)) (hg : gb = W.heap.size) (hx : w.heap[g]? = some o → W.heap[g]? = some o := by intro h_; (with_reducible repeat (first | refine blk_drewN ?_ _ | refine blk_drew ?_ | refine blk_alloc ?_ _)); exact h_) : Aside0 (gb ≠ g) := qng hg (hx h.out)
end
section
variable {w : World} {g t : Nat} {a b c d e f u v : Value} {l : List Value}
theorem qc0 (h : Aside0 (w.heap[g]? = some (.cells (List.toArray (a :: l)) t (0, 0)))) : w.cell? ⟨g, 0, none⟩ = some a := (blk_cell h.out 0).trans rfl
theorem qc1 (h : Aside0 (w.heap[g]? = some (.cells (List.toArray (a :: b :: l)) t (0, 0)))) : w.cell? ⟨g, 1, none⟩ = some b := (blk_cell h.out 1).trans rfl
theorem qc2 (h : Aside0 (w.heap[g]? = some (.cells (List.toArray (a :: b :: c :: l)) t (0, 0)))) : w.cell? ⟨g, 2, none⟩ = some c := (blk_cell h.out 2).trans rfl
theorem qc3 (h : Aside0 (w.heap[g]? = some (.cells (List.toArray (a :: b :: c :: d :: l)) t (0, 0)))) : w.cell? ⟨g, 3, none⟩ = some d := (blk_cell h.out 3).trans rfl
theorem qc4 (h : Aside0 (w.heap[g]? = some (.cells (List.toArray (a :: b :: c :: d :: e :: l)) t (0, 0)))) : w.cell? ⟨g, 4, none⟩ = some e := (blk_cell h.out 4).trans rfl
theorem qc5 (h : Aside0 (w.heap[g]? = some (.cells (List.toArray (a :: b :: c :: d :: e :: f :: l)) t (0, 0)))) : w.cell? ⟨g, 5, none⟩ = some f := (blk_cell h.out 5).trans rfl
end
/-- A row that stays over quiet steps. -/
theorem qR {α : Type} {d : Kd α} {e base : Nat} {ok : Nat → Prop} {v : Value} {xs : List α} {w W : World} (h : Kd.R d e w base ok v xs) (hx : Kd.R d e w base ok v xs → Kd.R d e W base ok v xs := by intro h_; (with_reducible repeat (first | apply Kd.R_alloc | apply Kd.R_drewN | apply Kd.R_drew)); exact h_) : Kd.R d e W base ok v xs := hx h
theorem qC {α : Type} {d : Kd α} {A : Option Addr} {n : Nat} {xs : List α} {w W : World} (h : Kd.C d w A n xs) (hx : Kd.C d w A n xs → Kd.C d W A n xs := by intro h_; repeat (first | exact h_ | (with_reducible refine Kd.C_alloc ?_ _) | (with_reducible refine Kd.C_drewN ?_ _) | (with_reducible refine Kd.C_drew ?_))) : Kd.C d W A n xs := hx h
section
variable {P : Program} {ops : Array Oper} {o : Oper} {rest : List Oper} {a : Act} {Q : Exit → Act → World → Prop} {W w : World}
theorem qbx (N : Tmp) (t : TypeId) (cs : Array Value) (h : ∀ g, g = W.heap.size → ∀ w1, w1.heap[g]? = some (.cells cs t (0, 0)) → Below W.heap.size W w1 → wpList P ops Q rest (a.put o.dst (.pointer (some ⟨g, 0, none⟩))) w1)
    (hd : o.dst = some N := by exact rfl) (hg : o.guard = none := by exact rfl) (hr : (execOp a.eval o).run P W = .ok (.value (.pointer (some ⟨W.heap.size, 0, none⟩))) (W.alloc (.cells cs t (0, 0))) := by first | (go_simp; done) | (go_simp; rfl)) : wpList P ops Q (o :: rest) a W := box_event hg hd hr h
theorem qgl (N : Option Tmp) {f : FuncId} {fn : Func} {as_ : Array Operand} {ts : Array TypeId} (hf : P.funcs[f]? = some fn) (args : Array Value) (h : Calls P f args w fun e w' => ∃ v, e = .returned v ∧ wpList P ops Q rest (a.put N v) w')
    (hd : o.dst = N := by exact rfl) (hg : o.guard = none := by exact rfl) (hname : (fn.name == "runtime.NumGoroutine") = false := by kernel_rfl) (hb : fn.body.isSome = true := by exact rfl)
    (hop : o.op = .call { callee := .value (.func f), args := as_, argTypes := ts } := by exact rfl) (hargs : as_.map a.eval = args := by (try simp only [List.map_toArray, List.map_cons, List.map_nil]); first | done | rfl | (simp only [List.length_drop, List.length_take]; rfl)) : wpList P ops Q (o :: rest) a w :=
  goesL_ N hd hg hf hname hb args hop hargs h
theorem qgo {N : Option Tmp} {K : Act → World → Prop} {f : FuncId} {fn : Func} {as_ : Array Operand} {ts : Array TypeId} (hf : P.funcs[f]? = some fn) (args : Array Value) (h : Calls P f args w fun e w' => ∃ v, e = .returned v ∧ K (a.put N v) w')
    (hname : (fn.name == "runtime.NumGoroutine") = false := by kernel_rfl) (hb : fn.body.isSome = true := by exact rfl) (hw : Region.wanted o (yielded ops a.tmps) = true := by exact rfl) (hN : o.dst = N := by exact rfl)
    (hop : o.op = .call { callee := .value (.func f), args := as_, argTypes := ts } := by exact rfl) (hargs : as_.map a.eval = args := by (try simp only [List.map_toArray, List.map_cons, List.map_nil]); first | done | rfl | (simp only [List.length_drop, List.length_take]; rfl)) :
    if Region.wanted o (yielded ops a.tmps) = true then Oper.wp P o a w K Q else K (a.put N undef) w :=
  goes_ hf hname hb args hw hN hop hargs h
end
section
variable {α β : Type} {c : Prop} [Decidable c] {a b : Option α} {r : Option α} {v : α}
theorem qbd {x : Option β} {f : β → Option α} (h : x.bind f = some v) : ∃ y, Aside0 (x = some y) ∧ f y = some v := by
  cases x with
  | none => cases h
  | some y => exact ⟨y, ⟨rfl⟩, h⟩
end
theorem qo {c : Prop} [Decidable c] (h : decide c = true := by first | (with_reducible assumption) | assumption) : c := of_decide_eq_true h
theorem qf {p : Prop} (h : p := by first | rfl | (simp; done) | (simp [*]; done)) : p := h
theorem qF {p : Prop} (h : p := by first | rfl | (simp [errW_none, errW_some] <;> rfl) | (simp [*, errW_none, errW_some] <;> rfl)) : p := h
theorem qD {w w' : World} (h : Drawn0 w w' := by repeat (first | exact Drawn0.refl _ | apply Drawn0.step)) : Drawn0 w w' := h
end Go.Proofs.YtoajccbmikmjdaaX

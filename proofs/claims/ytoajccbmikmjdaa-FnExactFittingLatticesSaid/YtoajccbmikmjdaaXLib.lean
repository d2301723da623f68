import Derived.Test.YtoajccbmikmjdaaWWords
import Derived.Test.YtoajccbmikmjdaaWLast
import Derived.Test.YtoajccbmikmjdaaWMore
set_option linter.unusedVariables false
namespace Go.Proofs.YtoajccbmikmjdaaX
open Go.RowKit Go.Proofs.YtoajccbmikmjdaaW.PrintWords Go.Proofs.YtoajccbmikmjdaaW.PrintLast Go.Proofs.YtoajccbmikmjdaaW.PrintMore

section
variable {P : Program} {ops : Array Oper} {Q : Exit → Act → World → Prop}
/-- A call through a function value, in a region that draws its order. -/
theorem goesV_ {oi : Oper} {N : Option Tmp} {a : Act} {w : World} {K : Act → World → Prop} {f : FuncId} {fn : Func} {x : Operand} {as : Array Operand} {ts : Array TypeId} {lb : Array Value} (hf : P.funcs[f]? = some fn) (hname : (fn.name == "runtime.NumGoroutine") = false) (hb : fn.body.isSome = true) (args : Array Value)
    (hw : Region.wanted oi (yielded ops a.tmps) = true) (hN : oi.dst = N) (hop : oi.op = .call { callee := .value x, args := as, argTypes := ts }) (hx : a.eval x = .func (.func f) #[] lb) (hargs : as.map a.eval ++ lb = args)
    (h : Calls P f args w fun e w' => ∃ v, e = .returned v ∧ K (a.put N v) w') : if Region.wanted oi (yielded ops a.tmps) = true then Oper.wp P oi a w K Q else K (a.put N undef) w := by
  refine call_ f args hw hN ?_ h
  have he := enters_ hf hname hb args w
  unfold execOp
  simp [hop, resolve, Deferred.ofValue, hx, invoke, hargs, he]
end

theorem setCells_app (g : Nat) : ∀ (a b : List Value) (o : Nat) (w : World), w.setCells g o (a ++ b) = (w.setCells g o a).setCells g (o + a.length) b
  | [], b, o, w => by simp [World.setCells]
  | v :: r, b, o, w => by
    simp only [List.cons_append, World.setCells, List.length_cons]
    rw [setCells_app g r b (o + 1)]
    congr 1
    omega
theorem grown_then {w w1 w2 : World} {row : Option Nat} (h : w.grownBy w1 row) (k : w1.grownBy w2 row) : w.grownBy w2 row :=
  ⟨k.os.trans h.os, k.tape.trans h.tape, k.output.trans h.output, Nat.le_trans h.size k.size, fun i hi hn => (k.block i (Nat.lt_of_lt_of_le hi h.size) hn).trans (h.block i hi hn)⟩
theorem grown_self (w : World) (row : Option Nat) : w.grownBy w row := ⟨rfl, rfl, rfl, Nat.le_refl _, fun _ _ _ => rfl⟩
theorem flat_get {β : Type} (zc : List β) : ∀ (m i : Nat), i < m * zc.length → (List.replicate m zc).flatten[i]? = zc[i % zc.length]?
  | 0, i, h => by omega
  | m + 1, i, h => by
    rw [List.replicate_succ, List.flatten_cons]
    by_cases hi : i < zc.length
    · rw [List.getElem?_append_left hi, Nat.mod_eq_of_lt hi]
    · have h2 := Nat.mod_eq_sub_mod (a := i) (b := zc.length) (by omega)
      rw [List.getElem?_append_right (by omega), flat_get zc m (i - zc.length) (by rw [Nat.add_mul, Nat.one_mul] at h; omega), h2]
theorem zeroCells_flat (z : Array Value) (m : Nat) (hz : 0 < z.size) : (Builtin.zeroCells z m).toList = (List.replicate m z.toList).flatten := by
  apply List.ext_getElem?
  intro i
  have hl : (List.replicate m z.toList).flatten.length = m * z.size := by simp
  by_cases hi : i < m * z.size
  · rw [flat_get z.toList m i (by simpa using hi)]
    have h1 : i % z.size < z.size := Nat.mod_lt _ hz
    simp [Builtin.zeroCells, hi, h1]
  · rw [List.getElem?_eq_none (by simp [Builtin.zeroCells]; omega), List.getElem?_eq_none (by omega)]
section
variable {P : Program} {α : Type} {d : Kd α} {e base g n cap : Nat} {ok : Nat → Prop} {z0 : α} {zc : List Value}
theorem R_zeros (hzero : ∀ W, d.M W base (fun _ => False) z0 zc) (hzl : zc.length = d.sz) : ∀ (m k : Nat) (W : World) (xs : List α), d.R e W base ok (.slice (some ⟨g, 0, none⟩) n cap) xs → k + m = n →
    d.R e (W.setCells g (k * d.sz) (List.replicate m zc).flatten) base ok (.slice (some ⟨g, 0, none⟩) n cap) (xs.take k ++ List.replicate m z0) ∧ W.grownBy (W.setCells g (k * d.sz) (List.replicate m zc).flatten) (some g)
  | 0, k, W, xs, h, hk => by
    have hn := (Kd.R_reads' h).1
    simp only [List.replicate_zero, List.flatten_nil, World.setCells, List.append_nil]
    rw [List.take_of_length_le (by omega)]
    exact ⟨h, grown_self _ _⟩
  | m + 1, k, W, xs, h, hk => by
    have hn := (Kd.R_reads' h).1
    obtain ⟨c, hcl, hM, hcc, hfr⟩ := Kd.R_elem h z0 (k : Int) (by omega) (by omega)
    have h1 := Kd.R_seg h (k : Int) (by omega) (by omega) (seg := zc) (j := 0) (okp := fun _ => False) hcl hcc (by omega) (x' := z0) (by
      rw [List.take_zero, List.nil_append, Nat.zero_add, List.drop_of_length_le (by omega), List.append_nil]
      exact hzero W) (fun _ hf => hf.elim)
    simp only [Int.toNat_natCast, Nat.add_zero] at h1
    have h2 := R_zeros hzero hzl m (k + 1) _ _ h1.1 (by omega)
    rw [List.replicate_succ, List.flatten_cons, setCells_app, hzl, show k * d.sz + d.sz = (k + 1) * d.sz from (Nat.succ_mul _ _).symm]
    refine ⟨?_, grown_then h1.2 h2.2⟩
    have h3 := h2.1
    rw [show xs.take k ++ List.replicate (m + 1) z0 = (xs.set k z0).take (k + 1) ++ List.replicate m z0 from ?_]
    · exact h3
    · rw [List.take_set, List.replicate_succ, List.set_eq_take_append_cons_drop, if_pos (by rw [List.length_take]; omega), List.take_take, Nat.min_eq_left (by omega), List.drop_of_length_le (by rw [List.length_take]; omega)]
      simp
theorem R_clear_run {W : World} (t ty : TypeId) (ht : P.underlying t = some (.slice e)) (z : Value) (bytes : Nat) (hinfo : (P.info? e).map (fun i => (i.zero, i.size, i.bytes)) = some (some z, d.sz, bytes)) (hz : z.cells.size = d.sz) (hs0 : 0 < d.sz)
    (hzero : ∀ W, d.M W base (fun _ => False) z0 z.cells.toList) {A A1 : Option Addr} {k m c2 : Nat} {xs : List α} (HO : d.R e W base ok (.slice A n cap) xs) (hk : k ≤ n) (hm : m = n - k) (hA : A1 = if cap = k then A else A.map (·.add (k * d.sz))) :
    ∃ w1, (Builtin.clear_ #[t] ty #[.slice A1 m c2]).run P W = .ok (.tuple #[]) w1 ∧ d.R e w1 base ok (.slice A n cap) (xs.take k ++ List.replicate m z0) ∧ W.grownBy w1 (Value.slice A n cap).ownBlock := by
  obtain ⟨hn, hnc, _⟩ := Kd.R_reads' HO
  obtain ⟨i0, hi, hz0, hz1, hz2⟩ := info_parts hinfo
  by_cases hm0 : m = 0
  · subst hm0
    refine ⟨W, ?_, ?_, grown_self _ _⟩
    · cases A1 <;> simp [Builtin.clear_, run_underlying ht]
    · rw [List.replicate_zero, List.append_nil, List.take_of_length_le (by omega)]
      exact HO
  · obtain ⟨g, cap', he, hb, hlt, cells, hh⟩ := Kd.R_form HO (by omega)
    injection he with ha hn' hc'
    subst ha; subst hc'
    rw [if_neg (by omega)] at hA
    simp only [Option.map_some, Addr.add_lit, Nat.zero_add] at hA
    subst hA
    have hR := R_zeros (zc := z.cells.toList) hzero (by simpa using hz) m k W xs HO (by omega)
    refine ⟨_, ?_, hR.1, by simpa [Value.ownBlock] using hR.2⟩
    have hone : ∀ v ∈ z.cells.toList, v.oneCell' = true := d.K_one (d.K_of_M (hzero W))
    have hfl : (List.replicate m z.cells.toList).flatten.length = m * d.sz := by simp [hz]
    have hsz : cells.size = cap * d.sz ∧ n ≤ cap := by
      obtain ⟨_, inner, ho, _⟩ := HO
      rcases ho.2 with ⟨hv, _⟩ | ⟨g', cap', cur, hv, _, hh', hnc', _, hcs, _⟩
      · cases hv
      · injection hv with h1 _ h3
        injection h1 with h1
        injection h1 with h1
        subst h1; subst h3
        rw [hh] at hh'
        injection hh' with hh'
        injection hh' with hh' _ _
        subst hh'
        exact ⟨hcs, by omega⟩
    have hst := run_storeCells_cells (P := P) g (k * d.sz) (List.replicate m z.cells.toList).flatten 0 W
      (fun j hj => by
        rw [hfl] at hj
        rw [Nat.add_zero, cell_of_row W g _ cells e (0, 0) hh]
        have h1 : k * d.sz + j < cells.size := by
          have : (k + m) * d.sz ≤ cap * d.sz := Nat.mul_le_mul_right _ (by omega)
          rw [Nat.add_mul] at this
          omega
        rw [Array.getElem?_eq_getElem h1]
        rfl)
      (fun j hj => frozen_of_row W g _ cells e hh)
      (fun v hv => by
        obtain ⟨l, hl, hvl⟩ := List.mem_flatten.1 hv
        rw [List.eq_of_mem_replicate hl] at hvl
        exact hone v hvl)
    simp only [Nat.add_zero] at hst
    have hzv : ∀ w, (zeroValue e).run P w = .ok z w := fun w => by simp [zeroValue, typeInfo, hi, hz0]
    obtain ⟨m', rfl⟩ : ∃ m', m = m' + 1 := ⟨m - 1, by omega⟩
    simp [Builtin.clear_, run_underlying ht, hzv, zeroCells_flat z.cells (m' + 1) (by omega), hst]
variable {ops : Array Oper} {rest : List Oper} {o : Oper} {a : Act} {Q : Exit → Act → World → Prop}
theorem R_clear {w0 W : World} (hgd : o.guard = none) (x : Operand) (t : TypeId) (ho : o.op = .call { callee := .builtin .clear, args := #[x], argTypes := #[t] })
    (ht : P.underlying t = some (.slice e)) (z : Value) (bytes : Nat) (hinfo : (P.info? e).map (fun i => (i.zero, i.size, i.bytes)) = some (some z, d.sz, bytes)) (hz : z.cells.size = d.sz) (hs0 : 0 < d.sz)
    (hzero : ∀ W, d.M W base (fun _ => False) z0 z.cells.toList) {A A1 : Option Addr} {k m c2 : Nat} {xs : List α} (hx : a.eval x = .slice A1 m c2) (HO : d.R e W base ok (.slice A n cap) xs) (hk : k ≤ n) (hm : m = n - k) (hA : A1 = if cap = k then A else A.map (·.add (k * d.sz)))
    (HB : Below base w0 W) (hbase : base ≤ W.heap.size)
    (h : ∀ w1, d.R e w1 base ok (.slice A n cap) (xs.take k ++ List.replicate m z0) → Below base w0 w1 → W.grownBy w1 (Value.slice A n cap).ownBlock → wpList P ops Q rest (a.put o.dst (.tuple #[])) w1) : wpList P ops Q (o :: rest) a W := by
  obtain ⟨w1, hr, h1, h2⟩ := R_clear_run (P := P) (d := d) (z0 := z0) t o.type ht z bytes hinfo hz hs0 hzero HO hk hm hA (c2 := c2)
  refine wpList_plain hgd fun K hK => ?_
  unfold Oper.wp execOp
  simp only [ho, resolve, invoke, builtin, Sem.run_bind, Sem.run_pure, Result.andThen_ok, List.map_toArray, List.map_cons, List.map_nil, hx, hr]
  exact hK _ _ (h w1 h1 (HB.grown h2 hbase (fun k hk => Kd.R_base HO _ hk)) h2)
end
end Go.Proofs.YtoajccbmikmjdaaX

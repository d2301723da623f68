import Derived.Test.YtoajccbmikmjdaaXLib
import Derived.Shelf.SlSortCmp.NoneTotal
set_option linter.unusedVariables false
namespace Go.Proofs.YtoajccbmikmjdaaX
open Go.RowKit Go.Shelf Go.Lib Go.Sort Go.Proofs.YtoajccbmikmjdaaW.PrintWords Go.Proofs.YtoajccbmikmjdaaW.PrintLast Go.Proofs.YtoajccbmikmjdaaW.PrintMore

theorem flatMap_get {β : Type} {enc : β → List Value} {k : Nat} (z : β) (hk : ∀ x, (enc x).length = k) : ∀ (ys : List β) (t : Nat), t < ys.length * k → (ys.flatMap enc)[t]? = (enc (ys.getD (t / k) z))[t % k]?
  | [], t, h => by simp at h
  | y :: ys, t, h => by
    have k0 : 0 < k := by
      rcases Nat.eq_zero_or_pos k with h0 | h0
      · rw [h0] at h; simp at h
      · exact h0
    rw [List.flatMap_cons]
    by_cases ht : t < k
    · rw [List.getElem?_append_left (by rw [hk]; exact ht), Nat.div_eq_of_lt ht, Nat.mod_eq_of_lt ht]
      rfl
    · have hd : t / k = (t - k) / k + 1 := by
        rw [show t = (t - k) + k by omega, Nat.add_div_right _ k0]
        simp
      have hm : t % k = (t - k) % k := Nat.mod_eq_sub_mod (by omega)
      rw [List.getElem?_append_right (by rw [hk]; omega), hk, flatMap_get z hk ys (t - k) (by rw [List.length_cons, Nat.add_mul, Nat.one_mul] at h; omega), hd, hm]
      rfl
theorem flatMap_len {β : Type} {enc : β → List Value} {k : Nat} (hk : ∀ x, (enc x).length = k) : ∀ (ys : List β), (ys.flatMap enc).length = ys.length * k
  | [] => by simp
  | y :: ys => by rw [List.flatMap_cons, List.length_append, hk, flatMap_len hk ys, List.length_cons, Nat.add_mul, Nat.one_mul, Nat.add_comm]

/-- Lists of integers, compared lexicographically. -/
def lexI : List Int → List Int → Int
  | x :: xs, y :: ys => if x = y then lexI xs ys else if x < y then -1 else 1
  | _, _ => 0
theorem lexI_cases (xs : List Int) : ∀ ys, lexI xs ys = -1 ∨ lexI xs ys = 0 ∨ lexI xs ys = 1 := by
  induction xs with
  | nil => intro ys; simp [lexI]
  | cons x xs ih =>
    intro ys
    cases ys with
    | nil => simp [lexI]
    | cons y ys =>
      have := ih ys
      unfold lexI
      repeat' split
      all_goals first | exact this | simp
theorem lexI_self (xs : List Int) : lexI xs xs = 0 := by
  induction xs with
  | nil => rfl
  | cons x xs ih => simp [lexI, ih]
theorem lexI_zero (xs : List Int) : ∀ ys, xs.length = ys.length → lexI xs ys = 0 → xs = ys := by
  induction xs with
  | nil => intro ys hl _; cases ys with
    | nil => rfl
    | cons y ys => simp at hl
  | cons x xs ih =>
    intro ys hl h
    cases ys with
    | nil => simp at hl
    | cons y ys =>
      unfold lexI at h
      split at h
      · rename_i he
        rw [he, ih ys (by simpa using hl) h]
      · split at h <;> simp at h
theorem lexI_swap (xs : List Int) : ∀ ys, lexI ys xs = - lexI xs ys := by
  induction xs with
  | nil => intro ys; cases ys <;> rfl
  | cons x xs ih =>
    intro ys
    cases ys with
    | nil => rfl
    | cons y ys =>
      unfold lexI
      by_cases he : x = y
      · rw [if_pos he, if_pos he.symm]
        exact ih ys
      · rw [if_neg he, if_neg (fun h => he h.symm)]
        by_cases h : x < y
        · rw [if_pos h, if_neg (by omega)]
          rfl
        · rw [if_neg h, if_pos (by omega)]
theorem lexI_trans (xs : List Int) : ∀ ys zs, xs.length = ys.length → ys.length = zs.length → lexI xs ys ≤ 0 → lexI ys zs ≤ 0 → lexI xs zs ≤ 0 := by
  induction xs with
  | nil => intro ys zs _ _ _ _; simp [lexI]
  | cons x xs ih =>
    intro ys zs h1 h2 h3 h4
    cases ys with
    | nil => simp at h1
    | cons y ys =>
      cases zs with
      | nil => simp at h2
      | cons z zs =>
        unfold lexI at h3 h4 ⊢
        have := ih ys zs (by simpa using h1) (by simpa using h2)
        split at h3
        · rename_i he
          subst he
          split at h4
          · rename_i he
            subst he
            rw [if_pos rfl]
            exact this h3 h4
          · rename_i he
            rw [if_neg he]
            exact h4
        · rename_i he
          split at h3
          · rename_i hlt
            split at h4
            · rename_i he2
              subst he2
              rw [if_neg he, if_pos hlt]
              decide
            · split at h4
              · rw [if_neg (by omega), if_pos (by omega)]
                decide
              · simp at h4
          · simp at h3
theorem lexI_lt {α : Type} (key : α → List Int) (x y : α) : ltOf (fun x y => lexI (key x) (key y)) x y = decide (lexI (key x) (key y) < 0) := rfl
theorem lexI_swo {α : Type} (key : α → List Int) (hk : ∀ x y, (key x).length = (key y).length) : SWO (ltOf fun x y => lexI (key x) (key y)) where
  irrefl x := by rw [lexI_lt, lexI_self]; rfl
  trans x y z h1 h2 := by
    rw [lexI_lt] at *
    have h1 := of_decide_eq_true h1
    have h2 := of_decide_eq_true h2
    refine decide_eq_true ?_
    have h3 := lexI_trans _ _ _ (hk x y) (hk y z) (by omega) (by omega)
    rcases lexI_cases (key x) (key z) with h | h | h
    · omega
    · have he := lexI_zero _ _ (hk x z) h
      rw [he, lexI_swap] at h1
      omega
    · omega
  ntrans x y z h1 h2 := by
    rw [lexI_lt] at *
    have h1 := of_decide_eq_false h1
    have h2 := of_decide_eq_false h2
    refine decide_eq_false ?_
    have h3 := lexI_trans _ _ _ (hk z y) (hk y x) (by rw [lexI_swap]; omega) (by rw [lexI_swap]; omega)
    rw [lexI_swap] at h3
    omega
theorem lexI_anti {α : Type} (key : α → List Int) (hk : ∀ x y, (key x).length = (key y).length) (hi : ∀ x y, key x = key y → x = y) : ∀ x y, ltOf (fun x y => lexI (key x) (key y)) x y = false → ltOf (fun x y => lexI (key x) (key y)) y x = false → x = y := by
  intro x y h1 h2
  rw [lexI_lt] at *
  have h1 := of_decide_eq_false h1
  have h2 := of_decide_eq_false h2
  rw [lexI_swap] at h2
  exact hi _ _ (lexI_zero _ _ (hk x y) (by omega))

/-- A block of integers, read as a row. -/
theorem C_blk {w : World} {g : Nat} {t : Nat} (xs : List Int) (h : w.heap[g]? = some (.cells (xs.map (Value.int .i64)).toArray t (0, 0))) (hl : xs.length ≤ 9223372036854775807) : Kd.C (Kd.int .i64) w (some ⟨g, 0, none⟩) xs.length xs := by
  refine ⟨rfl, hl, fun _ => ⟨_, rfl, fun j p hj => ⟨[.int .i64 p], rfl, rfl, fun i u hu => ?_⟩⟩⟩
  have hi : i = 0 := by
    cases i with
    | zero => rfl
    | succ i => simp at hu
  subst hi
  have hu' : u = .int .i64 p := by simpa using hu.symm
  subst hu'
  rw [Addr.add_lit, cell_of_row w g _ _ t (0, 0) h]
  have h1 : (Kd.int .i64).sz = 1 := rfl
  rw [h1]
  simp [hj]
theorem below_grow_at (w : World) (os : Array Obj) (j : Nat) (o : Obj) (h : os[j]? = some o) : (grow w os).heap[w.heap.size + j]? = some o := by
  unfold grow
  rw [Array.getElem?_append_right (by omega), show w.heap.size + j - w.heap.size = j by omega]
  exact h

section
variable {α : Type} [Inhabited α] {d : Kd α} {e base g n cap : Nat} {ok : Nat → Prop} {enc : α → List Value}
omit [Inhabited α] in
theorem R_write (hM : ∀ W x, d.M W base (fun _ => False) x (enc x)) (hel : ∀ x, (enc x).length = d.sz) : ∀ (ys : List α) (k : Nat) (W : World) (xs : List α), d.R e W base ok (.slice (some ⟨g, 0, none⟩) n cap) xs → k + ys.length = n →
    d.R e (W.setCells g (k * d.sz) (ys.flatMap enc)) base ok (.slice (some ⟨g, 0, none⟩) n cap) (xs.take k ++ ys) ∧ W.grownBy (W.setCells g (k * d.sz) (ys.flatMap enc)) (some g)
  | [], k, W, xs, h, hk => by
    have hn := (Kd.R_reads' h).1
    simp only [List.flatMap_nil, World.setCells, List.append_nil]
    rw [List.take_of_length_le (by simp at hk; omega)]
    exact ⟨h, grown_self _ _⟩
  | y :: ys, k, W, xs, h, hk => by
    have hn := (Kd.R_reads' h).1
    have hk' : k + (ys.length + 1) = n := hk
    obtain ⟨c, hcl, hM1, hcc, hfr⟩ := Kd.R_elem h y (k : Int) (by omega) (by omega)
    have h1 := Kd.R_seg h (k : Int) (by omega) (by omega) (seg := enc y) (j := 0) (okp := fun _ => False) hcl hcc (by rw [hel]; omega) (x' := y) (by
      rw [List.take_zero, List.nil_append, Nat.zero_add, List.drop_of_length_le (by rw [hel]; omega), List.append_nil]
      exact hM W y) (fun _ hf => hf.elim)
    simp only [Int.toNat_natCast, Nat.add_zero] at h1
    have h2 := R_write hM hel ys (k + 1) _ _ h1.1 (by omega)
    rw [List.flatMap_cons, setCells_app, hel, show k * d.sz + d.sz = (k + 1) * d.sz from (Nat.succ_mul _ _).symm]
    refine ⟨?_, grown_then h1.2 h2.2⟩
    have h3 := h2.1
    rw [show xs.take k ++ y :: ys = (xs.set k y).take (k + 1) ++ ys from ?_]
    · exact h3
    · rw [List.take_set, List.set_eq_take_append_cons_drop, if_pos (by rw [List.length_take]; omega), List.take_take, Nat.min_eq_left (by omega), List.drop_of_length_le (by rw [List.length_take]; omega)]
      simp

omit [Inhabited α] in
theorem R_write_at (hM : ∀ W x, d.M W base (fun _ => False) x (enc x)) (hel : ∀ x, (enc x).length = d.sz) : ∀ (ys : List α) (k : Nat) (W : World) (xs : List α), d.R e W base ok (.slice (some ⟨g, 0, none⟩) n cap) xs → k + ys.length ≤ n →
    d.R e (W.setCells g (k * d.sz) (ys.flatMap enc)) base ok (.slice (some ⟨g, 0, none⟩) n cap) (xs.take k ++ ys ++ xs.drop (k + ys.length)) ∧ W.grownBy (W.setCells g (k * d.sz) (ys.flatMap enc)) (some g)
  | [], k, W, xs, h, hk => by
    simp only [List.flatMap_nil, World.setCells, List.append_nil, List.length_nil, Nat.add_zero, List.take_append_drop]
    exact ⟨h, grown_self _ _⟩
  | y :: ys, k, W, xs, h, hk => by
    have hn := (Kd.R_reads' h).1
    have hk' : k + (ys.length + 1) ≤ n := hk
    obtain ⟨c, hcl, hM1, hcc, hfr⟩ := Kd.R_elem h y (k : Int) (by omega) (by omega)
    have h1 := Kd.R_seg h (k : Int) (by omega) (by omega) (seg := enc y) (j := 0) (okp := fun _ => False) hcl hcc (by rw [hel]; omega) (x' := y) (by
      rw [List.take_zero, List.nil_append, Nat.zero_add, List.drop_of_length_le (by rw [hel]; omega), List.append_nil]
      exact hM W y) (fun _ hf => hf.elim)
    simp only [Int.toNat_natCast, Nat.add_zero] at h1
    have h2 := R_write_at hM hel ys (k + 1) _ _ h1.1 (by omega)
    rw [List.flatMap_cons, setCells_app, hel, show k * d.sz + d.sz = (k + 1) * d.sz from (Nat.succ_mul _ _).symm]
    refine ⟨?_, grown_then h1.2 h2.2⟩
    have h3 := h2.1
    rw [show xs.take k ++ y :: ys ++ xs.drop (k + (y :: ys).length) = (xs.set k y).take (k + 1) ++ ys ++ (xs.set k y).drop (k + 1 + ys.length) from ?_]
    · exact h3
    · rw [List.drop_set_of_lt (by omega), List.take_set, List.set_eq_take_append_cons_drop, if_pos (by rw [List.length_take]; omega), List.take_take, Nat.min_eq_left (by omega), List.drop_of_length_le (l := List.take (k + 1) xs) (by rw [List.length_take]; omega), List.length_cons, show k + (ys.length + 1) = k + 1 + ys.length by omega]
      simp

theorem holds_of_R (hopen : ∀ {W : World} {ok' : Nat → Prop} {x : α} {c : List Value}, d.M W base ok' x c → c = enc x) (hel : ∀ x, (enc x).length = d.sz) {W : World} {xs : List α} (h : d.R e W base ok (.slice (some ⟨g, 0, none⟩) n cap) xs) : HoldsK enc d.sz W g 0 xs.toArray := by
  have hn := (Kd.R_reads' h).1
  intro t ht
  rw [size_flatK] at ht
  have hs : xs.toArray.size = xs.length := by simp
  rw [hs] at ht
  have k0 : 0 < d.sz := by
    rcases Nat.eq_zero_or_pos d.sz with h0 | h0
    · rw [h0] at ht; simp at ht
    · exact h0
  have hi : t / d.sz < xs.length := (Nat.div_lt_iff_lt_mul k0).2 ht
  obtain ⟨c, hcl, hM1, hcc, hfr⟩ := Kd.R_elem h default ((t / d.sz : Nat) : Int) (Int.natCast_nonneg _) (by rw [hn]; exact_mod_cast hi)
  simp only [Int.toNat_natCast] at hM1 hcc hfr
  have hc := hopen hM1
  have hm := Nat.mod_lt t k0
  have he : t / d.sz * d.sz + t % d.sz = t := by have := Nat.div_add_mod t d.sz; rw [Nat.mul_comm] at this; exact this
  have hget : xs.toArray[t / d.sz]! = xs.getD (t / d.sz) default := by
    rw [List.getD_eq_getElem?_getD, List.getElem?_eq_getElem hi, getElem!_pos _ _ (by simpa using hi)]
    simp
  have hmc : t % d.sz < c.length := by omega
  refine ⟨?_, ?_⟩
  · have := hcc (t % d.sz) c[t % d.sz] (List.getElem?_eq_getElem hmc)
    rw [he] at this
    rw [Nat.zero_add, this, get_flatK _ _ _ _ (by rw [hs]; exact ht), hget]
    subst hc
    rw [getElem!_pos (enc _) (t % d.sz) hmc]
    rfl
  · have := hfr (t % d.sz)
    rw [he] at this
    rw [Nat.zero_add]
    exact this

theorem put_flat (hel : ∀ x, (enc x).length = d.sz) {W : World} {xs ys : List α} (hH : HoldsK enc d.sz W g 0 xs.toArray) (hl : ys.length = xs.length) : putRowK enc d.sz W g 0 ys.toArray = W.setCells g 0 (ys.flatMap enc) := by
  have h1 := setCells_putRow W g 0 (ys.flatMap enc) 0 (flatK enc d.sz xs.toArray) (by rw [size_flatK, flatMap_len hel, hl]; simp)
  rw [show putRow id W g 0 (flatK enc d.sz xs.toArray) = W from putRow_self id W g 0 _ hH] at h1
  rw [Nat.add_zero] at h1
  rw [h1]
  unfold putRowK
  congr 1
  apply Array.ext
  · simp [hl]
  · intro t ht1 ht2
    rw [size_flatK] at ht1
    have hs : ys.toArray.size = ys.length := by simp
    have ht : t < ys.length * d.sz := by rw [hs] at ht1; exact ht1
    have k0 : 0 < d.sz := by
      rcases Nat.eq_zero_or_pos d.sz with h0 | h0
      · rw [h0] at ht; simp at ht
      · exact h0
    have hi : t / d.sz < ys.length := (Nat.div_lt_iff_lt_mul k0).2 ht
    have hm := Nat.mod_lt t k0
    have hget : ys.toArray[t / d.sz]! = ys.getD (t / d.sz) default := by
      rw [List.getD_eq_getElem?_getD, List.getElem?_eq_getElem hi, getElem!_pos _ _ (by simpa using hi)]
      simp
    rw [← getElem!_pos (flatK enc d.sz ys.toArray) t (by rw [size_flatK]; exact ht1), ← getElem!_pos (setMany (flatK enc d.sz xs.toArray) 0 (ys.flatMap enc)) t ht2,
      get_setMany _ _ _ _ (by simpa using ht2), if_pos ⟨by omega, by rw [flatMap_len hel]; omega⟩, get_flatK _ _ _ _ ht1, hget, Nat.sub_zero]
    have hlen : t < (ys.flatMap enc).length := by rw [flatMap_len hel]; exact ht
    have h2 := flatMap_get (enc := enc) default hel ys t ht
    rw [List.getElem?_eq_getElem hlen, List.getElem?_eq_getElem (by rw [hel]; exact hm)] at h2
    rw [getElem!_pos (ys.flatMap enc) t hlen, getElem!_pos (enc (ys.getD (t / d.sz) default)) (t % d.sz) (by rw [hel]; exact hm)]
    exact (Option.some.inj h2).symm

theorem R_sorted (hM : ∀ W x, d.M W base (fun _ => False) x (enc x)) (hopen : ∀ {W : World} {ok' : Nat → Prop} {x : α} {c : List Value}, d.M W base ok' x c → c = enc x) (hel : ∀ x, (enc x).length = d.sz)
    {W : World} {xs ys : List α} (h : d.R e W base ok (.slice (some ⟨g, 0, none⟩) n cap) xs) (hl : ys.length = xs.length) (m : Nat) (os : Array Obj) :
    d.R e (sortWorldK enc d.sz W g 0 m ys.toArray os) base ok (.slice (some ⟨g, 0, none⟩) n cap) ys ∧ W.grownBy (sortWorldK enc d.sz W g 0 m ys.toArray os) (some g) := by
  have hn := (Kd.R_reads' h).1
  have h0 : d.R e (Go.Sort.ahead W m) base ok (.slice (some ⟨g, 0, none⟩) n cap) xs := Kd.R_move h (fun _ _ => rfl)
  have hH := holds_of_R (enc := enc) hopen hel h0
  have h1 := R_write (enc := enc) hM hel ys 0 (Go.Sort.ahead W m) xs h0 (by omega)
  rw [Nat.zero_mul, List.take_zero, List.nil_append] at h1
  unfold sortWorldK
  rw [put_flat hel hH hl]
  have hb : Below ((Go.Sort.ahead W m).setCells g 0 (ys.flatMap enc)).heap.size ((Go.Sort.ahead W m).setCells g 0 (ys.flatMap enc)) (grow ((Go.Sort.ahead W m).setCells g 0 (ys.flatMap enc)) os) :=
    ⟨rfl, rfl, rfl, by simp [grow], fun k hk => by
      unfold grow
      exact Array.getElem?_append_left hk⟩
  refine ⟨Kd.R_below h1.1 hb, ?_⟩
  have hg := h1.2
  exact ⟨hb.os.trans hg.os, hb.tape.trans hg.tape, hb.output.trans hg.output, Nat.le_trans hg.size hb.size, fun k hk hne => (hb.block k (Nat.lt_of_lt_of_le hk hg.size)).trans (hg.block k hk hne)⟩

end
section
variable {P : Program}
theorem copy_tail {w0 W : World} {e base g n cap k c1 c2 : Nat} {ok : Nat → Prop} (t t' : TypeId) (ht : P.underlying t = some (.slice e)) (hinfo : (P.info? e).map (·.size) = some 1)
    (xs : List Int) {A1 : Option Addr} (hA : A1 = if cap = k then some ⟨g, 0, none⟩ else some ⟨g, k, none⟩)
    (HO : (Kd.int .i64).R e W base ok (.slice (some ⟨g, 0, none⟩) n cap) xs) (hk : k < n) (HB : Below base w0 W) (hbase : base ≤ W.heap.size) :
    ∃ W1, (∀ ty, (Builtin.copy_ #[t, t'] ty #[.slice A1 (n - k) c1, .slice (some ⟨g, 0, none⟩) k c2]).run P W = .ok (.int .i64 ((min k (n - k) : Nat) : Int)) W1) ∧
      (Kd.int .i64).R e W1 base ok (.slice (some ⟨g, 0, none⟩) n cap) (xs.take k ++ xs.take (min k (n - k)) ++ xs.drop (k + min k (n - k))) ∧ Below base w0 W1 := by
  obtain ⟨hn, hnc, hC⟩ := Kd.R_reads' HO
  have hsz : (Kd.int .i64).sz = 1 := rfl
  rw [if_neg (by omega)] at hA
  subst hA
  have hw := R_write_at (enc := fun x : Int => [Value.int .i64 x]) (fun _ _ => rfl) (fun _ => rfl) (xs.take (min k (n - k))) k W xs HO (by rw [List.length_take]; omega)
  have hl : (xs.take (min k (n - k))).length = min k (n - k) := by rw [List.length_take]; omega
  rw [hsz, Nat.mul_one, hl] at hw
  have hfl : ((xs.take (min k (n - k))).flatMap fun x : Int => [Value.int .i64 x]) = (xs.take (min k (n - k))).map (Value.int .i64) := by
    generalize xs.take (min k (n - k)) = l
    induction l with
    | nil => rfl
    | cons y ys ih => rw [List.flatMap_cons, ih]; rfl
  rw [hfl] at hw
  obtain ⟨ad, hA, hc⟩ := hC.2.2 (by omega)
  injection hA with hA
  subst hA
  have hcell : ∀ j p, xs[j]? = some p → W.cell? ⟨g, j, none⟩ = some (.int .i64 p) := by
    intro j p hj
    obtain ⟨c, hcl, hcp, hcu⟩ := hc j p hj
    have hcp' : c = [.int .i64 p] := hcp
    have := hcu 0 (.int .i64 p) (by rw [hcp']; rfl)
    rw [hsz, Nat.mul_one, Nat.add_zero, Addr.add_lit, Nat.zero_add] at this
    exact this
  refine ⟨_, fun ty => ?_, hw.1, HB.grown hw.2 hbase (fun k hk => Kd.R_base HO _ hk)⟩
  have hr := run_copy_cells (P := P) W t t' ty e g k (n - k) c1 ⟨g, 0, none⟩ k c2 ((xs.take (min k (n - k))).map (Value.int .i64)) ht hinfo (by rw [List.length_map, hl])
    (fun j v hj => by
      rw [List.getElem?_map] at hj
      cases hx : (xs.take (min k (n - k)))[j]? with
      | none => rw [hx] at hj; cases hj
      | some p =>
        rw [hx] at hj
        injection hj with hj
        subst hj
        rw [Addr.add_lit, Nat.zero_add]
        refine hcell j p ?_
        rw [List.getElem?_take] at hx
        split at hx
        · exact hx
        · cases hx)
    (fun j hj => by
      rw [List.length_map, hl] at hj
      rw [hcell (k + j) _ (List.getElem?_eq_getElem (by omega))]
      rfl)
    (fun j hj => by
      rw [List.length_map, hl] at hj
      obtain ⟨c, _, _, _, hfr⟩ := Kd.R_elem HO 0 ((k + j : Nat) : Int) (by omega) (by omega)
      have := hfr 0
      rw [hsz, Nat.mul_one, Nat.add_zero, Int.toNat_natCast] at this
      exact this)
    (fun v hv => by
      obtain ⟨x, _, rfl⟩ := List.mem_map.1 hv
      rfl)
  rw [hr, List.length_map, hl]
  rfl
end
section
variable {α : Type} [Inhabited α] {d : Kd α} {e base g n cap : Nat} {ok : Nat → Prop} {enc : α → List Value}
variable {P : Program} {ρ : Ren}
theorem R_sortFunc (L : SlLaysF0.n6 P ρ) (aE : ∀ w, (isAgg (ρ.t 24)).run P w = .ok true w) (zE : ∀ w, (Go.sizeOf (ρ.t 24)).run P w = .ok d.sz w)
    (hM : ∀ b W x, d.M W b (fun _ => False) x (enc x)) (hopen : ∀ {b : Nat} {W : World} {ok' : Nat → Prop} {x : α} {c : List Value}, d.M W b ok' x c → c = enc x) (hel : ∀ x, (enc x).length = d.sz) (h1 : ∀ x, ∀ v ∈ enc x, v.oneCell' = true)
    (cf : α → α → Int) (hO : SWO (ltOf cf)) (hT : ∀ x y, (ltOf cf) x y = false → (ltOf cf) y x = false → x = y) (f : Nat) (eg : ∀ args w, (callFunc f args).run P w = .ok (.enter f args) w)
    (hc : ∀ W x y, Calls P f #[.agg (enc x).toArray, .agg (enc y).toArray] W fun e w' => e = .returned (.int .i64 (cf x y)) ∧ ∃ q os', w' = grow (W.drewN q) os')
    (P0_ : Nat → Prop) (u : Value) (l : List α) (w0 w : World) (hB : Below w0.heap.size w0 w) (ho : d.R e w w0.heap.size P0_ u l) (hlen : l.length < 4611686018427387904) :
    Calls P (ρ.f 6) #[u, .func (.func f) #[] #[]] w fun e' w' => e' = .returned (.tuple #[]) ∧ d.R e w' w0.heap.size (fun k_ => (P0_ k_ ∨ w.heap.size ≤ k_)) u (l.mergeSort fun x y => !(ltOf cf) y x) ∧ Below w0.heap.size w0 w' ∧ Kept w w' (fun k_ => P0_ k_) := by
  by_cases hl : l = []
  · subst hl
    obtain ⟨A, c, rfl⟩ := Kd.R_slice ho
    refine (AnyF.slices_SortFunc_none L A c _ w).mono ?_
    rintro e' w' ⟨rfl, rfl⟩
    refine ⟨rfl, ?_, hB, Nat.le_refl _, fun _ _ _ => rfl⟩
    simpa using Kd.R_mono ho (fun _ hk => .inl hk)
  · have hp : 0 < l.length := List.length_pos_iff.2 hl
    obtain ⟨g, cap, rfl, hbg, hlt, cells, hcells⟩ := Kd.R_form ho hp
    have hH := holds_of_R (enc := enc) hopen hel ho
    have hcall := AnyQ.slices_SortFunc_total L d.sz aE zE enc hel h1 cf hO f #[] g 0 cap l.toArray w eg (fun m os dk _ x y => hc _ x y) hH hlt (by simpa using hlen) hT
    have hs : l.toArray.size = l.length := by simp
    rw [hs] at hcall
    refine hcall.mono ?_
    rintro e' w' ⟨rfl, m, os, rfl⟩
    have hr := R_sorted (enc := enc) (hM _) hopen hel ho (ys := l.mergeSort fun x y => !(ltOf cf) y x) (by simp) m os
    have hP : P0_ g := ho.1 g (by simp [Value.ownBlock])
    refine ⟨rfl, ?_, ?_, hr.2.size, fun i hi hn => hr.2.block i hi (fun he => hn (by injection he with he; subst he; exact hP))⟩
    · have := Kd.R_mono hr.1 (ok' := fun k_ => (P0_ k_ ∨ w.heap.size ≤ k_)) (fun _ hk => .inl hk)
      simpa using this
    · refine hB.grown (row := some g) ?_ hB.size (fun k hk => by injection hk with hk; subst hk; exact hbg)
      exact hr.2
end

structure CI {α : Type} (x0 : List α) (m : Nat) (y : List α) (a b : Int) : Prop where
  b1 : 1 ≤ b
  bl : b ≤ y.length
  am : (m : Int) ≤ a
  ab : a + 1 ≤ m + b
  len : x0.length = m + y.length
  tail : ∀ j : Nat, b ≤ (j : Int) + 1 → x0[m + j]? = y[j]?
theorem CI.start {α : Type} {x0 : List α} {m : Nat} (h : m < x0.length) : CI x0 m (x0.drop m) m 1 :=
  ⟨by omega, by rw [List.length_drop]; omega, by omega, by omega, by rw [List.length_drop]; omega, fun j _ => by rw [List.getElem?_drop]⟩
theorem CI.skip {α : Type} {x0 y : List α} {m : Nat} {a b : Int} (h : CI x0 m y a b) (hb : b < y.length) : CI x0 m y a (b + 1) :=
  ⟨by have := h.b1; omega, by omega, h.am, by have := h.ab; omega, h.len, fun j hj => h.tail j (by omega)⟩
theorem CI.put {α : Type} {x0 y : List α} {m : Nat} {a b : Int} (h : CI x0 m y a b) (hb : b < y.length) (v : α) : CI (x0.set a.toNat v) m y (a + 1) (b + 1) :=
  ⟨by have := h.b1; omega, by omega, by have := h.am; omega, by have := h.ab; omega, by rw [List.length_set]; exact h.len, fun j hj => by
    have := h.ab; have := h.am; have := h.b1
    rw [List.getElem?_set_ne (by omega)]
    exact h.tail j (by omega)⟩
theorem CI.rd {α : Type} {x0 y : List α} {m : Nat} {a b : Int} (h : CI x0 m y a b) (z : α) (i : Int) (hi : b ≤ i + 1) (h0 : 0 ≤ i) : (x0.drop m).getD i.toNat z = y.getD i.toNat z := by
  rw [List.getD_eq_getElem?_getD, List.getD_eq_getElem?_getD, List.getElem?_drop, h.tail i.toNat (by omega)]
theorem CI.reads {α : Type} {d : Kd α} {e base n c : Nat} {ok : Nat → Prop} {W : World} {A A1 : Option Addr} {x0 y : List α} {m : Nat} {a b : Int} (h : CI x0 m y a b) (hR : d.R e W base ok (.slice A n c) x0) (hA : A1 = if c = m then A else A.map (·.add (m * d.sz))) : d.C W A1 y.length (x0.drop m) := by
  obtain ⟨hn, hc, hC⟩ := Kd.R_reads' hR
  have hl := h.len
  have h1 := Kd.C_drop (m := m) (c := c) hC (by omega) (by omega)
  rw [← hA, List.length_drop, show x0.length - m = y.length by omega] at h1
  exact h1
theorem CI.wrapb {α : Type} {x0 y : List α} {m : Nat} {a b : Int} (h : CI x0 m y a b) (hb : b < y.length) (hl : x0.length ≤ 9223372036854775807) : wrap64 (b + 1) = b + 1 := by
  have := h.b1; have := h.len
  exact IntWalk.wrap64_in _ ⟨by omega, by omega⟩
theorem CI.wrapa {α : Type} {x0 y : List α} {m : Nat} {a b : Int} (h : CI x0 m y a b) (hb : b < y.length) (hl : x0.length ≤ 9223372036854775807) : wrap64 (a + 1) = a + 1 := by
  have := h.b1; have := h.len; have := h.ab; have := h.am
  exact IntWalk.wrap64_in _ ⟨by omega, by omega⟩
theorem cap_ne {w : World} {b1 b2 : Nat} {t1 t2 : TypeId} {c1 c2 : Array Value} (h1 : w.heap[b1]? = some (.cells c1 t1 (0, 0))) (h2 : w.heap[b2]? = some (.cells c2 t2 (0, 0))) (h : t1 ≠ t2) : b1 ≠ b2 := by
  rintro rfl
  rw [h1] at h2
  injection h2 with h2
  injection h2 with _ h2
  exact h h2
end Go.Proofs.YtoajccbmikmjdaaX

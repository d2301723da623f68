import Derived.Test.YtoajccbmikmjdaaYLat
set_option linter.unusedVariables false
namespace Go.Proofs.Ytoajccbmikmjdaa.Y
open Go.RowKit Go.Proofs.YtoajccbmikmjdaaX Go.Proofs.Ytoajccbmikmjdaa.X Go.Proofs.YtoajccbmikmjdaaW.PrintWords Go.Proofs.YtoajccbmikmjdaaW.PrintLast Go.Proofs.YtoajccbmikmjdaaW.PrintMore

def cellAt (C : Int) (i : Nat) : S43 := ⟨(i : Int) / C, (i : Int) % C⟩
def pre (C : Int) (n : Nat) : List S43 := (List.range n).map (cellAt C)
theorem pre_succ (C : Int) (n : Nat) : pre C (n + 1) = pre C n ++ [cellAt C n] := by
  unfold pre
  rw [List.range_succ, List.map_append]
  rfl
theorem pre_len (C : Int) (n : Nat) : (pre C n).length = n := by simp [pre]
theorem pre_rd (C : Int) (n i : Nat) (h : i < n) : rd_T43 (pre C n) (i : Int) = cellAt C i := by
  unfold rd_T43 pre
  rw [Int.toNat_natCast, List.getD_eq_getElem?_getD, List.getElem?_map, List.getElem?_range h]
  rfl
theorem cellAt_eq {C x y : Int} (hC : 1 ≤ C) (x0 : 0 ≤ x) (y0 : 0 ≤ y) (y1 : y < C) : cellAt C (x * C + y).toNat = ⟨x, y⟩ := by
  have h : 0 ≤ x * C := Int.mul_nonneg x0 (by omega)
  unfold cellAt
  rw [Int.toNat_of_nonneg (by omega), Int.add_comm, Int.add_mul_ediv_right _ _ (by omega), Int.ediv_eq_zero_of_lt y0 y1, Int.zero_add, Int.add_mul_emod_self_right, Int.emod_eq_of_lt y0 y1]

theorem cells_l1 {A B C : Int} (h : LatOK A B C) {v : List S43} {x : Int} (x0 : 0 ≤ x) (x1 : x < A) (hv : Evt (fun k => impl_Lattice_cells.l0 k (pre C ((x + 1) * C).toNat) A (x + 1) A B C) v) :
    ∀ (m : Nat) (y : Int), 0 ≤ y → y + m = C → Evt (fun k => impl_Lattice_cells.l1 k (pre C (x * C + y).toNat) x A x C y A B C) v
  | 0, y, y0, hy => by
    have := h.a64
    refine hv.step fun k => ?_
    simp only [impl_Lattice_cells.l1]
    rw [if_neg (by omega), w64 (by omega) (by omega)]
    rw [show (x + 1) * C = x * C + y by rw [Int.add_mul, Int.one_mul]; omega]
  | m + 1, y, y0, hy => by
    have hc := h.c64
    obtain ⟨h1, h2, h3, h4⟩ := cell_num h x0 x1 y0 (by omega)
    have ih := cells_l1 h x0 x1 hv m (y + 1) (by omega) (by omega)
    refine ih.step fun k => ?_
    simp only [impl_Lattice_cells.l1]
    have := h.ac
    rw [if_pos (by omega), if_pos (by rw [pre_len]; omega), w64 (by omega) (by omega), show (x * C + (y + 1)).toNat = (x * C + y).toNat + 1 by omega, pre_succ, cellAt_eq h.c x0 y0 (by omega)]
theorem cells_l0 {A B C : Int} (h : LatOK A B C) : ∀ (m : Nat) (x : Int), 0 ≤ x → x + m = A → Evt (fun k => impl_Lattice_cells.l0 k (pre C (x * C).toNat) A x A B C) (pre C (A * C).toNat)
  | 0, x, x0, hx => by
    refine (Evt.pure _).step fun k => ?_
    simp only [impl_Lattice_cells.l0]
    rw [if_neg (by omega), show x = A by omega]
  | m + 1, x, x0, hx => by
    have ih := cells_l0 h m (x + 1) (by omega) (by omega)
    have hl := cells_l1 h x0 (by omega) ih C.toNat 0 (by omega) (by have := h.c; omega)
    rw [Int.add_zero] at hl
    refine hl.step fun k => ?_
    simp only [impl_Lattice_cells.l0]
    rw [if_pos (by omega)]
theorem cells_ev {A B C : Int} (h : LatOK A B C) : Evt (fun k => impl_Lattice_cells.f k A B C) (pre C (A * C).toNat) := by
  have := cells_l0 h A.toNat 0 (by omega) (by have := h.a; omega)
  rw [Int.zero_mul] at this
  exact this

/-- The group that has the unit alone. -/
def only : List S63 := [⟨⟨1, 0, 0, 1⟩, ⟨0, 0⟩⟩]
theorem take_only {A B C : Int} (h : LatOK A B C) {x y : Int} (x0 : 0 ≤ x) (x1 : x < A) (y0 : 0 ≤ y) (y1 : y < C) : impl_Lattice_take.f A B C 1 0 0 1 0 0 x y = some (x, y) := by
  have := h.a64; have := h.c64
  unfold impl_Lattice_take.f impl_Motion_apply.f impl_Mat_apply.f impl_Vec_add.f
  simp only [Option.bind_some, Int.one_mul, Int.zero_mul, Int.add_zero]
  rw [w64 (n := x) (by omega) (by omega), w64 (n := y) (by omega) (by omega), w64 (n := 0) (by omega) (by omega), Int.add_zero, Int.zero_add, w64 (n := x) (by omega) (by omega), w64 (n := y) (by omega) (by omega), w64 (n := x) (by omega) (by omega), w64 (n := y) (by omega) (by omega),
    impl_reduce_eq h (by omega) (by omega) (by omega) (by omega), (red_cell h x0 x1 y0 y1).1, (red_cell h x0 x1 y0 y1).2]
  rfl
theorem orbit_only {A B C : Int} (h : LatOK A B C) {x y : Int} (x0 : 0 ≤ x) (x1 : x < A) (y0 : 0 ≤ y) (y1 : y < C) : Evt (fun k => impl_orbitOf.f k A B C only x y) [⟨x, y⟩] := by
  have h1 : Evt (fun k => impl_orbitOf.l0 k [(⟨x, y⟩ : S43)] only 1 1 A B C x y) [⟨x, y⟩] := by
    refine (Evt.pure _).step fun k => ?_
    simp only [impl_orbitOf.l0]
    rw [if_neg (by omega)]
    unfold SortFunc56_impl_compareVecs.f impl_Vec_58.f
    rw [if_pos (by simp)]
    simp
  refine h1.step fun k => ?_
  have hw : wrap64 ((0 : Int) + 1) = 1 := w64 (by omega) (by omega)
  show impl_orbitOf.l0 (k + 1) [] only 1 0 A B C x y = _
  simp only [impl_orbitOf.l0]
  rw [if_pos (by omega), if_pos (by omega), if_pos (by decide)]
  show Option.bind (impl_Lattice_take.f A B C 1 0 0 1 0 0 x y) _ = _
  rw [take_only h x0 x1 y0 y1, Option.bind_some]
  simp only [hw]
  rw [if_pos (by decide)]
  rfl

/-- The numbers once the first i orbits are known. -/
def nums (i n : Nat) : List Int := (List.range n).map fun j => if j < i then (j : Int) else -1
theorem nums_len (i n : Nat) : (nums i n).length = n := by simp [nums]
theorem nums_rd (i n j : Nat) (h : j < n) : rd (nums i n) (j : Int) = if j < i then (j : Int) else -1 := by
  unfold rd nums
  rw [Int.toNat_natCast, List.getD_eq_getElem?_getD, List.getElem?_map, List.getElem?_range h]
  rfl
theorem nums_zero (n : Nat) : List.replicate n (-1) = nums 0 n := by
  unfold nums
  apply List.ext_getElem?
  intro j
  simp only [List.getElem?_map, List.getElem?_replicate]
  by_cases hj : j < n
  · rw [if_pos hj, List.getElem?_range hj]
    rfl
  · rw [if_neg hj, List.getElem?_eq_none (by simp; omega)]
    rfl
theorem nums_set (i n : Nat) (h : i < n) : (nums i n).set i (i : Int) = nums (i + 1) n := by
  apply List.ext_getElem?
  intro j
  rw [List.getElem?_set]
  unfold nums
  by_cases hij : i = j
  · subst hij
    simp [h]
  · rw [if_neg hij]
    simp only [List.getElem?_map]
    by_cases hj : j < n
    · rw [List.getElem?_range hj]
      simp only [Option.map_some]
      by_cases h1 : j < i
      · rw [if_pos h1, if_pos (by omega)]
      · rw [if_neg h1, if_neg (by omega)]
    · rw [List.getElem?_eq_none (by simp; omega)]
      rfl

theorem ol1_done (k : Nat) (x1 : List S63) (x6 : List (List S43)) (x7 : List Int) (x10 x19 : List S43) (x20 x21 x37 x38 A B C : Int) (h : ¬ x38 < x37) (h6 : x6.length < 5864062014805) : impl_orbitsOf.l1 (k + 1) x1 x6 x7 x10 x19 x20 x21 x37 x38 A B C = impl_orbitsOf.l0 k x1 (x6 ++ [x10]) x7 x19 x20 (wrap64 (x21 + 1)) A B C := by
  simp only [impl_orbitsOf.l1]
  rw [if_neg h, if_pos h6]
theorem ol1_round (k : Nat) (x1 : List S63) (x6 : List (List S43)) (x7 : List Int) (x10 x19 : List S43) (x20 x21 x37 x38 A B C n : Int) (h : x38 < x37) (h0 : 0 ≤ x38) (h1 : x38 < (x10.length : Int)) (hn : impl_Lattice_number.f A B C (rd_T43 x10 x38).f0 (rd_T43 x10 x38).f1 = some n) (n0 : 0 ≤ n) (n1 : n < (x7.length : Int)) :
    impl_orbitsOf.l1 (k + 1) x1 x6 x7 x10 x19 x20 x21 x37 x38 A B C = impl_orbitsOf.l1 k x1 x6 (x7.set n.toNat (x6.length : Int)) x10 x19 x20 x21 x37 (wrap64 (x38 + 1)) A B C := by
  simp only [impl_orbitsOf.l1]
  rw [if_pos h, if_pos h0, if_pos h1, hn, Option.bind_some, if_pos n0, if_pos n1]
theorem ol0_done (k : Nat) (x1 : List S63) (x6 : List (List S43)) (x7 : List Int) (x19 : List S43) (x20 x21 A B C : Int) (h : ¬ x21 < x20) : impl_orbitsOf.l0 (k + 1) x1 x6 x7 x19 x20 x21 A B C = some (x6, x7) := by
  simp only [impl_orbitsOf.l0]
  rw [if_neg h]
theorem ol0_round (k : Nat) (x1 : List S63) (x6 : List (List S43)) (x7 : List Int) (x19 : List S43) (x20 x21 A B C n : Int) (h : x21 < x20) (h0 : 0 ≤ x21) (h1 : x21 < (x19.length : Int)) (hn : impl_Lattice_number.f A B C (rd_T43 x19 x21).f0 (rd_T43 x19 x21).f1 = some n) (n0 : 0 ≤ n) (n1 : n < (x7.length : Int)) (hr : ¬ rd x7 n ≥ 0) :
    impl_orbitsOf.l0 (k + 1) x1 x6 x7 x19 x20 x21 A B C = (impl_orbitOf.f k A B C x1 (rd_T43 x19 x21).f0 (rd_T43 x19 x21).f1).bind fun t => impl_orbitsOf.l1 k x1 x6 x7 t x19 x20 x21 (t.length : Int) 0 A B C := by
  simp only [impl_orbitsOf.l0]
  rw [if_pos h, if_pos h0, if_pos h1, hn, Option.bind_some, if_pos n0, if_pos n1, if_neg hr]
theorem cell_facts {A B C : Int} (h : LatOK A B C) {i : Nat} (hi : (i : Int) < A * C) : impl_Lattice_number.f A B C (cellAt C i).f0 (cellAt C i).f1 = some (i : Int) ∧ Evt (fun k => impl_orbitOf.f k A B C only (cellAt C i).f0 (cellAt C i).f1) [cellAt C i] := by
  have hc0 := h.c
  have y0 : 0 ≤ (i : Int) % C := Int.emod_nonneg _ (by omega)
  have y1 : (i : Int) % C < C := Int.emod_lt_of_pos _ (by omega)
  have x0 : 0 ≤ (i : Int) / C := Int.ediv_nonneg (by omega) (by omega)
  have x1 : (i : Int) / C < A := Int.ediv_lt_of_lt_mul (by omega) hi
  refine ⟨?_, orbit_only h x0 x1 y0 y1⟩
  show impl_Lattice_number.f A B C ((i : Int) / C) ((i : Int) % C) = some (i : Int)
  rw [impl_number_eq h x0 x1 y0 y1, Int.ediv_mul_add_emod]
theorem orbits_l0 {A B C : Int} (h : LatOK A B C) (N : Nat) (hN : (N : Int) = A * C) (hN6 : N ≤ 64) : ∀ (m i : Nat) (x6 : List (List S43)), i + m = N → x6.length = i →
    ∃ o, Evt (fun k => impl_orbitsOf.l0 k only x6 (nums i N) (pre C N) (N : Int) (i : Int) A B C) (o, nums N N)
  | 0, i, x6, hi, hx => by
    refine ⟨x6, (Evt.pure _).step fun k => ?_⟩
    show impl_orbitsOf.l0 (k + 1) only x6 (nums i N) (pre C N) (N : Int) (i : Int) A B C = _
    obtain rfl : i = N := hi
    exact ol0_done k only x6 (nums i i) (pre C i) (i : Int) (i : Int) A B C (Int.lt_irrefl _)
  | m + 1, i, x6, hi, hx => by
    have hiN : i < N := by omega
    have hiC : (i : Int) < A * C := by rw [← hN]; exact_mod_cast hiN
    obtain ⟨hnum, horb⟩ := cell_facts h hiC
    have hrd0 := pre_rd C N i hiN
    obtain ⟨o, ih⟩ := orbits_l0 h N hN hN6 m (i + 1) (x6 ++ [[cellAt C i]]) (by omega) (by rw [List.length_append, hx]; rfl)
    refine ⟨o, ?_⟩
    have hw : wrap64 ((i : Int) + 1) = ((i + 1 : Nat) : Int) := w64 (by omega) (by omega)
    have hset := nums_set i N hiN
    have hrn : rd (nums i N) (i : Int) = -1 := by rw [nums_rd i N i hiN, if_neg (Nat.lt_irrefl i)]
    have hnl := nums_len i N
    have hpl := pre_len C N
    generalize cellAt C i = ce at hnum horb hrd0 ih
    have hrd : rd_T43 [ce] 0 = ce := rfl
    have h2 : Evt (fun k => impl_orbitsOf.l1 k only x6 (nums (i + 1) N) [ce] (pre C N) (N : Int) (i : Int) 1 1 A B C) (o, nums N N) := by
      refine ih.step fun k => ?_
      have e := ol1_done k only x6 (nums (i + 1) N) [ce] (pre C N) (N : Int) (i : Int) 1 1 A B C (Int.lt_irrefl _) (by rw [hx]; omega)
      rw [hw] at e
      exact e
    have h1 : Evt (fun k => impl_orbitsOf.l1 k only x6 (nums i N) [ce] (pre C N) (N : Int) (i : Int) 1 0 A B C) (o, nums N N) := by
      refine h2.step fun k => ?_
      have e := ol1_round k only x6 (nums i N) [ce] (pre C N) (N : Int) (i : Int) 1 0 A B C (i : Int) (by decide) (by decide) (by rw [List.length_singleton]; decide) (by rw [hrd]; exact hnum) (by omega) (by rw [hnl]; omega)
      rw [Int.toNat_natCast, hx, hset, w64 (n := 0 + 1) (by omega) (by omega)] at e
      exact e
    have h0 : Evt (fun k => (impl_orbitOf.f k A B C only ce.f0 ce.f1).bind fun t => impl_orbitsOf.l1 k only x6 (nums i N) t (pre C N) (N : Int) (i : Int) (t.length : Int) 0 A B C) (o, nums N N) :=
      Evt.bind (g := fun k t => impl_orbitsOf.l1 k only x6 (nums i N) t (pre C N) (N : Int) (i : Int) (t.length : Int) 0 A B C) horb h1
    refine h0.step fun k => ?_
    have e := ol0_round k only x6 (nums i N) (pre C N) (N : Int) (i : Int) A B C (i : Int) (by omega) (by omega) (by rw [hpl]; omega) (by rw [hrd0]; exact hnum) (by omega) (by rw [hnl]; omega) (by rw [hrn]; decide)
    rw [hrd0] at e
    exact e
theorem orbits_only {A B C : Int} (h : LatOK A B C) : ∃ o, Evt (fun k => impl_orbitsOf.f k A B C only) (o, nums (A * C).toNat (A * C).toNat) := by
  have hac := h.ac
  have hmul : 1 * 1 ≤ A * C := Int.mul_le_mul h.a h.c (by decide) (by have := h.a; omega)
  obtain ⟨N, hN⟩ : ∃ N : Nat, (N : Int) = A * C := ⟨(A * C).toNat, Int.toNat_of_nonneg (by omega)⟩
  have hcells := cells_ev h
  have hix : impl_Lattice_index.f A B C = some (A * C) := by unfold impl_Lattice_index.f; rw [w64 (by omega) (by omega)]
  rw [← hN, Int.toNat_natCast] at hcells ⊢
  rw [← hN] at hix
  obtain ⟨o, ho⟩ := orbits_l0 h N hN (by omega) N 0 [] (by omega) rfl
  refine ⟨o, ?_⟩
  have hrep : slices_Repeat_int64_int64.f [-1] (N : Int) = some (nums 0 N) := by
    unfold slices_Repeat_int64_int64.f
    rw [if_pos ⟨rfl, by omega, by omega⟩, Int.toNat_natCast, ← nums_zero]
    rfl
  have hb : Evt (fun k => (impl_Lattice_cells.f k A B C).bind fun t => impl_orbitsOf.l0 k only [] (nums 0 N) t (t.length : Int) 0 A B C) (o, nums N N) := by
    refine Evt.bind (g := fun k t => impl_orbitsOf.l0 k only [] (nums 0 N) t (t.length : Int) 0 A B C) hcells ?_
    rw [pre_len]
    exact ho
  refine hb.congr fun k => ?_
  unfold impl_orbitsOf.f
  rw [hix, Option.bind_some, hrep, Option.bind_some]
end Go.Proofs.Ytoajccbmikmjdaa.Y

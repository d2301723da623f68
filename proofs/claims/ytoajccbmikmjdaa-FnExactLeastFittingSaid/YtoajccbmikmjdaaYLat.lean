import Derived.Test.YtoajccbmikmjdaaX0
import Derived.Test.YtoajccbmikmjdaaX1
import Derived.Test.YtoajccbmikmjdaaX2
import Derived.Test.YtoajccbmikmjdaaX3
import Derived.Test.YtoajccbmikmjdaaX4
import Derived.Test.YtoajccbmikmjdaaX5
import Derived.Test.YtoajccbmikmjdaaX6
import Derived.Test.YtoajccbmikmjdaaX7
import Derived.Test.YtoajccbmikmjdaaX8
import Derived.Test.YtoajccbmikmjdaaX9
import Derived.Test.YtoajccbmikmjdaaX10
import Derived.Test.YtoajccbmikmjdaaX11
import Derived.Test.YtoajccbmikmjdaaX12
import Derived.Test.YtoajccbmikmjdaaX13
import Derived.Test.YtoajccbmikmjdaaXEv
set_option linter.unusedVariables false
namespace Go.Proofs.Ytoajccbmikmjdaa.Y
open Go.RowKit Go.Proofs.YtoajccbmikmjdaaX Go.Proofs.Ytoajccbmikmjdaa.X Go.Proofs.YtoajccbmikmjdaaW.PrintWords Go.Proofs.YtoajccbmikmjdaaW.PrintLast Go.Proofs.YtoajccbmikmjdaaW.PrintMore

theorem mul_bd {a b M N : Int} (h1 : -M ≤ a) (h2 : a ≤ M) (h3 : 0 ≤ b) (h4 : b ≤ N) : -(M * N) ≤ a * b ∧ a * b ≤ M * N := by
  have hM : 0 ≤ M := by omega
  have hN : 0 ≤ N := by omega
  constructor
  · have e1 : -M * b ≤ a * b := Int.mul_le_mul_of_nonneg_right h1 h3
    have e2 : M * b ≤ M * N := Int.mul_le_mul_of_nonneg_left h4 hM
    rw [Int.neg_mul] at e1
    omega
  · have e1 : a * b ≤ M * b := Int.mul_le_mul_of_nonneg_right h2 h3
    have e2 : M * b ≤ M * N := Int.mul_le_mul_of_nonneg_left h4 hM
    omega

structure LatOK (A B C : Int) : Prop where
  a : 1 ≤ A
  c : 1 ≤ C
  b0 : 0 ≤ B
  b1 : B < A
  ac : A * C ≤ 64
theorem LatOK.a64 {A B C : Int} (h : LatOK A B C) : A ≤ 64 := by
  have e : A * 1 ≤ A * C := Int.mul_le_mul_of_nonneg_left h.c (by have := h.a; omega)
  have := h.ac
  omega
theorem LatOK.c64 {A B C : Int} (h : LatOK A B C) : C ≤ 64 := by
  have e : 1 * C ≤ A * C := Int.mul_le_mul_of_nonneg_right h.a (by have := h.c; omega)
  have := h.ac
  omega

def redY (C y : Int) : Int := y % C
def redX (A B C x y : Int) : Int := (x - y / C * B) % A
def num (A B C x y : Int) : Int := redX A B C x y * C + redY C y
theorem redY_ge {C y : Int} (h : 1 ≤ C) : 0 ≤ redY C y := Int.emod_nonneg _ (by omega)
theorem redY_lt {C y : Int} (h : 1 ≤ C) : redY C y < C := Int.emod_lt_of_pos _ (by omega)
theorem redX_ge {A B C x y : Int} (h : 1 ≤ A) : 0 ≤ redX A B C x y := Int.emod_nonneg _ (by omega)
theorem redX_lt {A B C x y : Int} (h : 1 ≤ A) : redX A B C x y < A := Int.emod_lt_of_pos _ (by omega)
/-- The number of a cell. -/
theorem cell_num {A B C : Int} (h : LatOK A B C) {x y : Int} (x0 : 0 ≤ x) (x1 : x < A) (y0 : 0 ≤ y) (y1 : y < C) : 0 ≤ x * C + y ∧ x * C + y < A * C ∧ -4096 ≤ x * C ∧ x * C ≤ 4096 := by
  have hc := h.c
  have e1 : 0 ≤ x * C := Int.mul_nonneg x0 (by omega)
  have e2 : (x + 1) * C ≤ A * C := Int.mul_le_mul_of_nonneg_right (by omega) (by omega)
  rw [Int.add_mul, Int.one_mul] at e2
  have := h.ac
  omega
theorem num_range {A B C : Int} (h : LatOK A B C) (x y : Int) : 0 ≤ num A B C x y ∧ num A B C x y < A * C := by
  have := cell_num h (redX_ge (B := B) (C := C) (x := x) (y := y) h.a) (redX_lt h.a) (redY_ge (y := y) h.c) (redY_lt h.c)
  exact ⟨this.1, this.2.1⟩
/-- A cell reduces to itself. -/
theorem red_cell {A B C : Int} (h : LatOK A B C) {x y : Int} (x0 : 0 ≤ x) (x1 : x < A) (y0 : 0 ≤ y) (y1 : y < C) : redX A B C x y = x ∧ redY C y = y := by
  unfold redX redY
  rw [Int.ediv_eq_zero_of_lt y0 y1, Int.emod_eq_of_lt y0 y1, Int.zero_mul, Int.sub_zero, Int.emod_eq_of_lt x0 x1]
  exact ⟨rfl, rfl⟩

theorem impl_mod_eq {a n : Int} (hn : 1 ≤ n) (hb : n ≤ 64) : impl_mod.f a n = some (a % n) := by
  unfold impl_mod.f
  rw [if_neg (by omega), mod_emod (by omega) (by omega)]
theorem spec_mod_eq {a n : Int} (hn : 1 ≤ n) (hb : n ≤ 64) : spec_l01Mod.f a n = some (a % n) := by
  unfold spec_l01Mod.f
  rw [if_neg (by omega), ← mod_emod2 (a := a) (n := n) (by omega) (by omega)]
  split <;> rfl

theorem div_part {C y : Int} (hc : 1 ≤ C) (hc' : C ≤ 64) (h1 : -1000000 ≤ y) (h2 : y ≤ 1000000) : wrap64 (Int.tdiv (wrap64 (y - y % C)) C) = y / C ∧ -1000000 ≤ y / C ∧ y / C ≤ 1000000 := by
  have hm0 : 0 ≤ y % C := Int.emod_nonneg _ (by omega)
  have hm1 : y % C < C := Int.emod_lt_of_pos _ (by omega)
  have hd : y - y % C = C * (y / C) := by
    have := Int.mul_ediv_add_emod y C
    omega
  have hb : -1000000 ≤ y / C ∧ y / C ≤ 1000000 := by
    constructor
    · exact Int.le_ediv_of_mul_le (by omega) (by
        have : (-1000000) * C ≤ -1000000 := by omega
        omega)
    · exact Int.ediv_le_of_le_mul (by omega) (by
        have : 1000000 ≤ 1000000 * C := by omega
        omega)
  refine ⟨?_, hb.1, hb.2⟩
  rw [w64 (n := y - y % C) (by omega) (by omega), hd, Int.mul_tdiv_cancel_left _ (by omega), w64 (by omega) (by omega)]

theorem impl_reduce_eq {A B C x y : Int} (h : LatOK A B C) (x1 : -1000000 ≤ x) (x2 : x ≤ 1000000) (y1 : -1000000 ≤ y) (y2 : y ≤ 1000000) : impl_Lattice_reduce.f A B C x y = some (redX A B C x y, redY C y) := by
  have ha := h.a; have hc := h.c; have ha' := h.a64; have hc' := h.c64
  obtain ⟨hd, hd1, hd2⟩ := div_part hc hc' y1 y2
  have hb := mul_bd (M := 1000000) (N := 64) hd1 hd2 h.b0 (by have := h.b1; omega)
  unfold impl_Lattice_reduce.f
  rw [impl_mod_eq hc hc', Option.bind_some, if_neg (by omega), hd, w64 (n := y / C * B) (by omega) (by omega), w64 (by omega) (by omega), impl_mod_eq ha ha']
  rfl
theorem spec_reduce_eq {A B C x y : Int} (h : LatOK A B C) (x1 : -1000000 ≤ x) (x2 : x ≤ 1000000) (y1 : -1000000 ≤ y) (y2 : y ≤ 1000000) : spec_l03Reduce.f A B C x y = some (redX A B C x y, redY C y) := by
  have ha := h.a; have hc := h.c; have ha' := h.a64; have hc' := h.c64
  obtain ⟨hd, hd1, hd2⟩ := div_part hc hc' y1 y2
  have hb := mul_bd (M := 1000000) (N := 64) hd1 hd2 h.b0 (by have := h.b1; omega)
  unfold spec_l03Reduce.f
  rw [spec_mod_eq hc hc', Option.bind_some, if_neg (by omega), hd, w64 (n := y / C * B) (by omega) (by omega), w64 (by omega) (by omega), spec_mod_eq ha ha']
  rfl
theorem impl_number_eq {A B C x y : Int} (h : LatOK A B C) (x0 : 0 ≤ x) (x1 : x < A) (y0 : 0 ≤ y) (y1 : y < C) : impl_Lattice_number.f A B C x y = some (x * C + y) := by
  obtain ⟨h1, h2, h3, h4⟩ := cell_num h x0 x1 y0 y1
  have := h.c64
  unfold impl_Lattice_number.f
  rw [w64 (n := x * C) (by omega) (by omega), w64 (by omega) (by omega)]
theorem spec_number_eq {A B C x y : Int} (h : LatOK A B C) (x1 : -1000000 ≤ x) (x2 : x ≤ 1000000) (y1 : -1000000 ≤ y) (y2 : y ≤ 1000000) : spec_l03Number.f A B C x y = some (num A B C x y) := by
  obtain ⟨h1, h2, h3, h4⟩ := cell_num h (redX_ge (B := B) (C := C) (x := x) (y := y) h.a) (redX_lt h.a) (redY_ge (y := y) h.c) (redY_lt h.c)
  have := h.c64
  have := h.ac
  unfold spec_l03Number.f
  rw [spec_reduce_eq h x1 x2 y1 y2, Option.bind_some]
  show some (wrap64 (wrap64 (redX A B C x y * C) + redY C y)) = _
  rw [w64 (n := redX A B C x y * C) (by omega) (by omega), w64 (by omega) (by omega)]
  rfl
end Go.Proofs.Ytoajccbmikmjdaa.Y

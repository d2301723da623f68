import Derived.Test.YtoajccbmikmjdaaYOrb
set_option linter.unusedVariables false
namespace Go.Proofs.Ytoajccbmikmjdaa.Y
open Go.RowKit Go.Proofs.YtoajccbmikmjdaaX Go.Proofs.Ytoajccbmikmjdaa.X Go.Proofs.YtoajccbmikmjdaaW.PrintWords Go.Proofs.YtoajccbmikmjdaaW.PrintLast Go.Proofs.YtoajccbmikmjdaaW.PrintMore

def inn (p : Nat → Nat → Bool) (j : Nat) : Nat → Nat → Bool
  | _, 0 => false
  | i, m + 1 => p i j || inn p j (i + 1) m
def out (p : Nat → Nat → Bool) : Nat → Nat → Bool
  | _, 0 => false
  | j, m + 1 => inn p j 0 j || out p (j + 1) m

structure MarksOK (l : List S45) : Prop where
  len : l.length ≤ 40
  x : ∀ i : Nat, i < l.length → -1000 ≤ (rd_T45 l i).f0.f0 ∧ (rd_T45 l i).f0.f0 ≤ 1000
  y : ∀ i : Nat, i < l.length → -1000 ≤ (rd_T45 l i).f0.f1 ∧ (rd_T45 l i).f0.f1 ≤ 1000

def mnum (A B C : Int) (l : List S45) (i : Nat) : Int := num A B C (rd_T45 l i).f0.f0 (rd_T45 l i).f0.f1
def clash (A B C : Int) (l : List S45) (i j : Nat) : Bool := !decide ((rd_T45 l i).f1 = (rd_T45 l j).f1) && decide (mnum A B C l i = mnum A B C l j)

theorem conf1_eq {A B C : Int} (h : LatOK A B C) {N : Nat} (hN : (N : Int) = A * C) {x y : Int} (c : Int) (x1 : -1000 ≤ x) (x2 : x ≤ 1000) (y1 : -1000 ≤ y) (y2 : y ≤ 1000) : impl_conflictOf_1.f x y c (nums N N) A B C = some (num A B C x y) := by
  obtain ⟨h1, h2⟩ := num_range h x y
  have hr := impl_reduce_eq h (x := x) (y := y) (by omega) (by omega) (by omega) (by omega)
  have hn : impl_Lattice_number.f A B C (redX A B C x y) (redY C y) = some (num A B C x y) := impl_number_eq h (redX_ge h.a) (redX_lt h.a) (redY_ge h.c) (redY_lt h.c)
  have hrd : rd (nums N N) (num A B C x y) = num A B C x y := by
    obtain ⟨q, hq⟩ := Int.eq_ofNat_of_zero_le h1
    rw [hq, nums_rd N N q (by omega), if_pos (by omega)]
  unfold impl_conflictOf_1.f
  rw [hr, Option.bind_some]
  show Option.bind (impl_Lattice_number.f A B C (redX A B C x y) (redY C y)) _ = _
  rw [hn, Option.bind_some, if_pos h1, if_pos (by rw [nums_len]; omega), hrd]

section
variable (k : Nat) (x2 : List S45) (x12 : Int) (x23 : List S45) (x24 x25 : Int) (x32 : List S45) (x33 x34 A B C : Int) (ns : List Int) (u v c : Int)
theorem cl1_done (h : ¬ x34 < x33) : impl_conflictOf.l1 (k + 1) x2 x12 x23 x24 x25 x32 x33 x34 A B C ns u v c = impl_conflictOf.l0 k x2 x23 x24 (wrap64 (x25 + 1)) A B C ns := by
  simp only [impl_conflictOf.l1]
  rw [if_neg h]
theorem cl1_same (h : x34 < x33) (h0 : 0 ≤ x34) (h1 : x34 < (x32.length : Int)) (hc : (rd_T45 x32 x34).f1 = c) : impl_conflictOf.l1 (k + 1) x2 x12 x23 x24 x25 x32 x33 x34 A B C ns u v c = impl_conflictOf.l1 k x2 x12 x23 x24 x25 x32 x33 (wrap64 (x34 + 1)) A B C ns u v c := by
  simp only [impl_conflictOf.l1]
  rw [if_pos h, if_pos h0, if_pos h1, if_pos hc]
theorem cl1_diff {a b : Int} (h : x34 < x33) (h0 : 0 ≤ x34) (h1 : x34 < (x32.length : Int)) (hc : ¬ (rd_T45 x32 x34).f1 = c) (ha : impl_conflictOf_1.f (rd_T45 x32 x34).f0.f0 (rd_T45 x32 x34).f0.f1 (rd_T45 x32 x34).f1 ns A B C = some a) (hb : impl_conflictOf_1.f u v c ns A B C = some b) :
    impl_conflictOf.l1 (k + 1) x2 x12 x23 x24 x25 x32 x33 x34 A B C ns u v c = if a = b then some (x34, x12, true) else impl_conflictOf.l1 k x2 x12 x23 x24 x25 x32 x33 (wrap64 (x34 + 1)) A B C ns u v c := by
  simp only [impl_conflictOf.l1]
  rw [if_pos h, if_pos h0, if_pos h1, if_neg hc, ha, Option.bind_some, hb, Option.bind_some]
theorem cl0_done (h : ¬ x25 < x24) : impl_conflictOf.l0 (k + 1) x2 x23 x24 x25 A B C ns = some (0, 0, false) := by
  simp only [impl_conflictOf.l0]
  rw [if_neg h]
theorem cl0_round (h : x25 < x24) (h0 : 0 ≤ x25) (h1 : x25 < (x23.length : Int)) (h2 : x25 ≤ (x2.length : Int)) : impl_conflictOf.l0 (k + 1) x2 x23 x24 x25 A B C ns =
    impl_conflictOf.l1 k x2 x25 x23 x24 x25 (x2.take x25.toNat) ((x2.take x25.toNat).length : Int) 0 A B C ns (rd_T45 x23 x25).f0.f0 (rd_T45 x23 x25).f0.f1 (rd_T45 x23 x25).f1 := by
  simp only [impl_conflictOf.l0]
  rw [if_pos h, if_pos h0, if_pos h1, if_pos h2, Option.bind_some]
end
theorem rd_take (l : List S45) (j i : Nat) (h : i < j) : rd_T45 (l.take j) (i : Int) = rd_T45 l (i : Int) := by
  unfold rd_T45
  rw [Int.toNat_natCast, List.getD_eq_getElem?_getD, List.getD_eq_getElem?_getD, List.getElem?_take, if_pos h]

theorem conf_l1 {A B C : Int} (h : LatOK A B C) {N : Nat} (hN : (N : Int) = A * C) {l : List S45} (hm : MarksOK l) {j : Nat} (hj : j < l.length) {b : Bool}
    (h0 : ∃ r, Evt (fun k => impl_conflictOf.l0 k l l (l.length : Int) ((j + 1 : Nat) : Int) A B C (nums N N)) r ∧ r.2.2 = b) : ∀ (m i : Nat), i + m = j →
    ∃ r, Evt (fun k => impl_conflictOf.l1 k l (j : Int) l (l.length : Int) (j : Int) (l.take j) (j : Int) (i : Int) A B C (nums N N) (rd_T45 l j).f0.f0 (rd_T45 l j).f0.f1 (rd_T45 l j).f1) r ∧ r.2.2 = (inn (clash A B C l) j i m || b)
  | 0, i, hi => by
    obtain ⟨r, hr, hb⟩ := h0
    have hl := hm.len
    refine ⟨r, hr.step fun k => ?_, hb.trans (by simp [inn])⟩
    rw [cl1_done _ _ _ _ _ _ _ _ _ _ _ _ _ _ _ _ (by omega), w64 (by omega) (by omega)]
    rfl
  | m + 1, i, hi => by
    have hl := hm.len
    obtain ⟨r, hr, hb⟩ := conf_l1 h hN hm hj h0 m (i + 1) (by omega)
    have hw : wrap64 ((i : Int) + 1) = ((i + 1 : Nat) : Int) := w64 (by omega) (by omega)
    have htl : (l.take j).length = j := by rw [List.length_take]; omega
    have hrd := rd_take l j i (by omega)
    have hxi := hm.x i (by omega); have hyi := hm.y i (by omega)
    have hxj := hm.x j (by omega); have hyj := hm.y j (by omega)
    have ea : impl_conflictOf_1.f (rd_T45 l i).f0.f0 (rd_T45 l i).f0.f1 (rd_T45 l i).f1 (nums N N) A B C = some (mnum A B C l i) := conf1_eq h hN (rd_T45 l i).f1 hxi.1 hxi.2 hyi.1 hyi.2
    have eb : impl_conflictOf_1.f (rd_T45 l j).f0.f0 (rd_T45 l j).f0.f1 (rd_T45 l j).f1 (nums N N) A B C = some (mnum A B C l j) := conf1_eq h hN (rd_T45 l j).f1 hxj.1 hxj.2 hyj.1 hyj.2
    by_cases hc : (rd_T45 l i).f1 = (rd_T45 l j).f1
    · refine ⟨r, hr.step fun k => ?_, hb.trans (by simp [inn, clash, hc])⟩
      have e := cl1_same k l (j : Int) l (l.length : Int) (j : Int) (l.take j) (j : Int) (i : Int) A B C (nums N N) (rd_T45 l j).f0.f0 (rd_T45 l j).f0.f1 (rd_T45 l j).f1 (by omega) (by omega) (by rw [htl]; omega) (by rw [hrd]; exact hc)
      rw [hw] at e
      exact e
    · by_cases he : mnum A B C l i = mnum A B C l j
      · refine ⟨((i : Int), (j : Int), true), (Evt.pure _).step fun k => ?_, by simp [inn, clash, hc, he]⟩
        have e := cl1_diff k l (j : Int) l (l.length : Int) (j : Int) (l.take j) (j : Int) (i : Int) A B C (nums N N) (rd_T45 l j).f0.f0 (rd_T45 l j).f0.f1 (rd_T45 l j).f1 (by omega) (by omega) (by rw [htl]; omega) (by rw [hrd]; exact hc) (by rw [hrd]; exact ea) eb
        rw [if_pos he] at e
        exact e
      · refine ⟨r, hr.step fun k => ?_, hb.trans (by simp [inn, clash, he])⟩
        have e := cl1_diff k l (j : Int) l (l.length : Int) (j : Int) (l.take j) (j : Int) (i : Int) A B C (nums N N) (rd_T45 l j).f0.f0 (rd_T45 l j).f0.f1 (rd_T45 l j).f1 (by omega) (by omega) (by rw [htl]; omega) (by rw [hrd]; exact hc) (by rw [hrd]; exact ea) eb
        rw [if_neg he, hw] at e
        exact e
theorem conf_l0 {A B C : Int} (h : LatOK A B C) {N : Nat} (hN : (N : Int) = A * C) {l : List S45} (hm : MarksOK l) : ∀ (m j : Nat), j + m = l.length →
    ∃ r, Evt (fun k => impl_conflictOf.l0 k l l (l.length : Int) (j : Int) A B C (nums N N)) r ∧ r.2.2 = out (clash A B C l) j m
  | 0, j, hj => ⟨(0, 0, false), (Evt.pure _).step fun k => cl0_done _ _ _ _ _ _ _ _ _ (by omega), rfl⟩
  | m + 1, j, hj => by
    have ih := conf_l0 h hN hm m (j + 1) (by omega)
    obtain ⟨r, hr, hb⟩ := conf_l1 h hN hm (j := j) (by omega) ih j 0 (by omega)
    refine ⟨r, hr.step fun k => ?_, hb⟩
    have e := cl0_round k l l (l.length : Int) (j : Int) A B C (nums N N) (by omega) (by omega) (by omega) (by omega)
    rw [Int.toNat_natCast, List.length_take, Nat.min_eq_left (by omega)] at e
    exact e
/-- The predicate that fittingLattices deletes by. -/
theorem conflict_ev {A B C : Int} (h : LatOK A B C) {l : List S45} (hm : MarksOK l) : Evt (fun k => impl_fittingLattices_1.f k A B C only l) (out (clash A B C l) 0 l.length) := by
  obtain ⟨N, hN⟩ : ∃ N : Nat, (N : Int) = A * C := ⟨(A * C).toNat, Int.toNat_of_nonneg (Int.mul_nonneg (by have := h.a; omega) (by have := h.c; omega))⟩
  obtain ⟨o, ho⟩ := orbits_only h
  rw [← hN, Int.toNat_natCast] at ho
  obtain ⟨r, hr, hb⟩ := conf_l0 h hN hm l.length 0 (by omega)
  have h1 : Evt (fun k => impl_conflictOf.f k A B C only l) r := by
    have := Evt.bind (g := fun k b => impl_conflictOf.l0 k l l (l.length : Int) 0 A B C b.2) ho hr
    exact this
  rw [← hb]
  exact Evt.bind (g := fun k b => some b.2.2) h1 (Evt.pure _)

section
variable (k : Nat) (x1 : List S45) (x5 x6 A B C : Int)
theorem fl0_done (h : ¬ x5 < (x1.length : Int)) : spec_l19Fits.l0 (k + 1) x1 x5 A B C = some true := by
  simp only [spec_l19Fits.l0]
  rw [if_neg h]
theorem fl0_round (h : x5 < (x1.length : Int)) : spec_l19Fits.l0 (k + 1) x1 x5 A B C = spec_l19Fits.l1 k x1 x5 0 A B C := by
  simp only [spec_l19Fits.l0]
  rw [if_pos h]
theorem fl1_done (h : ¬ x6 < x5) : spec_l19Fits.l1 (k + 1) x1 x5 x6 A B C = spec_l19Fits.l0 k x1 (wrap64 (x5 + 1)) A B C := by
  simp only [spec_l19Fits.l1]
  rw [if_neg h]
theorem fl1_same (h : x6 < x5) (h0 : 0 ≤ x6) (h1 : x6 < (x1.length : Int)) (h2 : 0 ≤ x5) (h3 : x5 < (x1.length : Int)) (hc : (rd_T45 x1 x6).f1 = (rd_T45 x1 x5).f1) : spec_l19Fits.l1 (k + 1) x1 x5 x6 A B C = spec_l19Fits.l1 k x1 x5 (wrap64 (x6 + 1)) A B C := by
  simp only [spec_l19Fits.l1]
  rw [if_pos h, if_pos h0, if_pos h1, if_pos h2, if_pos h3, if_pos hc]
theorem fl1_diff {a b : Int} (h : x6 < x5) (h0 : 0 ≤ x6) (h1 : x6 < (x1.length : Int)) (h2 : 0 ≤ x5) (h3 : x5 < (x1.length : Int)) (hc : ¬ (rd_T45 x1 x6).f1 = (rd_T45 x1 x5).f1)
    (ha : spec_l03Number.f A B C (rd_T45 x1 x6).f0.f0 (rd_T45 x1 x6).f0.f1 = some a) (hb : spec_l03Number.f A B C (rd_T45 x1 x5).f0.f0 (rd_T45 x1 x5).f0.f1 = some b) :
    spec_l19Fits.l1 (k + 1) x1 x5 x6 A B C = if a = b then some false else spec_l19Fits.l1 k x1 x5 (wrap64 (x6 + 1)) A B C := by
  simp only [spec_l19Fits.l1]
  rw [if_pos h, if_pos h0, if_pos h1, if_pos h2, if_pos h3, if_neg hc, ha, Option.bind_some, hb, Option.bind_some]
end
theorem fits_l1 {A B C : Int} (h : LatOK A B C) {l : List S45} (hm : MarksOK l) {j : Nat} (hj : j < l.length) {b : Bool}
    (h0 : Evt (fun k => spec_l19Fits.l0 k l ((j + 1 : Nat) : Int) A B C) (!b)) : ∀ (m i : Nat), i + m = j → Evt (fun k => spec_l19Fits.l1 k l (j : Int) (i : Int) A B C) (!(inn (clash A B C l) j i m || b))
  | 0, i, hi => by
    have hl := hm.len
    refine (h0.congr fun _ => rfl).step fun k => ?_
    rw [fl1_done _ _ _ _ _ _ _ (by omega), w64 (by omega) (by omega)]
    rfl
  | m + 1, i, hi => by
    have hl := hm.len
    have ih := fits_l1 h hm hj h0 m (i + 1) (by omega)
    have hw : wrap64 ((i : Int) + 1) = ((i + 1 : Nat) : Int) := w64 (by omega) (by omega)
    have hxi := hm.x i (by omega); have hyi := hm.y i (by omega)
    have hxj := hm.x j (by omega); have hyj := hm.y j (by omega)
    have ea : spec_l03Number.f A B C (rd_T45 l i).f0.f0 (rd_T45 l i).f0.f1 = some (mnum A B C l i) := spec_number_eq h (by omega) (by omega) (by omega) (by omega)
    have eb : spec_l03Number.f A B C (rd_T45 l j).f0.f0 (rd_T45 l j).f0.f1 = some (mnum A B C l j) := spec_number_eq h (by omega) (by omega) (by omega) (by omega)
    by_cases hc : (rd_T45 l i).f1 = (rd_T45 l j).f1
    · rw [show inn (clash A B C l) j i (m + 1) = inn (clash A B C l) j (i + 1) m by simp [inn, clash, hc]]
      refine ih.step fun k => ?_
      have e := fl1_same k l (j : Int) (i : Int) A B C (by omega) (by omega) (by omega) (by omega) (by omega) hc
      rw [hw] at e
      exact e
    · by_cases he : mnum A B C l i = mnum A B C l j
      · rw [show inn (clash A B C l) j i (m + 1) = true by simp [inn, clash, hc, he]]
        refine (Evt.pure _).step fun k => ?_
        have e := fl1_diff k l (j : Int) (i : Int) A B C (by omega) (by omega) (by omega) (by omega) (by omega) hc ea eb
        rw [if_pos he] at e
        exact e
      · rw [show inn (clash A B C l) j i (m + 1) = inn (clash A B C l) j (i + 1) m by simp [inn, clash, he]]
        refine ih.step fun k => ?_
        have e := fl1_diff k l (j : Int) (i : Int) A B C (by omega) (by omega) (by omega) (by omega) (by omega) hc ea eb
        rw [if_neg he, hw] at e
        exact e
theorem fits_l0 {A B C : Int} (h : LatOK A B C) {l : List S45} (hm : MarksOK l) : ∀ (m j : Nat), j + m = l.length → Evt (fun k => spec_l19Fits.l0 k l (j : Int) A B C) (!out (clash A B C l) j m)
  | 0, j, hj => (Evt.pure _).step fun k => fl0_done _ _ _ _ _ _ (by omega)
  | m + 1, j, hj => by
    have ih := fits_l0 h hm m (j + 1) (by omega)
    exact (fits_l1 h hm (j := j) (by omega) ih j 0 (by omega)).step fun k => fl0_round _ _ _ _ _ _ (by omega)
theorem fits_ev {A B C : Int} (h : LatOK A B C) {l : List S45} (hm : MarksOK l) : Evt (fun k => spec_l19Fits.f k A B C l) (!out (clash A B C l) 0 l.length) := fits_l0 h hm l.length 0 (by omega)
end Go.Proofs.Ytoajccbmikmjdaa.Y

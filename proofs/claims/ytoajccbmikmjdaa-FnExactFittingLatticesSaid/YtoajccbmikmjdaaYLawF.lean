import Derived.Test.YtoajccbmikmjdaaYLawL
set_option linter.unusedVariables false
namespace Go.Proofs.Ytoajccbmikmjdaa.Y
open Go.RowKit Go.Proofs.YtoajccbmikmjdaaX Go.Proofs.Ytoajccbmikmjdaa.X Go.Proofs.YtoajccbmikmjdaaW.PrintWords Go.Proofs.YtoajccbmikmjdaaW.PrintLast Go.Proofs.YtoajccbmikmjdaaW.PrintMore

theorem eqLat_self (x : S25) : laws_eqLattice.f x.f0 x.f1 x.f2 x.f0 x.f1 x.f2 = some true := by
  unfold laws_eqLattice.f
  simp
theorem eqLats_l0 {l : List S25} (hl : l.length ≤ 1048576) : ∀ (m i : Nat), i + m = l.length → Evt (fun k => laws_eqLatticeS.l0 k l l (i : Int)) true
  | 0, i, hi => (Evt.pure _).step fun k => by simp only [laws_eqLatticeS.l0]; rw [if_neg (by omega)]
  | m + 1, i, hi => by
    have hw : wrap64 ((i : Int) + 1) = ((i + 1 : Nat) : Int) := w64 (by omega) (by omega)
    refine (eqLats_l0 hl m (i + 1) (by omega)).step fun k => ?_
    simp only [laws_eqLatticeS.l0]
    rw [if_pos (by omega), if_pos (by omega), if_pos (by omega), eqLat_self, Option.bind_some, if_pos rfl, hw]
theorem eqLats_ev {l : List S25} (hl : l.length ≤ 1048576) : Evt (fun k => laws_eqLatticeS.f k l l) true :=
  (eqLats_l0 hl l.length 0 (by omega)).congr fun k => by unfold laws_eqLatticeS.f; rw [if_pos rfl]; rfl
theorem markMs_l0 : ∀ (m i : Nat) (x0 : List S45), i + m = x0.length → x0.length ≤ 1048576 → ∃ v : List S45, Evt (fun k => laws_markMarkS.l0 k x0 (1 + 3 * (i : Int)) (i : Int)) (1 + 3 * (x0.length : Int), v)
  | 0, i, x0, hi, hl => ⟨x0, (Evt.pure _).step fun k => by simp only [laws_markMarkS.l0]; rw [if_neg (by omega), show (i : Int) = (x0.length : Int) by omega]⟩
  | m + 1, i, x0, hi, hl => by
    have h1 : wrap64 ((1 + 3 * (i : Int)) + 1) = 1 + 3 * (i : Int) + 1 := w64 (by omega) (by omega)
    have h2 : wrap64 ((1 + 3 * (i : Int) + 1) + 1) = 1 + 3 * (i : Int) + 1 + 1 := w64 (by omega) (by omega)
    have h3 : wrap64 ((1 + 3 * (i : Int) + 1 + 1) + 1) = 1 + 3 * ((i + 1 : Nat) : Int) := by rw [w64 (by omega) (by omega)]; omega
    have hw : wrap64 ((i : Int) + 1) = ((i + 1 : Nat) : Int) := w64 (by omega) (by omega)
    have hk := markMs_l0 m (i + 1)
    have e2 : ∃ y : List S45, y.length = x0.length ∧ ∀ k, laws_markMarkS.l0 (k + 1) x0 (1 + 3 * (i : Int)) (i : Int) = laws_markMarkS.l0 k y (1 + 3 * ((i + 1 : Nat) : Int)) ((i + 1 : Nat) : Int) := by
      refine Exists.intro ?w (And.intro ?a ?b)
      case b =>
        intro k
        simp only [laws_markMarkS.l0, Option.bind_some]
        rw [if_pos (by omega), if_pos (by omega), h1, h2, h3, hw]
      case a => simp
    obtain ⟨y, hy, e2⟩ := e2
    obtain ⟨v, hv⟩ := hk y (by omega) (by omega)
    rw [hy] at hv
    exact ⟨v, hv.step e2⟩
theorem markMs_ev {l : List S45} (hl : l.length ≤ 1048576) : ∃ v : List S45, Evt (fun k => laws_markMarkS.f k l 1) (1 + 3 * (l.length : Int), v) := markMs_l0 l.length 0 l (by omega) hl

def mkL (i : Nat) : S25 := ⟨1 + 3 * (i : Int), 2 + 3 * (i : Int), 3 + 3 * (i : Int)⟩
def mkd (n : Nat) : List S25 := (List.range n).map mkL
theorem mkd_len (n : Nat) : (mkd n).length = n := by simp [mkd]
theorem mkd_rd (n i : Nat) (h : i < n) : rd_T25 (mkd n) (i : Int) = mkL i := by
  rw [rd25 _ i (by rw [mkd_len]; exact h)]
  simp [mkd]
theorem set3 {l : List S25} {n i : Nat} {a b c : S25} (hl : l.length = n) (hi : i < n) : ((((mkd i ++ l.drop i).set i a).set i b).set i c) = mkd i ++ [c] ++ l.drop (i + 1) := by
  rw [List.drop_eq_getElem_cons (by omega), List.set_append_right _ _ (by rw [mkd_len]; omega), mkd_len, Nat.sub_self, List.set_cons_zero,
    List.set_append_right _ _ (by rw [mkd_len]; omega), mkd_len, Nat.sub_self, List.set_cons_zero, List.set_append_right _ _ (by rw [mkd_len]; omega), mkd_len, Nat.sub_self, List.set_cons_zero, List.append_assoc]
  rfl
theorem rd_set (l : List S25) (i : Nat) (a : S25) (h : i < l.length) : rd_T25 (l.set i a) (i : Int) = a := by
  rw [rd25 _ i (by rw [List.length_set]; exact h)]
  simp
theorem markLs_l0 {l : List S25} (hl : l.length ≤ 1048576) : ∀ (m i : Nat), i + m = l.length → Evt (fun k => laws_markLatticeS.l0 k (mkd i ++ l.drop i) (1 + 3 * (i : Int)) (i : Int)) (1 + 3 * (l.length : Int), mkd l.length)
  | 0, i, hi => by
    obtain rfl : i = l.length := by omega
    exact (Evt.pure _).step fun k => by simp only [laws_markLatticeS.l0]; rw [if_neg (by rw [List.length_append, mkd_len, List.length_drop]; omega)]; simp
  | m + 1, i, hi => by
    have h1 : wrap64 ((1 + 3 * (i : Int)) + 1) = 1 + 3 * (i : Int) + 1 := w64 (by omega) (by omega)
    have h2 : wrap64 ((1 + 3 * (i : Int) + 1) + 1) = 1 + 3 * (i : Int) + 1 + 1 := w64 (by omega) (by omega)
    have h3 : wrap64 ((1 + 3 * (i : Int) + 1 + 1) + 1) = 1 + 3 * ((i + 1 : Nat) : Int) := by rw [w64 (by omega) (by omega)]; omega
    have hw : wrap64 ((i : Int) + 1) = ((i + 1 : Nat) : Int) := w64 (by omega) (by omega)
    have hlen : (mkd i ++ l.drop i).length = l.length := by rw [List.length_append, mkd_len, List.length_drop]; omega
    refine (markLs_l0 hl m (i + 1) (by omega)).step fun k => ?_
    simp only [laws_markLatticeS.l0, Option.bind_some, Int.toNat_natCast]
    rw [if_pos (by rw [hlen]; omega), if_pos (by omega), h1, h2, h3, hw, rd_set _ _ _ (by rw [hlen]; omega), rd_set _ _ _ (by rw [List.length_set, hlen]; omega), set3 rfl (by omega)]
    congr 1
    unfold mkd
    rw [List.range_succ, List.map_append]
    congr 2
    simp only [List.map_cons, List.map_nil, mkL]
    congr 2 <;> omega
theorem markLs_ev {l : List S25} (hl : l.length ≤ 1048576) : Evt (fun k => laws_markLatticeS.f k l 1) (1 + 3 * (l.length : Int), mkd l.length) := markLs_l0 hl l.length 0 (by omega)
theorem heldLs_l0 {n : Nat} (hl : n ≤ 1048576) : ∀ (m i : Nat), i + m = n → Evt (fun k => laws_heldLatticeS.l0 k (mkd n) (1 + 3 * (i : Int)) (i : Int)) (1 + 3 * (n : Int))
  | 0, i, hi => by
    obtain rfl : i = n := by omega
    exact (Evt.pure _).step fun k => by simp only [laws_heldLatticeS.l0]; rw [if_neg (by rw [mkd_len]; omega)]
  | m + 1, i, hi => by
    have h1 : wrap64 ((1 + 3 * (i : Int)) + 1) = 1 + 3 * (i : Int) + 1 := w64 (by omega) (by omega)
    have h2 : wrap64 ((1 + 3 * (i : Int) + 1) + 1) = 1 + 3 * (i : Int) + 1 + 1 := w64 (by omega) (by omega)
    have h3 : wrap64 ((1 + 3 * (i : Int) + 1 + 1) + 1) = 1 + 3 * ((i + 1 : Nat) : Int) := by rw [w64 (by omega) (by omega)]; omega
    have hw : wrap64 ((i : Int) + 1) = ((i + 1 : Nat) : Int) := w64 (by omega) (by omega)
    refine (heldLs_l0 hl m (i + 1) (by omega)).step fun k => ?_
    simp only [laws_heldLatticeS.l0]
    rw [if_pos (by rw [mkd_len]; omega), if_pos (by omega), h1, h2, h3, hw, mkd_rd n i (by omega), if_pos (show (mkL i).f0 = 1 + 3 * (i : Int) from rfl), if_pos (by simp only [mkL]; omega), if_pos (by simp only [mkL]; omega)]
theorem heldLs_ev {n : Nat} (hl : n ≤ 1048576) : Evt (fun k => laws_heldLatticeS.f k (mkd n) 1) (1 + 3 * (n : Int)) := heldLs_l0 hl n 0 (by omega)

/-- What both answer. -/
def fitting (l : List S45) (n : Int) : List S25 × Int := if marksB l = true then if (decide (1 ≤ n) && decide (n ≤ 64)) = true then (fitL l n, 0) else ([], 2) else ([], 2)
theorem impl_fitting {l : List S45} (n : Int) (hl : l.length ≤ 1048576) : Evt (fun k => impl_FittingLattices.f k l n) (fitting l n) := by
  refine Evt.bind (g := fun k t => if t = true then ((impl_within.f n 1 64).bind fun t401 => (if t401 = true then ((impl_fittingLattices.f k l n).bind fun t402 => (some (t402, 0))) else (some (([] : List (S25)), 2)))) else (some (([] : List (S25)), 2))) (impl_marks hl) (Evt.ite (fun h => ?_) (fun _ => Evt.pure _))
  refine Evt.bind0 (g := fun k t401 => if t401 = true then ((impl_fittingLattices.f k l n).bind fun t402 => (some (t402, 0))) else (some (([] : List (S25)), 2))) (impl_in n 1 64) (Evt.ite (fun h2 => ?_) (fun _ => Evt.pure _))
  simp only [Bool.and_eq_true, decide_eq_true_eq] at h2
  exact Evt.bind (g := fun k t402 => some (t402, 0)) (impl_fit (marks_ok h) h2.1 h2.2) (Evt.pure _)
theorem spec_fitting {l : List S45} (n : Int) (hl : l.length ≤ 1048576) : Evt (fun k => spec_FittingLattices.f k l n) (fitting l n) := by
  refine Evt.bind (g := fun k t => if t = true then ((spec_l01In.f n 1 64).bind fun t401 => (if t401 = true then ((spec_l19Lattices.f k l n).bind fun t402 => (some (t402, 0))) else (some (([] : List (S25)), 2)))) else (some (([] : List (S25)), 2))) (spec_marks hl) (Evt.ite (fun h => ?_) (fun _ => Evt.pure _))
  refine Evt.bind0 (g := fun k t401 => if t401 = true then ((spec_l19Lattices.f k l n).bind fun t402 => (some (t402, 0))) else (some (([] : List (S25)), 2))) (spec_in n 1 64) (Evt.ite (fun h2 => ?_) (fun _ => Evt.pure _))
  simp only [Bool.and_eq_true, decide_eq_true_eq] at h2
  exact Evt.bind (g := fun k t402 => some (t402, 0)) (spec_fit (marks_ok h) h2.1 h2.2) (Evt.pure _)
theorem fitting_len (l : List S45) (n : Int) : (fitting l n).1.length ≤ 1048576 := by
  unfold fitting
  split
  · split
    · rename_i h2
      simp only [Bool.and_eq_true, decide_eq_true_eq] at h2
      have := sub_len h2.1 h2.2
      have h3 : (fitL l n).length ≤ (subL n 1 n.toNat).length := List.length_filter_le _ _
      show (fitL l n).length ≤ _
      omega
    · simp
  · simp

theorem fitting_true (l : List S49) (n : Int) (hl : l.length ≤ 9000000000000) : ∃ k, laws_FnExactFittingLattices.f k l n = some true := by
  apply Evt.get
  have hsz : laws_szMarkS.f l 1048576 = some (if 1048576 - (l.length : Int) < 0 then -1 else 1048576 - (l.length : Int)) := by
    unfold laws_szMarkS.f
    rw [w64 (by omega) (by omega)]
    split <;> rfl
  by_cases h : l.length ≤ 1048576
  · rw [if_neg (by omega)] at hsz
    have h2 : (l.map cv).length ≤ 1048576 := by rw [List.length_map]; exact h
    have ht := toMark_ev h
    generalize hF : fitting (l.map cv) n = F
    have hi : Evt (fun k => impl_FittingLattices.f k (l.map cv) n) F := hF ▸ impl_fitting n h2
    have hs : Evt (fun k => spec_FittingLattices.f k (l.map cv) n) F := hF ▸ spec_fitting n h2
    have hFl : F.1.length ≤ 1048576 := hF ▸ fitting_len (l.map cv) n
    obtain ⟨v, hv⟩ := markMs_ev h2
    have b3 : ((1 + 3 * (F.1.length : Int)) < 0) = False := eq_false (by omega)
    have b4 : ((1 + 3 * ((l.map cv).length : Int)) < 0) = False := eq_false (by omega)
    have j2 : Evt (fun k => laws_FnExactFittingLattices.j2 k (mkd F.1.length) (1 + 3 * (F.1.length : Int)) (F.2 != F.2)) true := by
      have := Evt.bind (g := fun k t => if t < 0 then some false else if t = 1 + 3 * (F.1.length : Int) then some true else some false) (heldLs_ev hFl) ((Evt.pure true).congr fun k => by simp only [b3, if_false, if_true])
      exact this.step fun k => by simp only [laws_FnExactFittingLattices.j2]; rw [if_neg (by simp)]
    have j1 : Evt (fun k => laws_FnExactFittingLattices.j1 k l n F.1 F.2 F.1 (F.2 != F.2)) true := by
      have h4 := Evt.bind (g := fun k t => if t = true then laws_FnExactFittingLattices.j2 k (mkd F.1.length) (1 + 3 * (F.1.length : Int)) (F.2 != F.2) else laws_FnExactFittingLattices.j2 k (mkd F.1.length) (1 + 3 * (F.1.length : Int)) true) (eqLats_ev hFl) (j2.congr fun k => if_pos rfl)
      have h5 := Evt.bind (g := fun k b => (laws_eqLatticeS.f k b.1 F.1).bind fun t => if t = true then laws_FnExactFittingLattices.j2 k (mkd F.1.length) (1 + 3 * (F.1.length : Int)) (b.2 != F.2) else laws_FnExactFittingLattices.j2 k (mkd F.1.length) (1 + 3 * (F.1.length : Int)) true) hi h4
      have h6 := Evt.bind (g := fun k t => (impl_FittingLattices.f k t n).bind fun b => (laws_eqLatticeS.f k b.1 F.1).bind fun t => if t = true then laws_FnExactFittingLattices.j2 k (mkd F.1.length) (1 + 3 * (F.1.length : Int)) (b.2 != F.2) else laws_FnExactFittingLattices.j2 k (mkd F.1.length) (1 + 3 * (F.1.length : Int)) true) ht h5
      have h7 := Evt.bind (g := fun k t => if t < 0 then some false else if t = 1 + 3 * (F.1.length : Int) then ((laws_toMarkS.f k l).bind fun t => (impl_FittingLattices.f k t n).bind fun b => (laws_eqLatticeS.f k b.1 F.1).bind fun t => if t = true then laws_FnExactFittingLattices.j2 k (mkd F.1.length) (1 + 3 * (F.1.length : Int)) (b.2 != F.2) else laws_FnExactFittingLattices.j2 k (mkd F.1.length) (1 + 3 * (F.1.length : Int)) true) else some false) (heldLs_ev hFl) (h6.congr fun k => by simp only [b3, if_false, if_true])
      have h8 := Evt.bind (g := fun k b => (laws_heldLatticeS.f k b.2 1).bind fun t => if t < 0 then some false else if t = b.1 then ((laws_toMarkS.f k l).bind fun t => (impl_FittingLattices.f k t n).bind fun c => (laws_eqLatticeS.f k c.1 F.1).bind fun t => if t = true then laws_FnExactFittingLattices.j2 k b.2 b.1 (c.2 != F.2) else laws_FnExactFittingLattices.j2 k b.2 b.1 true) else some false) (markLs_ev hFl) h7
      exact h8.step fun k => by simp only [laws_FnExactFittingLattices.j1]; rw [if_neg (by simp)]
    have j0 : Evt (fun k => laws_FnExactFittingLattices.j0 k l n F.1 F.2 (l.map cv) F.1 F.2 (F.2 != F.2)) true := by
      have h4 := Evt.bind (g := fun k t => if t = true then laws_FnExactFittingLattices.j1 k l n F.1 F.2 F.1 (F.2 != F.2) else laws_FnExactFittingLattices.j1 k l n F.1 F.2 F.1 true) (eqLats_ev hFl) (j1.congr fun k => if_pos rfl)
      have h5 := Evt.bind (g := fun k b => if b.1 < 0 then laws_FnExactFittingLattices.j1 k l n F.1 F.2 F.1 true else (laws_eqLatticeS.f k F.1 F.1).bind fun t => if t = true then laws_FnExactFittingLattices.j1 k l n F.1 F.2 F.1 (F.2 != F.2) else laws_FnExactFittingLattices.j1 k l n F.1 F.2 F.1 true) hv (h4.congr fun k => by simp only [b4, if_false])
      have h6 := Evt.bind (g := fun k t => if t = true then (laws_markMarkS.f k (l.map cv) 1).bind fun b => if b.1 < 0 then laws_FnExactFittingLattices.j1 k l n F.1 F.2 F.1 true else (laws_eqLatticeS.f k F.1 F.1).bind fun t => if t = true then laws_FnExactFittingLattices.j1 k l n F.1 F.2 F.1 (F.2 != F.2) else laws_FnExactFittingLattices.j1 k l n F.1 F.2 F.1 true else some false) (eqMarks_ev h2) (h5.congr fun k => if_pos rfl)
      have h7 := Evt.bind (g := fun k t => (laws_eqMarkS.f k (l.map cv) t).bind fun t => if t = true then (laws_markMarkS.f k (l.map cv) 1).bind fun b => if b.1 < 0 then laws_FnExactFittingLattices.j1 k l n F.1 F.2 F.1 true else (laws_eqLatticeS.f k F.1 F.1).bind fun t => if t = true then laws_FnExactFittingLattices.j1 k l n F.1 F.2 F.1 (F.2 != F.2) else laws_FnExactFittingLattices.j1 k l n F.1 F.2 F.1 true else some false) ht h6
      exact h7.step fun k => by simp only [laws_FnExactFittingLattices.j0]; rw [if_neg (by simp)]
    have h4 := Evt.bind (g := fun k t => if t = true then laws_FnExactFittingLattices.j0 k l n F.1 F.2 (l.map cv) F.1 F.2 (F.2 != F.2) else laws_FnExactFittingLattices.j0 k l n F.1 F.2 (l.map cv) F.1 F.2 true) (eqLats_ev hFl) (j0.congr fun k => if_pos rfl)
    have h5 := Evt.bind (g := fun k b => (laws_eqLatticeS.f k b.1 F.1).bind fun t => if t = true then laws_FnExactFittingLattices.j0 k l n F.1 F.2 (l.map cv) b.1 b.2 (b.2 != F.2) else laws_FnExactFittingLattices.j0 k l n F.1 F.2 (l.map cv) b.1 b.2 true) hi h4
    have h6 := Evt.bind (g := fun k t => (impl_FittingLattices.f k t n).bind fun b => (laws_eqLatticeS.f k b.1 F.1).bind fun t2 => if t2 = true then laws_FnExactFittingLattices.j0 k l n F.1 F.2 t b.1 b.2 (b.2 != F.2) else laws_FnExactFittingLattices.j0 k l n F.1 F.2 t b.1 b.2 true) ht h5
    have h7 := Evt.bind (g := fun k c => (laws_toMarkS.f k l).bind fun t => (impl_FittingLattices.f k t n).bind fun b => (laws_eqLatticeS.f k b.1 c.1).bind fun t2 => if t2 = true then laws_FnExactFittingLattices.j0 k l n c.1 c.2 t b.1 b.2 (b.2 != c.2) else laws_FnExactFittingLattices.j0 k l n c.1 c.2 t b.1 b.2 true) hs h6
    have h8 := Evt.bind (g := fun k t => (spec_FittingLattices.f k t n).bind fun c => (laws_toMarkS.f k l).bind fun t => (impl_FittingLattices.f k t n).bind fun b => (laws_eqLatticeS.f k b.1 c.1).bind fun t2 => if t2 = true then laws_FnExactFittingLattices.j0 k l n c.1 c.2 t b.1 b.2 (b.2 != c.2) else laws_FnExactFittingLattices.j0 k l n c.1 c.2 t b.1 b.2 true) ht h7
    refine h8.congr fun k => ?_
    unfold laws_FnExactFittingLattices.f
    rw [hsz, Option.bind_some, if_neg (by omega)]
  · rw [if_pos (by omega)] at hsz
    refine (Evt.pure true).congr fun k => ?_
    unfold laws_FnExactFittingLattices.f
    rw [hsz, Option.bind_some, if_pos (by omega)]
end Go.Proofs.Ytoajccbmikmjdaa.Y

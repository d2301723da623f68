import Derived.Test.YtoajccbmikmjdaaYFit
set_option linter.unusedVariables false
namespace Go.Proofs.Ytoajccbmikmjdaa.Y
open Go.RowKit Go.Proofs.YtoajccbmikmjdaaX Go.Proofs.Ytoajccbmikmjdaa.X Go.Proofs.YtoajccbmikmjdaaW.PrintWords Go.Proofs.YtoajccbmikmjdaaW.PrintLast Go.Proofs.YtoajccbmikmjdaaW.PrintMore

def cv (x : S49) : S45 := ⟨⟨x.f0.f0, x.f0.f1⟩, x.f1⟩
theorem rd49 (l : List S49) (i : Nat) (h : i < l.length) : rd_T49 l (i : Int) = l[i] := by
  unfold rd_T49
  rw [Int.toNat_natCast, List.getD_eq_getElem?_getD, List.getElem?_eq_getElem h]
  rfl
theorem toMark_l0 {l : List S49} (hl : l.length ≤ 1048576) : ∀ (m i : Nat), i + m = l.length → Evt (fun k => laws_toMarkS.l0 k l ((l.take i).map cv ++ List.replicate m z45) (i : Int)) (l.map cv)
  | 0, i, hi => by
    refine (Evt.pure _).step fun k => ?_
    simp only [laws_toMarkS.l0]
    rw [if_neg (by omega), List.take_of_length_le (by omega)]
    simp
  | m + 1, i, hi => by
    have hil : i < l.length := by omega
    have hr := rd49 l i hil
    have hw : wrap64 ((i : Int) + 1) = ((i + 1 : Nat) : Int) := w64 (by omega) (by omega)
    have hlen : ((l.take i).map cv).length = i := by rw [List.length_map, List.length_take]; omega
    refine (toMark_l0 hl m (i + 1) (by omega)).step fun k => ?_
    simp only [laws_toMarkS.l0, laws_toMark.f, laws_toVec.f, Option.bind_some]
    rw [if_pos (by omega), if_pos (by omega), if_pos (by rw [List.length_append, hlen, List.length_replicate]; omega), hr, hw, Int.toNat_natCast]
    congr 1
    rw [List.replicate_succ, List.set_append_right _ _ (by omega), hlen, Nat.sub_self, List.set_cons_zero, List.take_add_one, List.getElem?_eq_getElem hil, List.map_append, List.append_assoc]
    rfl
theorem toMark_ev {l : List S49} (hl : l.length ≤ 1048576) : Evt (fun k => laws_toMarkS.f k l) (l.map cv) := by
  have h := toMark_l0 hl l.length 0 (by omega)
  refine h.congr fun k => ?_
  unfold laws_toMarkS.f
  rw [if_pos (by omega), if_pos (by omega), Int.toNat_natCast]
  rfl
theorem eqMark_self (x : S45) : laws_eqMark.f x.f0.f0 x.f0.f1 x.f1 x.f0.f0 x.f0.f1 x.f1 = some true := by
  unfold laws_eqMark.f laws_eqVec.f
  simp
theorem eqMarks_l0 {l : List S45} (hl : l.length ≤ 1048576) : ∀ (m i : Nat), i + m = l.length → Evt (fun k => laws_eqMarkS.l0 k l l (i : Int)) true
  | 0, i, hi => (Evt.pure _).step fun k => by simp only [laws_eqMarkS.l0]; rw [if_neg (by omega)]
  | m + 1, i, hi => by
    have hw : wrap64 ((i : Int) + 1) = ((i + 1 : Nat) : Int) := w64 (by omega) (by omega)
    refine (eqMarks_l0 hl m (i + 1) (by omega)).step fun k => ?_
    simp only [laws_eqMarkS.l0]
    rw [if_pos (by omega), if_pos (by omega), if_pos (by omega), eqMark_self, Option.bind_some, if_pos rfl, hw]
theorem eqMarks_ev {l : List S45} (hl : l.length ≤ 1048576) : Evt (fun k => laws_eqMarkS.f k l l) true :=
  (eqMarks_l0 hl l.length 0 (by omega)).congr fun k => by unfold laws_eqMarkS.f; rw [if_pos rfl]; rfl

theorem least_true (l : List S49) (hl : l.length ≤ 9000000000000) : ∃ k, laws_FnExactLeastFitting.f k l = some true := by
  apply Evt.get
  have hsz : laws_szMarkS.f l 1048576 = some (if 1048576 - (l.length : Int) < 0 then -1 else 1048576 - (l.length : Int)) := by
    unfold laws_szMarkS.f
    rw [w64 (by omega) (by omega)]
    split <;> rfl
  by_cases h : l.length ≤ 1048576
  · rw [if_neg (by omega)] at hsz
    have h2 : (l.map cv).length ≤ 1048576 := by rw [List.length_map]; exact h
    have ht := toMark_ev h
    have h0 : Evt (fun k => laws_FnExactLeastFitting.j0 k l (l.map cv) ((least (l.map cv)).2.2.2 != (least (l.map cv)).2.2.2)) true := by
      have h3 := Evt.bind (g := fun k t => (laws_eqMarkS.f k (l.map cv) t).bind fun t => if t = true then some true else some false) ht
        (Evt.bind (g := fun k t => if t = true then some true else some false) (eqMarks_ev h2) (Evt.pure true))
      exact h3.step fun k => by
        simp only [laws_FnExactLeastFitting.j0]
        rw [if_neg (by simp)]
    have hq : ∀ a b c : Int, laws_eqLattice.f a b c a b c = some true := fun a b c => by
      unfold laws_eqLattice.f
      simp
    have h4 : Evt (fun k => (laws_toMarkS.f k l).bind fun t374 => (spec_LeastFitting.f k t374).bind fun bt377 => (laws_toMarkS.f k l).bind fun t382 => (impl_LeastFitting.f k t382).bind fun bt385 =>
        (laws_eqLattice.f bt385.1 bt385.2.1 bt385.2.2.1 bt377.1 bt377.2.1 bt377.2.2.1).bind fun t390 => if t390 = true then laws_FnExactLeastFitting.j0 k l t382 (bt385.2.2.2 != bt377.2.2.2) else laws_FnExactLeastFitting.j0 k l t382 true) true := by
      refine Evt.bind (g := fun k t374 => (spec_LeastFitting.f k t374).bind fun bt377 => (laws_toMarkS.f k l).bind fun t382 => (impl_LeastFitting.f k t382).bind fun bt385 =>
        (laws_eqLattice.f bt385.1 bt385.2.1 bt385.2.2.1 bt377.1 bt377.2.1 bt377.2.2.1).bind fun t390 => if t390 = true then laws_FnExactLeastFitting.j0 k l t382 (bt385.2.2.2 != bt377.2.2.2) else laws_FnExactLeastFitting.j0 k l t382 true) ht ?_
      refine Evt.bind (g := fun k bt377 => (laws_toMarkS.f k l).bind fun t382 => (impl_LeastFitting.f k t382).bind fun bt385 =>
        (laws_eqLattice.f bt385.1 bt385.2.1 bt385.2.2.1 bt377.1 bt377.2.1 bt377.2.2.1).bind fun t390 => if t390 = true then laws_FnExactLeastFitting.j0 k l t382 (bt385.2.2.2 != bt377.2.2.2) else laws_FnExactLeastFitting.j0 k l t382 true) (spec_least h2) ?_
      refine Evt.bind (g := fun k t382 => (impl_LeastFitting.f k t382).bind fun bt385 =>
        (laws_eqLattice.f bt385.1 bt385.2.1 bt385.2.2.1 (least (l.map cv)).1 (least (l.map cv)).2.1 (least (l.map cv)).2.2.1).bind fun t390 => if t390 = true then laws_FnExactLeastFitting.j0 k l t382 (bt385.2.2.2 != (least (l.map cv)).2.2.2) else laws_FnExactLeastFitting.j0 k l t382 true) ht ?_
      refine Evt.bind (g := fun k bt385 => (laws_eqLattice.f bt385.1 bt385.2.1 bt385.2.2.1 (least (l.map cv)).1 (least (l.map cv)).2.1 (least (l.map cv)).2.2.1).bind fun t390 => if t390 = true then laws_FnExactLeastFitting.j0 k l (l.map cv) (bt385.2.2.2 != (least (l.map cv)).2.2.2) else laws_FnExactLeastFitting.j0 k l (l.map cv) true) (impl_least h2) ?_
      exact Evt.bind0 (g := fun k t390 => if t390 = true then laws_FnExactLeastFitting.j0 k l (l.map cv) ((least (l.map cv)).2.2.2 != (least (l.map cv)).2.2.2) else laws_FnExactLeastFitting.j0 k l (l.map cv) true) (hq _ _ _) h0
    refine h4.congr fun k => ?_
    unfold laws_FnExactLeastFitting.f
    rw [hsz, Option.bind_some, if_neg (by omega)]
  · rw [if_pos (by omega)] at hsz
    refine (Evt.pure true).congr fun k => ?_
    unfold laws_FnExactLeastFitting.f
    rw [hsz, Option.bind_some, if_pos (by omega)]
end Go.Proofs.Ytoajccbmikmjdaa.Y

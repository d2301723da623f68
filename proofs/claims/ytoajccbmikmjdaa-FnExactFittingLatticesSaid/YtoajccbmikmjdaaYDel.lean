import Derived.Test.YtoajccbmikmjdaaYLat
set_option linter.unusedVariables false
namespace Go.Proofs.Ytoajccbmikmjdaa.Y
open Go.RowKit Go.Proofs.YtoajccbmikmjdaaX Go.Proofs.Ytoajccbmikmjdaa.X Go.Proofs.YtoajccbmikmjdaaW.PrintWords Go.Proofs.YtoajccbmikmjdaaW.PrintLast Go.Proofs.YtoajccbmikmjdaaW.PrintMore

section
variable (k : Nat) (x0 : List S25) (pf : Int → Int → Int → Option Bool) (x7 x8 x5 x6 : Int)
theorem ix_done (h : ¬ x8 < x7) : impl_Lattice_42.l0 (k + 1) x0 pf x7 x8 = some (-1) := by
  simp only [impl_Lattice_42.l0]
  rw [if_neg h]
theorem ix_round {b : Bool} (h : x8 < x7) (h0 : 0 ≤ x8) (h1 : x8 < (x0.length : Int)) (hb : pf (rd_T25 x0 x8).f0 (rd_T25 x0 x8).f1 (rd_T25 x0 x8).f2 = some b) : impl_Lattice_42.l0 (k + 1) x0 pf x7 x8 = if b = true then some x8 else impl_Lattice_42.l0 k x0 pf x7 (wrap64 (x8 + 1)) := by
  simp only [impl_Lattice_42.l0]
  rw [if_pos h, if_pos h0, if_pos h1, hb, Option.bind_some]
theorem de_done (h : ¬ x6 < (x0.length : Int)) (h0 : 0 ≤ x5) (h1 : x5 ≤ (x0.length : Int)) : impl_Lattice_34.l0 (k + 1) x0 pf x5 x6 = some (x0.take x5.toNat) := by
  simp only [impl_Lattice_34.l0]
  rw [if_neg h, if_pos h0, if_pos h1]
  congr 1
  rw [List.take_append_of_le_length (by rw [List.length_take]; omega), List.take_take, Nat.min_self]
theorem de_skip (h : x6 < (x0.length : Int)) (h0 : 0 ≤ x6) (hb : pf (rd_T25 x0 x6).f0 (rd_T25 x0 x6).f1 (rd_T25 x0 x6).f2 = some true) : impl_Lattice_34.l0 (k + 1) x0 pf x5 x6 = impl_Lattice_34.l0 k x0 pf x5 (wrap64 (x6 + 1)) := by
  simp only [impl_Lattice_34.l0]
  rw [if_pos h, if_pos h0, hb, Option.bind_some, if_pos rfl]
theorem de_put (h : x6 < (x0.length : Int)) (h0 : 0 ≤ x6) (hb : pf (rd_T25 x0 x6).f0 (rd_T25 x0 x6).f1 (rd_T25 x0 x6).f2 = some false) (h5 : 0 ≤ x5) (h6 : x5 < (x0.length : Int)) : impl_Lattice_34.l0 (k + 1) x0 pf x5 x6 = impl_Lattice_34.l0 k (x0.set x5.toNat (rd_T25 x0 x6)) pf (wrap64 (x5 + 1)) (wrap64 (x6 + 1)) := by
  simp only [impl_Lattice_34.l0]
  rw [if_pos h, if_pos h0, hb, Option.bind_some, if_neg (by simp), if_pos h5, if_pos h6]
end

theorem rd25 (l : List S25) (i : Nat) (h : i < l.length) : rd_T25 l (i : Int) = l[i] := by
  unfold rd_T25
  rw [Int.toNat_natCast, List.getD_eq_getElem?_getD, List.getElem?_eq_getElem h]
  rfl
/-- Where the predicate first holds, or -1. -/
theorem ix_ev {l : List S25} {q : S25 → Bool} {pf : Int → Int → Int → Option Bool} (hl : l.length ≤ 1000000) (hp : ∀ x ∈ l, pf x.f0 x.f1 x.f2 = some (q x)) : ∀ (m i : Nat), i + m = l.length → ∀ k, m < k →
    (impl_Lattice_42.l0 k l pf (l.length : Int) (i : Int) = some (-1) ∧ (l.drop i).all (fun x => !q x) = true) ∨ ∃ j : Nat, i ≤ j ∧ ∃ hj : j < l.length, impl_Lattice_42.l0 k l pf (l.length : Int) (i : Int) = some (j : Int) ∧ q l[j] = true ∧ ((l.drop i).take (j - i)).all (fun x => !q x) = true
  | 0, i, hi, k, hk => by
    obtain ⟨k, rfl⟩ : ∃ j, k = j + 1 := ⟨k - 1, by omega⟩
    exact .inl ⟨ix_done _ _ _ _ _ (by omega), by rw [List.drop_of_length_le (by omega)]; rfl⟩
  | m + 1, i, hi, k, hk => by
    obtain ⟨k, rfl⟩ : ∃ j, k = j + 1 := ⟨k - 1, by omega⟩
    have hil : i < l.length := by omega
    have hr := rd25 l i hil
    have e := ix_round k l pf (l.length : Int) (i : Int) (b := q l[i]) (by omega) (by omega) (by omega) (by rw [hr]; exact hp _ (List.getElem_mem hil))
    have hd : l.drop i = l[i] :: l.drop (i + 1) := List.drop_eq_getElem_cons hil
    cases hq : q l[i] with
    | true =>
      rw [hq, if_pos rfl] at e
      exact .inr ⟨i, Nat.le_refl _, hil, e, hq, by rw [Nat.sub_self, List.take_zero]; rfl⟩
    | false =>
      rw [hq, if_neg (by simp), w64 (by omega) (by omega)] at e
      rcases ix_ev hl hp m (i + 1) (by omega) k (by omega) with ⟨h1, h2⟩ | ⟨j, hij, hj, h1, h2, h3⟩
      · exact .inl ⟨e.trans h1, by rw [hd, List.all_cons, hq]; simpa using h2⟩
      · refine .inr ⟨j, by omega, hj, e.trans h1, h2, ?_⟩
        rw [hd, show j - i = (j - (i + 1)) + 1 by omega, List.take_succ_cons, List.all_cons, hq]
        simpa using h3

theorem de_ev {l : List S25} {q : S25 → Bool} {pf : Int → Int → Int → Option Bool} (hl : l.length ≤ 1000000) (hp : ∀ x ∈ l, pf x.f0 x.f1 x.f2 = some (q x)) : ∀ (m i j : Nat) (x0 : List S25), i + m = l.length → j ≤ i → x0.length = l.length → x0.drop i = l.drop i → ∀ k, m < k →
    impl_Lattice_34.l0 k x0 pf (j : Int) (i : Int) = some (x0.take j ++ (l.drop i).filter (fun x => !q x))
  | 0, i, j, x0, hi, hj, hx, hd, k, hk => by
    obtain ⟨k, rfl⟩ : ∃ j, k = j + 1 := ⟨k - 1, by omega⟩
    rw [de_done _ _ _ _ _ (by omega) (by omega) (by omega), List.drop_of_length_le (by omega), Int.toNat_natCast]
    simp
  | m + 1, i, j, x0, hi, hj, hx, hd, k, hk => by
    obtain ⟨k, rfl⟩ : ∃ j, k = j + 1 := ⟨k - 1, by omega⟩
    have hil : i < l.length := by omega
    have hdl : l.drop i = l[i] :: l.drop (i + 1) := List.drop_eq_getElem_cons hil
    have hdx : x0.drop i = x0[i] :: x0.drop (i + 1) := List.drop_eq_getElem_cons (by omega)
    rw [hdl, hdx] at hd
    injection hd with he hd
    have hr := rd25 x0 i (by omega)
    have hb : pf (rd_T25 x0 i).f0 (rd_T25 x0 i).f1 (rd_T25 x0 i).f2 = some (q l[i]) := by
      rw [hr, he]
      exact hp _ (List.getElem_mem hil)
    have hw : wrap64 ((i : Int) + 1) = ((i + 1 : Nat) : Int) := w64 (by omega) (by omega)
    have hw2 : wrap64 ((j : Int) + 1) = ((j + 1 : Nat) : Int) := w64 (by omega) (by omega)
    cases hq : q l[i] with
    | true =>
      rw [hq] at hb
      rw [de_skip _ _ _ _ _ (by omega) (by omega) hb, hw, de_ev hl hp m (i + 1) j x0 (by omega) (by omega) hx hd k (by omega), hdl, List.filter_cons]
      simp [hq]
    | false =>
      rw [hq] at hb
      rw [de_put _ _ _ _ _ (by omega) (by omega) hb (by omega) (by omega), hw, hw2, Int.toNat_natCast, de_ev hl hp m (i + 1) (j + 1) (x0.set j (rd_T25 x0 i)) (by omega) (by omega) (by rw [List.length_set]; exact hx) (by rw [List.drop_set_of_lt (by omega)]; exact hd) k (by omega), hdl, List.filter_cons]
      have ht : (x0.set j (rd_T25 x0 i)).take (j + 1) = x0.take j ++ [l[i]] := by
        rw [hr, he, List.take_add_one, List.take_set_of_le (by omega), List.getElem?_set_self (by omega)]
        rfl
      rw [ht]
      simp [hq]
theorem del_eq {l : List S25} {q : S25 → Bool} {pf : Int → Int → Int → Option Bool} (hl : l.length ≤ 1000000) (hp : ∀ x ∈ l, pf x.f0 x.f1 x.f2 = some (q x)) (k : Nat) (hk : l.length < k) : impl_Lattice_34.f k l pf = some (l.filter fun x => !q x) := by
  unfold impl_Lattice_34.f impl_Lattice_42.f
  rcases ix_ev hl hp l.length 0 (by omega) k hk with ⟨h1, h2⟩ | ⟨j, _, hj, h1, h2, h3⟩
  · have h1' : impl_Lattice_42.l0 k l pf (l.length : Int) 0 = some (-1) := h1
    rw [h1', Option.bind_some, if_pos rfl, List.filter_eq_self.2]
    intro x hx
    exact List.all_eq_true.1 h2 x (by simpa using hx)
  · have h1' : impl_Lattice_42.l0 k l pf (l.length : Int) 0 = some (j : Int) := h1
    rw [h1', Option.bind_some, if_neg (by omega), w64 (by omega) (by omega)]
    have e := de_ev hl hp (l.length - (j + 1)) (j + 1) j l (by omega) (by omega) rfl rfl k (by omega)
    refine Eq.trans e ?_
    congr 1
    have hs : l.filter (fun x => !q x) = (l.take (j + 1) ++ l.drop (j + 1)).filter (fun x => !q x) := by rw [List.take_append_drop]
    rw [hs, List.filter_append]
    congr 1
    rw [List.take_add_one, List.getElem?_eq_getElem hj, List.filter_append, List.filter_eq_self.2 (fun x hx => List.all_eq_true.1 h3 x (by simpa using hx))]
    simp [h2]
end Go.Proofs.Ytoajccbmikmjdaa.Y

import Derived.Test.YtoajccbmikmjdaaYConf
import Derived.Test.YtoajccbmikmjdaaYSub
import Derived.Test.YtoajccbmikmjdaaYDel
set_option linter.unusedVariables false
namespace Go.Proofs.Ytoajccbmikmjdaa.Y
open Go.RowKit Go.Proofs.YtoajccbmikmjdaaX Go.Proofs.Ytoajccbmikmjdaa.X Go.Proofs.YtoajccbmikmjdaaW.PrintWords Go.Proofs.YtoajccbmikmjdaaW.PrintLast Go.Proofs.YtoajccbmikmjdaaW.PrintMore

def vecB (x y : Int) : Bool := decide (-1000 ≤ x) && decide (x ≤ 1000) && (decide (-1000 ≤ y) && decide (y ≤ 1000))
def markB (m : S45) : Bool := vecB m.f0.f0 m.f0.f1 && (decide (0 ≤ m.f1) && decide (m.f1 ≤ 9))
def marksB (l : List S45) : Bool := l.all markB && decide (l.length ≤ 40)
theorem spec_in (a b c : Int) : spec_l01In.f a b c = some (decide (b ≤ a) && decide (a ≤ c)) := by
  unfold spec_l01In.f
  by_cases h : b ≤ a
  · rw [if_pos h, decide_eq_true h, Bool.true_and]
  · rw [if_neg h, decide_eq_false h, Bool.false_and]
theorem impl_in (a b c : Int) : impl_within.f a b c = some (decide (b ≤ a) && decide (a ≤ c)) := by
  unfold impl_within.f
  by_cases h : b ≤ a
  · rw [if_pos h, decide_eq_true h, Bool.true_and]
  · rw [if_neg h, decide_eq_false h, Bool.false_and]
theorem spec_vec (x y : Int) : spec_IsVec.f x y = some (vecB x y) := by
  unfold spec_IsVec.f vecB
  rw [spec_in, Option.bind_some, spec_in, Option.bind_some]
  split
  · rename_i h; rw [h, Bool.true_and]
  · rename_i h; rw [Bool.not_eq_true] at h; rw [h, Bool.false_and]
theorem impl_vec (x y : Int) : impl_IsVec.f x y = some (vecB x y) := by
  unfold impl_IsVec.f impl_isCoordinate.f vecB
  simp only [impl_in, Option.bind_some]
  split
  · rename_i h; rw [h, Bool.true_and]
  · rename_i h; rw [Bool.not_eq_true] at h; rw [h, Bool.false_and]
theorem bad_eq (m : S45) : impl_AreMarks_1.f m.f0.f0 m.f0.f1 m.f1 = some (!markB m) := by
  unfold impl_AreMarks_1.f impl_isColour.f markB
  rw [impl_vec, Option.bind_some, impl_in]
  simp only [Option.bind_some]
  split
  · rename_i h; rw [h, Bool.true_and]
  · rename_i h; rw [Bool.not_eq_true] at h; rw [h, Bool.false_and]; rfl

theorem rd45 (l : List S45) (i : Nat) (h : i < l.length) : rd_T45 l (i : Int) = l[i] := by
  unfold rd_T45
  rw [Int.toNat_natCast, List.getD_eq_getElem?_getD, List.getElem?_eq_getElem h]
  rfl
theorem spec_marks_l0 {l : List S45} (hl : l.length ≤ 1048576) : ∀ (m i : Nat), i + m = l.length → Evt (fun k => spec_AreMarks.l0 k l (i : Int)) ((l.drop i).all markB && decide (l.length ≤ 40))
  | 0, i, hi => by
    refine (Evt.pure _).step fun k => ?_
    simp only [spec_AreMarks.l0]
    rw [if_neg (by omega), List.drop_of_length_le (by omega)]
    simp
    omega
  | m + 1, i, hi => by
    have hil : i < l.length := by omega
    have hdl : l.drop i = l[i] :: l.drop (i + 1) := List.drop_eq_getElem_cons hil
    have hr := rd45 l i hil
    have ih := spec_marks_l0 hl m (i + 1) (by omega)
    have hw : wrap64 ((i : Int) + 1) = ((i + 1 : Nat) : Int) := w64 (by omega) (by omega)
    have e : ∀ k, spec_AreMarks.l0 (k + 1) l (i : Int) = if markB l[i] = true then spec_AreMarks.l0 k l ((i + 1 : Nat) : Int) else some false := by
      intro k
      simp only [spec_AreMarks.l0]
      rw [if_pos (by omega), if_pos (by omega), hr, spec_vec, Option.bind_some, spec_in, hw]
      unfold markB
      cases h1 : vecB l[i].f0.f0 l[i].f0.f1 with
      | true => rw [if_pos rfl, Option.bind_some, Bool.true_and]
      | false => rfl
    rw [hdl, List.all_cons]
    cases hb : markB l[i] with
    | true =>
      rw [Bool.true_and]
      exact ih.step fun k => by rw [e k, hb, if_pos rfl]
    | false => exact (Evt.pure _).step fun k => by rw [e k, hb]; rfl
theorem spec_marks {l : List S45} (hl : l.length ≤ 1048576) : Evt (fun k => spec_AreMarks.f k l) (marksB l) := spec_marks_l0 hl l.length 0 (by omega)

theorem con_l0 {l : List S45} (hl : l.length ≤ 1048576) : ∀ (m i : Nat), i + m = l.length → ∃ r : Int, Evt (fun k => impl_Mark_40.l0 k l (fun e0_ e1_ e2_ => impl_AreMarks_1.f e0_ e1_ e2_) (l.length : Int) (i : Int)) r ∧ decide (r ≥ 0) = !(l.drop i).all markB
  | 0, i, hi => ⟨-1, (Evt.pure _).step fun k => by simp only [impl_Mark_40.l0]; rw [if_neg (by omega)], by rw [List.drop_of_length_le (by omega)]; rfl⟩
  | m + 1, i, hi => by
    have hil : i < l.length := by omega
    have hdl : l.drop i = l[i] :: l.drop (i + 1) := List.drop_eq_getElem_cons hil
    have hr := rd45 l i hil
    obtain ⟨r, ih, hd⟩ := con_l0 hl m (i + 1) (by omega)
    have hw : wrap64 ((i : Int) + 1) = ((i + 1 : Nat) : Int) := w64 (by omega) (by omega)
    have e : ∀ k, impl_Mark_40.l0 (k + 1) l (fun e0_ e1_ e2_ => impl_AreMarks_1.f e0_ e1_ e2_) (l.length : Int) (i : Int) = if (!markB l[i]) = true then some (i : Int) else impl_Mark_40.l0 k l (fun e0_ e1_ e2_ => impl_AreMarks_1.f e0_ e1_ e2_) (l.length : Int) ((i + 1 : Nat) : Int) := by
      intro k
      simp only [impl_Mark_40.l0]
      rw [if_pos (by omega), if_pos (by omega), if_pos (by omega), hr, bad_eq, Option.bind_some, hw]
    cases hb : markB l[i] with
    | true => exact ⟨r, ih.step fun k => by rw [e k, hb]; rfl, by rw [hd, hdl, List.all_cons, hb, Bool.true_and]⟩
    | false => exact ⟨(i : Int), (Evt.pure _).step fun k => by rw [e k, hb]; rfl, by rw [hdl, List.all_cons, hb]; simp⟩
theorem impl_marks {l : List S45} (hl : l.length ≤ 1048576) : Evt (fun k => impl_AreMarks.f k l) (marksB l) := by
  obtain ⟨r, hr, hd⟩ := con_l0 hl l.length 0 (by omega)
  rw [List.drop_zero] at hd
  have h1 : Evt (fun k => ContainsFunc29_impl_AreMarks_1.f k l) (!l.all markB) := by
    rw [← hd]
    exact Evt.bind (g := fun k t => some (decide (t ≥ 0))) hr (Evt.pure _)
  have h2 : Evt (fun k => (ContainsFunc29_impl_AreMarks_1.f k l).bind fun t => some (!t)) (l.all markB) := by
    have := Evt.bind (g := fun k t => some (!t)) h1 (Evt.pure _)
    rwa [Bool.not_not] at this
  unfold marksB
  by_cases h : (l.length : Int) ≤ 40
  · rw [decide_eq_true (by omega), Bool.and_true]
    exact h2.congr fun k => by unfold impl_AreMarks.f; rw [if_pos h]
  · rw [decide_eq_false (by omega), Bool.and_false]
    exact (Evt.pure _).congr fun k => by unfold impl_AreMarks.f; rw [if_neg h]
theorem marks_ok {l : List S45} (h : marksB l = true) : MarksOK l := by
  unfold marksB at h
  rw [Bool.and_eq_true, decide_eq_true_iff, List.all_eq_true] at h
  have hv : ∀ i : Nat, i < l.length → vecB (rd_T45 l i).f0.f0 (rd_T45 l i).f0.f1 = true := fun i hi => by
    have := h.1 l[i] (List.getElem_mem hi)
    rw [rd45 l i hi]
    unfold markB at this
    rw [Bool.and_eq_true] at this
    exact this.1
  refine ⟨h.2, fun i hi => ?_, fun i hi => ?_⟩
  · have := hv i hi
    simp only [vecB, Bool.and_eq_true, decide_eq_true_eq] at this
    exact this.1
  · have := hv i hi
    simp only [vecB, Bool.and_eq_true, decide_eq_true_eq] at this
    exact this.2

/-- The fitting lattices with an index. -/
def fitL (l : List S45) (n : Int) : List S25 := (subL n 1 n.toNat).filter fun x => !out (clash x.f0 x.f1 x.f2 l) 0 l.length
theorem sub_len {n : Int} (h0 : 1 ≤ n) (h1 : n ≤ 64) : (subL n 1 n.toNat).length ≤ 4096 := by
  have := subL_len (n := n) n.toNat 1 (by omega) (by omega)
  omega
theorem evt_all {β : Type} {l : List β} {f : β → Nat → Option Bool} {q : β → Bool} (h : ∀ x ∈ l, Evt (f x) (q x)) : ∃ K, ∀ k, K ≤ k → ∀ x ∈ l, f x k = some (q x) := by
  induction l with
  | nil => exact ⟨0, fun _ _ x hx => by simp at hx⟩
  | cons y ys ih =>
    obtain ⟨K, hK⟩ := h y (by simp)
    obtain ⟨L, hL⟩ := ih fun x hx => h x (by simp [hx])
    refine ⟨max K L, fun k hk x hx => ?_⟩
    rcases List.mem_cons.1 hx with rfl | hx
    · exact hK k (by omega)
    · exact hL k (by omega) x hx
theorem impl_fit {l : List S45} (hm : MarksOK l) {n : Int} (h0 : 1 ≤ n) (h1 : n ≤ 64) : Evt (fun k => impl_fittingLattices.f k l n) (fitL l n) := by
  have hs := impl_sub_ev h0 h1
  have hlen := sub_len h0 h1
  have hok : ∀ x ∈ subL n 1 n.toNat, LatOK x.f0 x.f1 x.f2 := subL_ok h0 h1 _ 1 (by omega)
  obtain ⟨K, hK⟩ := evt_all (f := fun x k => impl_fittingLattices_1.f k x.f0 x.f1 x.f2 only l) (q := fun x => out (clash x.f0 x.f1 x.f2 l) 0 l.length) fun x hx => conflict_ev (hok x hx) hm
  have hd : Evt (fun k => DeleteFunc34_impl_fittingLattices_1.f k (subL n 1 n.toNat) only l) (fitL l n) := by
    refine ⟨max K 5000, fun k hk => ?_⟩
    show impl_Lattice_34.f k (subL n 1 n.toNat) (fun e0_ e1_ e2_ => impl_fittingLattices_1.f k e0_ e1_ e2_ only l) = _
    exact del_eq (q := fun x => out (clash x.f0 x.f1 x.f2 l) 0 l.length) (by omega) (fun x hx => hK k (by omega) x hx) k (by omega)
  have hd2 : Evt (fun k => (DeleteFunc34_impl_fittingLattices_1.f k (subL n 1 n.toNat) only l).bind fun t => some t) (fitL l n) := Evt.bind (g := fun k t => some t) hd (Evt.pure _)
  exact Evt.bind (g := fun k t => (DeleteFunc34_impl_fittingLattices_1.f k t only l).bind fun t => some t) hs hd2

theorem spec_fit_l0 {l : List S45} (hm : MarksOK l) {L : List S25} (hL : L.length ≤ 4096) (hok : ∀ x ∈ L, LatOK x.f0 x.f1 x.f2) : ∀ (m i : Nat) (acc : List S25), i + m = L.length → acc.length ≤ i →
    Evt (fun k => spec_l19Lattices.l0 k l L acc (i : Int)) (acc ++ (L.drop i).filter fun x => !out (clash x.f0 x.f1 x.f2 l) 0 l.length)
  | 0, i, acc, hi, ha => by
    refine (Evt.pure _).step fun k => ?_
    simp only [spec_l19Lattices.l0]
    rw [if_neg (by omega), List.drop_of_length_le (by omega)]
    simp
  | m + 1, i, acc, hi, ha => by
    have hil : i < L.length := by omega
    have hdl : L.drop i = L[i] :: L.drop (i + 1) := List.drop_eq_getElem_cons hil
    have hr := rd25 L i hil
    have hw : wrap64 ((i : Int) + 1) = ((i + 1 : Nat) : Int) := w64 (by omega) (by omega)
    have hf := fits_ev (hok _ (List.getElem_mem hil)) hm
    have hput := spec_fit_l0 hm hL hok m (i + 1) (acc ++ [L[i]]) (by omega) (by simp; omega)
    have hskip := spec_fit_l0 hm hL hok m (i + 1) acc (by omega) (by omega)
    have e : ∀ k, spec_l19Lattices.l0 (k + 1) l L acc (i : Int) = (spec_l19Fits.f k L[i].f0 L[i].f1 L[i].f2 l).bind fun t => if t = true then spec_l19Lattices.l0 k l L (acc ++ [L[i]]) ((i + 1 : Nat) : Int) else spec_l19Lattices.l0 k l L acc ((i + 1 : Nat) : Int) := by
      intro k
      simp only [spec_l19Lattices.l0]
      rw [if_pos (by omega), if_pos (by omega), hr, hw]
      congr 1
      funext t
      split
      · rw [if_pos (by omega)]
      · rfl
    rw [hdl, List.filter_cons]
    cases hb : out (clash L[i].f0 L[i].f1 L[i].f2 l) 0 l.length with
    | true =>
      rw [hb] at hf
      rw [if_neg (by simp)]
      have := Evt.bind (g := fun k t => if t = true then spec_l19Lattices.l0 k l L (acc ++ [L[i]]) ((i + 1 : Nat) : Int) else spec_l19Lattices.l0 k l L acc ((i + 1 : Nat) : Int)) hf (hskip.congr fun k => rfl)
      exact this.step e
    | false =>
      rw [hb] at hf
      rw [if_pos (by simp)]
      have := Evt.bind (g := fun k t => if t = true then spec_l19Lattices.l0 k l L (acc ++ [L[i]]) ((i + 1 : Nat) : Int) else spec_l19Lattices.l0 k l L acc ((i + 1 : Nat) : Int)) hf (hput.congr fun k => rfl)
      rw [List.append_assoc] at this
      exact this.step e
theorem spec_fit {l : List S45} (hm : MarksOK l) {n : Int} (h0 : 1 ≤ n) (h1 : n ≤ 64) : Evt (fun k => spec_l19Lattices.f k l n) (fitL l n) := by
  have h := spec_fit_l0 hm (sub_len h0 h1) (subL_ok h0 h1 n.toNat 1 (by omega)) (subL n 1 n.toNat).length 0 [] (by omega) (by simp)
  exact Evt.bind (g := fun k b => spec_l19Lattices.l0 k l b.1 [] 0) (spec_sub_ev h0 h1) h

/-- The least index from n on that fits. -/
def leastF (l : List S45) : Int → Nat → Int × Int × Int × Int
  | _, 0 => (0, 0, 0, 4)
  | n, m + 1 => if 0 < (fitL l n).length then ((rd_T25 (fitL l n) 0).f0, (rd_T25 (fitL l n) 0).f1, (rd_T25 (fitL l n) 0).f2, 0) else leastF l (n + 1) m
theorem impl_least_l0 {l : List S45} (hm : MarksOK l) : ∀ (m : Nat) (n : Int), 1 ≤ n → n + m = 65 → Evt (fun k => impl_LeastFitting.l0 k l n) (leastF l n m)
  | 0, n, h0, hn => (Evt.pure _).step fun k => by simp only [impl_LeastFitting.l0]; rw [if_neg (by omega)]; rfl
  | m + 1, n, h0, hn => by
    have hf := impl_fit hm h0 (by omega)
    have ih := impl_least_l0 hm m (n + 1) (by omega) (by omega)
    have e : ∀ k, impl_LeastFitting.l0 (k + 1) l n = (impl_fittingLattices.f k l n).bind fun t => if 0 < t.length then some ((rd_T25 t 0).f0, (rd_T25 t 0).f1, (rd_T25 t 0).f2, 0) else impl_LeastFitting.l0 k l (n + 1) := by
      intro k
      simp only [impl_LeastFitting.l0]
      rw [if_pos (by omega), w64 (by omega) (by omega)]
      congr 1
      funext t
      by_cases ht : 0 < t.length
      · rw [if_pos ht, if_pos (by omega), if_pos (by omega)]
      · rw [if_neg ht, if_neg (by omega)]
    refine (Evt.bind (g := fun k t => if 0 < t.length then some ((rd_T25 t 0).f0, (rd_T25 t 0).f1, (rd_T25 t 0).f2, 0) else impl_LeastFitting.l0 k l (n + 1)) hf ?_).step e
    rw [leastF]
    exact Evt.ite (fun _ => Evt.pure _) (fun _ => ih)
theorem spec_least_l0 {l : List S45} (hm : MarksOK l) : ∀ (m : Nat) (n : Int), 1 ≤ n → n + m = 65 → Evt (fun k => spec_LeastFitting.l0 k l n) (leastF l n m)
  | 0, n, h0, hn => (Evt.pure _).step fun k => by simp only [spec_LeastFitting.l0]; rw [if_neg (by omega)]; rfl
  | m + 1, n, h0, hn => by
    have hf := spec_fit hm h0 (by omega)
    have ih := spec_least_l0 hm m (n + 1) (by omega) (by omega)
    have e : ∀ k, spec_LeastFitting.l0 (k + 1) l n = (spec_l19Lattices.f k l n).bind fun t => if 0 < t.length then some ((rd_T25 t 0).f0, (rd_T25 t 0).f1, (rd_T25 t 0).f2, 0) else spec_LeastFitting.l0 k l (n + 1) := by
      intro k
      simp only [spec_LeastFitting.l0]
      rw [if_pos (by omega), w64 (by omega) (by omega)]
      congr 1
      funext t
      by_cases ht : 0 < t.length
      · rw [if_pos ht, if_pos (by omega), if_pos (by omega)]
      · rw [if_neg ht, if_neg (by omega)]
    refine (Evt.bind (g := fun k t => if 0 < t.length then some ((rd_T25 t 0).f0, (rd_T25 t 0).f1, (rd_T25 t 0).f2, 0) else spec_LeastFitting.l0 k l (n + 1)) hf ?_).step e
    rw [leastF]
    exact Evt.ite (fun _ => Evt.pure _) (fun _ => ih)
def least (l : List S45) : Int × Int × Int × Int := if marksB l = true then leastF l 1 64 else (0, 0, 0, 2)
theorem impl_least {l : List S45} (hl : l.length ≤ 1048576) : Evt (fun k => impl_LeastFitting.f k l) (least l) :=
  Evt.bind (g := fun k t => if t = true then impl_LeastFitting.l0 k l 1 else some (0, 0, 0, 2)) (impl_marks hl) (Evt.ite (fun h => impl_least_l0 (marks_ok h) 64 1 (by omega) (by omega)) (fun _ => Evt.pure _))
theorem spec_least {l : List S45} (hl : l.length ≤ 1048576) : Evt (fun k => spec_LeastFitting.f k l) (least l) :=
  Evt.bind (g := fun k t => if t = true then spec_LeastFitting.l0 k l 1 else some (0, 0, 0, 2)) (spec_marks hl) (Evt.ite (fun h => spec_least_l0 (marks_ok h) 64 1 (by omega) (by omega)) (fun _ => Evt.pure _))
end Go.Proofs.Ytoajccbmikmjdaa.Y

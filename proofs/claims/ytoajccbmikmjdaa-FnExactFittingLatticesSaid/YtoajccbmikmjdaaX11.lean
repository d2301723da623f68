-- PRINTED by print.py (a twelfth state) out of the translation. Not trusted: Lean checks it.
import Derived.Test.YtoajccbmikmjdaaXQ
import Derived.Test.YtoajccbmikmjdaaX0
import Derived.Test.YtoajccbmikmjdaaX2
import Derived.Test.YtoajccbmikmjdaaX4
import Derived.Test.YtoajccbmikmjdaaX10
namespace Go.Proofs.Ytoajccbmikmjdaa.X
open Go.RowKit Go.Proofs.YtoajccbmikmjdaaX Go.Proofs.YtoajccbmikmjdaaW.PrintWords Go.Proofs.YtoajccbmikmjdaaW.PrintLast Go.Proofs.YtoajccbmikmjdaaW.PrintMore
attribute [local go_sem] max2_int min2_int max_two min_two max_three min_three max_four min_four   -- for this text's walks alone
set_option linter.unusedVariables false
set_option linter.unusedSimpArgs false

def laws_FnExactLeastFitting.j0 : Nat → List (S49) → List (S45) → Bool → Option (Bool)
  | 0, _, _, _ => none
  | k + 1, x0, x6, x35 => if x35 = true then (some false) else ((laws_toMarkS.f k x0).bind fun t391 => ((laws_eqMarkS.f k x6 t391).bind fun t394 => (if t394 = true then (some true) else (some false))))
def laws_FnExactLeastFitting.f (k : Nat) (l0 : List (S49)) : Option (Bool) := (laws_szMarkS.f l0 1048576).bind fun t373 => (if t373 < 0 then (some true) else ((laws_toMarkS.f k l0).bind fun t374 => ((spec_LeastFitting.f k t374).bind fun bt377 => ((laws_toMarkS.f k l0).bind fun t382 => ((impl_LeastFitting.f k t382).bind fun bt385 => ((laws_eqLattice.f bt385.1 bt385.2.1 bt385.2.2.1 bt377.1 bt377.2.1 bt377.2.2.1).bind fun t390 => (if t390 = true then (laws_FnExactLeastFitting.j0 k l0 t382 (bt385.2.2.2 != bt377.2.2.2)) else (laws_FnExactLeastFitting.j0 k l0 t382 true))))))))
set_option maxHeartbeats 8000000 in
set_option maxRecDepth 100000 in
theorem laws_FnExactLeastFitting.calls (k : Nat) (A0 : Option Addr) (c0 : Nat) (l0 : List (S49)) (r : Bool) (w : World) (hr0 : Kd.C k49 w A0 l0.length l0) (hc0 : l0.length ≤ c0) (h : laws_FnExactLeastFitting.f k l0 = some r) :
    Calls Try.prog 3 #[.slice A0 l0.length c0] w fun e w' => e = .returned (.bool r) ∧ Below w.heap.size w w' := by
  have hu25 := Try.underlying25
  have HR0 := Aside0.mk hr0
  have HC0 := Aside0.mk hc0
  clear hr0 hc0
  have HB := Aside0.mk (Below.refl w.heap.size w)
  have H : ((laws_szMarkS.f l0 1048576).bind fun t373 => (if t373 < 0 then (some true) else ((laws_toMarkS.f k l0).bind fun t374 => ((spec_LeastFitting.f k t374).bind fun bt377 => ((laws_toMarkS.f k l0).bind fun t382 => ((impl_LeastFitting.f k t382).bind fun bt385 => ((laws_eqLattice.f bt385.1 bt385.2.1 bt385.2.2.1 bt377.1 bt377.2.1 bt377.2.2.1).bind fun t390 => (if t390 = true then (laws_FnExactLeastFitting.j0 k l0 t382 (bt385.2.2.2 != bt377.2.2.2)) else (laws_FnExactLeastFitting.j0 k l0 t382 true))))))))) = some r := h
  clear h
  replace H := qbd H
  obtain ⟨t373, A2, H⟩ := H
  try dsimp only at H
  by_cases c3 : t373 < 0
  · rw [if_pos c3] at H
    have c3b0 : decide (t373 < 0) = true := decide_eq_true c3
    clear c3
    obtain rfl := Option.some.inj H
    go_enter Try.func3, Try.ntmps3
    go_wp2_with (first | ((with_reducible refine gate_callee (f := 5) rfl ?_); refine qgl (some 11) Try.func5 #[.slice A0 l0.length c0, .int .i64 1048576] ?_; (with_reducible refine (laws_szMarkS.calls _ _ l0 1048576 t373 _ (qC HR0.out) HC0.out A2.out).mono ?_); rintro e w' ⟨rfl, ⟨nd, rfl⟩⟩; refine ⟨_, rfl, ?_⟩))
    go_ret
    exact ⟨qF, qB⟩
  · rw [if_neg c3] at H
    have c3b0 : decide (t373 < 0) = false := decide_eq_false c3
    clear c3
    replace H := qbd H
    obtain ⟨t374, A4, H⟩ := H
    try dsimp only at H
    replace H := qbd H
    obtain ⟨⟨t377, t378, t379, t380⟩, A5, H⟩ := H
    try dsimp only at H
    replace H := qbd H
    obtain ⟨t382, A6, H⟩ := H
    try dsimp only at H
    replace H := qbd H
    obtain ⟨⟨t385, t386, t387, t388⟩, A7, H⟩ := H
    try dsimp only at H
    have HC8 := Aside0.mk H
    clear H
    go_enter Try.func3, Try.ntmps3
    go_upto_region 8 with (first | ((with_reducible refine gate_callee (f := 5) rfl ?_); refine qgl (some 11) Try.func5 #[.slice A0 l0.length c0, .int .i64 1048576] ?_; (with_reducible refine (laws_szMarkS.calls _ _ l0 1048576 t373 _ (qC HR0.out) HC0.out A2.out).mono ?_); rintro e w' ⟨rfl, ⟨nd, rfl⟩⟩; refine ⟨_, rfl, ?_⟩) | ((with_reducible refine gate_callee (f := 7) rfl ?_); refine qgl (some 16) Try.func7 #[.slice A0 l0.length c0] ?_; (with_reducible refine (laws_toMarkS.calls k _ _ l0 t374 _ (qC HR0.out) HC0.out A4.out).mono ?_); rintro e w9 ⟨v375, rfl, ho0, hb⟩; refine ⟨_, rfl, ?_⟩; have HO376 := Aside0.mk (Kd.R_lower ho0 (below_size qB)); replace HB := qbs HB hb; (try clear hb); (try clear ho0); obtain ⟨Ao10, co10, eo10⟩ := Kd.R_slice HO376.out; subst eo10) | ((with_reducible refine gate_callee (f := 6) rfl ?_); refine qgl (some 17) Try.func6 #[.slice Ao10 t374.length co10] ?_; (with_reducible refine (spec_LeastFitting.calls k _ _ t374 t377 t378 t379 t380 _ (qC ((Kd.R_reads' HO376.out).2.2)) ((Kd.R_reads' HO376.out).2.1) A5.out).mono ?_); rintro e w11 ⟨rfl, hb⟩; refine ⟨_, rfl, ?_⟩; replace HO376 := Aside0.mk (Kd.R_below (qR HO376.out) hb); replace HB := qbs HB hb; (try clear hb)) | ((with_reducible refine gate_dst (N := 4) rfl ?_); refine qbx 4 25 #[.int .i64 0, .int .i64 0, .int .i64 0] ?_; intro gb381 hg w12 hbox hb; replace HO376 := Aside0.mk (Kd.R_below (qR HO376.out) hb); have BK381 := Aside0.mk (hbox); have GW381 := qgs HB hg; have GE381 := qgs HB hg; replace HB := qbs HB hb; clear hb hbox hg; have hcz13_0 := qc0 BK381; have hcz13_1 := qc1 BK381; have hcz13_2 := qc2 BK381; have hfz13_0 := blk_frozen BK381.out 0; have hfz13_1 := blk_frozen BK381.out 1; have hfz13_2 := blk_frozen BK381.out 2) | ((with_reducible refine gate_callee (f := 7) rfl ?_); refine qgl (some 21) Try.func7 #[.slice A0 l0.length c0] ?_; (with_reducible refine (laws_toMarkS.calls k _ _ l0 t382 _ ?side1 HC0.out A6.out).mono ?_); (case side1 => exact Kd.C_below HR0.out qB); rintro e w14 ⟨v383, rfl, ho0, hb⟩; refine ⟨_, rfl, ?_⟩; have HO384 := Aside0.mk (Kd.R_lower (Kd.R_new' ho0 (Kd.R_lt (qR (Kd.R_mono (Kd.R_far (p := ⟨gb381, 2, none⟩) (Kd.R_far (p := ⟨gb381, 1, none⟩) (Kd.R_far (p := ⟨gb381, 0, none⟩) (Kd.R_types HO376.out BK381.out (by decide)) (fun _ hk => hk.2) (.int .i64 t377)) (fun _ hk => hk.2) (.int .i64 t378)) (fun _ hk => hk.2) (.int .i64 t379)) (fun _ h_ => h_.1))))) (below_size qB)); replace HO376 := Aside0.mk (Kd.R_elder' (qR (Kd.R_mono (Kd.R_far (p := ⟨gb381, 2, none⟩) (Kd.R_far (p := ⟨gb381, 1, none⟩) (Kd.R_far (p := ⟨gb381, 0, none⟩) (Kd.R_types HO376.out BK381.out (by decide)) (fun _ hk => hk.2) (.int .i64 t377)) (fun _ hk => hk.2) (.int .i64 t378)) (fun _ hk => hk.2) (.int .i64 t379)) (fun _ h_ => h_.1))) (Kd.R_base ho0) hb); replace BK381 := qbq (g := gb381) (o := .cells #[.int .i64 t377, .int .i64 t378, .int .i64 t379] 25 (0, 0)) hb; replace HB := qbs HB hb; (try clear hb); (try clear hk); (try clear ho0); obtain ⟨Ao15, co15, eo15⟩ := Kd.R_slice HO384.out; subst eo15) | ((with_reducible refine gate_callee (f := 8) rfl ?_); refine qgl (some 24) Try.func8 #[.slice Ao15 t382.length co15] ?_; (with_reducible refine (impl_LeastFitting.calls k _ _ t382 t385 t386 t387 t388 _ (qC ((Kd.R_reads' HO384.out).2.2)) ((Kd.R_reads' HO384.out).2.1) A7.out).mono ?_); rintro e w16 ⟨rfl, hb⟩; refine ⟨_, rfl, ?_⟩; replace HO376 := Aside0.mk (Kd.R_below (qR HO376.out) hb); replace HO384 := Aside0.mk (Kd.R_below (qR HO384.out) hb); replace BK381 := qbb BK381 hb; replace HB := qbs HB hb; (try clear hb)) | ((with_reducible refine gate_dst (N := 7) rfl ?_); refine qbx 7 25 #[.int .i64 0, .int .i64 0, .int .i64 0] ?_; intro gb389 hg w17 hbox hb; replace HO376 := Aside0.mk (Kd.R_below (qR HO376.out) hb); replace HO384 := Aside0.mk (Kd.R_below (qR HO384.out) hb); have BK389 := Aside0.mk (hbox); have GW389 := qgs HB hg; have GE389 := qgs HB hg; replace HB := qbs HB hb; have NB381_389 := qnL BK381 hg; have NB389_381 := qnG BK381 hg; replace BK381 := qbb BK381 hb; clear hb hbox hg; have hnb18 := NB389_381.out; have hnc18 := NB381_389.out; have hcz19_0 := qc0 BK389; have hcz19_1 := qc1 BK389; have hcz19_2 := qc2 BK389; have hfz19_0 := blk_frozen BK389.out 0; have hfz19_1 := blk_frozen BK389.out 1; have hfz19_2 := blk_frozen BK389.out 2))
    (try simp only [Act.put, List.setIfInBounds_toArray, List.set_cons_zero, List.set_cons_succ])
    go_cut [35] (fun v35 wc => ∃ (kq : Nat) (x35_7 : Bool), v35 = .bool x35_7 ∧ Aside0 (laws_FnExactLeastFitting.j0 kq l0 t382 x35_7 = some r) ∧ Aside0 (kq ≤ k) ∧ Aside0 (Kd.R k45 45 wc w.heap.size (fun _ => True) (.slice Ao15 t382.length co15) t382) ∧ Aside0 (wc.heap[gb381]? = some (.cells #[.int .i64 t377, .int .i64 t378, .int .i64 t379] 25 (0, 0))) ∧ Aside0 (wc.heap[gb389]? = some (.cells #[.int .i64 t385, .int .i64 t386, .int .i64 t387] 25 (0, 0))) ∧ Aside0 (Below w.heap.size w wc))
    case first =>
      have H := HC8.out
      clear HC8
      replace H := qbd H
      obtain ⟨t390, A20, H⟩ := H
      try dsimp only at H
      by_cases c21 : t390 = true
      · subst c21
        have H1 : (laws_FnExactLeastFitting.j0 k l0 t382 (t388 != t380)) = some r := by rw [if_pos rfl] at H; exact H
        clear H
        have H := H1
        clear H1
        have H' := Aside0.mk H
        clear H
        have hnb22 := NB389_381.out
        have hnc22 := NB381_389.out
        have hcz23_0 : w17.cell? ⟨gb389, 0, none⟩ = some (.int .i64 0) := (blk_cell BK389.out 0).trans rfl
        have hcz23_1 : w17.cell? ⟨gb389, 1, none⟩ = some (.int .i64 0) := (blk_cell BK389.out 1).trans rfl
        have hcz23_2 : w17.cell? ⟨gb389, 2, none⟩ = some (.int .i64 0) := (blk_cell BK389.out 2).trans rfl
        have hfz23_0 := blk_frozen BK389.out 0
        have hfz23_1 := blk_frozen BK389.out 1
        have hfz23_2 := blk_frozen BK389.out 2
        have hcz24_0 : w17.cell? ⟨gb381, 0, none⟩ = some (.int .i64 t377) := (blk_cell BK381.out 0).trans rfl
        have hcz24_1 : w17.cell? ⟨gb381, 1, none⟩ = some (.int .i64 t378) := (blk_cell BK381.out 1).trans rfl
        have hcz24_2 : w17.cell? ⟨gb381, 2, none⟩ = some (.int .i64 t379) := (blk_cell BK381.out 2).trans rfl
        have hfz24_0 := blk_frozen BK381.out 0
        have hfz24_1 := blk_frozen BK381.out 1
        have hfz24_2 := blk_frozen BK381.out 2
        go_wp2_with (first | ((with_reducible refine gate_callee (f := 9) rfl ?_); refine qgl (some 29) Try.func9 #[.agg #[.int .i64 t385, .int .i64 t386, .int .i64 t387], .agg #[.int .i64 t377, .int .i64 t378, .int .i64 t379]] ?_; (with_reducible refine (laws_eqLattice.calls t385 t386 t387 t377 t378 t379 true _ A20.out).mono ?_); rintro e w25 ⟨rfl, hb⟩; refine ⟨_, rfl, ?_⟩; replace HO376 := Aside0.mk (Kd.R_below (qR (Kd.R_mono (Kd.R_far (p := ⟨gb389, 2, none⟩) (Kd.R_far (p := ⟨gb389, 1, none⟩) (Kd.R_far (p := ⟨gb389, 0, none⟩) (Kd.R_types HO376.out BK389.out (by decide)) (fun _ hk => hk.2) (.int .i64 t385)) (fun _ hk => hk.2) (.int .i64 t386)) (fun _ hk => hk.2) (.int .i64 t387)) (fun _ h_ => h_.1))) hb); replace HO384 := Aside0.mk (Kd.R_below (qR (Kd.R_mono (Kd.R_far (p := ⟨gb389, 2, none⟩) (Kd.R_far (p := ⟨gb389, 1, none⟩) (Kd.R_far (p := ⟨gb389, 0, none⟩) (Kd.R_types HO384.out BK389.out (by decide)) (fun _ hk => hk.2) (.int .i64 t385)) (fun _ hk => hk.2) (.int .i64 t386)) (fun _ hk => hk.2) (.int .i64 t387)) (fun _ h_ => h_.1))) hb); replace BK381 := qbq (g := gb381) (o := .cells #[.int .i64 t377, .int .i64 t378, .int .i64 t379] 25 (0, 0)) hb; replace BK389 := qbq (g := gb389) (o := .cells #[.int .i64 t385, .int .i64 t386, .int .i64 t387] 25 (0, 0)) hb; replace HB := qbs HB hb; (try clear hb); (try clear hk)))
        go_meet
        case rel => exact ⟨_, ((t388 != t380)), qf, H', ⟨by first | omega | exact Nat.le_refl _⟩, ⟨by (with_reducible repeat (first | apply Kd.R_alloc | apply Kd.R_drewN | apply Kd.R_drew)); exact Kd.R_mono HO384.out (fun _ hk => trivial)⟩, ⟨by (with_reducible repeat (first | refine blk_drewN ?_ _ | refine blk_drew ?_ | refine blk_alloc ?_ _)); exact BK381.out⟩, ⟨by (with_reducible repeat (first | refine blk_drewN ?_ _ | refine blk_drew ?_ | refine blk_alloc ?_ _)); exact BK389.out⟩, ⟨qB⟩⟩
      · replace c21 := Bool.eq_false_iff.mpr c21
        subst c21
        have H1 : (laws_FnExactLeastFitting.j0 k l0 t382 true) = some r := by rw [if_neg (show ¬ (false = true) by decide)] at H; exact H
        clear H
        have H := H1
        clear H1
        have H' := Aside0.mk H
        clear H
        have hnb26 := NB389_381.out
        have hnc26 := NB381_389.out
        have hcz27_0 : w17.cell? ⟨gb389, 0, none⟩ = some (.int .i64 0) := (blk_cell BK389.out 0).trans rfl
        have hcz27_1 : w17.cell? ⟨gb389, 1, none⟩ = some (.int .i64 0) := (blk_cell BK389.out 1).trans rfl
        have hcz27_2 : w17.cell? ⟨gb389, 2, none⟩ = some (.int .i64 0) := (blk_cell BK389.out 2).trans rfl
        have hfz27_0 := blk_frozen BK389.out 0
        have hfz27_1 := blk_frozen BK389.out 1
        have hfz27_2 := blk_frozen BK389.out 2
        have hcz28_0 : w17.cell? ⟨gb381, 0, none⟩ = some (.int .i64 t377) := (blk_cell BK381.out 0).trans rfl
        have hcz28_1 : w17.cell? ⟨gb381, 1, none⟩ = some (.int .i64 t378) := (blk_cell BK381.out 1).trans rfl
        have hcz28_2 : w17.cell? ⟨gb381, 2, none⟩ = some (.int .i64 t379) := (blk_cell BK381.out 2).trans rfl
        have hfz28_0 := blk_frozen BK381.out 0
        have hfz28_1 := blk_frozen BK381.out 1
        have hfz28_2 := blk_frozen BK381.out 2
        go_wp2_with (first | ((with_reducible refine gate_callee (f := 9) rfl ?_); refine qgl (some 29) Try.func9 #[.agg #[.int .i64 t385, .int .i64 t386, .int .i64 t387], .agg #[.int .i64 t377, .int .i64 t378, .int .i64 t379]] ?_; (with_reducible refine (laws_eqLattice.calls t385 t386 t387 t377 t378 t379 false _ A20.out).mono ?_); rintro e w29 ⟨rfl, hb⟩; refine ⟨_, rfl, ?_⟩; replace HO376 := Aside0.mk (Kd.R_below (qR (Kd.R_mono (Kd.R_far (p := ⟨gb389, 2, none⟩) (Kd.R_far (p := ⟨gb389, 1, none⟩) (Kd.R_far (p := ⟨gb389, 0, none⟩) (Kd.R_types HO376.out BK389.out (by decide)) (fun _ hk => hk.2) (.int .i64 t385)) (fun _ hk => hk.2) (.int .i64 t386)) (fun _ hk => hk.2) (.int .i64 t387)) (fun _ h_ => h_.1))) hb); replace HO384 := Aside0.mk (Kd.R_below (qR (Kd.R_mono (Kd.R_far (p := ⟨gb389, 2, none⟩) (Kd.R_far (p := ⟨gb389, 1, none⟩) (Kd.R_far (p := ⟨gb389, 0, none⟩) (Kd.R_types HO384.out BK389.out (by decide)) (fun _ hk => hk.2) (.int .i64 t385)) (fun _ hk => hk.2) (.int .i64 t386)) (fun _ hk => hk.2) (.int .i64 t387)) (fun _ h_ => h_.1))) hb); replace BK381 := qbq (g := gb381) (o := .cells #[.int .i64 t377, .int .i64 t378, .int .i64 t379] 25 (0, 0)) hb; replace BK389 := qbq (g := gb389) (o := .cells #[.int .i64 t385, .int .i64 t386, .int .i64 t387] 25 (0, 0)) hb; replace HB := qbs HB hb; (try clear hb); (try clear hk)))
        go_meet
        case rel => exact ⟨_, (true), qf, H', ⟨by first | omega | exact Nat.le_refl _⟩, ⟨by (with_reducible repeat (first | apply Kd.R_alloc | apply Kd.R_drewN | apply Kd.R_drew)); exact Kd.R_mono HO384.out (fun _ hk => trivial)⟩, ⟨by (with_reducible repeat (first | refine blk_drewN ?_ _ | refine blk_drew ?_ | refine blk_alloc ?_ _)); exact BK381.out⟩, ⟨by (with_reducible repeat (first | refine blk_drewN ?_ _ | refine blk_drew ?_ | refine blk_alloc ?_ _)); exact BK389.out⟩, ⟨qB⟩⟩
    case rest =>
      clear HC8
      try clear c1
      try clear c2
      try clear p2
      try clear c3
      try clear c3b0
      try clear c5
      try clear c6
      try clear c7
      try clear c8
      try clear c9
      try clear c18
      try clear c21
      try clear c22
      try clear c26
      try clear hcz13_0
      try clear hcz13_1
      try clear hcz13_2
      try clear hcz19_0
      try clear hcz19_1
      try clear hcz19_2
      try clear hcz23_0
      try clear hcz23_1
      try clear hcz23_2
      try clear hcz24_0
      try clear hcz24_1
      try clear hcz24_2
      try clear hcz27_0
      try clear hcz27_1
      try clear hcz27_2
      try clear hcz28_0
      try clear hcz28_1
      try clear hcz28_2
      try clear hfz13_0
      try clear hfz13_1
      try clear hfz13_2
      try clear hfz19_0
      try clear hfz19_1
      try clear hfz19_2
      try clear hfz23_0
      try clear hfz23_1
      try clear hfz23_2
      try clear hfz24_0
      try clear hfz24_1
      try clear hfz24_2
      try clear hfz27_0
      try clear hfz27_1
      try clear hfz27_2
      try clear hfz28_0
      try clear hfz28_1
      try clear hfz28_2
      obtain ⟨kq, x35_7, rfl, HA, HJ7, HO_6, BK381, BK389, HB⟩ := hcut
      cases kq with
      | zero => exact absurd HA.out (by simp [laws_FnExactLeastFitting.j0])
      | succ kj7 =>
        have H := HA.out
        clear HA
        simp only [laws_FnExactLeastFitting.j0] at H
        by_cases c30 : x35_7 = true
        · subst c30
          have H1 : (some false) = some r := by rw [if_pos rfl] at H; exact H
          clear H
          have H := H1
          clear H1
          obtain rfl := Option.some.inj H
          go_wp2
          go_ret
          exact ⟨qF, qB⟩
        · replace c30 := Bool.eq_false_iff.mpr c30
          subst c30
          have H1 : ((laws_toMarkS.f kj7 l0).bind fun t391 => ((laws_eqMarkS.f kj7 t382 t391).bind fun t394 => (if t394 = true then (some true) else (some false)))) = some r := by rw [if_neg (show ¬ (false = true) by decide)] at H; exact H
          clear H
          have H := H1
          clear H1
          replace H := qbd H
          obtain ⟨t391, A31, H⟩ := H
          try dsimp only at H
          replace H := qbd H
          obtain ⟨t394, A32, H⟩ := H
          try dsimp only at H
          by_cases c33 : t394 = true
          · subst c33
            have H1 : (some true) = some r := by rw [if_pos rfl] at H; exact H
            clear H
            have H := H1
            clear H1
            obtain rfl := Option.some.inj H
            go_wp2_with (first | ((with_reducible refine gate_callee (f := 7) rfl ?_); refine qgl (some 38) Try.func7 #[.slice A0 l0.length c0] ?_; (with_reducible refine (laws_toMarkS.calls kj7 _ _ l0 t391 _ (qC (Kd.C_below HR0.out HB.out)) HC0.out A31.out).mono ?_); rintro e w34 ⟨v392, rfl, ho0, hb⟩; refine ⟨_, rfl, ?_⟩; have HO393 := Aside0.mk (Kd.R_lower (Kd.R_new' ho0 (Kd.R_lt (qR HO_6.out))) (below_size qB)); replace HO_6 := Aside0.mk (Kd.R_elder' (qR HO_6.out) (Kd.R_base ho0) hb); replace BK381 := qbb BK381 hb; replace BK389 := qbb BK389 hb; replace HB := qbs HB hb; (try clear hb); (try clear ho0); obtain ⟨Ao35, co35, eo35⟩ := Kd.R_slice HO393.out; subst eo35) | ((with_reducible refine gate_callee (f := 10) rfl ?_); refine qgl (some 39) Try.func10 #[.slice Ao15 t382.length co15, .slice Ao35 t391.length co35] ?_; (with_reducible refine (laws_eqMarkS.calls kj7 _ _ t382 _ _ t391 true _ (qC ((Kd.R_reads' HO_6.out).2.2)) ((Kd.R_reads' HO_6.out).2.1) (qC ((Kd.R_reads' HO393.out).2.2)) ((Kd.R_reads' HO393.out).2.1) A32.out).mono ?_); rintro e w36 ⟨rfl, hb⟩; refine ⟨_, rfl, ?_⟩; replace HO_6 := Aside0.mk (Kd.R_below (qR HO_6.out) hb); replace HO393 := Aside0.mk (Kd.R_below (qR HO393.out) hb); replace BK381 := qbb BK381 hb; replace BK389 := qbb BK389 hb; replace HB := qbs HB hb; (try clear hb)))
            go_ret
            exact ⟨qF, qB⟩
          · replace c33 := Bool.eq_false_iff.mpr c33
            subst c33
            have H1 : (some false) = some r := by rw [if_neg (show ¬ (false = true) by decide)] at H; exact H
            clear H
            have H := H1
            clear H1
            obtain rfl := Option.some.inj H
            go_wp2_with (first | ((with_reducible refine gate_callee (f := 7) rfl ?_); refine qgl (some 38) Try.func7 #[.slice A0 l0.length c0] ?_; (with_reducible refine (laws_toMarkS.calls kj7 _ _ l0 t391 _ (qC (Kd.C_below HR0.out HB.out)) HC0.out A31.out).mono ?_); rintro e w37 ⟨v392, rfl, ho0, hb⟩; refine ⟨_, rfl, ?_⟩; have HO393 := Aside0.mk (Kd.R_lower (Kd.R_new' ho0 (Kd.R_lt (qR HO_6.out))) (below_size qB)); replace HO_6 := Aside0.mk (Kd.R_elder' (qR HO_6.out) (Kd.R_base ho0) hb); replace BK381 := qbb BK381 hb; replace BK389 := qbb BK389 hb; replace HB := qbs HB hb; (try clear hb); (try clear ho0); obtain ⟨Ao38, co38, eo38⟩ := Kd.R_slice HO393.out; subst eo38) | ((with_reducible refine gate_callee (f := 10) rfl ?_); refine qgl (some 39) Try.func10 #[.slice Ao15 t382.length co15, .slice Ao38 t391.length co38] ?_; (with_reducible refine (laws_eqMarkS.calls kj7 _ _ t382 _ _ t391 false _ (qC ((Kd.R_reads' HO_6.out).2.2)) ((Kd.R_reads' HO_6.out).2.1) (qC ((Kd.R_reads' HO393.out).2.2)) ((Kd.R_reads' HO393.out).2.1) A32.out).mono ?_); rintro e w39 ⟨rfl, hb⟩; refine ⟨_, rfl, ?_⟩; replace HO_6 := Aside0.mk (Kd.R_below (qR HO_6.out) hb); replace HO393 := Aside0.mk (Kd.R_below (qR HO393.out) hb); replace BK381 := qbb BK381 hb; replace BK389 := qbb BK389 hb; replace HB := qbs HB hb; (try clear hb)))
            go_ret
            exact ⟨qF, qB⟩

def spec_FittingLattices.f (k : Nat) (l0 : List (S45)) (a1 : Int) : Option ((List (S25)) × Int) := (spec_AreMarks.f k l0).bind fun t395 => (if t395 = true then ((spec_l01In.f a1 1 64).bind fun t396 => (if t396 = true then ((spec_l19Lattices.f k l0 a1).bind fun t397 => (some (t397, 0))) else (some (([] : List (S25)), 2)))) else (some (([] : List (S25)), 2)))
set_option maxHeartbeats 8000000 in
set_option maxRecDepth 100000 in
theorem spec_FittingLattices.calls (k : Nat) (A0 : Option Addr) (c0 : Nat) (l0 : List (S45)) (a1 : Int) (r1 : List (S25)) (r2 : Int) (w : World) (hr0 : Kd.C k45 w A0 l0.length l0) (hc0 : l0.length ≤ c0) (h : spec_FittingLattices.f k l0 a1 = some (r1, r2)) :
    Calls Try.prog 11 #[.slice A0 l0.length c0, .int .i64 a1] w fun e w' => ∃ v0_ : Value, e = .returned (.tuple #[v0_, .int .i64 r2]) ∧ Kd.R k25 25 w' w.heap.size (fun _ => True) v0_ r1 ∧ Below w.heap.size w w' := by
  have HR0 := Aside0.mk hr0
  have HC0 := Aside0.mk hc0
  clear hr0 hc0
  have HB := Aside0.mk (Below.refl w.heap.size w)
  have H : ((spec_AreMarks.f k l0).bind fun t395 => (if t395 = true then ((spec_l01In.f a1 1 64).bind fun t396 => (if t396 = true then ((spec_l19Lattices.f k l0 a1).bind fun t397 => (some (t397, 0))) else (some (([] : List (S25)), 2)))) else (some (([] : List (S25)), 2)))) = some (r1, r2) := h
  clear h
  replace H := qbd H
  obtain ⟨t395, A3, H⟩ := H
  try dsimp only at H
  by_cases c4 : t395 = true
  · subst c4
    have H1 : ((spec_l01In.f a1 1 64).bind fun t396 => (if t396 = true then ((spec_l19Lattices.f k l0 a1).bind fun t397 => (some (t397, 0))) else (some (([] : List (S25)), 2)))) = some (r1, r2) := by rw [if_pos rfl] at H; exact H
    clear H
    have H := H1
    clear H1
    replace H := qbd H
    obtain ⟨t396, A5, H⟩ := H
    try dsimp only at H
    by_cases c6 : t396 = true
    · subst c6
      have H1 : ((spec_l19Lattices.f k l0 a1).bind fun t397 => (some (t397, 0))) = some (r1, r2) := by rw [if_pos rfl] at H; exact H
      clear H
      have H := H1
      clear H1
      replace H := qbd H
      obtain ⟨t397, A7, H⟩ := H
      try dsimp only at H
      simp only [Option.some.injEq, Prod.mk.injEq] at H
      obtain ⟨rfl, rfl⟩ := H
      go_enter Try.func11, Try.ntmps11
      go_wp2_with (first | ((with_reducible refine gate_callee (f := 17) rfl ?_); refine qgl (some 7) Try.func17 #[.slice A0 l0.length c0] ?_; (with_reducible refine (spec_AreMarks.calls k _ _ l0 true _ (qC HR0.out) HC0.out A3.out).mono ?_); rintro e w8 ⟨rfl, hb⟩; refine ⟨_, rfl, ?_⟩; replace HB := qbs HB hb; (try clear hb)) | (go_at_call 23; (with_reducible refine (spec_l01In.calls a1 1 64 true _ A5.out).mono ?_); rintro e w' ⟨rfl, ⟨nd, rfl⟩⟩) | ((with_reducible refine gate_callee (f := 18) rfl ?_); refine qgl (some 16) Try.func18 #[.slice A0 l0.length c0, .int .i64 a1] ?_; (with_reducible refine (spec_l19Lattices.calls k _ _ l0 a1 t397 _ (qC (Kd.C_below HR0.out qB)) HC0.out A7.out).mono ?_); rintro e w9 ⟨v398, rfl, ho0, hb⟩; refine ⟨_, rfl, ?_⟩; have HO399 := Aside0.mk (Kd.R_lower ho0 (below_size qB)); replace HB := qbs HB hb; (try clear hb); (try clear ho0)))
      go_ret2
      exact ⟨_, qF, by (with_reducible repeat (first | apply Kd.R_alloc | apply Kd.R_drewN | apply Kd.R_drew)); exact HO399.out, qB⟩
    · replace c6 := Bool.eq_false_iff.mpr c6
      subst c6
      have H1 : (some (([] : List (S25)), 2)) = some (r1, r2) := by rw [if_neg (show ¬ (false = true) by decide)] at H; exact H
      clear H
      have H := H1
      clear H1
      simp only [Option.some.injEq, Prod.mk.injEq] at H
      obtain ⟨rfl, rfl⟩ := H
      go_enter Try.func11, Try.ntmps11
      go_wp2_with (first | ((with_reducible refine gate_callee (f := 17) rfl ?_); refine qgl (some 7) Try.func17 #[.slice A0 l0.length c0] ?_; (with_reducible refine (spec_AreMarks.calls k _ _ l0 true _ (qC HR0.out) HC0.out A3.out).mono ?_); rintro e w10 ⟨rfl, hb⟩; refine ⟨_, rfl, ?_⟩; replace HB := qbs HB hb; (try clear hb)) | (go_at_call 23; (with_reducible refine (spec_l01In.calls a1 1 64 false _ A5.out).mono ?_); rintro e w' ⟨rfl, ⟨nd, rfl⟩⟩))
      go_ret2
      exact ⟨_, qF, by first | exact Kd.R_nil _ _ _ _ _ | exact Kd.N_nil _ _ _ _ _ | exact Kd.V_nil _ _ _ _ _ | exact Kd.Q_nil _ _ _ _ _ | exact Kd.S_nil _ _ _ _ _, qB⟩
  · replace c4 := Bool.eq_false_iff.mpr c4
    subst c4
    have H1 : (some (([] : List (S25)), 2)) = some (r1, r2) := by rw [if_neg (show ¬ (false = true) by decide)] at H; exact H
    clear H
    have H := H1
    clear H1
    simp only [Option.some.injEq, Prod.mk.injEq] at H
    obtain ⟨rfl, rfl⟩ := H
    go_enter Try.func11, Try.ntmps11
    go_wp2_with (first | ((with_reducible refine gate_callee (f := 17) rfl ?_); refine qgl (some 7) Try.func17 #[.slice A0 l0.length c0] ?_; (with_reducible refine (spec_AreMarks.calls k _ _ l0 false _ (qC HR0.out) HC0.out A3.out).mono ?_); rintro e w11 ⟨rfl, hb⟩; refine ⟨_, rfl, ?_⟩; replace HB := qbs HB hb; (try clear hb)))
    go_ret2
    exact ⟨_, qF, by first | exact Kd.R_nil _ _ _ _ _ | exact Kd.N_nil _ _ _ _ _ | exact Kd.V_nil _ _ _ _ _ | exact Kd.Q_nil _ _ _ _ _ | exact Kd.S_nil _ _ _ _ _, qB⟩

def impl_FittingLattices.f (k : Nat) (l0 : List (S45)) (a1 : Int) : Option ((List (S25)) × Int) := (impl_AreMarks.f k l0).bind fun t400 => (if t400 = true then ((impl_within.f a1 1 64).bind fun t401 => (if t401 = true then ((impl_fittingLattices.f k l0 a1).bind fun t402 => (some (t402, 0))) else (some (([] : List (S25)), 2)))) else (some (([] : List (S25)), 2)))
set_option maxHeartbeats 8000000 in
set_option maxRecDepth 100000 in
theorem impl_FittingLattices.calls (k : Nat) (A0 : Option Addr) (c0 : Nat) (l0 : List (S45)) (a1 : Int) (r1 : List (S25)) (r2 : Int) (w : World) (hr0 : Kd.C k45 w A0 l0.length l0) (hc0 : l0.length ≤ c0) (h : impl_FittingLattices.f k l0 a1 = some (r1, r2)) :
    Calls Try.prog 12 #[.slice A0 l0.length c0, .int .i64 a1] w fun e w' => ∃ v0_ : Value, e = .returned (.tuple #[v0_, .int .i64 r2]) ∧ Kd.R k25 25 w' w.heap.size (fun _ => True) v0_ r1 ∧ Below w.heap.size w w' := by
  have HR0 := Aside0.mk hr0
  have HC0 := Aside0.mk hc0
  clear hr0 hc0
  have HB := Aside0.mk (Below.refl w.heap.size w)
  have H : ((impl_AreMarks.f k l0).bind fun t400 => (if t400 = true then ((impl_within.f a1 1 64).bind fun t401 => (if t401 = true then ((impl_fittingLattices.f k l0 a1).bind fun t402 => (some (t402, 0))) else (some (([] : List (S25)), 2)))) else (some (([] : List (S25)), 2)))) = some (r1, r2) := h
  clear h
  replace H := qbd H
  obtain ⟨t400, A3, H⟩ := H
  try dsimp only at H
  by_cases c4 : t400 = true
  · subst c4
    have H1 : ((impl_within.f a1 1 64).bind fun t401 => (if t401 = true then ((impl_fittingLattices.f k l0 a1).bind fun t402 => (some (t402, 0))) else (some (([] : List (S25)), 2)))) = some (r1, r2) := by rw [if_pos rfl] at H; exact H
    clear H
    have H := H1
    clear H1
    replace H := qbd H
    obtain ⟨t401, A5, H⟩ := H
    try dsimp only at H
    by_cases c6 : t401 = true
    · subst c6
      have H1 : ((impl_fittingLattices.f k l0 a1).bind fun t402 => (some (t402, 0))) = some (r1, r2) := by rw [if_pos rfl] at H; exact H
      clear H
      have H := H1
      clear H1
      replace H := qbd H
      obtain ⟨t402, A7, H⟩ := H
      try dsimp only at H
      simp only [Option.some.injEq, Prod.mk.injEq] at H
      obtain ⟨rfl, rfl⟩ := H
      go_enter Try.func12, Try.ntmps12
      go_wp2_with (first | ((with_reducible refine gate_callee (f := 20) rfl ?_); refine qgl (some 7) Try.func20 #[.slice A0 l0.length c0] ?_; (with_reducible refine (impl_AreMarks.calls k _ _ l0 true _ (qC HR0.out) HC0.out A3.out).mono ?_); rintro e w8 ⟨rfl, hb⟩; refine ⟨_, rfl, ?_⟩; replace HB := qbs HB hb; (try clear hb)) | (go_at_call 24; (with_reducible refine (impl_within.calls a1 1 64 true _ A5.out).mono ?_); rintro e w' ⟨rfl, ⟨nd, rfl⟩⟩) | ((with_reducible refine gate_callee (f := 21) rfl ?_); refine qgl (some 16) Try.func21 #[.slice A0 l0.length c0, .int .i64 a1] ?_; (with_reducible refine (impl_fittingLattices.calls k _ _ l0 a1 t402 _ (qC (Kd.C_below HR0.out qB)) HC0.out A7.out).mono ?_); rintro e w9 ⟨v403, rfl, ho0, hb⟩; refine ⟨_, rfl, ?_⟩; have HO404 := Aside0.mk (Kd.R_lower ho0 (below_size qB)); replace HB := qbs HB hb; (try clear hb); (try clear ho0)))
      go_ret2
      exact ⟨_, qF, by (with_reducible repeat (first | apply Kd.R_alloc | apply Kd.R_drewN | apply Kd.R_drew)); exact HO404.out, qB⟩
    · replace c6 := Bool.eq_false_iff.mpr c6
      subst c6
      have H1 : (some (([] : List (S25)), 2)) = some (r1, r2) := by rw [if_neg (show ¬ (false = true) by decide)] at H; exact H
      clear H
      have H := H1
      clear H1
      simp only [Option.some.injEq, Prod.mk.injEq] at H
      obtain ⟨rfl, rfl⟩ := H
      go_enter Try.func12, Try.ntmps12
      go_wp2_with (first | ((with_reducible refine gate_callee (f := 20) rfl ?_); refine qgl (some 7) Try.func20 #[.slice A0 l0.length c0] ?_; (with_reducible refine (impl_AreMarks.calls k _ _ l0 true _ (qC HR0.out) HC0.out A3.out).mono ?_); rintro e w10 ⟨rfl, hb⟩; refine ⟨_, rfl, ?_⟩; replace HB := qbs HB hb; (try clear hb)) | (go_at_call 24; (with_reducible refine (impl_within.calls a1 1 64 false _ A5.out).mono ?_); rintro e w' ⟨rfl, ⟨nd, rfl⟩⟩))
      go_ret2
      exact ⟨_, qF, by first | exact Kd.R_nil _ _ _ _ _ | exact Kd.N_nil _ _ _ _ _ | exact Kd.V_nil _ _ _ _ _ | exact Kd.Q_nil _ _ _ _ _ | exact Kd.S_nil _ _ _ _ _, qB⟩
  · replace c4 := Bool.eq_false_iff.mpr c4
    subst c4
    have H1 : (some (([] : List (S25)), 2)) = some (r1, r2) := by rw [if_neg (show ¬ (false = true) by decide)] at H; exact H
    clear H
    have H := H1
    clear H1
    simp only [Option.some.injEq, Prod.mk.injEq] at H
    obtain ⟨rfl, rfl⟩ := H
    go_enter Try.func12, Try.ntmps12
    go_wp2_with (first | ((with_reducible refine gate_callee (f := 20) rfl ?_); refine qgl (some 7) Try.func20 #[.slice A0 l0.length c0] ?_; (with_reducible refine (impl_AreMarks.calls k _ _ l0 false _ (qC HR0.out) HC0.out A3.out).mono ?_); rintro e w11 ⟨rfl, hb⟩; refine ⟨_, rfl, ?_⟩; replace HB := qbs HB hb; (try clear hb)))
    go_ret2
    exact ⟨_, qF, by first | exact Kd.R_nil _ _ _ _ _ | exact Kd.N_nil _ _ _ _ _ | exact Kd.V_nil _ _ _ _ _ | exact Kd.Q_nil _ _ _ _ _ | exact Kd.S_nil _ _ _ _ _, qB⟩

def laws_eqLatticeS.l0 : Nat → List (S25) → List (S25) → Int → Option (Bool)
  | 0, _, _, _ => none
  | k + 1, x0, x1, x5 => if x5 < (x0.length : Int) then (if 0 ≤ x5 then (if x5 < (x1.length : Int) then ((laws_eqLattice.f ((rd_T25 x0 x5).f0) ((rd_T25 x0 x5).f1) ((rd_T25 x0 x5).f2) ((rd_T25 x1 x5).f0) ((rd_T25 x1 x5).f1) ((rd_T25 x1 x5).f2)).bind fun t407 => (if t407 = true then (laws_eqLatticeS.l0 k x0 x1 (wrap64 (x5 + 1))) else (some false))) else (none)) else (none)) else (some true)
def laws_eqLatticeS.f (k : Nat) (l0 : List (S25)) (l1 : List (S25)) : Option (Bool) := if (l0.length : Int) = (l1.length : Int) then (laws_eqLatticeS.l0 k l0 l1 0) else (some false)
def laws_eqLatticeS.T6 : Bool × List (List Nat × List Nat) := (true, [([], []), ([], []), ([0, 1], [0, 1]), ([2], [2]), ([], []), ([], []), ([4, 5], [4, 5]), ([6], [6]), ([3, 7], [3, 7]), ([8], [8])])
def laws_eqLatticeS.B6 : List Nat := [0, 0, 3, 7, 0, 0, 48, 112, 255, 511]
theorem laws_eqLatticeS.tab6 : rtab .any (opsOf Try.f13 6) = laws_eqLatticeS.T6 := by kernel_rfl
theorem laws_eqLatticeS.bits6 : waitsOk laws_eqLatticeS.T6.2 laws_eqLatticeS.B6 = true := by kernel_rfl
set_option maxHeartbeats 8000000 in
set_option maxRecDepth 100000 in
theorem laws_eqLatticeS.calls (k : Nat) (A0 : Option Addr) (c0 : Nat) (l0 : List (S25)) (A1 : Option Addr) (c1 : Nat) (l1 : List (S25)) (r : Bool) (w : World) (hr0 : Kd.C k25 w A0 l0.length l0) (hc0 : l0.length ≤ c0) (hr1 : Kd.C k25 w A1 l1.length l1) (hc1 : l1.length ≤ c1) (h : laws_eqLatticeS.f k l0 l1 = some r) :
    Calls Try.prog 13 #[.slice A0 l0.length c0, .slice A1 l1.length c1] w fun e w' => e = .returned (.bool r) ∧ Below w.heap.size w w' := by
  have hu25 := Try.underlying25
  have HR0 := Aside0.mk hr0
  have HC0 := Aside0.mk hc0
  clear hr0 hc0
  have HR1 := Aside0.mk hr1
  have HC1 := Aside0.mk hc1
  clear hr1 hc1
  have HB := Aside0.mk (Below.refl w.heap.size w)
  have H : (if (l0.length : Int) = (l1.length : Int) then (laws_eqLatticeS.l0 k l0 l1 0) else (some false)) = some r := h
  clear h
  by_cases c3 : (l0.length : Int) = (l1.length : Int)
  · rw [if_pos c3] at H
    have c3b0 : ((l0.length : Int) == (l1.length : Int)) = true := beq_iff_eq.mpr c3
    have c3b1 : ((l0.length : Int) != (l1.length : Int)) = false := bne_eq_false_iff_eq.mpr c3
    have c3b2 : (l0.length == l1.length) = true := by first | simpa using c3 | (simp at c3 ⊢; omega)
    clear c3
    have H' := Aside0.mk H
    clear H
    go_enter Try.func13, Try.ntmps13
    go_wp2
    go_loopg [5] k (fun kq v5 w' => ∃ (x5_1 : Int), v5 = .int .i64 x5_1 ∧ Aside0 (laws_eqLatticeS.l0 kq l0 l1 x5_1 = some r) ∧ Aside0 (kq ≤ k) ∧ Aside0 (Below w.heap.size w w'))
    case atStart => exact ⟨(0), qf, H', ⟨Nat.le_refl _⟩, ⟨qB⟩⟩
    case round =>
      clear H'
      try clear c1
      try clear p2
      try clear c3
      try clear c3b0
      try clear c3b1
      try clear c3b2
      obtain ⟨x5_1, rfl, HA, HK1, HB⟩ := hrel
      cases gk with
      | zero => exact absurd HA.out (by simp [laws_eqLatticeS.l0])
      | succ k1 =>
        have H := HA.out
        clear HA
        simp only [laws_eqLatticeS.l0] at H
        by_cases c4 : x5_1 < (l0.length : Int)
        · rw [if_pos c4] at H
          have c4b0 : decide (x5_1 < (l0.length : Int)) = true := decide_eq_true c4
          clear c4
          by_cases c5 : 0 ≤ x5_1
          · rw [if_pos c5] at H
            have c5b0 : decide (0 ≤ x5_1) = true := decide_eq_true c5
            clear c5
            by_cases c6 : x5_1 < (l1.length : Int)
            · rw [if_pos c6] at H
              have c6b0 : decide (x5_1 < (l1.length : Int)) = true := decide_eq_true c6
              clear c6
              replace H := qbd H
              obtain ⟨t407, A7, H⟩ := H
              try dsimp only at H
              by_cases c8 : t407 = true
              · subst c8
                have H1 : (laws_eqLatticeS.l0 k1 l0 l1 (wrap64 (x5_1 + 1))) = some r := by rw [if_pos rfl] at H; exact H
                clear H
                have H := H1
                clear H1
                have H' := Aside0.mk H
                clear H
                try go_wp2
                replace HB := Aside0.mk (below_drew1 HB.out)
                have p405 : 0 ≤ (x5_1 : Int) := qo
                have q405 : x5_1 < (l0.length : Int) := qo
                obtain ⟨ad405, e405, hx405_0, hx405_1, hx405_2⟩ := at_T25 HR0.out x5_1 p405 q405
                have hw405_2 := hx405_2
                have hw405_1 := hx405_1
                have hw405_0 := hx405_0
                cases e405
                replace hx405_0 := (HB.out.cell (World.block_lt_of_cell? w _ hx405_0)).trans hx405_0
                replace hx405_1 := (HB.out.cell (World.block_lt_of_cell? w _ hx405_1)).trans hx405_1
                replace hx405_2 := (HB.out.cell (World.block_lt_of_cell? w _ hx405_2)).trans hx405_2
                replace p405 := eq_true p405
                replace q405 := eq_true q405
                have p406 : 0 ≤ (x5_1 : Int) := qo
                have q406 : x5_1 < (l1.length : Int) := qo
                obtain ⟨ad406, e406, hx406_0, hx406_1, hx406_2⟩ := at_T25 HR1.out x5_1 p406 q406
                have hw406_2 := hx406_2
                have hw406_1 := hx406_1
                have hw406_0 := hx406_0
                cases e406
                replace hx406_0 := (HB.out.cell (World.block_lt_of_cell? w _ hx406_0)).trans hx406_0
                replace hx406_1 := (HB.out.cell (World.block_lt_of_cell? w _ hx406_1)).trans hx406_1
                replace hx406_2 := (HB.out.cell (World.block_lt_of_cell? w _ hx406_2)).trans hx406_2
                replace p406 := eq_true p406
                replace q406 := eq_true q406
                refine start_ (n := 10) (S := fun w' => w'.cell? (ad405.add ((x5_1).toNat * 3)) = some (.int .i64 ((rd_T25 l0 x5_1).f0)) ∧ w'.cell? ⟨(ad405.add ((x5_1).toNat * 3)).block, (ad405.add ((x5_1).toNat * 3)).off + 1, none⟩ = some (.int .i64 ((rd_T25 l0 x5_1).f1)) ∧ w'.cell? ⟨(ad405.add ((x5_1).toNat * 3)).block, (ad405.add ((x5_1).toNat * 3)).off + 2, none⟩ = some (.int .i64 ((rd_T25 l0 x5_1).f2)) ∧ w'.cell? (ad406.add ((x5_1).toNat * 3)) = some (.int .i64 ((rd_T25 l1 x5_1).f0)) ∧ w'.cell? ⟨(ad406.add ((x5_1).toNat * 3)).block, (ad406.add ((x5_1).toNat * 3)).off + 1, none⟩ = some (.int .i64 ((rd_T25 l1 x5_1).f1)) ∧ w'.cell? ⟨(ad406.add ((x5_1).toNat * 3)).block, (ad406.add ((x5_1).toNat * 3)).off + 2, none⟩ = some (.int .i64 ((rd_T25 l1 x5_1).f2))) (ds := []) #[false, false, false, false, false, false, false, false, false, false] (by kernel_rfl) rfl rfl ⟨((HB.out.cell (World.block_lt_of_cell? w _ hw405_0)).trans hw405_0), ((HB.out.cell (World.block_lt_of_cell? w _ hw405_1)).trans hw405_1), ((HB.out.cell (World.block_lt_of_cell? w _ hw405_2)).trans hw405_2), ((HB.out.cell (World.block_lt_of_cell? w _ hw406_0)).trans hw406_0), ((HB.out.cell (World.block_lt_of_cell? w _ hw406_1)).trans hw406_1), ((HB.out.cell (World.block_lt_of_cell? w _ hw406_2)).trans hw406_2)⟩ (fun hHeld => ?_); refine with_tabW laws_eqLatticeS.tab6 laws_eqLatticeS.bits6 (fun HT_ HW_ => ?_)
                generalize wr.drew = w9 at HB hx405_0 hx405_1 hx405_2 hx406_0 hx406_1 hx406_2 hHeld ⊢
                refine pure_ (i := 0) (N := some 17) (v := ?_) (a' := ?_) #[true, false, false, false, false, false, false, false, false, false] rfl rfl (any_of HT_.out (by kernel_rfl)) (fun _ _ _ h => h) (Or.inl ⟨by rfl, ?_⟩) ?_ ?_
                rotate_left
                · intro w'
                  go_simp
                  with_reducible rfl
                rotate_left
                · simp only [Act.put, List.setIfInBounds_toArray, List.set_cons_zero, List.set_cons_succ, i64_w, i32_w]
                  rfl
                refine pure_ (i := 1) (N := some 18) (v := ?_) (a' := ?_) #[true, true, false, false, false, false, false, false, false, false] rfl rfl (any_of HT_.out (by kernel_rfl)) (fun _ _ _ h => h) (Or.inl ⟨by rfl, ?_⟩) ?_ ?_
                rotate_left
                · intro w'
                  go_simp
                  with_reducible rfl
                rotate_left
                · simp only [Act.put, List.setIfInBounds_toArray, List.set_cons_zero, List.set_cons_succ, i64_w, i32_w]
                  rfl
                refine pure_ (i := 2) (N := some 19) (v := ?_) (a' := ?_) #[true, true, true, false, false, false, false, false, false, false] rfl rfl (any_of HT_.out (by kernel_rfl)) (fun _ _ _ h => h) (Or.inl ⟨by rfl, ?_⟩) ?_ ?_
                rotate_left
                · intro w'
                  go_simp
                  with_reducible rfl
                rotate_left
                · simp only [Act.put, List.setIfInBounds_toArray, List.set_cons_zero, List.set_cons_succ, i64_w, i32_w]
                  rfl
                refine pure_ (i := 4) (N := some 21) (v := ?_) (a' := ?_) #[true, true, true, false, true, false, false, false, false, false] rfl rfl (any_of HT_.out (by kernel_rfl)) (fun _ _ _ h => h) (Or.inl ⟨by rfl, ?_⟩) ?_ ?_
                rotate_left
                · intro w'
                  go_simp
                  with_reducible rfl
                rotate_left
                · simp only [Act.put, List.setIfInBounds_toArray, List.set_cons_zero, List.set_cons_succ, i64_w, i32_w]
                  rfl
                refine pure_ (i := 5) (N := some 22) (v := ?_) (a' := ?_) #[true, true, true, false, true, true, false, false, false, false] rfl rfl (any_of HT_.out (by kernel_rfl)) (fun _ _ _ h => h) (Or.inl ⟨by rfl, ?_⟩) ?_ ?_
                rotate_left
                · intro w'
                  go_simp
                  with_reducible rfl
                rotate_left
                · simp only [Act.put, List.setIfInBounds_toArray, List.set_cons_zero, List.set_cons_succ, i64_w, i32_w]
                  rfl
                refine pure_ (i := 6) (N := some 23) (v := ?_) (a' := ?_) #[true, true, true, false, true, true, true, false, false, false] rfl rfl (any_of HT_.out (by kernel_rfl)) (fun _ _ _ h => h) (Or.inl ⟨by rfl, ?_⟩) ?_ ?_
                rotate_left
                · intro w'
                  go_simp
                  with_reducible rfl
                rotate_left
                · simp only [Act.put, List.setIfInBounds_toArray, List.set_cons_zero, List.set_cons_succ, i64_w, i32_w]
                  rfl
                refine take_ (i := 3) (N := some 20) (v := ?_) (a' := ?_) #[true, true, true, true, true, true, true, false, false, false] rfl rfl (take_ofW HT_.out HW_.out (by kernel_rfl)) (fun _ _ _ h => h) (Or.inl ⟨by rfl, ?_⟩) hHeld ?_ ?_
                rotate_left
                · rintro w' ⟨s0, s1, s2, s3, s4, s5⟩
                  go_simp
                  with_reducible rfl
                rotate_left
                · simp only [Act.put, List.setIfInBounds_toArray, List.set_cons_zero, List.set_cons_succ, i64_w, i32_w]
                  rfl
                refine take_ (i := 7) (N := some 24) (v := ?_) (a' := ?_) #[true, true, true, true, true, true, true, true, false, false] rfl rfl (take_ofW HT_.out HW_.out (by kernel_rfl)) (fun _ _ _ h => h) (Or.inl ⟨by rfl, ?_⟩) hHeld ?_ ?_
                rotate_left
                · rintro w' ⟨s0, s1, s2, s3, s4, s5⟩
                  go_simp
                  with_reducible rfl
                rotate_left
                · simp only [Act.put, List.setIfInBounds_toArray, List.set_cons_zero, List.set_cons_succ, i64_w, i32_w]
                  rfl
                refine one_ (i := 8) (N := some 25) #[true, true, true, true, true, true, true, true, true, false] rfl rfl (one_of HT_.out (by kernel_rfl)) (by decide) (fun K hK => ?_)
                refine qgo Try.func9 #[.agg #[.int .i64 ((rd_T25 l0 x5_1).f0), .int .i64 ((rd_T25 l0 x5_1).f1), .int .i64 ((rd_T25 l0 x5_1).f2)], .agg #[.int .i64 ((rd_T25 l1 x5_1).f0), .int .i64 ((rd_T25 l1 x5_1).f1), .int .i64 ((rd_T25 l1 x5_1).f2)]] ?_
                with_reducible refine (laws_eqLattice.calls ((rd_T25 l0 x5_1).f0) ((rd_T25 l0 x5_1).f1) ((rd_T25 l0 x5_1).f2) ((rd_T25 l1 x5_1).f0) ((rd_T25 l1 x5_1).f1) ((rd_T25 l1 x5_1).f2) true _ A7.out).mono ?_
                rintro e w10 ⟨rfl, hb⟩
                refine ⟨_, rfl, ?_⟩
                replace HB := qbs HB hb
                (try clear hb)
                (try clear hb2)
                (try clear hk)
                (try clear hi)
                refine hK.out _ _ ⟨((HB.out.cell (World.block_lt_of_cell? w _ hw405_0)).trans hw405_0), ((HB.out.cell (World.block_lt_of_cell? w _ hw405_1)).trans hw405_1), ((HB.out.cell (World.block_lt_of_cell? w _ hw405_2)).trans hw405_2), ((HB.out.cell (World.block_lt_of_cell? w _ hw406_0)).trans hw406_0), ((HB.out.cell (World.block_lt_of_cell? w _ hw406_1)).trans hw406_1), ((HB.out.cell (World.block_lt_of_cell? w _ hw406_2)).trans hw406_2)⟩ (fun hHeld => ?_)
                clear hK K
                refine norm_ (a' := ?_) ?_ ?_
                rotate_left
                · show Act.put _ (some 25) _ = _
                  simp only [Act.put, List.setIfInBounds_toArray, List.set_cons_zero, List.set_cons_succ, i64_w, i32_w]
                  rfl
                refine pure_ (i := 9) (N := some 26) (v := ?_) (a' := ?_) #[true, true, true, true, true, true, true, true, true, true] rfl rfl (any_of HT_.out (by kernel_rfl)) (fun _ _ _ h => h) (Or.inl ⟨by rfl, ?_⟩) ?_ ?_
                rotate_left
                · intro w'
                  go_simp
                  with_reducible rfl
                rotate_left
                · simp only [Act.put, List.setIfInBounds_toArray, List.set_cons_zero, List.set_cons_succ, i64_w, i32_w]
                  rfl
                refine done_ (done_of HT_.out (by kernel_rfl)) ?_
                try go_wp2
                go_roundg k1
                case measure => have := HK1.out; omega
                case rel => exact ⟨(wrap64 (x5_1 + 1)), qf, H', ⟨by have := HK1.out; omega⟩, ⟨qB⟩⟩
              · replace c8 := Bool.eq_false_iff.mpr c8
                subst c8
                have H1 : (some false) = some r := by rw [if_neg (show ¬ (false = true) by decide)] at H; exact H
                clear H
                have H := H1
                clear H1
                obtain rfl := Option.some.inj H
                try go_wp2
                replace HB := Aside0.mk (below_drew1 HB.out)
                have p405 : 0 ≤ (x5_1 : Int) := qo
                have q405 : x5_1 < (l0.length : Int) := qo
                obtain ⟨ad405, e405, hx405_0, hx405_1, hx405_2⟩ := at_T25 HR0.out x5_1 p405 q405
                have hw405_2 := hx405_2
                have hw405_1 := hx405_1
                have hw405_0 := hx405_0
                cases e405
                replace hx405_0 := (HB.out.cell (World.block_lt_of_cell? w _ hx405_0)).trans hx405_0
                replace hx405_1 := (HB.out.cell (World.block_lt_of_cell? w _ hx405_1)).trans hx405_1
                replace hx405_2 := (HB.out.cell (World.block_lt_of_cell? w _ hx405_2)).trans hx405_2
                replace p405 := eq_true p405
                replace q405 := eq_true q405
                have p406 : 0 ≤ (x5_1 : Int) := qo
                have q406 : x5_1 < (l1.length : Int) := qo
                obtain ⟨ad406, e406, hx406_0, hx406_1, hx406_2⟩ := at_T25 HR1.out x5_1 p406 q406
                have hw406_2 := hx406_2
                have hw406_1 := hx406_1
                have hw406_0 := hx406_0
                cases e406
                replace hx406_0 := (HB.out.cell (World.block_lt_of_cell? w _ hx406_0)).trans hx406_0
                replace hx406_1 := (HB.out.cell (World.block_lt_of_cell? w _ hx406_1)).trans hx406_1
                replace hx406_2 := (HB.out.cell (World.block_lt_of_cell? w _ hx406_2)).trans hx406_2
                replace p406 := eq_true p406
                replace q406 := eq_true q406
                refine start_ (n := 10) (S := fun w' => w'.cell? (ad405.add ((x5_1).toNat * 3)) = some (.int .i64 ((rd_T25 l0 x5_1).f0)) ∧ w'.cell? ⟨(ad405.add ((x5_1).toNat * 3)).block, (ad405.add ((x5_1).toNat * 3)).off + 1, none⟩ = some (.int .i64 ((rd_T25 l0 x5_1).f1)) ∧ w'.cell? ⟨(ad405.add ((x5_1).toNat * 3)).block, (ad405.add ((x5_1).toNat * 3)).off + 2, none⟩ = some (.int .i64 ((rd_T25 l0 x5_1).f2)) ∧ w'.cell? (ad406.add ((x5_1).toNat * 3)) = some (.int .i64 ((rd_T25 l1 x5_1).f0)) ∧ w'.cell? ⟨(ad406.add ((x5_1).toNat * 3)).block, (ad406.add ((x5_1).toNat * 3)).off + 1, none⟩ = some (.int .i64 ((rd_T25 l1 x5_1).f1)) ∧ w'.cell? ⟨(ad406.add ((x5_1).toNat * 3)).block, (ad406.add ((x5_1).toNat * 3)).off + 2, none⟩ = some (.int .i64 ((rd_T25 l1 x5_1).f2))) (ds := []) #[false, false, false, false, false, false, false, false, false, false] (by kernel_rfl) rfl rfl ⟨((HB.out.cell (World.block_lt_of_cell? w _ hw405_0)).trans hw405_0), ((HB.out.cell (World.block_lt_of_cell? w _ hw405_1)).trans hw405_1), ((HB.out.cell (World.block_lt_of_cell? w _ hw405_2)).trans hw405_2), ((HB.out.cell (World.block_lt_of_cell? w _ hw406_0)).trans hw406_0), ((HB.out.cell (World.block_lt_of_cell? w _ hw406_1)).trans hw406_1), ((HB.out.cell (World.block_lt_of_cell? w _ hw406_2)).trans hw406_2)⟩ (fun hHeld => ?_); refine with_tabW laws_eqLatticeS.tab6 laws_eqLatticeS.bits6 (fun HT_ HW_ => ?_)
                generalize wr.drew = w11 at HB hx405_0 hx405_1 hx405_2 hx406_0 hx406_1 hx406_2 hHeld ⊢
                refine pure_ (i := 0) (N := some 17) (v := ?_) (a' := ?_) #[true, false, false, false, false, false, false, false, false, false] rfl rfl (any_of HT_.out (by kernel_rfl)) (fun _ _ _ h => h) (Or.inl ⟨by rfl, ?_⟩) ?_ ?_
                rotate_left
                · intro w'
                  go_simp
                  with_reducible rfl
                rotate_left
                · simp only [Act.put, List.setIfInBounds_toArray, List.set_cons_zero, List.set_cons_succ, i64_w, i32_w]
                  rfl
                refine pure_ (i := 1) (N := some 18) (v := ?_) (a' := ?_) #[true, true, false, false, false, false, false, false, false, false] rfl rfl (any_of HT_.out (by kernel_rfl)) (fun _ _ _ h => h) (Or.inl ⟨by rfl, ?_⟩) ?_ ?_
                rotate_left
                · intro w'
                  go_simp
                  with_reducible rfl
                rotate_left
                · simp only [Act.put, List.setIfInBounds_toArray, List.set_cons_zero, List.set_cons_succ, i64_w, i32_w]
                  rfl
                refine pure_ (i := 2) (N := some 19) (v := ?_) (a' := ?_) #[true, true, true, false, false, false, false, false, false, false] rfl rfl (any_of HT_.out (by kernel_rfl)) (fun _ _ _ h => h) (Or.inl ⟨by rfl, ?_⟩) ?_ ?_
                rotate_left
                · intro w'
                  go_simp
                  with_reducible rfl
                rotate_left
                · simp only [Act.put, List.setIfInBounds_toArray, List.set_cons_zero, List.set_cons_succ, i64_w, i32_w]
                  rfl
                refine pure_ (i := 4) (N := some 21) (v := ?_) (a' := ?_) #[true, true, true, false, true, false, false, false, false, false] rfl rfl (any_of HT_.out (by kernel_rfl)) (fun _ _ _ h => h) (Or.inl ⟨by rfl, ?_⟩) ?_ ?_
                rotate_left
                · intro w'
                  go_simp
                  with_reducible rfl
                rotate_left
                · simp only [Act.put, List.setIfInBounds_toArray, List.set_cons_zero, List.set_cons_succ, i64_w, i32_w]
                  rfl
                refine pure_ (i := 5) (N := some 22) (v := ?_) (a' := ?_) #[true, true, true, false, true, true, false, false, false, false] rfl rfl (any_of HT_.out (by kernel_rfl)) (fun _ _ _ h => h) (Or.inl ⟨by rfl, ?_⟩) ?_ ?_
                rotate_left
                · intro w'
                  go_simp
                  with_reducible rfl
                rotate_left
                · simp only [Act.put, List.setIfInBounds_toArray, List.set_cons_zero, List.set_cons_succ, i64_w, i32_w]
                  rfl
                refine pure_ (i := 6) (N := some 23) (v := ?_) (a' := ?_) #[true, true, true, false, true, true, true, false, false, false] rfl rfl (any_of HT_.out (by kernel_rfl)) (fun _ _ _ h => h) (Or.inl ⟨by rfl, ?_⟩) ?_ ?_
                rotate_left
                · intro w'
                  go_simp
                  with_reducible rfl
                rotate_left
                · simp only [Act.put, List.setIfInBounds_toArray, List.set_cons_zero, List.set_cons_succ, i64_w, i32_w]
                  rfl
                refine take_ (i := 3) (N := some 20) (v := ?_) (a' := ?_) #[true, true, true, true, true, true, true, false, false, false] rfl rfl (take_ofW HT_.out HW_.out (by kernel_rfl)) (fun _ _ _ h => h) (Or.inl ⟨by rfl, ?_⟩) hHeld ?_ ?_
                rotate_left
                · rintro w' ⟨s0, s1, s2, s3, s4, s5⟩
                  go_simp
                  with_reducible rfl
                rotate_left
                · simp only [Act.put, List.setIfInBounds_toArray, List.set_cons_zero, List.set_cons_succ, i64_w, i32_w]
                  rfl
                refine take_ (i := 7) (N := some 24) (v := ?_) (a' := ?_) #[true, true, true, true, true, true, true, true, false, false] rfl rfl (take_ofW HT_.out HW_.out (by kernel_rfl)) (fun _ _ _ h => h) (Or.inl ⟨by rfl, ?_⟩) hHeld ?_ ?_
                rotate_left
                · rintro w' ⟨s0, s1, s2, s3, s4, s5⟩
                  go_simp
                  with_reducible rfl
                rotate_left
                · simp only [Act.put, List.setIfInBounds_toArray, List.set_cons_zero, List.set_cons_succ, i64_w, i32_w]
                  rfl
                refine one_ (i := 8) (N := some 25) #[true, true, true, true, true, true, true, true, true, false] rfl rfl (one_of HT_.out (by kernel_rfl)) (by decide) (fun K hK => ?_)
                refine qgo Try.func9 #[.agg #[.int .i64 ((rd_T25 l0 x5_1).f0), .int .i64 ((rd_T25 l0 x5_1).f1), .int .i64 ((rd_T25 l0 x5_1).f2)], .agg #[.int .i64 ((rd_T25 l1 x5_1).f0), .int .i64 ((rd_T25 l1 x5_1).f1), .int .i64 ((rd_T25 l1 x5_1).f2)]] ?_
                with_reducible refine (laws_eqLattice.calls ((rd_T25 l0 x5_1).f0) ((rd_T25 l0 x5_1).f1) ((rd_T25 l0 x5_1).f2) ((rd_T25 l1 x5_1).f0) ((rd_T25 l1 x5_1).f1) ((rd_T25 l1 x5_1).f2) false _ A7.out).mono ?_
                rintro e w12 ⟨rfl, hb⟩
                refine ⟨_, rfl, ?_⟩
                replace HB := qbs HB hb
                (try clear hb)
                (try clear hb2)
                (try clear hk)
                (try clear hi)
                refine hK.out _ _ ⟨((HB.out.cell (World.block_lt_of_cell? w _ hw405_0)).trans hw405_0), ((HB.out.cell (World.block_lt_of_cell? w _ hw405_1)).trans hw405_1), ((HB.out.cell (World.block_lt_of_cell? w _ hw405_2)).trans hw405_2), ((HB.out.cell (World.block_lt_of_cell? w _ hw406_0)).trans hw406_0), ((HB.out.cell (World.block_lt_of_cell? w _ hw406_1)).trans hw406_1), ((HB.out.cell (World.block_lt_of_cell? w _ hw406_2)).trans hw406_2)⟩ (fun hHeld => ?_)
                clear hK K
                refine norm_ (a' := ?_) ?_ ?_
                rotate_left
                · show Act.put _ (some 25) _ = _
                  simp only [Act.put, List.setIfInBounds_toArray, List.set_cons_zero, List.set_cons_succ, i64_w, i32_w]
                  rfl
                refine pure_ (i := 9) (N := some 26) (v := ?_) (a' := ?_) #[true, true, true, true, true, true, true, true, true, true] rfl rfl (any_of HT_.out (by kernel_rfl)) (fun _ _ _ h => h) (Or.inl ⟨by rfl, ?_⟩) ?_ ?_
                rotate_left
                · intro w'
                  go_simp
                  with_reducible rfl
                rotate_left
                · simp only [Act.put, List.setIfInBounds_toArray, List.set_cons_zero, List.set_cons_succ, i64_w, i32_w]
                  rfl
                refine done_ (done_of HT_.out (by kernel_rfl)) ?_
                try go_wp2
                go_ret
                exact ⟨qF, qB⟩
            · rw [if_neg c6] at H
              exact absurd H (by simp)
          · rw [if_neg c5] at H
            exact absurd H (by simp)
        · rw [if_neg c4] at H
          have c4b0 : decide (x5_1 < (l0.length : Int)) = false := decide_eq_false c4
          clear c4
          obtain rfl := Option.some.inj H
          go_wp2
          go_ret
          exact ⟨qF, qB⟩
  · rw [if_neg c3] at H
    have c3b0 : ((l0.length : Int) == (l1.length : Int)) = false := beq_eq_false_iff_ne.mpr c3
    have c3b1 : ((l0.length : Int) != (l1.length : Int)) = true := bne_iff_ne.mpr c3
    have c3b2 : (l0.length == l1.length) = false := by first | simpa using c3 | (simp at c3 ⊢; omega)
    obtain rfl := Option.some.inj H
    go_enter Try.func13, Try.ntmps13
    go_wp2
    go_ret
    exact ⟨qF, qB⟩

end Go.Proofs.Ytoajccbmikmjdaa.X

-- PRINTED by print.py (a twelfth state) out of the translation. Not trusted: Lean checks it.
import Derived.Test.YtoajccbmikmjdaaXQ
import Derived.Test.YtoajccbmikmjdaaX0
import Derived.Test.YtoajccbmikmjdaaX2
import Derived.Test.YtoajccbmikmjdaaX4
import Derived.Test.YtoajccbmikmjdaaX10
import Derived.Test.YtoajccbmikmjdaaX11
import Derived.Test.YtoajccbmikmjdaaX12
namespace Go.Proofs.Ytoajccbmikmjdaa.X
open Go.RowKit Go.Proofs.YtoajccbmikmjdaaX Go.Proofs.YtoajccbmikmjdaaW.PrintWords Go.Proofs.YtoajccbmikmjdaaW.PrintLast Go.Proofs.YtoajccbmikmjdaaW.PrintMore
attribute [local go_sem] max2_int min2_int max_two min_two max_three min_three max_four min_four   -- for this text's walks alone
set_option linter.unusedVariables false
set_option linter.unusedSimpArgs false

mutual
def laws_FnExactFittingLattices.j0 : Nat → List (S49) → Int → List (S25) → Int → List (S45) → List (S25) → Int → Bool → Option (Bool)
  | 0, _, _, _, _, _, _, _, _ => none
  | k + 1, x0, x1, x6, x7, x8, x9, x10, x44 => if x44 = true then (some false) else ((laws_toMarkS.f k x0).bind fun t433 => ((laws_eqMarkS.f k x8 t433).bind fun t436 => (if t436 = true then ((laws_markMarkS.f k x8 1).bind fun bt437 => (if bt437.1 < 0 then (laws_FnExactFittingLattices.j1 k x0 x1 x6 x7 x9 true) else ((laws_eqLatticeS.f k x9 x6).bind fun t439 => (if t439 = true then (laws_FnExactFittingLattices.j1 k x0 x1 x6 x7 x9 (x10 != x7)) else (laws_FnExactFittingLattices.j1 k x0 x1 x6 x7 x9 true))))) else (some false))))
def laws_FnExactFittingLattices.j1 : Nat → List (S49) → Int → List (S25) → Int → List (S25) → Bool → Option (Bool)
  | 0, _, _, _, _, _, _ => none
  | k + 1, x0, x1, x6, x7, x9, x65 => if x65 = true then (some false) else ((laws_markLatticeS.f k x9 1).bind fun bt440 => ((laws_heldLatticeS.f k bt440.2 1).bind fun t442 => (if t442 < 0 then (some false) else (if t442 = bt440.1 then ((laws_toMarkS.f k x0).bind fun t443 => ((impl_FittingLattices.f k t443 x1).bind fun bt446 => ((laws_eqLatticeS.f k bt446.1 x6).bind fun t450 => (if t450 = true then (laws_FnExactFittingLattices.j2 k bt440.2 bt440.1 (bt446.2 != x7)) else (laws_FnExactFittingLattices.j2 k bt440.2 bt440.1 true))))) else (some false)))))
def laws_FnExactFittingLattices.j2 : Nat → List (S25) → Int → Bool → Option (Bool)
  | 0, _, _, _ => none
  | k + 1, x9, x12, x92 => if x92 = true then (some false) else ((laws_heldLatticeS.f k x9 1).bind fun t451 => (if t451 < 0 then (some false) else (if t451 = x12 then (some true) else (some false))))
end
def laws_FnExactFittingLattices.f (k : Nat) (l0 : List (S49)) (a1 : Int) : Option (Bool) := (laws_szMarkS.f l0 1048576).bind fun t417 => (if t417 < 0 then (some true) else ((laws_toMarkS.f k l0).bind fun t418 => ((spec_FittingLattices.f k t418 a1).bind fun bt421 => ((laws_toMarkS.f k l0).bind fun t425 => ((impl_FittingLattices.f k t425 a1).bind fun bt428 => ((laws_eqLatticeS.f k bt428.1 bt421.1).bind fun t432 => (if t432 = true then (laws_FnExactFittingLattices.j0 k l0 a1 bt421.1 bt421.2 t425 bt428.1 bt428.2 (bt428.2 != bt421.2)) else (laws_FnExactFittingLattices.j0 k l0 a1 bt421.1 bt421.2 t425 bt428.1 bt428.2 true))))))))
set_option maxHeartbeats 8000000 in
set_option maxRecDepth 100000 in
theorem laws_FnExactFittingLattices.calls (k : Nat) (A0 : Option Addr) (c0 : Nat) (l0 : List (S49)) (a1 : Int) (r : Bool) (w : World) (hr0 : Kd.C k49 w A0 l0.length l0) (hc0 : l0.length ≤ c0) (h : laws_FnExactFittingLattices.f k l0 a1 = some r) :
    Calls Try.prog 4 #[.slice A0 l0.length c0, .int .i64 a1] w fun e w' => e = .returned (.bool r) ∧ Below w.heap.size w w' := by
  have HR0 := Aside0.mk hr0
  have HC0 := Aside0.mk hc0
  clear hr0 hc0
  have HB := Aside0.mk (Below.refl w.heap.size w)
  have H : ((laws_szMarkS.f l0 1048576).bind fun t417 => (if t417 < 0 then (some true) else ((laws_toMarkS.f k l0).bind fun t418 => ((spec_FittingLattices.f k t418 a1).bind fun bt421 => ((laws_toMarkS.f k l0).bind fun t425 => ((impl_FittingLattices.f k t425 a1).bind fun bt428 => ((laws_eqLatticeS.f k bt428.1 bt421.1).bind fun t432 => (if t432 = true then (laws_FnExactFittingLattices.j0 k l0 a1 bt421.1 bt421.2 t425 bt428.1 bt428.2 (bt428.2 != bt421.2)) else (laws_FnExactFittingLattices.j0 k l0 a1 bt421.1 bt421.2 t425 bt428.1 bt428.2 true))))))))) = some r := h
  clear h
  replace H := qbd H
  obtain ⟨t417, A3, H⟩ := H
  try dsimp only at H
  by_cases c4 : t417 < 0
  · rw [if_pos c4] at H
    have c4b0 : decide (t417 < 0) = true := decide_eq_true c4
    clear c4
    obtain rfl := Option.some.inj H
    go_enter Try.func4, Try.ntmps4
    go_wp2_with (first | ((with_reducible refine gate_callee (f := 5) rfl ?_); refine qgl (some 18) Try.func5 #[.slice A0 l0.length c0, .int .i64 1048576] ?_; (with_reducible refine (laws_szMarkS.calls _ _ l0 1048576 t417 _ (qC HR0.out) HC0.out A3.out).mono ?_); rintro e w' ⟨rfl, ⟨nd, rfl⟩⟩; refine ⟨_, rfl, ?_⟩))
    go_ret
    exact ⟨qF, qB⟩
  · rw [if_neg c4] at H
    have c4b0 : decide (t417 < 0) = false := decide_eq_false c4
    clear c4
    replace H := qbd H
    obtain ⟨t418, A5, H⟩ := H
    try dsimp only at H
    replace H := qbd H
    obtain ⟨⟨t421, t422⟩, A6, H⟩ := H
    try dsimp only at H
    replace H := qbd H
    obtain ⟨t425, A7, H⟩ := H
    try dsimp only at H
    replace H := qbd H
    obtain ⟨⟨t428, t429⟩, A8, H⟩ := H
    try dsimp only at H
    have HC9 := Aside0.mk H
    clear H
    go_enter Try.func4, Try.ntmps4
    go_upto_region 8 with (first | ((with_reducible refine gate_callee (f := 5) rfl ?_); refine qgl (some 18) Try.func5 #[.slice A0 l0.length c0, .int .i64 1048576] ?_; (with_reducible refine (laws_szMarkS.calls _ _ l0 1048576 t417 _ (qC HR0.out) HC0.out A3.out).mono ?_); rintro e w' ⟨rfl, ⟨nd, rfl⟩⟩; refine ⟨_, rfl, ?_⟩) | ((with_reducible refine gate_callee (f := 7) rfl ?_); refine qgl (some 23) Try.func7 #[.slice A0 l0.length c0] ?_; (with_reducible refine (laws_toMarkS.calls k _ _ l0 t418 _ (qC HR0.out) HC0.out A5.out).mono ?_); rintro e w10 ⟨v419, rfl, ho0, hb⟩; refine ⟨_, rfl, ?_⟩; have HO420 := Aside0.mk (Kd.R_lower ho0 (below_size qB)); replace HB := qbs HB hb; (try clear hb); (try clear ho0); obtain ⟨Ao11, co11, eo11⟩ := Kd.R_slice HO420.out; subst eo11) | ((with_reducible refine gate_callee (f := 11) rfl ?_); refine qgl (some 25) Try.func11 #[.slice Ao11 t418.length co11, .int .i64 a1] ?_; (with_reducible refine (spec_FittingLattices.calls k _ _ t418 a1 t421 t422 _ (qC ((Kd.R_reads' HO420.out).2.2)) ((Kd.R_reads' HO420.out).2.1) A6.out).mono ?_); rintro e w12 ⟨v423, rfl, ho0, hb⟩; refine ⟨_, rfl, ?_⟩; replace HO420 := Aside0.mk (Kd.R_below (qR HO420.out) hb); have HO424 := Aside0.mk (Kd.R_lower ho0 (below_size qB)); replace HB := qbs HB hb; (try clear hb); (try clear ho0)) | ((with_reducible refine gate_callee (f := 7) rfl ?_); refine qgl (some 29) Try.func7 #[.slice A0 l0.length c0] ?_; (with_reducible refine (laws_toMarkS.calls k _ _ l0 t425 _ (qC (Kd.C_below HR0.out HB.out)) HC0.out A7.out).mono ?_); rintro e w13 ⟨v426, rfl, ho0, hb⟩; refine ⟨_, rfl, ?_⟩; replace HO424 := Aside0.mk (Kd.R_below (qR HO424.out) hb); have HO427 := Aside0.mk (Kd.R_lower (Kd.R_new' ho0 (Kd.R_lt (qR HO420.out))) (below_size qB)); replace HO420 := Aside0.mk (Kd.R_elder' (qR HO420.out) (Kd.R_base ho0) hb); replace HB := qbs HB hb; (try clear hb); (try clear ho0); obtain ⟨Ao14, co14, eo14⟩ := Kd.R_slice HO427.out; subst eo14) | ((with_reducible refine gate_callee (f := 12) rfl ?_); refine qgl (some 33) Try.func12 #[.slice Ao14 t425.length co14, .int .i64 a1] ?_; (with_reducible refine (impl_FittingLattices.calls k _ _ t425 a1 t428 t429 _ (qC ((Kd.R_reads' HO427.out).2.2)) ((Kd.R_reads' HO427.out).2.1) A8.out).mono ?_); rintro e w15 ⟨v430, rfl, ho0, hb⟩; refine ⟨_, rfl, ?_⟩; replace HO420 := Aside0.mk (Kd.R_below (qR HO420.out) hb); replace HO427 := Aside0.mk (Kd.R_below (qR HO427.out) hb); have HO431 := Aside0.mk (Kd.R_lower (Kd.R_new' ho0 (Kd.R_lt (qR HO424.out))) (below_size qB)); replace HO424 := Aside0.mk (Kd.R_elder' (qR HO424.out) (Kd.R_base ho0) hb); replace HB := qbs HB hb; (try clear hb); (try clear ho0)))
    (try simp only [Act.put, List.setIfInBounds_toArray, List.set_cons_zero, List.set_cons_succ])
    go_cut [44] (fun v44 wc => ∃ (kq : Nat) (x44_8 : Bool), v44 = .bool x44_8 ∧ Aside0 (laws_FnExactFittingLattices.j0 kq l0 a1 t421 t422 t425 t428 t429 x44_8 = some r) ∧ Aside0 (kq ≤ k) ∧ Aside0 (Kd.R k25 25 wc w.heap.size (fun k_ => some k_ ≠ (v430 : Value).ownBlock) v423 t421) ∧ Aside0 (Kd.R k45 45 wc w.heap.size (fun _ => True) (.slice Ao14 t425.length co14) t425) ∧ Aside0 (Kd.R k25 25 wc w.heap.size (fun k_ => some k_ ≠ (v423 : Value).ownBlock) v430 t428) ∧ Aside0 (Below w.heap.size w wc))
    case first =>
      have H := HC9.out
      clear HC9
      replace H := qbd H
      obtain ⟨t432, A16, H⟩ := H
      try dsimp only at H
      by_cases c17 : t432 = true
      · subst c17
        have H1 : (laws_FnExactFittingLattices.j0 k l0 a1 t421 t422 t425 t428 t429 (t429 != t422)) = some r := by rw [if_pos rfl] at H; exact H
        clear H
        have H := H1
        clear H1
        have H' := Aside0.mk H
        clear H
        obtain ⟨Ao18, co18, eo18⟩ := Kd.R_slice HO431.out
        subst eo18
        obtain ⟨Ao19, co19, eo19⟩ := Kd.R_slice HO424.out
        subst eo19
        go_wp2_with (first | ((with_reducible refine gate_callee (f := 13) rfl ?_); refine qgl (some 38) Try.func13 #[.slice Ao18 t428.length co18, .slice Ao19 t421.length co19] ?_; (with_reducible refine (laws_eqLatticeS.calls k _ _ t428 _ _ t421 true _ (qC ((Kd.R_reads' HO431.out).2.2)) ((Kd.R_reads' HO431.out).2.1) (qC ((Kd.R_reads' HO424.out).2.2)) ((Kd.R_reads' HO424.out).2.1) A16.out).mono ?_); rintro e w20 ⟨rfl, hb⟩; refine ⟨_, rfl, ?_⟩; replace HO420 := Aside0.mk (Kd.R_below (qR HO420.out) hb); replace HO424 := Aside0.mk (Kd.R_below (qR HO424.out) hb); replace HO427 := Aside0.mk (Kd.R_below (qR HO427.out) hb); replace HO431 := Aside0.mk (Kd.R_below (qR HO431.out) hb); replace HB := qbs HB hb; (try clear hb)))
        go_meet
        case rel => exact ⟨_, ((t429 != t422)), qf, H', ⟨by first | omega | exact Nat.le_refl _⟩, ⟨by (with_reducible repeat (first | apply Kd.R_alloc | apply Kd.R_drewN | apply Kd.R_drew)); exact Kd.R_mono HO424.out (fun _ hk => hk.2)⟩, ⟨by (with_reducible repeat (first | apply Kd.R_alloc | apply Kd.R_drewN | apply Kd.R_drew)); exact Kd.R_mono HO427.out (fun _ hk => trivial)⟩, ⟨by (with_reducible repeat (first | apply Kd.R_alloc | apply Kd.R_drewN | apply Kd.R_drew)); exact Kd.R_mono HO431.out (fun _ hk => hk.2)⟩, ⟨qB⟩⟩
      · replace c17 := Bool.eq_false_iff.mpr c17
        subst c17
        have H1 : (laws_FnExactFittingLattices.j0 k l0 a1 t421 t422 t425 t428 t429 true) = some r := by rw [if_neg (show ¬ (false = true) by decide)] at H; exact H
        clear H
        have H := H1
        clear H1
        have H' := Aside0.mk H
        clear H
        obtain ⟨Ao21, co21, eo21⟩ := Kd.R_slice HO431.out
        subst eo21
        obtain ⟨Ao22, co22, eo22⟩ := Kd.R_slice HO424.out
        subst eo22
        go_wp2_with (first | ((with_reducible refine gate_callee (f := 13) rfl ?_); refine qgl (some 38) Try.func13 #[.slice Ao21 t428.length co21, .slice Ao22 t421.length co22] ?_; (with_reducible refine (laws_eqLatticeS.calls k _ _ t428 _ _ t421 false _ (qC ((Kd.R_reads' HO431.out).2.2)) ((Kd.R_reads' HO431.out).2.1) (qC ((Kd.R_reads' HO424.out).2.2)) ((Kd.R_reads' HO424.out).2.1) A16.out).mono ?_); rintro e w23 ⟨rfl, hb⟩; refine ⟨_, rfl, ?_⟩; replace HO420 := Aside0.mk (Kd.R_below (qR HO420.out) hb); replace HO424 := Aside0.mk (Kd.R_below (qR HO424.out) hb); replace HO427 := Aside0.mk (Kd.R_below (qR HO427.out) hb); replace HO431 := Aside0.mk (Kd.R_below (qR HO431.out) hb); replace HB := qbs HB hb; (try clear hb)))
        go_meet
        case rel => exact ⟨_, (true), qf, H', ⟨by first | omega | exact Nat.le_refl _⟩, ⟨by (with_reducible repeat (first | apply Kd.R_alloc | apply Kd.R_drewN | apply Kd.R_drew)); exact Kd.R_mono HO424.out (fun _ hk => hk.2)⟩, ⟨by (with_reducible repeat (first | apply Kd.R_alloc | apply Kd.R_drewN | apply Kd.R_drew)); exact Kd.R_mono HO427.out (fun _ hk => trivial)⟩, ⟨by (with_reducible repeat (first | apply Kd.R_alloc | apply Kd.R_drewN | apply Kd.R_drew)); exact Kd.R_mono HO431.out (fun _ hk => hk.2)⟩, ⟨qB⟩⟩
    case rest =>
      clear HC9
      try clear c1
      try clear p2
      try clear c4
      try clear c4b0
      try clear c5
      try clear c7
      try clear c11
      try clear c12
      try clear c13
      try clear c17
      obtain ⟨kq, x44_8, rfl, HA, HJ8, HO_6, HO_8, HO_9, HB⟩ := hcut
      cases kq with
      | zero => exact absurd HA.out (by simp [laws_FnExactFittingLattices.j0])
      | succ kj8 =>
        have H := HA.out
        clear HA
        simp only [laws_FnExactFittingLattices.j0] at H
        by_cases c24 : x44_8 = true
        · subst c24
          have H1 : (some false) = some r := by rw [if_pos rfl] at H; exact H
          clear H
          have H := H1
          clear H1
          obtain rfl := Option.some.inj H
          go_wp2
          go_ret
          exact ⟨qF, qB⟩
        · replace c24 := Bool.eq_false_iff.mpr c24
          subst c24
          have H1 : ((laws_toMarkS.f kj8 l0).bind fun t433 => ((laws_eqMarkS.f kj8 t425 t433).bind fun t436 => (if t436 = true then ((laws_markMarkS.f kj8 t425 1).bind fun bt437 => (if bt437.1 < 0 then (laws_FnExactFittingLattices.j1 kj8 l0 a1 t421 t422 t428 true) else ((laws_eqLatticeS.f kj8 t428 t421).bind fun t439 => (if t439 = true then (laws_FnExactFittingLattices.j1 kj8 l0 a1 t421 t422 t428 (t429 != t422)) else (laws_FnExactFittingLattices.j1 kj8 l0 a1 t421 t422 t428 true))))) else (some false)))) = some r := by rw [if_neg (show ¬ (false = true) by decide)] at H; exact H
          clear H
          have H := H1
          clear H1
          replace H := qbd H
          obtain ⟨t433, A25, H⟩ := H
          try dsimp only at H
          replace H := qbd H
          obtain ⟨t436, A26, H⟩ := H
          try dsimp only at H
          by_cases c27 : t436 = true
          · subst c27
            have H1 : ((laws_markMarkS.f kj8 t425 1).bind fun bt437 => (if bt437.1 < 0 then (laws_FnExactFittingLattices.j1 kj8 l0 a1 t421 t422 t428 true) else ((laws_eqLatticeS.f kj8 t428 t421).bind fun t439 => (if t439 = true then (laws_FnExactFittingLattices.j1 kj8 l0 a1 t421 t422 t428 (t429 != t422)) else (laws_FnExactFittingLattices.j1 kj8 l0 a1 t421 t422 t428 true))))) = some r := by rw [if_pos rfl] at H; exact H
            clear H
            have H := H1
            clear H1
            replace H := qbd H
            obtain ⟨⟨t437, t438⟩, A28, H⟩ := H
            try dsimp only at H
            have HC29 := Aside0.mk H
            clear H
            go_upto_region 14 with (first | ((with_reducible refine gate_callee (f := 7) rfl ?_); refine qgl (some 47) Try.func7 #[.slice A0 l0.length c0] ?_; (with_reducible refine (laws_toMarkS.calls kj8 _ _ l0 t433 _ (qC (Kd.C_below HR0.out HB.out)) HC0.out A25.out).mono ?_); rintro e w30 ⟨v434, rfl, ho0, hb⟩; refine ⟨_, rfl, ?_⟩; replace HO_6 := Aside0.mk (Kd.R_below (qR HO_6.out) hb); replace HO_9 := Aside0.mk (Kd.R_below (qR HO_9.out) hb); have HO435 := Aside0.mk (Kd.R_lower (Kd.R_new' ho0 (Kd.R_lt (qR HO_8.out))) (below_size qB)); replace HO_8 := Aside0.mk (Kd.R_elder' (qR HO_8.out) (Kd.R_base ho0) hb); replace HB := qbs HB hb; (try clear hb); (try clear ho0); obtain ⟨Ao31, co31, eo31⟩ := Kd.R_slice HO435.out; subst eo31) | ((with_reducible refine gate_callee (f := 10) rfl ?_); refine qgl (some 48) Try.func10 #[.slice Ao14 t425.length co14, .slice Ao31 t433.length co31] ?_; (with_reducible refine (laws_eqMarkS.calls kj8 _ _ t425 _ _ t433 true _ (qC ((Kd.R_reads' HO_8.out).2.2)) ((Kd.R_reads' HO_8.out).2.1) (qC ((Kd.R_reads' HO435.out).2.2)) ((Kd.R_reads' HO435.out).2.1) A26.out).mono ?_); rintro e w32 ⟨rfl, hb⟩; refine ⟨_, rfl, ?_⟩; replace HO_6 := Aside0.mk (Kd.R_below (qR HO_6.out) hb); replace HO_8 := Aside0.mk (Kd.R_below (qR HO_8.out) hb); replace HO_9 := Aside0.mk (Kd.R_below (qR HO_9.out) hb); replace HO435 := Aside0.mk (Kd.R_below (qR HO435.out) hb); replace HB := qbs HB hb; (try clear hb)) | ((with_reducible refine gate_callee (f := 14) rfl ?_); refine qgl (some 52) Try.func14 #[.slice Ao14 t425.length co14, .int .i64 1] ?_; (with_reducible refine (laws_markMarkS.calls kj8 (fun k_ => some k_ = (.slice Ao14 t425.length co14 : Value).ownBlock) (.slice Ao14 t425.length co14) t425 1 t437 t438 w _ qB ?side2 A28.out).mono ?_); (case side2 => exact Kd.R_tight rfl HO_8.out); rintro e w33 ⟨rfl, hy0, hb, hkp⟩; refine ⟨_, rfl, ?_⟩; replace HO_6 := Aside0.mk (Kd.R_mono (ok' := fun k_ => some k_ ≠ (v430 : Value).ownBlock) (Kd.R_keptB ((Kd.R_apart' HO_6.out (Kd.R_typed HO_8.out) (by decide))) hkp (fun k_ hk_ hs_ => (hk_.2) hs_)) (fun k_ hk_ => hk_.1.1)); replace HO_9 := Aside0.mk (Kd.R_mono (ok' := fun k_ => some k_ ≠ (v423 : Value).ownBlock) (Kd.R_keptB ((Kd.R_apart' HO_9.out (Kd.R_typed HO_8.out) (by decide))) hkp (fun k_ hk_ hs_ => (hk_.2) hs_)) (fun k_ hk_ => hk_.1.1)); replace HO_8 := Aside0.mk (Kd.R_reok rfl hy0 (fun k_ e_ => HO_8.out.1 k_ e_)); replace HO435 := Aside0.mk (Kd.R_mono (ok' := fun k_ => some k_ ≠ (.slice Ao14 t425.length co14 : Value).ownBlock) (Kd.R_keptB (HO435.out) hkp (fun k_ hk_ hs_ => (hk_.2) hs_)) (fun k_ hk_ => hk_.1.2)); replace HB := Aside0.mk (hb); (try clear hb); (try clear hkp); (try clear hy0)))
            (try simp only [Act.put, List.setIfInBounds_toArray, List.set_cons_zero, List.set_cons_succ])
            go_cut [65] (fun v65 wc => ∃ (kq : Nat) (x65_28 : Bool), v65 = .bool x65_28 ∧ Aside0 (laws_FnExactFittingLattices.j1 kq l0 a1 t421 t422 t428 x65_28 = some r) ∧ Aside0 (kq ≤ kj8) ∧ Aside0 (Kd.R k25 25 wc w.heap.size (fun k_ => some k_ ≠ (v430 : Value).ownBlock) v423 t421) ∧ Aside0 (Kd.R k25 25 wc w.heap.size (fun k_ => some k_ ≠ (v423 : Value).ownBlock) v430 t428) ∧ Aside0 (Below w.heap.size w wc))
            case first =>
              have H := HC29.out
              clear HC29
              by_cases c34 : t437 < 0
              · rw [if_pos c34] at H
                have c34b0 : decide (t437 < 0) = true := decide_eq_true c34
                clear c34
                (first | rw [c34b0] | (simp only [i64_w, i32_w]; rw [c34b0]) | skip)
                have H' := Aside0.mk H
                clear H
                go_wp2
                go_meet
                case rel => exact ⟨_, (true), qf, H', ⟨by have := HJ8.out; first | omega | exact Nat.le_refl _⟩, ⟨by (with_reducible repeat (first | apply Kd.R_alloc | apply Kd.R_drewN | apply Kd.R_drew)); exact HO_6.out⟩, ⟨by (with_reducible repeat (first | apply Kd.R_alloc | apply Kd.R_drewN | apply Kd.R_drew)); exact HO_9.out⟩, ⟨qB⟩⟩
              · rw [if_neg c34] at H
                have c34b0 : decide (t437 < 0) = false := decide_eq_false c34
                clear c34
                (first | rw [c34b0] | (simp only [i64_w, i32_w]; rw [c34b0]) | skip)
                replace H := qbd H
                obtain ⟨t439, A35, H⟩ := H
                try dsimp only at H
                by_cases c36 : t439 = true
                · subst c36
                  have H1 : (laws_FnExactFittingLattices.j1 kj8 l0 a1 t421 t422 t428 (t429 != t422)) = some r := by rw [if_pos rfl] at H; exact H
                  clear H
                  have H := H1
                  clear H1
                  have H' := Aside0.mk H
                  clear H
                  obtain ⟨Ao37, co37, eo37⟩ := Kd.R_slice HO_9.out
                  subst eo37
                  obtain ⟨Ao38, co38, eo38⟩ := Kd.R_slice HO_6.out
                  subst eo38
                  go_wp2_with (first | (go_at_call 13; (with_reducible refine (laws_eqLatticeS.calls kj8 _ _ t428 _ _ t421 true _ (qC ((Kd.R_reads' HO_9.out).2.2)) ((Kd.R_reads' HO_9.out).2.1) (qC ((Kd.R_reads' HO_6.out).2.2)) ((Kd.R_reads' HO_6.out).2.1) A35.out).mono ?_); rintro e w39 ⟨rfl, hb⟩; replace HO_6 := Aside0.mk (Kd.R_below (qR HO_6.out) hb); replace HO_8 := Aside0.mk (Kd.R_below (qR HO_8.out) hb); replace HO_9 := Aside0.mk (Kd.R_below (qR HO_9.out) hb); replace HO435 := Aside0.mk (Kd.R_below (qR HO435.out) hb); replace HB := qbs HB hb; (try clear hb)))
                  go_meet
                  case rel => exact ⟨_, ((t429 != t422)), qf, H', ⟨by have := HJ8.out; first | omega | exact Nat.le_refl _⟩, ⟨by (with_reducible repeat (first | apply Kd.R_alloc | apply Kd.R_drewN | apply Kd.R_drew)); exact HO_6.out⟩, ⟨by (with_reducible repeat (first | apply Kd.R_alloc | apply Kd.R_drewN | apply Kd.R_drew)); exact HO_9.out⟩, ⟨qB⟩⟩
                · replace c36 := Bool.eq_false_iff.mpr c36
                  subst c36
                  have H1 : (laws_FnExactFittingLattices.j1 kj8 l0 a1 t421 t422 t428 true) = some r := by rw [if_neg (show ¬ (false = true) by decide)] at H; exact H
                  clear H
                  have H := H1
                  clear H1
                  have H' := Aside0.mk H
                  clear H
                  obtain ⟨Ao40, co40, eo40⟩ := Kd.R_slice HO_9.out
                  subst eo40
                  obtain ⟨Ao41, co41, eo41⟩ := Kd.R_slice HO_6.out
                  subst eo41
                  go_wp2_with (first | (go_at_call 13; (with_reducible refine (laws_eqLatticeS.calls kj8 _ _ t428 _ _ t421 false _ (qC ((Kd.R_reads' HO_9.out).2.2)) ((Kd.R_reads' HO_9.out).2.1) (qC ((Kd.R_reads' HO_6.out).2.2)) ((Kd.R_reads' HO_6.out).2.1) A35.out).mono ?_); rintro e w42 ⟨rfl, hb⟩; replace HO_6 := Aside0.mk (Kd.R_below (qR HO_6.out) hb); replace HO_8 := Aside0.mk (Kd.R_below (qR HO_8.out) hb); replace HO_9 := Aside0.mk (Kd.R_below (qR HO_9.out) hb); replace HO435 := Aside0.mk (Kd.R_below (qR HO435.out) hb); replace HB := qbs HB hb; (try clear hb)))
                  go_meet
                  case rel => exact ⟨_, (true), qf, H', ⟨by have := HJ8.out; first | omega | exact Nat.le_refl _⟩, ⟨by (with_reducible repeat (first | apply Kd.R_alloc | apply Kd.R_drewN | apply Kd.R_drew)); exact HO_6.out⟩, ⟨by (with_reducible repeat (first | apply Kd.R_alloc | apply Kd.R_drewN | apply Kd.R_drew)); exact HO_9.out⟩, ⟨qB⟩⟩
            case rest =>
              clear HC29
              try clear c1
              try clear c2
              try clear p2
              try clear c3
              try clear c4
              try clear c4b0
              try clear c5
              try clear c7
              try clear c10
              try clear c11
              try clear c12
              try clear c13
              try clear c14
              try clear c17
              try clear c24
              try clear c27
              try clear c34
              try clear c34b0
              try clear c36
              try clear p2
              obtain ⟨kq, x65_28, rfl, HA, HJ28, HO_6, HO_9, HB⟩ := hcut
              cases kq with
              | zero => exact absurd HA.out (by simp [laws_FnExactFittingLattices.j1])
              | succ kj28 =>
                have H := HA.out
                clear HA
                simp only [laws_FnExactFittingLattices.j1] at H
                by_cases c43 : x65_28 = true
                · subst c43
                  have H1 : (some false) = some r := by rw [if_pos rfl] at H; exact H
                  clear H
                  have H := H1
                  clear H1
                  obtain rfl := Option.some.inj H
                  go_wp2
                  go_ret
                  exact ⟨qF, qB⟩
                · replace c43 := Bool.eq_false_iff.mpr c43
                  subst c43
                  have H1 : ((laws_markLatticeS.f kj28 t428 1).bind fun bt440 => ((laws_heldLatticeS.f kj28 bt440.2 1).bind fun t442 => (if t442 < 0 then (some false) else (if t442 = bt440.1 then ((laws_toMarkS.f kj28 l0).bind fun t443 => ((impl_FittingLattices.f kj28 t443 a1).bind fun bt446 => ((laws_eqLatticeS.f kj28 bt446.1 t421).bind fun t450 => (if t450 = true then (laws_FnExactFittingLattices.j2 kj28 bt440.2 bt440.1 (bt446.2 != t422)) else (laws_FnExactFittingLattices.j2 kj28 bt440.2 bt440.1 true))))) else (some false))))) = some r := by rw [if_neg (show ¬ (false = true) by decide)] at H; exact H
                  clear H
                  have H := H1
                  clear H1
                  replace H := qbd H
                  obtain ⟨⟨t440, t441⟩, A44, H⟩ := H
                  try dsimp only at H
                  replace H := qbd H
                  obtain ⟨t442, A45, H⟩ := H
                  try dsimp only at H
                  by_cases c46 : t442 < 0
                  · rw [if_pos c46] at H
                    have c46b0 : decide (t442 < 0) = true := decide_eq_true c46
                    clear c46
                    obtain rfl := Option.some.inj H
                    obtain ⟨Ao47, co47, eo47⟩ := Kd.R_slice HO_9.out
                    subst eo47
                    go_wp2_with (first | ((with_reducible refine gate_callee (f := 15) rfl ?_); refine qgl (some 68) Try.func15 #[.slice Ao47 t428.length co47, .int .i64 1] ?_; (with_reducible refine (laws_markLatticeS.calls kj28 (fun k_ => some k_ = (.slice Ao47 t428.length co47 : Value).ownBlock) (.slice Ao47 t428.length co47) t428 1 t440 t441 w _ qB ?side2 A44.out).mono ?_); (case side2 => exact Kd.R_tight rfl HO_9.out); rintro e w48 ⟨rfl, hy0, hb, hkp⟩; refine ⟨_, rfl, ?_⟩; replace HO_6 := Aside0.mk (Kd.R_mono (ok' := fun k_ => some k_ ≠ (.slice Ao47 t428.length co47 : Value).ownBlock) (Kd.R_keptB (HO_6.out) hkp (fun k_ hk_ hs_ => (hk_) hs_)) (fun k_ hk_ => hk_.1)); replace HO_9 := Aside0.mk (Kd.R_reok rfl hy0 (fun k_ e_ => HO_9.out.1 k_ e_)); replace HB := Aside0.mk (hb); (try clear hb); (try clear hkp); (try clear hy0)) | ((with_reducible refine gate_callee (f := 16) rfl ?_); refine goesL_ (some 71) rfl rfl Try.func16 (by kernel_rfl) rfl #[.slice Ao47 t441.length co47, .int .i64 1] rfl (by (try simp only [List.map_toArray, List.map_cons, List.map_nil]); first | done | (rw [show t441.length = t428.length from (Kd.R_reads' HO_9.out).1.symm] <;> rfl) | rfl | (simp only [List.length_drop, List.length_take]; rfl)) ?_; (with_reducible refine (laws_heldLatticeS.calls kj28 _ _ t441 1 t442 _ (qC ((Kd.R_reads' HO_9.out).2.2)) ?side2 A45.out).mono ?_); (case side2 => rw [show t441.length = t428.length from (Kd.R_reads' HO_9.out).1.symm]; exact (Kd.R_reads' HO_9.out).2.1); rintro e w' ⟨rfl, ⟨nd, rfl⟩⟩; refine ⟨_, rfl, ?_⟩))
                    go_ret
                    exact ⟨qF, qB⟩
                  · rw [if_neg c46] at H
                    have c46b0 : decide (t442 < 0) = false := decide_eq_false c46
                    clear c46
                    by_cases c49 : t442 = t440
                    · rw [if_pos c49] at H
                      have c49b0 : (t442 == t440) = true := beq_iff_eq.mpr c49
                      have c49b1 : (t442 != t440) = false := bne_eq_false_iff_eq.mpr c49
                      clear c49
                      replace H := qbd H
                      obtain ⟨t443, A50, H⟩ := H
                      try dsimp only at H
                      replace H := qbd H
                      obtain ⟨⟨t446, t447⟩, A51, H⟩ := H
                      try dsimp only at H
                      have HC52 := Aside0.mk H
                      clear H
                      obtain ⟨Ao53, co53, eo53⟩ := Kd.R_slice HO_9.out
                      subst eo53
                      go_upto_region 25 with (first | ((with_reducible refine gate_callee (f := 15) rfl ?_); refine qgl (some 68) Try.func15 #[.slice Ao53 t428.length co53, .int .i64 1] ?_; (with_reducible refine (laws_markLatticeS.calls kj28 (fun k_ => some k_ = (.slice Ao53 t428.length co53 : Value).ownBlock) (.slice Ao53 t428.length co53) t428 1 t440 t441 w _ qB ?side2 A44.out).mono ?_); (case side2 => exact Kd.R_tight rfl HO_9.out); rintro e w54 ⟨rfl, hy0, hb, hkp⟩; refine ⟨_, rfl, ?_⟩; replace HO_6 := Aside0.mk (Kd.R_mono (ok' := fun k_ => some k_ ≠ (.slice Ao53 t428.length co53 : Value).ownBlock) (Kd.R_keptB (HO_6.out) hkp (fun k_ hk_ hs_ => (hk_) hs_)) (fun k_ hk_ => hk_.1)); replace HO_9 := Aside0.mk (Kd.R_reok rfl hy0 (fun k_ e_ => HO_9.out.1 k_ e_)); replace HB := Aside0.mk (hb); (try clear hb); (try clear hkp); (try clear hy0)) | ((with_reducible refine gate_callee (f := 16) rfl ?_); refine goesL_ (some 71) rfl rfl Try.func16 (by kernel_rfl) rfl #[.slice Ao53 t441.length co53, .int .i64 1] rfl (by (try simp only [List.map_toArray, List.map_cons, List.map_nil]); first | done | (rw [show t441.length = t428.length from (Kd.R_reads' HO_9.out).1.symm] <;> rfl) | rfl | (simp only [List.length_drop, List.length_take]; rfl)) ?_; (with_reducible refine (laws_heldLatticeS.calls kj28 _ _ t441 1 t442 _ (qC ((Kd.R_reads' HO_9.out).2.2)) ?side2 A45.out).mono ?_); (case side2 => rw [show t441.length = t428.length from (Kd.R_reads' HO_9.out).1.symm]; exact (Kd.R_reads' HO_9.out).2.1); rintro e w' ⟨rfl, ⟨nd, rfl⟩⟩; refine ⟨_, rfl, ?_⟩) | ((with_reducible refine gate_callee (f := 7) rfl ?_); refine qgl (some 79) Try.func7 #[.slice A0 l0.length c0] ?_; (with_reducible refine (laws_toMarkS.calls kj28 _ _ l0 t443 _ (qC (Kd.C_below HR0.out qB)) HC0.out A50.out).mono ?_); rintro e w55 ⟨v444, rfl, ho0, hb⟩; refine ⟨_, rfl, ?_⟩; replace HO_6 := Aside0.mk (Kd.R_below (qR HO_6.out) hb); replace HO_9 := Aside0.mk (Kd.R_below (qR HO_9.out) hb); have HO445 := Aside0.mk (Kd.R_lower ho0 (below_size qB)); replace HB := qbs HB hb; (try clear hb); (try clear ho0); obtain ⟨Ao56, co56, eo56⟩ := Kd.R_slice HO445.out; subst eo56) | ((with_reducible refine gate_callee (f := 12) rfl ?_); refine qgl (some 81) Try.func12 #[.slice Ao56 t443.length co56, .int .i64 a1] ?_; (with_reducible refine (impl_FittingLattices.calls kj28 _ _ t443 a1 t446 t447 _ (qC ((Kd.R_reads' HO445.out).2.2)) ((Kd.R_reads' HO445.out).2.1) A51.out).mono ?_); rintro e w57 ⟨v448, rfl, ho0, hb⟩; refine ⟨_, rfl, ?_⟩; replace HO445 := Aside0.mk (Kd.R_below (qR HO445.out) hb); have HO449 := Aside0.mk (Kd.R_lower (Kd.R_new' (Kd.R_new' ho0 (Kd.R_lt (qR HO_6.out))) (Kd.R_lt (qR HO_9.out))) (below_size qB)); replace HO_6 := Aside0.mk (Kd.R_elder' (qR HO_6.out) (Kd.R_base ho0) hb); replace HO_9 := Aside0.mk (Kd.R_elder' (qR HO_9.out) (Kd.R_base ho0) hb); replace HB := qbs HB hb; (try clear hb); (try clear ho0)))
                      (try simp only [Act.put, List.setIfInBounds_toArray, List.set_cons_zero, List.set_cons_succ])
                      go_cut [92] (fun v92 wc => ∃ (kq : Nat) (x92_51 : Bool), v92 = .bool x92_51 ∧ Aside0 (laws_FnExactFittingLattices.j2 kq t441 t440 x92_51 = some r) ∧ Aside0 (kq ≤ kj28) ∧ Aside0 (Kd.R k25 25 wc w.heap.size (fun _ => True) (.slice Ao53 t428.length co53) t441) ∧ Aside0 (Below w.heap.size w wc))
                      case first =>
                        have H := HC52.out
                        clear HC52
                        replace H := qbd H
                        obtain ⟨t450, A58, H⟩ := H
                        try dsimp only at H
                        by_cases c59 : t450 = true
                        · subst c59
                          have H1 : (laws_FnExactFittingLattices.j2 kj28 t441 t440 (t447 != t422)) = some r := by rw [if_pos rfl] at H; exact H
                          clear H
                          have H := H1
                          clear H1
                          have H' := Aside0.mk H
                          clear H
                          obtain ⟨Ao60, co60, eo60⟩ := Kd.R_slice HO449.out
                          subst eo60
                          obtain ⟨Ao61, co61, eo61⟩ := Kd.R_slice HO_6.out
                          subst eo61
                          go_wp2_with (first | ((with_reducible refine gate_callee (f := 13) rfl ?_); refine qgl (some 86) Try.func13 #[.slice Ao60 t446.length co60, .slice Ao61 t421.length co61] ?_; (with_reducible refine (laws_eqLatticeS.calls kj28 _ _ t446 _ _ t421 true _ (qC ((Kd.R_reads' HO449.out).2.2)) ((Kd.R_reads' HO449.out).2.1) (qC ((Kd.R_reads' HO_6.out).2.2)) ((Kd.R_reads' HO_6.out).2.1) A58.out).mono ?_); rintro e w62 ⟨rfl, hb⟩; refine ⟨_, rfl, ?_⟩; replace HO_6 := Aside0.mk (Kd.R_below (qR HO_6.out) hb); replace HO_9 := Aside0.mk (Kd.R_below (qR HO_9.out) hb); replace HO445 := Aside0.mk (Kd.R_below (qR HO445.out) hb); replace HO449 := Aside0.mk (Kd.R_below (qR HO449.out) hb); replace HB := qbs HB hb; (try clear hb)))
                          go_meet
                          case rel => exact ⟨_, ((t447 != t422)), qf, H', ⟨by have := HJ8.out; have := HJ28.out; first | omega | exact Nat.le_refl _⟩, ⟨by (with_reducible repeat (first | apply Kd.R_alloc | apply Kd.R_drewN | apply Kd.R_drew)); exact Kd.R_mono HO_9.out (fun _ hk => trivial)⟩, ⟨qB⟩⟩
                        · replace c59 := Bool.eq_false_iff.mpr c59
                          subst c59
                          have H1 : (laws_FnExactFittingLattices.j2 kj28 t441 t440 true) = some r := by rw [if_neg (show ¬ (false = true) by decide)] at H; exact H
                          clear H
                          have H := H1
                          clear H1
                          have H' := Aside0.mk H
                          clear H
                          obtain ⟨Ao63, co63, eo63⟩ := Kd.R_slice HO449.out
                          subst eo63
                          obtain ⟨Ao64, co64, eo64⟩ := Kd.R_slice HO_6.out
                          subst eo64
                          go_wp2_with (first | ((with_reducible refine gate_callee (f := 13) rfl ?_); refine qgl (some 86) Try.func13 #[.slice Ao63 t446.length co63, .slice Ao64 t421.length co64] ?_; (with_reducible refine (laws_eqLatticeS.calls kj28 _ _ t446 _ _ t421 false _ (qC ((Kd.R_reads' HO449.out).2.2)) ((Kd.R_reads' HO449.out).2.1) (qC ((Kd.R_reads' HO_6.out).2.2)) ((Kd.R_reads' HO_6.out).2.1) A58.out).mono ?_); rintro e w65 ⟨rfl, hb⟩; refine ⟨_, rfl, ?_⟩; replace HO_6 := Aside0.mk (Kd.R_below (qR HO_6.out) hb); replace HO_9 := Aside0.mk (Kd.R_below (qR HO_9.out) hb); replace HO445 := Aside0.mk (Kd.R_below (qR HO445.out) hb); replace HO449 := Aside0.mk (Kd.R_below (qR HO449.out) hb); replace HB := qbs HB hb; (try clear hb)))
                          go_meet
                          case rel => exact ⟨_, (true), qf, H', ⟨by have := HJ8.out; have := HJ28.out; first | omega | exact Nat.le_refl _⟩, ⟨by (with_reducible repeat (first | apply Kd.R_alloc | apply Kd.R_drewN | apply Kd.R_drew)); exact Kd.R_mono HO_9.out (fun _ hk => trivial)⟩, ⟨qB⟩⟩
                      case rest =>
                        clear HC52
                        try clear c1
                        try clear c2
                        try clear p2
                        try clear c3
                        try clear c4
                        try clear c4b0
                        try clear c5
                        try clear c7
                        try clear c10
                        try clear c11
                        try clear c12
                        try clear c13
                        try clear c14
                        try clear c15
                        try clear c16
                        try clear c17
                        try clear c24
                        try clear c27
                        try clear c34
                        try clear c34b0
                        try clear c36
                        try clear c43
                        try clear c46
                        try clear c46b0
                        try clear c49
                        try clear c49b0
                        try clear c49b1
                        try clear c59
                        try clear p2
                        obtain ⟨kq, x92_51, rfl, HA, HJ51, HO_9, HB⟩ := hcut
                        have hl9_51 := (Kd.R_reads' HO_9.out).1
                        rw [hl9_51] at HO_9
                        (try simp only [hl9_51])
                        cases kq with
                        | zero => exact absurd HA.out (by simp [laws_FnExactFittingLattices.j2])
                        | succ kj51 =>
                          have H := HA.out
                          clear HA
                          simp only [laws_FnExactFittingLattices.j2] at H
                          by_cases c66 : x92_51 = true
                          · subst c66
                            have H1 : (some false) = some r := by rw [if_pos rfl] at H; exact H
                            clear H
                            have H := H1
                            clear H1
                            obtain rfl := Option.some.inj H
                            go_wp2
                            go_ret
                            exact ⟨qF, qB⟩
                          · replace c66 := Bool.eq_false_iff.mpr c66
                            subst c66
                            have H1 : ((laws_heldLatticeS.f kj51 t441 1).bind fun t451 => (if t451 < 0 then (some false) else (if t451 = t440 then (some true) else (some false)))) = some r := by rw [if_neg (show ¬ (false = true) by decide)] at H; exact H
                            clear H
                            have H := H1
                            clear H1
                            replace H := qbd H
                            obtain ⟨t451, A67, H⟩ := H
                            try dsimp only at H
                            by_cases c68 : t451 < 0
                            · rw [if_pos c68] at H
                              have c68b0 : decide (t451 < 0) = true := decide_eq_true c68
                              clear c68
                              obtain rfl := Option.some.inj H
                              go_wp2_with (first | ((with_reducible refine gate_callee (f := 16) rfl ?_); refine qgl (some 95) Try.func16 #[.slice Ao53 t441.length co53, .int .i64 1] ?_; (with_reducible refine (laws_heldLatticeS.calls kj51 _ _ t441 1 t451 _ (qC ((Kd.R_reads' HO_9.out).2.2)) ((Kd.R_reads' HO_9.out).2.1) A67.out).mono ?_); rintro e w' ⟨rfl, ⟨nd, rfl⟩⟩; refine ⟨_, rfl, ?_⟩))
                              go_ret
                              exact ⟨qF, qB⟩
                            · rw [if_neg c68] at H
                              have c68b0 : decide (t451 < 0) = false := decide_eq_false c68
                              clear c68
                              by_cases c69 : t451 = t440
                              · rw [if_pos c69] at H
                                have c69b0 : (t451 == t440) = true := beq_iff_eq.mpr c69
                                have c69b1 : (t451 != t440) = false := bne_eq_false_iff_eq.mpr c69
                                clear c69
                                obtain rfl := Option.some.inj H
                                go_wp2_with (first | ((with_reducible refine gate_callee (f := 16) rfl ?_); refine qgl (some 95) Try.func16 #[.slice Ao53 t441.length co53, .int .i64 1] ?_; (with_reducible refine (laws_heldLatticeS.calls kj51 _ _ t441 1 t451 _ (qC ((Kd.R_reads' HO_9.out).2.2)) ((Kd.R_reads' HO_9.out).2.1) A67.out).mono ?_); rintro e w' ⟨rfl, ⟨nd, rfl⟩⟩; refine ⟨_, rfl, ?_⟩))
                                go_ret
                                exact ⟨qF, qB⟩
                              · rw [if_neg c69] at H
                                have c69b0 : (t451 == t440) = false := beq_eq_false_iff_ne.mpr c69
                                have c69b1 : (t451 != t440) = true := bne_iff_ne.mpr c69
                                obtain rfl := Option.some.inj H
                                go_wp2_with (first | ((with_reducible refine gate_callee (f := 16) rfl ?_); refine qgl (some 95) Try.func16 #[.slice Ao53 t441.length co53, .int .i64 1] ?_; (with_reducible refine (laws_heldLatticeS.calls kj51 _ _ t441 1 t451 _ (qC ((Kd.R_reads' HO_9.out).2.2)) ((Kd.R_reads' HO_9.out).2.1) A67.out).mono ?_); rintro e w' ⟨rfl, ⟨nd, rfl⟩⟩; refine ⟨_, rfl, ?_⟩))
                                go_ret
                                exact ⟨qF, qB⟩
                    · rw [if_neg c49] at H
                      have c49b0 : (t442 == t440) = false := beq_eq_false_iff_ne.mpr c49
                      have c49b1 : (t442 != t440) = true := bne_iff_ne.mpr c49
                      obtain rfl := Option.some.inj H
                      obtain ⟨Ao70, co70, eo70⟩ := Kd.R_slice HO_9.out
                      subst eo70
                      go_wp2_with (first | ((with_reducible refine gate_callee (f := 15) rfl ?_); refine qgl (some 68) Try.func15 #[.slice Ao70 t428.length co70, .int .i64 1] ?_; (with_reducible refine (laws_markLatticeS.calls kj28 (fun k_ => some k_ = (.slice Ao70 t428.length co70 : Value).ownBlock) (.slice Ao70 t428.length co70) t428 1 t440 t441 w _ qB ?side2 A44.out).mono ?_); (case side2 => exact Kd.R_tight rfl HO_9.out); rintro e w71 ⟨rfl, hy0, hb, hkp⟩; refine ⟨_, rfl, ?_⟩; replace HO_6 := Aside0.mk (Kd.R_mono (ok' := fun k_ => some k_ ≠ (.slice Ao70 t428.length co70 : Value).ownBlock) (Kd.R_keptB (HO_6.out) hkp (fun k_ hk_ hs_ => (hk_) hs_)) (fun k_ hk_ => hk_.1)); replace HO_9 := Aside0.mk (Kd.R_reok rfl hy0 (fun k_ e_ => HO_9.out.1 k_ e_)); replace HB := Aside0.mk (hb); (try clear hb); (try clear hkp); (try clear hy0)) | ((with_reducible refine gate_callee (f := 16) rfl ?_); refine goesL_ (some 71) rfl rfl Try.func16 (by kernel_rfl) rfl #[.slice Ao70 t441.length co70, .int .i64 1] rfl (by (try simp only [List.map_toArray, List.map_cons, List.map_nil]); first | done | (rw [show t441.length = t428.length from (Kd.R_reads' HO_9.out).1.symm] <;> rfl) | rfl | (simp only [List.length_drop, List.length_take]; rfl)) ?_; (with_reducible refine (laws_heldLatticeS.calls kj28 _ _ t441 1 t442 _ (qC ((Kd.R_reads' HO_9.out).2.2)) ?side2 A45.out).mono ?_); (case side2 => rw [show t441.length = t428.length from (Kd.R_reads' HO_9.out).1.symm]; exact (Kd.R_reads' HO_9.out).2.1); rintro e w' ⟨rfl, ⟨nd, rfl⟩⟩; refine ⟨_, rfl, ?_⟩))
                      go_ret
                      exact ⟨qF, qB⟩
          · replace c27 := Bool.eq_false_iff.mpr c27
            subst c27
            have H1 : (some false) = some r := by rw [if_neg (show ¬ (false = true) by decide)] at H; exact H
            clear H
            have H := H1
            clear H1
            obtain rfl := Option.some.inj H
            go_wp2_with (first | ((with_reducible refine gate_callee (f := 7) rfl ?_); refine qgl (some 47) Try.func7 #[.slice A0 l0.length c0] ?_; (with_reducible refine (laws_toMarkS.calls kj8 _ _ l0 t433 _ (qC (Kd.C_below HR0.out HB.out)) HC0.out A25.out).mono ?_); rintro e w72 ⟨v434, rfl, ho0, hb⟩; refine ⟨_, rfl, ?_⟩; replace HO_6 := Aside0.mk (Kd.R_below (qR HO_6.out) hb); replace HO_9 := Aside0.mk (Kd.R_below (qR HO_9.out) hb); have HO435 := Aside0.mk (Kd.R_lower (Kd.R_new' ho0 (Kd.R_lt (qR HO_8.out))) (below_size qB)); replace HO_8 := Aside0.mk (Kd.R_elder' (qR HO_8.out) (Kd.R_base ho0) hb); replace HB := qbs HB hb; (try clear hb); (try clear ho0); obtain ⟨Ao73, co73, eo73⟩ := Kd.R_slice HO435.out; subst eo73) | ((with_reducible refine gate_callee (f := 10) rfl ?_); refine qgl (some 48) Try.func10 #[.slice Ao14 t425.length co14, .slice Ao73 t433.length co73] ?_; (with_reducible refine (laws_eqMarkS.calls kj8 _ _ t425 _ _ t433 false _ (qC ((Kd.R_reads' HO_8.out).2.2)) ((Kd.R_reads' HO_8.out).2.1) (qC ((Kd.R_reads' HO435.out).2.2)) ((Kd.R_reads' HO435.out).2.1) A26.out).mono ?_); rintro e w74 ⟨rfl, hb⟩; refine ⟨_, rfl, ?_⟩; replace HO_6 := Aside0.mk (Kd.R_below (qR HO_6.out) hb); replace HO_8 := Aside0.mk (Kd.R_below (qR HO_8.out) hb); replace HO_9 := Aside0.mk (Kd.R_below (qR HO_9.out) hb); replace HO435 := Aside0.mk (Kd.R_below (qR HO435.out) hb); replace HB := qbs HB hb; (try clear hb)))
            go_ret
            exact ⟨qF, qB⟩

end Go.Proofs.Ytoajccbmikmjdaa.X

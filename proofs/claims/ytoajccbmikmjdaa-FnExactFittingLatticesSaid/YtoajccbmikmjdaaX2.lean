-- PRINTED by print.py (a twelfth state) out of the translation. Not trusted: Lean checks it.
import Derived.Test.YtoajccbmikmjdaaXQ
import Derived.Test.YtoajccbmikmjdaaX0
namespace Go.Proofs.Ytoajccbmikmjdaa.X
open Go.RowKit Go.Proofs.YtoajccbmikmjdaaX Go.Proofs.YtoajccbmikmjdaaW.PrintWords Go.Proofs.YtoajccbmikmjdaaW.PrintLast Go.Proofs.YtoajccbmikmjdaaW.PrintMore
attribute [local go_sem] max2_int min2_int max_two min_two max_three min_three max_four min_four   -- for this text's walks alone
set_option linter.unusedVariables false
set_option linter.unusedSimpArgs false

def laws_szMarkS.f (l0 : List (S49)) (a1 : Int) : Option (Int) := if (wrap64 (a1 - (l0.length : Int))) < 0 then (some (-1)) else (some (wrap64 (a1 - (l0.length : Int))))
set_option maxHeartbeats 8000000 in
set_option maxRecDepth 100000 in
theorem laws_szMarkS.calls (A0 : Option Addr) (c0 : Nat) (l0 : List (S49)) (a1 : Int) (r : Int) (w : World) (hr0 : Kd.C k49 w A0 l0.length l0) (hc0 : l0.length ≤ c0) (h : laws_szMarkS.f l0 a1 = some r) :
    Calls Try.prog 5 #[.slice A0 l0.length c0, .int .i64 a1] w fun e w' => e = .returned (.int .i64 r) ∧ Drawn0 w w' := by
  have HR0 := Aside0.mk hr0
  have HC0 := Aside0.mk hc0
  clear hr0 hc0
  have H : (if (wrap64 (a1 - (l0.length : Int))) < 0 then (some (-1)) else (some (wrap64 (a1 - (l0.length : Int))))) = some r := h
  clear h
  by_cases c3 : (wrap64 (a1 - (l0.length : Int))) < 0
  · rw [if_pos c3] at H
    have c3b0 : decide ((wrap64 (a1 - (l0.length : Int))) < 0) = true := decide_eq_true c3
    clear c3
    obtain rfl := Option.some.inj H
    go_enter Try.func5, Try.ntmps5
    go_wp2
    go_ret
    exact ⟨qf, qD⟩
  · rw [if_neg c3] at H
    have c3b0 : decide ((wrap64 (a1 - (l0.length : Int))) < 0) = false := decide_eq_false c3
    clear c3
    obtain rfl := Option.some.inj H
    go_enter Try.func5, Try.ntmps5
    go_wp2
    go_ret
    exact ⟨qf, qD⟩

def spec_l01In.f (a0 : Int) (a1 : Int) (a2 : Int) : Option (Bool) := if a0 ≥ a1 then (some (decide (a0 ≤ a2))) else (some false)
set_option maxHeartbeats 8000000 in
set_option maxRecDepth 100000 in
theorem spec_l01In.calls (a0 : Int) (a1 : Int) (a2 : Int) (r : Bool) (w : World) (h : spec_l01In.f a0 a1 a2 = some r) :
    Calls Try.prog 23 #[.int .i64 a0, .int .i64 a1, .int .i64 a2] w fun e w' => e = .returned (.bool r) ∧ Drawn0 w w' := by
  have H : (if a0 ≥ a1 then (some (decide (a0 ≤ a2))) else (some false)) = some r := h
  clear h
  by_cases c4 : a0 ≥ a1
  · rw [if_pos c4] at H
    have c4b0 : decide (a1 ≤ a0) = true := decide_eq_true c4
    clear c4
    obtain rfl := Option.some.inj H
    go_enter Try.func23, Try.ntmps23
    go_wp2
    go_ret
    exact ⟨qf, qD⟩
  · rw [if_neg c4] at H
    have c4b0 : decide (a1 ≤ a0) = false := decide_eq_false c4
    clear c4
    obtain rfl := Option.some.inj H
    go_enter Try.func23, Try.ntmps23
    go_wp2
    go_ret
    exact ⟨qf, qD⟩

def spec_IsVec.f (a0_0 : Int) (a0_1 : Int) : Option (Bool) := (spec_l01In.f a0_0 (-1000) 1000).bind fun t102 => (if t102 = true then ((spec_l01In.f a0_1 (-1000) 1000).bind fun t103 => (some t103)) else (some false))
set_option maxHeartbeats 8000000 in
set_option maxRecDepth 100000 in
theorem spec_IsVec.calls (a0_0 : Int) (a0_1 : Int) (r : Bool) (w : World) (h : spec_IsVec.f a0_0 a0_1 = some r) :
    Calls Try.prog 25 #[.agg #[.int .i64 a0_0, .int .i64 a0_1]] w fun e w' => e = .returned (.bool r) ∧ Below w.heap.size w w' := by
  have hu43 := Try.underlying43
  have HB := Aside0.mk (Below.refl w.heap.size w)
  have H : ((spec_l01In.f a0_0 (-1000) 1000).bind fun t102 => (if t102 = true then ((spec_l01In.f a0_1 (-1000) 1000).bind fun t103 => (some t103)) else (some false))) = some r := h
  clear h
  replace H := qbd H
  obtain ⟨t102, A2, H⟩ := H
  try dsimp only at H
  by_cases c3 : t102 = true
  · subst c3
    have H1 : ((spec_l01In.f a0_1 (-1000) 1000).bind fun t103 => (some t103)) = some r := by rw [if_pos rfl] at H; exact H
    clear H
    have H := H1
    clear H1
    replace H := qbd H
    obtain ⟨t103, A4, H⟩ := H
    try dsimp only at H
    obtain rfl := Option.some.inj H
    go_enter Try.func25, Try.ntmps25
    go_wp2_with (first | ((with_reducible refine gate_dst (N := 1) rfl ?_); refine qbx 1 43 #[.int .i64 a0_0, .int .i64 a0_1] ?_; intro gb101 hg w5 hbox hb; have BK101 := Aside0.mk (hbox); have GW101 := qgs HB hg; have GE101 := qgs HB hg; replace HB := qbs HB hb; clear hb hbox hg; have hcz6_0 := qc0 BK101; have hcz6_1 := qc1 BK101; have hfz6_0 := blk_frozen BK101.out 0; have hfz6_1 := blk_frozen BK101.out 1) | ((with_reducible refine gate_callee (f := 23) rfl ?_); refine qgl (some 5) Try.func23 #[.int .i64 a0_0, .int .i64 (-1000), .int .i64 1000] ?_; (with_reducible refine (spec_l01In.calls a0_0 (-1000) 1000 true _ A2.out).mono ?_); rintro e w' ⟨rfl, ⟨nd, rfl⟩⟩; refine ⟨_, rfl, ?_⟩) | (go_at_call 23; (with_reducible refine (spec_l01In.calls a0_1 (-1000) 1000 t103 _ A4.out).mono ?_); rintro e w' ⟨rfl, ⟨nd, rfl⟩⟩))
    go_ret
    exact ⟨qF, qB⟩
  · replace c3 := Bool.eq_false_iff.mpr c3
    subst c3
    have H1 : (some false) = some r := by rw [if_neg (show ¬ (false = true) by decide)] at H; exact H
    clear H
    have H := H1
    clear H1
    obtain rfl := Option.some.inj H
    go_enter Try.func25, Try.ntmps25
    go_wp2_with (first | ((with_reducible refine gate_dst (N := 1) rfl ?_); refine qbx 1 43 #[.int .i64 a0_0, .int .i64 a0_1] ?_; intro gb101 hg w7 hbox hb; have BK101 := Aside0.mk (hbox); have GW101 := qgs HB hg; have GE101 := qgs HB hg; replace HB := qbs HB hb; clear hb hbox hg; have hcz8_0 := qc0 BK101; have hcz8_1 := qc1 BK101; have hfz8_0 := blk_frozen BK101.out 0; have hfz8_1 := blk_frozen BK101.out 1) | ((with_reducible refine gate_callee (f := 23) rfl ?_); refine qgl (some 5) Try.func23 #[.int .i64 a0_0, .int .i64 (-1000), .int .i64 1000] ?_; (with_reducible refine (spec_l01In.calls a0_0 (-1000) 1000 false _ A2.out).mono ?_); rintro e w' ⟨rfl, ⟨nd, rfl⟩⟩; refine ⟨_, rfl, ?_⟩))
    go_ret
    exact ⟨qF, qB⟩

def spec_AreMarks.l0 : Nat → List (S45) → Int → Option (Bool)
  | 0, _, _ => none
  | k + 1, x0, x3 => if x3 < (x0.length : Int) then (if 0 ≤ x3 then ((spec_IsVec.f ((rd_T45 x0 x3).f0.f0) ((rd_T45 x0 x3).f0.f1)).bind fun t105 => (if t105 = true then ((spec_l01In.f ((rd_T45 x0 x3).f1) 0 9).bind fun t107 => (if t107 = true then (spec_AreMarks.l0 k x0 (wrap64 (x3 + 1))) else (some false))) else (some false))) else (none)) else (some (decide ((x0.length : Int) ≤ 40)))
def spec_AreMarks.f (k : Nat) (l0 : List (S45)) : Option (Bool) := spec_AreMarks.l0 k l0 0
set_option maxHeartbeats 8000000 in
set_option maxRecDepth 100000 in
theorem spec_AreMarks.calls (k : Nat) (A0 : Option Addr) (c0 : Nat) (l0 : List (S45)) (r : Bool) (w : World) (hr0 : Kd.C k45 w A0 l0.length l0) (hc0 : l0.length ≤ c0) (h : spec_AreMarks.f k l0 = some r) :
    Calls Try.prog 17 #[.slice A0 l0.length c0] w fun e w' => e = .returned (.bool r) ∧ Below w.heap.size w w' := by
  have hu43 := Try.underlying43
  have HR0 := Aside0.mk hr0
  have HC0 := Aside0.mk hc0
  clear hr0 hc0
  have HB := Aside0.mk (Below.refl w.heap.size w)
  have H : (spec_AreMarks.l0 k l0 0) = some r := h
  clear h
  have H' := Aside0.mk H
  clear H
  go_enter Try.func17, Try.ntmps17
  go_wp2
  go_loopg [3] k (fun kq v3 w' => ∃ (x3_1 : Int), v3 = .int .i64 x3_1 ∧ Aside0 (spec_AreMarks.l0 kq l0 x3_1 = some r) ∧ Aside0 (kq ≤ k) ∧ Aside0 (Below w.heap.size w w'))
  case atStart => exact ⟨(0), qf, H', ⟨Nat.le_refl _⟩, ⟨qB⟩⟩
  case round =>
    clear H'
    try clear c1
    obtain ⟨x3_1, rfl, HA, HK1, HB⟩ := hrel
    cases gk with
    | zero => exact absurd HA.out (by simp [spec_AreMarks.l0])
    | succ k1 =>
      have H := HA.out
      clear HA
      simp only [spec_AreMarks.l0] at H
      by_cases c2 : x3_1 < (l0.length : Int)
      · rw [if_pos c2] at H
        have c2b0 : decide (x3_1 < (l0.length : Int)) = true := decide_eq_true c2
        clear c2
        by_cases c3 : 0 ≤ x3_1
        · rw [if_pos c3] at H
          have c3b0 : decide (0 ≤ x3_1) = true := decide_eq_true c3
          clear c3
          replace H := qbd H
          obtain ⟨t105, A4, H⟩ := H
          try dsimp only at H
          by_cases c5 : t105 = true
          · subst c5
            have H1 : ((spec_l01In.f ((rd_T45 l0 x3_1).f1) 0 9).bind fun t107 => (if t107 = true then (spec_AreMarks.l0 k1 l0 (wrap64 (x3_1 + 1))) else (some false))) = some r := by rw [if_pos rfl] at H; exact H
            clear H
            have H := H1
            clear H1
            replace H := qbd H
            obtain ⟨t107, A6, H⟩ := H
            try dsimp only at H
            by_cases c7 : t107 = true
            · subst c7
              have H1 : (spec_AreMarks.l0 k1 l0 (wrap64 (x3_1 + 1))) = some r := by rw [if_pos rfl] at H; exact H
              clear H
              have H := H1
              clear H1
              have H' := Aside0.mk H
              clear H
              have p104 : 0 ≤ (x3_1 : Int) := qo
              have q104 : x3_1 < (l0.length : Int) := qo
              obtain ⟨ad104, e104, hx104_0, hx104_1, hx104_2⟩ := at_T45 HR0.out x3_1 p104 q104
              cases e104
              replace hx104_0 := (HB.out.cell (World.block_lt_of_cell? w _ hx104_0)).trans hx104_0
              replace hx104_1 := (HB.out.cell (World.block_lt_of_cell? w _ hx104_1)).trans hx104_1
              replace hx104_2 := (HB.out.cell (World.block_lt_of_cell? w _ hx104_2)).trans hx104_2
              replace p104 := eq_true p104
              replace q104 := eq_true q104
              go_wp2_with (first | ((with_reducible refine gate_callee (f := 25) rfl ?_); refine qgl (some 15) Try.func25 #[.agg #[.int .i64 ((rd_T45 l0 x3_1).f0.f0), .int .i64 ((rd_T45 l0 x3_1).f0.f1)]] ?_; (with_reducible refine (spec_IsVec.calls ((rd_T45 l0 x3_1).f0.f0) ((rd_T45 l0 x3_1).f0.f1) true _ A4.out).mono ?_); rintro e w8 ⟨rfl, hb⟩; refine ⟨_, rfl, ?_⟩; replace HB := qbs HB hb; (try clear hb); have p106 : 0 ≤ (x3_1 : Int) := qo; have q106 : x3_1 < (l0.length : Int) := qo; obtain ⟨ad106, e106, hx106_0, hx106_1, hx106_2⟩ := at_T45 HR0.out x3_1 p106 q106; obtain rfl : ad104 = ad106 := (by injection e106); replace hx106_0 := (HB.out.cell (World.block_lt_of_cell? w _ hx106_0)).trans hx106_0; replace hx106_1 := (HB.out.cell (World.block_lt_of_cell? w _ hx106_1)).trans hx106_1; replace hx106_2 := (HB.out.cell (World.block_lt_of_cell? w _ hx106_2)).trans hx106_2; replace p106 := eq_true p106; replace q106 := eq_true q106) | (go_at_call 23; (with_reducible refine (spec_l01In.calls ((rd_T45 l0 x3_1).f1) 0 9 true _ A6.out).mono ?_); rintro e w' ⟨rfl, ⟨nd, rfl⟩⟩))
              go_roundg k1
              case measure => have := HK1.out; omega
              case rel => exact ⟨(wrap64 (x3_1 + 1)), qf, H', ⟨by have := HK1.out; omega⟩, ⟨qB⟩⟩
            · replace c7 := Bool.eq_false_iff.mpr c7
              subst c7
              have H1 : (some false) = some r := by rw [if_neg (show ¬ (false = true) by decide)] at H; exact H
              clear H
              have H := H1
              clear H1
              obtain rfl := Option.some.inj H
              have p104 : 0 ≤ (x3_1 : Int) := qo
              have q104 : x3_1 < (l0.length : Int) := qo
              obtain ⟨ad104, e104, hx104_0, hx104_1, hx104_2⟩ := at_T45 HR0.out x3_1 p104 q104
              cases e104
              replace hx104_0 := (HB.out.cell (World.block_lt_of_cell? w _ hx104_0)).trans hx104_0
              replace hx104_1 := (HB.out.cell (World.block_lt_of_cell? w _ hx104_1)).trans hx104_1
              replace hx104_2 := (HB.out.cell (World.block_lt_of_cell? w _ hx104_2)).trans hx104_2
              replace p104 := eq_true p104
              replace q104 := eq_true q104
              go_wp2_with (first | ((with_reducible refine gate_callee (f := 25) rfl ?_); refine qgl (some 15) Try.func25 #[.agg #[.int .i64 ((rd_T45 l0 x3_1).f0.f0), .int .i64 ((rd_T45 l0 x3_1).f0.f1)]] ?_; (with_reducible refine (spec_IsVec.calls ((rd_T45 l0 x3_1).f0.f0) ((rd_T45 l0 x3_1).f0.f1) true _ A4.out).mono ?_); rintro e w9 ⟨rfl, hb⟩; refine ⟨_, rfl, ?_⟩; replace HB := qbs HB hb; (try clear hb); have p106 : 0 ≤ (x3_1 : Int) := qo; have q106 : x3_1 < (l0.length : Int) := qo; obtain ⟨ad106, e106, hx106_0, hx106_1, hx106_2⟩ := at_T45 HR0.out x3_1 p106 q106; obtain rfl : ad104 = ad106 := (by injection e106); replace hx106_0 := (HB.out.cell (World.block_lt_of_cell? w _ hx106_0)).trans hx106_0; replace hx106_1 := (HB.out.cell (World.block_lt_of_cell? w _ hx106_1)).trans hx106_1; replace hx106_2 := (HB.out.cell (World.block_lt_of_cell? w _ hx106_2)).trans hx106_2; replace p106 := eq_true p106; replace q106 := eq_true q106) | (go_at_call 23; (with_reducible refine (spec_l01In.calls ((rd_T45 l0 x3_1).f1) 0 9 false _ A6.out).mono ?_); rintro e w' ⟨rfl, ⟨nd, rfl⟩⟩))
              go_ret
              exact ⟨qF, qB⟩
          · replace c5 := Bool.eq_false_iff.mpr c5
            subst c5
            have H1 : (some false) = some r := by rw [if_neg (show ¬ (false = true) by decide)] at H; exact H
            clear H
            have H := H1
            clear H1
            obtain rfl := Option.some.inj H
            have p104 : 0 ≤ (x3_1 : Int) := qo
            have q104 : x3_1 < (l0.length : Int) := qo
            obtain ⟨ad104, e104, hx104_0, hx104_1, hx104_2⟩ := at_T45 HR0.out x3_1 p104 q104
            cases e104
            replace hx104_0 := (HB.out.cell (World.block_lt_of_cell? w _ hx104_0)).trans hx104_0
            replace hx104_1 := (HB.out.cell (World.block_lt_of_cell? w _ hx104_1)).trans hx104_1
            replace hx104_2 := (HB.out.cell (World.block_lt_of_cell? w _ hx104_2)).trans hx104_2
            replace p104 := eq_true p104
            replace q104 := eq_true q104
            go_wp2_with (first | ((with_reducible refine gate_callee (f := 25) rfl ?_); refine qgl (some 15) Try.func25 #[.agg #[.int .i64 ((rd_T45 l0 x3_1).f0.f0), .int .i64 ((rd_T45 l0 x3_1).f0.f1)]] ?_; (with_reducible refine (spec_IsVec.calls ((rd_T45 l0 x3_1).f0.f0) ((rd_T45 l0 x3_1).f0.f1) false _ A4.out).mono ?_); rintro e w10 ⟨rfl, hb⟩; refine ⟨_, rfl, ?_⟩; replace HB := qbs HB hb; (try clear hb)))
            go_ret
            exact ⟨qF, qB⟩
        · rw [if_neg c3] at H
          exact absurd H (by simp)
      · rw [if_neg c2] at H
        have c2b0 : decide (x3_1 < (l0.length : Int)) = false := decide_eq_false c2
        clear c2
        obtain rfl := Option.some.inj H
        go_wp2
        go_ret
        exact ⟨qF, qB⟩

mutual
def spec_SublatticesOf.l0 : Nat → Int → List (S25) → Int → Option ((List (S25)) × Int)
  | 0, _, _, _ => none
  | k + 1, x0, x4, x5 => if x5 ≤ x0 then (spec_SublatticesOf.l1 k x0 x4 x5 0) else (some (x4, 0))
def spec_SublatticesOf.l1 : Nat → Int → List (S25) → Int → Int → Option ((List (S25)) × Int)
  | 0, _, _, _, _ => none
  | k + 1, x0, x4, x5, x6 => if x5 = 0 then (none) else (if (Int.tmod x0 x5) = 0 then (if x6 < x5 then (if x4.length < 5864062014805 then (spec_SublatticesOf.l1 k x0 (x4 ++ [(⟨x5, x6, wrap64 (Int.tdiv x0 x5)⟩ : S25)]) x5 (wrap64 (x6 + 1))) else (none)) else (spec_SublatticesOf.l0 k x0 x4 (wrap64 (x5 + 1)))) else (spec_SublatticesOf.l0 k x0 x4 (wrap64 (x5 + 1))))
end
def spec_SublatticesOf.f (k : Nat) (a0 : Int) : Option ((List (S25)) × Int) := (spec_l01In.f a0 1 64).bind fun t108 => (if t108 = true then (spec_SublatticesOf.l0 k a0 (([] : List (S25))) 1) else (some (([] : List (S25)), 2)))
set_option maxHeartbeats 8000000 in
set_option maxRecDepth 100000 in
theorem spec_SublatticesOf.calls (k : Nat) (a0 : Int) (r1 : List (S25)) (r2 : Int) (w : World) (h : spec_SublatticesOf.f k a0 = some (r1, r2)) :
    Calls Try.prog 26 #[.int .i64 a0] w fun e w' => ∃ v0_ : Value, e = .returned (.tuple #[v0_, .int .i64 r2]) ∧ Kd.R k25 25 w' w.heap.size (fun _ => True) v0_ r1 ∧ Below w.heap.size w w' := by
  have hu25 := Try.underlying25
  have HB := Aside0.mk (Below.refl w.heap.size w)
  have H : ((spec_l01In.f a0 1 64).bind fun t108 => (if t108 = true then (spec_SublatticesOf.l0 k a0 (([] : List (S25))) 1) else (some (([] : List (S25)), 2)))) = some (r1, r2) := h
  clear h
  replace H := qbd H
  obtain ⟨t108, A2, H⟩ := H
  try dsimp only at H
  by_cases c3 : t108 = true
  · subst c3
    have H1 : (spec_SublatticesOf.l0 k a0 (([] : List (S25))) 1) = some (r1, r2) := by rw [if_pos rfl] at H; exact H
    clear H
    have H := H1
    clear H1
    obtain ⟨y109, hy109⟩ : ∃ y_ : List (S25), y_ = (([] : List (S25))) := ⟨_, rfl⟩
    replace H : (spec_SublatticesOf.l0 k a0 y109 1) = some (r1, r2) := by first | (rw [hy109]; with_reducible exact H) | (have H2_ := (Option.bind_some _ _).symm.trans H; rw [hy109]; with_reducible exact H2_) | (have H2_ := (Option.bind_some _ _).symm.trans H; with_reducible exact H2_) | with_reducible exact H | (rw [hy109]; exact H) | exact H
    have Ny109 := Aside0.mk hy109
    clear hy109
    have H' := Aside0.mk H
    clear H
    go_enter Try.func26, Try.ntmps26
    go_wp2_with (first | ((with_reducible refine gate_callee (f := 23) rfl ?_); refine qgl (some 8) Try.func23 #[.int .i64 a0, .int .i64 1, .int .i64 64] ?_; (with_reducible refine (spec_l01In.calls a0 1 64 true _ A2.out).mono ?_); rintro e w' ⟨rfl, ⟨nd, rfl⟩⟩; refine ⟨_, rfl, ?_⟩) | ((with_reducible refine gate_dst (N := 10) rfl ?_); refine Kd.R_lit k25 _ 25 ?hg (N := 10) ?hd (xs := ([] : List (S25))) (inner := []) (ok := fun _ => True) (okp := fun _ => True) ?hr ?hp (fun _ hk => hk) trivial (Below.refl _ _) (Nat.le_refl _) (by simp) ?_; (case hd => rfl); (case hg => rfl); (case hr => first | (go_simp; done) | (go_simp; rfl)); (case hp => exact (Reps.none _ _)); intro v110 w4 ho5 hb hg_ hnew_; clear hg_ hnew_; (first | rw [← Ny109.out] at ho5 | (simp only [Int.reduceToNat] at ho5; rw [← Ny109.out] at ho5)); have HO111 := Aside0.mk (Kd.R_lower ho5 (below_size qB)); replace HB := qbs HB hb; clear hb ho5))
    go_loopg [4, 5] k (fun kq v4 v5 w' => ∃ (x4_1 : List (S25)) (x5_1 : Int), v5 = .int .i64 x5_1 ∧ Aside0 (spec_SublatticesOf.l0 kq a0 x4_1 x5_1 = some (r1, r2)) ∧ Aside0 (kq ≤ k) ∧ Aside0 (Kd.R k25 25 w' w.heap.size (fun _ => True) v4 x4_1) ∧ Aside0 (Below w.heap.size w w'))
    case atStart => exact ⟨(y109), (1), qf, H', ⟨Nat.le_refl _⟩, ⟨by (with_reducible repeat (first | apply Kd.R_alloc | apply Kd.R_drewN | apply Kd.R_drew)); exact HO111.out⟩, ⟨qB⟩⟩
    case round =>
      clear H'
      try clear c2
      try clear p2
      try clear c3
      obtain ⟨x4_1, x5_1, rfl, HA, HK1, HO_4, HB⟩ := hrel
      cases gk with
      | zero => exact absurd HA.out (by simp [spec_SublatticesOf.l0])
      | succ k1 =>
        have H := HA.out
        clear HA
        simp only [spec_SublatticesOf.l0] at H
        by_cases c6 : x5_1 ≤ a0
        · rw [if_pos c6] at H
          have c6b0 : decide (x5_1 ≤ a0) = true := decide_eq_true c6
          clear c6
          have H' := Aside0.mk H
          clear H
          go_wp2
          go_loopg [4, 6] k1 (fun kq v4 v6 w' => ∃ (x4_2 : List (S25)) (x6_2 : Int), v6 = .int .i64 x6_2 ∧ Aside0 (spec_SublatticesOf.l1 kq a0 x4_2 x5_1 x6_2 = some (r1, r2)) ∧ Aside0 (kq ≤ k1) ∧ Aside0 (Kd.R k25 25 w' w.heap.size (fun _ => True) v4 x4_2) ∧ Aside0 (Below w.heap.size w w'))
          case atStart => exact ⟨(x4_1), (0), qf, H', ⟨Nat.le_refl _⟩, ⟨by (with_reducible repeat (first | apply Kd.R_alloc | apply Kd.R_drewN | apply Kd.R_drew)); exact HO_4.out⟩, ⟨qB⟩⟩
          case round =>
            clear H'
            try clear c2
            try clear p2
            try clear c3
            try clear c6
            try clear c6b0
            try clear p2
            obtain ⟨x4_2, x6_2, rfl, HA, HK2, HO_4, HB⟩ := hrel
            cases gk with
            | zero => exact absurd HA.out (by simp [spec_SublatticesOf.l1])
            | succ k2 =>
              have H := HA.out
              clear HA
              simp only [spec_SublatticesOf.l1] at H
              by_cases c7 : x5_1 = 0
              · rw [if_pos c7] at H
                exact absurd H (by simp)
              · rw [if_neg c7] at H
                have c7b0 : (x5_1 == 0) = false := beq_eq_false_iff_ne.mpr c7
                have c7b1 : (x5_1 != 0) = true := bne_iff_ne.mpr c7
                by_cases c8 : (Int.tmod a0 x5_1) = 0
                · rw [if_pos c8] at H
                  have c8b0 : ((Int.tmod a0 x5_1) == 0) = true := beq_iff_eq.mpr c8
                  have c8b1 : ((Int.tmod a0 x5_1) != 0) = false := bne_eq_false_iff_eq.mpr c8
                  clear c8
                  by_cases c9 : x6_2 < x5_1
                  · rw [if_pos c9] at H
                    have c9b0 : decide (x6_2 < x5_1) = true := decide_eq_true c9
                    clear c9
                    by_cases c10 : x4_2.length < 5864062014805
                    · rw [if_pos c10] at H
                      have LMc10 := Aside0.mk c10
                      clear c10
                      obtain ⟨y112, hy112⟩ : ∃ y_ : List (S25), y_ = (x4_2 ++ [(⟨x5_1, x6_2, wrap64 (Int.tdiv a0 x5_1)⟩ : S25)]) := ⟨_, rfl⟩
                      replace H : (spec_SublatticesOf.l1 k2 a0 y112 x5_1 (wrap64 (x6_2 + 1))) = some (r1, r2) := by first | (rw [hy112]; with_reducible exact H) | (have H2_ := (Option.bind_some _ _).symm.trans H; rw [hy112]; with_reducible exact H2_) | (have H2_ := (Option.bind_some _ _).symm.trans H; with_reducible exact H2_) | with_reducible exact H | (rw [hy112]; exact H) | exact H
                      have Ny112 := Aside0.mk hy112
                      clear hy112
                      have H' := Aside0.mk H
                      clear H
                      go_wp2_with (first | ((with_reducible refine gate_builtin (b := .append) (xs := #[.tmp 27, .tmp 34]) rfl ?_); at_builtin; refine Kd.R_append k25 (w0 := w) w.heap.size rfl (.tmp 27) (.tmp 34) 33 25 (.agg #[(.int .i64 0), (.int .i64 0), (.int .i64 0)]) 24 rfl Try.underlying33 info25 rfl (by decide) (by omega) u4 x4_2 (⟨x5_1, x6_2, wrap64 (Int.tdiv a0 x5_1)⟩ : S25) [.int .i64 x5_1, .int .i64 x6_2, .int .i64 (wrap64 (Int.tdiv a0 x5_1))] (fun _ => True) (fun _ => False) rfl rfl ?aP (fun _ hk => hk.elim) ?aF ?aO ?aB ?aS ?aL ?_; (case aP => exact k25_mkM _ _ _ (⟨x5_1, x6_2, wrap64 (Int.tdiv a0 x5_1)⟩ : S25)); (case aB => exact qB); (case aF => exact (fun _ _ => trivial)); (case aO => exact (qR HO_4.out)); (case aS => exact (below_size qB)); (case aL => have := LMc10.out; omega); intro v113 w11 ho hb hg hat; rw [← Ny112.out] at ho; replace HB := Aside0.mk (hb); have HO114 := Aside0.mk (ho); clear HO_4; clear ho hb hg hat))
                      go_roundg k2
                      case measure => have := HK1.out; have := HK2.out; omega
                      case rel => exact ⟨(y112), (wrap64 (x6_2 + 1)), qf, H', ⟨by have := HK1.out; have := HK2.out; omega⟩, ⟨by (with_reducible repeat (first | apply Kd.R_alloc | apply Kd.R_drewN | apply Kd.R_drew)); exact HO114.out⟩, ⟨qB⟩⟩
                    · rw [if_neg c10] at H
                      exact absurd H (by simp)
                  · rw [if_neg c9] at H
                    have c9b0 : decide (x6_2 < x5_1) = false := decide_eq_false c9
                    clear c9
                    have H' := Aside0.mk H
                    clear H
                    go_wp2
                    go_roundg k2
                    case measure => have := HK1.out; have := HK2.out; omega
                    case rel => exact ⟨(x4_2), (wrap64 (x5_1 + 1)), qf, H', ⟨by have := HK1.out; have := HK2.out; omega⟩, ⟨by (with_reducible repeat (first | apply Kd.R_alloc | apply Kd.R_drewN | apply Kd.R_drew)); exact HO_4.out⟩, ⟨qB⟩⟩
                · rw [if_neg c8] at H
                  have c8b0 : ((Int.tmod a0 x5_1) == 0) = false := beq_eq_false_iff_ne.mpr c8
                  have c8b1 : ((Int.tmod a0 x5_1) != 0) = true := bne_iff_ne.mpr c8
                  have H' := Aside0.mk H
                  clear H
                  go_wp2
                  go_roundg k2
                  case measure => have := HK1.out; have := HK2.out; omega
                  case rel => exact ⟨(x4_2), (wrap64 (x5_1 + 1)), qf, H', ⟨by have := HK1.out; have := HK2.out; omega⟩, ⟨by (with_reducible repeat (first | apply Kd.R_alloc | apply Kd.R_drewN | apply Kd.R_drew)); exact HO_4.out⟩, ⟨qB⟩⟩
        · rw [if_neg c6] at H
          have c6b0 : decide (x5_1 ≤ a0) = false := decide_eq_false c6
          clear c6
          simp only [Option.some.injEq, Prod.mk.injEq] at H
          obtain ⟨rfl, rfl⟩ := H
          go_wp2
          go_ret2
          exact ⟨_, qF, by (with_reducible repeat (first | apply Kd.R_alloc | apply Kd.R_drewN | apply Kd.R_drew)); exact HO_4.out, qB⟩
  · replace c3 := Bool.eq_false_iff.mpr c3
    subst c3
    have H1 : (some (([] : List (S25)), 2)) = some (r1, r2) := by rw [if_neg (show ¬ (false = true) by decide)] at H; exact H
    clear H
    have H := H1
    clear H1
    simp only [Option.some.injEq, Prod.mk.injEq] at H
    obtain ⟨rfl, rfl⟩ := H
    go_enter Try.func26, Try.ntmps26
    go_wp2_with (first | ((with_reducible refine gate_callee (f := 23) rfl ?_); refine qgl (some 8) Try.func23 #[.int .i64 a0, .int .i64 1, .int .i64 64] ?_; (with_reducible refine (spec_l01In.calls a0 1 64 false _ A2.out).mono ?_); rintro e w' ⟨rfl, ⟨nd, rfl⟩⟩; refine ⟨_, rfl, ?_⟩))
    go_ret2
    exact ⟨_, qF, by first | exact Kd.R_nil _ _ _ _ _ | exact Kd.N_nil _ _ _ _ _ | exact Kd.V_nil _ _ _ _ _ | exact Kd.Q_nil _ _ _ _ _ | exact Kd.S_nil _ _ _ _ _, qB⟩

def spec_l01Mod.f (a0 : Int) (a1 : Int) : Option (Int) := if a1 = 0 then (none) else (if (Int.tmod a0 a1) < 0 then (some (wrap64 ((Int.tmod a0 a1) + a1))) else (some (Int.tmod a0 a1)))
set_option maxHeartbeats 8000000 in
set_option maxRecDepth 100000 in
theorem spec_l01Mod.calls (a0 : Int) (a1 : Int) (r : Int) (w : World) (h : spec_l01Mod.f a0 a1 = some r) :
    Calls Try.prog 53 #[.int .i64 a0, .int .i64 a1] w fun e w' => e = .returned (.int .i64 r) ∧ Drawn0 w w' := by
  have H : (if a1 = 0 then (none) else (if (Int.tmod a0 a1) < 0 then (some (wrap64 ((Int.tmod a0 a1) + a1))) else (some (Int.tmod a0 a1)))) = some r := h
  clear h
  by_cases c3 : a1 = 0
  · rw [if_pos c3] at H
    exact absurd H (by simp)
  · rw [if_neg c3] at H
    have c3b0 : (a1 == 0) = false := beq_eq_false_iff_ne.mpr c3
    have c3b1 : (a1 != 0) = true := bne_iff_ne.mpr c3
    by_cases c4 : (Int.tmod a0 a1) < 0
    · rw [if_pos c4] at H
      have c4b0 : decide ((Int.tmod a0 a1) < 0) = true := decide_eq_true c4
      clear c4
      obtain rfl := Option.some.inj H
      go_enter Try.func53, Try.ntmps53
      go_wp2
      go_ret
      exact ⟨qf, qD⟩
    · rw [if_neg c4] at H
      have c4b0 : decide ((Int.tmod a0 a1) < 0) = false := decide_eq_false c4
      clear c4
      obtain rfl := Option.some.inj H
      go_enter Try.func53, Try.ntmps53
      go_wp2
      go_ret
      exact ⟨qf, qD⟩

def spec_l03Reduce.f (a0_0 : Int) (a0_1 : Int) (a0_2 : Int) (a1_0 : Int) (a1_1 : Int) : Option (Int × Int) := (spec_l01Mod.f a1_1 a0_2).bind fun t118 => (if a0_2 = 0 then (none) else ((spec_l01Mod.f (wrap64 (a1_0 - (wrap64 ((wrap64 (Int.tdiv (wrap64 (a1_1 - t118)) a0_2)) * a0_1)))) a0_0).bind fun t119 => (some (t119, t118))))
set_option maxHeartbeats 8000000 in
set_option maxRecDepth 100000 in
theorem spec_l03Reduce.calls (a0_0 : Int) (a0_1 : Int) (a0_2 : Int) (a1_0 : Int) (a1_1 : Int) (r1 : Int) (r2 : Int) (w : World) (h : spec_l03Reduce.f a0_0 a0_1 a0_2 a1_0 a1_1 = some (r1, r2)) :
    Calls Try.prog 47 #[.agg #[.int .i64 a0_0, .int .i64 a0_1, .int .i64 a0_2], .agg #[.int .i64 a1_0, .int .i64 a1_1]] w fun e w' => e = .returned (.agg #[.int .i64 r1, .int .i64 r2]) ∧ Below w.heap.size w w' := by
  have hu25 := Try.underlying25
  have hu43 := Try.underlying43
  have HB := Aside0.mk (Below.refl w.heap.size w)
  have H : ((spec_l01Mod.f a1_1 a0_2).bind fun t118 => (if a0_2 = 0 then (none) else ((spec_l01Mod.f (wrap64 (a1_0 - (wrap64 ((wrap64 (Int.tdiv (wrap64 (a1_1 - t118)) a0_2)) * a0_1)))) a0_0).bind fun t119 => (some (t119, t118))))) = some (r1, r2) := h
  clear h
  replace H := qbd H
  obtain ⟨t118, A3, H⟩ := H
  try dsimp only at H
  by_cases c4 : a0_2 = 0
  · rw [if_pos c4] at H
    exact absurd H (by simp)
  · rw [if_neg c4] at H
    have c4b0 : (a0_2 == 0) = false := beq_eq_false_iff_ne.mpr c4
    have c4b1 : (a0_2 != 0) = true := bne_iff_ne.mpr c4
    replace H := qbd H
    obtain ⟨t119, A5, H⟩ := H
    try dsimp only at H
    simp only [Option.some.injEq, Prod.mk.injEq] at H
    obtain ⟨rfl, rfl⟩ := H
    go_enter Try.func47, Try.ntmps47
    go_wp2_with (first | ((with_reducible refine gate_dst (N := 2) rfl ?_); refine qbx 2 25 #[.int .i64 a0_0, .int .i64 a0_1, .int .i64 a0_2] ?_; intro gb115 hg w6 hbox hb; have BK115 := Aside0.mk (hbox); have GW115 := qgs HB hg; have GE115 := qgs HB hg; replace HB := qbs HB hb; clear hb hbox hg) | ((with_reducible refine gate_dst (N := 3) rfl ?_); refine qbx 3 43 #[.int .i64 a1_0, .int .i64 a1_1] ?_; intro gb116 hg w7 hbox hb; have BK116 := Aside0.mk (hbox); have GW116 := qgs HB hg; have GE116 := qgs HB hg; replace HB := qbs HB hb; have NB115_116 := qnL BK115 hg; have NB116_115 := qnG BK115 hg; replace BK115 := qbb BK115 hb; clear hb hbox hg) | ((with_reducible refine gate_dst (N := 4) rfl ?_); refine qbx 4 43 #[.int .i64 0, .int .i64 0] ?_; intro gb117 hg w8 hbox hb; have BK117 := Aside0.mk (hbox); have GW117 := qgs HB hg; have GE117 := qgs HB hg; replace HB := qbs HB hb; have NB115_117 := qnL BK115 hg; have NB117_115 := qnG BK115 hg; replace BK115 := qbb BK115 hb; have NB116_117 := qnL BK116 hg; have NB117_116 := qnG BK116 hg; replace BK116 := qbb BK116 hb; clear hb hbox hg; have hnb9 := NB116_115.out; have hnc9 := NB115_116.out; have hnb10 := NB116_117.out; have hnc10 := NB117_116.out; have hcz11_0 := qc0 BK116; have hcz11_1 := qc1 BK116; have hfz11_0 := blk_frozen BK116.out 0; have hfz11_1 := blk_frozen BK116.out 1; have hnb12 := NB115_117.out; have hnc12 := NB117_115.out; have hcz13_0 := qc0 BK115; have hcz13_1 := qc1 BK115; have hcz13_2 := qc2 BK115; have hfz13_0 := blk_frozen BK115.out 0; have hfz13_1 := blk_frozen BK115.out 1; have hfz13_2 := blk_frozen BK115.out 2) | ((with_reducible refine gate_callee (f := 53) rfl ?_); refine qgl (some 11) Try.func53 #[.int .i64 a1_1, .int .i64 a0_2] ?_; (with_reducible refine (spec_l01Mod.calls a1_1 a0_2 t118 _ A3.out).mono ?_); rintro e w' ⟨rfl, ⟨nd, rfl⟩⟩; refine ⟨_, rfl, ?_⟩) | ((with_reducible refine gate_callee (f := 53) rfl ?_); refine qgl (some 28) Try.func53 #[.int .i64 (wrap64 (a1_0 - (wrap64 ((wrap64 (Int.tdiv (wrap64 (a1_1 - t118)) a0_2)) * a0_1)))), .int .i64 a0_0] ?_; (with_reducible refine (spec_l01Mod.calls (wrap64 (a1_0 - (wrap64 ((wrap64 (Int.tdiv (wrap64 (a1_1 - t118)) a0_2)) * a0_1)))) a0_0 t119 _ A5.out).mono ?_); rintro e w' ⟨rfl, ⟨nd, rfl⟩⟩; refine ⟨_, rfl, ?_⟩; have hcz14_0 := qc0 BK117; have hcz14_1 := qc1 BK117; have hfz14_0 := blk_frozen BK117.out 0; have hfz14_1 := blk_frozen BK117.out 1))
    refine bodyPost_ret (results_cell_row rfl _ _ gb117 43 #[.int .i64 t119, .int .i64 t118] (0, 0) _ rfl qw Try.underlying43 rfl (by kernel_rfl)) rfl ?_
    exact ⟨qF, qB⟩

def spec_l03Number.f (a0_0 : Int) (a0_1 : Int) (a0_2 : Int) (a1_0 : Int) (a1_1 : Int) : Option (Int) := (spec_l03Reduce.f a0_0 a0_1 a0_2 a1_0 a1_1).bind fun bt122 => (some (wrap64 ((wrap64 (bt122.1 * a0_2)) + bt122.2)))
set_option maxHeartbeats 8000000 in
set_option maxRecDepth 100000 in
theorem spec_l03Number.calls (a0_0 : Int) (a0_1 : Int) (a0_2 : Int) (a1_0 : Int) (a1_1 : Int) (r : Int) (w : World) (h : spec_l03Number.f a0_0 a0_1 a0_2 a1_0 a1_1 = some r) :
    Calls Try.prog 39 #[.agg #[.int .i64 a0_0, .int .i64 a0_1, .int .i64 a0_2], .agg #[.int .i64 a1_0, .int .i64 a1_1]] w fun e w' => e = .returned (.int .i64 r) ∧ Below w.heap.size w w' := by
  have hu25 := Try.underlying25
  have hu43 := Try.underlying43
  have HB := Aside0.mk (Below.refl w.heap.size w)
  have H : ((spec_l03Reduce.f a0_0 a0_1 a0_2 a1_0 a1_1).bind fun bt122 => (some (wrap64 ((wrap64 (bt122.1 * a0_2)) + bt122.2)))) = some r := h
  clear h
  replace H := qbd H
  obtain ⟨⟨t122, t123⟩, A3, H⟩ := H
  try dsimp only at H
  obtain rfl := Option.some.inj H
  go_enter Try.func39, Try.ntmps39
  go_wp2_with (first | ((with_reducible refine gate_dst (N := 2) rfl ?_); refine qbx 2 25 #[.int .i64 a0_0, .int .i64 a0_1, .int .i64 a0_2] ?_; intro gb120 hg w4 hbox hb; have BK120 := Aside0.mk (hbox); have GW120 := qgs HB hg; have GE120 := qgs HB hg; replace HB := qbs HB hb; clear hb hbox hg) | ((with_reducible refine gate_dst (N := 3) rfl ?_); refine qbx 3 43 #[.int .i64 a1_0, .int .i64 a1_1] ?_; intro gb121 hg w5 hbox hb; have BK121 := Aside0.mk (hbox); have GW121 := qgs HB hg; have GE121 := qgs HB hg; replace HB := qbs HB hb; have NB120_121 := qnL BK120 hg; have NB121_120 := qnG BK120 hg; replace BK120 := qbb BK120 hb; clear hb hbox hg; have hnb6 := NB120_121.out; have hnc6 := NB121_120.out; have hcz7_0 := qc0 BK120; have hcz7_1 := qc1 BK120; have hcz7_2 := qc2 BK120; have hfz7_0 := blk_frozen BK120.out 0; have hfz7_1 := blk_frozen BK120.out 1; have hfz7_2 := blk_frozen BK120.out 2; have hcz8_0 := qc0 BK121; have hcz8_1 := qc1 BK121; have hfz8_0 := blk_frozen BK121.out 0; have hfz8_1 := blk_frozen BK121.out 1) | ((with_reducible refine gate_callee (f := 47) rfl ?_); refine qgl (some 7) Try.func47 #[.agg #[.int .i64 a0_0, .int .i64 a0_1, .int .i64 a0_2], .agg #[.int .i64 a1_0, .int .i64 a1_1]] ?_; (with_reducible refine (spec_l03Reduce.calls a0_0 a0_1 a0_2 a1_0 a1_1 t122 t123 _ A3.out).mono ?_); rintro e w9 ⟨rfl, hb⟩; refine ⟨_, rfl, ?_⟩; replace BK120 := qbb BK120 hb; replace BK121 := qbb BK121 hb; replace HB := qbs HB hb; (try clear hb); have hcz10_0 := qc0 BK121; have hcz10_1 := qc1 BK121; have hfz10_0 := blk_frozen BK121.out 0; have hfz10_1 := blk_frozen BK121.out 1; have hcz11_0 := qc0 BK120; have hcz11_1 := qc1 BK120; have hcz11_2 := qc2 BK120; have hfz11_0 := blk_frozen BK120.out 0; have hfz11_1 := blk_frozen BK120.out 1; have hfz11_2 := blk_frozen BK120.out 2))
  go_ret
  exact ⟨qF, qB⟩

end Go.Proofs.Ytoajccbmikmjdaa.X

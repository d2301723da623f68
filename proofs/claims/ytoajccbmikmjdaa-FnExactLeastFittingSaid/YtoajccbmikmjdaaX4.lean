-- PRINTED by print.py (a twelfth state) out of the translation. Not trusted: Lean checks it.
import Derived.Test.YtoajccbmikmjdaaXQ
import Derived.Test.YtoajccbmikmjdaaX0
import Derived.Test.YtoajccbmikmjdaaX2
import Derived.Test.YtoajccbmikmjdaaX3
namespace Go.Proofs.Ytoajccbmikmjdaa.X
open Go.RowKit Go.Proofs.YtoajccbmikmjdaaX Go.Proofs.YtoajccbmikmjdaaW.PrintWords Go.Proofs.YtoajccbmikmjdaaW.PrintLast Go.Proofs.YtoajccbmikmjdaaW.PrintMore
attribute [local go_sem] max2_int min2_int max_two min_two max_three min_three max_four min_four   -- for this text's walks alone
set_option linter.unusedVariables false
set_option linter.unusedSimpArgs false

def spec_l19Lattices.l0 : Nat → List (S45) → List (S25) → List (S25) → Int → Option ((List (S25)))
  | 0, _, _, _, _ => none
  | k + 1, x0, x5, x7, x8 => if x8 < (x5.length : Int) then (if 0 ≤ x8 then ((spec_l19Fits.f k ((rd_T25 x5 x8).f0) ((rd_T25 x5 x8).f1) ((rd_T25 x5 x8).f2) x0).bind fun t139 => (if t139 = true then (if x7.length < 5864062014805 then (spec_l19Lattices.l0 k x0 x5 (x7 ++ [(⟨(rd_T25 x5 x8).f0, (rd_T25 x5 x8).f1, (rd_T25 x5 x8).f2⟩ : S25)]) (wrap64 (x8 + 1))) else (none)) else (spec_l19Lattices.l0 k x0 x5 x7 (wrap64 (x8 + 1))))) else (none)) else (some x7)
def spec_l19Lattices.f (k : Nat) (l0 : List (S45)) (a1 : Int) : Option ((List (S25))) := (spec_SublatticesOf.f k a1).bind fun bt131 => (spec_l19Lattices.l0 k l0 bt131.1 (([] : List (S25))) 0)
set_option maxHeartbeats 8000000 in
set_option maxRecDepth 100000 in
theorem spec_l19Lattices.calls (k : Nat) (A0 : Option Addr) (c0 : Nat) (l0 : List (S45)) (a1 : Int) (r : List (S25)) (w : World) (hr0 : Kd.C k45 w A0 l0.length l0) (hc0 : l0.length ≤ c0) (h : spec_l19Lattices.f k l0 a1 = some r) :
    Calls Try.prog 18 #[.slice A0 l0.length c0, .int .i64 a1] w fun e w' => ∃ v0_ : Value, e = .returned (v0_) ∧ Kd.R k25 25 w' w.heap.size (fun _ => True) v0_ r ∧ Below w.heap.size w w' := by
  have hu25 := Try.underlying25
  have HR0 := Aside0.mk hr0
  have HC0 := Aside0.mk hc0
  clear hr0 hc0
  have HB := Aside0.mk (Below.refl w.heap.size w)
  have H : ((spec_SublatticesOf.f k a1).bind fun bt131 => (spec_l19Lattices.l0 k l0 bt131.1 (([] : List (S25))) 0)) = some r := h
  clear h
  replace H := qbd H
  obtain ⟨⟨t131, t132⟩, A3, H⟩ := H
  try dsimp only at H
  obtain ⟨y135, hy135⟩ : ∃ y_ : List (S25), y_ = (([] : List (S25))) := ⟨_, rfl⟩
  replace H : (spec_l19Lattices.l0 k l0 t131 y135 0) = some r := by first | (rw [hy135]; with_reducible exact H) | (have H2_ := (Option.bind_some _ _).symm.trans H; rw [hy135]; with_reducible exact H2_) | (have H2_ := (Option.bind_some _ _).symm.trans H; with_reducible exact H2_) | with_reducible exact H | (rw [hy135]; exact H) | exact H
  have Ny135 := Aside0.mk hy135
  clear hy135
  have H' := Aside0.mk H
  clear H
  go_enter Try.func18, Try.ntmps18
  go_wp2_with (first | ((with_reducible refine gate_callee (f := 26) rfl ?_); refine qgl (some 11) Try.func26 #[.int .i64 a1] ?_; (with_reducible refine (spec_SublatticesOf.calls k a1 t131 t132 _ A3.out).mono ?_); rintro e w4 ⟨v133, rfl, ho0, hb⟩; refine ⟨_, rfl, ?_⟩; have HO134 := Aside0.mk (Kd.R_lower ho0 (below_size qB)); replace HB := qbs HB hb; (try clear hb); (try clear ho0)) | ((with_reducible refine gate_dst (N := 14) rfl ?_); refine Kd.R_lit k25 _ 25 ?hg (N := 14) ?hd (xs := ([] : List (S25))) (inner := []) (ok := fun _ => True) (okp := fun _ => True) ?hr ?hp (fun _ hk => hk) trivial (Below.refl _ _) (Nat.le_refl _) (by simp) ?_; (case hd => rfl); (case hg => rfl); (case hr => first | (go_simp; done) | (go_simp; rfl)); (case hp => exact (Reps.none _ _)); intro v136 w5 ho6 hb hg_ hnew_; clear hg_ hnew_; (first | rw [← Ny135.out] at ho6 | (simp only [Int.reduceToNat] at ho6; rw [← Ny135.out] at ho6)); have HO137 := Aside0.mk (Kd.R_lower (Kd.R_new' ho6 (Kd.R_lt (qR HO134.out))) (below_size qB)); replace HO134 := Aside0.mk (Kd.R_elder' (qR HO134.out) (Kd.R_base ho6) hb); replace HB := qbs HB hb; clear hb ho6))
  go_loopg [7, 8] k (fun kq v7 v8 w' => ∃ (x7_1 : List (S25)) (x8_1 : Int), v8 = .int .i64 x8_1 ∧ Aside0 (spec_l19Lattices.l0 kq l0 t131 x7_1 x8_1 = some r) ∧ Aside0 (kq ≤ k) ∧ Aside0 (Kd.R k25 25 w' w.heap.size (fun k_ => some k_ ≠ (v7 : Value).ownBlock) v133 t131) ∧ Aside0 (Kd.R k25 25 w' w.heap.size (fun k_ => some k_ ≠ (v133 : Value).ownBlock) v7 x7_1) ∧ Aside0 (Below w.heap.size w w'))
  case atStart => exact ⟨(y135), (0), qf, H', ⟨Nat.le_refl _⟩, ⟨by (with_reducible repeat (first | apply Kd.R_alloc | apply Kd.R_drewN | apply Kd.R_drew)); exact Kd.R_mono HO134.out (fun _ hk => hk.2)⟩, ⟨by (with_reducible repeat (first | apply Kd.R_alloc | apply Kd.R_drewN | apply Kd.R_drew)); exact Kd.R_mono HO137.out (fun _ hk => hk.2)⟩, ⟨qB⟩⟩
  case round =>
    clear H'
    try clear c1
    try clear c2
    try clear p2
    obtain ⟨x7_1, x8_1, rfl, HA, HK1, HO_5, HO_7, HB⟩ := hrel
    cases gk with
    | zero => exact absurd HA.out (by simp [spec_l19Lattices.l0])
    | succ k1 =>
      have H := HA.out
      clear HA
      simp only [spec_l19Lattices.l0] at H
      by_cases c7 : x8_1 < (t131.length : Int)
      · rw [if_pos c7] at H
        have c7b0 : decide (x8_1 < (t131.length : Int)) = true := decide_eq_true c7
        clear c7
        by_cases c8 : 0 ≤ x8_1
        · rw [if_pos c8] at H
          have c8b0 : decide (0 ≤ x8_1) = true := decide_eq_true c8
          clear c8
          replace H := qbd H
          obtain ⟨t139, A9, H⟩ := H
          try dsimp only at H
          by_cases c10 : t139 = true
          · subst c10
            have H1 : (if x7_1.length < 5864062014805 then (spec_l19Lattices.l0 k1 l0 t131 (x7_1 ++ [(⟨(rd_T25 t131 x8_1).f0, (rd_T25 t131 x8_1).f1, (rd_T25 t131 x8_1).f2⟩ : S25)]) (wrap64 (x8_1 + 1))) else (none)) = some r := by rw [if_pos rfl] at H; exact H
            clear H
            have H := H1
            clear H1
            by_cases c11 : x7_1.length < 5864062014805
            · rw [if_pos c11] at H
              have LMc11 := Aside0.mk c11
              clear c11
              obtain ⟨y141, hy141⟩ : ∃ y_ : List (S25), y_ = (x7_1 ++ [(⟨(rd_T25 t131 x8_1).f0, (rd_T25 t131 x8_1).f1, (rd_T25 t131 x8_1).f2⟩ : S25)]) := ⟨_, rfl⟩
              replace H : (spec_l19Lattices.l0 k1 l0 t131 y141 (wrap64 (x8_1 + 1))) = some r := by first | (rw [hy141]; with_reducible exact H) | (have H2_ := (Option.bind_some _ _).symm.trans H; rw [hy141]; with_reducible exact H2_) | (have H2_ := (Option.bind_some _ _).symm.trans H; with_reducible exact H2_) | with_reducible exact H | (rw [hy141]; exact H) | exact H
              have Ny141 := Aside0.mk hy141
              clear hy141
              have H' := Aside0.mk H
              clear H
              obtain ⟨Ao12, co12, eo12⟩ := Kd.R_slice HO_5.out
              subst eo12
              have p138 : 0 ≤ (x8_1 : Int) := qo
              have q138 : x8_1 < (t131.length : Int) := qo
              obtain ⟨ad138, e138, hx138_0, hx138_1, hx138_2⟩ := at_T25 (Kd.R_reads' HO_5.out).2.2 x8_1 p138 q138
              cases e138
              replace p138 := eq_true p138
              replace q138 := eq_true q138
              go_wp2_with (first | ((with_reducible refine gate_callee (f := 27) rfl ?_); refine qgl (some 26) Try.func27 #[.agg #[.int .i64 ((rd_T25 t131 x8_1).f0), .int .i64 ((rd_T25 t131 x8_1).f1), .int .i64 ((rd_T25 t131 x8_1).f2)], .slice A0 l0.length c0] ?_; (with_reducible refine (spec_l19Fits.calls k1 ((rd_T25 t131 x8_1).f0) ((rd_T25 t131 x8_1).f1) ((rd_T25 t131 x8_1).f2) _ _ l0 true _ (qC (Kd.C_below HR0.out HB.out)) HC0.out A9.out).mono ?_); rintro e w13 ⟨rfl, hb⟩; refine ⟨_, rfl, ?_⟩; replace HO_5 := Aside0.mk (Kd.R_below (qR HO_5.out) hb); replace HO_7 := Aside0.mk (Kd.R_below (qR HO_7.out) hb); replace HB := qbs HB hb; (try clear hb); have p140 : 0 ≤ (x8_1 : Int) := qo; have q140 : x8_1 < (t131.length : Int) := qo; obtain ⟨ad140, e140, hx140_0, hx140_1, hx140_2⟩ := at_T25 (Kd.R_reads' HO_5.out).2.2 x8_1 p140 q140; obtain rfl : ad138 = ad140 := (by injection e140); replace p140 := eq_true p140; replace q140 := eq_true q140) | ((with_reducible refine gate_builtin (b := .append) (xs := #[.tmp 27, .tmp 32]) rfl ?_); at_builtin; refine Kd.R_append k25 (w0 := w) w.heap.size rfl (.tmp 27) (.tmp 32) 33 25 (.agg #[(.int .i64 0), (.int .i64 0), (.int .i64 0)]) 24 rfl Try.underlying33 info25 rfl (by decide) (by omega) u7 x7_1 (⟨(rd_T25 t131 x8_1).f0, (rd_T25 t131 x8_1).f1, (rd_T25 t131 x8_1).f2⟩ : S25) [.int .i64 ((rd_T25 t131 x8_1).f0), .int .i64 ((rd_T25 t131 x8_1).f1), .int .i64 ((rd_T25 t131 x8_1).f2)] (fun k_ => some k_ ≠ (.slice (some ad138) t131.length co12 : Value).ownBlock) (fun _ => False) rfl rfl ?aP (fun _ hk => hk.elim) ?aF ?aO ?aB ?aS ?aL ?_; (case aP => exact k25_mkM _ _ _ (⟨(rd_T25 t131 x8_1).f0, (rd_T25 t131 x8_1).f1, (rd_T25 t131 x8_1).f2⟩ : S25)); (case aB => exact qB); (case aF => exact (fun k_ hk => Kd.fresh' (Kd.R_lt (qR HO_5.out)) k_ hk)); (case aO => exact (qR HO_7.out)); (case aS => exact (below_size qB)); (case aL => have := LMc11.out; omega); intro v142 w14 ho hb hg hat; rw [← Ny141.out] at ho; replace HO_5 := Aside0.mk (Kd.R_after (ok := (fun _ => True)) (qR (Kd.R_mono HO_5.out (fun _ hk => ⟨trivial, hk⟩))) hg hat); replace HB := Aside0.mk (hb); have HO143 := Aside0.mk (ho); clear HO_7; clear ho hb hg hat))
              go_roundg k1
              case measure => have := HK1.out; omega
              case rel => exact ⟨(y141), (wrap64 (x8_1 + 1)), qf, H', ⟨by have := HK1.out; omega⟩, ⟨by (with_reducible repeat (first | apply Kd.R_alloc | apply Kd.R_drewN | apply Kd.R_drew)); exact Kd.R_mono HO_5.out (fun _ hk => hk.2)⟩, ⟨by (with_reducible repeat (first | apply Kd.R_alloc | apply Kd.R_drewN | apply Kd.R_drew)); exact HO143.out⟩, ⟨qB⟩⟩
            · rw [if_neg c11] at H
              exact absurd H (by simp)
          · replace c10 := Bool.eq_false_iff.mpr c10
            subst c10
            have H1 : (spec_l19Lattices.l0 k1 l0 t131 x7_1 (wrap64 (x8_1 + 1))) = some r := by rw [if_neg (show ¬ (false = true) by decide)] at H; exact H
            clear H
            have H := H1
            clear H1
            have H' := Aside0.mk H
            clear H
            obtain ⟨Ao15, co15, eo15⟩ := Kd.R_slice HO_5.out
            subst eo15
            have p138 : 0 ≤ (x8_1 : Int) := qo
            have q138 : x8_1 < (t131.length : Int) := qo
            obtain ⟨ad138, e138, hx138_0, hx138_1, hx138_2⟩ := at_T25 (Kd.R_reads' HO_5.out).2.2 x8_1 p138 q138
            cases e138
            replace p138 := eq_true p138
            replace q138 := eq_true q138
            go_wp2_with (first | ((with_reducible refine gate_callee (f := 27) rfl ?_); refine qgl (some 26) Try.func27 #[.agg #[.int .i64 ((rd_T25 t131 x8_1).f0), .int .i64 ((rd_T25 t131 x8_1).f1), .int .i64 ((rd_T25 t131 x8_1).f2)], .slice A0 l0.length c0] ?_; (with_reducible refine (spec_l19Fits.calls k1 ((rd_T25 t131 x8_1).f0) ((rd_T25 t131 x8_1).f1) ((rd_T25 t131 x8_1).f2) _ _ l0 false _ (qC (Kd.C_below HR0.out HB.out)) HC0.out A9.out).mono ?_); rintro e w16 ⟨rfl, hb⟩; refine ⟨_, rfl, ?_⟩; replace HO_5 := Aside0.mk (Kd.R_below (qR HO_5.out) hb); replace HO_7 := Aside0.mk (Kd.R_below (qR HO_7.out) hb); replace HB := qbs HB hb; (try clear hb)))
            go_roundg k1
            case measure => have := HK1.out; omega
            case rel => exact ⟨(x7_1), (wrap64 (x8_1 + 1)), qf, H', ⟨by have := HK1.out; omega⟩, ⟨by (with_reducible repeat (first | apply Kd.R_alloc | apply Kd.R_drewN | apply Kd.R_drew)); exact HO_5.out⟩, ⟨by (with_reducible repeat (first | apply Kd.R_alloc | apply Kd.R_drewN | apply Kd.R_drew)); exact HO_7.out⟩, ⟨qB⟩⟩
        · rw [if_neg c8] at H
          exact absurd H (by simp)
      · rw [if_neg c7] at H
        have c7b0 : decide (x8_1 < (t131.length : Int)) = false := decide_eq_false c7
        clear c7
        obtain rfl := Option.some.inj H
        obtain ⟨Ao17, co17, eo17⟩ := Kd.R_slice HO_5.out
        subst eo17
        go_wp2
        go_ret
        exact ⟨_, qF, by (with_reducible repeat (first | apply Kd.R_alloc | apply Kd.R_drewN | apply Kd.R_drew)); exact Kd.R_mono HO_7.out (fun _ hk => trivial), qB⟩

def spec_LeastFitting.l0 : Nat → List (S45) → Int → Option (Int × Int × Int × Int)
  | 0, _, _ => none
  | k + 1, x0, x4 => if x4 ≤ 64 then ((spec_l19Lattices.f k x0 x4).bind fun t146 => (if (t146.length : Int) > 0 then (if 0 < (t146.length : Int) then (some ((rd_T25 t146 0).f0, (rd_T25 t146 0).f1, (rd_T25 t146 0).f2, 0)) else (none)) else (spec_LeastFitting.l0 k x0 (wrap64 (x4 + 1))))) else (some (0, 0, 0, 4))
def spec_LeastFitting.f (k : Nat) (l0 : List (S45)) : Option (Int × Int × Int × Int) := (spec_AreMarks.f k l0).bind fun t145 => (if t145 = true then (spec_LeastFitting.l0 k l0 1) else (some (0, 0, 0, 2)))
set_option maxHeartbeats 8000000 in
set_option maxRecDepth 100000 in
theorem spec_LeastFitting.calls (k : Nat) (A0 : Option Addr) (c0 : Nat) (l0 : List (S45)) (r1 : Int) (r2 : Int) (r3 : Int) (r4 : Int) (w : World) (hr0 : Kd.C k45 w A0 l0.length l0) (hc0 : l0.length ≤ c0) (h : spec_LeastFitting.f k l0 = some (r1, r2, r3, r4)) :
    Calls Try.prog 6 #[.slice A0 l0.length c0] w fun e w' => e = .returned (.tuple #[.agg #[.int .i64 r1, .int .i64 r2, .int .i64 r3], .int .i64 r4]) ∧ Below w.heap.size w w' := by
  have hu25 := Try.underlying25
  have HR0 := Aside0.mk hr0
  have HC0 := Aside0.mk hc0
  clear hr0 hc0
  have HB := Aside0.mk (Below.refl w.heap.size w)
  have H : ((spec_AreMarks.f k l0).bind fun t145 => (if t145 = true then (spec_LeastFitting.l0 k l0 1) else (some (0, 0, 0, 2)))) = some (r1, r2, r3, r4) := h
  clear h
  replace H := qbd H
  obtain ⟨t145, A2, H⟩ := H
  try dsimp only at H
  by_cases c3 : t145 = true
  · subst c3
    have H1 : (spec_LeastFitting.l0 k l0 1) = some (r1, r2, r3, r4) := by rw [if_pos rfl] at H; exact H
    clear H
    have H := H1
    clear H1
    have H' := Aside0.mk H
    clear H
    go_enter Try.func6, Try.ntmps6
    go_wp2_with (first | ((with_reducible refine gate_dst (N := 2) rfl ?_); refine qbx 2 25 #[.int .i64 0, .int .i64 0, .int .i64 0] ?_; intro gb144 hg w4 hbox hb; have BK144 := Aside0.mk (hbox); have GW144 := qgs HB hg; have GE144 := qgs HB hg; replace HB := qbs HB hb; clear hb hbox hg) | ((with_reducible refine gate_callee (f := 17) rfl ?_); refine qgl (some 7) Try.func17 #[.slice A0 l0.length c0] ?_; (with_reducible refine (spec_AreMarks.calls k _ _ l0 true _ (qC (Kd.C_below HR0.out HB.out)) HC0.out A2.out).mono ?_); rintro e w5 ⟨rfl, hb⟩; refine ⟨_, rfl, ?_⟩; replace BK144 := qbb BK144 hb; replace HB := qbs HB hb; (try clear hb)))
    go_loopg [4] k (fun kq v4 w' => ∃ (x4_1 : Int) (x145000_1 : Int) (x145001_1 : Int) (x145002_1 : Int), v4 = .int .i64 x4_1 ∧ Aside0 (spec_LeastFitting.l0 kq l0 x4_1 = some (r1, r2, r3, r4)) ∧ Aside0 (kq ≤ k) ∧ Aside0 (w'.heap[gb144]? = some (.cells #[.int .i64 x145000_1, .int .i64 x145001_1, .int .i64 x145002_1] 25 (0, 0))) ∧ Aside0 (Below w.heap.size w w'))
    case atStart => exact ⟨(1), (0), (0), (0), qf, H', ⟨Nat.le_refl _⟩, ⟨by (with_reducible repeat (first | refine blk_drewN ?_ _ | refine blk_drew ?_ | refine blk_alloc ?_ _)); exact BK144.out⟩, ⟨qB⟩⟩
    case round =>
      clear H'
      try clear c1
      try clear p2
      try clear c3
      obtain ⟨x4_1, x145000_1, x145001_1, x145002_1, rfl, HA, HK1, BK144, HB⟩ := hrel
      cases gk with
      | zero => exact absurd HA.out (by simp [spec_LeastFitting.l0])
      | succ k1 =>
        have H := HA.out
        clear HA
        simp only [spec_LeastFitting.l0] at H
        by_cases c6 : x4_1 ≤ 64
        · rw [if_pos c6] at H
          have c6b0 : decide (x4_1 ≤ 64) = true := decide_eq_true c6
          clear c6
          replace H := qbd H
          obtain ⟨t146, A7, H⟩ := H
          try dsimp only at H
          by_cases c8 : (t146.length : Int) > 0
          · rw [if_pos c8] at H
            have c8b0 : decide (0 < (t146.length : Int)) = true := decide_eq_true c8
            have c8b1 : decide (0 < t146.length) = true := decide_eq_true (by omega)
            clear c8
            by_cases c9 : 0 < (t146.length : Int)
            · rw [if_pos c9] at H
              have c9b0 : decide (0 < (t146.length : Int)) = true := decide_eq_true c9
              have c9b1 : decide (0 < t146.length) = true := decide_eq_true (by omega)
              clear c9
              simp only [Option.some.injEq, Prod.mk.injEq] at H
              obtain ⟨rfl, rfl, rfl, rfl⟩ := H
              go_wp2_with (first | ((with_reducible refine gate_callee (f := 18) rfl ?_); refine qgl (some 16) Try.func18 #[.slice A0 l0.length c0, .int .i64 x4_1] ?_; (with_reducible refine (spec_l19Lattices.calls k1 _ _ l0 x4_1 t146 _ (qC (Kd.C_below HR0.out HB.out)) HC0.out A7.out).mono ?_); rintro e w10 ⟨v147, rfl, ho0, hb⟩; refine ⟨_, rfl, ?_⟩; have HO148 := Aside0.mk (Kd.R_lower (Kd.R_newB ho0 (g := gb144) (o := .cells #[.int .i64 x145000_1, .int .i64 x145001_1, .int .i64 x145002_1] 25 (0, 0)) (qp BK144.out)) (below_size qB)); replace BK144 := qbb BK144 hb; replace HB := qbs HB hb; (try clear hb); (try clear ho0); obtain ⟨Ao11, co11, eo11⟩ := Kd.R_slice HO148.out; subst eo11; have p149 : 0 ≤ (0 : Int) := (by omega); have q149 : 0 < (t146.length : Int) := qo; obtain ⟨ad149, e149, hx149_0, hx149_1, hx149_2⟩ := at_T25 (Kd.R_reads' HO148.out).2.2 0 p149 q149; cases e149; have qi149 : (0 < t146.length) = True := eq_true (by omega); (try rw [show ((0 : Int)).toNat = 0 from rfl] at hx149_0); (try rw [show 0 * 3 = 0 from rfl] at hx149_0); (try rw [Addr.add_zero'] at hx149_0); (try rw [show ((0 : Int)).toNat = 0 from rfl] at hx149_1); (try rw [show 0 * 3 = 0 from rfl] at hx149_1); (try rw [Addr.add_zero'] at hx149_1); (try rw [show ((0 : Int)).toNat = 0 from rfl] at hx149_2); (try rw [show 0 * 3 = 0 from rfl] at hx149_2); (try rw [Addr.add_zero'] at hx149_2); replace p149 := eq_true p149; replace q149 := eq_true q149; have hcz12_0 := qc0 BK144; have hcz12_1 := qc1 BK144; have hcz12_2 := qc2 BK144; have hfz12_0 := blk_frozen BK144.out 0; have hfz12_1 := blk_frozen BK144.out 1; have hfz12_2 := blk_frozen BK144.out 2))
              refine bodyPost_ret (results_ct rfl _ _ gb144 25 #[.int .i64 ((rd_T25 t146 0).f0), .int .i64 ((rd_T25 t146 0).f1), .int .i64 ((rd_T25 t146 0).f2)] (0, 0) _ rfl qw Try.underlying25 rfl (by kernel_rfl)) rfl ?_
              exact ⟨qF, qB⟩
            · rw [if_neg c9] at H
              exact absurd H (by simp)
          · rw [if_neg c8] at H
            have c8b0 : decide (0 < (t146.length : Int)) = false := decide_eq_false c8
            have c8b1 : decide (0 < t146.length) = false := decide_eq_false (by omega)
            clear c8
            have H' := Aside0.mk H
            clear H
            go_wp2_with (first | ((with_reducible refine gate_callee (f := 18) rfl ?_); refine qgl (some 16) Try.func18 #[.slice A0 l0.length c0, .int .i64 x4_1] ?_; (with_reducible refine (spec_l19Lattices.calls k1 _ _ l0 x4_1 t146 _ (qC (Kd.C_below HR0.out HB.out)) HC0.out A7.out).mono ?_); rintro e w13 ⟨v147, rfl, ho0, hb⟩; refine ⟨_, rfl, ?_⟩; have HO148 := Aside0.mk (Kd.R_lower (Kd.R_newB ho0 (g := gb144) (o := .cells #[.int .i64 x145000_1, .int .i64 x145001_1, .int .i64 x145002_1] 25 (0, 0)) (qp BK144.out)) (below_size qB)); replace BK144 := qbb BK144 hb; replace HB := qbs HB hb; (try clear hb); (try clear ho0); obtain ⟨Ao14, co14, eo14⟩ := Kd.R_slice HO148.out; subst eo14))
            go_roundg k1
            case measure => have := HK1.out; omega
            case rel => exact ⟨(wrap64 (x4_1 + 1)), (x145000_1), (x145001_1), (x145002_1), qf, H', ⟨by have := HK1.out; omega⟩, ⟨by (with_reducible repeat (first | refine blk_drewN ?_ _ | refine blk_drew ?_ | refine blk_alloc ?_ _)); exact BK144.out⟩, ⟨qB⟩⟩
        · rw [if_neg c6] at H
          have c6b0 : decide (x4_1 ≤ 64) = false := decide_eq_false c6
          clear c6
          simp only [Option.some.injEq, Prod.mk.injEq] at H
          obtain ⟨rfl, rfl, rfl, rfl⟩ := H
          have hcz15_0 : wr.cell? ⟨gb144, 0, none⟩ = some (.int .i64 x145000_1) := (blk_cell BK144.out 0).trans rfl
          have hcz15_1 : wr.cell? ⟨gb144, 1, none⟩ = some (.int .i64 x145001_1) := (blk_cell BK144.out 1).trans rfl
          have hcz15_2 : wr.cell? ⟨gb144, 2, none⟩ = some (.int .i64 x145002_1) := (blk_cell BK144.out 2).trans rfl
          have hfz15_0 := blk_frozen BK144.out 0
          have hfz15_1 := blk_frozen BK144.out 1
          have hfz15_2 := blk_frozen BK144.out 2
          go_wp2
          refine bodyPost_ret (results_ct rfl _ _ gb144 25 #[.int .i64 0, .int .i64 0, .int .i64 0] (0, 0) _ rfl qw Try.underlying25 rfl (by kernel_rfl)) rfl ?_
          exact ⟨qF, qB⟩
  · replace c3 := Bool.eq_false_iff.mpr c3
    subst c3
    have H1 : (some (0, 0, 0, 2)) = some (r1, r2, r3, r4) := by rw [if_neg (show ¬ (false = true) by decide)] at H; exact H
    clear H
    have H := H1
    clear H1
    simp only [Option.some.injEq, Prod.mk.injEq] at H
    obtain ⟨rfl, rfl, rfl, rfl⟩ := H
    go_enter Try.func6, Try.ntmps6
    go_wp2_with (first | ((with_reducible refine gate_dst (N := 2) rfl ?_); refine qbx 2 25 #[.int .i64 0, .int .i64 0, .int .i64 0] ?_; intro gb144 hg w16 hbox hb; have BK144 := Aside0.mk (hbox); have GW144 := qgs HB hg; have GE144 := qgs HB hg; replace HB := qbs HB hb; clear hb hbox hg) | ((with_reducible refine gate_callee (f := 17) rfl ?_); refine qgl (some 7) Try.func17 #[.slice A0 l0.length c0] ?_; (with_reducible refine (spec_AreMarks.calls k _ _ l0 false _ (qC (Kd.C_below HR0.out HB.out)) HC0.out A2.out).mono ?_); rintro e w17 ⟨rfl, hb⟩; refine ⟨_, rfl, ?_⟩; replace BK144 := qbb BK144 hb; replace HB := qbs HB hb; (try clear hb); have hcz18_0 := qc0 BK144; have hcz18_1 := qc1 BK144; have hcz18_2 := qc2 BK144; have hfz18_0 := blk_frozen BK144.out 0; have hfz18_1 := blk_frozen BK144.out 1; have hfz18_2 := blk_frozen BK144.out 2))
    refine bodyPost_ret (results_ct rfl _ _ gb144 25 #[.int .i64 0, .int .i64 0, .int .i64 0] (0, 0) _ rfl qw Try.underlying25 rfl (by kernel_rfl)) rfl ?_
    exact ⟨qF, qB⟩

def laws_toVec.f (a0_0 : Int) (a0_1 : Int) : Option (Int × Int) := some (a0_0, a0_1)
set_option maxHeartbeats 8000000 in
set_option maxRecDepth 100000 in
theorem laws_toVec.calls (a0_0 : Int) (a0_1 : Int) (r1 : Int) (r2 : Int) (w : World) (h : laws_toVec.f a0_0 a0_1 = some (r1, r2)) :
    Calls Try.prog 28 #[.agg #[.int .i64 a0_0, .int .i64 a0_1]] w fun e w' => e = .returned (.agg #[.int .i64 r1, .int .i64 r2]) ∧ Below w.heap.size w w' := by
  have hu47 := Try.underlying47
  have hu43 := Try.underlying43
  have HB := Aside0.mk (Below.refl w.heap.size w)
  have H : (some (a0_0, a0_1)) = some (r1, r2) := h
  clear h
  simp only [Option.some.injEq, Prod.mk.injEq] at H
  obtain ⟨rfl, rfl⟩ := H
  go_enter Try.func28, Try.ntmps28
  go_wp2_with (first | ((with_reducible refine gate_dst (N := 1) rfl ?_); refine qbx 1 47 #[.int .i64 a0_0, .int .i64 a0_1] ?_; intro gb150 hg w2 hbox hb; have BK150 := Aside0.mk (hbox); have GW150 := qgs HB hg; have GE150 := qgs HB hg; replace HB := qbs HB hb; clear hb hbox hg) | ((with_reducible refine gate_dst (N := 2) rfl ?_); refine qbx 2 43 #[.int .i64 0, .int .i64 0] ?_; intro gb151 hg w3 hbox hb; have BK151 := Aside0.mk (hbox); have GW151 := qgs HB hg; have GE151 := qgs HB hg; replace HB := qbs HB hb; have NB150_151 := qnL BK150 hg; have NB151_150 := qnG BK150 hg; replace BK150 := qbb BK150 hb; clear hb hbox hg) | ((with_reducible refine gate_dst (N := 3) rfl ?_); refine qbx 3 43 #[.int .i64 0, .int .i64 0] ?_; intro gb152 hg w4 hbox hb; have BK152 := Aside0.mk (hbox); have GW152 := qgs HB hg; have GE152 := qgs HB hg; replace HB := qbs HB hb; have NB150_152 := qnL BK150 hg; have NB152_150 := qnG BK150 hg; replace BK150 := qbb BK150 hb; have NB151_152 := qnL BK151 hg; have NB152_151 := qnG BK151 hg; replace BK151 := qbb BK151 hb; clear hb hbox hg; have hnb5 := NB150_151.out; have hnc5 := NB151_150.out; have hnb6 := NB150_152.out; have hnc6 := NB152_150.out; have hcz7_0 := qc0 BK150; have hcz7_1 := qc1 BK150; have hfz7_0 := blk_frozen BK150.out 0; have hfz7_1 := blk_frozen BK150.out 1; have hnb8 := NB152_151.out; have hnc8 := NB151_152.out; have hcz9_0 := qc0 BK152; have hcz9_1 := qc1 BK152; have hfz9_0 := blk_frozen BK152.out 0; have hfz9_1 := blk_frozen BK152.out 1; have hcz10_0 := qc0 BK151; have hcz10_1 := qc1 BK151; have hfz10_0 := blk_frozen BK151.out 0; have hfz10_1 := blk_frozen BK151.out 1))
  refine bodyPost_ret (results_cell_row rfl _ _ gb151 43 #[.int .i64 a0_0, .int .i64 a0_1] (0, 0) _ rfl qw Try.underlying43 rfl (by kernel_rfl)) rfl ?_
  exact ⟨qF, qB⟩

def laws_toMark.f (a0_0 : Int) (a0_1 : Int) (a0_2 : Int) : Option (Int × Int × Int) := (laws_toVec.f a0_0 a0_1).bind fun bt156 => (some (bt156.1, bt156.2, a0_2))
set_option maxHeartbeats 8000000 in
set_option maxRecDepth 100000 in
theorem laws_toMark.calls (a0_0 : Int) (a0_1 : Int) (a0_2 : Int) (r1 : Int) (r2 : Int) (r3 : Int) (w : World) (h : laws_toMark.f a0_0 a0_1 a0_2 = some (r1, r2, r3)) :
    Calls Try.prog 19 #[.agg #[.int .i64 a0_0, .int .i64 a0_1, .int .i64 a0_2]] w fun e w' => e = .returned (.agg #[.int .i64 r1, .int .i64 r2, .int .i64 r3]) ∧ Below w.heap.size w w' := by
  have hu49 := Try.underlying49
  have hu45 := Try.underlying45
  have hu47 := Try.underlying47
  have hu43 := Try.underlying43
  have HB := Aside0.mk (Below.refl w.heap.size w)
  have H : ((laws_toVec.f a0_0 a0_1).bind fun bt156 => (some (bt156.1, bt156.2, a0_2))) = some (r1, r2, r3) := h
  clear h
  replace H := qbd H
  obtain ⟨⟨t156, t157⟩, A2, H⟩ := H
  try dsimp only at H
  simp only [Option.some.injEq, Prod.mk.injEq] at H
  obtain ⟨rfl, rfl, rfl⟩ := H
  go_enter Try.func19, Try.ntmps19
  go_wp2_with (first | ((with_reducible refine gate_dst (N := 1) rfl ?_); refine qbx 1 49 #[.int .i64 a0_0, .int .i64 a0_1, .int .i64 a0_2] ?_; intro gb153 hg w3 hbox hb; have BK153 := Aside0.mk (hbox); have GW153 := qgs HB hg; have GE153 := qgs HB hg; replace HB := qbs HB hb; clear hb hbox hg) | ((with_reducible refine gate_dst (N := 2) rfl ?_); refine qbx 2 45 #[.int .i64 0, .int .i64 0, .int .i64 0] ?_; intro gb154 hg w4 hbox hb; have BK154 := Aside0.mk (hbox); have GW154 := qgs HB hg; have GE154 := qgs HB hg; replace HB := qbs HB hb; have NB153_154 := qnL BK153 hg; have NB154_153 := qnG BK153 hg; replace BK153 := qbb BK153 hb; clear hb hbox hg) | ((with_reducible refine gate_dst (N := 3) rfl ?_); refine qbx 3 45 #[.int .i64 0, .int .i64 0, .int .i64 0] ?_; intro gb155 hg w5 hbox hb; have BK155 := Aside0.mk (hbox); have GW155 := qgs HB hg; have GE155 := qgs HB hg; replace HB := qbs HB hb; have NB153_155 := qnL BK153 hg; have NB155_153 := qnG BK153 hg; replace BK153 := qbb BK153 hb; have NB154_155 := qnL BK154 hg; have NB155_154 := qnG BK154 hg; replace BK154 := qbb BK154 hb; clear hb hbox hg; have hnb6 := NB153_154.out; have hnc6 := NB154_153.out; have hnb7 := NB153_155.out; have hnc7 := NB155_153.out; have hcz8_0 := qc0 BK153; have hcz8_1 := qc1 BK153; have hcz8_2 := qc2 BK153; have hfz8_0 := blk_frozen BK153.out 0; have hfz8_1 := blk_frozen BK153.out 1; have hfz8_2 := blk_frozen BK153.out 2) | ((with_reducible refine gate_callee (f := 28) rfl ?_); refine qgl (some 6) Try.func28 #[.agg #[.int .i64 a0_0, .int .i64 a0_1]] ?_; (with_reducible refine (laws_toVec.calls a0_0 a0_1 t156 t157 _ A2.out).mono ?_); rintro e w9 ⟨rfl, hb⟩; refine ⟨_, rfl, ?_⟩; replace BK153 := qbb BK153 hb; replace BK154 := qbb BK154 hb; replace BK155 := qbb BK155 hb; replace HB := qbs HB hb; (try clear hb); have hnb10 := NB155_154.out; have hnc10 := NB154_155.out; have hcz11_0 := qc0 BK155; have hcz11_1 := qc1 BK155; have hcz11_2 := qc2 BK155; have hfz11_0 := blk_frozen BK155.out 0; have hfz11_1 := blk_frozen BK155.out 1; have hfz11_2 := blk_frozen BK155.out 2; have hcz12_0 := qc0 BK153; have hcz12_1 := qc1 BK153; have hcz12_2 := qc2 BK153; have hfz12_0 := blk_frozen BK153.out 0; have hfz12_1 := blk_frozen BK153.out 1; have hfz12_2 := blk_frozen BK153.out 2; have hcz13_0 := qc0 BK154; have hcz13_1 := qc1 BK154; have hcz13_2 := qc2 BK154; have hfz13_0 := blk_frozen BK154.out 0; have hfz13_1 := blk_frozen BK154.out 1; have hfz13_2 := blk_frozen BK154.out 2))
  refine bodyPost_ret (results_cell_row rfl _ _ gb154 45 #[.int .i64 t156, .int .i64 t157, .int .i64 a0_2] (0, 0) _ rfl qw Try.underlying45 rfl (by kernel_rfl)) rfl ?_
  exact ⟨qF, qB⟩

def laws_toMarkS.l0 : Nat → List (S49) → List (S45) → Int → Option ((List (S45)))
  | 0, _, _, _ => none
  | k + 1, x0, x3, x4 => if x4 < (x0.length : Int) then (if 0 ≤ x4 then ((laws_toMark.f ((rd_T49 x0 x4).f0.f0) ((rd_T49 x0 x4).f0.f1) ((rd_T49 x0 x4).f1)).bind fun bt162 => (if x4 < (x3.length : Int) then (laws_toMarkS.l0 k x0 (x3.set (x4 : Int).toNat (⟨(⟨bt162.1, bt162.2.1⟩ : S43), bt162.2.2⟩ : S45)) (wrap64 (x4 + 1))) else (none))) else (none)) else (some x3)
def laws_toMarkS.f (k : Nat) (l0 : List (S49)) : Option ((List (S45))) := if 0 ≤ (l0.length : Int) then (if ((l0.length : Int) : Int).toNat ≤ 11728124029610 then (laws_toMarkS.l0 k l0 (List.replicate ((l0.length : Int) : Int).toNat z45) 0) else (none)) else (none)
set_option maxHeartbeats 8000000 in
set_option maxRecDepth 100000 in
theorem laws_toMarkS.calls (k : Nat) (A0 : Option Addr) (c0 : Nat) (l0 : List (S49)) (r : List (S45)) (w : World) (hr0 : Kd.C k49 w A0 l0.length l0) (hc0 : l0.length ≤ c0) (h : laws_toMarkS.f k l0 = some r) :
    Calls Try.prog 7 #[.slice A0 l0.length c0] w fun e w' => ∃ v0_ : Value, e = .returned (v0_) ∧ Kd.R k45 45 w' w.heap.size (fun _ => True) v0_ r ∧ Below w.heap.size w w' := by
  have hu49 := Try.underlying49
  have hu45 := Try.underlying45
  have HR0 := Aside0.mk hr0
  have HC0 := Aside0.mk hc0
  clear hr0 hc0
  have HB := Aside0.mk (Below.refl w.heap.size w)
  have H : (if 0 ≤ (l0.length : Int) then (if ((l0.length : Int) : Int).toNat ≤ 11728124029610 then (laws_toMarkS.l0 k l0 (List.replicate ((l0.length : Int) : Int).toNat z45) 0) else (none)) else (none)) = some r := h
  clear h
  by_cases c2 : 0 ≤ (l0.length : Int)
  · rw [if_pos c2] at H
    have c2b0 := eq_true c2
    have c2b1 : decide (0 ≤ (l0.length : Int)) = true := decide_eq_true c2
    clear c2
    by_cases c3 : ((l0.length : Int) : Int).toNat ≤ 11728124029610
    · rw [if_pos c3] at H
      have c3b0 := eq_true c3
      have c3b1 : decide (((l0.length : Int) : Int).toNat ≤ 11728124029610) = true := decide_eq_true c3
      clear c3
      obtain ⟨y158, hy158⟩ : ∃ y_ : List (S45), y_ = (List.replicate ((l0.length : Int) : Int).toNat z45) := ⟨_, rfl⟩
      replace H : (laws_toMarkS.l0 k l0 y158 0) = some r := by first | (rw [hy158]; with_reducible exact H) | (have H2_ := (Option.bind_some _ _).symm.trans H; rw [hy158]; with_reducible exact H2_) | (have H2_ := (Option.bind_some _ _).symm.trans H; with_reducible exact H2_) | with_reducible exact H | (rw [hy158]; exact H) | exact H
      have Ny158 := Aside0.mk hy158
      clear hy158
      have H' := Aside0.mk H
      clear H
      go_enter Try.func7, Try.ntmps7
      go_wp2_with (first | ((with_reducible refine gate_dst (N := 7) rfl ?_); refine Kd.R_make k45 _ 45 rfl (N := 7) rfl 28 _ _ rfl (l0.length : Int) rfl rfl Try.underlying28 (.agg #[(.int .i64 0), (.int .i64 0), (.int .i64 0)]) 24 info45 rfl (by decide) (by omega) z45 (ok := fun _ => True) (okp := fun _ => True) (k45_mkM _ _ _ z45 ) (fun _ hk => hk) trivial qo (Nat.le_trans (Nat.mul_le_mul_right _ (qo : (l0.length : Int).toNat ≤ 11728124029610)) (by omega)) (Below.refl _ _) (Nat.le_refl _) ?_; intro v159 w4 ho5 hb hg_ hnew_; clear hg_ hnew_; (first | rw [← Ny158.out] at ho5 | (simp only [Int.reduceToNat] at ho5; rw [← Ny158.out] at ho5)); have HO160 := Aside0.mk (Kd.R_lower ho5 (below_size qB)); replace HB := qbs HB hb; clear hb ho5))
      go_loopg [4] k (fun kq v4 w' => ∃ (x3_1 : List (S45)) (x4_1 : Int), v4 = .int .i64 x4_1 ∧ Aside0 (laws_toMarkS.l0 kq l0 x3_1 x4_1 = some r) ∧ Aside0 (kq ≤ k) ∧ Aside0 (Kd.R k45 45 w' w.heap.size (fun _ => True) v159 x3_1) ∧ Aside0 (Below w.heap.size w w'))
      case atStart => exact ⟨(y158), (0), qf, H', ⟨Nat.le_refl _⟩, ⟨by (with_reducible repeat (first | apply Kd.R_alloc | apply Kd.R_drewN | apply Kd.R_drew)); exact HO160.out⟩, ⟨qB⟩⟩
      case round =>
        clear H'
        try clear c2
        try clear c2b0
        try clear c2b1
        try clear p2
        try clear c3
        try clear c3b0
        try clear c3b1
        obtain ⟨x3_1, x4_1, rfl, HA, HK1, HO_3, HB⟩ := hrel
        cases gk with
        | zero => exact absurd HA.out (by simp [laws_toMarkS.l0])
        | succ k1 =>
          have H := HA.out
          clear HA
          simp only [laws_toMarkS.l0] at H
          by_cases c6 : x4_1 < (l0.length : Int)
          · rw [if_pos c6] at H
            have c6b0 : decide (x4_1 < (l0.length : Int)) = true := decide_eq_true c6
            clear c6
            by_cases c7 : 0 ≤ x4_1
            · rw [if_pos c7] at H
              have c7b0 : decide (0 ≤ x4_1) = true := decide_eq_true c7
              clear c7
              replace H := qbd H
              obtain ⟨⟨t162, t163, t164⟩, A8, H⟩ := H
              try dsimp only at H
              by_cases c9 : x4_1 < (x3_1.length : Int)
              · rw [if_pos c9] at H
                have c9b0 : decide (x4_1 < (x3_1.length : Int)) = true := decide_eq_true c9
                clear c9
                obtain ⟨y165, hy165⟩ : ∃ y_ : List (S45), y_ = (x3_1.set (x4_1 : Int).toNat (⟨(⟨t162, t163⟩ : S43), t164⟩ : S45)) := ⟨_, rfl⟩
                replace H : (laws_toMarkS.l0 k1 l0 y165 (wrap64 (x4_1 + 1))) = some r := by first | (rw [hy165]; with_reducible exact H) | (have H2_ := (Option.bind_some _ _).symm.trans H; rw [hy165]; with_reducible exact H2_) | (have H2_ := (Option.bind_some _ _).symm.trans H; with_reducible exact H2_) | with_reducible exact H | (rw [hy165]; exact H) | exact H
                have Ny165 := Aside0.mk hy165
                clear hy165
                have H' := Aside0.mk H
                clear H
                have p161 : 0 ≤ (x4_1 : Int) := qo
                have q161 : x4_1 < (l0.length : Int) := qo
                obtain ⟨ad161, e161, hx161_0, hx161_1, hx161_2⟩ := at_T49 HR0.out x4_1 p161 q161
                cases e161
                replace hx161_0 := (HB.out.cell (World.block_lt_of_cell? w _ hx161_0)).trans hx161_0
                replace hx161_1 := (HB.out.cell (World.block_lt_of_cell? w _ hx161_1)).trans hx161_1
                replace hx161_2 := (HB.out.cell (World.block_lt_of_cell? w _ hx161_2)).trans hx161_2
                replace p161 := eq_true p161
                replace q161 := eq_true q161
                go_wp2_with (first | ((with_reducible refine gate_callee (f := 19) rfl ?_); refine qgl (some 20) Try.func19 #[.agg #[.int .i64 ((rd_T49 l0 x4_1).f0.f0), .int .i64 ((rd_T49 l0 x4_1).f0.f1), .int .i64 ((rd_T49 l0 x4_1).f1)]] ?_; (with_reducible refine (laws_toMark.calls ((rd_T49 l0 x4_1).f0.f0) ((rd_T49 l0 x4_1).f0.f1) ((rd_T49 l0 x4_1).f1) t162 t163 t164 _ A8.out).mono ?_); rintro e w11 ⟨rfl, hb⟩; refine ⟨_, rfl, ?_⟩; replace HO_3 := Aside0.mk (Kd.R_below (qR HO_3.out) hb); replace HB := qbs HB hb; (try clear hb); (try clear hk); have p10 : 0 ≤ (x4_1 : Int) := qo; have q10 : (x4_1 : Int) < ((x3_1.length : Int) : Int) := qo; obtain ⟨go10, co10, eo10, gb10, gl10, cl10, HG10⟩ := Kd.R_form HO_3.out (by omega); (first | cases eo10 | (injection eo10 with ea_ en_ ec_; (first | subst ea_ | (injection ea_ with ea_; subst ea_)); subst ec_; clear en_)); have GB10 := Aside0.mk gb10; have GG10 := Aside0.mk HG10; clear gb10 gl10 HG10; obtain ⟨ce10, hcl10, hM10, hcc10, hfr10⟩ := Kd.R_elem HO_3.out z45 (x4_1 : Int) p10 q10; obtain rfl := k45_openM hM10; have hx10_0 : w11.cell? ⟨go10, (x4_1 : Int).toNat * 3, none⟩ = some (.int .i64 ((rd_T45 x3_1 x4_1).f0.f0)) := hcc10 0 _ rfl; have hx10_1 : w11.cell? ⟨go10, (x4_1 : Int).toNat * 3 + 1, none⟩ = some (.int .i64 ((rd_T45 x3_1 x4_1).f0.f1)) := hcc10 1 _ rfl; have hx10_2 : w11.cell? ⟨go10, (x4_1 : Int).toNat * 3 + 2, none⟩ = some (.int .i64 ((rd_T45 x3_1 x4_1).f1)) := hcc10 2 _ rfl; have hf10_0 : w11.frozen? ⟨go10, (x4_1 : Int).toNat * 3, none⟩ = false := hfr10 0; have hf10_1 : w11.frozen? ⟨go10, (x4_1 : Int).toNat * 3 + 1, none⟩ = false := hfr10 1; have hf10_2 : w11.frozen? ⟨go10, (x4_1 : Int).toNat * 3 + 2, none⟩ = false := hfr10 2; clear hcl10 hcc10 hfr10 hM10; replace p10 := eq_true p10; replace q10 := eq_true q10; have HX12 := Aside0.mk (show Kd.R k45 45 w11 w.heap.size (fun _ => True) (.slice (some ⟨go10, 0, none⟩) x3_1.length co10) x3_1 from (qR HO_3.out)); obtain ⟨ce12, hcl12, hM12, hcc12, hfr12⟩ := Kd.R_elem HX12.out z45 (x4_1 : Int) qo (by have h_ : (x4_1 : Int) < ((x3_1.length : Int) : Int) := qo; first | exact h_ | (have e_ := (Kd.R_reads' HO_3.out).1; omega) | simpa using h_); obtain rfl := k45_openM hM12; have HP12 := Kd.R_seg HX12.out (x4_1 : Int) qo (by have h_ : (x4_1 : Int) < ((x3_1.length : Int) : Int) := qo; first | exact h_ | (have e_ := (Kd.R_reads' HO_3.out).1; omega) | simpa using h_) (seg := [.int .i64 t162, .int .i64 t163, .int .i64 t164]) (j := 0) hcl12 hcc12 (show 3 ≤ 3 from by decide) (x' := (⟨(⟨t162, t163⟩ : S43), t164⟩ : S45)) (k45_mkM _ _ _ (⟨(⟨t162, t163⟩ : S43), t164⟩ : S45) ) (fun _ hk => hk); have hx12_0 := hcc12 0 _ rfl; (try simp only [show (k45).sz = 3 from rfl, Nat.mul_one, Nat.add_zero] at hx12_0); have hf12_0 := hfr12 0; (try simp only [show (k45).sz = 3 from rfl, Nat.mul_one, Nat.add_zero] at hf12_0); have hx12_1 := hcc12 1 _ rfl; (try simp only [show (k45).sz = 3 from rfl, Nat.mul_one, Nat.add_zero] at hx12_1); have hf12_1 := hfr12 1; (try simp only [show (k45).sz = 3 from rfl, Nat.mul_one, Nat.add_zero] at hf12_1); have hx12_2 := hcc12 2 _ rfl; (try simp only [show (k45).sz = 3 from rfl, Nat.mul_one, Nat.add_zero] at hx12_2); have hf12_2 := hfr12 2; (try simp only [show (k45).sz = 3 from rfl, Nat.mul_one, Nat.add_zero] at hf12_2); clear hcl12 hcc12 hfr12 hM12) | ((with_reducible refine gate_store (t := 45) (p := 21) rfl ?_); refine store_event (t := 45) (p := 21) (v := ?vo_w13) (w1 := (((w11.setCell ⟨go10, (x4_1 : Int).toNat * 3, none⟩ (.int .i64 t162)).setCell ⟨go10, (x4_1 : Int).toNat * 3 + 1, none⟩ (.int .i64 t163)).setCell ⟨go10, (x4_1 : Int).toNat * 3 + 2, none⟩ (.int .i64 t164))) ?hg ?ho ?hn ?hr ?_; (case ho => rfl); (case hg => rfl); (case hn => rfl); (case hr => first | (go_simp; done) | (go_simp; rfl)); intro w13 hw; have hg : w11.grownBy w13 (some go10) := (by rw [hw]; exact HP12.2); have hp_ : Kd.R k45 45 w13 w.heap.size (fun _ => True) (.slice (some ⟨go10, 0, none⟩) x3_1.length co10) y165 := (by rw [hw, Ny165.out]; exact HP12.1); clear HP12; replace HO_3 := Aside0.mk (hp_); replace HB := Aside0.mk ((by rw [hw]; exact below_set (below_set (below_set (HB.out) GB10.out) GB10.out) GB10.out : Below w.heap.size w w13)); clear hg hw hp_))
                go_roundg k1
                case measure => have := HK1.out; omega
                case rel => exact ⟨(y165), (wrap64 (x4_1 + 1)), qf, H', ⟨by have := HK1.out; omega⟩, ⟨by (with_reducible repeat (first | apply Kd.R_alloc | apply Kd.R_drewN | apply Kd.R_drew)); exact HO_3.out⟩, ⟨qB⟩⟩
              · rw [if_neg c9] at H
                exact absurd H (by simp)
            · rw [if_neg c7] at H
              exact absurd H (by simp)
          · rw [if_neg c6] at H
            have c6b0 : decide (x4_1 < (l0.length : Int)) = false := decide_eq_false c6
            clear c6
            obtain rfl := Option.some.inj H
            go_wp2
            go_ret
            exact ⟨_, qF, by (with_reducible repeat (first | apply Kd.R_alloc | apply Kd.R_drewN | apply Kd.R_drew)); exact HO_3.out, qB⟩
    · rw [if_neg c3] at H
      exact absurd H (by simp)
  · rw [if_neg c2] at H
    exact absurd H (by simp)

def impl_Mark_40.l0 : Nat → List (S45) → (Int → Int → Int → Option (Bool)) → Int → Int → Option (Int)
  | 0, _, _, _, _ => none
  | k + 1, x0, x1, x7, x8 => if x8 < x7 then (if 0 ≤ x8 then (if x8 < (x0.length : Int) then ((x1 ((rd_T45 x0 x8).f0.f0) ((rd_T45 x0 x8).f0.f1) ((rd_T45 x0 x8).f1)).bind fun t167 => (if t167 = true then (some x8) else (impl_Mark_40.l0 k x0 x1 x7 (wrap64 (x8 + 1))))) else (none)) else (none)) else (some (-1))
def impl_Mark_40.f (k : Nat) (l0 : List (S45)) (a1 : (Int → Int → Int → Option (Bool))) : Option (Int) := impl_Mark_40.l0 k l0 a1 (l0.length : Int) 0
set_option maxHeartbeats 8000000 in
set_option maxRecDepth 100000 in
theorem impl_Mark_40.calls (k : Nat) (A0 : Option Addr) (c0 : Nat) (l0 : List (S45)) (gf_ : Nat) (lb_ : Array Value) (a1 : (Int → Int → Int → Option (Bool))) (r : Int) (w : World) (hr0 : Kd.C k45 w A0 l0.length l0) (hc0 : l0.length ≤ c0) (hq_ : ∀ (W_ : World) (e0_ : Int) (e1_ : Int) (e2_ : Int) (r_ : Bool), Below w.heap.size w W_ → a1 e0_ e1_ e2_ = some r_ → Calls Try.prog gf_ (#[.agg #[.int .i64 e0_, .int .i64 e1_, .int .i64 e2_]] ++ lb_) W_ fun e w' => e = .returned (.bool r_) ∧ Below W_.heap.size W_ w') (eg_ : ∀ args w, (callFunc gf_ args).run Try.prog w = .ok (.enter gf_ args) w) (h : impl_Mark_40.f k l0 a1 = some r) :
    Calls Try.prog 40 #[.slice A0 l0.length c0, .func (.func gf_) #[] lb_] w fun e w' => e = .returned (.int .i64 r) ∧ Below w.heap.size w w' := by
  have hu45 := Try.underlying45
  have HR0 := Aside0.mk hr0
  have HC0 := Aside0.mk hc0
  clear hr0 hc0
  have HQ_ := Aside0.mk hq_
  clear hq_
  have HB := Aside0.mk (Below.refl w.heap.size w)
  have H : (impl_Mark_40.l0 k l0 a1 (l0.length : Int) 0) = some r := h
  clear h
  have H' := Aside0.mk H
  clear H
  go_enter Try.func40, Try.ntmps40
  go_wp2
  go_loopg [8] k (fun kq v8 w' => ∃ (x8_1 : Int), v8 = .int .i64 x8_1 ∧ Aside0 (impl_Mark_40.l0 kq l0 a1 (l0.length : Int) x8_1 = some r) ∧ Aside0 (kq ≤ k) ∧ Aside0 (Below w.heap.size w w'))
  case atStart => exact ⟨(0), qf, H', ⟨Nat.le_refl _⟩, ⟨qB⟩⟩
  case round =>
    clear H'
    try clear p2
    obtain ⟨x8_1, rfl, HA, HK1, HB⟩ := hrel
    cases gk with
    | zero => exact absurd HA.out (by simp [impl_Mark_40.l0])
    | succ k1 =>
      have H := HA.out
      clear HA
      simp only [impl_Mark_40.l0] at H
      by_cases c3 : x8_1 < (l0.length : Int)
      · rw [if_pos c3] at H
        have c3b0 : decide (x8_1 < (l0.length : Int)) = true := decide_eq_true c3
        clear c3
        by_cases c4 : 0 ≤ x8_1
        · rw [if_pos c4] at H
          have c4b0 : decide (0 ≤ x8_1) = true := decide_eq_true c4
          clear c4
          by_cases c5 : x8_1 < (l0.length : Int)
          · rw [if_pos c5] at H
            have c5b0 : decide (x8_1 < (l0.length : Int)) = true := decide_eq_true c5
            clear c5
            replace H := qbd H
            obtain ⟨t167, A6, H⟩ := H
            try dsimp only at H
            by_cases c7 : t167 = true
            · subst c7
              have H1 : (some x8_1) = some r := by rw [if_pos rfl] at H; exact H
              clear H
              have H := H1
              clear H1
              obtain rfl := Option.some.inj H
              have p166 : 0 ≤ (x8_1 : Int) := qo
              have q166 : x8_1 < (l0.length : Int) := qo
              obtain ⟨ad166, e166, hx166_0, hx166_1, hx166_2⟩ := at_T45 HR0.out x8_1 p166 q166
              cases e166
              replace hx166_0 := (HB.out.cell (World.block_lt_of_cell? w _ hx166_0)).trans hx166_0
              replace hx166_1 := (HB.out.cell (World.block_lt_of_cell? w _ hx166_1)).trans hx166_1
              replace hx166_2 := (HB.out.cell (World.block_lt_of_cell? w _ hx166_2)).trans hx166_2
              replace p166 := eq_true p166
              replace q166 := eq_true q166
              go_wp2_with (first | (go_at_fn gf_; (refine (HQ_.out _ ((rd_T45 l0 x8_1).f0.f0) ((rd_T45 l0 x8_1).f0.f1) ((rd_T45 l0 x8_1).f1) true qB A6.out).mono ?_); rintro e w8 ⟨rfl, hb⟩; replace HB := qbs HB hb; (try clear hb)))
              go_ret
              exact ⟨qF, qB⟩
            · replace c7 := Bool.eq_false_iff.mpr c7
              subst c7
              have H1 : (impl_Mark_40.l0 k1 l0 a1 (l0.length : Int) (wrap64 (x8_1 + 1))) = some r := by rw [if_neg (show ¬ (false = true) by decide)] at H; exact H
              clear H
              have H := H1
              clear H1
              have H' := Aside0.mk H
              clear H
              have p166 : 0 ≤ (x8_1 : Int) := qo
              have q166 : x8_1 < (l0.length : Int) := qo
              obtain ⟨ad166, e166, hx166_0, hx166_1, hx166_2⟩ := at_T45 HR0.out x8_1 p166 q166
              cases e166
              replace hx166_0 := (HB.out.cell (World.block_lt_of_cell? w _ hx166_0)).trans hx166_0
              replace hx166_1 := (HB.out.cell (World.block_lt_of_cell? w _ hx166_1)).trans hx166_1
              replace hx166_2 := (HB.out.cell (World.block_lt_of_cell? w _ hx166_2)).trans hx166_2
              replace p166 := eq_true p166
              replace q166 := eq_true q166
              go_wp2_with (first | (go_at_fn gf_; (refine (HQ_.out _ ((rd_T45 l0 x8_1).f0.f0) ((rd_T45 l0 x8_1).f0.f1) ((rd_T45 l0 x8_1).f1) false qB A6.out).mono ?_); rintro e w9 ⟨rfl, hb⟩; replace HB := qbs HB hb; (try clear hb)))
              go_roundg k1
              case measure => have := HK1.out; omega
              case rel => exact ⟨(wrap64 (x8_1 + 1)), qf, H', ⟨by have := HK1.out; omega⟩, ⟨qB⟩⟩
          · rw [if_neg c5] at H
            exact absurd H (by simp)
        · rw [if_neg c4] at H
          exact absurd H (by simp)
      · rw [if_neg c3] at H
        have c3b0 : decide (x8_1 < (l0.length : Int)) = false := decide_eq_false c3
        clear c3
        obtain rfl := Option.some.inj H
        go_wp2
        go_ret
        exact ⟨qF, qB⟩

def impl_Mark_29.f (k : Nat) (l0 : List (S45)) (a1 : (Int → Int → Int → Option (Bool))) : Option (Bool) := (impl_Mark_40.f k l0 a1).bind fun t168 => (some (decide (t168 ≥ 0)))
set_option maxHeartbeats 8000000 in
set_option maxRecDepth 100000 in
theorem impl_Mark_29.calls (k : Nat) (A0 : Option Addr) (c0 : Nat) (l0 : List (S45)) (gf_ : Nat) (lb_ : Array Value) (a1 : (Int → Int → Int → Option (Bool))) (r : Bool) (w : World) (hr0 : Kd.C k45 w A0 l0.length l0) (hc0 : l0.length ≤ c0) (hq_ : ∀ (W_ : World) (e0_ : Int) (e1_ : Int) (e2_ : Int) (r_ : Bool), Below w.heap.size w W_ → a1 e0_ e1_ e2_ = some r_ → Calls Try.prog gf_ (#[.agg #[.int .i64 e0_, .int .i64 e1_, .int .i64 e2_]] ++ lb_) W_ fun e w' => e = .returned (.bool r_) ∧ Below W_.heap.size W_ w') (eg_ : ∀ args w, (callFunc gf_ args).run Try.prog w = .ok (.enter gf_ args) w) (h : impl_Mark_29.f k l0 a1 = some r) :
    Calls Try.prog 29 #[.slice A0 l0.length c0, .func (.func gf_) #[] lb_] w fun e w' => e = .returned (.bool r) ∧ Below w.heap.size w w' := by
  have HR0 := Aside0.mk hr0
  have HC0 := Aside0.mk hc0
  clear hr0 hc0
  have HQ_ := Aside0.mk hq_
  clear hq_
  have HB := Aside0.mk (Below.refl w.heap.size w)
  have H : ((impl_Mark_40.f k l0 a1).bind fun t168 => (some (decide (t168 ≥ 0)))) = some r := h
  clear h
  replace H := qbd H
  obtain ⟨t168, A3, H⟩ := H
  try dsimp only at H
  obtain rfl := Option.some.inj H
  go_enter Try.func29, Try.ntmps29
  go_wp2_with (first | ((with_reducible refine gate_callee (f := 40) rfl ?_); refine qgl (some 7) Try.func40 #[.slice A0 l0.length c0, .func (.func gf_) #[] lb_] ?_; (with_reducible refine (impl_Mark_40.calls k _ _ l0 gf_ lb_ a1 t168 _ (qC HR0.out) HC0.out ?side3 eg_ A3.out).mono ?_); (case side3 => exact fun W_ e0_ e1_ e2_ r_ hb_ h_ => HQ_.out W_ e0_ e1_ e2_ r_ (below_step qB hb_) h_); rintro e w4 ⟨rfl, hb⟩; refine ⟨_, rfl, ?_⟩; replace HB := qbs HB hb; (try clear hb)))
  go_ret
  exact ⟨qF, qB⟩

def impl_within.f (a0 : Int) (a1 : Int) (a2 : Int) : Option (Bool) := if a0 ≥ a1 then (some (decide (a0 ≤ a2))) else (some false)
set_option maxHeartbeats 8000000 in
set_option maxRecDepth 100000 in
theorem impl_within.calls (a0 : Int) (a1 : Int) (a2 : Int) (r : Bool) (w : World) (h : impl_within.f a0 a1 a2 = some r) :
    Calls Try.prog 24 #[.int .i64 a0, .int .i64 a1, .int .i64 a2] w fun e w' => e = .returned (.bool r) ∧ Drawn0 w w' := by
  have H : (if a0 ≥ a1 then (some (decide (a0 ≤ a2))) else (some false)) = some r := h
  clear h
  by_cases c4 : a0 ≥ a1
  · rw [if_pos c4] at H
    have c4b0 : decide (a1 ≤ a0) = true := decide_eq_true c4
    clear c4
    obtain rfl := Option.some.inj H
    go_enter Try.func24, Try.ntmps24
    go_wp2
    go_ret
    exact ⟨qf, qD⟩
  · rw [if_neg c4] at H
    have c4b0 : decide (a1 ≤ a0) = false := decide_eq_false c4
    clear c4
    obtain rfl := Option.some.inj H
    go_enter Try.func24, Try.ntmps24
    go_wp2
    go_ret
    exact ⟨qf, qD⟩

def impl_isCoordinate.f (a0 : Int) : Option (Bool) := (impl_within.f a0 (-1000) 1000).bind fun t169 => (some t169)
set_option maxHeartbeats 8000000 in
set_option maxRecDepth 100000 in
theorem impl_isCoordinate.calls (a0 : Int) (r : Bool) (w : World) (h : impl_isCoordinate.f a0 = some r) :
    Calls Try.prog 41 #[.int .i64 a0] w fun e w' => e = .returned (.bool r) ∧ Drawn0 w w' := by
  have H : ((impl_within.f a0 (-1000) 1000).bind fun t169 => (some t169)) = some r := h
  clear h
  replace H := qbd H
  obtain ⟨t169, A2, H⟩ := H
  try dsimp only at H
  obtain rfl := Option.some.inj H
  go_enter Try.func41, Try.ntmps41
  go_wp2_with (first | ((with_reducible refine gate_callee (f := 24) rfl ?_); refine qgl (some 4) Try.func24 #[.int .i64 a0, .int .i64 (-1000), .int .i64 1000] ?_; (with_reducible refine (impl_within.calls a0 (-1000) 1000 t169 _ A2.out).mono ?_); rintro e w' ⟨rfl, ⟨nd, rfl⟩⟩; refine ⟨_, rfl, ?_⟩))
  go_ret
  exact ⟨qf, qD⟩

def impl_IsVec.f (a0_0 : Int) (a0_1 : Int) : Option (Bool) := (impl_isCoordinate.f a0_0).bind fun t171 => (if t171 = true then ((impl_isCoordinate.f a0_1).bind fun t172 => (some t172)) else (some false))
set_option maxHeartbeats 8000000 in
set_option maxRecDepth 100000 in
theorem impl_IsVec.calls (a0_0 : Int) (a0_1 : Int) (r : Bool) (w : World) (h : impl_IsVec.f a0_0 a0_1 = some r) :
    Calls Try.prog 31 #[.agg #[.int .i64 a0_0, .int .i64 a0_1]] w fun e w' => e = .returned (.bool r) ∧ Below w.heap.size w w' := by
  have hu43 := Try.underlying43
  have HB := Aside0.mk (Below.refl w.heap.size w)
  have H : ((impl_isCoordinate.f a0_0).bind fun t171 => (if t171 = true then ((impl_isCoordinate.f a0_1).bind fun t172 => (some t172)) else (some false))) = some r := h
  clear h
  replace H := qbd H
  obtain ⟨t171, A2, H⟩ := H
  try dsimp only at H
  by_cases c3 : t171 = true
  · subst c3
    have H1 : ((impl_isCoordinate.f a0_1).bind fun t172 => (some t172)) = some r := by rw [if_pos rfl] at H; exact H
    clear H
    have H := H1
    clear H1
    replace H := qbd H
    obtain ⟨t172, A4, H⟩ := H
    try dsimp only at H
    obtain rfl := Option.some.inj H
    go_enter Try.func31, Try.ntmps31
    go_wp2_with (first | ((with_reducible refine gate_dst (N := 1) rfl ?_); refine qbx 1 43 #[.int .i64 a0_0, .int .i64 a0_1] ?_; intro gb170 hg w5 hbox hb; have BK170 := Aside0.mk (hbox); have GW170 := qgs HB hg; have GE170 := qgs HB hg; replace HB := qbs HB hb; clear hb hbox hg; have hcz6_0 := qc0 BK170; have hcz6_1 := qc1 BK170; have hfz6_0 := blk_frozen BK170.out 0; have hfz6_1 := blk_frozen BK170.out 1) | ((with_reducible refine gate_callee (f := 41) rfl ?_); refine qgl (some 5) Try.func41 #[.int .i64 a0_0] ?_; (with_reducible refine (impl_isCoordinate.calls a0_0 true _ A2.out).mono ?_); rintro e w' ⟨rfl, ⟨nd, rfl⟩⟩; refine ⟨_, rfl, ?_⟩) | (go_at_call 41; (with_reducible refine (impl_isCoordinate.calls a0_1 t172 _ A4.out).mono ?_); rintro e w' ⟨rfl, ⟨nd, rfl⟩⟩))
    go_ret
    exact ⟨qF, qB⟩
  · replace c3 := Bool.eq_false_iff.mpr c3
    subst c3
    have H1 : (some false) = some r := by rw [if_neg (show ¬ (false = true) by decide)] at H; exact H
    clear H
    have H := H1
    clear H1
    obtain rfl := Option.some.inj H
    go_enter Try.func31, Try.ntmps31
    go_wp2_with (first | ((with_reducible refine gate_dst (N := 1) rfl ?_); refine qbx 1 43 #[.int .i64 a0_0, .int .i64 a0_1] ?_; intro gb170 hg w7 hbox hb; have BK170 := Aside0.mk (hbox); have GW170 := qgs HB hg; have GE170 := qgs HB hg; replace HB := qbs HB hb; clear hb hbox hg; have hcz8_0 := qc0 BK170; have hcz8_1 := qc1 BK170; have hfz8_0 := blk_frozen BK170.out 0; have hfz8_1 := blk_frozen BK170.out 1) | ((with_reducible refine gate_callee (f := 41) rfl ?_); refine qgl (some 5) Try.func41 #[.int .i64 a0_0] ?_; (with_reducible refine (impl_isCoordinate.calls a0_0 false _ A2.out).mono ?_); rintro e w' ⟨rfl, ⟨nd, rfl⟩⟩; refine ⟨_, rfl, ?_⟩))
    go_ret
    exact ⟨qF, qB⟩

def impl_isColour.f (a0 : Int) : Option (Bool) := (impl_within.f a0 0 9).bind fun t173 => (some t173)
set_option maxHeartbeats 8000000 in
set_option maxRecDepth 100000 in
theorem impl_isColour.calls (a0 : Int) (r : Bool) (w : World) (h : impl_isColour.f a0 = some r) :
    Calls Try.prog 32 #[.int .i64 a0] w fun e w' => e = .returned (.bool r) ∧ Drawn0 w w' := by
  have H : ((impl_within.f a0 0 9).bind fun t173 => (some t173)) = some r := h
  clear h
  replace H := qbd H
  obtain ⟨t173, A2, H⟩ := H
  try dsimp only at H
  obtain rfl := Option.some.inj H
  go_enter Try.func32, Try.ntmps32
  go_wp2_with (first | ((with_reducible refine gate_callee (f := 24) rfl ?_); refine qgl (some 4) Try.func24 #[.int .i64 a0, .int .i64 0, .int .i64 9] ?_; (with_reducible refine (impl_within.calls a0 0 9 t173 _ A2.out).mono ?_); rintro e w' ⟨rfl, ⟨nd, rfl⟩⟩; refine ⟨_, rfl, ?_⟩))
  go_ret
  exact ⟨qf, qD⟩

def impl_AreMarks_1.f (a0_0 : Int) (a0_1 : Int) (a0_2 : Int) : Option (Bool) := (impl_IsVec.f a0_0 a0_1).bind fun t175 => (if t175 = true then ((impl_isColour.f a0_2).bind fun t176 => (some (!t176))) else (some true))
set_option maxHeartbeats 8000000 in
set_option maxRecDepth 100000 in
theorem impl_AreMarks_1.calls (a0_0 : Int) (a0_1 : Int) (a0_2 : Int) (r : Bool) (w : World) (h : impl_AreMarks_1.f a0_0 a0_1 a0_2 = some r) :
    Calls Try.prog 30 #[.agg #[.int .i64 a0_0, .int .i64 a0_1, .int .i64 a0_2]] w fun e w' => e = .returned (.bool r) ∧ Below w.heap.size w w' := by
  have hu45 := Try.underlying45
  have hu43 := Try.underlying43
  have HB := Aside0.mk (Below.refl w.heap.size w)
  have H : ((impl_IsVec.f a0_0 a0_1).bind fun t175 => (if t175 = true then ((impl_isColour.f a0_2).bind fun t176 => (some (!t176))) else (some true))) = some r := h
  clear h
  replace H := qbd H
  obtain ⟨t175, A2, H⟩ := H
  try dsimp only at H
  by_cases c3 : t175 = true
  · subst c3
    have H1 : ((impl_isColour.f a0_2).bind fun t176 => (some (!t176))) = some r := by rw [if_pos rfl] at H; exact H
    clear H
    have H := H1
    clear H1
    replace H := qbd H
    obtain ⟨t176, A4, H⟩ := H
    try dsimp only at H
    obtain rfl := Option.some.inj H
    go_enter Try.func30, Try.ntmps30
    go_wp2_with (first | ((with_reducible refine gate_dst (N := 1) rfl ?_); refine qbx 1 45 #[.int .i64 a0_0, .int .i64 a0_1, .int .i64 a0_2] ?_; intro gb174 hg w5 hbox hb; have BK174 := Aside0.mk (hbox); have GW174 := qgs HB hg; have GE174 := qgs HB hg; replace HB := qbs HB hb; clear hb hbox hg; have hcz6_0 := qc0 BK174; have hcz6_1 := qc1 BK174; have hcz6_2 := qc2 BK174; have hfz6_0 := blk_frozen BK174.out 0; have hfz6_1 := blk_frozen BK174.out 1; have hfz6_2 := blk_frozen BK174.out 2) | ((with_reducible refine gate_callee (f := 31) rfl ?_); refine qgl (some 5) Try.func31 #[.agg #[.int .i64 a0_0, .int .i64 a0_1]] ?_; (with_reducible refine (impl_IsVec.calls a0_0 a0_1 true _ A2.out).mono ?_); rintro e w7 ⟨rfl, hb⟩; refine ⟨_, rfl, ?_⟩; replace BK174 := qbb BK174 hb; replace HB := qbs HB hb; (try clear hb); have hcz8_0 := qc0 BK174; have hcz8_1 := qc1 BK174; have hcz8_2 := qc2 BK174; have hfz8_0 := blk_frozen BK174.out 0; have hfz8_1 := blk_frozen BK174.out 1; have hfz8_2 := blk_frozen BK174.out 2) | (go_at_call 32; (with_reducible refine (impl_isColour.calls a0_2 t176 _ A4.out).mono ?_); rintro e w' ⟨rfl, ⟨nd, rfl⟩⟩))
    go_ret
    exact ⟨qF, qB⟩
  · replace c3 := Bool.eq_false_iff.mpr c3
    subst c3
    have H1 : (some true) = some r := by rw [if_neg (show ¬ (false = true) by decide)] at H; exact H
    clear H
    have H := H1
    clear H1
    obtain rfl := Option.some.inj H
    go_enter Try.func30, Try.ntmps30
    go_wp2_with (first | ((with_reducible refine gate_dst (N := 1) rfl ?_); refine qbx 1 45 #[.int .i64 a0_0, .int .i64 a0_1, .int .i64 a0_2] ?_; intro gb174 hg w9 hbox hb; have BK174 := Aside0.mk (hbox); have GW174 := qgs HB hg; have GE174 := qgs HB hg; replace HB := qbs HB hb; clear hb hbox hg; have hcz10_0 := qc0 BK174; have hcz10_1 := qc1 BK174; have hcz10_2 := qc2 BK174; have hfz10_0 := blk_frozen BK174.out 0; have hfz10_1 := blk_frozen BK174.out 1; have hfz10_2 := blk_frozen BK174.out 2) | ((with_reducible refine gate_callee (f := 31) rfl ?_); refine qgl (some 5) Try.func31 #[.agg #[.int .i64 a0_0, .int .i64 a0_1]] ?_; (with_reducible refine (impl_IsVec.calls a0_0 a0_1 false _ A2.out).mono ?_); rintro e w11 ⟨rfl, hb⟩; refine ⟨_, rfl, ?_⟩; replace BK174 := qbb BK174 hb; replace HB := qbs HB hb; (try clear hb)))
    go_ret
    exact ⟨qF, qB⟩

def ContainsFunc29_impl_AreMarks_1.f (k : Nat) (l0 : List (S45))  : Option ((Bool)) := impl_Mark_29.f k l0 (fun e0_ e1_ e2_ => impl_AreMarks_1.f e0_ e1_ e2_ )
set_option maxHeartbeats 4000000 in
theorem ContainsFunc29_impl_AreMarks_1.calls (k : Nat) (A0 : Option Addr) (c0 : Nat) (l0 : List (S45)) (r : Bool) (w : World) (hr0 : Kd.C k45 w A0 l0.length l0) (hc0 : l0.length ≤ c0) (h : ContainsFunc29_impl_AreMarks_1.f k l0  = some r) :
    Calls Try.prog 29 #[.slice A0 l0.length c0, .func (.func 30) #[] #[]] w fun e w' => e = .returned (.bool r) ∧ Below w.heap.size w w' :=
  impl_Mark_29.calls k A0 c0 l0 30 #[] (fun e0_ e1_ e2_ => impl_AreMarks_1.f e0_ e1_ e2_ ) r w hr0 hc0 (fun W_ e0_ e1_ e2_ r_ hW hh => (impl_AreMarks_1.calls e0_ e1_ e2_ r_ W_ hh)) (enters_of Try.func30 (by kernel_rfl) rfl) h

def impl_AreMarks.f (k : Nat) (l0 : List (S45)) : Option (Bool) := if (l0.length : Int) ≤ 40 then ((ContainsFunc29_impl_AreMarks_1.f k l0).bind fun t177 => (some (!t177))) else (some false)
set_option maxHeartbeats 8000000 in
set_option maxRecDepth 100000 in
theorem impl_AreMarks.calls (k : Nat) (A0 : Option Addr) (c0 : Nat) (l0 : List (S45)) (r : Bool) (w : World) (hr0 : Kd.C k45 w A0 l0.length l0) (hc0 : l0.length ≤ c0) (h : impl_AreMarks.f k l0 = some r) :
    Calls Try.prog 20 #[.slice A0 l0.length c0] w fun e w' => e = .returned (.bool r) ∧ Below w.heap.size w w' := by
  have HR0 := Aside0.mk hr0
  have HC0 := Aside0.mk hc0
  clear hr0 hc0
  have HB := Aside0.mk (Below.refl w.heap.size w)
  have H : (if (l0.length : Int) ≤ 40 then ((ContainsFunc29_impl_AreMarks_1.f k l0).bind fun t177 => (some (!t177))) else (some false)) = some r := h
  clear h
  by_cases c2 : (l0.length : Int) ≤ 40
  · rw [if_pos c2] at H
    have c2b0 : decide ((l0.length : Int) ≤ 40) = true := decide_eq_true c2
    have c2b1 : decide (l0.length ≤ 40) = true := decide_eq_true (by omega)
    clear c2
    replace H := qbd H
    obtain ⟨t177, A3, H⟩ := H
    try dsimp only at H
    obtain rfl := Option.some.inj H
    go_enter Try.func20, Try.ntmps20
    go_wp2_with (first | (go_at_call 29; (with_reducible refine (ContainsFunc29_impl_AreMarks_1.calls k _ _ l0  t177 _ (qC HR0.out) HC0.out A3.out).mono ?_); rintro e w4 ⟨rfl, hb⟩; replace HB := qbs HB hb; (try clear hb)))
    go_ret
    exact ⟨qF, qB⟩
  · rw [if_neg c2] at H
    have c2b0 : decide ((l0.length : Int) ≤ 40) = false := decide_eq_false c2
    have c2b1 : decide (l0.length ≤ 40) = false := decide_eq_false (by omega)
    clear c2
    obtain rfl := Option.some.inj H
    go_enter Try.func20, Try.ntmps20
    go_wp2
    go_ret
    exact ⟨qF, qB⟩

def impl_unit.f  : Option (Int × Int × Int × Int) := some (1, 0, 0, 1)
set_option maxHeartbeats 8000000 in
set_option maxRecDepth 100000 in
theorem impl_unit.calls  (r1 : Int) (r2 : Int) (r3 : Int) (r4 : Int) (w : World) (h : impl_unit.f  = some (r1, r2, r3, r4)) :
    Calls Try.prog 33 #[] w fun e w' => e = .returned (.agg #[.int .i64 r1, .int .i64 r2, .int .i64 r3, .int .i64 r4]) ∧ Below w.heap.size w w' := by
  have hu60 := Try.underlying60
  have HB := Aside0.mk (Below.refl w.heap.size w)
  have H : (some (1, 0, 0, 1)) = some (r1, r2, r3, r4) := h
  clear h
  simp only [Option.some.injEq, Prod.mk.injEq] at H
  obtain ⟨rfl, rfl, rfl, rfl⟩ := H
  go_enter Try.func33, Try.ntmps33
  go_wp2_with (first | ((with_reducible refine gate_dst (N := 0) rfl ?_); refine qbx 0 60 #[.int .i64 0, .int .i64 0, .int .i64 0, .int .i64 0] ?_; intro gb178 hg w1 hbox hb; have BK178 := Aside0.mk (hbox); have GW178 := qgs HB hg; have GE178 := qgs HB hg; replace HB := qbs HB hb; clear hb hbox hg; have hcz2_0 := qc0 BK178; have hcz2_1 := qc1 BK178; have hcz2_2 := qc2 BK178; have hcz2_3 := qc3 BK178; have hfz2_0 := blk_frozen BK178.out 0; have hfz2_1 := blk_frozen BK178.out 1; have hfz2_2 := blk_frozen BK178.out 2; have hfz2_3 := blk_frozen BK178.out 3))
  refine bodyPost_ret (results_cell_row rfl _ _ gb178 60 #[.int .i64 1, .int .i64 0, .int .i64 0, .int .i64 1] (0, 0) _ rfl qw Try.underlying60 rfl (by kernel_rfl)) rfl ?_
  exact ⟨qF, qB⟩

end Go.Proofs.Ytoajccbmikmjdaa.X

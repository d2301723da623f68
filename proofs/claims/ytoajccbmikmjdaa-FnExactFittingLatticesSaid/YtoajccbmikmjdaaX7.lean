-- PRINTED by print.py (a twelfth state) out of the translation. Not trusted: Lean checks it.
import Derived.Test.YtoajccbmikmjdaaXQ
import Derived.Test.YtoajccbmikmjdaaX0
import Derived.Test.YtoajccbmikmjdaaX1
namespace Go.Proofs.Ytoajccbmikmjdaa.X
open Go.RowKit Go.Proofs.YtoajccbmikmjdaaX Go.Proofs.YtoajccbmikmjdaaW.PrintWords Go.Proofs.YtoajccbmikmjdaaW.PrintLast Go.Proofs.YtoajccbmikmjdaaW.PrintMore
attribute [local go_sem] max2_int min2_int max_two min_two max_three min_three max_four min_four   -- for this text's walks alone
set_option linter.unusedVariables false
set_option linter.unusedSimpArgs false

attribute [local go_sem high] eqA43
def impl_compareNumbers.l0 : Nat → List Int → List Int → Int → Int → Option (Int)
  | 0, _, _, _, _ => none
  | k + 1, x0, x1, x7, x8 => if x8 < x7 then (if 0 ≤ x8 then (if x8 < (x0.length : Int) then (if x8 < (x1.length : Int) then (if (rd x0 x8) = (rd x1 x8) then (impl_compareNumbers.l0 k x0 x1 x7 (wrap64 (x8 + 1))) else (if (rd x0 x8) < (rd x1 x8) then (some (-1)) else (some 1))) else (none)) else (none)) else (none)) else (some 0)
def impl_compareNumbers.f (k : Nat) (l0 : List Int) (l1 : List Int) : Option (Int) := impl_compareNumbers.l0 k l0 l1 (l0.length : Int) 0
set_option maxHeartbeats 8000000 in
set_option maxRecDepth 100000 in
theorem impl_compareNumbers.calls (k : Nat) (A0 : Option Addr) (c0 : Nat) (l0 : List Int) (A1 : Option Addr) (c1 : Nat) (l1 : List Int) (r : Int) (w : World) (hr0 : Kd.C (Kd.int .i64) w A0 l0.length l0) (hc0 : l0.length ≤ c0) (hr1 : Kd.C (Kd.int .i64) w A1 l1.length l1) (hc1 : l1.length ≤ c1) (h : impl_compareNumbers.f k l0 l1 = some r) :
    Calls Try.prog 64 #[.slice A0 l0.length c0, .slice A1 l1.length c1] w fun e w' => e = .returned (.int .i64 r) ∧ Drawn0 w w' := by
  have HR0 := Aside0.mk hr0
  have HC0 := Aside0.mk hc0
  clear hr0 hc0
  have HR1 := Aside0.mk hr1
  have HC1 := Aside0.mk hc1
  clear hr1 hc1
  have H : (impl_compareNumbers.l0 k l0 l1 (l0.length : Int) 0) = some r := h
  clear h
  have H' := Aside0.mk H
  clear H
  go_enter Try.func64, Try.ntmps64
  go_wp2
  repeat (go_quiet (fail); try go_wp2)
  go_loopg [8] k (fun kq v8 w' => ∃ (x8_1 : Int), v8 = .int .i64 x8_1 ∧ Aside0 (impl_compareNumbers.l0 kq l0 l1 (l0.length : Int) x8_1 = some r) ∧ Aside0 (kq ≤ k) ∧ Drawn0 w w')
  case atStart => exact ⟨(0), qf, H', ⟨Nat.le_refl _⟩, qD⟩
  case round =>
    clear H'
    try clear c1
    try clear p2
    obtain ⟨x8_1, rfl, HA, HK1, ⟨m1, rfl⟩⟩ := hrel
    cases gk with
    | zero => exact absurd HA.out (by simp [impl_compareNumbers.l0])
    | succ k1 =>
      have H := HA.out
      clear HA
      simp only [impl_compareNumbers.l0] at H
      by_cases c3 : x8_1 < (l0.length : Int)
      · rw [if_pos c3] at H
        have c3b0 : decide (x8_1 < (l0.length : Int)) = true := decide_eq_true c3
        clear c3
        by_cases c4 : 0 ≤ x8_1
        · rw [if_pos c4] at H
          have c4b0 : decide (0 ≤ x8_1) = true := decide_eq_true c4
          clear c4
          by_cases c5 : x8_1 < (l0.length : Int)
          · rw [if_pos c5] at H
            have c5b0 : decide (x8_1 < (l0.length : Int)) = true := decide_eq_true c5
            clear c5
            by_cases c6 : x8_1 < (l1.length : Int)
            · rw [if_pos c6] at H
              have c6b0 : decide (x8_1 < (l1.length : Int)) = true := decide_eq_true c6
              clear c6
              by_cases c7 : (rd l0 x8_1) = (rd l1 x8_1)
              · rw [if_pos c7] at H
                have c7b0 : ((rd l0 x8_1) == (rd l1 x8_1)) = true := beq_iff_eq.mpr c7
                have c7b1 : ((rd l0 x8_1) != (rd l1 x8_1)) = false := bne_eq_false_iff_eq.mpr c7
                clear c7
                have H' := Aside0.mk H
                clear H
                have p236 : 0 ≤ (x8_1 : Int) := qo
                have q236 : x8_1 < (l0.length : Int) := qo
                obtain ⟨ad236, e236, hx236_0⟩ := Kd.at_int HR0.out x8_1 p236 q236
                cases e236
                replace p236 := eq_true p236
                replace q236 := eq_true q236
                have p237 : 0 ≤ (x8_1 : Int) := qo
                have q237 : x8_1 < (l1.length : Int) := qo
                obtain ⟨ad237, e237, hx237_0⟩ := Kd.at_int HR1.out x8_1 p237 q237
                cases e237
                replace p237 := eq_true p237
                replace q237 := eq_true q237
                go_wp2
                repeat (go_quiet (fail); try go_wp2)
                go_roundg k1
                case measure => have := HK1.out; omega
                case rel => exact ⟨(wrap64 (x8_1 + 1)), qf, H', ⟨by have := HK1.out; omega⟩, qD⟩
              · rw [if_neg c7] at H
                have c7b0 : ((rd l0 x8_1) == (rd l1 x8_1)) = false := beq_eq_false_iff_ne.mpr c7
                have c7b1 : ((rd l0 x8_1) != (rd l1 x8_1)) = true := bne_iff_ne.mpr c7
                by_cases c8 : (rd l0 x8_1) < (rd l1 x8_1)
                · rw [if_pos c8] at H
                  have c8b0 : decide ((rd l0 x8_1) < (rd l1 x8_1)) = true := decide_eq_true c8
                  clear c8
                  obtain rfl := Option.some.inj H
                  have p236 : 0 ≤ (x8_1 : Int) := qo
                  have q236 : x8_1 < (l0.length : Int) := qo
                  obtain ⟨ad236, e236, hx236_0⟩ := Kd.at_int HR0.out x8_1 p236 q236
                  cases e236
                  replace p236 := eq_true p236
                  replace q236 := eq_true q236
                  have p237 : 0 ≤ (x8_1 : Int) := qo
                  have q237 : x8_1 < (l1.length : Int) := qo
                  obtain ⟨ad237, e237, hx237_0⟩ := Kd.at_int HR1.out x8_1 p237 q237
                  cases e237
                  replace p237 := eq_true p237
                  replace q237 := eq_true q237
                  have p238 : 0 ≤ (x8_1 : Int) := qo
                  have q238 : x8_1 < (l0.length : Int) := qo
                  obtain ⟨ad238, e238, hx238_0⟩ := Kd.at_int HR0.out x8_1 p238 q238
                  obtain rfl : ad236 = ad238 := (by injection e238)
                  replace p238 := eq_true p238
                  replace q238 := eq_true q238
                  have p239 : 0 ≤ (x8_1 : Int) := qo
                  have q239 : x8_1 < (l1.length : Int) := qo
                  obtain ⟨ad239, e239, hx239_0⟩ := Kd.at_int HR1.out x8_1 p239 q239
                  obtain rfl : ad237 = ad239 := (by injection e239)
                  replace p239 := eq_true p239
                  replace q239 := eq_true q239
                  go_wp2
                  repeat (go_quiet (fail); try go_wp2)
                  go_ret
                  exact ⟨qf, qD⟩
                · rw [if_neg c8] at H
                  have c8b0 : decide ((rd l0 x8_1) < (rd l1 x8_1)) = false := decide_eq_false c8
                  clear c8
                  obtain rfl := Option.some.inj H
                  have p236 : 0 ≤ (x8_1 : Int) := qo
                  have q236 : x8_1 < (l0.length : Int) := qo
                  obtain ⟨ad236, e236, hx236_0⟩ := Kd.at_int HR0.out x8_1 p236 q236
                  cases e236
                  replace p236 := eq_true p236
                  replace q236 := eq_true q236
                  have p237 : 0 ≤ (x8_1 : Int) := qo
                  have q237 : x8_1 < (l1.length : Int) := qo
                  obtain ⟨ad237, e237, hx237_0⟩ := Kd.at_int HR1.out x8_1 p237 q237
                  cases e237
                  replace p237 := eq_true p237
                  replace q237 := eq_true q237
                  have p238 : 0 ≤ (x8_1 : Int) := qo
                  have q238 : x8_1 < (l0.length : Int) := qo
                  obtain ⟨ad238, e238, hx238_0⟩ := Kd.at_int HR0.out x8_1 p238 q238
                  obtain rfl : ad236 = ad238 := (by injection e238)
                  replace p238 := eq_true p238
                  replace q238 := eq_true q238
                  have p239 : 0 ≤ (x8_1 : Int) := qo
                  have q239 : x8_1 < (l1.length : Int) := qo
                  obtain ⟨ad239, e239, hx239_0⟩ := Kd.at_int HR1.out x8_1 p239 q239
                  obtain rfl : ad237 = ad239 := (by injection e239)
                  replace p239 := eq_true p239
                  replace q239 := eq_true q239
                  go_wp2
                  repeat (go_quiet (fail); try go_wp2)
                  go_ret
                  exact ⟨qf, qD⟩
            · rw [if_neg c6] at H
              exact absurd H (by simp)
          · rw [if_neg c5] at H
            exact absurd H (by simp)
        · rw [if_neg c4] at H
          exact absurd H (by simp)
      · rw [if_neg c3] at H
        have c3b0 : decide (x8_1 < (l0.length : Int)) = false := decide_eq_false c3
        clear c3
        obtain rfl := Option.some.inj H
        go_wp2
        repeat (go_quiet (fail); try go_wp2)
        go_ret
        exact ⟨qf, qD⟩

def impl_compareVecs.f (k : Nat) (a0_0 : Int) (a0_1 : Int) (a1_0 : Int) (a1_1 : Int) : Option (Int) := (impl_compareNumbers.f k (([a0_0, a0_1] : List Int)) (([a1_0, a1_1] : List Int))).bind fun t248 => (some t248)
mutual
def impl_Vec_58.l0 : Nat → List (S43) → Int → Option ((List (S43)))
  | 0, _, _ => none
  | k + 1, x0, x3 => if x3 < (x0.length : Int) then (if 0 ≤ x3 then (if 0 ≤ (wrap64 (x3 - 1)) then (if (wrap64 (x3 - 1)) < (x0.length : Int) then (if (((rd_T43 x0 x3).f0) == ((rd_T43 x0 (wrap64 (x3 - 1))).f0) && (((rd_T43 x0 x3).f1) == ((rd_T43 x0 (wrap64 (x3 - 1))).f1))) = true then (if x3 ≤ (x0.length : Int) then (impl_Vec_58.l1 k x0 x3 (x0.drop (x3 : Int).toNat) 1) else (none)) else (impl_Vec_58.l0 k x0 (wrap64 (x3 + 1)))) else (none)) else (none)) else (none)) else (some x0)
def impl_Vec_58.l1 : Nat → List (S43) → Int → List (S43) → Int → Option ((List (S43)))
  | 0, _, _, _, _ => none
  | k + 1, x0, x3, x4, x5 => if x5 < (x4.length : Int) then (if 0 ≤ x5 then (if 0 ≤ (wrap64 (x5 - 1)) then (if (wrap64 (x5 - 1)) < (x4.length : Int) then (if (!(((rd_T43 x4 x5).f0) == ((rd_T43 x4 (wrap64 (x5 - 1))).f0)) || (!(((rd_T43 x4 x5).f1) == ((rd_T43 x4 (wrap64 (x5 - 1))).f1)))) = true then (if 0 ≤ x3 then (if x3 < (x0.length : Int) then (impl_Vec_58.l1 k (x0.set (x3 : Int).toNat (⟨(rd_T43 x4 x5).f0, (rd_T43 x4 x5).f1⟩ : S43)) (wrap64 (x3 + 1)) x4 (wrap64 (x5 + 1))) else (none)) else (none)) else (impl_Vec_58.l1 k x0 x3 x4 (wrap64 (x5 + 1)))) else (none)) else (none)) else (none)) else (if 0 ≤ x3 then (if x3 ≤ (x0.length : Int) then (some ((x0.take (x3 : Int).toNat ++ List.replicate (x0.drop (x3 : Int).toNat).length z43).take (x3 : Int).toNat)) else (none)) else (none))
end
def impl_Vec_58.f (k : Nat) (l0 : List (S43)) : Option ((List (S43))) := if (l0.length : Int) < 2 then (some l0) else (impl_Vec_58.l0 k l0 1)
set_option maxHeartbeats 8000000 in
set_option maxRecDepth 100000 in
theorem impl_Vec_58.calls (k : Nat) (P0_ : Nat → Prop) (u9000_ : Value) (l0 : List (S43)) (r : List (S43)) (w0 w : World) (hB : Below w0.heap.size w0 w) (ho0 : Kd.R k43 43 w w0.heap.size P0_ u9000_ l0) (h : impl_Vec_58.f k l0 = some r) :
    Calls Try.prog 58 #[u9000_] w fun e w' => ∃ v0_ : Value, e = .returned (v0_) ∧ Kd.R k43 43 w' w0.heap.size (fun k_ => (P0_ k_ ∨ w.heap.size ≤ k_)) v0_ r ∧ Below w0.heap.size w0 w' ∧ Kept w w' (fun k_ => P0_ k_) := by
  have hu43 := Try.underlying43
  have HO0 := Aside0.mk (show Kd.R k43 43 w w0.heap.size (fun k_ => (P0_ k_ ∨ w.heap.size ≤ k_)) u9000_ l0 from Kd.R_mono ho0 (fun k_ hk => (.inl hk)))
  have HK := Aside0.mk (Kept.refl w (fun k_ => P0_ k_))
  have HW0 := Aside0.mk hB.size
  have HB := Aside0.mk hB
  clear hB
  have H : (if (l0.length : Int) < 2 then (some l0) else (impl_Vec_58.l0 k l0 1)) = some r := h
  clear h
  by_cases c2 : (l0.length : Int) < 2
  · rw [if_pos c2] at H
    have c2b0 : decide ((l0.length : Int) < 2) = true := decide_eq_true c2
    have c2b1 : decide (l0.length < 2) = true := decide_eq_true (by omega)
    clear c2
    obtain rfl := Option.some.inj H
    obtain ⟨Ao3, co3, eo3⟩ := Kd.R_slice HO0.out
    subst eo3
    go_enter Try.func58, Try.ntmps58
    go_wp2
    repeat (go_quiet (fail); try go_wp2)
    go_ret
    exact ⟨_, qF, by (with_reducible repeat (first | apply Kd.R_alloc | apply Kd.R_drewN | apply Kd.R_drew)); exact HO0.out, qB, qK HK⟩
  · rw [if_neg c2] at H
    have c2b0 : decide ((l0.length : Int) < 2) = false := decide_eq_false c2
    have c2b1 : decide (l0.length < 2) = false := decide_eq_false (by omega)
    clear c2
    have H' := Aside0.mk H
    clear H
    obtain ⟨Ao4, co4, eo4⟩ := Kd.R_slice HO0.out
    subst eo4
    go_enter Try.func58, Try.ntmps58
    go_wp2
    repeat (go_quiet (fail); try go_wp2)
    go_loopg [3] k (fun kq v3 w' => ∃ (x0_1 : List (S43)) (x3_1 : Int), v3 = .int .i64 x3_1 ∧ Aside0 (impl_Vec_58.l0 kq x0_1 x3_1 = some r) ∧ Aside0 (kq ≤ k) ∧ Aside0 (Kd.R k43 43 w' w0.heap.size (fun k_ => (P0_ k_ ∨ w.heap.size ≤ k_)) (.slice Ao4 l0.length co4) x0_1) ∧ Aside0 (Kept w w' (fun k_ => P0_ k_)) ∧ Aside0 (Below w0.heap.size w0 w'))
    case atStart => exact ⟨(l0), (1), qf, H', ⟨Nat.le_refl _⟩, ⟨by (with_reducible repeat (first | apply Kd.R_alloc | apply Kd.R_drewN | apply Kd.R_drew)); exact HO0.out⟩, ⟨qK HK⟩, ⟨qB⟩⟩
    case round =>
      clear H'
      try clear c2
      try clear c2b0
      try clear c2b1
      try clear p2
      obtain ⟨x0_1, x3_1, rfl, HA, HK1, HO_0, HK, HB⟩ := hrel
      have hl0_1 := (Kd.R_reads' HO_0.out).1
      rw [hl0_1] at HO_0
      (try simp only [hl0_1])
      cases gk with
      | zero => exact absurd HA.out (by simp [impl_Vec_58.l0])
      | succ k1 =>
        have H := HA.out
        clear HA
        simp only [impl_Vec_58.l0] at H
        by_cases c5 : x3_1 < (x0_1.length : Int)
        · rw [if_pos c5] at H
          have c5b0 : decide (x3_1 < (x0_1.length : Int)) = true := decide_eq_true c5
          clear c5
          by_cases c6 : 0 ≤ x3_1
          · rw [if_pos c6] at H
            have c6b0 : decide (0 ≤ x3_1) = true := decide_eq_true c6
            clear c6
            obtain ⟨ji7, hji7⟩ : ∃ j_ : Int, (wrap64 (x3_1 - 1)) = j_ := ⟨_, rfl⟩
            replace H : (if 0 ≤ (ji7) then (if (ji7) < (x0_1.length : Int) then (if (((rd_T43 x0_1 x3_1).f0) == ((rd_T43 x0_1 (ji7)).f0) && (((rd_T43 x0_1 x3_1).f1) == ((rd_T43 x0_1 (ji7)).f1))) = true then (if x3_1 ≤ (x0_1.length : Int) then (impl_Vec_58.l1 k1 x0_1 x3_1 (x0_1.drop (x3_1 : Int).toNat) 1) else (none)) else (impl_Vec_58.l0 k1 x0_1 (wrap64 (x3_1 + 1)))) else (none)) else (none)) = some r := by first | (rw [hji7] at H; exact H) | (simp only [hji7] at H ⊢; exact H)
            have hji7w : (IntKind.i64.wrap (x3_1 - 1)) = ji7 := (i64_w _).trans hji7
            by_cases c8 : 0 ≤ (ji7)
            · rw [if_pos c8] at H
              have c8b0 : decide (0 ≤ (ji7)) = true := decide_eq_true c8
              clear c8
              by_cases c9 : (ji7) < (x0_1.length : Int)
              · rw [if_pos c9] at H
                have c9b0 : decide ((ji7) < (x0_1.length : Int)) = true := decide_eq_true c9
                clear c9
                by_cases c10 : (((rd_T43 x0_1 x3_1).f0) == ((rd_T43 x0_1 (ji7)).f0) && (((rd_T43 x0_1 x3_1).f1) == ((rd_T43 x0_1 (ji7)).f1))) = true
                · rw [if_pos c10] at H
                  have c10b0 : (((rd_T43 x0_1 x3_1).f0) == ((rd_T43 x0_1 (ji7)).f0) && (((rd_T43 x0_1 x3_1).f1) == ((rd_T43 x0_1 (ji7)).f1))) = true := c10
                  (try (have c10b1 : decide (((rd_T43 x0_1 x3_1).f0) = ((rd_T43 x0_1 (ji7)).f0) && (((rd_T43 x0_1 x3_1).f1) == ((rd_T43 x0_1 (ji7)).f1))) = true := by simpa using c10))
                  (try (have c10b2 : (((rd_T43 x0_1 x3_1).f0) == ((rd_T43 x0_1 (ji7)).f0) && (((rd_T43 x0_1 x3_1).f1) == ((rd_T43 x0_1 (ji7)).f1))) = true := by simpa using c10))
                  clear c10
                  have c11b0 := eq_true (qo : 0 ≤ x3_1)
                  by_cases c12 : x3_1 ≤ (x0_1.length : Int)
                  · rw [if_pos c12] at H
                    have c12b0 := eq_true c12
                    have c12b1 : decide (x3_1 ≤ (x0_1.length : Int)) = true := decide_eq_true c12
                    clear c12
                    obtain ⟨y251, hy251⟩ : ∃ y_ : List (S43), y_ = (x0_1.drop (x3_1 : Int).toNat) := ⟨_, rfl⟩
                    replace H : (impl_Vec_58.l1 k1 x0_1 x3_1 y251 1) = some r := by first | (rw [hy251]; with_reducible exact H) | (have H2_ := (Option.bind_some _ _).symm.trans H; rw [hy251]; with_reducible exact H2_) | (have H2_ := (Option.bind_some _ _).symm.trans H; with_reducible exact H2_) | with_reducible exact H | (rw [hy251]; exact H) | exact H
                    have Ny251 := Aside0.mk hy251
                    clear hy251
                    have H' := Aside0.mk H
                    clear H
                    have p249 : 0 ≤ (x3_1 : Int) := qo
                    have q249 : x3_1 < (x0_1.length : Int) := qo
                    obtain ⟨ad249, e249, hx249_0, hx249_1⟩ := at_T43 (Kd.R_reads' HO_0.out).2.2 x3_1 p249 q249
                    cases e249
                    replace p249 := eq_true p249
                    replace q249 := eq_true q249
                    have p250 : 0 ≤ ((ji7) : Int) := qo
                    have q250 : (ji7) < (x0_1.length : Int) := qo
                    obtain ⟨ad250, e250, hx250_0, hx250_1⟩ := at_T43 (Kd.R_reads' HO_0.out).2.2 (ji7) p250 q250
                    obtain rfl : ad249 = ad250 := (by injection e250)
                    replace p250 := eq_true p250
                    replace q250 := eq_true q250
                    have q13 : (x3_1 : Int) ≤ ((x0_1.length : Int) : Int) := qo
                    obtain ⟨i013, hi013, _, hsz13, _⟩ := info_parts info43
                    have hroom13 : x0_1.length ≤ co4 := (Kd.R_reads' HO_0.out).2.1
                    have hC13 : Kd.C k43 _ (some ad249) x0_1.length x0_1 := (Kd.R_reads' HO_0.out).2.2
                    have q013 : (0 : Int) ≤ (x3_1 : Int) := qo
                    have hcut13 := cut_from (P := Try.prog) 84 43 .i64 Try.underlying84 hi013 2 hsz13 (some ad249) x0_1.length co4 x3_1 q013 q13
                    have hr13 := Kd.C_drop (m := (x3_1 : Int).toNat) (c := co4) hC13 (by omega) hroom13
                    obtain ⟨A13, hA13⟩ : ∃ A1, A1 = (if co4 = (x3_1 : Int).toNat then (some ad249) else ((some ad249) : Option Addr).map (·.add ((x3_1 : Int).toNat * 2))) := ⟨_, rfl⟩
                    obtain ⟨c13, hc13⟩ : ∃ c1, c1 = co4 - (x3_1 : Int).toNat := ⟨_, rfl⟩
                    have hy13 : y251.length = x0_1.length - (x3_1 : Int).toNat := (by rw [Ny251.out, List.length_drop] <;> omega)
                    rw [show (x0_1).drop (x3_1 : Int).toNat = y251 from Ny251.out.symm] at hr13
                    replace hr13 : Kd.C k43 _ A13 y251.length y251 := (by rw [hA13]; exact hr13)
                    rw [← hy13, ← hA13, ← hc13] at hcut13
                    have HR254 := Aside0.mk hr13
                    have HC254 := Aside0.mk (show y251.length ≤ c13 from by rw [hy13, hc13]; exact Nat.sub_le_sub_right hroom13 _)
                    clear hr13 hC13 hroom13 hi013 hsz13 hc13
                    have KY13 := Aside0.mk hy13
                    have KA13 := Aside0.mk hA13
                    clear hy13 hA13
                    have KL13 := Aside0.mk (show (x3_1 : Int).toNat ≤ x0_1.length from by omega)
                    replace q13 := eq_true q13
                    go_wp2
                    repeat (go_quiet (fail); try go_wp2)
                    (try generalize Value.pointer (some (ad249.add (x3_1.toNat * 2))) = dp0_)
                    (try generalize Value.pointer (some (ad249.add (ji7.toNat * 2))) = dp1_)
                    go_loopg [3, 5] k1 (fun kq v3 v5 w' => ∃ (x0_2 : List (S43)) (x3_2 : Int) (x5_2 : Int), v3 = .int .i64 x3_2 ∧ v5 = .int .i64 x5_2 ∧ Aside0 (impl_Vec_58.l1 kq x0_2 x3_2 y251 x5_2 = some r) ∧ Aside0 (kq ≤ k1) ∧ Aside0 (Kd.R k43 43 w' w0.heap.size (fun k_ => (P0_ k_ ∨ w.heap.size ≤ k_)) (.slice (some ad249) x0_1.length co4) x0_2) ∧ Aside0 (Kept w w' (fun k_ => P0_ k_)) ∧ Aside0 (Below w0.heap.size w0 w') ∧ Aside0 (CI x0_2 (x3_1 : Int).toNat y251 x3_2 x5_2))
                    case atStart => exact ⟨(x0_1), (x3_1), (1), qf, qf, H', ⟨Nat.le_refl _⟩, ⟨by (try simp only [hl0_1]); (with_reducible repeat (first | apply Kd.R_alloc | apply Kd.R_drewN | apply Kd.R_drew)); exact HO_0.out⟩, ⟨qK HK⟩, ⟨qB⟩, ⟨by have hn_ := (Kd.R_reads' HO_0.out).1; have hp_ : x3_1 < (x0_1.length : Int) := (by first | assumption | exact of_eq_true (by assumption)); rw [Ny251.out]; have hs_ := CI.start (x0 := x0_1) (m := (x3_1 : Int).toNat) (by omega); rwa [show (((x3_1 : Int).toNat : Nat) : Int) = x3_1 from by omega] at hs_⟩⟩
                    case round =>
                      clear H'
                      try clear c1
                      try clear q1
                      try clear c2
                      try clear c2b0
                      try clear c2b1
                      try clear p2
                      try clear q2
                      try clear hx2
                      try clear c5
                      try clear c5b0
                      try clear c6
                      try clear c6b0
                      try clear p6
                      try clear c8
                      try clear c8b0
                      try clear c9
                      try clear c9b0
                      try clear c10
                      try clear c10b0
                      try clear c10b1
                      try clear c10b2
                      try clear c11
                      try clear c11b0
                      try clear c12
                      try clear c12b0
                      try clear c12b1
                      try clear c13
                      try clear q13
                      try clear hx249_0
                      try clear hx249_1
                      try clear hx250_0
                      try clear hx250_1
                      try clear p2
                      try clear p249
                      try clear p250
                      try clear q013
                      try clear q13
                      try clear q249
                      try clear q250
                      obtain ⟨x0_2, x3_2, x5_2, rfl, rfl, HA, HK2, HO_0, HK, HB, HT⟩ := hrel
                      have hl0_2 := (Kd.R_reads' HO_0.out).1
                      rw [hl0_2] at HO_0
                      (try simp only [hl0_2])
                      cases gk with
                      | zero => exact absurd HA.out (by simp [impl_Vec_58.l1])
                      | succ k2 =>
                        have H := HA.out
                        clear HA
                        simp only [impl_Vec_58.l1] at H
                        by_cases c14 : x5_2 < (y251.length : Int)
                        · rw [if_pos c14] at H
                          have c14b0 : decide (x5_2 < (y251.length : Int)) = true := decide_eq_true c14
                          have hbr_ := c14
                          have hml_ := (Kd.R_reads' HO_0.out).2.2.2.1
                          clear c14
                          by_cases c15 : 0 ≤ x5_2
                          · rw [if_pos c15] at H
                            have c15b0 : decide (0 ≤ x5_2) = true := decide_eq_true c15
                            clear c15
                            obtain ⟨ji16, hji16⟩ : ∃ j_ : Int, (wrap64 (x5_2 - 1)) = j_ := ⟨_, rfl⟩
                            replace H : (if 0 ≤ (ji16) then (if (ji16) < (y251.length : Int) then (if (!(((rd_T43 y251 x5_2).f0) == ((rd_T43 y251 (ji16)).f0)) || (!(((rd_T43 y251 x5_2).f1) == ((rd_T43 y251 (ji16)).f1)))) = true then (if 0 ≤ x3_2 then (if x3_2 < (x0_2.length : Int) then (impl_Vec_58.l1 k2 (x0_2.set (x3_2 : Int).toNat (⟨(rd_T43 y251 x5_2).f0, (rd_T43 y251 x5_2).f1⟩ : S43)) (wrap64 (x3_2 + 1)) y251 (wrap64 (x5_2 + 1))) else (none)) else (none)) else (impl_Vec_58.l1 k2 x0_2 x3_2 y251 (wrap64 (x5_2 + 1)))) else (none)) else (none)) = some r := by first | (rw [hji16] at H; exact H) | (simp only [hji16] at H ⊢; exact H)
                            have hji16w : (IntKind.i64.wrap (x5_2 - 1)) = ji16 := (i64_w _).trans hji16
                            by_cases c17 : 0 ≤ (ji16)
                            · rw [if_pos c17] at H
                              have c17b0 : decide (0 ≤ (ji16)) = true := decide_eq_true c17
                              clear c17
                              by_cases c18 : (ji16) < (y251.length : Int)
                              · rw [if_pos c18] at H
                                have c18b0 : decide ((ji16) < (y251.length : Int)) = true := decide_eq_true c18
                                clear c18
                                by_cases c19 : (!(((rd_T43 y251 x5_2).f0) == ((rd_T43 y251 (ji16)).f0)) || (!(((rd_T43 y251 x5_2).f1) == ((rd_T43 y251 (ji16)).f1)))) = true
                                · rw [if_pos c19] at H
                                  have c19b0 : (!(((rd_T43 y251 x5_2).f0) == ((rd_T43 y251 (ji16)).f0)) || (!(((rd_T43 y251 x5_2).f1) == ((rd_T43 y251 (ji16)).f1)))) = true := c19
                                  clear c19
                                  by_cases c20 : 0 ≤ x3_2
                                  · rw [if_pos c20] at H
                                    have c20b0 : decide (0 ≤ x3_2) = true := decide_eq_true c20
                                    clear c20
                                    by_cases c21 : x3_2 < (x0_2.length : Int)
                                    · rw [if_pos c21] at H
                                      have c21b0 : decide (x3_2 < (x0_2.length : Int)) = true := decide_eq_true c21
                                      clear c21
                                      obtain ⟨y258, hy258⟩ : ∃ y_ : List (S43), y_ = (x0_2.set (x3_2 : Int).toNat (⟨(rd_T43 y251 x5_2).f0, (rd_T43 y251 x5_2).f1⟩ : S43)) := ⟨_, rfl⟩
                                      replace H : (impl_Vec_58.l1 k2 y258 (wrap64 (x3_2 + 1)) y251 (wrap64 (x5_2 + 1))) = some r := by first | (rw [hy258]; with_reducible exact H) | (have H2_ := (Option.bind_some _ _).symm.trans H; rw [hy258]; with_reducible exact H2_) | (have H2_ := (Option.bind_some _ _).symm.trans H; with_reducible exact H2_) | with_reducible exact H | (rw [hy258]; exact H) | exact H
                                      have Ny258 := Aside0.mk hy258
                                      clear hy258
                                      have H' := Aside0.mk H
                                      clear H
                                      have p255 : 0 ≤ (x5_2 : Int) := qo
                                      have q255 : x5_2 < (y251.length : Int) := qo
                                      obtain ⟨ad255, e255, hx255_0, hx255_1⟩ := at_T43 (CI.reads HT.out HO_0.out KA13.out) x5_2 p255 q255
                                      have hrd_ : rd_T43 (x0_2.drop (x3_1 : Int).toNat) x5_2 = rd_T43 y251 x5_2 := CI.rd HT.out _ _ (by have := HT.out.b1; have hj_ := IntWalk.wrap64_in (x5_2 - 1) ⟨by have := HT.out.b1; omega, by have h1_ := HT.out.bl; have h2_ := (Kd.R_reads' HO_0.out).2.2.2.1; have h3_ := HT.out.len; omega⟩; have hj2_ := hji16; omega) (by have := HT.out.b1; have hj_ := IntWalk.wrap64_in (x5_2 - 1) ⟨by have := HT.out.b1; omega, by have h1_ := HT.out.bl; have h2_ := (Kd.R_reads' HO_0.out).2.2.2.1; have h3_ := HT.out.len; omega⟩; have hj2_ := hji16; omega)
                                      rw [hrd_] at hx255_0 hx255_1
                                      clear hrd_
                                      cases e255
                                      replace p255 := eq_true p255
                                      replace q255 := eq_true q255
                                      have p256 : 0 ≤ ((ji16) : Int) := qo
                                      have q256 : (ji16) < (y251.length : Int) := qo
                                      obtain ⟨ad256, e256, hx256_0, hx256_1⟩ := at_T43 (CI.reads HT.out HO_0.out KA13.out) (ji16) p256 q256
                                      have hrd_ : rd_T43 (x0_2.drop (x3_1 : Int).toNat) (ji16) = rd_T43 y251 (ji16) := CI.rd HT.out _ _ (by have := HT.out.b1; have hj_ := IntWalk.wrap64_in (x5_2 - 1) ⟨by have := HT.out.b1; omega, by have h1_ := HT.out.bl; have h2_ := (Kd.R_reads' HO_0.out).2.2.2.1; have h3_ := HT.out.len; omega⟩; have hj2_ := hji16; omega) (by have := HT.out.b1; have hj_ := IntWalk.wrap64_in (x5_2 - 1) ⟨by have := HT.out.b1; omega, by have h1_ := HT.out.bl; have h2_ := (Kd.R_reads' HO_0.out).2.2.2.1; have h3_ := HT.out.len; omega⟩; have hj2_ := hji16; omega)
                                      rw [hrd_] at hx256_0 hx256_1
                                      clear hrd_
                                      obtain rfl : ad255 = ad256 := (by injection e256)
                                      replace p256 := eq_true p256
                                      replace q256 := eq_true q256
                                      have p257 : 0 ≤ (x5_2 : Int) := qo
                                      have q257 : x5_2 < (y251.length : Int) := qo
                                      obtain ⟨ad257, e257, hx257_0, hx257_1⟩ := at_T43 (CI.reads HT.out HO_0.out KA13.out) x5_2 p257 q257
                                      have hrd_ : rd_T43 (x0_2.drop (x3_1 : Int).toNat) x5_2 = rd_T43 y251 x5_2 := CI.rd HT.out _ _ (by have := HT.out.b1; have hj_ := IntWalk.wrap64_in (x5_2 - 1) ⟨by have := HT.out.b1; omega, by have h1_ := HT.out.bl; have h2_ := (Kd.R_reads' HO_0.out).2.2.2.1; have h3_ := HT.out.len; omega⟩; have hj2_ := hji16; omega) (by have := HT.out.b1; have hj_ := IntWalk.wrap64_in (x5_2 - 1) ⟨by have := HT.out.b1; omega, by have h1_ := HT.out.bl; have h2_ := (Kd.R_reads' HO_0.out).2.2.2.1; have h3_ := HT.out.len; omega⟩; have hj2_ := hji16; omega)
                                      rw [hrd_] at hx257_0 hx257_1
                                      clear hrd_
                                      obtain rfl : ad255 = ad257 := (by injection e257)
                                      replace p257 := eq_true p257
                                      replace q257 := eq_true q257
                                      have p22 : 0 ≤ (x3_2 : Int) := qo
                                      have q22 : (x3_2 : Int) < ((x0_2.length : Int) : Int) := qo
                                      obtain ⟨go22, co22, eo22, gb22, gl22, cl22, HG22⟩ := Kd.R_form HO_0.out (by omega)
                                      (first | cases eo22 | (injection eo22 with ea_ en_ ec_; (first | subst ea_ | (injection ea_ with ea_; subst ea_)); subst ec_; clear en_))
                                      have GB22 := Aside0.mk gb22
                                      have GG22 := Aside0.mk HG22
                                      clear gb22 gl22 HG22
                                      have HMgo22 := Aside0.mk (show (P0_ go22 ∨ w.heap.size ≤ go22) from (HO_0.out.1 _ rfl))
                                      (first | simp only [add_plain] at hx249_0 | skip)
                                      (first | simp only [add_plain] at hx249_1 | skip)
                                      (first | simp only [add_plain] at hx250_0 | skip)
                                      (first | simp only [add_plain] at hx250_1 | skip)
                                      obtain ⟨ce22, hcl22, hM22, hcc22, hfr22⟩ := Kd.R_elem HO_0.out z43 (x3_2 : Int) p22 q22
                                      obtain rfl := k43_openM hM22
                                      have hx22_0 : wr.cell? ⟨go22, (x3_2 : Int).toNat * 2, none⟩ = some (.int .i64 ((rd_T43 x0_2 x3_2).f0)) := hcc22 0 _ rfl
                                      have hx22_1 : wr.cell? ⟨go22, (x3_2 : Int).toNat * 2 + 1, none⟩ = some (.int .i64 ((rd_T43 x0_2 x3_2).f1)) := hcc22 1 _ rfl
                                      have hf22_0 : wr.frozen? ⟨go22, (x3_2 : Int).toNat * 2, none⟩ = false := hfr22 0
                                      have hf22_1 : wr.frozen? ⟨go22, (x3_2 : Int).toNat * 2 + 1, none⟩ = false := hfr22 1
                                      clear hcl22 hcc22 hfr22 hM22
                                      replace p22 := eq_true p22
                                      replace q22 := eq_true q22
                                      have HX23 := Aside0.mk (show Kd.R k43 43 wr w0.heap.size (fun k_ => (P0_ k_ ∨ w.heap.size ≤ k_)) (.slice (some ⟨go22, 0, none⟩) x0_2.length co4) x0_2 from (qR HO_0.out))
                                      obtain ⟨ce23, hcl23, hM23, hcc23, hfr23⟩ := Kd.R_elem HX23.out z43 (x3_2 : Int) qo (by have h_ : (x3_2 : Int) < ((x0_2.length : Int) : Int) := qo; first | exact h_ | (have e_ := (Kd.R_reads' HO_0.out).1; omega) | simpa using h_)
                                      obtain rfl := k43_openM hM23
                                      have HP23 := Kd.R_seg HX23.out (x3_2 : Int) qo (by have h_ : (x3_2 : Int) < ((x0_2.length : Int) : Int) := qo; first | exact h_ | (have e_ := (Kd.R_reads' HO_0.out).1; omega) | simpa using h_) (seg := [.int .i64 ((rd_T43 y251 x5_2).f0), .int .i64 ((rd_T43 y251 x5_2).f1)]) (j := 0) hcl23 hcc23 (show 2 ≤ 2 from by decide) (x' := (⟨(rd_T43 y251 x5_2).f0, (rd_T43 y251 x5_2).f1⟩ : S43)) (k43_mkM _ _ _ (⟨(rd_T43 y251 x5_2).f0, (rd_T43 y251 x5_2).f1⟩ : S43) ) (fun _ hk => hk)
                                      have hx23_0 := hcc23 0 _ rfl
                                      (try simp only [show (k43).sz = 2 from rfl, Nat.mul_one, Nat.add_zero] at hx23_0)
                                      have hf23_0 := hfr23 0
                                      (try simp only [show (k43).sz = 2 from rfl, Nat.mul_one, Nat.add_zero] at hf23_0)
                                      have hx23_1 := hcc23 1 _ rfl
                                      (try simp only [show (k43).sz = 2 from rfl, Nat.mul_one, Nat.add_zero] at hx23_1)
                                      have hf23_1 := hfr23 1
                                      (try simp only [show (k43).sz = 2 from rfl, Nat.mul_one, Nat.add_zero] at hf23_1)
                                      clear hcl23 hcc23 hfr23 hM23
                                      go_wp2_with (first | ((with_reducible refine gate_store (t := 43) (p := 51) rfl ?_); (try (rw [drewN_self wr]; generalize hq_ : World.drewN wr _ = wr; have n0_ := Aside0.mk (Kd.R_at hq_ HO_0.out); have n1_ := Aside0.mk (kept_at hq_ HK.out); have n2_ := Aside0.mk (below_at hq_ HB.out); clear hq_ HO_0 HK HB; have HO_0 := n0_; have HK := n1_; have HB := n2_; clear n0_ n1_ n2_; (try (have HX23 := Aside0.mk (show Kd.R k43 43 wr w0.heap.size (fun k_ => (P0_ k_ ∨ w.heap.size ≤ k_)) (.slice (some ⟨go22, 0, none⟩) x0_2.length co4) x0_2 from (qR HO_0.out)))); (try (obtain ⟨ce23, hcl23, hM23, hcc23, hfr23⟩ := Kd.R_elem HX23.out z43 (x3_2 : Int) qo (by have h_ : (x3_2 : Int) < ((x0_2.length : Int) : Int) := qo; first | exact h_ | (have e_ := (Kd.R_reads' HO_0.out).1; omega) | simpa using h_))); (try (obtain rfl := k43_openM hM23)); (try (have HP23 := Kd.R_seg HX23.out (x3_2 : Int) qo (by have h_ : (x3_2 : Int) < ((x0_2.length : Int) : Int) := qo; first | exact h_ | (have e_ := (Kd.R_reads' HO_0.out).1; omega) | simpa using h_) (seg := [.int .i64 ((rd_T43 y251 x5_2).f0), .int .i64 ((rd_T43 y251 x5_2).f1)]) (j := 0) hcl23 hcc23 (show 2 ≤ 2 from by decide) (x' := (⟨(rd_T43 y251 x5_2).f0, (rd_T43 y251 x5_2).f1⟩ : S43)) (k43_mkM _ _ _ (⟨(rd_T43 y251 x5_2).f0, (rd_T43 y251 x5_2).f1⟩ : S43) ) (fun _ hk => hk))); (try (have hx23_0 := hcc23 0 _ rfl)); (try (try simp only [show (k43).sz = 2 from rfl, Nat.mul_one, Nat.add_zero] at hx23_0)); (try (have hf23_0 := hfr23 0)); (try (try simp only [show (k43).sz = 2 from rfl, Nat.mul_one, Nat.add_zero] at hf23_0)); (try (have hx23_1 := hcc23 1 _ rfl)); (try (try simp only [show (k43).sz = 2 from rfl, Nat.mul_one, Nat.add_zero] at hx23_1)); (try (have hf23_1 := hfr23 1)); (try (try simp only [show (k43).sz = 2 from rfl, Nat.mul_one, Nat.add_zero] at hf23_1)); (try (clear hcl23 hcc23 hfr23 hM23)))); refine store_event (t := 43) (p := 51) (v := ?vo_w24) (w1 := ((wr.setCell ⟨go22, (x3_2 : Int).toNat * 2, none⟩ (.int .i64 ((rd_T43 y251 x5_2).f0))).setCell ⟨go22, (x3_2 : Int).toNat * 2 + 1, none⟩ (.int .i64 ((rd_T43 y251 x5_2).f1)))) ?hg ?ho ?hn ?hr ?_; (case ho => rfl); (case hg => rfl); (case hn => rfl); (case hr => first | (go_simp; done) | (go_simp; rfl)); intro w24 hw; have hg : wr.grownBy w24 (some go22) := (by rw [hw]; exact HP23.2); have hp_ : Kd.R k43 43 w24 w0.heap.size (fun k_ => (P0_ k_ ∨ w.heap.size ≤ k_)) (.slice (some ⟨go22, 0, none⟩) x0_2.length co4) y258 := (by rw [hw, Ny258.out]; exact HP23.1); clear HP23; replace HB := Aside0.mk ((by rw [hw]; exact below_set (below_set (HB.out) GB22.out) GB22.out : Below w0.heap.size w0 w24)); replace HK := Aside0.mk (Kept.of_grown (S := (fun k_ => P0_ k_)) hg (qK HK) (fun k_ e_ => (HO_0.out.1 k_ e_))); replace HO_0 := Aside0.mk (hp_); clear hg hw hp_))
                                      repeat (go_quiet (first | ((with_reducible refine gate_store (t := 43) (p := 51) rfl ?_); (try (rw [drewN_self wr]; generalize hq_ : World.drewN wr _ = wr; have n0_ := Aside0.mk (Kd.R_at hq_ HO_0.out); have n1_ := Aside0.mk (kept_at hq_ HK.out); have n2_ := Aside0.mk (below_at hq_ HB.out); clear hq_ HO_0 HK HB; have HO_0 := n0_; have HK := n1_; have HB := n2_; clear n0_ n1_ n2_; (try (have HX23 := Aside0.mk (show Kd.R k43 43 wr w0.heap.size (fun k_ => (P0_ k_ ∨ w.heap.size ≤ k_)) (.slice (some ⟨go22, 0, none⟩) x0_2.length co4) x0_2 from (qR HO_0.out)))); (try (obtain ⟨ce23, hcl23, hM23, hcc23, hfr23⟩ := Kd.R_elem HX23.out z43 (x3_2 : Int) qo (by have h_ : (x3_2 : Int) < ((x0_2.length : Int) : Int) := qo; first | exact h_ | (have e_ := (Kd.R_reads' HO_0.out).1; omega) | simpa using h_))); (try (obtain rfl := k43_openM hM23)); (try (have HP23 := Kd.R_seg HX23.out (x3_2 : Int) qo (by have h_ : (x3_2 : Int) < ((x0_2.length : Int) : Int) := qo; first | exact h_ | (have e_ := (Kd.R_reads' HO_0.out).1; omega) | simpa using h_) (seg := [.int .i64 ((rd_T43 y251 x5_2).f0), .int .i64 ((rd_T43 y251 x5_2).f1)]) (j := 0) hcl23 hcc23 (show 2 ≤ 2 from by decide) (x' := (⟨(rd_T43 y251 x5_2).f0, (rd_T43 y251 x5_2).f1⟩ : S43)) (k43_mkM _ _ _ (⟨(rd_T43 y251 x5_2).f0, (rd_T43 y251 x5_2).f1⟩ : S43) ) (fun _ hk => hk))); (try (have hx23_0 := hcc23 0 _ rfl)); (try (try simp only [show (k43).sz = 2 from rfl, Nat.mul_one, Nat.add_zero] at hx23_0)); (try (have hf23_0 := hfr23 0)); (try (try simp only [show (k43).sz = 2 from rfl, Nat.mul_one, Nat.add_zero] at hf23_0)); (try (have hx23_1 := hcc23 1 _ rfl)); (try (try simp only [show (k43).sz = 2 from rfl, Nat.mul_one, Nat.add_zero] at hx23_1)); (try (have hf23_1 := hfr23 1)); (try (try simp only [show (k43).sz = 2 from rfl, Nat.mul_one, Nat.add_zero] at hf23_1)); (try (clear hcl23 hcc23 hfr23 hM23)))); refine store_event (t := 43) (p := 51) (v := ?vo_w24) (w1 := ((wr.setCell ⟨go22, (x3_2 : Int).toNat * 2, none⟩ (.int .i64 ((rd_T43 y251 x5_2).f0))).setCell ⟨go22, (x3_2 : Int).toNat * 2 + 1, none⟩ (.int .i64 ((rd_T43 y251 x5_2).f1)))) ?hg ?ho ?hn ?hr ?_; (case ho => rfl); (case hg => rfl); (case hn => rfl); (case hr => first | (go_simp; done) | (go_simp; rfl)); intro w24 hw; have hg : wr.grownBy w24 (some go22) := (by rw [hw]; exact HP23.2); have hp_ : Kd.R k43 43 w24 w0.heap.size (fun k_ => (P0_ k_ ∨ w.heap.size ≤ k_)) (.slice (some ⟨go22, 0, none⟩) x0_2.length co4) y258 := (by rw [hw, Ny258.out]; exact HP23.1); clear HP23; replace HB := Aside0.mk ((by rw [hw]; exact below_set (below_set (HB.out) GB22.out) GB22.out : Below w0.heap.size w0 w24)); replace HK := Aside0.mk (Kept.of_grown (S := (fun k_ => P0_ k_)) hg (qK HK) (fun k_ e_ => (HO_0.out.1 k_ e_))); replace HO_0 := Aside0.mk (hp_); clear hg hw hp_)); try go_wp2_with (first | ((with_reducible refine gate_store (t := 43) (p := 51) rfl ?_); (try (rw [drewN_self wr]; generalize hq_ : World.drewN wr _ = wr; have n0_ := Aside0.mk (Kd.R_at hq_ HO_0.out); have n1_ := Aside0.mk (kept_at hq_ HK.out); have n2_ := Aside0.mk (below_at hq_ HB.out); clear hq_ HO_0 HK HB; have HO_0 := n0_; have HK := n1_; have HB := n2_; clear n0_ n1_ n2_; (try (have HX23 := Aside0.mk (show Kd.R k43 43 wr w0.heap.size (fun k_ => (P0_ k_ ∨ w.heap.size ≤ k_)) (.slice (some ⟨go22, 0, none⟩) x0_2.length co4) x0_2 from (qR HO_0.out)))); (try (obtain ⟨ce23, hcl23, hM23, hcc23, hfr23⟩ := Kd.R_elem HX23.out z43 (x3_2 : Int) qo (by have h_ : (x3_2 : Int) < ((x0_2.length : Int) : Int) := qo; first | exact h_ | (have e_ := (Kd.R_reads' HO_0.out).1; omega) | simpa using h_))); (try (obtain rfl := k43_openM hM23)); (try (have HP23 := Kd.R_seg HX23.out (x3_2 : Int) qo (by have h_ : (x3_2 : Int) < ((x0_2.length : Int) : Int) := qo; first | exact h_ | (have e_ := (Kd.R_reads' HO_0.out).1; omega) | simpa using h_) (seg := [.int .i64 ((rd_T43 y251 x5_2).f0), .int .i64 ((rd_T43 y251 x5_2).f1)]) (j := 0) hcl23 hcc23 (show 2 ≤ 2 from by decide) (x' := (⟨(rd_T43 y251 x5_2).f0, (rd_T43 y251 x5_2).f1⟩ : S43)) (k43_mkM _ _ _ (⟨(rd_T43 y251 x5_2).f0, (rd_T43 y251 x5_2).f1⟩ : S43) ) (fun _ hk => hk))); (try (have hx23_0 := hcc23 0 _ rfl)); (try (try simp only [show (k43).sz = 2 from rfl, Nat.mul_one, Nat.add_zero] at hx23_0)); (try (have hf23_0 := hfr23 0)); (try (try simp only [show (k43).sz = 2 from rfl, Nat.mul_one, Nat.add_zero] at hf23_0)); (try (have hx23_1 := hcc23 1 _ rfl)); (try (try simp only [show (k43).sz = 2 from rfl, Nat.mul_one, Nat.add_zero] at hx23_1)); (try (have hf23_1 := hfr23 1)); (try (try simp only [show (k43).sz = 2 from rfl, Nat.mul_one, Nat.add_zero] at hf23_1)); (try (clear hcl23 hcc23 hfr23 hM23)))); refine store_event (t := 43) (p := 51) (v := ?vo_w24) (w1 := ((wr.setCell ⟨go22, (x3_2 : Int).toNat * 2, none⟩ (.int .i64 ((rd_T43 y251 x5_2).f0))).setCell ⟨go22, (x3_2 : Int).toNat * 2 + 1, none⟩ (.int .i64 ((rd_T43 y251 x5_2).f1)))) ?hg ?ho ?hn ?hr ?_; (case ho => rfl); (case hg => rfl); (case hn => rfl); (case hr => first | (go_simp; done) | (go_simp; rfl)); intro w24 hw; have hg : wr.grownBy w24 (some go22) := (by rw [hw]; exact HP23.2); have hp_ : Kd.R k43 43 w24 w0.heap.size (fun k_ => (P0_ k_ ∨ w.heap.size ≤ k_)) (.slice (some ⟨go22, 0, none⟩) x0_2.length co4) y258 := (by rw [hw, Ny258.out]; exact HP23.1); clear HP23; replace HB := Aside0.mk ((by rw [hw]; exact below_set (below_set (HB.out) GB22.out) GB22.out : Below w0.heap.size w0 w24)); replace HK := Aside0.mk (Kept.of_grown (S := (fun k_ => P0_ k_)) hg (qK HK) (fun k_ e_ => (HO_0.out.1 k_ e_))); replace HO_0 := Aside0.mk (hp_); clear hg hw hp_)))
                                      (try simp only [← hl0_2])
                                      go_roundg k2
                                      case measure => have := HK1.out; have := HK2.out; omega
                                      case rel => exact ⟨(y258), (wrap64 (x3_2 + 1)), (wrap64 (x5_2 + 1)), qf, qf, H', ⟨by have := HK1.out; have := HK2.out; omega⟩, ⟨by (try simp only [hl0_1]); (try simp only [hl0_2]); (with_reducible repeat (first | apply Kd.R_alloc | apply Kd.R_drewN | apply Kd.R_drew)); exact HO_0.out⟩, ⟨qK HK⟩, ⟨qB⟩, ⟨by rw [CI.wrapb HT.out hbr_ hml_, CI.wrapa HT.out hbr_ hml_, Ny258.out]; exact CI.put HT.out hbr_ _⟩⟩
                                    · rw [if_neg c21] at H
                                      exact absurd H (by simp)
                                  · rw [if_neg c20] at H
                                    exact absurd H (by simp)
                                · rw [if_neg c19] at H
                                  have c19b0 : (!(((rd_T43 y251 x5_2).f0) == ((rd_T43 y251 (ji16)).f0)) || (!(((rd_T43 y251 x5_2).f1) == ((rd_T43 y251 (ji16)).f1)))) = false := by simpa using c19
                                  clear c19
                                  have H' := Aside0.mk H
                                  clear H
                                  have p255 : 0 ≤ (x5_2 : Int) := qo
                                  have q255 : x5_2 < (y251.length : Int) := qo
                                  obtain ⟨ad255, e255, hx255_0, hx255_1⟩ := at_T43 (CI.reads HT.out HO_0.out KA13.out) x5_2 p255 q255
                                  have hrd_ : rd_T43 (x0_2.drop (x3_1 : Int).toNat) x5_2 = rd_T43 y251 x5_2 := CI.rd HT.out _ _ (by have := HT.out.b1; have hj_ := IntWalk.wrap64_in (x5_2 - 1) ⟨by have := HT.out.b1; omega, by have h1_ := HT.out.bl; have h2_ := (Kd.R_reads' HO_0.out).2.2.2.1; have h3_ := HT.out.len; omega⟩; have hj2_ := hji16; omega) (by have := HT.out.b1; have hj_ := IntWalk.wrap64_in (x5_2 - 1) ⟨by have := HT.out.b1; omega, by have h1_ := HT.out.bl; have h2_ := (Kd.R_reads' HO_0.out).2.2.2.1; have h3_ := HT.out.len; omega⟩; have hj2_ := hji16; omega)
                                  rw [hrd_] at hx255_0 hx255_1
                                  clear hrd_
                                  cases e255
                                  replace p255 := eq_true p255
                                  replace q255 := eq_true q255
                                  have p256 : 0 ≤ ((ji16) : Int) := qo
                                  have q256 : (ji16) < (y251.length : Int) := qo
                                  obtain ⟨ad256, e256, hx256_0, hx256_1⟩ := at_T43 (CI.reads HT.out HO_0.out KA13.out) (ji16) p256 q256
                                  have hrd_ : rd_T43 (x0_2.drop (x3_1 : Int).toNat) (ji16) = rd_T43 y251 (ji16) := CI.rd HT.out _ _ (by have := HT.out.b1; have hj_ := IntWalk.wrap64_in (x5_2 - 1) ⟨by have := HT.out.b1; omega, by have h1_ := HT.out.bl; have h2_ := (Kd.R_reads' HO_0.out).2.2.2.1; have h3_ := HT.out.len; omega⟩; have hj2_ := hji16; omega) (by have := HT.out.b1; have hj_ := IntWalk.wrap64_in (x5_2 - 1) ⟨by have := HT.out.b1; omega, by have h1_ := HT.out.bl; have h2_ := (Kd.R_reads' HO_0.out).2.2.2.1; have h3_ := HT.out.len; omega⟩; have hj2_ := hji16; omega)
                                  rw [hrd_] at hx256_0 hx256_1
                                  clear hrd_
                                  obtain rfl : ad255 = ad256 := (by injection e256)
                                  replace p256 := eq_true p256
                                  replace q256 := eq_true q256
                                  go_wp2
                                  repeat (go_quiet (fail); try go_wp2)
                                  (try simp only [← hl0_2])
                                  go_roundg k2
                                  case measure => have := HK1.out; have := HK2.out; omega
                                  case rel => exact ⟨(x0_2), (x3_2), (wrap64 (x5_2 + 1)), qf, qf, H', ⟨by have := HK1.out; have := HK2.out; omega⟩, ⟨by (try simp only [hl0_1]); (try simp only [hl0_2]); (with_reducible repeat (first | apply Kd.R_alloc | apply Kd.R_drewN | apply Kd.R_drew)); exact HO_0.out⟩, ⟨qK HK⟩, ⟨qB⟩, ⟨by rw [CI.wrapb HT.out hbr_ hml_]; exact CI.skip HT.out hbr_⟩⟩
                              · rw [if_neg c18] at H
                                exact absurd H (by simp)
                            · rw [if_neg c17] at H
                              exact absurd H (by simp)
                          · rw [if_neg c15] at H
                            exact absurd H (by simp)
                        · rw [if_neg c14] at H
                          have c14b0 : decide (x5_2 < (y251.length : Int)) = false := decide_eq_false c14
                          clear c14
                          by_cases c25 : 0 ≤ x3_2
                          · rw [if_pos c25] at H
                            have c25b0 := eq_true c25
                            have c25b1 : decide (0 ≤ x3_2) = true := decide_eq_true c25
                            clear c25
                            by_cases c26 : x3_2 ≤ (x0_2.length : Int)
                            · rw [if_pos c26] at H
                              have c26b0 := eq_true c26
                              have c26b1 : decide (x3_2 ≤ (x0_2.length : Int)) = true := decide_eq_true c26
                              clear c26
                              obtain ⟨y259, hy259⟩ : ∃ y_ : List (S43), y_ = (x0_2.drop (x3_2 : Int).toNat) := ⟨_, rfl⟩
                              replace H : (some ((x0_2.take (x3_2 : Int).toNat ++ List.replicate y259.length z43).take (x3_2 : Int).toNat)) = some r := by first | (rw [hy259]; with_reducible exact H) | (have H2_ := (Option.bind_some _ _).symm.trans H; rw [hy259]; with_reducible exact H2_) | (have H2_ := (Option.bind_some _ _).symm.trans H; with_reducible exact H2_) | with_reducible exact H | (rw [hy259]; exact H) | exact H
                              have Ny259 := Aside0.mk hy259
                              clear hy259
                              obtain ⟨y263, hy263⟩ : ∃ y_ : List (S43), y_ = (x0_2.take (x3_2 : Int).toNat ++ List.replicate y259.length z43) := ⟨_, rfl⟩
                              replace H : (some (y263.take (x3_2 : Int).toNat)) = some r := by first | (rw [hy263]; with_reducible exact H) | (have H2_ := (Option.bind_some _ _).symm.trans H; rw [hy263]; with_reducible exact H2_) | (have H2_ := (Option.bind_some _ _).symm.trans H; with_reducible exact H2_) | with_reducible exact H | (rw [hy263]; exact H) | exact H
                              have Ny263 := Aside0.mk hy263
                              clear hy263
                              have c27b0 := eq_true (qo : x3_2 ≤ (x0_2.length : Int))
                              obtain ⟨y264, hy264⟩ : ∃ y_ : List (S43), y_ = (y263.take (x3_2 : Int).toNat) := ⟨_, rfl⟩
                              replace H : (some y264) = some r := by first | (rw [hy264]; with_reducible exact H) | (have H2_ := (Option.bind_some _ _).symm.trans H; rw [hy264]; with_reducible exact H2_) | (have H2_ := (Option.bind_some _ _).symm.trans H; with_reducible exact H2_) | with_reducible exact H | (rw [hy264]; exact H) | exact H
                              have Ny264 := Aside0.mk hy264
                              clear hy264
                              obtain rfl := Option.some.inj H
                              have q28 : (x3_2 : Int) ≤ ((x0_2.length : Int) : Int) := qo
                              obtain ⟨i028, hi028, _, hsz28, _⟩ := info_parts info43
                              have hroom28 : x0_2.length ≤ co4 := (Kd.R_reads' HO_0.out).2.1
                              have hC28 : Kd.C k43 _ (some ad249) x0_2.length x0_2 := (Kd.R_reads' HO_0.out).2.2
                              have q028 : (0 : Int) ≤ (x3_2 : Int) := qo
                              have hcut28 := cut_from (P := Try.prog) 84 43 .i64 Try.underlying84 hi028 2 hsz28 (some ad249) x0_2.length co4 x3_2 q028 q28
                              have hr28 := Kd.C_drop (m := (x3_2 : Int).toNat) (c := co4) hC28 (by omega) hroom28
                              obtain ⟨A28, hA28⟩ : ∃ A1, A1 = (if co4 = (x3_2 : Int).toNat then (some ad249) else ((some ad249) : Option Addr).map (·.add ((x3_2 : Int).toNat * 2))) := ⟨_, rfl⟩
                              obtain ⟨c28, hc28⟩ : ∃ c1, c1 = co4 - (x3_2 : Int).toNat := ⟨_, rfl⟩
                              have hy28 : y259.length = x0_2.length - (x3_2 : Int).toNat := (by rw [Ny259.out, List.length_drop] <;> omega)
                              rw [show (x0_2).drop (x3_2 : Int).toNat = y259 from Ny259.out.symm] at hr28
                              replace hr28 : Kd.C k43 _ A28 y259.length y259 := (by rw [hA28]; exact hr28)
                              rw [← hy28, ← hA28, ← hc28] at hcut28
                              have HR262 := Aside0.mk hr28
                              have HC262 := Aside0.mk (show y259.length ≤ c28 from by rw [hy28, hc28]; exact Nat.sub_le_sub_right hroom28 _)
                              clear hr28 hC28 hroom28 hi028 hsz28 hc28
                              have KY28 := Aside0.mk hy28
                              have KA28 := Aside0.mk hA28
                              clear hy28 hA28
                              have KL28 := Aside0.mk (show (x3_2 : Int).toNat ≤ x0_2.length from by omega)
                              replace q28 := eq_true q28
                              go_wp2_with (first | ((refine gate_builtin (b := .clear) (xs := #[.tmp 56]) rfl ?_); refine R_clear (d := k43) (e := 43) (base := w0.heap.size) (ok := (fun k_ => (P0_ k_ ∨ w.heap.size ≤ k_))) (w0 := w0) (z0 := z43) rfl (.tmp 56) 84 rfl Try.underlying84 (.agg #[(.int .i64 0), (.int .i64 0)]) 16 info43 rfl (by decide) (fun W_ => k43_mkM W_ w0.heap.size (fun _ => False) z43) (A := (some ad249)) (A1 := A28) (n := x0_2.length) (cap := co4) (k := (x3_2 : Int).toNat) (m := y259.length) (c2 := c28) (xs := x0_2) rfl (qR HO_0.out) (by have hn_ := (Kd.R_reads' HO_0.out).1; have hl_ := KL28.out; omega) KY28.out KA28.out qB (below_size qB) ?_; intro w29 ho hb hg; rw [← Ny263.out] at ho; replace HB := Aside0.mk (hb); replace HK := Aside0.mk (Kept.of_grown (S := (fun k_ => P0_ k_)) hg (qK HK) (fun k_ e_ => (HO_0.out.1 k_ e_))); replace HO_0 := Aside0.mk (ho); clear ho hb hg; have q30 : (x3_2 : Int) ≤ ((x0_2.length : Int) : Int) := qo; obtain ⟨i030, hi030, _, hsz30, _⟩ := info_parts info43; have hcut30 := cut_to (P := Try.prog) 84 43 .i64 Try.underlying84 hi030 (some ad249) x0_2.length co4 x3_2 qo q30 (Kd.R_reads' HO_0.out).2.1; have hr30 := Kd.R_take (m := (x3_2 : Int).toNat) HO_0.out (by have hh_ := (Kd.R_reads' HO_0.out).1; omega); have hy30 : y264.length = (x3_2 : Int).toNat := (by have hh_ := (Kd.R_reads' HO_0.out).1; rw [Ny264.out, List.length_take]; omega); rw [← Ny264.out] at hr30; rw [← hy30] at hr30 hcut30; clear hy30 hi030 hsz30 HO_0; have HO266 := Aside0.mk hr30; clear hr30; replace q30 := eq_true q30))
                              repeat (go_quiet (first | ((refine gate_builtin (b := .clear) (xs := #[.tmp 56]) rfl ?_); refine R_clear (d := k43) (e := 43) (base := w0.heap.size) (ok := (fun k_ => (P0_ k_ ∨ w.heap.size ≤ k_))) (w0 := w0) (z0 := z43) rfl (.tmp 56) 84 rfl Try.underlying84 (.agg #[(.int .i64 0), (.int .i64 0)]) 16 info43 rfl (by decide) (fun W_ => k43_mkM W_ w0.heap.size (fun _ => False) z43) (A := (some ad249)) (A1 := A28) (n := x0_2.length) (cap := co4) (k := (x3_2 : Int).toNat) (m := y259.length) (c2 := c28) (xs := x0_2) rfl (qR HO_0.out) (by have hn_ := (Kd.R_reads' HO_0.out).1; have hl_ := KL28.out; omega) KY28.out KA28.out qB (below_size qB) ?_; intro w29 ho hb hg; rw [← Ny263.out] at ho; replace HB := Aside0.mk (hb); replace HK := Aside0.mk (Kept.of_grown (S := (fun k_ => P0_ k_)) hg (qK HK) (fun k_ e_ => (HO_0.out.1 k_ e_))); replace HO_0 := Aside0.mk (ho); clear ho hb hg; have q30 : (x3_2 : Int) ≤ ((x0_2.length : Int) : Int) := qo; obtain ⟨i030, hi030, _, hsz30, _⟩ := info_parts info43; have hcut30 := cut_to (P := Try.prog) 84 43 .i64 Try.underlying84 hi030 (some ad249) x0_2.length co4 x3_2 qo q30 (Kd.R_reads' HO_0.out).2.1; have hr30 := Kd.R_take (m := (x3_2 : Int).toNat) HO_0.out (by have hh_ := (Kd.R_reads' HO_0.out).1; omega); have hy30 : y264.length = (x3_2 : Int).toNat := (by have hh_ := (Kd.R_reads' HO_0.out).1; rw [Ny264.out, List.length_take]; omega); rw [← Ny264.out] at hr30; rw [← hy30] at hr30 hcut30; clear hy30 hi030 hsz30 HO_0; have HO266 := Aside0.mk hr30; clear hr30; replace q30 := eq_true q30)); try go_wp2_with (first | ((refine gate_builtin (b := .clear) (xs := #[.tmp 56]) rfl ?_); refine R_clear (d := k43) (e := 43) (base := w0.heap.size) (ok := (fun k_ => (P0_ k_ ∨ w.heap.size ≤ k_))) (w0 := w0) (z0 := z43) rfl (.tmp 56) 84 rfl Try.underlying84 (.agg #[(.int .i64 0), (.int .i64 0)]) 16 info43 rfl (by decide) (fun W_ => k43_mkM W_ w0.heap.size (fun _ => False) z43) (A := (some ad249)) (A1 := A28) (n := x0_2.length) (cap := co4) (k := (x3_2 : Int).toNat) (m := y259.length) (c2 := c28) (xs := x0_2) rfl (qR HO_0.out) (by have hn_ := (Kd.R_reads' HO_0.out).1; have hl_ := KL28.out; omega) KY28.out KA28.out qB (below_size qB) ?_; intro w29 ho hb hg; rw [← Ny263.out] at ho; replace HB := Aside0.mk (hb); replace HK := Aside0.mk (Kept.of_grown (S := (fun k_ => P0_ k_)) hg (qK HK) (fun k_ e_ => (HO_0.out.1 k_ e_))); replace HO_0 := Aside0.mk (ho); clear ho hb hg; have q30 : (x3_2 : Int) ≤ ((x0_2.length : Int) : Int) := qo; obtain ⟨i030, hi030, _, hsz30, _⟩ := info_parts info43; have hcut30 := cut_to (P := Try.prog) 84 43 .i64 Try.underlying84 hi030 (some ad249) x0_2.length co4 x3_2 qo q30 (Kd.R_reads' HO_0.out).2.1; have hr30 := Kd.R_take (m := (x3_2 : Int).toNat) HO_0.out (by have hh_ := (Kd.R_reads' HO_0.out).1; omega); have hy30 : y264.length = (x3_2 : Int).toNat := (by have hh_ := (Kd.R_reads' HO_0.out).1; rw [Ny264.out, List.length_take]; omega); rw [← Ny264.out] at hr30; rw [← hy30] at hr30 hcut30; clear hy30 hi030 hsz30 HO_0; have HO266 := Aside0.mk hr30; clear hr30; replace q30 := eq_true q30)))
                              go_ret
                              exact ⟨_, by first | rfl | (simp [errW_none, errW_some] <;> rfl) | (simp only [← hji7]; first | rfl | (simp [errW_none, errW_some] <;> rfl)) | (simp [*, errW_none, errW_some] <;> rfl), by (with_reducible repeat (first | apply Kd.R_alloc | apply Kd.R_drewN | apply Kd.R_drew)); exact HO266.out, qB, qK HK⟩
                            · rw [if_neg c26] at H
                              exact absurd H (by simp)
                          · rw [if_neg c25] at H
                            exact absurd H (by simp)
                  · rw [if_neg c12] at H
                    exact absurd H (by simp)
                · rw [if_neg c10] at H
                  have c10b0 : (((rd_T43 x0_1 x3_1).f0) == ((rd_T43 x0_1 (ji7)).f0) && (((rd_T43 x0_1 x3_1).f1) == ((rd_T43 x0_1 (ji7)).f1))) = false := by simpa using c10
                  (try (have c10b1 : decide (((rd_T43 x0_1 x3_1).f0) = ((rd_T43 x0_1 (ji7)).f0) && (((rd_T43 x0_1 x3_1).f1) == ((rd_T43 x0_1 (ji7)).f1))) = false := by simpa using c10))
                  (try (have c10b2 : (((rd_T43 x0_1 x3_1).f0) == ((rd_T43 x0_1 (ji7)).f0) && (((rd_T43 x0_1 x3_1).f1) == ((rd_T43 x0_1 (ji7)).f1))) = false := by simpa using c10))
                  (try (have c10b3 : ¬ (((rd_T43 x0_1 x3_1).f0) = ((rd_T43 x0_1 (ji7)).f0) && (((rd_T43 x0_1 x3_1).f1) == ((rd_T43 x0_1 (ji7)).f1))) := by simpa using c10))
                  clear c10
                  have H' := Aside0.mk H
                  clear H
                  have p249 : 0 ≤ (x3_1 : Int) := qo
                  have q249 : x3_1 < (x0_1.length : Int) := qo
                  obtain ⟨ad249, e249, hx249_0, hx249_1⟩ := at_T43 (Kd.R_reads' HO_0.out).2.2 x3_1 p249 q249
                  cases e249
                  replace p249 := eq_true p249
                  replace q249 := eq_true q249
                  have p250 : 0 ≤ ((ji7) : Int) := qo
                  have q250 : (ji7) < (x0_1.length : Int) := qo
                  obtain ⟨ad250, e250, hx250_0, hx250_1⟩ := at_T43 (Kd.R_reads' HO_0.out).2.2 (ji7) p250 q250
                  obtain rfl : ad249 = ad250 := (by injection e250)
                  replace p250 := eq_true p250
                  replace q250 := eq_true q250
                  go_wp2
                  repeat (go_quiet (fail); try go_wp2)
                  (try simp only [← hl0_1])
                  go_roundg k1
                  case measure => have := HK1.out; omega
                  case rel => exact ⟨(x0_1), (wrap64 (x3_1 + 1)), qf, H', ⟨by have := HK1.out; omega⟩, ⟨by (try simp only [hl0_1]); (with_reducible repeat (first | apply Kd.R_alloc | apply Kd.R_drewN | apply Kd.R_drew)); exact HO_0.out⟩, ⟨qK HK⟩, ⟨qB⟩⟩
              · rw [if_neg c9] at H
                exact absurd H (by simp)
            · rw [if_neg c8] at H
              exact absurd H (by simp)
          · rw [if_neg c6] at H
            exact absurd H (by simp)
        · rw [if_neg c5] at H
          have c5b0 : decide (x3_1 < (x0_1.length : Int)) = false := decide_eq_false c5
          clear c5
          obtain rfl := Option.some.inj H
          go_wp2
          repeat (go_quiet (fail); try go_wp2)
          go_ret
          exact ⟨_, qF, by (with_reducible repeat (first | apply Kd.R_alloc | apply Kd.R_drewN | apply Kd.R_drew)); exact HO_0.out, qB, qK HK⟩

def SortFunc56_impl_compareVecs.key (x : S43) : List Int := [x.f0, x.f1]
def SortFunc56_impl_compareVecs.enc (x : S43) : List Value := [.int .i64 x.f0, .int .i64 x.f1]
instance : Inhabited S43 := ⟨⟨0, 0⟩⟩
theorem SortFunc56_impl_compareVecs.one (x : S43) : ∀ v ∈ SortFunc56_impl_compareVecs.enc x, v.oneCell' = true := by
  intro v hv
  simp only [SortFunc56_impl_compareVecs.enc, List.mem_cons, List.not_mem_nil, or_false] at hv
  rcases hv with rfl | rfl <;> rfl
theorem SortFunc56_impl_compareVecs.inj (x y : S43) (h : SortFunc56_impl_compareVecs.key x = SortFunc56_impl_compareVecs.key y) : x = y := by
  cases x
  cases y
  simp only [SortFunc56_impl_compareVecs.key, List.cons.injEq, and_true] at h
  obtain ⟨rfl, rfl⟩ := h
  rfl
theorem impl_compareVecs.lex (k : Nat) (a b c d : Int) : impl_compareVecs.f (k + 3) a b c d = some (lexI [a, b] [c, d]) := by
  simp only [impl_compareVecs.f, impl_compareNumbers.f, impl_compareNumbers.l0, lexI, rd, wrap64]
  by_cases h1 : a = c <;> by_cases h2 : b = d <;> by_cases h3 : a < c <;> by_cases h4 : b < d <;> simp [h1, h2, h3, h4]
set_option maxHeartbeats 4000000 in
set_option maxRecDepth 100000 in
theorem SortFunc56_impl_compareVecs.lays (w : World) (x y : S43) : Calls Try.prog 57 #[.agg (SortFunc56_impl_compareVecs.enc x).toArray, .agg (SortFunc56_impl_compareVecs.enc y).toArray] w fun e w' => e = .returned (.int .i64 (lexI (SortFunc56_impl_compareVecs.key x) (SortFunc56_impl_compareVecs.key y))) ∧ ∃ q os', w' = Go.Sort.grow (w.drewN q) os' := by
  obtain ⟨a0_0, a0_1⟩ := x
  obtain ⟨a1_0, a1_1⟩ := y
  simp only [SortFunc56_impl_compareVecs.enc, SortFunc56_impl_compareVecs.key]
  have h := impl_compareVecs.lex 0 a0_0 a0_1 a1_0 a1_1
  generalize lexI [a0_0, a0_1] [a1_0, a1_1] = r at h ⊢
  have hcon : ∀ os : Array Obj, os.size = 2 → Calls Try.prog 64 #[Value.slice (some { block := w.heap.size + 1 + 1, off := 0 }) 2 2, Value.slice (some { block := w.heap.size + 1 + 1 + 1, off := 0 }) 2 2]
      (Go.Sort.grow w (os ++ #[Obj.cells #[Value.int IntKind.i64 a0_0, Value.int IntKind.i64 a0_1] 2, Obj.cells #[Value.int IntKind.i64 a1_0, Value.int IntKind.i64 a1_1] 2])) fun e w' => e = .returned (.int .i64 r) ∧ ∃ q os', w' = Go.Sort.grow (w.drewN q) os' := by
    intro os hos
    have h' : impl_compareNumbers.f 3 [a0_0, a0_1] [a1_0, a1_1] = some r := by
      unfold impl_compareVecs.f at h
      cases e : impl_compareNumbers.f 3 [a0_0, a0_1] [a1_0, a1_1] with
      | none => rw [e] at h; cases h
      | some x => rw [e] at h; exact h
    refine (impl_compareNumbers.calls 3 _ 2 [a0_0, a0_1] _ 2 [a1_0, a1_1] r _ (C_blk [a0_0, a0_1] (t := 2) (below_grow_at w _ 2 _ ?_) (by simp)) (by simp) (C_blk [a1_0, a1_1] (t := 2) (below_grow_at w _ 3 _ ?_) (by simp)) (by simp) h').mono ?_
    · rw [Array.getElem?_append_right (by omega), hos]; rfl
    · rw [Array.getElem?_append_right (by omega), hos]; rfl
    · rintro e w' ⟨rfl, ⟨n, rfl⟩⟩
      exact ⟨rfl, n, _, rfl⟩
  have hc := hcon #[Obj.cells #[Value.int IntKind.i64 a0_0, Value.int IntKind.i64 a0_1] 43, Obj.cells #[Value.int IntKind.i64 a1_0, Value.int IntKind.i64 a1_1] 43] rfl
  clear hcon h
  have hW : ∀ a b c d : Obj, Go.Sort.grow w (#[a, b] ++ #[c, d]) = (((w.alloc a).alloc b).alloc c).alloc d := fun a b c d => by
    simp only [Go.Sort.alloc_eq_grow, Go.Sort.grow_grow]
    rfl
  rw [hW] at hc
  go_enter Try.func57, Try.ntmps57
  go_wp2_with (go_at_fn 64; skip)
  refine hc.mono ?_
  rintro e w1 ⟨rfl, q, os1, rfl⟩
  go_wp2
  go_ret
  exact ⟨rfl, q, os1, rfl⟩
def SortFunc56_impl_compareVecs.f (l0 : List S43) : Option (List S43) := if l0.length < 4611686018427387904 then some (l0.mergeSort fun x y => !(Go.Proofs.ltOf fun x y => lexI (SortFunc56_impl_compareVecs.key x) (SortFunc56_impl_compareVecs.key y)) y x) else none
set_option maxHeartbeats 4000000 in
theorem SortFunc56_impl_compareVecs.calls (P0_ : Nat → Prop) (u9000_ : Value) (l0 : List S43) (r : List S43) (w0 w : World) (hB : Below w0.heap.size w0 w) (ho0 : Kd.R k43 43 w w0.heap.size P0_ u9000_ l0) (h : SortFunc56_impl_compareVecs.f l0 = some r) :
    Calls Try.prog 56 #[u9000_, .func (.func 57) #[] #[]] w fun e w' => e = .returned (.tuple #[]) ∧ Kd.R k43 43 w' w0.heap.size (fun k_ => (P0_ k_ ∨ w.heap.size ≤ k_)) u9000_ r ∧ Below w0.heap.size w0 w' ∧ Kept w w' (fun k_ => P0_ k_) := by
  unfold SortFunc56_impl_compareVecs.f at h
  split at h
  case isFalse => cases h
  rename_i hl
  injection h with h
  subst h
  have hk : ∀ x y : S43, (SortFunc56_impl_compareVecs.key x).length = (SortFunc56_impl_compareVecs.key y).length := fun _ _ => rfl
  exact R_sortFunc (d := k43) Try.sort56 Try.isAgg43 Try.sizeOf43 (enc := SortFunc56_impl_compareVecs.enc) (fun b W x => k43_mkM W b (fun _ => False) x) (fun h => k43_openM h) (fun _ => rfl) SortFunc56_impl_compareVecs.one (fun x y => lexI (SortFunc56_impl_compareVecs.key x) (SortFunc56_impl_compareVecs.key y)) (lexI_swo SortFunc56_impl_compareVecs.key hk) (lexI_anti SortFunc56_impl_compareVecs.key hk SortFunc56_impl_compareVecs.inj) 57 (enters_of Try.func57 (by kernel_rfl) rfl) SortFunc56_impl_compareVecs.lays P0_ u9000_ l0 w0 w hB ho0 hl

end Go.Proofs.Ytoajccbmikmjdaa.X

-- PRINTED by print.py (a twelfth state) out of the translation. Not trusted: Lean checks it.
import Derived.Test.YtoajccbmikmjdaaXQ
import Derived.Test.YtoajccbmikmjdaaX0
namespace Go.Proofs.Ytoajccbmikmjdaa.X
open Go.RowKit Go.Proofs.YtoajccbmikmjdaaX Go.Proofs.YtoajccbmikmjdaaW.PrintWords Go.Proofs.YtoajccbmikmjdaaW.PrintLast Go.Proofs.YtoajccbmikmjdaaW.PrintMore
attribute [local go_sem] max2_int min2_int max_two min_two max_three min_three max_four min_four   -- for this text's walks alone
set_option linter.unusedVariables false
set_option linter.unusedSimpArgs false

def impl_Lattice_42.l0 : Nat → List (S25) → (Int → Int → Int → Option (Bool)) → Int → Int → Option (Int)
  | 0, _, _, _, _ => none
  | k + 1, x0, x1, x7, x8 => if x8 < x7 then (if 0 ≤ x8 then (if x8 < (x0.length : Int) then ((x1 ((rd_T25 x0 x8).f0) ((rd_T25 x0 x8).f1) ((rd_T25 x0 x8).f2)).bind fun t180 => (if t180 = true then (some x8) else (impl_Lattice_42.l0 k x0 x1 x7 (wrap64 (x8 + 1))))) else (none)) else (none)) else (some (-1))
def impl_Lattice_42.f (k : Nat) (l0 : List (S25)) (a1 : (Int → Int → Int → Option (Bool))) : Option (Int) := impl_Lattice_42.l0 k l0 a1 (l0.length : Int) 0
set_option maxHeartbeats 8000000 in
set_option maxRecDepth 100000 in
theorem impl_Lattice_42.calls (k : Nat) (A0 : Option Addr) (c0 : Nat) (l0 : List (S25)) (gf_ : Nat) (lb_ : Array Value) (a1 : (Int → Int → Int → Option (Bool))) (r : Int) (w : World) (hr0 : Kd.C k25 w A0 l0.length l0) (hc0 : l0.length ≤ c0) (hq_ : ∀ (W_ : World) (e0_ : Int) (e1_ : Int) (e2_ : Int) (r_ : Bool), Below w.heap.size w W_ → a1 e0_ e1_ e2_ = some r_ → Calls Try.prog gf_ (#[.agg #[.int .i64 e0_, .int .i64 e1_, .int .i64 e2_]] ++ lb_) W_ fun e w' => e = .returned (.bool r_) ∧ Below W_.heap.size W_ w') (eg_ : ∀ args w, (callFunc gf_ args).run Try.prog w = .ok (.enter gf_ args) w) (h : impl_Lattice_42.f k l0 a1 = some r) :
    Calls Try.prog 42 #[.slice A0 l0.length c0, .func (.func gf_) #[] lb_] w fun e w' => e = .returned (.int .i64 r) ∧ Below w.heap.size w w' := by
  have hu25 := Try.underlying25
  have HR0 := Aside0.mk hr0
  have HC0 := Aside0.mk hc0
  clear hr0 hc0
  have HQ_ := Aside0.mk hq_
  clear hq_
  have HB := Aside0.mk (Below.refl w.heap.size w)
  have H : (impl_Lattice_42.l0 k l0 a1 (l0.length : Int) 0) = some r := h
  clear h
  have H' := Aside0.mk H
  clear H
  go_enter Try.func42, Try.ntmps42
  go_wp2
  go_loopg [8] k (fun kq v8 w' => ∃ (x8_1 : Int), v8 = .int .i64 x8_1 ∧ Aside0 (impl_Lattice_42.l0 kq l0 a1 (l0.length : Int) x8_1 = some r) ∧ Aside0 (kq ≤ k) ∧ Aside0 (Below w.heap.size w w'))
  case atStart => exact ⟨(0), qf, H', ⟨Nat.le_refl _⟩, ⟨qB⟩⟩
  case round =>
    clear H'
    try clear p2
    obtain ⟨x8_1, rfl, HA, HK1, HB⟩ := hrel
    cases gk with
    | zero => exact absurd HA.out (by simp [impl_Lattice_42.l0])
    | succ k1 =>
      have H := HA.out
      clear HA
      simp only [impl_Lattice_42.l0] at H
      by_cases c3 : x8_1 < (l0.length : Int)
      · rw [if_pos c3] at H
        have c3b0 : decide (x8_1 < (l0.length : Int)) = true := decide_eq_true c3
        clear c3
        by_cases c4 : 0 ≤ x8_1
        · rw [if_pos c4] at H
          have c4b0 : decide (0 ≤ x8_1) = true := decide_eq_true c4
          clear c4
          by_cases c5 : x8_1 < (l0.length : Int)
          · rw [if_pos c5] at H
            have c5b0 : decide (x8_1 < (l0.length : Int)) = true := decide_eq_true c5
            clear c5
            replace H := qbd H
            obtain ⟨t180, A6, H⟩ := H
            try dsimp only at H
            by_cases c7 : t180 = true
            · subst c7
              have H1 : (some x8_1) = some r := by rw [if_pos rfl] at H; exact H
              clear H
              have H := H1
              clear H1
              obtain rfl := Option.some.inj H
              have p179 : 0 ≤ (x8_1 : Int) := qo
              have q179 : x8_1 < (l0.length : Int) := qo
              obtain ⟨ad179, e179, hx179_0, hx179_1, hx179_2⟩ := at_T25 HR0.out x8_1 p179 q179
              cases e179
              replace hx179_0 := (HB.out.cell (World.block_lt_of_cell? w _ hx179_0)).trans hx179_0
              replace hx179_1 := (HB.out.cell (World.block_lt_of_cell? w _ hx179_1)).trans hx179_1
              replace hx179_2 := (HB.out.cell (World.block_lt_of_cell? w _ hx179_2)).trans hx179_2
              replace p179 := eq_true p179
              replace q179 := eq_true q179
              go_wp2_with (first | (go_at_fn gf_; (refine (HQ_.out _ ((rd_T25 l0 x8_1).f0) ((rd_T25 l0 x8_1).f1) ((rd_T25 l0 x8_1).f2) true qB A6.out).mono ?_); rintro e w8 ⟨rfl, hb⟩; replace HB := qbs HB hb; (try clear hb)))
              go_ret
              exact ⟨qF, qB⟩
            · replace c7 := Bool.eq_false_iff.mpr c7
              subst c7
              have H1 : (impl_Lattice_42.l0 k1 l0 a1 (l0.length : Int) (wrap64 (x8_1 + 1))) = some r := by rw [if_neg (show ¬ (false = true) by decide)] at H; exact H
              clear H
              have H := H1
              clear H1
              have H' := Aside0.mk H
              clear H
              have p179 : 0 ≤ (x8_1 : Int) := qo
              have q179 : x8_1 < (l0.length : Int) := qo
              obtain ⟨ad179, e179, hx179_0, hx179_1, hx179_2⟩ := at_T25 HR0.out x8_1 p179 q179
              cases e179
              replace hx179_0 := (HB.out.cell (World.block_lt_of_cell? w _ hx179_0)).trans hx179_0
              replace hx179_1 := (HB.out.cell (World.block_lt_of_cell? w _ hx179_1)).trans hx179_1
              replace hx179_2 := (HB.out.cell (World.block_lt_of_cell? w _ hx179_2)).trans hx179_2
              replace p179 := eq_true p179
              replace q179 := eq_true q179
              go_wp2_with (first | (go_at_fn gf_; (refine (HQ_.out _ ((rd_T25 l0 x8_1).f0) ((rd_T25 l0 x8_1).f1) ((rd_T25 l0 x8_1).f2) false qB A6.out).mono ?_); rintro e w9 ⟨rfl, hb⟩; replace HB := qbs HB hb; (try clear hb)))
              go_roundg k1
              case measure => have := HK1.out; omega
              case rel => exact ⟨(wrap64 (x8_1 + 1)), qf, H', ⟨by have := HK1.out; omega⟩, ⟨qB⟩⟩
          · rw [if_neg c5] at H
            exact absurd H (by simp)
        · rw [if_neg c4] at H
          exact absurd H (by simp)
      · rw [if_neg c3] at H
        have c3b0 : decide (x8_1 < (l0.length : Int)) = false := decide_eq_false c3
        clear c3
        obtain rfl := Option.some.inj H
        go_wp2
        go_ret
        exact ⟨qF, qB⟩

def impl_Lattice_34.l0 : Nat → List (S25) → (Int → Int → Int → Option (Bool)) → Int → Int → Option ((List (S25)))
  | 0, _, _, _, _ => none
  | k + 1, x0, x1, x5, x6 => if x6 < (x0.length : Int) then (if 0 ≤ x6 then ((x1 ((rd_T25 x0 x6).f0) ((rd_T25 x0 x6).f1) ((rd_T25 x0 x6).f2)).bind fun t184 => (if t184 = true then (impl_Lattice_34.l0 k x0 x1 x5 (wrap64 (x6 + 1))) else (if 0 ≤ x5 then (if x5 < (x0.length : Int) then (impl_Lattice_34.l0 k (x0.set (x5 : Int).toNat (⟨(rd_T25 x0 x6).f0, (rd_T25 x0 x6).f1, (rd_T25 x0 x6).f2⟩ : S25)) x1 (wrap64 (x5 + 1)) (wrap64 (x6 + 1))) else (none)) else (none)))) else (none)) else (if 0 ≤ x5 then (if x5 ≤ (x0.length : Int) then (some ((x0.take (x5 : Int).toNat ++ List.replicate (x0.drop (x5 : Int).toNat).length z25).take (x5 : Int).toNat)) else (none)) else (none))
def impl_Lattice_34.f (k : Nat) (l0 : List (S25)) (a1 : (Int → Int → Int → Option (Bool))) : Option ((List (S25))) := (impl_Lattice_42.f k l0 a1).bind fun t181 => (if t181 = (-1) then (some l0) else (impl_Lattice_34.l0 k l0 a1 t181 (wrap64 (t181 + 1))))
set_option maxHeartbeats 8000000 in
set_option maxRecDepth 100000 in
theorem impl_Lattice_34.calls (k : Nat) (P0_ : Nat → Prop) (u9000_ : Value) (l0 : List (S25)) (gf_ : Nat) (lb_ : Array Value) (a1 : (Int → Int → Int → Option (Bool))) (r : List (S25)) (w0 w : World) (hB : Below w0.heap.size w0 w) (ho0 : Kd.R k25 25 w w0.heap.size P0_ u9000_ l0) (hq_ : ∀ (W_ : World) (e0_ : Int) (e1_ : Int) (e2_ : Int) (r_ : Bool), Kept w W_ (fun k_ => P0_ k_) → a1 e0_ e1_ e2_ = some r_ → Calls Try.prog gf_ (#[.agg #[.int .i64 e0_, .int .i64 e1_, .int .i64 e2_]] ++ lb_) W_ fun e w' => e = .returned (.bool r_) ∧ Below W_.heap.size W_ w') (eg_ : ∀ args w, (callFunc gf_ args).run Try.prog w = .ok (.enter gf_ args) w) (h : impl_Lattice_34.f k l0 a1 = some r) :
    Calls Try.prog 34 #[u9000_, .func (.func gf_) #[] lb_] w fun e w' => ∃ v0_ : Value, e = .returned (v0_) ∧ Kd.R k25 25 w' w0.heap.size (fun k_ => (P0_ k_ ∨ w.heap.size ≤ k_)) v0_ r ∧ Below w0.heap.size w0 w' ∧ Kept w w' (fun k_ => P0_ k_) := by
  have hu25 := Try.underlying25
  have HO0 := Aside0.mk (show Kd.R k25 25 w w0.heap.size (fun k_ => (P0_ k_ ∨ w.heap.size ≤ k_)) u9000_ l0 from Kd.R_mono ho0 (fun k_ hk => (.inl hk)))
  have HQ_ := Aside0.mk hq_
  clear hq_
  have HK := Aside0.mk (Kept.refl w (fun k_ => P0_ k_))
  have HW0 := Aside0.mk hB.size
  have HB := Aside0.mk hB
  clear hB
  have H : ((impl_Lattice_42.f k l0 a1).bind fun t181 => (if t181 = (-1) then (some l0) else (impl_Lattice_34.l0 k l0 a1 t181 (wrap64 (t181 + 1))))) = some r := h
  clear h
  replace H := qbd H
  obtain ⟨t181, A3, H⟩ := H
  try dsimp only at H
  by_cases c4 : t181 = (-1)
  · rw [if_pos c4] at H
    have c4b0 : (t181 == (-1)) = true := beq_iff_eq.mpr c4
    have c4b1 : (t181 != (-1)) = false := bne_eq_false_iff_eq.mpr c4
    clear c4
    obtain rfl := Option.some.inj H
    obtain ⟨Ao5, co5, eo5⟩ := Kd.R_slice HO0.out
    subst eo5
    go_enter Try.func34, Try.ntmps34
    go_wp2_with (first | ((with_reducible refine gate_callee (f := 42) rfl ?_); refine qgl (some 10) Try.func42 #[.slice Ao5 l0.length co5, .func (.func gf_) #[] lb_] ?_; (with_reducible refine (impl_Lattice_42.calls k _ _ l0 gf_ lb_ a1 t181 _ (qC ((Kd.R_reads' HO0.out).2.2)) ((Kd.R_reads' HO0.out).2.1) ?side3 eg_ A3.out).mono ?_); (case side3 => exact fun W_ e0_ e1_ e2_ r_ hb_ h_ => HQ_.out W_ e0_ e1_ e2_ r_ (Kept.below (S := (fun k_ => P0_ k_)) (qK HK) hb_) h_); rintro e w6 ⟨rfl, hb⟩; refine ⟨_, rfl, ?_⟩; replace HO0 := Aside0.mk (Kd.R_below (qR HO0.out) hb); replace HK := Aside0.mk (Kept.below (S := (fun k_ => P0_ k_)) (qK HK) hb); replace HB := qbs HB hb; (try clear hb)))
    go_ret
    exact ⟨_, qF, by (with_reducible repeat (first | apply Kd.R_alloc | apply Kd.R_drewN | apply Kd.R_drew)); exact HO0.out, qB, qK HK⟩
  · rw [if_neg c4] at H
    have c4b0 : (t181 == (-1)) = false := beq_eq_false_iff_ne.mpr c4
    have c4b1 : (t181 != (-1)) = true := bne_iff_ne.mpr c4
    have H' := Aside0.mk H
    clear H
    obtain ⟨Ao7, co7, eo7⟩ := Kd.R_slice HO0.out
    subst eo7
    go_enter Try.func34, Try.ntmps34
    go_wp2_with (first | ((with_reducible refine gate_callee (f := 42) rfl ?_); refine qgl (some 10) Try.func42 #[.slice Ao7 l0.length co7, .func (.func gf_) #[] lb_] ?_; (with_reducible refine (impl_Lattice_42.calls k _ _ l0 gf_ lb_ a1 t181 _ (qC ((Kd.R_reads' HO0.out).2.2)) ((Kd.R_reads' HO0.out).2.1) ?side3 eg_ A3.out).mono ?_); (case side3 => exact fun W_ e0_ e1_ e2_ r_ hb_ h_ => HQ_.out W_ e0_ e1_ e2_ r_ (Kept.below (S := (fun k_ => P0_ k_)) (qK HK) hb_) h_); rintro e w8 ⟨rfl, hb⟩; refine ⟨_, rfl, ?_⟩; replace HO0 := Aside0.mk (Kd.R_below (qR HO0.out) hb); replace HK := Aside0.mk (Kept.below (S := (fun k_ => P0_ k_)) (qK HK) hb); replace HB := qbs HB hb; (try clear hb)))
    go_loopg [5, 6] k (fun kq v5 v6 w' => ∃ (x0_1 : List (S25)) (x5_1 : Int) (x6_1 : Int), v5 = .int .i64 x5_1 ∧ v6 = .int .i64 x6_1 ∧ Aside0 (impl_Lattice_34.l0 kq x0_1 a1 x5_1 x6_1 = some r) ∧ Aside0 (kq ≤ k) ∧ Aside0 (Kd.R k25 25 w' w0.heap.size (fun k_ => (P0_ k_ ∨ w.heap.size ≤ k_)) (.slice Ao7 l0.length co7) x0_1) ∧ Aside0 (Kept w w' (fun k_ => P0_ k_)) ∧ Aside0 (Below w0.heap.size w0 w'))
    case atStart => exact ⟨(l0), (t181), (wrap64 (t181 + 1)), qf, qf, H', ⟨Nat.le_refl _⟩, ⟨by (with_reducible repeat (first | apply Kd.R_alloc | apply Kd.R_drewN | apply Kd.R_drew)); exact HO0.out⟩, ⟨qK HK⟩, ⟨qB⟩⟩
    case round =>
      clear H'
      try clear p2
      try clear c3
      try clear c4
      try clear c4b0
      try clear c4b1
      try clear p6
      obtain ⟨x0_1, x5_1, x6_1, rfl, rfl, HA, HK1, HO_0, HK, HB⟩ := hrel
      have hl0_1 := (Kd.R_reads' HO_0.out).1
      rw [hl0_1] at HO_0
      (try simp only [hl0_1])
      cases gk with
      | zero => exact absurd HA.out (by simp [impl_Lattice_34.l0])
      | succ k1 =>
        have H := HA.out
        clear HA
        simp only [impl_Lattice_34.l0] at H
        by_cases c9 : x6_1 < (x0_1.length : Int)
        · rw [if_pos c9] at H
          have c9b0 : decide (x6_1 < (x0_1.length : Int)) = true := decide_eq_true c9
          clear c9
          by_cases c10 : 0 ≤ x6_1
          · rw [if_pos c10] at H
            have c10b0 : decide (0 ≤ x6_1) = true := decide_eq_true c10
            clear c10
            replace H := qbd H
            obtain ⟨t184, A11, H⟩ := H
            try dsimp only at H
            by_cases c12 : t184 = true
            · subst c12
              have H1 : (impl_Lattice_34.l0 k1 x0_1 a1 x5_1 (wrap64 (x6_1 + 1))) = some r := by rw [if_pos rfl] at H; exact H
              clear H
              have H := H1
              clear H1
              have H' := Aside0.mk H
              clear H
              have p182 : 0 ≤ (x6_1 : Int) := qo
              have q182 : x6_1 < (x0_1.length : Int) := qo
              obtain ⟨ad182, e182, hx182_0, hx182_1, hx182_2⟩ := at_T25 (Kd.R_reads' HO_0.out).2.2 x6_1 p182 q182
              cases e182
              replace p182 := eq_true p182
              replace q182 := eq_true q182
              go_wp2_with (first | ((with_reducible refine gate_dst (N := 7) rfl ?_); refine qbx 7 25 #[.int .i64 0, .int .i64 0, .int .i64 0] ?_; intro gb183 hg w13 hbox hb; replace HO_0 := Aside0.mk (Kd.R_below (Kd.R_elderB (qR HO_0.out) gb183 (Nat.le_of_eq hg.symm)) hb); have BK183 := Aside0.mk (hbox); have GW183 := Aside0.mk ((by rw [hg]; exact (by first | exact HK.out.1 | exact (show Kept w _ (fun k_ => P0_ k_) from qK HK).1) : w.heap.size ≤ gb183)); replace HK := Aside0.mk (Kept.below (S := (fun k_ => P0_ k_)) (qK HK) hb); have GE183 := qgs HB hg; replace HB := qbs HB hb; clear hb hbox hg; have hcz14_0 := qc0 BK183; have hcz14_1 := qc1 BK183; have hcz14_2 := qc2 BK183; have hfz14_0 := blk_frozen BK183.out 0; have hfz14_1 := blk_frozen BK183.out 1; have hfz14_2 := blk_frozen BK183.out 2) | (go_at_fn gf_; (refine (HQ_.out _ ((rd_T25 x0_1 x6_1).f0) ((rd_T25 x0_1 x6_1).f1) ((rd_T25 x0_1 x6_1).f2) true (qK HK) A11.out).mono ?_); rintro e w15 ⟨rfl, hb⟩; replace HO_0 := Aside0.mk (Kd.R_below (qR (Kd.R_mono (Kd.R_far (p := ⟨gb183, 2, none⟩) (Kd.R_far (p := ⟨gb183, 1, none⟩) (Kd.R_far (p := ⟨gb183, 0, none⟩) (Kd.R_mono HO_0.out (fun k_ hk => (⟨hk, hk.2⟩ : _ ∧ k_ ≠ gb183))) (fun _ hk => hk.2) (.int .i64 ((rd_T25 x0_1 x6_1).f0))) (fun _ hk => hk.2) (.int .i64 ((rd_T25 x0_1 x6_1).f1))) (fun _ hk => hk.2) (.int .i64 ((rd_T25 x0_1 x6_1).f2))) (fun _ h_ => h_.1))) hb); replace BK183 := qbq (g := gb183) (o := .cells #[.int .i64 ((rd_T25 x0_1 x6_1).f0), .int .i64 ((rd_T25 x0_1 x6_1).f1), .int .i64 ((rd_T25 x0_1 x6_1).f2)] 25 (0, 0)) hb; replace HK := Aside0.mk (Kept.below (S := (fun k_ => P0_ k_)) (qK HK) hb); replace HB := qbs HB hb; (try clear hb); (try clear hk)))
              (try simp only [← hl0_1])
              go_roundg k1
              case measure => have := HK1.out; omega
              case rel => exact ⟨(x0_1), (x5_1), (wrap64 (x6_1 + 1)), qf, qf, H', ⟨by have := HK1.out; omega⟩, ⟨by (try simp only [hl0_1]); (with_reducible repeat (first | apply Kd.R_alloc | apply Kd.R_drewN | apply Kd.R_drew)); exact Kd.R_mono HO_0.out (fun _ hk => hk.1)⟩, ⟨qK HK⟩, ⟨qB⟩⟩
            · replace c12 := Bool.eq_false_iff.mpr c12
              subst c12
              have H1 : (if 0 ≤ x5_1 then (if x5_1 < (x0_1.length : Int) then (impl_Lattice_34.l0 k1 (x0_1.set (x5_1 : Int).toNat (⟨(rd_T25 x0_1 x6_1).f0, (rd_T25 x0_1 x6_1).f1, (rd_T25 x0_1 x6_1).f2⟩ : S25)) a1 (wrap64 (x5_1 + 1)) (wrap64 (x6_1 + 1))) else (none)) else (none)) = some r := by rw [if_neg (show ¬ (false = true) by decide)] at H; exact H
              clear H
              have H := H1
              clear H1
              by_cases c16 : 0 ≤ x5_1
              · rw [if_pos c16] at H
                have c16b0 : decide (0 ≤ x5_1) = true := decide_eq_true c16
                clear c16
                by_cases c17 : x5_1 < (x0_1.length : Int)
                · rw [if_pos c17] at H
                  have c17b0 : decide (x5_1 < (x0_1.length : Int)) = true := decide_eq_true c17
                  clear c17
                  obtain ⟨y185, hy185⟩ : ∃ y_ : List (S25), y_ = (x0_1.set (x5_1 : Int).toNat (⟨(rd_T25 x0_1 x6_1).f0, (rd_T25 x0_1 x6_1).f1, (rd_T25 x0_1 x6_1).f2⟩ : S25)) := ⟨_, rfl⟩
                  replace H : (impl_Lattice_34.l0 k1 y185 a1 (wrap64 (x5_1 + 1)) (wrap64 (x6_1 + 1))) = some r := by first | (rw [hy185]; with_reducible exact H) | (have H2_ := (Option.bind_some _ _).symm.trans H; rw [hy185]; with_reducible exact H2_) | (have H2_ := (Option.bind_some _ _).symm.trans H; with_reducible exact H2_) | with_reducible exact H | (rw [hy185]; exact H) | exact H
                  have Ny185 := Aside0.mk hy185
                  clear hy185
                  have H' := Aside0.mk H
                  clear H
                  have p182 : 0 ≤ (x6_1 : Int) := qo
                  have q182 : x6_1 < (x0_1.length : Int) := qo
                  obtain ⟨ad182, e182, hx182_0, hx182_1, hx182_2⟩ := at_T25 (Kd.R_reads' HO_0.out).2.2 x6_1 p182 q182
                  cases e182
                  replace p182 := eq_true p182
                  replace q182 := eq_true q182
                  go_wp2_with (first | ((with_reducible refine gate_dst (N := 7) rfl ?_); refine qbx 7 25 #[.int .i64 0, .int .i64 0, .int .i64 0] ?_; intro gb183 hg w19 hbox hb; replace HO_0 := Aside0.mk (Kd.R_below (Kd.R_elderB (qR HO_0.out) gb183 (Nat.le_of_eq hg.symm)) hb); have BK183 := Aside0.mk (hbox); have GW183 := Aside0.mk ((by rw [hg]; exact (by first | exact HK.out.1 | exact (show Kept w _ (fun k_ => P0_ k_) from qK HK).1) : w.heap.size ≤ gb183)); replace HK := Aside0.mk (Kept.below (S := (fun k_ => P0_ k_)) (qK HK) hb); have GE183 := qgs HB hg; replace HB := qbs HB hb; clear hb hbox hg; have hcz20_0 := qc0 BK183; have hcz20_1 := qc1 BK183; have hcz20_2 := qc2 BK183; have hfz20_0 := blk_frozen BK183.out 0; have hfz20_1 := blk_frozen BK183.out 1; have hfz20_2 := blk_frozen BK183.out 2) | (go_at_fn gf_; (refine (HQ_.out _ ((rd_T25 x0_1 x6_1).f0) ((rd_T25 x0_1 x6_1).f1) ((rd_T25 x0_1 x6_1).f2) false (qK HK) A11.out).mono ?_); rintro e w21 ⟨rfl, hb⟩; replace HO_0 := Aside0.mk (Kd.R_below (qR (Kd.R_mono (Kd.R_far (p := ⟨gb183, 2, none⟩) (Kd.R_far (p := ⟨gb183, 1, none⟩) (Kd.R_far (p := ⟨gb183, 0, none⟩) (Kd.R_mono HO_0.out (fun k_ hk => (⟨hk, hk.2⟩ : _ ∧ k_ ≠ gb183))) (fun _ hk => hk.2) (.int .i64 ((rd_T25 x0_1 x6_1).f0))) (fun _ hk => hk.2) (.int .i64 ((rd_T25 x0_1 x6_1).f1))) (fun _ hk => hk.2) (.int .i64 ((rd_T25 x0_1 x6_1).f2))) (fun _ h_ => h_.1))) hb); replace BK183 := qbq (g := gb183) (o := .cells #[.int .i64 ((rd_T25 x0_1 x6_1).f0), .int .i64 ((rd_T25 x0_1 x6_1).f1), .int .i64 ((rd_T25 x0_1 x6_1).f2)] 25 (0, 0)) hb; replace HK := Aside0.mk (Kept.below (S := (fun k_ => P0_ k_)) (qK HK) hb); replace HB := qbs HB hb; (try clear hb); (try clear hk); have hcz22_0 := qc0 BK183; have hcz22_1 := qc1 BK183; have hcz22_2 := qc2 BK183; have hfz22_0 := blk_frozen BK183.out 0; have hfz22_1 := blk_frozen BK183.out 1; have hfz22_2 := blk_frozen BK183.out 2; have p18 : 0 ≤ (x5_1 : Int) := qo; have q18 : (x5_1 : Int) < ((x0_1.length : Int) : Int) := qo; obtain ⟨go18, co18, eo18, gb18, gl18, cl18, HG18⟩ := Kd.R_form HO_0.out (by omega); (first | cases eo18 | (injection eo18 with ea_ en_ ec_; (first | subst ea_ | (injection ea_ with ea_; subst ea_)); subst ec_; clear en_)); have GB18 := Aside0.mk gb18; have GG18 := Aside0.mk HG18; clear gb18 gl18 HG18; have HMgo18 := Aside0.mk (show (P0_ go18 ∨ w.heap.size ≤ go18) from (HO_0.out.1 _ rfl).1); (first | simp only [add_plain] at hx182_0 | skip); (first | simp only [add_plain] at hx182_1 | skip); (first | simp only [add_plain] at hx182_2 | skip); obtain ⟨ce18, hcl18, hM18, hcc18, hfr18⟩ := Kd.R_elem HO_0.out z25 (x5_1 : Int) p18 q18; obtain rfl := k25_openM hM18; have hx18_0 : w21.cell? ⟨go18, (x5_1 : Int).toNat * 3, none⟩ = some (.int .i64 ((rd_T25 x0_1 x5_1).f0)) := hcc18 0 _ rfl; have hx18_1 : w21.cell? ⟨go18, (x5_1 : Int).toNat * 3 + 1, none⟩ = some (.int .i64 ((rd_T25 x0_1 x5_1).f1)) := hcc18 1 _ rfl; have hx18_2 : w21.cell? ⟨go18, (x5_1 : Int).toNat * 3 + 2, none⟩ = some (.int .i64 ((rd_T25 x0_1 x5_1).f2)) := hcc18 2 _ rfl; have hf18_0 : w21.frozen? ⟨go18, (x5_1 : Int).toNat * 3, none⟩ = false := hfr18 0; have hf18_1 : w21.frozen? ⟨go18, (x5_1 : Int).toNat * 3 + 1, none⟩ = false := hfr18 1; have hf18_2 : w21.frozen? ⟨go18, (x5_1 : Int).toNat * 3 + 2, none⟩ = false := hfr18 2; clear hcl18 hcc18 hfr18 hM18; replace p18 := eq_true p18; replace q18 := eq_true q18; have HX23 := Aside0.mk (show Kd.R k25 25 w21 w0.heap.size (fun k_ => (P0_ k_ ∨ w.heap.size ≤ k_) ∧ k_ ≠ gb183) (.slice (some ⟨go18, 0, none⟩) x0_1.length co7) x0_1 from (qR HO_0.out)); obtain ⟨ce23, hcl23, hM23, hcc23, hfr23⟩ := Kd.R_elem HX23.out z25 (x5_1 : Int) qo (by have h_ : (x5_1 : Int) < ((x0_1.length : Int) : Int) := qo; first | exact h_ | (have e_ := (Kd.R_reads' HO_0.out).1; omega) | simpa using h_); obtain rfl := k25_openM hM23; have HP23 := Kd.R_seg HX23.out (x5_1 : Int) qo (by have h_ : (x5_1 : Int) < ((x0_1.length : Int) : Int) := qo; first | exact h_ | (have e_ := (Kd.R_reads' HO_0.out).1; omega) | simpa using h_) (seg := [.int .i64 ((rd_T25 x0_1 x6_1).f0), .int .i64 ((rd_T25 x0_1 x6_1).f1), .int .i64 ((rd_T25 x0_1 x6_1).f2)]) (j := 0) hcl23 hcc23 (show 3 ≤ 3 from by decide) (x' := (⟨(rd_T25 x0_1 x6_1).f0, (rd_T25 x0_1 x6_1).f1, (rd_T25 x0_1 x6_1).f2⟩ : S25)) (k25_mkM _ _ _ (⟨(rd_T25 x0_1 x6_1).f0, (rd_T25 x0_1 x6_1).f1, (rd_T25 x0_1 x6_1).f2⟩ : S25) ) (fun _ hk => hk); have hx23_0 := hcc23 0 _ rfl; (try simp only [show (k25).sz = 3 from rfl, Nat.mul_one, Nat.add_zero] at hx23_0); have hf23_0 := hfr23 0; (try simp only [show (k25).sz = 3 from rfl, Nat.mul_one, Nat.add_zero] at hf23_0); have hx23_1 := hcc23 1 _ rfl; (try simp only [show (k25).sz = 3 from rfl, Nat.mul_one, Nat.add_zero] at hx23_1); have hf23_1 := hfr23 1; (try simp only [show (k25).sz = 3 from rfl, Nat.mul_one, Nat.add_zero] at hf23_1); have hx23_2 := hcc23 2 _ rfl; (try simp only [show (k25).sz = 3 from rfl, Nat.mul_one, Nat.add_zero] at hx23_2); have hf23_2 := hfr23 2; (try simp only [show (k25).sz = 3 from rfl, Nat.mul_one, Nat.add_zero] at hf23_2); clear hcl23 hcc23 hfr23 hM23) | ((with_reducible refine gate_store (t := 25) (p := 33) rfl ?_); refine store_event (t := 25) (p := 33) (v := ?vo_w24) (w1 := (((w21.setCell ⟨go18, (x5_1 : Int).toNat * 3, none⟩ (.int .i64 ((rd_T25 x0_1 x6_1).f0))).setCell ⟨go18, (x5_1 : Int).toNat * 3 + 1, none⟩ (.int .i64 ((rd_T25 x0_1 x6_1).f1))).setCell ⟨go18, (x5_1 : Int).toNat * 3 + 2, none⟩ (.int .i64 ((rd_T25 x0_1 x6_1).f2)))) ?hg ?ho ?hn ?hr ?_; (case ho => rfl); (case hg => rfl); (case hn => rfl); (case hr => first | (go_simp; done) | (go_simp; rfl)); intro w24 hw; have hg : w21.grownBy w24 (some go18) := (by rw [hw]; exact HP23.2); have hp_ : Kd.R k25 25 w24 w0.heap.size (fun k_ => (P0_ k_ ∨ w.heap.size ≤ k_) ∧ k_ ≠ gb183) (.slice (some ⟨go18, 0, none⟩) x0_1.length co7) y185 := (by rw [hw, Ny185.out]; exact HP23.1); clear HP23; replace BK183 := Aside0.mk (blk_grown (g := gb183) (o := .cells #[.int .i64 ((rd_T25 x0_1 x6_1).f0), .int .i64 ((rd_T25 x0_1 x6_1).f1), .int .i64 ((rd_T25 x0_1 x6_1).f2)] 25 (0, 0)) (qp BK183.out) hg (Kd.R_away HO_0.out (fun _ hk => hk.2))); replace HB := Aside0.mk ((by rw [hw]; exact below_set (below_set (below_set (HB.out) GB18.out) GB18.out) GB18.out : Below w0.heap.size w0 w24)); replace HK := Aside0.mk (Kept.of_grown (S := (fun k_ => P0_ k_)) hg (qK HK) (fun k_ e_ => (HO_0.out.1 k_ e_).1)); replace HO_0 := Aside0.mk (hp_); clear hg hw hp_))
                  (try simp only [← hl0_1])
                  go_roundg k1
                  case measure => have := HK1.out; omega
                  case rel => exact ⟨(y185), (wrap64 (x5_1 + 1)), (wrap64 (x6_1 + 1)), qf, qf, H', ⟨by have := HK1.out; omega⟩, ⟨by (try simp only [hl0_1]); (with_reducible repeat (first | apply Kd.R_alloc | apply Kd.R_drewN | apply Kd.R_drew)); exact Kd.R_mono HO_0.out (fun _ hk => hk.1)⟩, ⟨qK HK⟩, ⟨qB⟩⟩
                · rw [if_neg c17] at H
                  exact absurd H (by simp)
              · rw [if_neg c16] at H
                exact absurd H (by simp)
          · rw [if_neg c10] at H
            exact absurd H (by simp)
        · rw [if_neg c9] at H
          have c9b0 : decide (x6_1 < (x0_1.length : Int)) = false := decide_eq_false c9
          clear c9
          by_cases c25 : 0 ≤ x5_1
          · rw [if_pos c25] at H
            have c25b0 := eq_true c25
            have c25b1 : decide (0 ≤ x5_1) = true := decide_eq_true c25
            clear c25
            by_cases c26 : x5_1 ≤ (x0_1.length : Int)
            · rw [if_pos c26] at H
              have c26b0 := eq_true c26
              have c26b1 : decide (x5_1 ≤ (x0_1.length : Int)) = true := decide_eq_true c26
              clear c26
              obtain ⟨y186, hy186⟩ : ∃ y_ : List (S25), y_ = (x0_1.drop (x5_1 : Int).toNat) := ⟨_, rfl⟩
              replace H : (some ((x0_1.take (x5_1 : Int).toNat ++ List.replicate y186.length z25).take (x5_1 : Int).toNat)) = some r := by first | (rw [hy186]; with_reducible exact H) | (have H2_ := (Option.bind_some _ _).symm.trans H; rw [hy186]; with_reducible exact H2_) | (have H2_ := (Option.bind_some _ _).symm.trans H; with_reducible exact H2_) | with_reducible exact H | (rw [hy186]; exact H) | exact H
              have Ny186 := Aside0.mk hy186
              clear hy186
              obtain ⟨y190, hy190⟩ : ∃ y_ : List (S25), y_ = (x0_1.take (x5_1 : Int).toNat ++ List.replicate y186.length z25) := ⟨_, rfl⟩
              replace H : (some (y190.take (x5_1 : Int).toNat)) = some r := by first | (rw [hy190]; with_reducible exact H) | (have H2_ := (Option.bind_some _ _).symm.trans H; rw [hy190]; with_reducible exact H2_) | (have H2_ := (Option.bind_some _ _).symm.trans H; with_reducible exact H2_) | with_reducible exact H | (rw [hy190]; exact H) | exact H
              have Ny190 := Aside0.mk hy190
              clear hy190
              have c27b0 := eq_true (qo : x5_1 ≤ (x0_1.length : Int))
              obtain ⟨y191, hy191⟩ : ∃ y_ : List (S25), y_ = (y190.take (x5_1 : Int).toNat) := ⟨_, rfl⟩
              replace H : (some y191) = some r := by first | (rw [hy191]; with_reducible exact H) | (have H2_ := (Option.bind_some _ _).symm.trans H; rw [hy191]; with_reducible exact H2_) | (have H2_ := (Option.bind_some _ _).symm.trans H; with_reducible exact H2_) | with_reducible exact H | (rw [hy191]; exact H) | exact H
              have Ny191 := Aside0.mk hy191
              clear hy191
              obtain rfl := Option.some.inj H
              have q28 : (x5_1 : Int) ≤ ((x0_1.length : Int) : Int) := qo
              obtain ⟨i028, hi028, _, hsz28, _⟩ := info_parts info25
              have hroom28 : x0_1.length ≤ co7 := (Kd.R_reads' HO_0.out).2.1
              have hC28 : Kd.C k25 _ Ao7 x0_1.length x0_1 := (Kd.R_reads' HO_0.out).2.2
              have q028 : (0 : Int) ≤ (x5_1 : Int) := qo
              have hcut28 := cut_from (P := Try.prog) 33 25 .i64 Try.underlying33 hi028 3 hsz28 Ao7 x0_1.length co7 x5_1 q028 q28
              have hr28 := Kd.C_drop (m := (x5_1 : Int).toNat) (c := co7) hC28 (by omega) hroom28
              obtain ⟨A28, hA28⟩ : ∃ A1, A1 = (if co7 = (x5_1 : Int).toNat then Ao7 else (Ao7 : Option Addr).map (·.add ((x5_1 : Int).toNat * 3))) := ⟨_, rfl⟩
              obtain ⟨c28, hc28⟩ : ∃ c1, c1 = co7 - (x5_1 : Int).toNat := ⟨_, rfl⟩
              have hy28 : y186.length = x0_1.length - (x5_1 : Int).toNat := (by rw [Ny186.out, List.length_drop] <;> omega)
              rw [show (x0_1).drop (x5_1 : Int).toNat = y186 from Ny186.out.symm] at hr28
              replace hr28 : Kd.C k25 _ A28 y186.length y186 := (by rw [hA28]; exact hr28)
              rw [← hy28, ← hA28, ← hc28] at hcut28
              have HR189 := Aside0.mk hr28
              have HC189 := Aside0.mk (show y186.length ≤ c28 from by rw [hy28, hc28]; exact Nat.sub_le_sub_right hroom28 _)
              clear hr28 hC28 hroom28 hi028 hsz28 hc28
              have KY28 := Aside0.mk hy28
              have KA28 := Aside0.mk hA28
              clear hy28 hA28
              have KL28 := Aside0.mk (show (x5_1 : Int).toNat ≤ x0_1.length from by omega)
              replace q28 := eq_true q28
              go_wp2_with (first | ((refine gate_builtin (b := .clear) (xs := #[.tmp 38]) rfl ?_); refine R_clear (d := k25) (e := 25) (base := w0.heap.size) (ok := (fun k_ => (P0_ k_ ∨ w.heap.size ≤ k_))) (w0 := w0) (z0 := z25) rfl (.tmp 38) 33 rfl Try.underlying33 (.agg #[(.int .i64 0), (.int .i64 0), (.int .i64 0)]) 24 info25 rfl (by decide) (fun W_ => k25_mkM W_ w0.heap.size (fun _ => False) z25) (A := Ao7) (A1 := A28) (n := x0_1.length) (cap := co7) (k := (x5_1 : Int).toNat) (m := y186.length) (c2 := c28) (xs := x0_1) rfl (qR HO_0.out) (by have hn_ := (Kd.R_reads' HO_0.out).1; have hl_ := KL28.out; omega) KY28.out KA28.out qB (below_size qB) ?_; intro w29 ho hb hg; rw [← Ny190.out] at ho; replace HB := Aside0.mk (hb); replace HK := Aside0.mk (Kept.of_grown (S := (fun k_ => P0_ k_)) hg (qK HK) (fun k_ e_ => (HO_0.out.1 k_ e_))); replace HO_0 := Aside0.mk (ho); clear ho hb hg; have q30 : (x5_1 : Int) ≤ ((x0_1.length : Int) : Int) := qo; obtain ⟨i030, hi030, _, hsz30, _⟩ := info_parts info25; have hcut30 := cut_to (P := Try.prog) 33 25 .i64 Try.underlying33 hi030 Ao7 x0_1.length co7 x5_1 qo q30 (Kd.R_reads' HO_0.out).2.1; have hr30 := Kd.R_take (m := (x5_1 : Int).toNat) HO_0.out (by have hh_ := (Kd.R_reads' HO_0.out).1; omega); have hy30 : y191.length = (x5_1 : Int).toNat := (by have hh_ := (Kd.R_reads' HO_0.out).1; rw [Ny191.out, List.length_take]; omega); rw [← Ny191.out] at hr30; rw [← hy30] at hr30 hcut30; clear hy30 hi030 hsz30 HO_0; have HO193 := Aside0.mk hr30; clear hr30; replace q30 := eq_true q30))
              go_ret
              exact ⟨_, qF, by (with_reducible repeat (first | apply Kd.R_alloc | apply Kd.R_drewN | apply Kd.R_drew)); exact HO193.out, qB, qK HK⟩
            · rw [if_neg c26] at H
              exact absurd H (by simp)
          · rw [if_neg c25] at H
            exact absurd H (by simp)

mutual
def impl_sublattices.l0 : Nat → Int → List (S25) → Int → Option ((List (S25)))
  | 0, _, _, _ => none
  | k + 1, x0, x3, x4 => if x4 ≤ x0 then (impl_sublattices.l1 k x0 x3 x4 x4 0) else (some x3)
def impl_sublattices.l1 : Nat → Int → List (S25) → Int → Int → Int → Option ((List (S25)))
  | 0, _, _, _, _, _ => none
  | k + 1, x0, x3, x4, x12, x13 => if x13 < x12 then (if x4 = 0 then (none) else (if (Int.tmod x0 x4) = 0 then (if x3.length < 5864062014805 then (impl_sublattices.l1 k x0 (x3 ++ [(⟨x4, x13, wrap64 (Int.tdiv x0 x4)⟩ : S25)]) x4 x12 (wrap64 (x13 + 1))) else (none)) else (impl_sublattices.l1 k x0 x3 x4 x12 (wrap64 (x13 + 1))))) else (impl_sublattices.l0 k x0 x3 (wrap64 (x4 + 1)))
end
def impl_sublattices.f (k : Nat) (a0 : Int) : Option ((List (S25))) := impl_sublattices.l0 k a0 (([] : List (S25))) 1
set_option maxHeartbeats 8000000 in
set_option maxRecDepth 100000 in
theorem impl_sublattices.calls (k : Nat) (a0 : Int) (r : List (S25)) (w : World) (h : impl_sublattices.f k a0 = some r) :
    Calls Try.prog 35 #[.int .i64 a0] w fun e w' => ∃ v0_ : Value, e = .returned (v0_) ∧ Kd.R k25 25 w' w.heap.size (fun _ => True) v0_ r ∧ Below w.heap.size w w' := by
  have hu25 := Try.underlying25
  have HB := Aside0.mk (Below.refl w.heap.size w)
  have H : (impl_sublattices.l0 k a0 (([] : List (S25))) 1) = some r := h
  clear h
  obtain ⟨y194, hy194⟩ : ∃ y_ : List (S25), y_ = (([] : List (S25))) := ⟨_, rfl⟩
  replace H : (impl_sublattices.l0 k a0 y194 1) = some r := by first | (rw [hy194]; with_reducible exact H) | (have H2_ := (Option.bind_some _ _).symm.trans H; rw [hy194]; with_reducible exact H2_) | (have H2_ := (Option.bind_some _ _).symm.trans H; with_reducible exact H2_) | with_reducible exact H | (rw [hy194]; exact H) | exact H
  have Ny194 := Aside0.mk hy194
  clear hy194
  have H' := Aside0.mk H
  clear H
  go_enter Try.func35, Try.ntmps35
  go_wp2_with (first | ((with_reducible refine gate_dst (N := 6) rfl ?_); refine Kd.R_lit k25 _ 25 ?hg (N := 6) ?hd (xs := ([] : List (S25))) (inner := []) (ok := fun _ => True) (okp := fun _ => True) ?hr ?hp (fun _ hk => hk) trivial (Below.refl _ _) (Nat.le_refl _) (by simp) ?_; (case hd => rfl); (case hg => rfl); (case hr => first | (go_simp; done) | (go_simp; rfl)); (case hp => exact (Reps.none _ _)); intro v195 w2 ho3 hb hg_ hnew_; clear hg_ hnew_; (first | rw [← Ny194.out] at ho3 | (simp only [Int.reduceToNat] at ho3; rw [← Ny194.out] at ho3)); have HO196 := Aside0.mk (Kd.R_lower ho3 (below_size qB)); replace HB := qbs HB hb; clear hb ho3))
  go_loopg [3, 4] k (fun kq v3 v4 w' => ∃ (x3_1 : List (S25)) (x4_1 : Int), v4 = .int .i64 x4_1 ∧ Aside0 (impl_sublattices.l0 kq a0 x3_1 x4_1 = some r) ∧ Aside0 (kq ≤ k) ∧ Aside0 (Kd.R k25 25 w' w.heap.size (fun _ => True) v3 x3_1) ∧ Aside0 (Below w.heap.size w w'))
  case atStart => exact ⟨(y194), (1), qf, H', ⟨Nat.le_refl _⟩, ⟨by (with_reducible repeat (first | apply Kd.R_alloc | apply Kd.R_drewN | apply Kd.R_drew)); exact HO196.out⟩, ⟨qB⟩⟩
  case round =>
    clear H'
    try clear p2
    try clear c3
    obtain ⟨x3_1, x4_1, rfl, HA, HK1, HO_3, HB⟩ := hrel
    cases gk with
    | zero => exact absurd HA.out (by simp [impl_sublattices.l0])
    | succ k1 =>
      have H := HA.out
      clear HA
      simp only [impl_sublattices.l0] at H
      by_cases c4 : x4_1 ≤ a0
      · rw [if_pos c4] at H
        have c4b0 : decide (x4_1 ≤ a0) = true := decide_eq_true c4
        clear c4
        have H' := Aside0.mk H
        clear H
        go_wp2
        go_loopg [3, 13] k1 (fun kq v3 v13 w' => ∃ (x3_2 : List (S25)) (x13_2 : Int), v13 = .int .i64 x13_2 ∧ Aside0 (impl_sublattices.l1 kq a0 x3_2 x4_1 x4_1 x13_2 = some r) ∧ Aside0 (kq ≤ k1) ∧ Aside0 (Kd.R k25 25 w' w.heap.size (fun _ => True) v3 x3_2) ∧ Aside0 (Below w.heap.size w w'))
        case atStart => exact ⟨(x3_1), (0), qf, H', ⟨Nat.le_refl _⟩, ⟨by (with_reducible repeat (first | apply Kd.R_alloc | apply Kd.R_drewN | apply Kd.R_drew)); exact HO_3.out⟩, ⟨qB⟩⟩
        case round =>
          clear H'
          try clear p2
          try clear c3
          try clear c4
          try clear c4b0
          try clear p2
          obtain ⟨x3_2, x13_2, rfl, HA, HK2, HO_3, HB⟩ := hrel
          cases gk with
          | zero => exact absurd HA.out (by simp [impl_sublattices.l1])
          | succ k2 =>
            have H := HA.out
            clear HA
            simp only [impl_sublattices.l1] at H
            by_cases c5 : x13_2 < x4_1
            · rw [if_pos c5] at H
              have c5b0 : decide (x13_2 < x4_1) = true := decide_eq_true c5
              clear c5
              by_cases c6 : x4_1 = 0
              · rw [if_pos c6] at H
                exact absurd H (by simp)
              · rw [if_neg c6] at H
                have c6b0 : (x4_1 == 0) = false := beq_eq_false_iff_ne.mpr c6
                have c6b1 : (x4_1 != 0) = true := bne_iff_ne.mpr c6
                by_cases c7 : (Int.tmod a0 x4_1) = 0
                · rw [if_pos c7] at H
                  have c7b0 : ((Int.tmod a0 x4_1) == 0) = true := beq_iff_eq.mpr c7
                  have c7b1 : ((Int.tmod a0 x4_1) != 0) = false := bne_eq_false_iff_eq.mpr c7
                  clear c7
                  by_cases c8 : x3_2.length < 5864062014805
                  · rw [if_pos c8] at H
                    have LMc8 := Aside0.mk c8
                    clear c8
                    obtain ⟨y197, hy197⟩ : ∃ y_ : List (S25), y_ = (x3_2 ++ [(⟨x4_1, x13_2, wrap64 (Int.tdiv a0 x4_1)⟩ : S25)]) := ⟨_, rfl⟩
                    replace H : (impl_sublattices.l1 k2 a0 y197 x4_1 x4_1 (wrap64 (x13_2 + 1))) = some r := by first | (rw [hy197]; with_reducible exact H) | (have H2_ := (Option.bind_some _ _).symm.trans H; rw [hy197]; with_reducible exact H2_) | (have H2_ := (Option.bind_some _ _).symm.trans H; with_reducible exact H2_) | with_reducible exact H | (rw [hy197]; exact H) | exact H
                    have Ny197 := Aside0.mk hy197
                    clear hy197
                    have H' := Aside0.mk H
                    clear H
                    go_wp2_with (first | ((with_reducible refine gate_builtin (b := .append) (xs := #[.tmp 20, .tmp 27]) rfl ?_); at_builtin; refine Kd.R_append k25 (w0 := w) w.heap.size rfl (.tmp 20) (.tmp 27) 33 25 (.agg #[(.int .i64 0), (.int .i64 0), (.int .i64 0)]) 24 rfl Try.underlying33 info25 rfl (by decide) (by omega) u3 x3_2 (⟨x4_1, x13_2, wrap64 (Int.tdiv a0 x4_1)⟩ : S25) [.int .i64 x4_1, .int .i64 x13_2, .int .i64 (wrap64 (Int.tdiv a0 x4_1))] (fun _ => True) (fun _ => False) rfl rfl ?aP (fun _ hk => hk.elim) ?aF ?aO ?aB ?aS ?aL ?_; (case aP => exact k25_mkM _ _ _ (⟨x4_1, x13_2, wrap64 (Int.tdiv a0 x4_1)⟩ : S25)); (case aB => exact qB); (case aF => exact (fun _ _ => trivial)); (case aO => exact (qR HO_3.out)); (case aS => exact (below_size qB)); (case aL => have := LMc8.out; omega); intro v198 w9 ho hb hg hat; rw [← Ny197.out] at ho; replace HB := Aside0.mk (hb); have HO199 := Aside0.mk (ho); clear HO_3; clear ho hb hg hat))
                    go_roundg k2
                    case measure => have := HK1.out; have := HK2.out; omega
                    case rel => exact ⟨(y197), (wrap64 (x13_2 + 1)), qf, H', ⟨by have := HK1.out; have := HK2.out; omega⟩, ⟨by (with_reducible repeat (first | apply Kd.R_alloc | apply Kd.R_drewN | apply Kd.R_drew)); exact HO199.out⟩, ⟨qB⟩⟩
                  · rw [if_neg c8] at H
                    exact absurd H (by simp)
                · rw [if_neg c7] at H
                  have c7b0 : ((Int.tmod a0 x4_1) == 0) = false := beq_eq_false_iff_ne.mpr c7
                  have c7b1 : ((Int.tmod a0 x4_1) != 0) = true := bne_iff_ne.mpr c7
                  have H' := Aside0.mk H
                  clear H
                  go_wp2
                  go_roundg k2
                  case measure => have := HK1.out; have := HK2.out; omega
                  case rel => exact ⟨(x3_2), (wrap64 (x13_2 + 1)), qf, H', ⟨by have := HK1.out; have := HK2.out; omega⟩, ⟨by (with_reducible repeat (first | apply Kd.R_alloc | apply Kd.R_drewN | apply Kd.R_drew)); exact HO_3.out⟩, ⟨qB⟩⟩
            · rw [if_neg c5] at H
              have c5b0 : decide (x13_2 < x4_1) = false := decide_eq_false c5
              clear c5
              have H' := Aside0.mk H
              clear H
              go_wp2
              go_roundg k2
              case measure => have := HK1.out; have := HK2.out; omega
              case rel => exact ⟨(x3_2), (wrap64 (x4_1 + 1)), qf, H', ⟨by have := HK1.out; have := HK2.out; omega⟩, ⟨by (with_reducible repeat (first | apply Kd.R_alloc | apply Kd.R_drewN | apply Kd.R_drew)); exact HO_3.out⟩, ⟨qB⟩⟩
      · rw [if_neg c4] at H
        have c4b0 : decide (x4_1 ≤ a0) = false := decide_eq_false c4
        clear c4
        obtain rfl := Option.some.inj H
        go_wp2
        go_ret
        exact ⟨_, qF, by (with_reducible repeat (first | apply Kd.R_alloc | apply Kd.R_drewN | apply Kd.R_drew)); exact HO_3.out, qB⟩

def impl_Lattice_number.f (a0_0 : Int) (a0_1 : Int) (a0_2 : Int) (a1_0 : Int) (a1_1 : Int) : Option (Int) := some (wrap64 ((wrap64 (a1_0 * a0_2)) + a1_1))
set_option maxHeartbeats 8000000 in
set_option maxRecDepth 100000 in
theorem impl_Lattice_number.calls (a0_0 : Int) (a0_1 : Int) (a0_2 : Int) (a1_0 : Int) (a1_1 : Int) (r : Int) (w : World) (h : impl_Lattice_number.f a0_0 a0_1 a0_2 a1_0 a1_1 = some r) :
    Calls Try.prog 45 #[.agg #[.int .i64 a0_0, .int .i64 a0_1, .int .i64 a0_2], .agg #[.int .i64 a1_0, .int .i64 a1_1]] w fun e w' => e = .returned (.int .i64 r) ∧ Below w.heap.size w w' := by
  have hu25 := Try.underlying25
  have hu43 := Try.underlying43
  have HB := Aside0.mk (Below.refl w.heap.size w)
  have H : (some (wrap64 ((wrap64 (a1_0 * a0_2)) + a1_1))) = some r := h
  clear h
  obtain rfl := Option.some.inj H
  go_enter Try.func45, Try.ntmps45
  go_wp2_with (first | ((with_reducible refine gate_dst (N := 2) rfl ?_); refine qbx 2 25 #[.int .i64 a0_0, .int .i64 a0_1, .int .i64 a0_2] ?_; intro gb200 hg w3 hbox hb; have BK200 := Aside0.mk (hbox); have GW200 := qgs HB hg; have GE200 := qgs HB hg; replace HB := qbs HB hb; clear hb hbox hg) | ((with_reducible refine gate_dst (N := 3) rfl ?_); refine qbx 3 43 #[.int .i64 a1_0, .int .i64 a1_1] ?_; intro gb201 hg w4 hbox hb; have BK201 := Aside0.mk (hbox); have GW201 := qgs HB hg; have GE201 := qgs HB hg; replace HB := qbs HB hb; have NB200_201 := qnL BK200 hg; have NB201_200 := qnG BK200 hg; replace BK200 := qbb BK200 hb; clear hb hbox hg; have hnb5 := NB201_200.out; have hnc5 := NB200_201.out; have hcz6_0 := qc0 BK201; have hcz6_1 := qc1 BK201; have hfz6_0 := blk_frozen BK201.out 0; have hfz6_1 := blk_frozen BK201.out 1; have hcz7_0 := qc0 BK200; have hcz7_1 := qc1 BK200; have hcz7_2 := qc2 BK200; have hfz7_0 := blk_frozen BK200.out 0; have hfz7_1 := blk_frozen BK200.out 1; have hfz7_2 := blk_frozen BK200.out 2))
  go_ret
  exact ⟨qF, qB⟩

def slices_Repeat_int64_int64.f (l0 : List Int) (a1 : Int) : Option (List Int) := if l0.length = 1 ∧ 1 ≤ a1 ∧ a1 ≤ 1099511627776 then some (List.replicate a1.toNat (rd l0 0)) else none
set_option maxHeartbeats 8000000 in
set_option maxRecDepth 100000 in
theorem slices_Repeat_int64_int64.calls (A0 : Option Addr) (c0 : Nat) (l0 : List Int) (a1 : Int) (r : List Int) (w : World) (hr0 : Kd.C (Kd.int .i64) w A0 l0.length l0) (hc0 : l0.length ≤ c0) (h : slices_Repeat_int64_int64.f l0 a1 = some r) :
    Calls Try.prog 48 #[.slice A0 l0.length c0, .int .i64 a1] w fun e w' => ∃ v0_ : Value, e = .returned (v0_) ∧ Kd.R (Kd.int .i64) 2 w' w.heap.size (fun _ => True) v0_ r ∧ Below w.heap.size w w' := by
  unfold slices_Repeat_int64_int64.f at h
  split at h
  case isFalse => cases h
  rename_i hd
  obtain ⟨hl0, h1, h2⟩ := hd
  injection h with h
  obtain ⟨n, rfl⟩ := Int.eq_ofNat_of_zero_le (Int.le_trans (by decide) h1)
  rw [Int.toNat_natCast] at h
  rw [hl0] at hr0 hc0 ⊢
  have hM : ∀ W, Calls Try.prog 54 #[.int .u64 1, .int .u64 n] W fun e w' => e = .returned (.tuple #[.int .u64 0, .int .u64 n]) ∧ w' = W := fun W => by
    have h := Try.bits_Mul 1 n (by omega) (by omega) W
    rw [Nat.one_mul, Nat.div_eq_of_lt (by omega), Nat.mod_eq_of_lt (by omega)] at h
    exact h
  have hn1 : ¬ ((n : Int) < 0) := by omega
  have hm1 : ((n : Int) % 18446744073709551616) = n := Int.emod_eq_of_lt (by omega) (by omega)
  go_enter Try.func48, Try.ntmps48
  have HB := Below.refl w.heap.size w
  have hi2 : (Try.prog.info? 2).map (·.size) = some 1 := by kernel_rfl
  go_wp2_with (first
    | (refine (hM _).mono ?_; rintro e w1 ⟨rfl, hw1_⟩; obtain rfl := hw1_.symm)
    | ((with_reducible refine gate_dst (N := 30) rfl ?_); refine Kd.R_make (Kd.int .i64) w.heap.size 2 rfl (N := 30) rfl 75 _ _ rfl (n : Int) rfl rfl Try.underlying75 (.int .i64 0) 8 info2 rfl (by decide) (by omega) (0 : Int) (ok := fun _ => True) (okp := fun _ => False) rfl (fun _ hk => hk.elim) trivial (by omega) (by omega) HB (Nat.le_refl _) ?_; intro v1 w1 ho hb hg hat; obtain ⟨g, cap, hv, hbg, hlt, _⟩ := Kd.R_form ho (by simp; omega); have hlen := List.length_replicate (n := (n : Int).toNat) (a := (0 : Int)); rw [hlen, Int.toNat_natCast] at hv; rw [Int.toNat_natCast] at ho; clear hlen; subst hv; have hr1 := Kd.C_below hr0 ⟨hb.os, hb.tape, hb.output, hb.size, hb.block⟩)
    | ((with_reducible refine gate_dst (N := 33) rfl ?_); refine Kd.R_copy (0 : Int) (w0 := w) w.heap.size rfl (.tmp 31) (.tmp 32) 75 75 2 rfl Try.underlying75 hi2 (.slice (some ⟨g, 0, none⟩) n cap) (List.replicate n 0) l0 A0 1 c0 (fun _ => True) rfl rfl ho hr1 hb (hb.size) ?_; intro w2 ho2 hb2 hg2; rw [List.length_replicate, Nat.min_eq_left (by omega : 1 ≤ n)] at ho2 ⊢))
  have ho3 : Kd.R (Kd.int .i64) 2 w2 w.heap.size (fun _ => True) (.slice (some ⟨g, 0, none⟩) n cap) (List.replicate 1 (rd l0 0) ++ List.replicate (n - 1) 0) := by
    rw [List.drop_replicate] at ho2
    have he : l0.take 1 = List.replicate 1 (rd l0 0) := by
      cases l0 with
      | nil => cases hl0
      | cons x xs => rfl
    rw [he] at ho2
    exact ho2
  clear ho2 hg2 ho hb hg hat hr1 hr0
  go_loopg [8] (n + 1) (fun kq v8 W => ∃ j : Nat, v8 = .int .i64 (j : Int) ∧ 1 ≤ j ∧ j ≤ n ∧ n - j < kq ∧ Kd.R (Kd.int .i64) 2 W w.heap.size (fun _ => True) (.slice (some ⟨g, 0, none⟩) n cap) (List.replicate j (rd l0 0) ++ List.replicate (n - j) 0) ∧ Below w.heap.size w W)
  case atStart => exact ⟨1, rfl, Nat.le_refl _, by omega, by omega, ho3, hb2⟩
  case round =>
    clear ho3 hb2
    obtain ⟨j, rfl, hj1, hjn, hjk, HO, HB2⟩ := hrel
    cases gk with
    | zero => omega
    | succ k1 =>
      by_cases hc : j < n
      · have hcb : decide ((j : Int) < (n : Int)) = true := decide_eq_true (by omega)
        have hmin : 1 ≤ min j (n - j) := by omega
        have hrow : (List.replicate j (rd l0 0) ++ List.replicate (n - j) (0 : Int)).take j ++ (List.replicate j (rd l0 0) ++ List.replicate (n - j) (0 : Int)).take (min j (n - j)) ++ (List.replicate j (rd l0 0) ++ List.replicate (n - j) (0 : Int)).drop (j + min j (n - j)) = List.replicate (j + min j (n - j)) (rd l0 0) ++ List.replicate (n - (j + min j (n - j))) 0 := by
          rw [List.take_append_of_le_length (by simp), List.take_append_of_le_length (by simp; omega), List.take_replicate, List.take_replicate, Nat.min_self, Nat.min_eq_left (by omega : min j (n - j) ≤ j), List.replicate_append_replicate, List.drop_append, List.length_replicate, List.drop_of_length_le (by simp), List.nil_append, List.drop_replicate]
          congr 2
          omega
        have hjc : n ≤ cap := (Kd.R_reads' HO).2.1
        obtain ⟨i02, hi02, _, hsz2, _⟩ := info_parts info2
        obtain ⟨A1, hA1⟩ : ∃ A1, A1 = (if cap = ((j : Nat) : Int).toNat then (some ⟨g, 0, none⟩) else ((some ⟨g, 0, none⟩) : Option Addr).map (·.add (((j : Nat) : Int).toNat * 1))) := ⟨_, rfl⟩
        have hcut1 := cut_from (P := Try.prog) 75 2 .i64 Try.underlying75 hi02 1 hsz2 (some ⟨g, 0, none⟩) n cap (j : Int) (by omega) (by omega)
        have hcut2 := cut_to (P := Try.prog) 75 2 .i64 Try.underlying75 hi02 (some ⟨g, 0, none⟩) n cap (j : Int) (by omega) (by omega) hjc
        rw [← hA1] at hcut1
        rw [Int.toNat_natCast] at hcut1 hcut2 hA1
        replace hA1 : A1 = if cap = j then some ⟨g, 0, none⟩ else some ⟨g, j, none⟩ := by
          rw [hA1]
          simp only [Option.map_some, Addr.add_lit, Nat.zero_add, Nat.mul_one]
        have HA1 := Aside0.mk hA1
        clear hA1
        go_wp2
        refine start_ (n := 10) (S := fun _ => True) (ds := []) #[false, false, false, false, false, false, false, false, false, false] (by kernel_rfl) rfl rfl trivial (fun _ => ?_)
        have HO3 := Kd.R_drew HO
        have HB3 := below_drew1 HB2
        generalize wr.drew = wq at HO3 HB3 ⊢
        refine pure_ (i := 0) (N := some 38) (v := ?_) (a' := ?_) #[true, false, false, false, false, false, false, false, false, false] rfl rfl (by kernel_rfl) (fun _ _ _ h => h) (Or.inl ⟨by rfl, ?_⟩) ?_ ?_
        rotate_left
        · intro w'
          go_simp
          with_reducible rfl
        rotate_left
        · simp only [Act.put, List.setIfInBounds_toArray, List.set_cons_zero, List.set_cons_succ, i64_w, i32_w]
          rfl
        refine pure_ (i := 1) (N := some 39) (v := ?_) (a' := ?_) #[true, true, false, false, false, false, false, false, false, false] rfl rfl (by kernel_rfl) (fun _ _ _ h => h) (Or.inl ⟨by rfl, ?_⟩) ?_ ?_
        rotate_left
        · intro w'
          go_simp
          with_reducible rfl
        rotate_left
        · simp only [Act.put, List.setIfInBounds_toArray, List.set_cons_zero, List.set_cons_succ, i64_w, i32_w]
          rfl
        refine pure_ (i := 2) (N := some 40) (v := ?_) (a' := ?_) #[true, true, true, false, false, false, false, false, false, false] rfl rfl (by kernel_rfl) (fun _ _ _ h => h) (Or.inl ⟨by rfl, ?_⟩) ?_ ?_
        rotate_left
        · intro w'
          go_simp
          with_reducible rfl
        rotate_left
        · simp only [Act.put, List.setIfInBounds_toArray, List.set_cons_zero, List.set_cons_succ, i64_w, i32_w]
          rfl
        refine pure_ (i := 3) (N := some 41) (v := ?_) (a' := ?_) #[true, true, true, true, false, false, false, false, false, false] rfl rfl (by kernel_rfl) (fun _ _ _ h => h) (Or.inl ⟨by rfl, ?_⟩) ?_ ?_
        rotate_left
        · intro w'
          go_simp
          with_reducible rfl
        rotate_left
        · simp only [Act.put, List.setIfInBounds_toArray, List.set_cons_zero, List.set_cons_succ, i64_w, i32_w]
          rfl
        refine pure_ (i := 4) (N := some 42) (v := ?_) (a' := ?_) #[true, true, true, true, true, false, false, false, false, false] rfl rfl (by kernel_rfl) (fun _ _ _ h => h) (Or.inl ⟨by rfl, ?_⟩) ?_ ?_
        rotate_left
        · intro w'
          go_simp
          with_reducible rfl
        rotate_left
        · simp only [Act.put, List.setIfInBounds_toArray, List.set_cons_zero, List.set_cons_succ, i64_w, i32_w]
          rfl
        refine pure_ (i := 5) (N := some 43) (v := ?_) (a' := ?_) #[true, true, true, true, true, true, false, false, false, false] rfl rfl (by kernel_rfl) (fun _ _ _ h => h) (Or.inl ⟨by rfl, ?_⟩) ?_ ?_
        rotate_left
        · intro w'
          go_simp
          with_reducible rfl
        rotate_left
        · simp only [Act.put, List.setIfInBounds_toArray, List.set_cons_zero, List.set_cons_succ, i64_w, i32_w]
          rfl
        refine pure_ (i := 6) (N := some 44) (v := ?_) (a' := ?_) #[true, true, true, true, true, true, true, false, false, false] rfl rfl (by kernel_rfl) (fun _ _ _ h => h) (Or.inl ⟨by rfl, ?_⟩) ?_ ?_
        rotate_left
        · intro w'
          go_simp
          with_reducible rfl
        rotate_left
        · simp only [Act.put, List.setIfInBounds_toArray, List.set_cons_zero, List.set_cons_succ, i64_w, i32_w]
          rfl
        obtain ⟨w4, hrun, HO4, HB4⟩ := copy_tail (P := Try.prog) (c1 := cap - j) (c2 := cap) 75 75 Try.underlying75 hi2 _ HA1.out HO3 hc HB3 HB3.size
        rw [hrow] at HO4
        refine one_ (i := 7) (N := some 45) #[true, true, true, true, true, true, true, true, false, false] rfl rfl (by kernel_rfl) (by decide) (fun K hK => ?_)
        refine value_ (N := some 45) (by rfl) rfl (v := .int .i64 ((min j (n - j) : Nat) : Int)) (w1 := w4) ?_ ?_
        · unfold execOp
          simp [resolve, invoke, builtin, Act.eval, hrun]
        refine hK.out _ _ trivial (fun _ => ?_)
        clear hK K
        refine norm_ (a' := ?_) ?_ ?_
        rotate_left
        · show Act.put _ (some 45) _ = _
          simp only [Act.put, List.setIfInBounds_toArray, List.set_cons_zero, List.set_cons_succ, i64_w, i32_w]
          rfl
        refine pure_ (i := 8) (N := some 46) (v := ?_) (a' := ?_) #[true, true, true, true, true, true, true, true, true, false] rfl rfl (by kernel_rfl) (fun _ _ _ h => h) (Or.inl ⟨by rfl, ?_⟩) ?_ ?_
        rotate_left
        · intro w'
          go_simp
          with_reducible rfl
        rotate_left
        · simp only [Act.put, List.setIfInBounds_toArray, List.set_cons_zero, List.set_cons_succ, i64_w, i32_w]
          rfl
        refine pure_ (i := 9) (N := some 8) (v := ?_) (a' := ?_) #[true, true, true, true, true, true, true, true, true, true] rfl rfl (by kernel_rfl) (fun _ _ _ h => h) (Or.inl ⟨by rfl, ?_⟩) ?_ ?_
        rotate_left
        · intro w'
          go_simp
          with_reducible rfl
        rotate_left
        · simp only [Act.put, List.setIfInBounds_toArray, List.set_cons_zero, List.set_cons_succ, i64_w, i32_w]
          rfl
        refine done_ (by kernel_rfl) ?_
        try go_wp2
        go_roundg k1
        case measure => omega
        case rel =>
          refine ⟨j + min j (n - j), ?_, by omega, by omega, by omega, HO4, HB4⟩
          rw [IntWalk.wrap64_in _ ⟨by omega, by omega⟩]
          push_cast
          rfl
      · obtain rfl : j = n := by omega
        have hcb : decide ((j : Int) < (j : Int)) = false := decide_eq_false (by omega)
        go_wp2
        go_ret
        refine ⟨_, rfl, ?_, HB2⟩
        rw [Nat.sub_self, List.replicate_zero, List.append_nil, h] at HO
        exact HO

def impl_Lattice_index.f (a0_0 : Int) (a0_1 : Int) (a0_2 : Int) : Option (Int) := some (wrap64 (a0_0 * a0_2))
set_option maxHeartbeats 8000000 in
set_option maxRecDepth 100000 in
theorem impl_Lattice_index.calls (a0_0 : Int) (a0_1 : Int) (a0_2 : Int) (r : Int) (w : World) (h : impl_Lattice_index.f a0_0 a0_1 a0_2 = some r) :
    Calls Try.prog 49 #[.agg #[.int .i64 a0_0, .int .i64 a0_1, .int .i64 a0_2]] w fun e w' => e = .returned (.int .i64 r) ∧ Below w.heap.size w w' := by
  have hu25 := Try.underlying25
  have HB := Aside0.mk (Below.refl w.heap.size w)
  have H : (some (wrap64 (a0_0 * a0_2))) = some r := h
  clear h
  obtain rfl := Option.some.inj H
  go_enter Try.func49, Try.ntmps49
  go_wp2_with (first | ((with_reducible refine gate_dst (N := 1) rfl ?_); refine qbx 1 25 #[.int .i64 a0_0, .int .i64 a0_1, .int .i64 a0_2] ?_; intro gb202 hg w2 hbox hb; have BK202 := Aside0.mk (hbox); have GW202 := qgs HB hg; have GE202 := qgs HB hg; replace HB := qbs HB hb; clear hb hbox hg; have hcz3_0 := qc0 BK202; have hcz3_1 := qc1 BK202; have hcz3_2 := qc2 BK202; have hfz3_0 := blk_frozen BK202.out 0; have hfz3_1 := blk_frozen BK202.out 1; have hfz3_2 := blk_frozen BK202.out 2))
  go_ret
  exact ⟨qF, qB⟩

end Go.Proofs.Ytoajccbmikmjdaa.X

-- PRINTED by print.py (a twelfth state) out of the translation. Not trusted: Lean checks it.
import Derived.Test.YtoajccbmikmjdaaXQ
import Derived.Test.YtoajccbmikmjdaaX0
import Derived.Test.YtoajccbmikmjdaaX5
import Derived.Test.YtoajccbmikmjdaaX6
import Derived.Test.YtoajccbmikmjdaaX7
namespace Go.Proofs.Ytoajccbmikmjdaa.X
open Go.RowKit Go.Proofs.YtoajccbmikmjdaaX Go.Proofs.YtoajccbmikmjdaaW.PrintWords Go.Proofs.YtoajccbmikmjdaaW.PrintLast Go.Proofs.YtoajccbmikmjdaaW.PrintMore
attribute [local go_sem] max2_int min2_int max_two min_two max_three min_three max_four min_four   -- for this text's walks alone
set_option linter.unusedVariables false
set_option linter.unusedSimpArgs false

def impl_orbitOf.l0 : Nat → List (S43) → List (S63) → Int → Int → Int → Int → Int → Int → Int → Option ((List (S43)))
  | 0, _, _, _, _, _, _, _, _, _ => none
  | k + 1, x7, x11, x12, x13, x268000, x268001, x268002, x269000, x269001 => if x13 < x12 then (if 0 ≤ x13 then (if x13 < (x11.length : Int) then ((impl_Lattice_take.f x268000 x268001 x268002 ((rd_T63 x11 x13).f0.f0) ((rd_T63 x11 x13).f0.f1) ((rd_T63 x11 x13).f0.f2) ((rd_T63 x11 x13).f0.f3) ((rd_T63 x11 x13).f1.f0) ((rd_T63 x11 x13).f1.f1) x269000 x269001).bind fun bt274 => (if x7.length < 8796093022208 then (impl_orbitOf.l0 k (x7 ++ [(⟨bt274.1, bt274.2⟩ : S43)]) x11 x12 (wrap64 (x13 + 1)) x268000 x268001 x268002 x269000 x269001) else (none))) else (none)) else (none)) else ((SortFunc56_impl_compareVecs.f x7).bind fun t279 => ((impl_Vec_58.f k t279).bind fun t280 => (some t280)))
def impl_orbitOf.f (k : Nat) (a0_0 : Int) (a0_1 : Int) (a0_2 : Int) (l1 : List (S63)) (a2_0 : Int) (a2_1 : Int) : Option ((List (S43))) := impl_orbitOf.l0 k (([] : List (S43))) l1 (l1.length : Int) 0 a0_0 a0_1 a0_2 a2_0 a2_1
set_option maxHeartbeats 8000000 in
set_option maxRecDepth 100000 in
theorem impl_orbitOf.calls (k : Nat) (a0_0 : Int) (a0_1 : Int) (a0_2 : Int) (A1 : Option Addr) (c1 : Nat) (l1 : List (S63)) (a2_0 : Int) (a2_1 : Int) (r : List (S43)) (w : World) (hr1 : Kd.C k63 w A1 l1.length l1) (hc1 : l1.length ≤ c1) (h : impl_orbitOf.f k a0_0 a0_1 a0_2 l1 a2_0 a2_1 = some r) :
    Calls Try.prog 51 #[.agg #[.int .i64 a0_0, .int .i64 a0_1, .int .i64 a0_2], .slice A1 l1.length c1, .agg #[.int .i64 a2_0, .int .i64 a2_1]] w fun e w' => ∃ v0_ : Value, e = .returned (v0_) ∧ Kd.R k43 43 w' w.heap.size (fun _ => True) v0_ r ∧ Below w.heap.size w w' := by
  have hu25 := Try.underlying25
  have hu43 := Try.underlying43
  have hu63 := Try.underlying63
  have HR1 := Aside0.mk hr1
  have HC1 := Aside0.mk hc1
  clear hr1 hc1
  have HB := Aside0.mk (Below.refl w.heap.size w)
  have H : (impl_orbitOf.l0 k (([] : List (S43))) l1 (l1.length : Int) 0 a0_0 a0_1 a0_2 a2_0 a2_1) = some r := h
  clear h
  obtain ⟨y269, hy269⟩ : ∃ y_ : List (S43), y_ = (([] : List (S43))) := ⟨_, rfl⟩
  replace H : (impl_orbitOf.l0 k y269 l1 (l1.length : Int) 0 a0_0 a0_1 a0_2 a2_0 a2_1) = some r := by first | (rw [hy269]; with_reducible exact H) | (have H2_ := (Option.bind_some _ _).symm.trans H; rw [hy269]; with_reducible exact H2_) | (have H2_ := (Option.bind_some _ _).symm.trans H; with_reducible exact H2_) | with_reducible exact H | (rw [hy269]; exact H) | exact H
  have Ny269 := Aside0.mk hy269
  clear hy269
  have H' := Aside0.mk H
  clear H
  go_enter Try.func51, Try.ntmps51
  go_wp2_with (first | ((with_reducible refine gate_dst (N := 3) rfl ?_); refine qbx 3 25 #[.int .i64 a0_0, .int .i64 a0_1, .int .i64 a0_2] ?_; intro gb267 hg w4 hbox hb; have BK267 := Aside0.mk (hbox); have GW267 := qgs HB hg; have GE267 := qgs HB hg; replace HB := qbs HB hb; clear hb hbox hg) | ((with_reducible refine gate_dst (N := 5) rfl ?_); refine qbx 5 43 #[.int .i64 a2_0, .int .i64 a2_1] ?_; intro gb268 hg w5 hbox hb; have BK268 := Aside0.mk (hbox); have GW268 := qgs HB hg; have GE268 := qgs HB hg; replace HB := qbs HB hb; have NB267_268 := qnL BK267 hg; have NB268_267 := qnG BK267 hg; replace BK267 := qbb BK267 hb; clear hb hbox hg) | ((with_reducible refine gate_dst (N := 10) rfl ?_); refine Kd.R_lit k43 _ 43 ?hg (N := 10) ?hd (xs := ([] : List (S43))) (inner := []) (ok := fun _ => True) (okp := fun _ => True) ?hr ?hp (fun _ hk => hk) trivial (Below.refl _ _) (Nat.le_refl _) (by simp) ?_; (case hd => rfl); (case hg => rfl); (case hr => first | (go_simp; done) | (go_simp; rfl)); (case hp => exact (Reps.none _ _)); intro v270 w6 ho7 hb hg_ hnew_; clear hg_ hnew_; (first | rw [← Ny269.out] at ho7 | (simp only [Int.reduceToNat] at ho7; rw [← Ny269.out] at ho7)); have HO271 := Aside0.mk (Kd.R_lower (Kd.R_newB ho7 (g := gb268) (o := .cells #[.int .i64 a2_0, .int .i64 a2_1] 43 (0, 0)) (qp BK268.out)) (below_size qB)); replace BK267 := qbb BK267 hb; replace BK268 := qbb BK268 hb; replace HB := qbs HB hb; clear hb ho7))
  go_loopg [7, 13] k (fun kq v7 v13 w' => ∃ (x7_1 : List (S43)) (x13_1 : Int), v13 = .int .i64 x13_1 ∧ Aside0 (impl_orbitOf.l0 kq x7_1 l1 (l1.length : Int) x13_1 a0_0 a0_1 a0_2 a2_0 a2_1 = some r) ∧ Aside0 (kq ≤ k) ∧ Aside0 (Kd.R k43 43 w' w.heap.size (fun k_ => k_ ≠ gb268) v7 x7_1) ∧ Aside0 (w'.heap[gb267]? = some (.cells #[.int .i64 a0_0, .int .i64 a0_1, .int .i64 a0_2] 25 (0, 0))) ∧ Aside0 (w'.heap[gb268]? = some (.cells #[.int .i64 a2_0, .int .i64 a2_1] 43 (0, 0))) ∧ Aside0 (Below w.heap.size w w'))
  case atStart => exact ⟨(y269), (0), qf, H', ⟨Nat.le_refl _⟩, ⟨by (with_reducible repeat (first | apply Kd.R_alloc | apply Kd.R_drewN | apply Kd.R_drew)); exact Kd.R_mono HO271.out (fun _ hk => hk.2)⟩, ⟨by (with_reducible repeat (first | refine blk_drewN ?_ _ | refine blk_drew ?_ | refine blk_alloc ?_ _)); exact BK267.out⟩, ⟨by (with_reducible repeat (first | refine blk_drewN ?_ _ | refine blk_drew ?_ | refine blk_alloc ?_ _)); exact BK268.out⟩, ⟨qB⟩⟩
  case round =>
    clear H'
    try clear c1
    try clear p2
    try clear c5
    obtain ⟨x7_1, x13_1, rfl, HA, HK1, HO_7, BK267, BK268, HB⟩ := hrel
    cases gk with
    | zero => exact absurd HA.out (by simp [impl_orbitOf.l0])
    | succ k1 =>
      have H := HA.out
      clear HA
      simp only [impl_orbitOf.l0] at H
      by_cases c8 : x13_1 < (l1.length : Int)
      · rw [if_pos c8] at H
        have c8b0 : decide (x13_1 < (l1.length : Int)) = true := decide_eq_true c8
        clear c8
        by_cases c9 : 0 ≤ x13_1
        · rw [if_pos c9] at H
          have c9b0 : decide (0 ≤ x13_1) = true := decide_eq_true c9
          clear c9
          by_cases c10 : x13_1 < (l1.length : Int)
          · rw [if_pos c10] at H
            have c10b0 : decide (x13_1 < (l1.length : Int)) = true := decide_eq_true c10
            clear c10
            replace H := qbd H
            obtain ⟨⟨t274, t275⟩, A11, H⟩ := H
            try dsimp only at H
            by_cases c12 : x7_1.length < 8796093022208
            · rw [if_pos c12] at H
              have LMc12 := Aside0.mk c12
              clear c12
              obtain ⟨y276, hy276⟩ : ∃ y_ : List (S43), y_ = (x7_1 ++ [(⟨t274, t275⟩ : S43)]) := ⟨_, rfl⟩
              replace H : (impl_orbitOf.l0 k1 y276 l1 (l1.length : Int) (wrap64 (x13_1 + 1)) a0_0 a0_1 a0_2 a2_0 a2_1) = some r := by first | (rw [hy276]; with_reducible exact H) | (have H2_ := (Option.bind_some _ _).symm.trans H; rw [hy276]; with_reducible exact H2_) | (have H2_ := (Option.bind_some _ _).symm.trans H; with_reducible exact H2_) | with_reducible exact H | (rw [hy276]; exact H) | exact H
              have Ny276 := Aside0.mk hy276
              clear hy276
              have H' := Aside0.mk H
              clear H
              have p272 : 0 ≤ (x13_1 : Int) := qo
              have q272 : x13_1 < (l1.length : Int) := qo
              obtain ⟨ad272, e272, hx272_0, hx272_1, hx272_2, hx272_3, hx272_4, hx272_5⟩ := at_T63 HR1.out x13_1 p272 q272
              cases e272
              replace hx272_0 := (HB.out.cell (World.block_lt_of_cell? w _ hx272_0)).trans hx272_0
              replace hx272_1 := (HB.out.cell (World.block_lt_of_cell? w _ hx272_1)).trans hx272_1
              replace hx272_2 := (HB.out.cell (World.block_lt_of_cell? w _ hx272_2)).trans hx272_2
              replace hx272_3 := (HB.out.cell (World.block_lt_of_cell? w _ hx272_3)).trans hx272_3
              replace hx272_4 := (HB.out.cell (World.block_lt_of_cell? w _ hx272_4)).trans hx272_4
              replace hx272_5 := (HB.out.cell (World.block_lt_of_cell? w _ hx272_5)).trans hx272_5
              replace p272 := eq_true p272
              replace q272 := eq_true q272
              go_wp2_with (first | ((with_reducible refine gate_dst (N := 9) rfl ?_); refine qbx 9 63 #[.int .i64 0, .int .i64 0, .int .i64 0, .int .i64 0, .int .i64 0, .int .i64 0] ?_; intro gb273 hg w13 hbox hb; replace HO_7 := Aside0.mk (Kd.R_below (qR HO_7.out) hb); have BK273 := Aside0.mk (hbox); have GW273 := qgs HB hg; have GE273 := qgs HB hg; replace HB := qbs HB hb; have NB267_273 := qnL BK267 hg; have NB273_267 := qnG BK267 hg; replace BK267 := qbb BK267 hb; have NB268_273 := qnL BK268 hg; have NB273_268 := qnG BK268 hg; replace BK268 := qbb BK268 hb; clear hb hbox hg; have hnb14 := NB273_267.out; have hnc14 := NB267_273.out; have hnb15 := NB273_268.out; have hnc15 := NB268_273.out; have hcz16_0 := qc0 BK273; have hcz16_1 := qc1 BK273; have hcz16_2 := qc2 BK273; have hcz16_3 := qc3 BK273; have hcz16_4 := qc4 BK273; have hcz16_5 := qc5 BK273; have hfz16_0 := blk_frozen BK273.out 0; have hfz16_1 := blk_frozen BK273.out 1; have hfz16_2 := blk_frozen BK273.out 2; have hfz16_3 := blk_frozen BK273.out 3; have hfz16_4 := blk_frozen BK273.out 4; have hfz16_5 := blk_frozen BK273.out 5; have hnb17 := NB267_268.out; have hnc17 := NB268_267.out; have hcz18_0 := qc0 BK267; have hcz18_1 := qc1 BK267; have hcz18_2 := qc2 BK267; have hfz18_0 := blk_frozen BK267.out 0; have hfz18_1 := blk_frozen BK267.out 1; have hfz18_2 := blk_frozen BK267.out 2; have hcz19_0 := qc0 BK268; have hcz19_1 := qc1 BK268; have hfz19_0 := blk_frozen BK268.out 0; have hfz19_1 := blk_frozen BK268.out 1) | ((with_reducible refine gate_callee (f := 55) rfl ?_); refine qgl (some 21) Try.func55 #[.agg #[.int .i64 a0_0, .int .i64 a0_1, .int .i64 a0_2], .agg #[.int .i64 ((rd_T63 l1 x13_1).f0.f0), .int .i64 ((rd_T63 l1 x13_1).f0.f1), .int .i64 ((rd_T63 l1 x13_1).f0.f2), .int .i64 ((rd_T63 l1 x13_1).f0.f3), .int .i64 ((rd_T63 l1 x13_1).f1.f0), .int .i64 ((rd_T63 l1 x13_1).f1.f1)], .agg #[.int .i64 a2_0, .int .i64 a2_1]] ?_; (with_reducible refine (impl_Lattice_take.calls a0_0 a0_1 a0_2 ((rd_T63 l1 x13_1).f0.f0) ((rd_T63 l1 x13_1).f0.f1) ((rd_T63 l1 x13_1).f0.f2) ((rd_T63 l1 x13_1).f0.f3) ((rd_T63 l1 x13_1).f1.f0) ((rd_T63 l1 x13_1).f1.f1) a2_0 a2_1 t274 t275 _ A11.out).mono ?_); rintro e w20 ⟨rfl, hb⟩; refine ⟨_, rfl, ?_⟩; replace HO_7 := Aside0.mk (Kd.R_below (qR (Kd.R_mono (Kd.R_far (p := ⟨gb273, 5, none⟩) (Kd.R_far (p := ⟨gb273, 4, none⟩) (Kd.R_far (p := ⟨gb273, 3, none⟩) (Kd.R_far (p := ⟨gb273, 2, none⟩) (Kd.R_far (p := ⟨gb273, 1, none⟩) (Kd.R_far (p := ⟨gb273, 0, none⟩) (Kd.R_types HO_7.out BK273.out (by decide)) (fun _ hk => hk.2) (.int .i64 ((rd_T63 l1 x13_1).f0.f0))) (fun _ hk => hk.2) (.int .i64 ((rd_T63 l1 x13_1).f0.f1))) (fun _ hk => hk.2) (.int .i64 ((rd_T63 l1 x13_1).f0.f2))) (fun _ hk => hk.2) (.int .i64 ((rd_T63 l1 x13_1).f0.f3))) (fun _ hk => hk.2) (.int .i64 ((rd_T63 l1 x13_1).f1.f0))) (fun _ hk => hk.2) (.int .i64 ((rd_T63 l1 x13_1).f1.f1))) (fun _ h_ => h_.1))) hb); replace BK267 := qbq (g := gb267) (o := .cells #[.int .i64 a0_0, .int .i64 a0_1, .int .i64 a0_2] 25 (0, 0)) hb; replace BK268 := qbq (g := gb268) (o := .cells #[.int .i64 a2_0, .int .i64 a2_1] 43 (0, 0)) hb; replace BK273 := qbq (g := gb273) (o := .cells #[.int .i64 ((rd_T63 l1 x13_1).f0.f0), .int .i64 ((rd_T63 l1 x13_1).f0.f1), .int .i64 ((rd_T63 l1 x13_1).f0.f2), .int .i64 ((rd_T63 l1 x13_1).f0.f3), .int .i64 ((rd_T63 l1 x13_1).f1.f0), .int .i64 ((rd_T63 l1 x13_1).f1.f1)] 63 (0, 0)) hb; replace HB := qbs HB hb; (try clear hb); (try clear hk)) | ((with_reducible refine gate_builtin (b := .append) (xs := #[.tmp 17, .tmp 22]) rfl ?_); at_builtin; refine Kd.R_append k43 (w0 := w) w.heap.size rfl (.tmp 17) (.tmp 22) 84 43 (.agg #[(.int .i64 0), (.int .i64 0)]) 16 rfl Try.underlying84 info43 rfl (by decide) (by omega) u7 x7_1 (⟨t274, t275⟩ : S43) [.int .i64 t274, .int .i64 t275] (fun k_ => k_ ≠ gb268) (fun _ => False) rfl rfl ?aP (fun _ hk => hk.elim) ?aF ?aO ?aB ?aS ?aL ?_; (case aP => exact k43_mkM _ _ _ (⟨t274, t275⟩ : S43)); (case aB => exact qB); (case aF => exact (fun k_ hk => Kd.freshB (g := gb268) (o := .cells #[.int .i64 a2_0, .int .i64 a2_1] 43 (0, 0)) (qp BK268.out) k_ hk)); (case aO => exact (qR HO_7.out)); (case aS => exact (below_size qB)); (case aL => have := LMc12.out; omega); intro v277 w21 ho hb hg hat; rw [← Ny276.out] at ho; replace BK267 := Aside0.mk (blk_grown (g := gb267) (o := .cells #[.int .i64 a0_0, .int .i64 a0_1, .int .i64 a0_2] 25 (0, 0)) (qp BK267.out) hg (Kd.R_ne HO_7.out BK267.out (by decide))); replace BK268 := Aside0.mk (blk_grown (g := gb268) (o := .cells #[.int .i64 a2_0, .int .i64 a2_1] 43 (0, 0)) (qp BK268.out) hg (Kd.R_away HO_7.out (fun _ hk => hk))); replace BK273 := Aside0.mk (blk_grown (g := gb273) (o := .cells #[.int .i64 ((rd_T63 l1 x13_1).f0.f0), .int .i64 ((rd_T63 l1 x13_1).f0.f1), .int .i64 ((rd_T63 l1 x13_1).f0.f2), .int .i64 ((rd_T63 l1 x13_1).f0.f3), .int .i64 ((rd_T63 l1 x13_1).f1.f0), .int .i64 ((rd_T63 l1 x13_1).f1.f1)] 63 (0, 0)) (qp BK273.out) hg (Kd.R_ne HO_7.out BK273.out (by decide))); replace HB := Aside0.mk (hb); have HO278 := Aside0.mk (ho); clear HO_7; clear ho hb hg hat))
              go_roundg k1
              case measure => have := HK1.out; omega
              case rel => exact ⟨(y276), (wrap64 (x13_1 + 1)), qf, H', ⟨by have := HK1.out; omega⟩, ⟨by (with_reducible repeat (first | apply Kd.R_alloc | apply Kd.R_drewN | apply Kd.R_drew)); exact HO278.out⟩, ⟨by (with_reducible repeat (first | refine blk_drewN ?_ _ | refine blk_drew ?_ | refine blk_alloc ?_ _)); exact BK267.out⟩, ⟨by (with_reducible repeat (first | refine blk_drewN ?_ _ | refine blk_drew ?_ | refine blk_alloc ?_ _)); exact BK268.out⟩, ⟨qB⟩⟩
            · rw [if_neg c12] at H
              exact absurd H (by simp)
          · rw [if_neg c10] at H
            exact absurd H (by simp)
        · rw [if_neg c9] at H
          exact absurd H (by simp)
      · rw [if_neg c8] at H
        have c8b0 : decide (x13_1 < (l1.length : Int)) = false := decide_eq_false c8
        clear c8
        replace H := qbd H
        obtain ⟨t279, A22, H⟩ := H
        try dsimp only at H
        replace H := qbd H
        obtain ⟨t280, A23, H⟩ := H
        try dsimp only at H
        obtain rfl := Option.some.inj H
        obtain ⟨Ao24, co24, eo24⟩ := Kd.R_slice HO_7.out
        subst eo24
        go_wp2_with (first | ((with_reducible refine gate_callee (f := 56) rfl ?_); refine qgl (some 26) Try.func56 #[.slice Ao24 x7_1.length co24, .func (.func 57) #[] #[]] ?_; (with_reducible refine (SortFunc56_impl_compareVecs.calls (fun k_ => some k_ = (.slice Ao24 x7_1.length co24 : Value).ownBlock) (.slice Ao24 x7_1.length co24) x7_1  t279 w _ qB ?side2 A22.out).mono ?_); (case side2 => exact Kd.R_tight rfl HO_7.out); rintro e w25 ⟨rfl, hy0, hb, hkp⟩; refine ⟨_, rfl, ?_⟩; replace BK267 := Aside0.mk (blk_kept (qp BK267.out) hkp (fun hs_ => (fun e_ => (Kd.R_ne HO_7.out BK267.out (by decide)) e_) hs_)); replace BK268 := Aside0.mk (blk_kept (qp BK268.out) hkp (fun hs_ => (fun e_ => (Kd.R_away HO_7.out (fun _ hk => hk)) e_) hs_)); replace HO_7 := Aside0.mk (Kd.R_reok rfl hy0 (fun k_ e_ => HO_7.out.1 k_ e_)); replace HB := Aside0.mk (hb); (try clear hb); (try clear hkp); (try clear hy0)) | ((with_reducible refine gate_callee (f := 58) rfl ?_); refine qgl (some 28) Try.func58 #[.slice Ao24 x7_1.length co24] ?_; (with_reducible refine (impl_Vec_58.calls k1 (fun k_ => some k_ = (.slice Ao24 x7_1.length co24 : Value).ownBlock) (.slice Ao24 x7_1.length co24) t279 t280 w _ qB ?side2 A23.out).mono ?_); (case side2 => exact Kd.R_tight rfl HO_7.out); rintro e w26 ⟨v281, rfl, ho0, hb, hkp⟩; refine ⟨_, rfl, ?_⟩; replace BK267 := Aside0.mk (blk_kept (qp BK267.out) hkp (fun hs_ => (fun e_ => (Kd.R_ne HO_7.out BK267.out (by decide)) e_) hs_)); have HO282 := Aside0.mk (Kd.R_mono (ok' := fun k_ => k_ ≠ gb268) ho0 (fun k_ hk_ => Or.elim hk_ (fun hs_ => fun e_ => (Kd.R_away HO_7.out (fun _ hk => hk)) (by rw [← e_]; exact hs_)) (fun hn_ => (Kd.freshB (g := gb268) (o := .cells #[.int .i64 a2_0, .int .i64 a2_1] 43 (0, 0)) (qp BK268.out) k_ hn_)))); replace BK268 := Aside0.mk (blk_kept (qp BK268.out) hkp (fun hs_ => (fun e_ => (Kd.R_away HO_7.out (fun _ hk => hk)) e_) hs_)); replace HB := Aside0.mk (hb); clear HO_7; (try clear hb); (try clear hkp); (try clear ho0)))
        go_ret
        exact ⟨_, qF, by (with_reducible repeat (first | apply Kd.R_alloc | apply Kd.R_drewN | apply Kd.R_drew)); exact Kd.R_mono HO282.out (fun _ hk => trivial), qB⟩

mutual
def impl_orbitsOf.l0 : Nat → List (S63) → List (List (S43)) → List Int → List (S43) → Int → Int → Int → Int → Int → Option ((List (List (S43))) × List Int)
  | 0, _, _, _, _, _, _, _, _, _ => none
  | k + 1, x1, x6, x7, x19, x20, x21, x284000, x284001, x284002 => if x21 < x20 then (if 0 ≤ x21 then (if x21 < (x19.length : Int) then ((impl_Lattice_number.f x284000 x284001 x284002 ((rd_T43 x19 x21).f0) ((rd_T43 x19 x21).f1)).bind fun t299 => (if 0 ≤ t299 then (if t299 < (x7.length : Int) then (if (rd x7 t299) ≥ 0 then (impl_orbitsOf.l0 k x1 x6 x7 x19 x20 (wrap64 (x21 + 1)) x284000 x284001 x284002) else ((impl_orbitOf.f k x284000 x284001 x284002 x1 ((rd_T43 x19 x21).f0) ((rd_T43 x19 x21).f1)).bind fun t301 => (impl_orbitsOf.l1 k x1 x6 x7 t301 x19 x20 x21 (t301.length : Int) 0 x284000 x284001 x284002))) else (none)) else (none))) else (none)) else (none)) else (some (x6, x7))
def impl_orbitsOf.l1 : Nat → List (S63) → List (List (S43)) → List Int → List (S43) → List (S43) → Int → Int → Int → Int → Int → Int → Int → Option ((List (List (S43))) × List Int)
  | 0, _, _, _, _, _, _, _, _, _, _, _, _ => none
  | k + 1, x1, x6, x7, x10, x19, x20, x21, x37, x38, x284000, x284001, x284002 => if x38 < x37 then (if 0 ≤ x38 then (if x38 < (x10.length : Int) then ((impl_Lattice_number.f x284000 x284001 x284002 ((rd_T43 x10 x38).f0) ((rd_T43 x10 x38).f1)).bind fun t306 => (if 0 ≤ t306 then (if t306 < (x7.length : Int) then (impl_orbitsOf.l1 k x1 x6 (x7.set (t306 : Int).toNat (x6.length : Int)) x10 x19 x20 x21 x37 (wrap64 (x38 + 1)) x284000 x284001 x284002) else (none)) else (none))) else (none)) else (none)) else (if x6.length < 5864062014805 then (impl_orbitsOf.l0 k x1 (x6 ++ [x10]) x7 x19 x20 (wrap64 (x21 + 1)) x284000 x284001 x284002) else (none))
end
def impl_orbitsOf.f (k : Nat) (a0_0 : Int) (a0_1 : Int) (a0_2 : Int) (l1 : List (S63)) : Option ((List (List (S43))) × List Int) := (impl_Lattice_index.f a0_0 a0_1 a0_2).bind fun t290 => ((slices_Repeat_int64_int64.f (([(-1)] : List Int)) t290).bind fun t291 => ((impl_Lattice_cells.f k a0_0 a0_1 a0_2).bind fun t294 => (impl_orbitsOf.l0 k l1 (([] : List (List (S43)))) t291 t294 (t294.length : Int) 0 a0_0 a0_1 a0_2)))
set_option maxHeartbeats 8000000 in
set_option maxRecDepth 100000 in
theorem impl_orbitsOf.calls (k : Nat) (a0_0 : Int) (a0_1 : Int) (a0_2 : Int) (A1 : Option Addr) (c1 : Nat) (l1 : List (S63)) (r1 : List (List (S43))) (r2 : List Int) (w : World) (hr1 : Kd.C k63 w A1 l1.length l1) (hc1 : l1.length ≤ c1) (h : impl_orbitsOf.f k a0_0 a0_1 a0_2 l1 = some (r1, r2)) :
    Calls Try.prog 43 #[.agg #[.int .i64 a0_0, .int .i64 a0_1, .int .i64 a0_2], .slice A1 l1.length c1] w fun e w' => ∃ v0_ v1_ : Value, e = .returned (.tuple #[v0_, v1_]) ∧ Kd.S (Kd.slice 43 k43) 84 w' w.heap.size (fun _ => True) v0_ r1 ∧ Kd.R (Kd.int .i64) 2 w' w.heap.size (fun _ => True) v1_ r2 ∧ Below w.heap.size w w' := by
  have hu25 := Try.underlying25
  have hu43 := Try.underlying43
  have HR1 := Aside0.mk hr1
  have HC1 := Aside0.mk hc1
  clear hr1 hc1
  have HB := Aside0.mk (Below.refl w.heap.size w)
  have H : ((impl_Lattice_index.f a0_0 a0_1 a0_2).bind fun t290 => ((slices_Repeat_int64_int64.f (([(-1)] : List Int)) t290).bind fun t291 => ((impl_Lattice_cells.f k a0_0 a0_1 a0_2).bind fun t294 => (impl_orbitsOf.l0 k l1 (([] : List (List (S43)))) t291 t294 (t294.length : Int) 0 a0_0 a0_1 a0_2)))) = some (r1, r2) := h
  clear h
  obtain ⟨y284, hy284⟩ : ∃ y_ : List (List (S43)), y_ = (([] : List (List (S43)))) := ⟨_, rfl⟩
  replace H : ((impl_Lattice_index.f a0_0 a0_1 a0_2).bind fun t290 => ((slices_Repeat_int64_int64.f (([(-1)] : List Int)) t290).bind fun t291 => ((impl_Lattice_cells.f k a0_0 a0_1 a0_2).bind fun t294 => (impl_orbitsOf.l0 k l1 y284 t291 t294 (t294.length : Int) 0 a0_0 a0_1 a0_2)))) = some (r1, r2) := by first | (rw [hy284]; with_reducible exact H) | (have H2_ := (Option.bind_some _ _).symm.trans H; rw [hy284]; with_reducible exact H2_) | (have H2_ := (Option.bind_some _ _).symm.trans H; with_reducible exact H2_) | with_reducible exact H | (rw [hy284]; exact H) | exact H
  have Ny284 := Aside0.mk hy284
  clear hy284
  obtain ⟨y287, hy287⟩ : ∃ y_ : List Int, y_ = (([(-1)] : List Int)) := ⟨_, rfl⟩
  replace H : ((impl_Lattice_index.f a0_0 a0_1 a0_2).bind fun t290 => ((slices_Repeat_int64_int64.f y287 t290).bind fun t291 => ((impl_Lattice_cells.f k a0_0 a0_1 a0_2).bind fun t294 => (impl_orbitsOf.l0 k l1 y284 t291 t294 (t294.length : Int) 0 a0_0 a0_1 a0_2)))) = some (r1, r2) := by first | (rw [hy287]; with_reducible exact H) | (have H2_ := (Option.bind_some _ _).symm.trans H; rw [hy287]; with_reducible exact H2_) | (have H2_ := (Option.bind_some _ _).symm.trans H; with_reducible exact H2_) | with_reducible exact H | (rw [hy287]; exact H) | exact H
  have Ny287 := Aside0.mk hy287
  clear hy287
  replace H := qbd H
  obtain ⟨t290, A3, H⟩ := H
  try dsimp only at H
  replace H := qbd H
  obtain ⟨t291, A4, H⟩ := H
  try dsimp only at H
  replace H := qbd H
  obtain ⟨t294, A5, H⟩ := H
  try dsimp only at H
  have H' := Aside0.mk H
  clear H
  go_enter Try.func43, Try.ntmps43
  go_wp2_with (first | ((with_reducible refine gate_dst (N := 2) rfl ?_); refine qbx 2 25 #[.int .i64 a0_0, .int .i64 a0_1, .int .i64 a0_2] ?_; intro gb283 hg w6 hbox hb; have BK283 := Aside0.mk (hbox); have GW283 := qgs HB hg; have GE283 := qgs HB hg; replace HB := qbs HB hb; clear hb hbox hg) | ((with_reducible refine gate_dst (N := 13) rfl ?_); refine Kd.S_lit (Kd.slice 43 k43) _ 84 ?hg (N := 13) ?hd (xs := ([] : List (List (S43)))) (inner := []) (ok := fun _ => True) (okp := fun _ => True) ?hr ?hp (fun _ hk => hk) trivial (Below.refl _ _) (Nat.le_refl _) (by simp) ?_; (case hd => rfl); (case hg => rfl); (case hr => first | (go_simp; done) | (go_simp; rfl)); (case hp => exact (Reps.none _ _)); intro v285 w7 ho8 hb hg_ hnew_; clear hg_ hnew_; (first | rw [← Ny284.out] at ho8 | (simp only [Int.reduceToNat] at ho8; rw [← Ny284.out] at ho8)); have HO286 := Aside0.mk (Kd.S_lower ho8 (below_size qB)); replace BK283 := qbb BK283 hb; replace HB := qbs HB hb; clear hb ho8) | ((with_reducible refine gate_dst (N := 14) rfl ?_); refine Kd.R_lit (Kd.int .i64) _ 2 ?hg (N := 14) ?hd (xs := ([(-1)] : List Int)) (inner := [.int .i64 (-1)]) (ok := fun _ => True) (okp := fun _ => True) ?hr ?hp (fun _ hk => hk) trivial (Below.refl _ _) (Nat.le_refl _) (by simp) ?_; (case hd => rfl); (case hg => rfl); (case hr => first | (go_simp; done) | (go_simp; rfl)); (case hp => exact (Reps.one (show Kd.M (Kd.int .i64) _ _ _ (-1) [.int .i64 (-1)] from rfl) (Reps.none _ _))); intro v288 w9 ho10 hb hg_ hnew_; clear hg_ hnew_; (first | rw [← Ny287.out] at ho10 | (simp only [Int.reduceToNat] at ho10; rw [← Ny287.out] at ho10)); replace HO286 := Aside0.mk (Kd.S_below (by (with_reducible repeat (first | apply Kd.S_alloc | apply Kd.S_drewN | apply Kd.S_drew)); exact HO286.out) hb); have HO289 := Aside0.mk (Kd.R_lower ho10 (below_size qB)); replace BK283 := qbb BK283 hb; replace HB := qbs HB hb; clear hb ho10; have hcz11_0 := qc0 BK283; have hcz11_1 := qc1 BK283; have hcz11_2 := qc2 BK283; have hfz11_0 := blk_frozen BK283.out 0; have hfz11_1 := blk_frozen BK283.out 1; have hfz11_2 := blk_frozen BK283.out 2) | ((with_reducible refine gate_callee (f := 49) rfl ?_); refine qgl (some 16) Try.func49 #[.agg #[.int .i64 a0_0, .int .i64 a0_1, .int .i64 a0_2]] ?_; (with_reducible refine (impl_Lattice_index.calls a0_0 a0_1 a0_2 t290 _ A3.out).mono ?_); rintro e w12 ⟨rfl, hb⟩; refine ⟨_, rfl, ?_⟩; replace HO286 := Aside0.mk (Kd.S_below (by (with_reducible repeat (first | apply Kd.S_alloc | apply Kd.S_drewN | apply Kd.S_drew)); exact HO286.out) hb); replace HO289 := Aside0.mk (Kd.R_below (qR HO289.out) hb); replace BK283 := qbb BK283 hb; replace HB := qbs HB hb; (try clear hb); obtain ⟨Ao13, co13, eo13⟩ := Kd.R_slice HO289.out; subst eo13) | ((with_reducible refine gate_callee (f := 48) rfl ?_); refine qgl (some 17) Try.func48 #[.slice Ao13 y287.length co13, .int .i64 t290] ?_; (with_reducible refine (slices_Repeat_int64_int64.calls _ _ y287 t290 t291 _ (qC ((Kd.R_reads' HO289.out).2.2)) ((Kd.R_reads' HO289.out).2.1) A4.out).mono ?_); rintro e w14 ⟨v292, rfl, ho0, hb⟩; refine ⟨_, rfl, ?_⟩; replace HO286 := Aside0.mk (Kd.S_below (by (with_reducible repeat (first | apply Kd.S_alloc | apply Kd.S_drewN | apply Kd.S_drew)); exact HO286.out) hb); have HO293 := Aside0.mk (Kd.R_lower (Kd.R_new' ho0 (Kd.R_lt (qR HO289.out))) (below_size qB)); replace HO289 := Aside0.mk (Kd.R_elder' (qR HO289.out) (Kd.R_base ho0) hb); replace BK283 := qbb BK283 hb; replace HB := qbs HB hb; (try clear hb); (try clear ho0); have hcz15_0 := qc0 BK283; have hcz15_1 := qc1 BK283; have hcz15_2 := qc2 BK283; have hfz15_0 := blk_frozen BK283.out 0; have hfz15_1 := blk_frozen BK283.out 1; have hfz15_2 := blk_frozen BK283.out 2) | ((with_reducible refine gate_callee (f := 50) rfl ?_); refine qgl (some 19) Try.func50 #[.agg #[.int .i64 a0_0, .int .i64 a0_1, .int .i64 a0_2]] ?_; (with_reducible refine (impl_Lattice_cells.calls k a0_0 a0_1 a0_2 t294 _ A5.out).mono ?_); rintro e w16 ⟨v295, rfl, ho0, hb⟩; refine ⟨_, rfl, ?_⟩; replace HO286 := Aside0.mk (Kd.S_elder' (by (with_reducible repeat (first | apply Kd.S_alloc | apply Kd.S_drewN | apply Kd.S_drew)); exact HO286.out) (Kd.R_base ho0) hb); replace HO289 := Aside0.mk (Kd.R_below (qR HO289.out) hb); replace HO293 := Aside0.mk (Kd.R_below (qR HO293.out) hb); have HO296 := Aside0.mk (Kd.R_lower ho0 (below_size qB)); replace BK283 := qbb BK283 hb; replace HB := qbs HB hb; (try clear hb); (try clear ho0); obtain ⟨Ao17, co17, eo17⟩ := Kd.R_slice HO296.out; subst eo17))
  go_loopg [6, 21] k (fun kq v6 v21 w' => ∃ (x6_1 : List (List (S43))) (x7_1 : List Int) (x21_1 : Int), v21 = .int .i64 x21_1 ∧ Aside0 (impl_orbitsOf.l0 kq l1 x6_1 x7_1 t294 (t294.length : Int) x21_1 a0_0 a0_1 a0_2 = some (r1, r2)) ∧ Aside0 (kq ≤ k) ∧ Aside0 (Kd.S (Kd.slice 43 k43) 84 w' w.heap.size (fun k_ => some k_ ≠ ((.slice Ao17 t294.length co17) : Value).ownBlock) v6 x6_1) ∧ Aside0 (Kd.R (Kd.int .i64) 2 w' w.heap.size (fun _ => True) v292 x7_1) ∧ Aside0 (Kd.R k43 43 w' w.heap.size (fun _ => True) (.slice Ao17 t294.length co17) t294) ∧ Aside0 (w'.heap[gb283]? = some (.cells #[.int .i64 a0_0, .int .i64 a0_1, .int .i64 a0_2] 25 (0, 0))) ∧ Aside0 (Below w.heap.size w w'))
  case atStart => exact ⟨(y284), (t291), (0), qf, H', ⟨Nat.le_refl _⟩, ⟨by (with_reducible repeat (first | apply Kd.S_alloc | apply Kd.S_drewN | apply Kd.S_drew)); exact Kd.S_mono HO286.out (fun _ hk => hk.2)⟩, ⟨by (with_reducible repeat (first | apply Kd.R_alloc | apply Kd.R_drewN | apply Kd.R_drew)); exact Kd.R_mono HO293.out (fun _ hk => trivial)⟩, ⟨by (with_reducible repeat (first | apply Kd.R_alloc | apply Kd.R_drewN | apply Kd.R_drew)); exact HO296.out⟩, ⟨by (with_reducible repeat (first | refine blk_drewN ?_ _ | refine blk_drew ?_ | refine blk_alloc ?_ _)); exact BK283.out⟩, ⟨qB⟩⟩
  case round =>
    clear H'
    try clear c1
    try clear p2
    try clear c4
    try clear c5
    try clear hcz11_0
    try clear hcz11_1
    try clear hcz11_2
    try clear hcz15_0
    try clear hcz15_1
    try clear hcz15_2
    try clear hfz11_0
    try clear hfz11_1
    try clear hfz11_2
    try clear hfz15_0
    try clear hfz15_1
    try clear hfz15_2
    obtain ⟨x6_1, x7_1, x21_1, rfl, HA, HK1, HO_6, HO_7, HO_19, BK283, HB⟩ := hrel
    cases gk with
    | zero => exact absurd HA.out (by simp [impl_orbitsOf.l0])
    | succ k1 =>
      have H := HA.out
      clear HA
      simp only [impl_orbitsOf.l0] at H
      by_cases c18 : x21_1 < (t294.length : Int)
      · rw [if_pos c18] at H
        have c18b0 : decide (x21_1 < (t294.length : Int)) = true := decide_eq_true c18
        clear c18
        by_cases c19 : 0 ≤ x21_1
        · rw [if_pos c19] at H
          have c19b0 : decide (0 ≤ x21_1) = true := decide_eq_true c19
          clear c19
          by_cases c20 : x21_1 < (t294.length : Int)
          · rw [if_pos c20] at H
            have c20b0 : decide (x21_1 < (t294.length : Int)) = true := decide_eq_true c20
            clear c20
            replace H := qbd H
            obtain ⟨t299, A21, H⟩ := H
            try dsimp only at H
            by_cases c22 : 0 ≤ t299
            · rw [if_pos c22] at H
              have c22b0 : decide (0 ≤ t299) = true := decide_eq_true c22
              clear c22
              by_cases c23 : t299 < (x7_1.length : Int)
              · rw [if_pos c23] at H
                have c23b0 : decide (t299 < (x7_1.length : Int)) = true := decide_eq_true c23
                clear c23
                by_cases c24 : (rd x7_1 t299) ≥ 0
                · rw [if_pos c24] at H
                  have c24b0 : decide (0 ≤ (rd x7_1 t299)) = true := decide_eq_true c24
                  clear c24
                  have H' := Aside0.mk H
                  clear H
                  have p297 : 0 ≤ (x21_1 : Int) := qo
                  have q297 : x21_1 < (t294.length : Int) := qo
                  obtain ⟨ad297, e297, hx297_0, hx297_1⟩ := at_T43 (Kd.R_reads' HO_19.out).2.2 x21_1 p297 q297
                  cases e297
                  replace p297 := eq_true p297
                  replace q297 := eq_true q297
                  go_wp2_with (first | ((with_reducible refine gate_dst (N := 9) rfl ?_); refine qbx 9 43 #[.int .i64 0, .int .i64 0] ?_; intro gb298 hg w25 hbox hb; replace HO_6 := Aside0.mk (Kd.S_below (Kd.S_elderB (by (with_reducible repeat (first | apply Kd.S_alloc | apply Kd.S_drewN | apply Kd.S_drew)); exact HO_6.out) gb298 (Nat.le_of_eq hg.symm)) hb); replace HO_7 := Aside0.mk (Kd.R_below (qR HO_7.out) hb); replace HO_19 := Aside0.mk (Kd.R_below (Kd.R_elderB (qR HO_19.out) gb298 (Nat.le_of_eq hg.symm)) hb); have BK298 := Aside0.mk (hbox); have GW298 := qgs HB hg; have GE298 := qgs HB hg; replace HB := qbs HB hb; have NB283_298 := qnL BK283 hg; have NB298_283 := qnG BK283 hg; replace BK283 := qbb BK283 hb; clear hb hbox hg; have hnb26 := NB298_283.out; have hnc26 := NB283_298.out; have hcz27_0 := qc0 BK298; have hcz27_1 := qc1 BK298; have hfz27_0 := blk_frozen BK298.out 0; have hfz27_1 := blk_frozen BK298.out 1; have hcz28_0 := qc0 BK283; have hcz28_1 := qc1 BK283; have hcz28_2 := qc2 BK283; have hfz28_0 := blk_frozen BK283.out 0; have hfz28_1 := blk_frozen BK283.out 1; have hfz28_2 := blk_frozen BK283.out 2) | ((with_reducible refine gate_callee (f := 45) rfl ?_); refine qgl (some 28) Try.func45 #[.agg #[.int .i64 a0_0, .int .i64 a0_1, .int .i64 a0_2], .agg #[.int .i64 ((rd_T43 t294 x21_1).f0), .int .i64 ((rd_T43 t294 x21_1).f1)]] ?_; (with_reducible refine (impl_Lattice_number.calls a0_0 a0_1 a0_2 ((rd_T43 t294 x21_1).f0) ((rd_T43 t294 x21_1).f1) t299 _ A21.out).mono ?_); rintro e w29 ⟨rfl, hb⟩; refine ⟨_, rfl, ?_⟩; replace HO_6 := Aside0.mk (Kd.S_below (by (with_reducible repeat (first | apply Kd.S_alloc | apply Kd.S_drewN | apply Kd.S_drew)); exact (Kd.S_mono (Kd.S_far (p := ⟨gb298, 1, none⟩) (Kd.S_far (p := ⟨gb298, 0, none⟩) (Kd.S_mono HO_6.out (fun k_ hk => (⟨hk, hk.2⟩ : _ ∧ k_ ≠ gb298))) (fun _ hk => hk.2) (.int .i64 ((rd_T43 t294 x21_1).f0))) (fun _ hk => hk.2) (.int .i64 ((rd_T43 t294 x21_1).f1))) (fun _ h_ => h_.1))) hb); replace HO_7 := Aside0.mk (Kd.R_below (qR (Kd.R_mono (Kd.R_far (p := ⟨gb298, 1, none⟩) (Kd.R_far (p := ⟨gb298, 0, none⟩) (Kd.R_types HO_7.out BK298.out (by decide)) (fun _ hk => hk.2) (.int .i64 ((rd_T43 t294 x21_1).f0))) (fun _ hk => hk.2) (.int .i64 ((rd_T43 t294 x21_1).f1))) (fun _ h_ => h_.1))) hb); replace HO_19 := Aside0.mk (Kd.R_below (qR (Kd.R_mono (Kd.R_far (p := ⟨gb298, 1, none⟩) (Kd.R_far (p := ⟨gb298, 0, none⟩) (Kd.R_mono HO_19.out (fun k_ hk => (⟨hk, hk.2⟩ : _ ∧ k_ ≠ gb298))) (fun _ hk => hk.2) (.int .i64 ((rd_T43 t294 x21_1).f0))) (fun _ hk => hk.2) (.int .i64 ((rd_T43 t294 x21_1).f1))) (fun _ h_ => h_.1))) hb); replace BK283 := qbq (g := gb283) (o := .cells #[.int .i64 a0_0, .int .i64 a0_1, .int .i64 a0_2] 25 (0, 0)) hb; replace BK298 := qbq (g := gb298) (o := .cells #[.int .i64 ((rd_T43 t294 x21_1).f0), .int .i64 ((rd_T43 t294 x21_1).f1)] 43 (0, 0)) hb; replace HB := qbs HB hb; (try clear hb); (try clear hk); obtain ⟨Ao30, co30, eo30⟩ := Kd.R_slice HO_7.out; subst eo30; have p300 : 0 ≤ (t299 : Int) := qo; have q300 : t299 < (x7_1.length : Int) := qo; obtain ⟨ad300, e300, hx300_0⟩ := Kd.at_int (Kd.R_reads' HO_7.out).2.2 t299 p300 q300; cases e300; replace p300 := eq_true p300; replace q300 := eq_true q300))
                  go_roundg k1
                  case measure => have := HK1.out; omega
                  case rel => exact ⟨(x6_1), (x7_1), (wrap64 (x21_1 + 1)), qf, H', ⟨by have := HK1.out; omega⟩, ⟨by (with_reducible repeat (first | apply Kd.S_alloc | apply Kd.S_drewN | apply Kd.S_drew)); exact Kd.S_mono HO_6.out (fun _ hk => hk.1)⟩, ⟨by (with_reducible repeat (first | apply Kd.R_alloc | apply Kd.R_drewN | apply Kd.R_drew)); exact HO_7.out⟩, ⟨by (with_reducible repeat (first | apply Kd.R_alloc | apply Kd.R_drewN | apply Kd.R_drew)); exact Kd.R_mono HO_19.out (fun _ hk => trivial)⟩, ⟨by (with_reducible repeat (first | refine blk_drewN ?_ _ | refine blk_drew ?_ | refine blk_alloc ?_ _)); exact BK283.out⟩, ⟨qB⟩⟩
                · rw [if_neg c24] at H
                  have c24b0 : decide (0 ≤ (rd x7_1 t299)) = false := decide_eq_false c24
                  clear c24
                  replace H := qbd H
                  obtain ⟨t301, A31, H⟩ := H
                  try dsimp only at H
                  have H' := Aside0.mk H
                  clear H
                  have p297 : 0 ≤ (x21_1 : Int) := qo
                  have q297 : x21_1 < (t294.length : Int) := qo
                  obtain ⟨ad297, e297, hx297_0, hx297_1⟩ := at_T43 (Kd.R_reads' HO_19.out).2.2 x21_1 p297 q297
                  cases e297
                  replace p297 := eq_true p297
                  replace q297 := eq_true q297
                  go_wp2_with (first | ((with_reducible refine gate_dst (N := 9) rfl ?_); refine qbx 9 43 #[.int .i64 0, .int .i64 0] ?_; intro gb298 hg w32 hbox hb; replace HO_6 := Aside0.mk (Kd.S_below (Kd.S_elderB (by (with_reducible repeat (first | apply Kd.S_alloc | apply Kd.S_drewN | apply Kd.S_drew)); exact HO_6.out) gb298 (Nat.le_of_eq hg.symm)) hb); replace HO_7 := Aside0.mk (Kd.R_below (qR HO_7.out) hb); replace HO_19 := Aside0.mk (Kd.R_below (Kd.R_elderB (qR HO_19.out) gb298 (Nat.le_of_eq hg.symm)) hb); have BK298 := Aside0.mk (hbox); have GW298 := qgs HB hg; have GE298 := qgs HB hg; replace HB := qbs HB hb; have NB283_298 := qnL BK283 hg; have NB298_283 := qnG BK283 hg; replace BK283 := qbb BK283 hb; clear hb hbox hg; have hnb33 := NB298_283.out; have hnc33 := NB283_298.out; have hcz34_0 := qc0 BK298; have hcz34_1 := qc1 BK298; have hfz34_0 := blk_frozen BK298.out 0; have hfz34_1 := blk_frozen BK298.out 1; have hcz35_0 := qc0 BK283; have hcz35_1 := qc1 BK283; have hcz35_2 := qc2 BK283; have hfz35_0 := blk_frozen BK283.out 0; have hfz35_1 := blk_frozen BK283.out 1; have hfz35_2 := blk_frozen BK283.out 2) | ((with_reducible refine gate_callee (f := 45) rfl ?_); refine qgl (some 28) Try.func45 #[.agg #[.int .i64 a0_0, .int .i64 a0_1, .int .i64 a0_2], .agg #[.int .i64 ((rd_T43 t294 x21_1).f0), .int .i64 ((rd_T43 t294 x21_1).f1)]] ?_; (with_reducible refine (impl_Lattice_number.calls a0_0 a0_1 a0_2 ((rd_T43 t294 x21_1).f0) ((rd_T43 t294 x21_1).f1) t299 _ A21.out).mono ?_); rintro e w36 ⟨rfl, hb⟩; refine ⟨_, rfl, ?_⟩; replace HO_6 := Aside0.mk (Kd.S_below (by (with_reducible repeat (first | apply Kd.S_alloc | apply Kd.S_drewN | apply Kd.S_drew)); exact (Kd.S_mono (Kd.S_far (p := ⟨gb298, 1, none⟩) (Kd.S_far (p := ⟨gb298, 0, none⟩) (Kd.S_mono HO_6.out (fun k_ hk => (⟨hk, hk.2⟩ : _ ∧ k_ ≠ gb298))) (fun _ hk => hk.2) (.int .i64 ((rd_T43 t294 x21_1).f0))) (fun _ hk => hk.2) (.int .i64 ((rd_T43 t294 x21_1).f1))) (fun _ h_ => h_.1))) hb); replace HO_7 := Aside0.mk (Kd.R_below (qR (Kd.R_mono (Kd.R_far (p := ⟨gb298, 1, none⟩) (Kd.R_far (p := ⟨gb298, 0, none⟩) (Kd.R_types HO_7.out BK298.out (by decide)) (fun _ hk => hk.2) (.int .i64 ((rd_T43 t294 x21_1).f0))) (fun _ hk => hk.2) (.int .i64 ((rd_T43 t294 x21_1).f1))) (fun _ h_ => h_.1))) hb); replace HO_19 := Aside0.mk (Kd.R_below (qR (Kd.R_mono (Kd.R_far (p := ⟨gb298, 1, none⟩) (Kd.R_far (p := ⟨gb298, 0, none⟩) (Kd.R_mono HO_19.out (fun k_ hk => (⟨hk, hk.2⟩ : _ ∧ k_ ≠ gb298))) (fun _ hk => hk.2) (.int .i64 ((rd_T43 t294 x21_1).f0))) (fun _ hk => hk.2) (.int .i64 ((rd_T43 t294 x21_1).f1))) (fun _ h_ => h_.1))) hb); replace BK283 := qbq (g := gb283) (o := .cells #[.int .i64 a0_0, .int .i64 a0_1, .int .i64 a0_2] 25 (0, 0)) hb; replace BK298 := qbq (g := gb298) (o := .cells #[.int .i64 ((rd_T43 t294 x21_1).f0), .int .i64 ((rd_T43 t294 x21_1).f1)] 43 (0, 0)) hb; replace HB := qbs HB hb; (try clear hb); (try clear hk); obtain ⟨Ao37, co37, eo37⟩ := Kd.R_slice HO_7.out; subst eo37; have p300 : 0 ≤ (t299 : Int) := qo; have q300 : t299 < (x7_1.length : Int) := qo; obtain ⟨ad300, e300, hx300_0⟩ := Kd.at_int (Kd.R_reads' HO_7.out).2.2 t299 p300 q300; cases e300; replace p300 := eq_true p300; replace q300 := eq_true q300; have hcz38_0 := qc0 BK283; have hcz38_1 := qc1 BK283; have hcz38_2 := qc2 BK283; have hfz38_0 := blk_frozen BK283.out 0; have hfz38_1 := blk_frozen BK283.out 1; have hfz38_2 := blk_frozen BK283.out 2; have hcz39_0 := qc0 BK298; have hcz39_1 := qc1 BK298; have hfz39_0 := blk_frozen BK298.out 0; have hfz39_1 := blk_frozen BK298.out 1) | ((with_reducible refine gate_callee (f := 51) rfl ?_); refine qgl (some 35) Try.func51 #[.agg #[.int .i64 a0_0, .int .i64 a0_1, .int .i64 a0_2], .slice A1 l1.length c1, .agg #[.int .i64 ((rd_T43 t294 x21_1).f0), .int .i64 ((rd_T43 t294 x21_1).f1)]] ?_; (with_reducible refine (impl_orbitOf.calls k1 a0_0 a0_1 a0_2 _ _ l1 ((rd_T43 t294 x21_1).f0) ((rd_T43 t294 x21_1).f1) t301 _ (qC (Kd.C_below HR1.out HB.out)) HC1.out A31.out).mono ?_); rintro e w40 ⟨v302, rfl, ho0, hb⟩; refine ⟨_, rfl, ?_⟩; replace HO_6 := Aside0.mk (Kd.S_elder' (by (with_reducible repeat (first | apply Kd.S_alloc | apply Kd.S_drewN | apply Kd.S_drew)); exact HO_6.out) (Kd.R_base ho0) hb); replace HO_7 := Aside0.mk (Kd.R_below (qR HO_7.out) hb); have HO303 := Aside0.mk (Kd.R_lower (Kd.R_newB (Kd.R_new' ho0 (Kd.R_lt (qR HO_19.out))) (g := gb298) (o := .cells #[.int .i64 ((rd_T43 t294 x21_1).f0), .int .i64 ((rd_T43 t294 x21_1).f1)] 43 (0, 0)) (qp BK298.out)) (below_size qB)); replace HO_19 := Aside0.mk (Kd.R_elder' (qR HO_19.out) (Kd.R_base ho0) hb); replace BK283 := qbb BK283 hb; replace BK298 := qbb BK298 hb; replace HB := qbs HB hb; (try clear hb); (try clear ho0); obtain ⟨Ao41, co41, eo41⟩ := Kd.R_slice HO303.out; subst eo41))
                  (try generalize Value.pointer (some (ad297.add (x21_1.toNat * 2))) = dp_0)
                  (try generalize Value.pointer (some (ad300.add (t299.toNat))) = dp_1)
                  go_loopg [38] k1 (fun kq v38 w' => ∃ (x7_2 : List Int) (x38_2 : Int), v38 = .int .i64 x38_2 ∧ Aside0 (impl_orbitsOf.l1 kq l1 x6_1 x7_2 t301 t294 (t294.length : Int) x21_1 (t301.length : Int) x38_2 a0_0 a0_1 a0_2 = some (r1, r2)) ∧ Aside0 (kq ≤ k1) ∧ Aside0 (Kd.S (Kd.slice 43 k43) 84 w' w.heap.size (fun k_ => some k_ ≠ ((.slice Ao41 t301.length co41) : Value).ownBlock ∧ some k_ ≠ ((.slice (some ad297) t294.length co17) : Value).ownBlock ∧ k_ ≠ gb298) u6 x6_1) ∧ Aside0 (Kd.R (Kd.int .i64) 2 w' w.heap.size (fun _ => True) (.slice (some ad300) x7_1.length co37) x7_2) ∧ Aside0 (Kd.R k43 43 w' w.heap.size (fun k_ => some k_ ≠ ((.slice (some ad297) t294.length co17) : Value).ownBlock ∧ k_ ≠ gb298) (.slice Ao41 t301.length co41) t301) ∧ Aside0 (Kd.R k43 43 w' w.heap.size (fun k_ => some k_ ≠ ((.slice Ao41 t301.length co41) : Value).ownBlock ∧ k_ ≠ gb298) (.slice (some ad297) t294.length co17) t294) ∧ Aside0 (w'.heap[gb283]? = some (.cells #[.int .i64 a0_0, .int .i64 a0_1, .int .i64 a0_2] 25 (0, 0))) ∧ Aside0 (w'.heap[gb298]? = some (.cells #[.int .i64 ((rd_T43 t294 x21_1).f0), .int .i64 ((rd_T43 t294 x21_1).f1)] 43 (0, 0))) ∧ Aside0 (Below w.heap.size w w'))
                  case atStart => exact ⟨(x7_1), (0), qf, H', ⟨Nat.le_refl _⟩, ⟨by (with_reducible repeat (first | apply Kd.S_alloc | apply Kd.S_drewN | apply Kd.S_drew)); exact Kd.S_mono HO_6.out (fun _ hk => ⟨hk.2, ⟨hk.1.1, hk.1.2⟩⟩)⟩, ⟨by (with_reducible repeat (first | apply Kd.R_alloc | apply Kd.R_drewN | apply Kd.R_drew)); exact HO_7.out⟩, ⟨by (with_reducible repeat (first | apply Kd.R_alloc | apply Kd.R_drewN | apply Kd.R_drew)); exact Kd.R_mono HO303.out (fun _ hk => ⟨hk.1.2, hk.2⟩)⟩, ⟨by (with_reducible repeat (first | apply Kd.R_alloc | apply Kd.R_drewN | apply Kd.R_drew)); exact Kd.R_mono HO_19.out (fun _ hk => ⟨hk.2, hk.1.2⟩)⟩, ⟨by (with_reducible repeat (first | refine blk_drewN ?_ _ | refine blk_drew ?_ | refine blk_alloc ?_ _)); exact BK283.out⟩, ⟨by (with_reducible repeat (first | refine blk_drewN ?_ _ | refine blk_drew ?_ | refine blk_alloc ?_ _)); exact BK298.out⟩, ⟨qB⟩⟩
                  case round =>
                    clear H'
                    try clear c1
                    try clear c2
                    try clear p2
                    try clear q2
                    try clear hx2
                    try clear c3
                    try clear p3
                    try clear q3
                    try clear hx3
                    try clear c4
                    try clear c5
                    try clear p6
                    try clear c18
                    try clear c18b0
                    try clear c19
                    try clear c19b0
                    try clear c20
                    try clear c20b0
                    try clear c22
                    try clear c22b0
                    try clear c23
                    try clear c23b0
                    try clear c24
                    try clear c24b0
                    try clear c26
                    try clear p29
                    try clear q29
                    try clear hx29
                    try clear p30
                    try clear q30
                    try clear hx30
                    try clear c33
                    try clear hcz11_0
                    try clear hcz11_1
                    try clear hcz11_2
                    try clear hcz15_0
                    try clear hcz15_1
                    try clear hcz15_2
                    try clear hcz27_0
                    try clear hcz27_1
                    try clear hcz28_0
                    try clear hcz28_1
                    try clear hcz28_2
                    try clear hcz34_0
                    try clear hcz34_1
                    try clear hcz35_0
                    try clear hcz35_1
                    try clear hcz35_2
                    try clear hcz38_0
                    try clear hcz38_1
                    try clear hcz38_2
                    try clear hcz39_0
                    try clear hcz39_1
                    try clear hfz11_0
                    try clear hfz11_1
                    try clear hfz11_2
                    try clear hfz15_0
                    try clear hfz15_1
                    try clear hfz15_2
                    try clear hfz27_0
                    try clear hfz27_1
                    try clear hfz28_0
                    try clear hfz28_1
                    try clear hfz28_2
                    try clear hfz34_0
                    try clear hfz34_1
                    try clear hfz35_0
                    try clear hfz35_1
                    try clear hfz35_2
                    try clear hfz38_0
                    try clear hfz38_1
                    try clear hfz38_2
                    try clear hfz39_0
                    try clear hfz39_1
                    try clear hx297_0
                    try clear hx297_1
                    try clear hx300_0
                    try clear p2
                    try clear p297
                    try clear p300
                    try clear q297
                    try clear q300
                    obtain ⟨x7_2, x38_2, rfl, HA, HK2, HO_6, HO_7, HO_10, HO_19, BK283, BK298, HB⟩ := hrel
                    have hl7_2 := (Kd.R_reads' HO_7.out).1
                    rw [hl7_2] at HO_7
                    (try simp only [hl7_2])
                    (try simp only [hl7_2] at BK283)
                    (try simp only [hl7_2] at BK298)
                    (try simp only [hl7_2] at HO_6)
                    (try simp only [hl7_2] at HO_10)
                    (try simp only [hl7_2] at HO_19)
                    cases gk with
                    | zero => exact absurd HA.out (by simp [impl_orbitsOf.l1])
                    | succ k2 =>
                      have H := HA.out
                      clear HA
                      simp only [impl_orbitsOf.l1] at H
                      by_cases c42 : x38_2 < (t301.length : Int)
                      · rw [if_pos c42] at H
                        have c42b0 : decide (x38_2 < (t301.length : Int)) = true := decide_eq_true c42
                        clear c42
                        by_cases c43 : 0 ≤ x38_2
                        · rw [if_pos c43] at H
                          have c43b0 : decide (0 ≤ x38_2) = true := decide_eq_true c43
                          clear c43
                          by_cases c44 : x38_2 < (t301.length : Int)
                          · rw [if_pos c44] at H
                            have c44b0 : decide (x38_2 < (t301.length : Int)) = true := decide_eq_true c44
                            clear c44
                            replace H := qbd H
                            obtain ⟨t306, A45, H⟩ := H
                            try dsimp only at H
                            by_cases c46 : 0 ≤ t306
                            · rw [if_pos c46] at H
                              have c46b0 : decide (0 ≤ t306) = true := decide_eq_true c46
                              clear c46
                              by_cases c47 : t306 < (x7_2.length : Int)
                              · rw [if_pos c47] at H
                                have c47b0 : decide (t306 < (x7_2.length : Int)) = true := decide_eq_true c47
                                clear c47
                                obtain ⟨y307, hy307⟩ : ∃ y_ : List Int, y_ = (x7_2.set (t306 : Int).toNat (x6_1.length : Int)) := ⟨_, rfl⟩
                                replace H : (impl_orbitsOf.l1 k2 l1 x6_1 y307 t301 t294 (t294.length : Int) x21_1 (t301.length : Int) (wrap64 (x38_2 + 1)) a0_0 a0_1 a0_2) = some (r1, r2) := by first | (rw [hy307]; with_reducible exact H) | (have H2_ := (Option.bind_some _ _).symm.trans H; rw [hy307]; with_reducible exact H2_) | (have H2_ := (Option.bind_some _ _).symm.trans H; with_reducible exact H2_) | with_reducible exact H | (rw [hy307]; exact H) | exact H
                                have Ny307 := Aside0.mk hy307
                                clear hy307
                                have H' := Aside0.mk H
                                clear H
                                have p304 : 0 ≤ (x38_2 : Int) := qo
                                have q304 : x38_2 < (t301.length : Int) := qo
                                obtain ⟨ad304, e304, hx304_0, hx304_1⟩ := at_T43 (Kd.R_reads' HO_10.out).2.2 x38_2 p304 q304
                                cases e304
                                replace p304 := eq_true p304
                                replace q304 := eq_true q304
                                go_wp2_with (first | ((with_reducible refine gate_dst (N := 12) rfl ?_); refine qbx 12 43 #[.int .i64 0, .int .i64 0] ?_; intro gb305 hg w49 hbox hb; replace HO_6 := Aside0.mk (Kd.S_below (Kd.S_elderB (by (with_reducible repeat (first | apply Kd.S_alloc | apply Kd.S_drewN | apply Kd.S_drew)); exact HO_6.out) gb305 (Nat.le_of_eq hg.symm)) hb); replace HO_7 := Aside0.mk (Kd.R_below (qR HO_7.out) hb); replace HO_10 := Aside0.mk (Kd.R_below (Kd.R_elderB (qR HO_10.out) gb305 (Nat.le_of_eq hg.symm)) hb); replace HO_19 := Aside0.mk (Kd.R_below (Kd.R_elderB (qR HO_19.out) gb305 (Nat.le_of_eq hg.symm)) hb); have BK305 := Aside0.mk (hbox); have GW305 := qgs HB hg; have GE305 := qgs HB hg; replace HB := qbs HB hb; have NB283_305 := qnL BK283 hg; have NB305_283 := qnG BK283 hg; replace BK283 := qbb BK283 hb; have NB298_305 := qnL BK298 hg; have NB305_298 := qnG BK298 hg; replace BK298 := qbb BK298 hb; clear hb hbox hg; have hnb50 := NB305_283.out; have hnc50 := NB283_305.out; have hnb51 := NB305_298.out; have hnc51 := NB298_305.out; have hcz52_0 := qc0 BK305; have hcz52_1 := qc1 BK305; have hfz52_0 := blk_frozen BK305.out 0; have hfz52_1 := blk_frozen BK305.out 1; have hnb53 := NB283_298.out; have hnc53 := NB298_283.out; have hcz54_0 := qc0 BK283; have hcz54_1 := qc1 BK283; have hcz54_2 := qc2 BK283; have hfz54_0 := blk_frozen BK283.out 0; have hfz54_1 := blk_frozen BK283.out 1; have hfz54_2 := blk_frozen BK283.out 2) | ((with_reducible refine gate_callee (f := 45) rfl ?_); refine qgl (some 45) Try.func45 #[.agg #[.int .i64 a0_0, .int .i64 a0_1, .int .i64 a0_2], .agg #[.int .i64 ((rd_T43 t301 x38_2).f0), .int .i64 ((rd_T43 t301 x38_2).f1)]] ?_; (with_reducible refine (impl_Lattice_number.calls a0_0 a0_1 a0_2 ((rd_T43 t301 x38_2).f0) ((rd_T43 t301 x38_2).f1) t306 _ A45.out).mono ?_); rintro e w55 ⟨rfl, hb⟩; refine ⟨_, rfl, ?_⟩; replace HO_6 := Aside0.mk (Kd.S_below (by (with_reducible repeat (first | apply Kd.S_alloc | apply Kd.S_drewN | apply Kd.S_drew)); exact (Kd.S_mono (Kd.S_far (p := ⟨gb305, 1, none⟩) (Kd.S_far (p := ⟨gb305, 0, none⟩) (Kd.S_mono HO_6.out (fun k_ hk => (⟨hk, hk.2⟩ : _ ∧ k_ ≠ gb305))) (fun _ hk => hk.2) (.int .i64 ((rd_T43 t301 x38_2).f0))) (fun _ hk => hk.2) (.int .i64 ((rd_T43 t301 x38_2).f1))) (fun _ h_ => h_.1))) hb); replace HO_7 := Aside0.mk (Kd.R_below (qR (Kd.R_mono (Kd.R_far (p := ⟨gb305, 1, none⟩) (Kd.R_far (p := ⟨gb305, 0, none⟩) (Kd.R_types HO_7.out BK305.out (by decide)) (fun _ hk => hk.2) (.int .i64 ((rd_T43 t301 x38_2).f0))) (fun _ hk => hk.2) (.int .i64 ((rd_T43 t301 x38_2).f1))) (fun _ h_ => h_.1))) hb); replace HO_10 := Aside0.mk (Kd.R_below (qR (Kd.R_mono (Kd.R_far (p := ⟨gb305, 1, none⟩) (Kd.R_far (p := ⟨gb305, 0, none⟩) (Kd.R_mono HO_10.out (fun k_ hk => (⟨hk, hk.2⟩ : _ ∧ k_ ≠ gb305))) (fun _ hk => hk.2) (.int .i64 ((rd_T43 t301 x38_2).f0))) (fun _ hk => hk.2) (.int .i64 ((rd_T43 t301 x38_2).f1))) (fun _ h_ => h_.1))) hb); replace HO_19 := Aside0.mk (Kd.R_below (qR (Kd.R_mono (Kd.R_far (p := ⟨gb305, 1, none⟩) (Kd.R_far (p := ⟨gb305, 0, none⟩) (Kd.R_mono HO_19.out (fun k_ hk => (⟨hk, hk.2⟩ : _ ∧ k_ ≠ gb305))) (fun _ hk => hk.2) (.int .i64 ((rd_T43 t301 x38_2).f0))) (fun _ hk => hk.2) (.int .i64 ((rd_T43 t301 x38_2).f1))) (fun _ h_ => h_.1))) hb); replace BK283 := qbq (g := gb283) (o := .cells #[.int .i64 a0_0, .int .i64 a0_1, .int .i64 a0_2] 25 (0, 0)) hb; replace BK298 := qbq (g := gb298) (o := .cells #[.int .i64 ((rd_T43 t294 x21_1).f0), .int .i64 ((rd_T43 t294 x21_1).f1)] 43 (0, 0)) hb; replace BK305 := qbq (g := gb305) (o := .cells #[.int .i64 ((rd_T43 t301 x38_2).f0), .int .i64 ((rd_T43 t301 x38_2).f1)] 43 (0, 0)) hb; replace HB := qbs HB hb; (try clear hb); (try clear hk); obtain ⟨Ao56, co56, eo56⟩ := Kd.S_slice HO_6.out; subst eo56; have p48 : 0 ≤ (t306 : Int) := qo; have q48 : (t306 : Int) < ((x7_2.length : Int) : Int) := qo; obtain ⟨go48, co48, eo48, gb48, gl48, cl48, HG48⟩ := Kd.R_form HO_7.out (by omega); (first | cases eo48 | (injection eo48 with ea_ en_ ec_; (first | subst ea_ | (injection ea_ with ea_; subst ea_)); subst ec_; clear en_)); have GB48 := Aside0.mk gb48; have GG48 := Aside0.mk HG48; clear gb48 gl48 HG48; (first | simp only [add_plain] at hx300_0 | skip); obtain ⟨hx48_0, hf48_0⟩ := Kd.R_celln 0 HO_7.out (t306 : Int) p48 q48; replace p48 := eq_true p48; replace q48 := eq_true q48; obtain ⟨hy57_, hz57_⟩ := Kd.R_celln 0 HO_7.out (t306 : Int) qo qo; have HP57 := Kd.R_putg HO_7.out (t306 : Int) (x6_1.length : Int)) | ((with_reducible refine gate_store (t := 2) (p := 48) rfl ?_); refine store_event (t := 2) (p := 48) (v := ?vo_w58) (w1 := (w55.setCell ⟨go48, (t306 : Int).toNat, none⟩ (.int .i64 (x6_1.length : Int)))) ?hg ?ho ?hn ?hr ?_; (case ho => rfl); (case hg => rfl); (case hn => rfl); (case hr => first | (go_simp; done) | (go_simp; rfl)); intro w58 hw; have hg : w55.grownBy w58 (some go48) := (by rw [hw]; exact HP57.2); have hp_ : Kd.R (Kd.int .i64) 2 w58 w.heap.size (fun _ => True) (.slice (some ⟨go48, 0, none⟩) x7_2.length co37) y307 := (by rw [hw, Ny307.out]; exact HP57.1); clear HP57; replace HO_6 := Aside0.mk (Kd.S_over' (v := (.slice (some ⟨go48, 0, none⟩) x7_2.length co37)) (by (with_reducible repeat (first | apply Kd.S_alloc | apply Kd.S_drewN | apply Kd.S_drew)); exact HO_6.out) (Kd.R_typed HO_7.out) (by decide) hg); replace HO_10 := Aside0.mk (Kd.R_over' (v := (.slice (some ⟨go48, 0, none⟩) x7_2.length co37)) (qR HO_10.out) (Kd.R_typed HO_7.out) (by decide) hg); replace HO_19 := Aside0.mk (Kd.R_over' (v := (.slice (some ⟨go48, 0, none⟩) x7_2.length co37)) (qR HO_19.out) (Kd.R_typed HO_7.out) (by decide) hg); replace BK283 := Aside0.mk (blk_grown (g := gb283) (o := .cells #[.int .i64 a0_0, .int .i64 a0_1, .int .i64 a0_2] 25 (0, 0)) (qp BK283.out) hg (Kd.R_ne HO_7.out BK283.out (by decide))); replace BK298 := Aside0.mk (blk_grown (g := gb298) (o := .cells #[.int .i64 ((rd_T43 t294 x21_1).f0), .int .i64 ((rd_T43 t294 x21_1).f1)] 43 (0, 0)) (qp BK298.out) hg (Kd.R_ne HO_7.out BK298.out (by decide))); replace BK305 := Aside0.mk (blk_grown (g := gb305) (o := .cells #[.int .i64 ((rd_T43 t301 x38_2).f0), .int .i64 ((rd_T43 t301 x38_2).f1)] 43 (0, 0)) (qp BK305.out) hg (Kd.R_ne HO_7.out BK305.out (by decide))); replace HO_7 := Aside0.mk (hp_); replace HB := Aside0.mk ((by rw [hw]; exact below_set (HB.out) GB48.out : Below w.heap.size w w58)); clear hg hw hp_))
                                (try simp only [← hl7_2])
                                go_roundg k2
                                case measure => have := HK1.out; have := HK2.out; omega
                                case rel => exact ⟨(y307), (wrap64 (x38_2 + 1)), qf, H', ⟨by have := HK1.out; have := HK2.out; omega⟩, ⟨by (try simp only [hl7_2]); (with_reducible repeat (first | apply Kd.S_alloc | apply Kd.S_drewN | apply Kd.S_drew)); exact Kd.S_mono HO_6.out (fun _ hk => ⟨hk.1.1, ⟨hk.1.2.1, hk.1.2.2⟩⟩)⟩, ⟨by (try simp only [hl7_2]); (with_reducible repeat (first | apply Kd.R_alloc | apply Kd.R_drewN | apply Kd.R_drew)); exact HO_7.out⟩, ⟨by (try simp only [hl7_2]); (with_reducible repeat (first | apply Kd.R_alloc | apply Kd.R_drewN | apply Kd.R_drew)); exact Kd.R_mono HO_10.out (fun _ hk => ⟨hk.1.1, hk.1.2⟩)⟩, ⟨by (try simp only [hl7_2]); (with_reducible repeat (first | apply Kd.R_alloc | apply Kd.R_drewN | apply Kd.R_drew)); exact Kd.R_mono HO_19.out (fun _ hk => ⟨hk.1.1, hk.1.2⟩)⟩, ⟨by (try simp only [hl7_2]); (with_reducible repeat (first | refine blk_drewN ?_ _ | refine blk_drew ?_ | refine blk_alloc ?_ _)); exact BK283.out⟩, ⟨by (try simp only [hl7_2]); (with_reducible repeat (first | refine blk_drewN ?_ _ | refine blk_drew ?_ | refine blk_alloc ?_ _)); exact BK298.out⟩, ⟨qB⟩⟩
                              · rw [if_neg c47] at H
                                exact absurd H (by simp)
                            · rw [if_neg c46] at H
                              exact absurd H (by simp)
                          · rw [if_neg c44] at H
                            exact absurd H (by simp)
                        · rw [if_neg c43] at H
                          exact absurd H (by simp)
                      · rw [if_neg c42] at H
                        have c42b0 : decide (x38_2 < (t301.length : Int)) = false := decide_eq_false c42
                        clear c42
                        by_cases c59 : x6_1.length < 5864062014805
                        · rw [if_pos c59] at H
                          have LMc59 := Aside0.mk c59
                          clear c59
                          obtain ⟨y308, hy308⟩ : ∃ y_ : List (List (S43)), y_ = (x6_1 ++ [t301]) := ⟨_, rfl⟩
                          replace H : (impl_orbitsOf.l0 k2 l1 y308 x7_2 t294 (t294.length : Int) (wrap64 (x21_1 + 1)) a0_0 a0_1 a0_2) = some (r1, r2) := by first | (rw [hy308]; with_reducible exact H) | (have H2_ := (Option.bind_some _ _).symm.trans H; rw [hy308]; with_reducible exact H2_) | (have H2_ := (Option.bind_some _ _).symm.trans H; with_reducible exact H2_) | with_reducible exact H | (rw [hy308]; exact H) | exact H
                          have Ny308 := Aside0.mk hy308
                          clear hy308
                          have H' := Aside0.mk H
                          clear H
                          go_wp2_with (first | ((with_reducible refine gate_builtin (b := .append) (xs := #[.tmp 50, .tmp 52]) rfl ?_); at_builtin; refine Kd.S_append (Kd.slice 43 k43) (w0 := w) w.heap.size rfl (.tmp 50) (.tmp 52) 74 84 (.slice none 0 0) 24 rfl Try.underlying74 info84 rfl (by decide) (by omega) u6 x6_1 t301 [.slice Ao41 t301.length co41] (fun k_ => some k_ ≠ (.slice (some ad297) t294.length co17 : Value).ownBlock ∧ k_ ≠ gb298) (fun k_ => some k_ = (.slice Ao41 t301.length co41 : Value).ownBlock) rfl rfl ?aP (fun k_ hk_ => ((Kd.R_mono (ok' := fun k_ => ((fun k_ => some k_ ≠ (.slice (some ad297) t294.length co17 : Value).ownBlock ∧ k_ ≠ gb298)) k_ ∧ some k_ ≠ (u6 : Value).ownBlock) (Kd.R_apart' (HO_10.out) (Kd.S_typed HO_6.out) (by decide)) (fun k_ hk => ⟨⟨hk.1.1, hk.1.2⟩, hk.2⟩))).1 k_ hk_.symm) ?aF ?aO ?aB ?aS ?aL ?_; (case aP => exact Kd.M_row (Kd.R_mono (Kd.R_tight rfl (Kd.R_mono (ok' := fun k_ => ((fun k_ => some k_ ≠ (.slice (some ad297) t294.length co17 : Value).ownBlock ∧ k_ ≠ gb298)) k_ ∧ some k_ ≠ (u6 : Value).ownBlock) (Kd.R_apart' (HO_10.out) (Kd.S_typed HO_6.out) (by decide)) (fun k_ hk => ⟨⟨hk.1.1, hk.1.2⟩, hk.2⟩))) (fun _ h_ => h_))); (case aB => exact qB); (case aF => exact (fun k_ hk => ⟨Kd.fresh' (Kd.R_lt (qR HO_19.out)) k_ hk, Kd.freshB (g := gb298) (o := .cells #[.int .i64 ((rd_T43 t294 x21_1).f0), .int .i64 ((rd_T43 t294 x21_1).f1)] 43 (0, 0)) (qp BK298.out) k_ hk⟩)); (case aO => exact (by (with_reducible repeat (first | apply Kd.S_alloc | apply Kd.S_drewN | apply Kd.S_drew)); exact Kd.S_mono HO_6.out (fun k_ hk => ⟨⟨hk.2.1, hk.2.2⟩, fun e_ => hk.1 e_⟩))); (case aS => exact (below_size qB)); (case aL => have := LMc59.out; omega); intro v309 w60 ho hb hg hat; rw [← Ny308.out] at ho; replace HO_7 := Aside0.mk (Kd.R_over' (qR HO_7.out) (Kd.S_typed (by (with_reducible repeat (first | apply Kd.S_alloc | apply Kd.S_drewN | apply Kd.S_drew)); exact HO_6.out)) (by decide) hg); replace HO_19 := Aside0.mk (Kd.R_over' (qR HO_19.out) (Kd.S_typed (by (with_reducible repeat (first | apply Kd.S_alloc | apply Kd.S_drewN | apply Kd.S_drew)); exact HO_6.out)) (by decide) hg); replace BK283 := Aside0.mk (blk_grown (g := gb283) (o := .cells #[.int .i64 a0_0, .int .i64 a0_1, .int .i64 a0_2] 25 (0, 0)) (qp BK283.out) hg (Kd.S_ne HO_6.out BK283.out (by decide))); replace BK298 := Aside0.mk (blk_grown (g := gb298) (o := .cells #[.int .i64 ((rd_T43 t294 x21_1).f0), .int .i64 ((rd_T43 t294 x21_1).f1)] 43 (0, 0)) (qp BK298.out) hg (Kd.S_ne HO_6.out BK298.out (by decide))); replace HB := Aside0.mk (hb); have HO310 := Aside0.mk (ho); clear HO_6 HO_10; clear ho hb hg hat))
                          (try simp only [← hl7_2])
                          go_roundg k2
                          case measure => have := HK1.out; have := HK2.out; omega
                          case rel => exact ⟨(y308), (x7_2), (wrap64 (x21_1 + 1)), qf, H', ⟨by have := HK1.out; have := HK2.out; omega⟩, ⟨by (try simp only [hl7_2]); (with_reducible repeat (first | apply Kd.S_alloc | apply Kd.S_drewN | apply Kd.S_drew)); exact Kd.S_mono HO310.out (fun _ hk => hk.1)⟩, ⟨by (try simp only [hl7_2]); (with_reducible repeat (first | apply Kd.R_alloc | apply Kd.R_drewN | apply Kd.R_drew)); exact HO_7.out⟩, ⟨by (try simp only [hl7_2]); (with_reducible repeat (first | apply Kd.R_alloc | apply Kd.R_drewN | apply Kd.R_drew)); exact Kd.R_mono HO_19.out (fun _ hk => trivial)⟩, ⟨by (try simp only [hl7_2]); (with_reducible repeat (first | refine blk_drewN ?_ _ | refine blk_drew ?_ | refine blk_alloc ?_ _)); exact BK283.out⟩, ⟨qB⟩⟩
                        · rw [if_neg c59] at H
                          exact absurd H (by simp)
              · rw [if_neg c23] at H
                exact absurd H (by simp)
            · rw [if_neg c22] at H
              exact absurd H (by simp)
          · rw [if_neg c20] at H
            exact absurd H (by simp)
        · rw [if_neg c19] at H
          exact absurd H (by simp)
      · rw [if_neg c18] at H
        have c18b0 : decide (x21_1 < (t294.length : Int)) = false := decide_eq_false c18
        clear c18
        simp only [Option.some.injEq, Prod.mk.injEq] at H
        obtain ⟨rfl, rfl⟩ := H
        go_wp2
        go_ret2
        exact ⟨_, _, qF, by (with_reducible repeat (first | apply Kd.S_alloc | apply Kd.S_drewN | apply Kd.S_drew)); exact Kd.S_mono HO_6.out (fun _ hk => trivial), by (with_reducible repeat (first | apply Kd.R_alloc | apply Kd.R_drewN | apply Kd.R_drew)); exact HO_7.out, qB⟩

def impl_conflictOf_1.f (a0_0 : Int) (a0_1 : Int) (a0_2 : Int) (l1_0 : List Int) (a2_0 : Int) (a2_1 : Int) (a2_2 : Int) : Option (Int) := (impl_Lattice_reduce.f a2_0 a2_1 a2_2 a0_0 a0_1).bind fun bt314 => ((impl_Lattice_number.f a2_0 a2_1 a2_2 bt314.1 bt314.2).bind fun t316 => (if 0 ≤ t316 then (if t316 < (l1_0.length : Int) then (some (rd l1_0 t316)) else (none)) else (none)))
def impl_conflictOf_1.T1 : Bool × List (List Nat × List Nat) := (true, [([], []), ([], []), ([], []), ([], []), ([3], [3]), ([2, 4], [2, 4]), ([1, 5, 5], [1, 5]), ([0, 6], [0, 6]), ([7], [7]), ([8, 6, 0, 1, 2, 3, 4, 5, 6, 7, 8], [8])])
def impl_conflictOf_1.B1 : List Nat := [0, 0, 0, 0, 8, 28, 62, 127, 255, 511]
theorem impl_conflictOf_1.tab1 : rtab .any (opsOf Try.f44 1) = impl_conflictOf_1.T1 := by kernel_rfl
theorem impl_conflictOf_1.bits1 : waitsOk impl_conflictOf_1.T1.2 impl_conflictOf_1.B1 = true := by kernel_rfl
set_option maxHeartbeats 8000000 in
set_option maxRecDepth 100000 in
theorem impl_conflictOf_1.calls (a0_0 : Int) (a0_1 : Int) (a0_2 : Int) (b1 : Nat) (A1_0 : Option Addr) (c1_0 : Nat) (l1_0 : List Int) (b2 : Nat) (a2_0 : Int) (a2_1 : Int) (a2_2 : Int) (r : Int) (w : World) (hk1 : w.heap[b1]? = some (.cells #[.slice A1_0 l1_0.length c1_0] 75 (0, 0))) (hr1_0 : Kd.C (Kd.int .i64) w A1_0 l1_0.length l1_0) (hc1_0 : l1_0.length ≤ c1_0) (hk2 : w.heap[b2]? = some (.cells #[.int .i64 a2_0, .int .i64 a2_1, .int .i64 a2_2] 25 (0, 0))) (h : impl_conflictOf_1.f a0_0 a0_1 a0_2 l1_0 a2_0 a2_1 a2_2 = some r) :
    Calls Try.prog 44 #[.agg #[.int .i64 a0_0, .int .i64 a0_1, .int .i64 a0_2], .pointer (some ⟨b1, 0, none⟩), .pointer (some ⟨b2, 0, none⟩)] w fun e w' => e = .returned (.int .i64 r) ∧ Below w.heap.size w w' := by
  have hu45 := Try.underlying45
  have hu25 := Try.underlying25
  have hu43 := Try.underlying43
  have HR1_0 := Aside0.mk hr1_0
  have HC1_0 := Aside0.mk hc1_0
  clear hr1_0 hc1_0
  have NB311_312 := Aside0.mk (cap_ne hk1 hk2 (by decide))
  have NB312_311 := Aside0.mk (Ne.symm NB311_312.out)
  have BK311 := Aside0.mk hk1
  clear hk1
  have BK312 := Aside0.mk hk2
  clear hk2
  have HB := Aside0.mk (Below.refl w.heap.size w)
  have H : ((impl_Lattice_reduce.f a2_0 a2_1 a2_2 a0_0 a0_1).bind fun bt314 => ((impl_Lattice_number.f a2_0 a2_1 a2_2 bt314.1 bt314.2).bind fun t316 => (if 0 ≤ t316 then (if t316 < (l1_0.length : Int) then (some (rd l1_0 t316)) else (none)) else (none)))) = some r := h
  clear h
  replace H := qbd H
  obtain ⟨⟨t314, t315⟩, A4, H⟩ := H
  try dsimp only at H
  replace H := qbd H
  obtain ⟨t316, A5, H⟩ := H
  try dsimp only at H
  by_cases c6 : 0 ≤ t316
  · rw [if_pos c6] at H
    have c6b0 : decide (0 ≤ t316) = true := decide_eq_true c6
    clear c6
    by_cases c7 : t316 < (l1_0.length : Int)
    · rw [if_pos c7] at H
      have c7b0 : decide (t316 < (l1_0.length : Int)) = true := decide_eq_true c7
      clear c7
      obtain rfl := Option.some.inj H
      go_enter Try.func44, Try.ntmps44
      try go_wp2_with (first | ((with_reducible refine gate_dst (N := 3) rfl ?_); refine qbx 3 45 #[.int .i64 a0_0, .int .i64 a0_1, .int .i64 a0_2] ?_; intro gb313 hg w8 hbox hb; have BK313 := Aside0.mk (hbox); have GW313 := qgs HB hg; have GE313 := qgs HB hg; replace HB := qbs HB hb; have NB311_313 := qnL BK311 hg; have NB313_311 := qnG BK311 hg; replace BK311 := qbb BK311 hb; have NB312_313 := qnL BK312 hg; have NB313_312 := qnG BK312 hg; replace BK312 := qbb BK312 hb; clear hb hbox hg))
      replace BK311 := Aside0.mk (blk_drew BK311.out)
      replace BK312 := Aside0.mk (blk_drew BK312.out)
      replace BK313 := Aside0.mk (blk_drew BK313.out)
      replace HB := Aside0.mk (below_drew1 HB.out)
      have p317 : 0 ≤ (t316 : Int) := qo
      have q317 : t316 < (l1_0.length : Int) := qo
      obtain ⟨ad317, e317, hx317_0⟩ := Kd.at_int HR1_0.out t316 p317 q317
      have hw317_0 := hx317_0
      cases e317
      replace hx317_0 := (HB.out.cell (World.block_lt_of_cell? w _ hx317_0)).trans hx317_0
      replace p317 := eq_true p317
      replace q317 := eq_true q317
      refine start_ (n := 10) (S := fun w' => w'.cell? ⟨b1, 0, none⟩ = some (.slice (some ad317) l1_0.length c1_0) ∧ w'.cell? ⟨b2, 0, none⟩ = some (.int .i64 a2_0) ∧ w'.cell? ⟨b2, 1, none⟩ = some (.int .i64 a2_1) ∧ w'.cell? ⟨b2, 2, none⟩ = some (.int .i64 a2_2) ∧ w'.cell? ⟨gb313, 0, none⟩ = some (.int .i64 a0_0) ∧ w'.cell? ⟨gb313, 1, none⟩ = some (.int .i64 a0_1) ∧ w'.cell? ⟨gb313, 2, none⟩ = some (.int .i64 a0_2) ∧ w'.cell? (ad317.add (t316).toNat) = some (.int .i64 (rd l1_0 t316))) (ds := []) #[false, false, false, false, false, false, false, false, false, false] (by kernel_rfl) rfl rfl ⟨(blk_cell BK311.out 0).trans rfl, (blk_cell BK312.out 0).trans rfl, (blk_cell BK312.out 1).trans rfl, (blk_cell BK312.out 2).trans rfl, (blk_cell BK313.out 0).trans rfl, (blk_cell BK313.out 1).trans rfl, (blk_cell BK313.out 2).trans rfl, ((HB.out.cell (World.block_lt_of_cell? w _ hw317_0)).trans hw317_0)⟩ (fun hHeld => ?_); refine with_tabW impl_conflictOf_1.tab1 impl_conflictOf_1.bits1 (fun HT_ HW_ => ?_)
      generalize w8.drew = w9 at BK311 BK312 BK313 HB hx317_0 hHeld ⊢
      refine pure_ (i := 3) (N := some 8) (v := ?_) (a' := ?_) #[false, false, false, true, false, false, false, false, false, false] rfl rfl (any_of HT_.out (by kernel_rfl)) (fun _ _ _ h => h) (Or.inl ⟨by rfl, ?_⟩) ?_ ?_
      rotate_left
      · intro w'
        go_simp
        with_reducible rfl
      rotate_left
      · simp only [Act.put, List.setIfInBounds_toArray, List.set_cons_zero, List.set_cons_succ, i64_w, i32_w]
        rfl
      refine take_ (i := 0) (N := some 5) (v := ?_) (a' := ?_) #[true, false, false, true, false, false, false, false, false, false] rfl rfl (take_ofW HT_.out HW_.out (by kernel_rfl)) (fun _ _ _ h => h) (Or.inl ⟨by rfl, ?_⟩) hHeld ?_ ?_
      rotate_left
      · rintro w' ⟨s0, s1, s2, s3, s4, s5, s6, s7⟩
        go_simp
        with_reducible rfl
      rotate_left
      · simp only [Act.put, List.setIfInBounds_toArray, List.set_cons_zero, List.set_cons_succ, i64_w, i32_w]
        rfl
      refine take_ (i := 1) (N := some 6) (v := ?_) (a' := ?_) #[true, true, false, true, false, false, false, false, false, false] rfl rfl (take_ofW HT_.out HW_.out (by kernel_rfl)) (fun _ _ _ h => h) (Or.inl ⟨by rfl, ?_⟩) hHeld ?_ ?_
      rotate_left
      · rintro w' ⟨s0, s1, s2, s3, s4, s5, s6, s7⟩
        go_simp
        with_reducible rfl
      rotate_left
      · simp only [Act.put, List.setIfInBounds_toArray, List.set_cons_zero, List.set_cons_succ, i64_w, i32_w]
        rfl
      refine take_ (i := 2) (N := some 7) (v := ?_) (a' := ?_) #[true, true, true, true, false, false, false, false, false, false] rfl rfl (take_ofW HT_.out HW_.out (by kernel_rfl)) (fun _ _ _ h => h) (Or.inl ⟨by rfl, ?_⟩) hHeld ?_ ?_
      rotate_left
      · rintro w' ⟨s0, s1, s2, s3, s4, s5, s6, s7⟩
        go_simp
        with_reducible rfl
      rotate_left
      · simp only [Act.put, List.setIfInBounds_toArray, List.set_cons_zero, List.set_cons_succ, i64_w, i32_w]
        rfl
      refine take_ (i := 4) (N := some 9) (v := ?_) (a' := ?_) #[true, true, true, true, true, false, false, false, false, false] rfl rfl (take_ofW HT_.out HW_.out (by kernel_rfl)) (fun _ _ _ h => h) (Or.inl ⟨by rfl, ?_⟩) hHeld ?_ ?_
      rotate_left
      · rintro w' ⟨s0, s1, s2, s3, s4, s5, s6, s7⟩
        go_simp
        with_reducible rfl
      rotate_left
      · simp only [Act.put, List.setIfInBounds_toArray, List.set_cons_zero, List.set_cons_succ, i64_w, i32_w]
        rfl
      refine one_ (i := 5) (N := some 10) #[true, true, true, true, true, true, false, false, false, false] rfl rfl (one_of HT_.out (by kernel_rfl)) (by decide) (fun K hK => ?_)
      refine qgo Try.func46 #[.agg #[.int .i64 a2_0, .int .i64 a2_1, .int .i64 a2_2], .agg #[.int .i64 a0_0, .int .i64 a0_1]] ?_
      with_reducible refine (impl_Lattice_reduce.calls a2_0 a2_1 a2_2 a0_0 a0_1 t314 t315 _ A4.out).mono ?_
      rintro e w10 ⟨rfl, hb⟩
      refine ⟨_, rfl, ?_⟩
      replace BK311 := qbb BK311 hb
      replace BK312 := qbb BK312 hb
      replace BK313 := qbb BK313 hb
      replace HB := qbs HB hb
      (try clear hb)
      (try clear hb2)
      (try clear hk)
      (try clear hi)
      refine hK.out _ _ ⟨(blk_cell BK311.out 0).trans rfl, (blk_cell BK312.out 0).trans rfl, (blk_cell BK312.out 1).trans rfl, (blk_cell BK312.out 2).trans rfl, (blk_cell BK313.out 0).trans rfl, (blk_cell BK313.out 1).trans rfl, (blk_cell BK313.out 2).trans rfl, ((HB.out.cell (World.block_lt_of_cell? w _ hw317_0)).trans hw317_0)⟩ (fun hHeld => ?_)
      clear hK K
      refine norm_ (a' := ?_) ?_ ?_
      rotate_left
      · show Act.put _ (some 10) _ = _
        simp only [Act.put, List.setIfInBounds_toArray, List.set_cons_zero, List.set_cons_succ, i64_w, i32_w]
        rfl
      refine one_ (i := 6) (N := some 11) #[true, true, true, true, true, true, true, false, false, false] rfl rfl (one_of HT_.out (by kernel_rfl)) (by decide) (fun K hK => ?_)
      refine qgo Try.func45 #[.agg #[.int .i64 a2_0, .int .i64 a2_1, .int .i64 a2_2], .agg #[.int .i64 t314, .int .i64 t315]] ?_
      with_reducible refine (impl_Lattice_number.calls a2_0 a2_1 a2_2 t314 t315 t316 _ A5.out).mono ?_
      rintro e w11 ⟨rfl, hb⟩
      refine ⟨_, rfl, ?_⟩
      replace BK311 := qbb BK311 hb
      replace BK312 := qbb BK312 hb
      replace BK313 := qbb BK313 hb
      replace HB := qbs HB hb
      (try clear hb)
      (try clear hb2)
      (try clear hk)
      (try clear hi)
      refine hK.out _ _ ⟨(blk_cell BK311.out 0).trans rfl, (blk_cell BK312.out 0).trans rfl, (blk_cell BK312.out 1).trans rfl, (blk_cell BK312.out 2).trans rfl, (blk_cell BK313.out 0).trans rfl, (blk_cell BK313.out 1).trans rfl, (blk_cell BK313.out 2).trans rfl, ((HB.out.cell (World.block_lt_of_cell? w _ hw317_0)).trans hw317_0)⟩ (fun hHeld => ?_)
      clear hK K
      refine norm_ (a' := ?_) ?_ ?_
      rotate_left
      · show Act.put _ (some 11) _ = _
        simp only [Act.put, List.setIfInBounds_toArray, List.set_cons_zero, List.set_cons_succ, i64_w, i32_w]
        rfl
      refine pure_ (i := 7) (N := some 12) (v := ?_) (a' := ?_) #[true, true, true, true, true, true, true, true, false, false] rfl rfl (any_of HT_.out (by kernel_rfl)) (fun _ _ _ h => h) (Or.inl ⟨by rfl, ?_⟩) ?_ ?_
      rotate_left
      · intro w'
        go_simp
        with_reducible rfl
      rotate_left
      · simp only [Act.put, List.setIfInBounds_toArray, List.set_cons_zero, List.set_cons_succ, i64_w, i32_w]
        rfl
      refine take_ (i := 8) (N := some 13) (v := ?_) (a' := ?_) #[true, true, true, true, true, true, true, true, true, false] rfl rfl (take_ofW HT_.out HW_.out (by kernel_rfl)) (fun _ _ _ h => h) (Or.inl ⟨by rfl, ?_⟩) hHeld ?_ ?_
      rotate_left
      · rintro w' ⟨s0, s1, s2, s3, s4, s5, s6, s7⟩
        go_simp
        with_reducible rfl
      rotate_left
      · simp only [Act.put, List.setIfInBounds_toArray, List.set_cons_zero, List.set_cons_succ, i64_w, i32_w]
        rfl
      refine pure_ (i := 9) (N := some 4) (v := ?_) (a' := ?_) #[true, true, true, true, true, true, true, true, true, true] rfl rfl (any_of HT_.out (by kernel_rfl)) (fun _ _ _ h => h) (Or.inl ⟨by rfl, ?_⟩) ?_ ?_
      rotate_left
      · intro w'
        go_simp
        with_reducible rfl
      rotate_left
      · simp only [Act.put, List.setIfInBounds_toArray, List.set_cons_zero, List.set_cons_succ, i64_w, i32_w]
        rfl
      refine done_ (done_of HT_.out (by kernel_rfl)) ?_
      try go_wp2
      go_ret
      exact ⟨qF, qB⟩
    · rw [if_neg c7] at H
      exact absurd H (by simp)
  · rw [if_neg c6] at H
    exact absurd H (by simp)

end Go.Proofs.Ytoajccbmikmjdaa.X

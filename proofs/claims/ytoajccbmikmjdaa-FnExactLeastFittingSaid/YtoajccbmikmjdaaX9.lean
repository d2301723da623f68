-- PRINTED by print.py (a twelfth state) out of the translation. Not trusted: Lean checks it.
import Derived.Test.YtoajccbmikmjdaaXQ
import Derived.Test.YtoajccbmikmjdaaX0
import Derived.Test.YtoajccbmikmjdaaX8
namespace Go.Proofs.Ytoajccbmikmjdaa.X
open Go.RowKit Go.Proofs.YtoajccbmikmjdaaX Go.Proofs.YtoajccbmikmjdaaW.PrintWords Go.Proofs.YtoajccbmikmjdaaW.PrintLast Go.Proofs.YtoajccbmikmjdaaW.PrintMore
attribute [local go_sem] max2_int min2_int max_two min_two max_three min_three max_four min_four   -- for this text's walks alone
set_option linter.unusedVariables false
set_option linter.unusedSimpArgs false

mutual
def impl_conflictOf.l0 : Nat → List (S45) → List (S45) → Int → Int → Int → Int → Int → List Int → Option (Int × Int × Bool)
  | 0, _, _, _, _, _, _, _, _ => none
  | k + 1, x2, x23, x24, x25, x319000, x319001, x319002, x326000 => if x25 < x24 then (if 0 ≤ x25 then (if x25 < (x23.length : Int) then (if x25 ≤ (x2.length : Int) then ((some (x2.take (x25 : Int).toNat : List (S45))).bind fun y328 => (impl_conflictOf.l1 k x2 x25 x23 x24 x25 y328 (y328.length : Int) 0 x319000 x319001 x319002 x326000 ((rd_T45 x23 x25).f0.f0) ((rd_T45 x23 x25).f0.f1) ((rd_T45 x23 x25).f1))) else (none)) else (none)) else (none)) else (some (0, 0, false))
def impl_conflictOf.l1 : Nat → List (S45) → Int → List (S45) → Int → Int → List (S45) → Int → Int → Int → Int → Int → List Int → Int → Int → Int → Option (Int × Int × Bool)
  | 0, _, _, _, _, _, _, _, _, _, _, _, _, _, _, _ => none
  | k + 1, x2, x12, x23, x24, x25, x32, x33, x34, x319000, x319001, x319002, x326000, x328000, x328001, x328002 => if x34 < x33 then (if 0 ≤ x34 then (if x34 < (x32.length : Int) then (if ((rd_T45 x32 x34).f1) = x328002 then (impl_conflictOf.l1 k x2 x12 x23 x24 x25 x32 x33 (wrap64 (x34 + 1)) x319000 x319001 x319002 x326000 x328000 x328001 x328002) else ((impl_conflictOf_1.f ((rd_T45 x32 x34).f0.f0) ((rd_T45 x32 x34).f0.f1) ((rd_T45 x32 x34).f1) x326000 x319000 x319001 x319002).bind fun t334 => ((impl_conflictOf_1.f x328000 x328001 x328002 x326000 x319000 x319001 x319002).bind fun t335 => (if t334 = t335 then (some (x34, x12, true)) else (impl_conflictOf.l1 k x2 x12 x23 x24 x25 x32 x33 (wrap64 (x34 + 1)) x319000 x319001 x319002 x326000 x328000 x328001 x328002))))) else (none)) else (none)) else (impl_conflictOf.l0 k x2 x23 x24 (wrap64 (x25 + 1)) x319000 x319001 x319002 x326000)
end
def impl_conflictOf.f (k : Nat) (a0_0 : Int) (a0_1 : Int) (a0_2 : Int) (l1 : List (S63)) (l2 : List (S45)) : Option (Int × Int × Bool) := (impl_orbitsOf.f k a0_0 a0_1 a0_2 l1).bind fun bt319 => (impl_conflictOf.l0 k l2 l2 (l2.length : Int) 0 a0_0 a0_1 a0_2 bt319.2)
def impl_conflictOf.T9 : Bool × List (List Nat × List Nat) := (true, [([], []), ([0], [0]), ([], []), ([2], [2]), ([1, 3], [1, 3]), ([4], [4]), ([5], [5]), ([5], [5]), ([6, 7, 5, 5], [5, 6, 7]), ([5], [5]), ([5], [5]), ([9, 10, 8, 5], [5, 9, 10]), ([8, 11, 5], [5, 8, 11]), ([5, 12], [5, 12])])
def impl_conflictOf.B9 : List Nat := [0, 1, 0, 4, 15, 31, 63, 63, 255, 63, 63, 2047, 4095, 8191]
theorem impl_conflictOf.tab9 : rtab .any (opsOf Try.f37 9) = impl_conflictOf.T9 := by kernel_rfl
theorem impl_conflictOf.bits9 : waitsOk impl_conflictOf.T9.2 impl_conflictOf.B9 = true := by kernel_rfl
set_option maxHeartbeats 8000000 in
set_option maxRecDepth 100000 in
theorem impl_conflictOf.calls (k : Nat) (a0_0 : Int) (a0_1 : Int) (a0_2 : Int) (A1 : Option Addr) (c1 : Nat) (l1 : List (S63)) (A2 : Option Addr) (c2 : Nat) (l2 : List (S45)) (r1 : Int) (r2 : Int) (r3 : Bool) (w : World) (hr1 : Kd.C k63 w A1 l1.length l1) (hc1 : l1.length ≤ c1) (hr2 : Kd.C k45 w A2 l2.length l2) (hc2 : l2.length ≤ c2) (h : impl_conflictOf.f k a0_0 a0_1 a0_2 l1 l2 = some (r1, r2, r3)) :
    Calls Try.prog 37 #[.agg #[.int .i64 a0_0, .int .i64 a0_1, .int .i64 a0_2], .slice A1 l1.length c1, .slice A2 l2.length c2] w fun e w' => e = .returned (.tuple #[.int .i64 r1, .int .i64 r2, .bool r3]) ∧ Below w.heap.size w w' := by
  have hu25 := Try.underlying25
  have hu45 := Try.underlying45
  have HR1 := Aside0.mk hr1
  have HC1 := Aside0.mk hc1
  clear hr1 hc1
  have HR2 := Aside0.mk hr2
  have HC2 := Aside0.mk hc2
  clear hr2 hc2
  have HB := Aside0.mk (Below.refl w.heap.size w)
  have H : ((impl_orbitsOf.f k a0_0 a0_1 a0_2 l1).bind fun bt319 => (impl_conflictOf.l0 k l2 l2 (l2.length : Int) 0 a0_0 a0_1 a0_2 bt319.2)) = some (r1, r2, r3) := h
  clear h
  replace H := qbd H
  obtain ⟨⟨t319, t322⟩, A4, H⟩ := H
  try dsimp only at H
  have H' := Aside0.mk H
  clear H
  go_enter Try.func37, Try.ntmps37
  go_wp2_with (first | ((with_reducible refine gate_dst (N := 3) rfl ?_); refine qbx 3 25 #[.int .i64 a0_0, .int .i64 a0_1, .int .i64 a0_2] ?_; intro gb318 hg w5 hbox hb; have BK318 := Aside0.mk (hbox); have GW318 := qgs HB hg; have GE318 := qgs HB hg; replace HB := qbs HB hb; clear hb hbox hg; have hcz6_0 := qc0 BK318; have hcz6_1 := qc1 BK318; have hcz6_2 := qc2 BK318; have hfz6_0 := blk_frozen BK318.out 0; have hfz6_1 := blk_frozen BK318.out 1; have hfz6_2 := blk_frozen BK318.out 2) | ((with_reducible refine gate_callee (f := 43) rfl ?_); refine qgl (some 19) Try.func43 #[.agg #[.int .i64 a0_0, .int .i64 a0_1, .int .i64 a0_2], .slice A1 l1.length c1] ?_; (with_reducible refine (impl_orbitsOf.calls k a0_0 a0_1 a0_2 _ _ l1 t319 t322 _ (qC (Kd.C_below HR1.out HB.out)) HC1.out A4.out).mono ?_); rintro e w7 ⟨v320, v323, rfl, ho0, ho1, hb⟩; refine ⟨_, rfl, ?_⟩; have HO321 := Aside0.mk (Kd.S_lower ho0 (below_size qB)); have HO324 := Aside0.mk (Kd.R_lower ho1 (below_size qB)); replace BK318 := qbb BK318 hb; replace HB := qbs HB hb; (try clear hb); (try clear ho0); (try clear ho1)) | ((with_reducible refine gate_dst (N := 10) rfl ?_); refine qbx 10 75 #[.slice none 0 0] ?_; intro gb325 hg w8 hbox hb; replace HO321 := Aside0.mk (Kd.S_below (by (with_reducible repeat (first | apply Kd.S_alloc | apply Kd.S_drewN | apply Kd.S_drew)); exact HO321.out) hb); replace HO324 := Aside0.mk (Kd.R_below (qR HO324.out) hb); have BK325 := Aside0.mk (hbox); have GW325 := qgs HB hg; have GE325 := qgs HB hg; replace HB := qbs HB hb; have NB318_325 := qnL BK318 hg; have NB325_318 := qnG BK318 hg; replace BK318 := qbb BK318 hb; clear hb hbox hg; obtain ⟨Ao9, co9, eo9⟩ := Kd.R_slice HO324.out; subst eo9; have hnb10 := NB325_318.out; have hnc10 := NB318_325.out; have hcz11_0 := qc0 BK325; have hfz11_0 := blk_frozen BK325.out 0))
  go_loopg [25] k (fun kq v25 w' => ∃ (x25_1 : Int), v25 = .int .i64 x25_1 ∧ Aside0 (impl_conflictOf.l0 kq l2 l2 (l2.length : Int) x25_1 a0_0 a0_1 a0_2 t322 = some (r1, r2, r3)) ∧ Aside0 (kq ≤ k) ∧ Aside0 (Kd.R (Kd.int .i64) 2 w' w.heap.size (fun _ => True) (.slice Ao9 t322.length co9) t322) ∧ Aside0 (w'.heap[gb318]? = some (.cells #[.int .i64 a0_0, .int .i64 a0_1, .int .i64 a0_2] 25 (0, 0))) ∧ Aside0 (w'.heap[gb325]? = some (.cells #[(.slice Ao9 t322.length co9)] 75 (0, 0))) ∧ Aside0 (Below w.heap.size w w'))
  case atStart => exact ⟨(0), qf, H', ⟨Nat.le_refl _⟩, ⟨by (with_reducible repeat (first | apply Kd.R_alloc | apply Kd.R_drewN | apply Kd.R_drew)); exact Kd.R_mono (Kd.R_far (p := ⟨gb325, 0, none⟩) (Kd.R_types HO324.out BK325.out (by decide)) (fun _ hk => hk.2) (.slice Ao9 t322.length co9)) (fun _ hk => trivial)⟩, ⟨by (with_reducible repeat (first | refine blk_drewN ?_ _ | refine blk_drew ?_ | refine blk_alloc ?_ _)); refine blk_far ?_ NB318_325.out _; (with_reducible repeat (first | refine blk_drewN ?_ _ | refine blk_drew ?_ | refine blk_alloc ?_ _)); exact BK318.out⟩, ⟨by (with_reducible repeat (first | refine blk_drewN ?_ _ | refine blk_drew ?_ | refine blk_alloc ?_ _)); refine blk_put (cs := #[.slice none 0 0]) ?_ 0 _ rfl; (with_reducible repeat (first | refine blk_drewN ?_ _ | refine blk_drew ?_ | refine blk_alloc ?_ _)); exact BK325.out⟩, ⟨qB⟩⟩
  case round =>
    clear H'
    try clear c1
    try clear c2
    try clear p2
    try clear c3
    try clear c4
    try clear c10
    try clear hcz11_0
    try clear hcz6_0
    try clear hcz6_1
    try clear hcz6_2
    try clear hfz11_0
    try clear hfz6_0
    try clear hfz6_1
    try clear hfz6_2
    obtain ⟨x25_1, rfl, HA, HK1, HO_326000, BK318, BK325, HB⟩ := hrel
    cases gk with
    | zero => exact absurd HA.out (by simp [impl_conflictOf.l0])
    | succ k1 =>
      have H := HA.out
      clear HA
      simp only [impl_conflictOf.l0] at H
      by_cases c12 : x25_1 < (l2.length : Int)
      · rw [if_pos c12] at H
        have c12b0 : decide (x25_1 < (l2.length : Int)) = true := decide_eq_true c12
        clear c12
        by_cases c13 : 0 ≤ x25_1
        · rw [if_pos c13] at H
          have c13b0 : decide (0 ≤ x25_1) = true := decide_eq_true c13
          clear c13
          by_cases c14 : x25_1 < (l2.length : Int)
          · rw [if_pos c14] at H
            have c14b0 : decide (x25_1 < (l2.length : Int)) = true := decide_eq_true c14
            clear c14
            have c15b0 := eq_true (qo : 0 ≤ x25_1)
            by_cases c16 : x25_1 ≤ (l2.length : Int)
            · rw [if_pos c16] at H
              have c16b0 := eq_true c16
              have c16b1 : decide (x25_1 ≤ (l2.length : Int)) = true := decide_eq_true c16
              clear c16
              obtain ⟨y328, hy328⟩ : ∃ y_ : List (S45), y_ = (l2.take (x25_1 : Int).toNat) := ⟨_, rfl⟩
              replace H : (impl_conflictOf.l1 k1 l2 x25_1 l2 (l2.length : Int) x25_1 y328 (y328.length : Int) 0 a0_0 a0_1 a0_2 t322 ((rd_T45 l2 x25_1).f0.f0) ((rd_T45 l2 x25_1).f0.f1) ((rd_T45 l2 x25_1).f1)) = some (r1, r2, r3) := by first | (rw [hy328]; with_reducible exact H) | (have H2_ := (Option.bind_some _ _).symm.trans H; rw [hy328]; with_reducible exact H2_) | (have H2_ := (Option.bind_some _ _).symm.trans H; with_reducible exact H2_) | with_reducible exact H | (rw [hy328]; exact H) | exact H
              have Ny328 := Aside0.mk hy328
              clear hy328
              have H' := Aside0.mk H
              clear H
              have p326 : 0 ≤ (x25_1 : Int) := qo
              have q326 : x25_1 < (l2.length : Int) := qo
              obtain ⟨ad326, e326, hx326_0, hx326_1, hx326_2⟩ := at_T45 HR2.out x25_1 p326 q326
              cases e326
              replace hx326_0 := (HB.out.cell (World.block_lt_of_cell? w _ hx326_0)).trans hx326_0
              replace hx326_1 := (HB.out.cell (World.block_lt_of_cell? w _ hx326_1)).trans hx326_1
              replace hx326_2 := (HB.out.cell (World.block_lt_of_cell? w _ hx326_2)).trans hx326_2
              replace p326 := eq_true p326
              replace q326 := eq_true q326
              go_wp2_with (first | ((with_reducible refine gate_dst (N := 13) rfl ?_); refine qbx 13 45 #[.int .i64 0, .int .i64 0, .int .i64 0] ?_; intro gb327 hg w17 hbox hb; replace HO_326000 := Aside0.mk (Kd.R_below (qR HO_326000.out) hb); have BK327 := Aside0.mk (hbox); have GW327 := qgs HB hg; have GE327 := qgs HB hg; replace HB := qbs HB hb; have NB318_327 := qnL BK318 hg; have NB327_318 := qnG BK318 hg; replace BK318 := qbb BK318 hb; have NB325_327 := qnL BK325 hg; have NB327_325 := qnG BK325 hg; replace BK325 := qbb BK325 hb; clear hb hbox hg; have hnb18 := NB327_318.out; have hnc18 := NB318_327.out; have hnb19 := NB327_325.out; have hnc19 := NB325_327.out; have hcz20_0 := qc0 BK327; have hcz20_1 := qc1 BK327; have hcz20_2 := qc2 BK327; have hfz20_0 := blk_frozen BK327.out 0; have hfz20_1 := blk_frozen BK327.out 1; have hfz20_2 := blk_frozen BK327.out 2) | ((with_reducible refine gate_store (t := 45) (p := 13) rfl ?_); refine store_event (t := 45) (p := 13) (v := ?vo_w21) (w1 := (((w17.setCell ⟨gb327, 0, none⟩ (.int .i64 ((rd_T45 l2 x25_1).f0.f0))).setCell ⟨gb327, 1, none⟩ (.int .i64 ((rd_T45 l2 x25_1).f0.f1))).setCell ⟨gb327, 2, none⟩ (.int .i64 ((rd_T45 l2 x25_1).f1)))) ?hg ?ho ?hn ?hr ?_; (case ho => rfl); (case hg => rfl); (case hn => rfl); (case hr => first | (go_simp; done) | (go_simp; rfl)); intro w21 hw; replace HO_326000 : Aside0 (Kd.R (Kd.int .i64) 2 w21 w.heap.size (fun _ => True) (.slice Ao9 t322.length co9) t322) := ⟨(by rw [hw]; exact (qR (Kd.R_mono (Kd.R_far (p := ⟨gb327, 2, none⟩) (Kd.R_far (p := ⟨gb327, 1, none⟩) (Kd.R_far (p := ⟨gb327, 0, none⟩) (Kd.R_types HO_326000.out BK327.out (by decide)) (fun _ hk => hk.2) (.int .i64 ((rd_T45 l2 x25_1).f0.f0))) (fun _ hk => hk.2) (.int .i64 ((rd_T45 l2 x25_1).f0.f1))) (fun _ hk => hk.2) (.int .i64 ((rd_T45 l2 x25_1).f1))) (fun _ hk => trivial))))⟩; replace BK318 : Aside0 (w21.heap[gb318]? = some (.cells #[.int .i64 a0_0, .int .i64 a0_1, .int .i64 a0_2] 25 (0, 0))) := ⟨(by rw [hw]; exact qw)⟩; replace BK325 : Aside0 (w21.heap[gb325]? = some (.cells #[.slice Ao9 t322.length co9] 75 (0, 0))) := ⟨(by rw [hw]; exact qw)⟩; replace BK327 : Aside0 (w21.heap[gb327]? = some (.cells #[.int .i64 ((rd_T45 l2 x25_1).f0.f0), .int .i64 ((rd_T45 l2 x25_1).f0.f1), .int .i64 ((rd_T45 l2 x25_1).f1)] 45 (0, 0))) := ⟨(by rw [hw]; exact qw)⟩; replace HB : Aside0 (Below w.heap.size w w21) := ⟨(by rw [hw]; exact qB)⟩; clear hw; have q22 : (x25_1 : Int) ≤ ((l2.length : Int) : Int) := qo; obtain ⟨i022, hi022, _, hsz22, _⟩ := info_parts info45; have hroom22 : l2.length ≤ c2 := HC2.out; have hC22 : Kd.C k45 _ (some ad326) l2.length l2 := HR2.out; have hcut22 := cut_to (P := Try.prog) 28 45 .i64 Try.underlying28 hi022 (some ad326) l2.length c2 x25_1 qo q22 hroom22; have hr22 := Kd.C_take (m := (x25_1 : Int).toNat) hC22 (by omega); have hy22 : y328.length = (x25_1 : Int).toNat := (by rw [Ny328.out, List.length_take]; omega); rw [← Ny328.out] at hr22; rw [← hy22] at hcut22; have HR331 := Aside0.mk hr22; have HC331 := Aside0.mk (show y328.length ≤ c2 from by omega); clear hr22 hC22 hroom22 hi022 hsz22; have KY22 := Aside0.mk hy22; clear hy22; replace q22 := eq_true q22))
              go_loopg [34] k1 (fun kq v34 w' => ∃ (x34_2 : Int), v34 = .int .i64 x34_2 ∧ Aside0 (impl_conflictOf.l1 kq l2 x25_1 l2 (l2.length : Int) x25_1 y328 (y328.length : Int) x34_2 a0_0 a0_1 a0_2 t322 ((rd_T45 l2 x25_1).f0.f0) ((rd_T45 l2 x25_1).f0.f1) ((rd_T45 l2 x25_1).f1) = some (r1, r2, r3)) ∧ Aside0 (kq ≤ k1) ∧ Aside0 (Kd.R (Kd.int .i64) 2 w' w.heap.size (fun _ => True) (.slice Ao9 t322.length co9) t322) ∧ Aside0 (w'.heap[gb318]? = some (.cells #[.int .i64 a0_0, .int .i64 a0_1, .int .i64 a0_2] 25 (0, 0))) ∧ Aside0 (w'.heap[gb325]? = some (.cells #[(.slice Ao9 t322.length co9)] 75 (0, 0))) ∧ Aside0 (w'.heap[gb327]? = some (.cells #[.int .i64 ((rd_T45 l2 x25_1).f0.f0), .int .i64 ((rd_T45 l2 x25_1).f0.f1), .int .i64 ((rd_T45 l2 x25_1).f1)] 45 (0, 0))) ∧ Aside0 (Below w.heap.size w w'))
              case atStart => exact ⟨(0), qf, H', ⟨Nat.le_refl _⟩, ⟨by (with_reducible repeat (first | apply Kd.R_alloc | apply Kd.R_drewN | apply Kd.R_drew)); exact HO_326000.out⟩, ⟨by (with_reducible repeat (first | refine blk_drewN ?_ _ | refine blk_drew ?_ | refine blk_alloc ?_ _)); exact BK318.out⟩, ⟨by (with_reducible repeat (first | refine blk_drewN ?_ _ | refine blk_drew ?_ | refine blk_alloc ?_ _)); exact BK325.out⟩, ⟨by (with_reducible repeat (first | refine blk_drewN ?_ _ | refine blk_drew ?_ | refine blk_alloc ?_ _)); exact BK327.out⟩, ⟨qB⟩⟩
              case round =>
                clear H'
                try clear c1
                try clear c2
                try clear p2
                try clear q2
                try clear c3
                try clear p3
                try clear q3
                try clear hx3
                try clear c4
                try clear c10
                try clear c12
                try clear c12b0
                try clear c13
                try clear c13b0
                try clear c14
                try clear c14b0
                try clear c15
                try clear c15b0
                try clear c16
                try clear c16b0
                try clear c16b1
                try clear c18
                try clear c19
                try clear q22
                try clear hcz11_0
                try clear hcz20_0
                try clear hcz20_1
                try clear hcz20_2
                try clear hcz6_0
                try clear hcz6_1
                try clear hcz6_2
                try clear hfz11_0
                try clear hfz20_0
                try clear hfz20_1
                try clear hfz20_2
                try clear hfz6_0
                try clear hfz6_1
                try clear hfz6_2
                try clear hx326_0
                try clear hx326_1
                try clear hx326_2
                try clear p2
                try clear p326
                try clear q22
                try clear q326
                obtain ⟨x34_2, rfl, HA, HK2, HO_326000, BK318, BK325, BK327, HB⟩ := hrel
                cases gk with
                | zero => exact absurd HA.out (by simp [impl_conflictOf.l1])
                | succ k2 =>
                  have H := HA.out
                  clear HA
                  simp only [impl_conflictOf.l1] at H
                  by_cases c23 : x34_2 < (y328.length : Int)
                  · rw [if_pos c23] at H
                    have c23b0 : decide (x34_2 < (y328.length : Int)) = true := decide_eq_true c23
                    clear c23
                    by_cases c24 : 0 ≤ x34_2
                    · rw [if_pos c24] at H
                      have c24b0 : decide (0 ≤ x34_2) = true := decide_eq_true c24
                      clear c24
                      by_cases c25 : x34_2 < (y328.length : Int)
                      · rw [if_pos c25] at H
                        have c25b0 : decide (x34_2 < (y328.length : Int)) = true := decide_eq_true c25
                        clear c25
                        by_cases c26 : ((rd_T45 y328 x34_2).f1) = ((rd_T45 l2 x25_1).f1)
                        · rw [if_pos c26] at H
                          have c26b0 : (((rd_T45 y328 x34_2).f1) == ((rd_T45 l2 x25_1).f1)) = true := beq_iff_eq.mpr c26
                          have c26b1 : (((rd_T45 y328 x34_2).f1) != ((rd_T45 l2 x25_1).f1)) = false := bne_eq_false_iff_eq.mpr c26
                          clear c26
                          have H' := Aside0.mk H
                          clear H
                          have p332 : 0 ≤ (x34_2 : Int) := qo
                          have q332 : x34_2 < (y328.length : Int) := qo
                          obtain ⟨ad332, e332, hx332_0, hx332_1, hx332_2⟩ := at_T45 HR331.out x34_2 p332 q332
                          obtain rfl : ad326 = ad332 := (by injection e332)
                          replace hx332_0 := (HB.out.cell (World.block_lt_of_cell? w _ hx332_0)).trans hx332_0
                          replace hx332_1 := (HB.out.cell (World.block_lt_of_cell? w _ hx332_1)).trans hx332_1
                          replace hx332_2 := (HB.out.cell (World.block_lt_of_cell? w _ hx332_2)).trans hx332_2
                          replace p332 := eq_true p332
                          replace q332 := eq_true q332
                          try go_wp2_with (first | ((with_reducible refine gate_dst (N := 15) rfl ?_); refine qbx 15 45 #[.int .i64 0, .int .i64 0, .int .i64 0] ?_; intro gb333 hg w27 hbox hb; replace HO_326000 := Aside0.mk (Kd.R_below (qR HO_326000.out) hb); have BK333 := Aside0.mk (hbox); have GW333 := qgs HB hg; have GE333 := qgs HB hg; replace HB := qbs HB hb; have NB318_333 := qnL BK318 hg; have NB333_318 := qnG BK318 hg; replace BK318 := qbb BK318 hb; have NB325_333 := qnL BK325 hg; have NB333_325 := qnG BK325 hg; replace BK325 := qbb BK325 hb; have NB327_333 := qnL BK327 hg; have NB333_327 := qnG BK327 hg; replace BK327 := qbb BK327 hb; clear hb hbox hg; have hnb28 := NB333_318.out; have hnc28 := NB318_333.out; have hnb29 := NB333_325.out; have hnc29 := NB325_333.out; have hnb30 := NB333_327.out; have hnc30 := NB327_333.out; have hcz31_0 := qc0 BK333; have hcz31_1 := qc1 BK333; have hcz31_2 := qc2 BK333; have hfz31_0 := blk_frozen BK333.out 0; have hfz31_1 := blk_frozen BK333.out 1; have hfz31_2 := blk_frozen BK333.out 2))
                          have n0_ : Aside0 (Kd.R (Kd.int .i64) 2 (((w27.setCell ⟨gb333, 0, none⟩ (.int .i64 ((rd_T45 y328 x34_2).f0.f0))).setCell ⟨gb333, 1, none⟩ (.int .i64 ((rd_T45 y328 x34_2).f0.f1))).setCell ⟨gb333, 2, none⟩ (.int .i64 ((rd_T45 y328 x34_2).f1))) w.heap.size (fun _ => True) (.slice Ao9 t322.length co9) t322) := ⟨by (with_reducible repeat (first | apply Kd.R_alloc | apply Kd.R_drewN | apply Kd.R_drew)); exact Kd.R_mono (Kd.R_far (p := ⟨gb333, 2, none⟩) (Kd.R_far (p := ⟨gb333, 1, none⟩) (Kd.R_far (p := ⟨gb333, 0, none⟩) (Kd.R_types HO_326000.out BK333.out (by decide)) (fun _ hk => hk.2) (.int .i64 ((rd_T45 y328 x34_2).f0.f0))) (fun _ hk => hk.2) (.int .i64 ((rd_T45 y328 x34_2).f0.f1))) (fun _ hk => hk.2) (.int .i64 ((rd_T45 y328 x34_2).f1))) (fun _ hk => trivial)⟩
                          have n1_ : Aside0 ((((w27.setCell ⟨gb333, 0, none⟩ (.int .i64 ((rd_T45 y328 x34_2).f0.f0))).setCell ⟨gb333, 1, none⟩ (.int .i64 ((rd_T45 y328 x34_2).f0.f1))).setCell ⟨gb333, 2, none⟩ (.int .i64 ((rd_T45 y328 x34_2).f1))).heap[gb318]? = some (.cells #[.int .i64 a0_0, .int .i64 a0_1, .int .i64 a0_2] 25 (0, 0))) := ⟨by (with_reducible repeat (first | refine blk_drewN ?_ _ | refine blk_drew ?_ | refine blk_alloc ?_ _)); refine blk_far ?_ NB318_333.out _; (with_reducible repeat (first | refine blk_drewN ?_ _ | refine blk_drew ?_ | refine blk_alloc ?_ _)); refine blk_far ?_ NB318_333.out _; (with_reducible repeat (first | refine blk_drewN ?_ _ | refine blk_drew ?_ | refine blk_alloc ?_ _)); refine blk_far ?_ NB318_333.out _; (with_reducible repeat (first | refine blk_drewN ?_ _ | refine blk_drew ?_ | refine blk_alloc ?_ _)); exact BK318.out⟩
                          have n2_ : Aside0 ((((w27.setCell ⟨gb333, 0, none⟩ (.int .i64 ((rd_T45 y328 x34_2).f0.f0))).setCell ⟨gb333, 1, none⟩ (.int .i64 ((rd_T45 y328 x34_2).f0.f1))).setCell ⟨gb333, 2, none⟩ (.int .i64 ((rd_T45 y328 x34_2).f1))).heap[gb325]? = some (.cells #[.slice Ao9 t322.length co9] 75 (0, 0))) := ⟨by (with_reducible repeat (first | refine blk_drewN ?_ _ | refine blk_drew ?_ | refine blk_alloc ?_ _)); refine blk_far ?_ NB325_333.out _; (with_reducible repeat (first | refine blk_drewN ?_ _ | refine blk_drew ?_ | refine blk_alloc ?_ _)); refine blk_far ?_ NB325_333.out _; (with_reducible repeat (first | refine blk_drewN ?_ _ | refine blk_drew ?_ | refine blk_alloc ?_ _)); refine blk_far ?_ NB325_333.out _; (with_reducible repeat (first | refine blk_drewN ?_ _ | refine blk_drew ?_ | refine blk_alloc ?_ _)); exact BK325.out⟩
                          have n3_ : Aside0 ((((w27.setCell ⟨gb333, 0, none⟩ (.int .i64 ((rd_T45 y328 x34_2).f0.f0))).setCell ⟨gb333, 1, none⟩ (.int .i64 ((rd_T45 y328 x34_2).f0.f1))).setCell ⟨gb333, 2, none⟩ (.int .i64 ((rd_T45 y328 x34_2).f1))).heap[gb327]? = some (.cells #[.int .i64 ((rd_T45 l2 x25_1).f0.f0), .int .i64 ((rd_T45 l2 x25_1).f0.f1), .int .i64 ((rd_T45 l2 x25_1).f1)] 45 (0, 0))) := ⟨by (with_reducible repeat (first | refine blk_drewN ?_ _ | refine blk_drew ?_ | refine blk_alloc ?_ _)); refine blk_far ?_ NB327_333.out _; (with_reducible repeat (first | refine blk_drewN ?_ _ | refine blk_drew ?_ | refine blk_alloc ?_ _)); refine blk_far ?_ NB327_333.out _; (with_reducible repeat (first | refine blk_drewN ?_ _ | refine blk_drew ?_ | refine blk_alloc ?_ _)); refine blk_far ?_ NB327_333.out _; (with_reducible repeat (first | refine blk_drewN ?_ _ | refine blk_drew ?_ | refine blk_alloc ?_ _)); exact BK327.out⟩
                          have n4_ : Aside0 ((((w27.setCell ⟨gb333, 0, none⟩ (.int .i64 ((rd_T45 y328 x34_2).f0.f0))).setCell ⟨gb333, 1, none⟩ (.int .i64 ((rd_T45 y328 x34_2).f0.f1))).setCell ⟨gb333, 2, none⟩ (.int .i64 ((rd_T45 y328 x34_2).f1))).heap[gb333]? = some (.cells #[.int .i64 ((rd_T45 y328 x34_2).f0.f0), .int .i64 ((rd_T45 y328 x34_2).f0.f1), .int .i64 ((rd_T45 y328 x34_2).f1)] 45 (0, 0))) := ⟨by (with_reducible repeat (first | refine blk_drewN ?_ _ | refine blk_drew ?_ | refine blk_alloc ?_ _)); refine blk_put (cs := #[.int .i64 ((rd_T45 y328 x34_2).f0.f0), .int .i64 ((rd_T45 y328 x34_2).f0.f1), .int .i64 0]) ?_ 2 _ rfl; (with_reducible repeat (first | refine blk_drewN ?_ _ | refine blk_drew ?_ | refine blk_alloc ?_ _)); refine blk_put (cs := #[.int .i64 ((rd_T45 y328 x34_2).f0.f0), .int .i64 0, .int .i64 0]) ?_ 1 _ rfl; (with_reducible repeat (first | refine blk_drewN ?_ _ | refine blk_drew ?_ | refine blk_alloc ?_ _)); refine blk_put (cs := #[.int .i64 0, .int .i64 0, .int .i64 0]) ?_ 0 _ rfl; (with_reducible repeat (first | refine blk_drewN ?_ _ | refine blk_drew ?_ | refine blk_alloc ?_ _)); exact BK333.out⟩
                          have n5_ : Aside0 (Below w.heap.size w (((w27.setCell ⟨gb333, 0, none⟩ (.int .i64 ((rd_T45 y328 x34_2).f0.f0))).setCell ⟨gb333, 1, none⟩ (.int .i64 ((rd_T45 y328 x34_2).f0.f1))).setCell ⟨gb333, 2, none⟩ (.int .i64 ((rd_T45 y328 x34_2).f1)))) := ⟨qB⟩
                          (try clear HO_326000)
                          (try clear BK318)
                          (try clear BK325)
                          (try clear BK327)
                          (try clear BK333)
                          (try clear HB)
                          generalize (((w27.setCell ⟨gb333, 0, none⟩ (.int .i64 ((rd_T45 y328 x34_2).f0.f0))).setCell ⟨gb333, 1, none⟩ (.int .i64 ((rd_T45 y328 x34_2).f0.f1))).setCell ⟨gb333, 2, none⟩ (.int .i64 ((rd_T45 y328 x34_2).f1))) = w32 at n0_ n1_ n2_ n3_ n4_ n5_ ⊢
                          have HO_326000 := n0_
                          have BK318 := n1_
                          have BK325 := n2_
                          have BK327 := n3_
                          have BK333 := n4_
                          have HB := n5_
                          clear n0_ n1_ n2_ n3_ n4_ n5_
                          replace HO_326000 := Aside0.mk (Kd.R_drew HO_326000.out)
                          replace BK318 := Aside0.mk (blk_drew BK318.out)
                          replace BK325 := Aside0.mk (blk_drew BK325.out)
                          replace BK327 := Aside0.mk (blk_drew BK327.out)
                          replace BK333 := Aside0.mk (blk_drew BK333.out)
                          replace HB := Aside0.mk (below_drew1 HB.out)
                          refine start_ (n := 14) (S := fun w' => w'.cell? ⟨gb333, 0, none⟩ = some (.int .i64 ((rd_T45 y328 x34_2).f0.f0)) ∧ w'.cell? ⟨gb333, 1, none⟩ = some (.int .i64 ((rd_T45 y328 x34_2).f0.f1)) ∧ w'.cell? ⟨gb333, 2, none⟩ = some (.int .i64 ((rd_T45 y328 x34_2).f1)) ∧ w'.cell? ⟨gb327, 0, none⟩ = some (.int .i64 ((rd_T45 l2 x25_1).f0.f0)) ∧ w'.cell? ⟨gb327, 1, none⟩ = some (.int .i64 ((rd_T45 l2 x25_1).f0.f1)) ∧ w'.cell? ⟨gb327, 2, none⟩ = some (.int .i64 ((rd_T45 l2 x25_1).f1))) (ds := []) #[false, false, false, false, false, false, false, false, false, false, false, false, false, false] (by kernel_rfl) rfl rfl ⟨(blk_cell BK333.out 0).trans rfl, (blk_cell BK333.out 1).trans rfl, (blk_cell BK333.out 2).trans rfl, (blk_cell BK327.out 0).trans rfl, (blk_cell BK327.out 1).trans rfl, (blk_cell BK327.out 2).trans rfl⟩ (fun hHeld => ?_); refine with_tabW impl_conflictOf.tab9 impl_conflictOf.bits9 (fun HT_ HW_ => ?_)
                          generalize w32.drew = w33 at HO_326000 BK318 BK325 BK327 BK333 HB hHeld ⊢
                          refine pure_ (i := 0) (N := some 39) (v := ?_) (a' := ?_) #[true, false, false, false, false, false, false, false, false, false, false, false, false, false] rfl rfl (any_of HT_.out (by kernel_rfl)) (fun _ _ _ h => h) (Or.inl ⟨by rfl, ?_⟩) ?_ ?_
                          rotate_left
                          · intro w'
                            go_simp
                            with_reducible rfl
                          rotate_left
                          · simp only [Act.put, List.setIfInBounds_toArray, List.set_cons_zero, List.set_cons_succ, i64_w, i32_w]
                            rfl
                          refine pure_ (i := 2) (N := some 41) (v := ?_) (a' := ?_) #[true, false, true, false, false, false, false, false, false, false, false, false, false, false] rfl rfl (any_of HT_.out (by kernel_rfl)) (fun _ _ _ h => h) (Or.inl ⟨by rfl, ?_⟩) ?_ ?_
                          rotate_left
                          · intro w'
                            go_simp
                            with_reducible rfl
                          rotate_left
                          · simp only [Act.put, List.setIfInBounds_toArray, List.set_cons_zero, List.set_cons_succ, i64_w, i32_w]
                            rfl
                          refine take_ (i := 1) (N := some 40) (v := ?_) (a' := ?_) #[true, true, true, false, false, false, false, false, false, false, false, false, false, false] rfl rfl (take_ofW HT_.out HW_.out (by kernel_rfl)) (fun _ _ _ h => h) (Or.inl ⟨by rfl, ?_⟩) hHeld ?_ ?_
                          rotate_left
                          · rintro w' ⟨s0, s1, s2, s3, s4, s5⟩
                            go_simp
                            with_reducible rfl
                          rotate_left
                          · simp only [Act.put, List.setIfInBounds_toArray, List.set_cons_zero, List.set_cons_succ, i64_w, i32_w]
                            rfl
                          refine take_ (i := 3) (N := some 42) (v := ?_) (a' := ?_) #[true, true, true, true, false, false, false, false, false, false, false, false, false, false] rfl rfl (take_ofW HT_.out HW_.out (by kernel_rfl)) (fun _ _ _ h => h) (Or.inl ⟨by rfl, ?_⟩) hHeld ?_ ?_
                          rotate_left
                          · rintro w' ⟨s0, s1, s2, s3, s4, s5⟩
                            go_simp
                            with_reducible rfl
                          rotate_left
                          · simp only [Act.put, List.setIfInBounds_toArray, List.set_cons_zero, List.set_cons_succ, i64_w, i32_w]
                            rfl
                          refine pure_ (i := 4) (N := some 43) (v := ?_) (a' := ?_) #[true, true, true, true, true, false, false, false, false, false, false, false, false, false] rfl rfl (any_of HT_.out (by kernel_rfl)) (fun _ _ _ h => h) (Or.inl ⟨by rfl, ?_⟩) ?_ ?_
                          rotate_left
                          · intro w'
                            go_simp
                            with_reducible rfl
                          rotate_left
                          · simp only [Act.put, List.setIfInBounds_toArray, List.set_cons_zero, List.set_cons_succ, i64_w, i32_w]
                            rfl
                          refine pure_ (i := 5) (N := some 44) (v := ?_) (a' := ?_) #[true, true, true, true, true, true, false, false, false, false, false, false, false, false] rfl rfl (any_of HT_.out (by kernel_rfl)) (fun _ _ _ h => h) (Or.inl ⟨by rfl, ?_⟩) ?_ ?_
                          rotate_left
                          · intro w'
                            go_simp
                            with_reducible rfl
                          rotate_left
                          · simp only [Act.put, List.setIfInBounds_toArray, List.set_cons_zero, List.set_cons_succ, i64_w, i32_w]
                            rfl
                          refine pure_ (i := 6) (N := some 45) (v := undef) (a' := ?_) #[true, true, true, true, true, true, true, false, false, false, false, false, false, false] rfl rfl (any_of HT_.out (by kernel_rfl)) (fun _ _ _ h => h) (Or.inr ⟨by rfl, rfl⟩) ?_ ?_
                          rotate_left
                          · simp only [Act.put, List.setIfInBounds_toArray, List.set_cons_zero, List.set_cons_succ, i64_w, i32_w]
                            rfl
                          refine pure_ (i := 7) (N := some 46) (v := undef) (a' := ?_) #[true, true, true, true, true, true, true, true, false, false, false, false, false, false] rfl rfl (any_of HT_.out (by kernel_rfl)) (fun _ _ _ h => h) (Or.inr ⟨by rfl, rfl⟩) ?_ ?_
                          rotate_left
                          · simp only [Act.put, List.setIfInBounds_toArray, List.set_cons_zero, List.set_cons_succ, i64_w, i32_w]
                            rfl
                          refine pure_ (i := 8) (N := some 47) (v := undef) (a' := ?_) #[true, true, true, true, true, true, true, true, true, false, false, false, false, false] rfl rfl (any_of HT_.out (by kernel_rfl)) (fun _ _ _ h => h) (Or.inr ⟨by rfl, rfl⟩) ?_ ?_
                          rotate_left
                          · simp only [Act.put, List.setIfInBounds_toArray, List.set_cons_zero, List.set_cons_succ, i64_w, i32_w]
                            rfl
                          refine pure_ (i := 9) (N := some 48) (v := undef) (a' := ?_) #[true, true, true, true, true, true, true, true, true, true, false, false, false, false] rfl rfl (any_of HT_.out (by kernel_rfl)) (fun _ _ _ h => h) (Or.inr ⟨by rfl, rfl⟩) ?_ ?_
                          rotate_left
                          · simp only [Act.put, List.setIfInBounds_toArray, List.set_cons_zero, List.set_cons_succ, i64_w, i32_w]
                            rfl
                          refine pure_ (i := 10) (N := some 49) (v := undef) (a' := ?_) #[true, true, true, true, true, true, true, true, true, true, true, false, false, false] rfl rfl (any_of HT_.out (by kernel_rfl)) (fun _ _ _ h => h) (Or.inr ⟨by rfl, rfl⟩) ?_ ?_
                          rotate_left
                          · simp only [Act.put, List.setIfInBounds_toArray, List.set_cons_zero, List.set_cons_succ, i64_w, i32_w]
                            rfl
                          refine pure_ (i := 11) (N := some 50) (v := undef) (a' := ?_) #[true, true, true, true, true, true, true, true, true, true, true, true, false, false] rfl rfl (any_of HT_.out (by kernel_rfl)) (fun _ _ _ h => h) (Or.inr ⟨by rfl, rfl⟩) ?_ ?_
                          rotate_left
                          · simp only [Act.put, List.setIfInBounds_toArray, List.set_cons_zero, List.set_cons_succ, i64_w, i32_w]
                            rfl
                          refine pure_ (i := 12) (N := some 51) (v := undef) (a' := ?_) #[true, true, true, true, true, true, true, true, true, true, true, true, true, false] rfl rfl (any_of HT_.out (by kernel_rfl)) (fun _ _ _ h => h) (Or.inr ⟨by rfl, rfl⟩) ?_ ?_
                          rotate_left
                          · simp only [Act.put, List.setIfInBounds_toArray, List.set_cons_zero, List.set_cons_succ, i64_w, i32_w]
                            rfl
                          refine pure_ (i := 13) (N := some 52) (v := ?_) (a' := ?_) #[true, true, true, true, true, true, true, true, true, true, true, true, true, true] rfl rfl (any_of HT_.out (by kernel_rfl)) (fun _ _ _ h => h) (Or.inl ⟨by rfl, ?_⟩) ?_ ?_
                          rotate_left
                          · intro w'
                            go_simp
                            with_reducible rfl
                          rotate_left
                          · simp only [Act.put, List.setIfInBounds_toArray, List.set_cons_zero, List.set_cons_succ, i64_w, i32_w]
                            rfl
                          refine done_ (done_of HT_.out (by kernel_rfl)) ?_
                          try go_wp2
                          go_roundg k2
                          case measure => have := HK1.out; have := HK2.out; omega
                          case rel => exact ⟨(wrap64 (x34_2 + 1)), qf, H', ⟨by have := HK1.out; have := HK2.out; omega⟩, ⟨by (with_reducible repeat (first | apply Kd.R_alloc | apply Kd.R_drewN | apply Kd.R_drew)); exact HO_326000.out⟩, ⟨by (with_reducible repeat (first | refine blk_drewN ?_ _ | refine blk_drew ?_ | refine blk_alloc ?_ _)); exact BK318.out⟩, ⟨by (with_reducible repeat (first | refine blk_drewN ?_ _ | refine blk_drew ?_ | refine blk_alloc ?_ _)); exact BK325.out⟩, ⟨by (with_reducible repeat (first | refine blk_drewN ?_ _ | refine blk_drew ?_ | refine blk_alloc ?_ _)); exact BK327.out⟩, ⟨qB⟩⟩
                        · rw [if_neg c26] at H
                          have c26b0 : (((rd_T45 y328 x34_2).f1) == ((rd_T45 l2 x25_1).f1)) = false := beq_eq_false_iff_ne.mpr c26
                          have c26b1 : (((rd_T45 y328 x34_2).f1) != ((rd_T45 l2 x25_1).f1)) = true := bne_iff_ne.mpr c26
                          replace H := qbd H
                          obtain ⟨t334, A34, H⟩ := H
                          try dsimp only at H
                          replace H := qbd H
                          obtain ⟨t335, A35, H⟩ := H
                          try dsimp only at H
                          by_cases c36 : t334 = t335
                          · rw [if_pos c36] at H
                            have c36b0 : (t334 == t335) = true := beq_iff_eq.mpr c36
                            have c36b1 : (t334 != t335) = false := bne_eq_false_iff_eq.mpr c36
                            clear c36
                            simp only [Option.some.injEq, Prod.mk.injEq] at H
                            obtain ⟨rfl, rfl, rfl⟩ := H
                            have p332 : 0 ≤ (x34_2 : Int) := qo
                            have q332 : x34_2 < (y328.length : Int) := qo
                            obtain ⟨ad332, e332, hx332_0, hx332_1, hx332_2⟩ := at_T45 HR331.out x34_2 p332 q332
                            obtain rfl : ad326 = ad332 := (by injection e332)
                            replace hx332_0 := (HB.out.cell (World.block_lt_of_cell? w _ hx332_0)).trans hx332_0
                            replace hx332_1 := (HB.out.cell (World.block_lt_of_cell? w _ hx332_1)).trans hx332_1
                            replace hx332_2 := (HB.out.cell (World.block_lt_of_cell? w _ hx332_2)).trans hx332_2
                            replace p332 := eq_true p332
                            replace q332 := eq_true q332
                            try go_wp2_with (first | ((with_reducible refine gate_dst (N := 15) rfl ?_); refine qbx 15 45 #[.int .i64 0, .int .i64 0, .int .i64 0] ?_; intro gb333 hg w37 hbox hb; replace HO_326000 := Aside0.mk (Kd.R_below (qR HO_326000.out) hb); have BK333 := Aside0.mk (hbox); have GW333 := qgs HB hg; have GE333 := qgs HB hg; replace HB := qbs HB hb; have NB318_333 := qnL BK318 hg; have NB333_318 := qnG BK318 hg; replace BK318 := qbb BK318 hb; have NB325_333 := qnL BK325 hg; have NB333_325 := qnG BK325 hg; replace BK325 := qbb BK325 hb; have NB327_333 := qnL BK327 hg; have NB333_327 := qnG BK327 hg; replace BK327 := qbb BK327 hb; clear hb hbox hg; have hnb38 := NB333_318.out; have hnc38 := NB318_333.out; have hnb39 := NB333_325.out; have hnc39 := NB325_333.out; have hnb40 := NB333_327.out; have hnc40 := NB327_333.out; have hcz41_0 := qc0 BK333; have hcz41_1 := qc1 BK333; have hcz41_2 := qc2 BK333; have hfz41_0 := blk_frozen BK333.out 0; have hfz41_1 := blk_frozen BK333.out 1; have hfz41_2 := blk_frozen BK333.out 2))
                            have n0_ : Aside0 (Kd.R (Kd.int .i64) 2 (((w37.setCell ⟨gb333, 0, none⟩ (.int .i64 ((rd_T45 y328 x34_2).f0.f0))).setCell ⟨gb333, 1, none⟩ (.int .i64 ((rd_T45 y328 x34_2).f0.f1))).setCell ⟨gb333, 2, none⟩ (.int .i64 ((rd_T45 y328 x34_2).f1))) w.heap.size (fun _ => True) (.slice Ao9 t322.length co9) t322) := ⟨by (with_reducible repeat (first | apply Kd.R_alloc | apply Kd.R_drewN | apply Kd.R_drew)); exact Kd.R_mono (Kd.R_far (p := ⟨gb333, 2, none⟩) (Kd.R_far (p := ⟨gb333, 1, none⟩) (Kd.R_far (p := ⟨gb333, 0, none⟩) (Kd.R_types HO_326000.out BK333.out (by decide)) (fun _ hk => hk.2) (.int .i64 ((rd_T45 y328 x34_2).f0.f0))) (fun _ hk => hk.2) (.int .i64 ((rd_T45 y328 x34_2).f0.f1))) (fun _ hk => hk.2) (.int .i64 ((rd_T45 y328 x34_2).f1))) (fun _ hk => trivial)⟩
                            have n1_ : Aside0 ((((w37.setCell ⟨gb333, 0, none⟩ (.int .i64 ((rd_T45 y328 x34_2).f0.f0))).setCell ⟨gb333, 1, none⟩ (.int .i64 ((rd_T45 y328 x34_2).f0.f1))).setCell ⟨gb333, 2, none⟩ (.int .i64 ((rd_T45 y328 x34_2).f1))).heap[gb318]? = some (.cells #[.int .i64 a0_0, .int .i64 a0_1, .int .i64 a0_2] 25 (0, 0))) := ⟨by (with_reducible repeat (first | refine blk_drewN ?_ _ | refine blk_drew ?_ | refine blk_alloc ?_ _)); refine blk_far ?_ NB318_333.out _; (with_reducible repeat (first | refine blk_drewN ?_ _ | refine blk_drew ?_ | refine blk_alloc ?_ _)); refine blk_far ?_ NB318_333.out _; (with_reducible repeat (first | refine blk_drewN ?_ _ | refine blk_drew ?_ | refine blk_alloc ?_ _)); refine blk_far ?_ NB318_333.out _; (with_reducible repeat (first | refine blk_drewN ?_ _ | refine blk_drew ?_ | refine blk_alloc ?_ _)); exact BK318.out⟩
                            have n2_ : Aside0 ((((w37.setCell ⟨gb333, 0, none⟩ (.int .i64 ((rd_T45 y328 x34_2).f0.f0))).setCell ⟨gb333, 1, none⟩ (.int .i64 ((rd_T45 y328 x34_2).f0.f1))).setCell ⟨gb333, 2, none⟩ (.int .i64 ((rd_T45 y328 x34_2).f1))).heap[gb325]? = some (.cells #[.slice Ao9 t322.length co9] 75 (0, 0))) := ⟨by (with_reducible repeat (first | refine blk_drewN ?_ _ | refine blk_drew ?_ | refine blk_alloc ?_ _)); refine blk_far ?_ NB325_333.out _; (with_reducible repeat (first | refine blk_drewN ?_ _ | refine blk_drew ?_ | refine blk_alloc ?_ _)); refine blk_far ?_ NB325_333.out _; (with_reducible repeat (first | refine blk_drewN ?_ _ | refine blk_drew ?_ | refine blk_alloc ?_ _)); refine blk_far ?_ NB325_333.out _; (with_reducible repeat (first | refine blk_drewN ?_ _ | refine blk_drew ?_ | refine blk_alloc ?_ _)); exact BK325.out⟩
                            have n3_ : Aside0 ((((w37.setCell ⟨gb333, 0, none⟩ (.int .i64 ((rd_T45 y328 x34_2).f0.f0))).setCell ⟨gb333, 1, none⟩ (.int .i64 ((rd_T45 y328 x34_2).f0.f1))).setCell ⟨gb333, 2, none⟩ (.int .i64 ((rd_T45 y328 x34_2).f1))).heap[gb327]? = some (.cells #[.int .i64 ((rd_T45 l2 x25_1).f0.f0), .int .i64 ((rd_T45 l2 x25_1).f0.f1), .int .i64 ((rd_T45 l2 x25_1).f1)] 45 (0, 0))) := ⟨by (with_reducible repeat (first | refine blk_drewN ?_ _ | refine blk_drew ?_ | refine blk_alloc ?_ _)); refine blk_far ?_ NB327_333.out _; (with_reducible repeat (first | refine blk_drewN ?_ _ | refine blk_drew ?_ | refine blk_alloc ?_ _)); refine blk_far ?_ NB327_333.out _; (with_reducible repeat (first | refine blk_drewN ?_ _ | refine blk_drew ?_ | refine blk_alloc ?_ _)); refine blk_far ?_ NB327_333.out _; (with_reducible repeat (first | refine blk_drewN ?_ _ | refine blk_drew ?_ | refine blk_alloc ?_ _)); exact BK327.out⟩
                            have n4_ : Aside0 ((((w37.setCell ⟨gb333, 0, none⟩ (.int .i64 ((rd_T45 y328 x34_2).f0.f0))).setCell ⟨gb333, 1, none⟩ (.int .i64 ((rd_T45 y328 x34_2).f0.f1))).setCell ⟨gb333, 2, none⟩ (.int .i64 ((rd_T45 y328 x34_2).f1))).heap[gb333]? = some (.cells #[.int .i64 ((rd_T45 y328 x34_2).f0.f0), .int .i64 ((rd_T45 y328 x34_2).f0.f1), .int .i64 ((rd_T45 y328 x34_2).f1)] 45 (0, 0))) := ⟨by (with_reducible repeat (first | refine blk_drewN ?_ _ | refine blk_drew ?_ | refine blk_alloc ?_ _)); refine blk_put (cs := #[.int .i64 ((rd_T45 y328 x34_2).f0.f0), .int .i64 ((rd_T45 y328 x34_2).f0.f1), .int .i64 0]) ?_ 2 _ rfl; (with_reducible repeat (first | refine blk_drewN ?_ _ | refine blk_drew ?_ | refine blk_alloc ?_ _)); refine blk_put (cs := #[.int .i64 ((rd_T45 y328 x34_2).f0.f0), .int .i64 0, .int .i64 0]) ?_ 1 _ rfl; (with_reducible repeat (first | refine blk_drewN ?_ _ | refine blk_drew ?_ | refine blk_alloc ?_ _)); refine blk_put (cs := #[.int .i64 0, .int .i64 0, .int .i64 0]) ?_ 0 _ rfl; (with_reducible repeat (first | refine blk_drewN ?_ _ | refine blk_drew ?_ | refine blk_alloc ?_ _)); exact BK333.out⟩
                            have n5_ : Aside0 (Below w.heap.size w (((w37.setCell ⟨gb333, 0, none⟩ (.int .i64 ((rd_T45 y328 x34_2).f0.f0))).setCell ⟨gb333, 1, none⟩ (.int .i64 ((rd_T45 y328 x34_2).f0.f1))).setCell ⟨gb333, 2, none⟩ (.int .i64 ((rd_T45 y328 x34_2).f1)))) := ⟨qB⟩
                            (try clear HO_326000)
                            (try clear BK318)
                            (try clear BK325)
                            (try clear BK327)
                            (try clear BK333)
                            (try clear HB)
                            generalize (((w37.setCell ⟨gb333, 0, none⟩ (.int .i64 ((rd_T45 y328 x34_2).f0.f0))).setCell ⟨gb333, 1, none⟩ (.int .i64 ((rd_T45 y328 x34_2).f0.f1))).setCell ⟨gb333, 2, none⟩ (.int .i64 ((rd_T45 y328 x34_2).f1))) = w42 at n0_ n1_ n2_ n3_ n4_ n5_ ⊢
                            have HO_326000 := n0_
                            have BK318 := n1_
                            have BK325 := n2_
                            have BK327 := n3_
                            have BK333 := n4_
                            have HB := n5_
                            clear n0_ n1_ n2_ n3_ n4_ n5_
                            replace HO_326000 := Aside0.mk (Kd.R_drew HO_326000.out)
                            replace BK318 := Aside0.mk (blk_drew BK318.out)
                            replace BK325 := Aside0.mk (blk_drew BK325.out)
                            replace BK327 := Aside0.mk (blk_drew BK327.out)
                            replace BK333 := Aside0.mk (blk_drew BK333.out)
                            replace HB := Aside0.mk (below_drew1 HB.out)
                            refine start_ (n := 14) (S := fun w' => w'.cell? ⟨gb333, 0, none⟩ = some (.int .i64 ((rd_T45 y328 x34_2).f0.f0)) ∧ w'.cell? ⟨gb333, 1, none⟩ = some (.int .i64 ((rd_T45 y328 x34_2).f0.f1)) ∧ w'.cell? ⟨gb333, 2, none⟩ = some (.int .i64 ((rd_T45 y328 x34_2).f1)) ∧ w'.cell? ⟨gb327, 0, none⟩ = some (.int .i64 ((rd_T45 l2 x25_1).f0.f0)) ∧ w'.cell? ⟨gb327, 1, none⟩ = some (.int .i64 ((rd_T45 l2 x25_1).f0.f1)) ∧ w'.cell? ⟨gb327, 2, none⟩ = some (.int .i64 ((rd_T45 l2 x25_1).f1))) (ds := []) #[false, false, false, false, false, false, false, false, false, false, false, false, false, false] (by kernel_rfl) rfl rfl ⟨(blk_cell BK333.out 0).trans rfl, (blk_cell BK333.out 1).trans rfl, (blk_cell BK333.out 2).trans rfl, (blk_cell BK327.out 0).trans rfl, (blk_cell BK327.out 1).trans rfl, (blk_cell BK327.out 2).trans rfl⟩ (fun hHeld => ?_); refine with_tabW impl_conflictOf.tab9 impl_conflictOf.bits9 (fun HT_ HW_ => ?_)
                            generalize w42.drew = w43 at HO_326000 BK318 BK325 BK327 BK333 HB hHeld ⊢
                            refine pure_ (i := 0) (N := some 39) (v := ?_) (a' := ?_) #[true, false, false, false, false, false, false, false, false, false, false, false, false, false] rfl rfl (any_of HT_.out (by kernel_rfl)) (fun _ _ _ h => h) (Or.inl ⟨by rfl, ?_⟩) ?_ ?_
                            rotate_left
                            · intro w'
                              go_simp
                              with_reducible rfl
                            rotate_left
                            · simp only [Act.put, List.setIfInBounds_toArray, List.set_cons_zero, List.set_cons_succ, i64_w, i32_w]
                              rfl
                            refine pure_ (i := 2) (N := some 41) (v := ?_) (a' := ?_) #[true, false, true, false, false, false, false, false, false, false, false, false, false, false] rfl rfl (any_of HT_.out (by kernel_rfl)) (fun _ _ _ h => h) (Or.inl ⟨by rfl, ?_⟩) ?_ ?_
                            rotate_left
                            · intro w'
                              go_simp
                              with_reducible rfl
                            rotate_left
                            · simp only [Act.put, List.setIfInBounds_toArray, List.set_cons_zero, List.set_cons_succ, i64_w, i32_w]
                              rfl
                            refine take_ (i := 1) (N := some 40) (v := ?_) (a' := ?_) #[true, true, true, false, false, false, false, false, false, false, false, false, false, false] rfl rfl (take_ofW HT_.out HW_.out (by kernel_rfl)) (fun _ _ _ h => h) (Or.inl ⟨by rfl, ?_⟩) hHeld ?_ ?_
                            rotate_left
                            · rintro w' ⟨s0, s1, s2, s3, s4, s5⟩
                              go_simp
                              with_reducible rfl
                            rotate_left
                            · simp only [Act.put, List.setIfInBounds_toArray, List.set_cons_zero, List.set_cons_succ, i64_w, i32_w]
                              rfl
                            refine take_ (i := 3) (N := some 42) (v := ?_) (a' := ?_) #[true, true, true, true, false, false, false, false, false, false, false, false, false, false] rfl rfl (take_ofW HT_.out HW_.out (by kernel_rfl)) (fun _ _ _ h => h) (Or.inl ⟨by rfl, ?_⟩) hHeld ?_ ?_
                            rotate_left
                            · rintro w' ⟨s0, s1, s2, s3, s4, s5⟩
                              go_simp
                              with_reducible rfl
                            rotate_left
                            · simp only [Act.put, List.setIfInBounds_toArray, List.set_cons_zero, List.set_cons_succ, i64_w, i32_w]
                              rfl
                            refine pure_ (i := 4) (N := some 43) (v := ?_) (a' := ?_) #[true, true, true, true, true, false, false, false, false, false, false, false, false, false] rfl rfl (any_of HT_.out (by kernel_rfl)) (fun _ _ _ h => h) (Or.inl ⟨by rfl, ?_⟩) ?_ ?_
                            rotate_left
                            · intro w'
                              go_simp
                              with_reducible rfl
                            rotate_left
                            · simp only [Act.put, List.setIfInBounds_toArray, List.set_cons_zero, List.set_cons_succ, i64_w, i32_w]
                              rfl
                            refine pure_ (i := 5) (N := some 44) (v := ?_) (a' := ?_) #[true, true, true, true, true, true, false, false, false, false, false, false, false, false] rfl rfl (any_of HT_.out (by kernel_rfl)) (fun _ _ _ h => h) (Or.inl ⟨by rfl, ?_⟩) ?_ ?_
                            rotate_left
                            · intro w'
                              go_simp
                              with_reducible rfl
                            rotate_left
                            · simp only [Act.put, List.setIfInBounds_toArray, List.set_cons_zero, List.set_cons_succ, i64_w, i32_w]
                              rfl
                            refine pure_ (i := 6) (N := some 45) (v := ?_) (a' := ?_) #[true, true, true, true, true, true, true, false, false, false, false, false, false, false] rfl rfl (any_of HT_.out (by kernel_rfl)) (fun _ _ _ h => h) (Or.inl ⟨by rfl, ?_⟩) ?_ ?_
                            rotate_left
                            · intro w'
                              go_simp
                              with_reducible rfl
                            rotate_left
                            · simp only [Act.put, List.setIfInBounds_toArray, List.set_cons_zero, List.set_cons_succ, i64_w, i32_w]
                              rfl
                            refine pure_ (i := 9) (N := some 48) (v := ?_) (a' := ?_) #[true, true, true, true, true, true, true, false, false, true, false, false, false, false] rfl rfl (any_of HT_.out (by kernel_rfl)) (fun _ _ _ h => h) (Or.inl ⟨by rfl, ?_⟩) ?_ ?_
                            rotate_left
                            · intro w'
                              go_simp
                              with_reducible rfl
                            rotate_left
                            · simp only [Act.put, List.setIfInBounds_toArray, List.set_cons_zero, List.set_cons_succ, i64_w, i32_w]
                              rfl
                            refine take_ (i := 7) (N := some 46) (v := ?_) (a' := ?_) #[true, true, true, true, true, true, true, true, false, true, false, false, false, false] rfl rfl (take_ofW HT_.out HW_.out (by kernel_rfl)) (fun _ _ _ h => h) (Or.inl ⟨by rfl, ?_⟩) hHeld ?_ ?_
                            rotate_left
                            · rintro w' ⟨s0, s1, s2, s3, s4, s5⟩
                              go_simp
                              with_reducible rfl
                            rotate_left
                            · simp only [Act.put, List.setIfInBounds_toArray, List.set_cons_zero, List.set_cons_succ, i64_w, i32_w]
                              rfl
                            refine take_ (i := 10) (N := some 49) (v := ?_) (a' := ?_) #[true, true, true, true, true, true, true, true, false, true, true, false, false, false] rfl rfl (take_ofW HT_.out HW_.out (by kernel_rfl)) (fun _ _ _ h => h) (Or.inl ⟨by rfl, ?_⟩) hHeld ?_ ?_
                            rotate_left
                            · rintro w' ⟨s0, s1, s2, s3, s4, s5⟩
                              go_simp
                              with_reducible rfl
                            rotate_left
                            · simp only [Act.put, List.setIfInBounds_toArray, List.set_cons_zero, List.set_cons_succ, i64_w, i32_w]
                              rfl
                            refine one_ (i := 8) (N := some 47) #[true, true, true, true, true, true, true, true, true, true, true, false, false, false] rfl rfl (one_of HT_.out (by kernel_rfl)) (by decide) (fun K hK => ?_)
                            refine goesV_ (lb := #[.pointer (some ⟨gb325, 0, none⟩), .pointer (some ⟨gb318, 0, none⟩)]) Try.func44 (by kernel_rfl) rfl #[.agg #[.int .i64 ((rd_T45 y328 x34_2).f0.f0), .int .i64 ((rd_T45 y328 x34_2).f0.f1), .int .i64 ((rd_T45 y328 x34_2).f1)], .pointer (some ⟨gb325, 0, none⟩), .pointer (some ⟨gb318, 0, none⟩)] (by rfl) rfl rfl (by rfl) (by (try simp only [List.map_toArray, List.map_cons, List.map_nil]); first | done | rfl | (simp only [List.length_drop, List.length_take]; rfl)) ?_
                            with_reducible refine (impl_conflictOf_1.calls ((rd_T45 y328 x34_2).f0.f0) ((rd_T45 y328 x34_2).f0.f1) ((rd_T45 y328 x34_2).f1) gb325 Ao9 co9 t322 gb318 a0_0 a0_1 a0_2 t334 _ ?side1 ?side2 ?side3 ?side4 A34.out).mono ?_
                            (case side1 => (with_reducible repeat (first | refine blk_drewN ?_ _ | refine blk_drew ?_ | refine blk_alloc ?_ _)); exact BK325.out)
                            (case side2 => repeat (first | exact (Kd.R_reads' HO_326000.out).2.2 | (with_reducible refine Kd.C_alloc ?_ _) | (with_reducible refine Kd.C_drewN ?_ _) | (with_reducible refine Kd.C_drew ?_)))
                            (case side3 => exact (Kd.R_reads' HO_326000.out).2.1)
                            (case side4 => (with_reducible repeat (first | refine blk_drewN ?_ _ | refine blk_drew ?_ | refine blk_alloc ?_ _)); exact BK318.out)
                            rintro e w44 ⟨rfl, hb⟩
                            refine ⟨_, rfl, ?_⟩
                            replace HO_326000 := Aside0.mk (Kd.R_below (qR HO_326000.out) hb)
                            replace BK318 := qbb BK318 hb
                            replace BK325 := qbb BK325 hb
                            replace BK327 := qbb BK327 hb
                            replace BK333 := qbb BK333 hb
                            replace HB := qbs HB hb
                            (try clear hb)
                            (try clear hb2)
                            (try clear hk)
                            (try clear hi)
                            refine hK.out _ _ ⟨(blk_cell BK333.out 0).trans rfl, (blk_cell BK333.out 1).trans rfl, (blk_cell BK333.out 2).trans rfl, (blk_cell BK327.out 0).trans rfl, (blk_cell BK327.out 1).trans rfl, (blk_cell BK327.out 2).trans rfl⟩ (fun hHeld => ?_)
                            clear hK K
                            refine norm_ (a' := ?_) ?_ ?_
                            rotate_left
                            · show Act.put _ (some 47) _ = _
                              simp only [Act.put, List.setIfInBounds_toArray, List.set_cons_zero, List.set_cons_succ, i64_w, i32_w]
                              rfl
                            refine one_ (i := 11) (N := some 50) #[true, true, true, true, true, true, true, true, true, true, true, true, false, false] rfl rfl (one_of HT_.out (by kernel_rfl)) (by decide) (fun K hK => ?_)
                            refine goesV_ (lb := #[.pointer (some ⟨gb325, 0, none⟩), .pointer (some ⟨gb318, 0, none⟩)]) Try.func44 (by kernel_rfl) rfl #[.agg #[.int .i64 ((rd_T45 l2 x25_1).f0.f0), .int .i64 ((rd_T45 l2 x25_1).f0.f1), .int .i64 ((rd_T45 l2 x25_1).f1)], .pointer (some ⟨gb325, 0, none⟩), .pointer (some ⟨gb318, 0, none⟩)] (by rfl) rfl rfl (by rfl) (by (try simp only [List.map_toArray, List.map_cons, List.map_nil]); first | done | rfl | (simp only [List.length_drop, List.length_take]; rfl)) ?_
                            with_reducible refine (impl_conflictOf_1.calls ((rd_T45 l2 x25_1).f0.f0) ((rd_T45 l2 x25_1).f0.f1) ((rd_T45 l2 x25_1).f1) gb325 Ao9 co9 t322 gb318 a0_0 a0_1 a0_2 t335 _ ?side1 ?side2 ?side3 ?side4 A35.out).mono ?_
                            (case side1 => (with_reducible repeat (first | refine blk_drewN ?_ _ | refine blk_drew ?_ | refine blk_alloc ?_ _)); exact BK325.out)
                            (case side2 => repeat (first | exact (Kd.R_reads' HO_326000.out).2.2 | (with_reducible refine Kd.C_alloc ?_ _) | (with_reducible refine Kd.C_drewN ?_ _) | (with_reducible refine Kd.C_drew ?_)))
                            (case side3 => exact (Kd.R_reads' HO_326000.out).2.1)
                            (case side4 => (with_reducible repeat (first | refine blk_drewN ?_ _ | refine blk_drew ?_ | refine blk_alloc ?_ _)); exact BK318.out)
                            rintro e w45 ⟨rfl, hb⟩
                            refine ⟨_, rfl, ?_⟩
                            replace HO_326000 := Aside0.mk (Kd.R_below (qR HO_326000.out) hb)
                            replace BK318 := qbb BK318 hb
                            replace BK325 := qbb BK325 hb
                            replace BK327 := qbb BK327 hb
                            replace BK333 := qbb BK333 hb
                            replace HB := qbs HB hb
                            (try clear hb)
                            (try clear hb2)
                            (try clear hk)
                            (try clear hi)
                            refine hK.out _ _ ⟨(blk_cell BK333.out 0).trans rfl, (blk_cell BK333.out 1).trans rfl, (blk_cell BK333.out 2).trans rfl, (blk_cell BK327.out 0).trans rfl, (blk_cell BK327.out 1).trans rfl, (blk_cell BK327.out 2).trans rfl⟩ (fun hHeld => ?_)
                            clear hK K
                            refine norm_ (a' := ?_) ?_ ?_
                            rotate_left
                            · show Act.put _ (some 50) _ = _
                              simp only [Act.put, List.setIfInBounds_toArray, List.set_cons_zero, List.set_cons_succ, i64_w, i32_w]
                              rfl
                            refine pure_ (i := 12) (N := some 51) (v := ?_) (a' := ?_) #[true, true, true, true, true, true, true, true, true, true, true, true, true, false] rfl rfl (any_of HT_.out (by kernel_rfl)) (fun _ _ _ h => h) (Or.inl ⟨by rfl, ?_⟩) ?_ ?_
                            rotate_left
                            · intro w'
                              go_simp
                              with_reducible rfl
                            rotate_left
                            · simp only [Act.put, List.setIfInBounds_toArray, List.set_cons_zero, List.set_cons_succ, i64_w, i32_w]
                              rfl
                            refine pure_ (i := 13) (N := some 52) (v := ?_) (a' := ?_) #[true, true, true, true, true, true, true, true, true, true, true, true, true, true] rfl rfl (any_of HT_.out (by kernel_rfl)) (fun _ _ _ h => h) (Or.inl ⟨by rfl, ?_⟩) ?_ ?_
                            rotate_left
                            · intro w'
                              go_simp
                              with_reducible rfl
                            rotate_left
                            · simp only [Act.put, List.setIfInBounds_toArray, List.set_cons_zero, List.set_cons_succ, i64_w, i32_w]
                              rfl
                            refine done_ (done_of HT_.out (by kernel_rfl)) ?_
                            try go_wp2
                            go_ret3
                            exact ⟨qF, qB⟩
                          · rw [if_neg c36] at H
                            have c36b0 : (t334 == t335) = false := beq_eq_false_iff_ne.mpr c36
                            have c36b1 : (t334 != t335) = true := bne_iff_ne.mpr c36
                            have H' := Aside0.mk H
                            clear H
                            have p332 : 0 ≤ (x34_2 : Int) := qo
                            have q332 : x34_2 < (y328.length : Int) := qo
                            obtain ⟨ad332, e332, hx332_0, hx332_1, hx332_2⟩ := at_T45 HR331.out x34_2 p332 q332
                            obtain rfl : ad326 = ad332 := (by injection e332)
                            replace hx332_0 := (HB.out.cell (World.block_lt_of_cell? w _ hx332_0)).trans hx332_0
                            replace hx332_1 := (HB.out.cell (World.block_lt_of_cell? w _ hx332_1)).trans hx332_1
                            replace hx332_2 := (HB.out.cell (World.block_lt_of_cell? w _ hx332_2)).trans hx332_2
                            replace p332 := eq_true p332
                            replace q332 := eq_true q332
                            try go_wp2_with (first | ((with_reducible refine gate_dst (N := 15) rfl ?_); refine qbx 15 45 #[.int .i64 0, .int .i64 0, .int .i64 0] ?_; intro gb333 hg w46 hbox hb; replace HO_326000 := Aside0.mk (Kd.R_below (qR HO_326000.out) hb); have BK333 := Aside0.mk (hbox); have GW333 := qgs HB hg; have GE333 := qgs HB hg; replace HB := qbs HB hb; have NB318_333 := qnL BK318 hg; have NB333_318 := qnG BK318 hg; replace BK318 := qbb BK318 hb; have NB325_333 := qnL BK325 hg; have NB333_325 := qnG BK325 hg; replace BK325 := qbb BK325 hb; have NB327_333 := qnL BK327 hg; have NB333_327 := qnG BK327 hg; replace BK327 := qbb BK327 hb; clear hb hbox hg; have hnb47 := NB333_318.out; have hnc47 := NB318_333.out; have hnb48 := NB333_325.out; have hnc48 := NB325_333.out; have hnb49 := NB333_327.out; have hnc49 := NB327_333.out; have hcz50_0 := qc0 BK333; have hcz50_1 := qc1 BK333; have hcz50_2 := qc2 BK333; have hfz50_0 := blk_frozen BK333.out 0; have hfz50_1 := blk_frozen BK333.out 1; have hfz50_2 := blk_frozen BK333.out 2))
                            have n0_ : Aside0 (Kd.R (Kd.int .i64) 2 (((w46.setCell ⟨gb333, 0, none⟩ (.int .i64 ((rd_T45 y328 x34_2).f0.f0))).setCell ⟨gb333, 1, none⟩ (.int .i64 ((rd_T45 y328 x34_2).f0.f1))).setCell ⟨gb333, 2, none⟩ (.int .i64 ((rd_T45 y328 x34_2).f1))) w.heap.size (fun _ => True) (.slice Ao9 t322.length co9) t322) := ⟨by (with_reducible repeat (first | apply Kd.R_alloc | apply Kd.R_drewN | apply Kd.R_drew)); exact Kd.R_mono (Kd.R_far (p := ⟨gb333, 2, none⟩) (Kd.R_far (p := ⟨gb333, 1, none⟩) (Kd.R_far (p := ⟨gb333, 0, none⟩) (Kd.R_types HO_326000.out BK333.out (by decide)) (fun _ hk => hk.2) (.int .i64 ((rd_T45 y328 x34_2).f0.f0))) (fun _ hk => hk.2) (.int .i64 ((rd_T45 y328 x34_2).f0.f1))) (fun _ hk => hk.2) (.int .i64 ((rd_T45 y328 x34_2).f1))) (fun _ hk => trivial)⟩
                            have n1_ : Aside0 ((((w46.setCell ⟨gb333, 0, none⟩ (.int .i64 ((rd_T45 y328 x34_2).f0.f0))).setCell ⟨gb333, 1, none⟩ (.int .i64 ((rd_T45 y328 x34_2).f0.f1))).setCell ⟨gb333, 2, none⟩ (.int .i64 ((rd_T45 y328 x34_2).f1))).heap[gb318]? = some (.cells #[.int .i64 a0_0, .int .i64 a0_1, .int .i64 a0_2] 25 (0, 0))) := ⟨by (with_reducible repeat (first | refine blk_drewN ?_ _ | refine blk_drew ?_ | refine blk_alloc ?_ _)); refine blk_far ?_ NB318_333.out _; (with_reducible repeat (first | refine blk_drewN ?_ _ | refine blk_drew ?_ | refine blk_alloc ?_ _)); refine blk_far ?_ NB318_333.out _; (with_reducible repeat (first | refine blk_drewN ?_ _ | refine blk_drew ?_ | refine blk_alloc ?_ _)); refine blk_far ?_ NB318_333.out _; (with_reducible repeat (first | refine blk_drewN ?_ _ | refine blk_drew ?_ | refine blk_alloc ?_ _)); exact BK318.out⟩
                            have n2_ : Aside0 ((((w46.setCell ⟨gb333, 0, none⟩ (.int .i64 ((rd_T45 y328 x34_2).f0.f0))).setCell ⟨gb333, 1, none⟩ (.int .i64 ((rd_T45 y328 x34_2).f0.f1))).setCell ⟨gb333, 2, none⟩ (.int .i64 ((rd_T45 y328 x34_2).f1))).heap[gb325]? = some (.cells #[.slice Ao9 t322.length co9] 75 (0, 0))) := ⟨by (with_reducible repeat (first | refine blk_drewN ?_ _ | refine blk_drew ?_ | refine blk_alloc ?_ _)); refine blk_far ?_ NB325_333.out _; (with_reducible repeat (first | refine blk_drewN ?_ _ | refine blk_drew ?_ | refine blk_alloc ?_ _)); refine blk_far ?_ NB325_333.out _; (with_reducible repeat (first | refine blk_drewN ?_ _ | refine blk_drew ?_ | refine blk_alloc ?_ _)); refine blk_far ?_ NB325_333.out _; (with_reducible repeat (first | refine blk_drewN ?_ _ | refine blk_drew ?_ | refine blk_alloc ?_ _)); exact BK325.out⟩
                            have n3_ : Aside0 ((((w46.setCell ⟨gb333, 0, none⟩ (.int .i64 ((rd_T45 y328 x34_2).f0.f0))).setCell ⟨gb333, 1, none⟩ (.int .i64 ((rd_T45 y328 x34_2).f0.f1))).setCell ⟨gb333, 2, none⟩ (.int .i64 ((rd_T45 y328 x34_2).f1))).heap[gb327]? = some (.cells #[.int .i64 ((rd_T45 l2 x25_1).f0.f0), .int .i64 ((rd_T45 l2 x25_1).f0.f1), .int .i64 ((rd_T45 l2 x25_1).f1)] 45 (0, 0))) := ⟨by (with_reducible repeat (first | refine blk_drewN ?_ _ | refine blk_drew ?_ | refine blk_alloc ?_ _)); refine blk_far ?_ NB327_333.out _; (with_reducible repeat (first | refine blk_drewN ?_ _ | refine blk_drew ?_ | refine blk_alloc ?_ _)); refine blk_far ?_ NB327_333.out _; (with_reducible repeat (first | refine blk_drewN ?_ _ | refine blk_drew ?_ | refine blk_alloc ?_ _)); refine blk_far ?_ NB327_333.out _; (with_reducible repeat (first | refine blk_drewN ?_ _ | refine blk_drew ?_ | refine blk_alloc ?_ _)); exact BK327.out⟩
                            have n4_ : Aside0 ((((w46.setCell ⟨gb333, 0, none⟩ (.int .i64 ((rd_T45 y328 x34_2).f0.f0))).setCell ⟨gb333, 1, none⟩ (.int .i64 ((rd_T45 y328 x34_2).f0.f1))).setCell ⟨gb333, 2, none⟩ (.int .i64 ((rd_T45 y328 x34_2).f1))).heap[gb333]? = some (.cells #[.int .i64 ((rd_T45 y328 x34_2).f0.f0), .int .i64 ((rd_T45 y328 x34_2).f0.f1), .int .i64 ((rd_T45 y328 x34_2).f1)] 45 (0, 0))) := ⟨by (with_reducible repeat (first | refine blk_drewN ?_ _ | refine blk_drew ?_ | refine blk_alloc ?_ _)); refine blk_put (cs := #[.int .i64 ((rd_T45 y328 x34_2).f0.f0), .int .i64 ((rd_T45 y328 x34_2).f0.f1), .int .i64 0]) ?_ 2 _ rfl; (with_reducible repeat (first | refine blk_drewN ?_ _ | refine blk_drew ?_ | refine blk_alloc ?_ _)); refine blk_put (cs := #[.int .i64 ((rd_T45 y328 x34_2).f0.f0), .int .i64 0, .int .i64 0]) ?_ 1 _ rfl; (with_reducible repeat (first | refine blk_drewN ?_ _ | refine blk_drew ?_ | refine blk_alloc ?_ _)); refine blk_put (cs := #[.int .i64 0, .int .i64 0, .int .i64 0]) ?_ 0 _ rfl; (with_reducible repeat (first | refine blk_drewN ?_ _ | refine blk_drew ?_ | refine blk_alloc ?_ _)); exact BK333.out⟩
                            have n5_ : Aside0 (Below w.heap.size w (((w46.setCell ⟨gb333, 0, none⟩ (.int .i64 ((rd_T45 y328 x34_2).f0.f0))).setCell ⟨gb333, 1, none⟩ (.int .i64 ((rd_T45 y328 x34_2).f0.f1))).setCell ⟨gb333, 2, none⟩ (.int .i64 ((rd_T45 y328 x34_2).f1)))) := ⟨qB⟩
                            (try clear HO_326000)
                            (try clear BK318)
                            (try clear BK325)
                            (try clear BK327)
                            (try clear BK333)
                            (try clear HB)
                            generalize (((w46.setCell ⟨gb333, 0, none⟩ (.int .i64 ((rd_T45 y328 x34_2).f0.f0))).setCell ⟨gb333, 1, none⟩ (.int .i64 ((rd_T45 y328 x34_2).f0.f1))).setCell ⟨gb333, 2, none⟩ (.int .i64 ((rd_T45 y328 x34_2).f1))) = w51 at n0_ n1_ n2_ n3_ n4_ n5_ ⊢
                            have HO_326000 := n0_
                            have BK318 := n1_
                            have BK325 := n2_
                            have BK327 := n3_
                            have BK333 := n4_
                            have HB := n5_
                            clear n0_ n1_ n2_ n3_ n4_ n5_
                            replace HO_326000 := Aside0.mk (Kd.R_drew HO_326000.out)
                            replace BK318 := Aside0.mk (blk_drew BK318.out)
                            replace BK325 := Aside0.mk (blk_drew BK325.out)
                            replace BK327 := Aside0.mk (blk_drew BK327.out)
                            replace BK333 := Aside0.mk (blk_drew BK333.out)
                            replace HB := Aside0.mk (below_drew1 HB.out)
                            refine start_ (n := 14) (S := fun w' => w'.cell? ⟨gb333, 0, none⟩ = some (.int .i64 ((rd_T45 y328 x34_2).f0.f0)) ∧ w'.cell? ⟨gb333, 1, none⟩ = some (.int .i64 ((rd_T45 y328 x34_2).f0.f1)) ∧ w'.cell? ⟨gb333, 2, none⟩ = some (.int .i64 ((rd_T45 y328 x34_2).f1)) ∧ w'.cell? ⟨gb327, 0, none⟩ = some (.int .i64 ((rd_T45 l2 x25_1).f0.f0)) ∧ w'.cell? ⟨gb327, 1, none⟩ = some (.int .i64 ((rd_T45 l2 x25_1).f0.f1)) ∧ w'.cell? ⟨gb327, 2, none⟩ = some (.int .i64 ((rd_T45 l2 x25_1).f1))) (ds := []) #[false, false, false, false, false, false, false, false, false, false, false, false, false, false] (by kernel_rfl) rfl rfl ⟨(blk_cell BK333.out 0).trans rfl, (blk_cell BK333.out 1).trans rfl, (blk_cell BK333.out 2).trans rfl, (blk_cell BK327.out 0).trans rfl, (blk_cell BK327.out 1).trans rfl, (blk_cell BK327.out 2).trans rfl⟩ (fun hHeld => ?_); refine with_tabW impl_conflictOf.tab9 impl_conflictOf.bits9 (fun HT_ HW_ => ?_)
                            generalize w51.drew = w52 at HO_326000 BK318 BK325 BK327 BK333 HB hHeld ⊢
                            refine pure_ (i := 0) (N := some 39) (v := ?_) (a' := ?_) #[true, false, false, false, false, false, false, false, false, false, false, false, false, false] rfl rfl (any_of HT_.out (by kernel_rfl)) (fun _ _ _ h => h) (Or.inl ⟨by rfl, ?_⟩) ?_ ?_
                            rotate_left
                            · intro w'
                              go_simp
                              with_reducible rfl
                            rotate_left
                            · simp only [Act.put, List.setIfInBounds_toArray, List.set_cons_zero, List.set_cons_succ, i64_w, i32_w]
                              rfl
                            refine pure_ (i := 2) (N := some 41) (v := ?_) (a' := ?_) #[true, false, true, false, false, false, false, false, false, false, false, false, false, false] rfl rfl (any_of HT_.out (by kernel_rfl)) (fun _ _ _ h => h) (Or.inl ⟨by rfl, ?_⟩) ?_ ?_
                            rotate_left
                            · intro w'
                              go_simp
                              with_reducible rfl
                            rotate_left
                            · simp only [Act.put, List.setIfInBounds_toArray, List.set_cons_zero, List.set_cons_succ, i64_w, i32_w]
                              rfl
                            refine take_ (i := 1) (N := some 40) (v := ?_) (a' := ?_) #[true, true, true, false, false, false, false, false, false, false, false, false, false, false] rfl rfl (take_ofW HT_.out HW_.out (by kernel_rfl)) (fun _ _ _ h => h) (Or.inl ⟨by rfl, ?_⟩) hHeld ?_ ?_
                            rotate_left
                            · rintro w' ⟨s0, s1, s2, s3, s4, s5⟩
                              go_simp
                              with_reducible rfl
                            rotate_left
                            · simp only [Act.put, List.setIfInBounds_toArray, List.set_cons_zero, List.set_cons_succ, i64_w, i32_w]
                              rfl
                            refine take_ (i := 3) (N := some 42) (v := ?_) (a' := ?_) #[true, true, true, true, false, false, false, false, false, false, false, false, false, false] rfl rfl (take_ofW HT_.out HW_.out (by kernel_rfl)) (fun _ _ _ h => h) (Or.inl ⟨by rfl, ?_⟩) hHeld ?_ ?_
                            rotate_left
                            · rintro w' ⟨s0, s1, s2, s3, s4, s5⟩
                              go_simp
                              with_reducible rfl
                            rotate_left
                            · simp only [Act.put, List.setIfInBounds_toArray, List.set_cons_zero, List.set_cons_succ, i64_w, i32_w]
                              rfl
                            refine pure_ (i := 4) (N := some 43) (v := ?_) (a' := ?_) #[true, true, true, true, true, false, false, false, false, false, false, false, false, false] rfl rfl (any_of HT_.out (by kernel_rfl)) (fun _ _ _ h => h) (Or.inl ⟨by rfl, ?_⟩) ?_ ?_
                            rotate_left
                            · intro w'
                              go_simp
                              with_reducible rfl
                            rotate_left
                            · simp only [Act.put, List.setIfInBounds_toArray, List.set_cons_zero, List.set_cons_succ, i64_w, i32_w]
                              rfl
                            refine pure_ (i := 5) (N := some 44) (v := ?_) (a' := ?_) #[true, true, true, true, true, true, false, false, false, false, false, false, false, false] rfl rfl (any_of HT_.out (by kernel_rfl)) (fun _ _ _ h => h) (Or.inl ⟨by rfl, ?_⟩) ?_ ?_
                            rotate_left
                            · intro w'
                              go_simp
                              with_reducible rfl
                            rotate_left
                            · simp only [Act.put, List.setIfInBounds_toArray, List.set_cons_zero, List.set_cons_succ, i64_w, i32_w]
                              rfl
                            refine pure_ (i := 6) (N := some 45) (v := ?_) (a' := ?_) #[true, true, true, true, true, true, true, false, false, false, false, false, false, false] rfl rfl (any_of HT_.out (by kernel_rfl)) (fun _ _ _ h => h) (Or.inl ⟨by rfl, ?_⟩) ?_ ?_
                            rotate_left
                            · intro w'
                              go_simp
                              with_reducible rfl
                            rotate_left
                            · simp only [Act.put, List.setIfInBounds_toArray, List.set_cons_zero, List.set_cons_succ, i64_w, i32_w]
                              rfl
                            refine pure_ (i := 9) (N := some 48) (v := ?_) (a' := ?_) #[true, true, true, true, true, true, true, false, false, true, false, false, false, false] rfl rfl (any_of HT_.out (by kernel_rfl)) (fun _ _ _ h => h) (Or.inl ⟨by rfl, ?_⟩) ?_ ?_
                            rotate_left
                            · intro w'
                              go_simp
                              with_reducible rfl
                            rotate_left
                            · simp only [Act.put, List.setIfInBounds_toArray, List.set_cons_zero, List.set_cons_succ, i64_w, i32_w]
                              rfl
                            refine take_ (i := 7) (N := some 46) (v := ?_) (a' := ?_) #[true, true, true, true, true, true, true, true, false, true, false, false, false, false] rfl rfl (take_ofW HT_.out HW_.out (by kernel_rfl)) (fun _ _ _ h => h) (Or.inl ⟨by rfl, ?_⟩) hHeld ?_ ?_
                            rotate_left
                            · rintro w' ⟨s0, s1, s2, s3, s4, s5⟩
                              go_simp
                              with_reducible rfl
                            rotate_left
                            · simp only [Act.put, List.setIfInBounds_toArray, List.set_cons_zero, List.set_cons_succ, i64_w, i32_w]
                              rfl
                            refine take_ (i := 10) (N := some 49) (v := ?_) (a' := ?_) #[true, true, true, true, true, true, true, true, false, true, true, false, false, false] rfl rfl (take_ofW HT_.out HW_.out (by kernel_rfl)) (fun _ _ _ h => h) (Or.inl ⟨by rfl, ?_⟩) hHeld ?_ ?_
                            rotate_left
                            · rintro w' ⟨s0, s1, s2, s3, s4, s5⟩
                              go_simp
                              with_reducible rfl
                            rotate_left
                            · simp only [Act.put, List.setIfInBounds_toArray, List.set_cons_zero, List.set_cons_succ, i64_w, i32_w]
                              rfl
                            refine one_ (i := 8) (N := some 47) #[true, true, true, true, true, true, true, true, true, true, true, false, false, false] rfl rfl (one_of HT_.out (by kernel_rfl)) (by decide) (fun K hK => ?_)
                            refine goesV_ (lb := #[.pointer (some ⟨gb325, 0, none⟩), .pointer (some ⟨gb318, 0, none⟩)]) Try.func44 (by kernel_rfl) rfl #[.agg #[.int .i64 ((rd_T45 y328 x34_2).f0.f0), .int .i64 ((rd_T45 y328 x34_2).f0.f1), .int .i64 ((rd_T45 y328 x34_2).f1)], .pointer (some ⟨gb325, 0, none⟩), .pointer (some ⟨gb318, 0, none⟩)] (by rfl) rfl rfl (by rfl) (by (try simp only [List.map_toArray, List.map_cons, List.map_nil]); first | done | rfl | (simp only [List.length_drop, List.length_take]; rfl)) ?_
                            with_reducible refine (impl_conflictOf_1.calls ((rd_T45 y328 x34_2).f0.f0) ((rd_T45 y328 x34_2).f0.f1) ((rd_T45 y328 x34_2).f1) gb325 Ao9 co9 t322 gb318 a0_0 a0_1 a0_2 t334 _ ?side1 ?side2 ?side3 ?side4 A34.out).mono ?_
                            (case side1 => (with_reducible repeat (first | refine blk_drewN ?_ _ | refine blk_drew ?_ | refine blk_alloc ?_ _)); exact BK325.out)
                            (case side2 => repeat (first | exact (Kd.R_reads' HO_326000.out).2.2 | (with_reducible refine Kd.C_alloc ?_ _) | (with_reducible refine Kd.C_drewN ?_ _) | (with_reducible refine Kd.C_drew ?_)))
                            (case side3 => exact (Kd.R_reads' HO_326000.out).2.1)
                            (case side4 => (with_reducible repeat (first | refine blk_drewN ?_ _ | refine blk_drew ?_ | refine blk_alloc ?_ _)); exact BK318.out)
                            rintro e w53 ⟨rfl, hb⟩
                            refine ⟨_, rfl, ?_⟩
                            replace HO_326000 := Aside0.mk (Kd.R_below (qR HO_326000.out) hb)
                            replace BK318 := qbb BK318 hb
                            replace BK325 := qbb BK325 hb
                            replace BK327 := qbb BK327 hb
                            replace BK333 := qbb BK333 hb
                            replace HB := qbs HB hb
                            (try clear hb)
                            (try clear hb2)
                            (try clear hk)
                            (try clear hi)
                            refine hK.out _ _ ⟨(blk_cell BK333.out 0).trans rfl, (blk_cell BK333.out 1).trans rfl, (blk_cell BK333.out 2).trans rfl, (blk_cell BK327.out 0).trans rfl, (blk_cell BK327.out 1).trans rfl, (blk_cell BK327.out 2).trans rfl⟩ (fun hHeld => ?_)
                            clear hK K
                            refine norm_ (a' := ?_) ?_ ?_
                            rotate_left
                            · show Act.put _ (some 47) _ = _
                              simp only [Act.put, List.setIfInBounds_toArray, List.set_cons_zero, List.set_cons_succ, i64_w, i32_w]
                              rfl
                            refine one_ (i := 11) (N := some 50) #[true, true, true, true, true, true, true, true, true, true, true, true, false, false] rfl rfl (one_of HT_.out (by kernel_rfl)) (by decide) (fun K hK => ?_)
                            refine goesV_ (lb := #[.pointer (some ⟨gb325, 0, none⟩), .pointer (some ⟨gb318, 0, none⟩)]) Try.func44 (by kernel_rfl) rfl #[.agg #[.int .i64 ((rd_T45 l2 x25_1).f0.f0), .int .i64 ((rd_T45 l2 x25_1).f0.f1), .int .i64 ((rd_T45 l2 x25_1).f1)], .pointer (some ⟨gb325, 0, none⟩), .pointer (some ⟨gb318, 0, none⟩)] (by rfl) rfl rfl (by rfl) (by (try simp only [List.map_toArray, List.map_cons, List.map_nil]); first | done | rfl | (simp only [List.length_drop, List.length_take]; rfl)) ?_
                            with_reducible refine (impl_conflictOf_1.calls ((rd_T45 l2 x25_1).f0.f0) ((rd_T45 l2 x25_1).f0.f1) ((rd_T45 l2 x25_1).f1) gb325 Ao9 co9 t322 gb318 a0_0 a0_1 a0_2 t335 _ ?side1 ?side2 ?side3 ?side4 A35.out).mono ?_
                            (case side1 => (with_reducible repeat (first | refine blk_drewN ?_ _ | refine blk_drew ?_ | refine blk_alloc ?_ _)); exact BK325.out)
                            (case side2 => repeat (first | exact (Kd.R_reads' HO_326000.out).2.2 | (with_reducible refine Kd.C_alloc ?_ _) | (with_reducible refine Kd.C_drewN ?_ _) | (with_reducible refine Kd.C_drew ?_)))
                            (case side3 => exact (Kd.R_reads' HO_326000.out).2.1)
                            (case side4 => (with_reducible repeat (first | refine blk_drewN ?_ _ | refine blk_drew ?_ | refine blk_alloc ?_ _)); exact BK318.out)
                            rintro e w54 ⟨rfl, hb⟩
                            refine ⟨_, rfl, ?_⟩
                            replace HO_326000 := Aside0.mk (Kd.R_below (qR HO_326000.out) hb)
                            replace BK318 := qbb BK318 hb
                            replace BK325 := qbb BK325 hb
                            replace BK327 := qbb BK327 hb
                            replace BK333 := qbb BK333 hb
                            replace HB := qbs HB hb
                            (try clear hb)
                            (try clear hb2)
                            (try clear hk)
                            (try clear hi)
                            refine hK.out _ _ ⟨(blk_cell BK333.out 0).trans rfl, (blk_cell BK333.out 1).trans rfl, (blk_cell BK333.out 2).trans rfl, (blk_cell BK327.out 0).trans rfl, (blk_cell BK327.out 1).trans rfl, (blk_cell BK327.out 2).trans rfl⟩ (fun hHeld => ?_)
                            clear hK K
                            refine norm_ (a' := ?_) ?_ ?_
                            rotate_left
                            · show Act.put _ (some 50) _ = _
                              simp only [Act.put, List.setIfInBounds_toArray, List.set_cons_zero, List.set_cons_succ, i64_w, i32_w]
                              rfl
                            refine pure_ (i := 12) (N := some 51) (v := ?_) (a' := ?_) #[true, true, true, true, true, true, true, true, true, true, true, true, true, false] rfl rfl (any_of HT_.out (by kernel_rfl)) (fun _ _ _ h => h) (Or.inl ⟨by rfl, ?_⟩) ?_ ?_
                            rotate_left
                            · intro w'
                              go_simp
                              with_reducible rfl
                            rotate_left
                            · simp only [Act.put, List.setIfInBounds_toArray, List.set_cons_zero, List.set_cons_succ, i64_w, i32_w]
                              rfl
                            refine pure_ (i := 13) (N := some 52) (v := ?_) (a' := ?_) #[true, true, true, true, true, true, true, true, true, true, true, true, true, true] rfl rfl (any_of HT_.out (by kernel_rfl)) (fun _ _ _ h => h) (Or.inl ⟨by rfl, ?_⟩) ?_ ?_
                            rotate_left
                            · intro w'
                              go_simp
                              with_reducible rfl
                            rotate_left
                            · simp only [Act.put, List.setIfInBounds_toArray, List.set_cons_zero, List.set_cons_succ, i64_w, i32_w]
                              rfl
                            refine done_ (done_of HT_.out (by kernel_rfl)) ?_
                            try go_wp2
                            go_roundg k2
                            case measure => have := HK1.out; have := HK2.out; omega
                            case rel => exact ⟨(wrap64 (x34_2 + 1)), qf, H', ⟨by have := HK1.out; have := HK2.out; omega⟩, ⟨by (with_reducible repeat (first | apply Kd.R_alloc | apply Kd.R_drewN | apply Kd.R_drew)); exact HO_326000.out⟩, ⟨by (with_reducible repeat (first | refine blk_drewN ?_ _ | refine blk_drew ?_ | refine blk_alloc ?_ _)); exact BK318.out⟩, ⟨by (with_reducible repeat (first | refine blk_drewN ?_ _ | refine blk_drew ?_ | refine blk_alloc ?_ _)); exact BK325.out⟩, ⟨by (with_reducible repeat (first | refine blk_drewN ?_ _ | refine blk_drew ?_ | refine blk_alloc ?_ _)); exact BK327.out⟩, ⟨qB⟩⟩
                      · rw [if_neg c25] at H
                        exact absurd H (by simp)
                    · rw [if_neg c24] at H
                      exact absurd H (by simp)
                  · rw [if_neg c23] at H
                    have c23b0 : decide (x34_2 < (y328.length : Int)) = false := decide_eq_false c23
                    clear c23
                    have H' := Aside0.mk H
                    clear H
                    go_wp2
                    go_roundg k2
                    case measure => have := HK1.out; have := HK2.out; omega
                    case rel => exact ⟨(wrap64 (x25_1 + 1)), qf, H', ⟨by have := HK1.out; have := HK2.out; omega⟩, ⟨by (with_reducible repeat (first | apply Kd.R_alloc | apply Kd.R_drewN | apply Kd.R_drew)); exact HO_326000.out⟩, ⟨by (with_reducible repeat (first | refine blk_drewN ?_ _ | refine blk_drew ?_ | refine blk_alloc ?_ _)); exact BK318.out⟩, ⟨by (with_reducible repeat (first | refine blk_drewN ?_ _ | refine blk_drew ?_ | refine blk_alloc ?_ _)); exact BK325.out⟩, ⟨qB⟩⟩
            · rw [if_neg c16] at H
              exact absurd H (by simp)
          · rw [if_neg c14] at H
            exact absurd H (by simp)
        · rw [if_neg c13] at H
          exact absurd H (by simp)
      · rw [if_neg c12] at H
        have c12b0 : decide (x25_1 < (l2.length : Int)) = false := decide_eq_false c12
        clear c12
        simp only [Option.some.injEq, Prod.mk.injEq] at H
        obtain ⟨rfl, rfl, rfl⟩ := H
        go_wp2
        go_ret3
        exact ⟨qF, qB⟩

end Go.Proofs.Ytoajccbmikmjdaa.X

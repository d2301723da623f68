-- PRINTED by print.py (a twelfth state) out of the translation. Not trusted: Lean checks it.
import Derived.Test.YtoajccbmikmjdaaXQ
import Derived.Test.YtoajccbmikmjdaaX0
import Derived.Test.YtoajccbmikmjdaaX4
import Derived.Test.YtoajccbmikmjdaaX5
import Derived.Test.YtoajccbmikmjdaaX9
namespace Go.Proofs.Ytoajccbmikmjdaa.X
open Go.RowKit Go.Proofs.YtoajccbmikmjdaaX Go.Proofs.YtoajccbmikmjdaaW.PrintWords Go.Proofs.YtoajccbmikmjdaaW.PrintLast Go.Proofs.YtoajccbmikmjdaaW.PrintMore
attribute [local go_sem] max2_int min2_int max_two min_two max_three min_three max_four min_four   -- for this text's walks alone
set_option linter.unusedVariables false
set_option linter.unusedSimpArgs false

def impl_fittingLattices_1.f (k : Nat) (a0_0 : Int) (a0_1 : Int) (a0_2 : Int) (l1_0 : List (S63)) (l2_0 : List (S45)) : Option (Bool) := (impl_conflictOf.f k a0_0 a0_1 a0_2 l1_0 l2_0).bind fun bt339 => (some bt339.2.2)
set_option maxHeartbeats 8000000 in
set_option maxRecDepth 100000 in
theorem impl_fittingLattices_1.calls (k : Nat) (a0_0 : Int) (a0_1 : Int) (a0_2 : Int) (b1 : Nat) (A1_0 : Option Addr) (c1_0 : Nat) (l1_0 : List (S63)) (b2 : Nat) (A2_0 : Option Addr) (c2_0 : Nat) (l2_0 : List (S45)) (r : Bool) (w : World) (hk1 : w.heap[b1]? = some (.cells #[.slice A1_0 l1_0.length c1_0] 64 (0, 0))) (hr1_0 : Kd.C k63 w A1_0 l1_0.length l1_0) (hc1_0 : l1_0.length ≤ c1_0) (hk2 : w.heap[b2]? = some (.cells #[.slice A2_0 l2_0.length c2_0] 28 (0, 0))) (hr2_0 : Kd.C k45 w A2_0 l2_0.length l2_0) (hc2_0 : l2_0.length ≤ c2_0) (h : impl_fittingLattices_1.f k a0_0 a0_1 a0_2 l1_0 l2_0 = some r) :
    Calls Try.prog 36 #[.agg #[.int .i64 a0_0, .int .i64 a0_1, .int .i64 a0_2], .pointer (some ⟨b1, 0, none⟩), .pointer (some ⟨b2, 0, none⟩)] w fun e w' => e = .returned (.bool r) ∧ Below w.heap.size w w' := by
  have hu25 := Try.underlying25
  have HR1_0 := Aside0.mk hr1_0
  have HC1_0 := Aside0.mk hc1_0
  clear hr1_0 hc1_0
  have HR2_0 := Aside0.mk hr2_0
  have HC2_0 := Aside0.mk hc2_0
  clear hr2_0 hc2_0
  have NB336_337 := Aside0.mk (cap_ne hk1 hk2 (by decide))
  have NB337_336 := Aside0.mk (Ne.symm NB336_337.out)
  have BK336 := Aside0.mk hk1
  clear hk1
  have BK337 := Aside0.mk hk2
  clear hk2
  have HB := Aside0.mk (Below.refl w.heap.size w)
  have H : ((impl_conflictOf.f k a0_0 a0_1 a0_2 l1_0 l2_0).bind fun bt339 => (some bt339.2.2)) = some r := h
  clear h
  replace H := qbd H
  obtain ⟨⟨t339, t340, t341⟩, A4, H⟩ := H
  try dsimp only at H
  obtain rfl := Option.some.inj H
  go_enter Try.func36, Try.ntmps36
  go_wp2_with (first | ((with_reducible refine gate_dst (N := 3) rfl ?_); refine qbx 3 25 #[.int .i64 a0_0, .int .i64 a0_1, .int .i64 a0_2] ?_; intro gb338 hg w5 hbox hb; have BK338 := Aside0.mk (hbox); have GW338 := qgs HB hg; have GE338 := qgs HB hg; replace HB := qbs HB hb; have NB336_338 := qnL BK336 hg; have NB338_336 := qnG BK336 hg; replace BK336 := qbb BK336 hb; have NB337_338 := qnL BK337 hg; have NB338_337 := qnG BK337 hg; replace BK337 := qbb BK337 hb; clear hb hbox hg; have hnb6 := NB338_336.out; have hnc6 := NB336_338.out; have hnb7 := NB338_337.out; have hnc7 := NB337_338.out; have hcz8_0 := qc0 BK338; have hcz8_1 := qc1 BK338; have hcz8_2 := qc2 BK338; have hfz8_0 := blk_frozen BK338.out 0; have hfz8_1 := blk_frozen BK338.out 1; have hfz8_2 := blk_frozen BK338.out 2; have hnb9 := NB336_337.out; have hnc9 := NB337_336.out; have hcz10_0 := qc0 BK336; have hfz10_0 := blk_frozen BK336.out 0; have hcz11_0 := qc0 BK337; have hfz11_0 := blk_frozen BK337.out 0) | ((with_reducible refine gate_callee (f := 37) rfl ?_); refine qgl (some 12) Try.func37 #[.agg #[.int .i64 a0_0, .int .i64 a0_1, .int .i64 a0_2], .slice A1_0 l1_0.length c1_0, .slice A2_0 l2_0.length c2_0] ?_; (with_reducible refine (impl_conflictOf.calls k a0_0 a0_1 a0_2 _ _ l1_0 _ _ l2_0 t339 t340 t341 _ (qC (Kd.C_below HR1_0.out HB.out)) HC1_0.out (qC (Kd.C_below HR2_0.out HB.out)) HC2_0.out A4.out).mono ?_); rintro e w12 ⟨rfl, hb⟩; refine ⟨_, rfl, ?_⟩; replace BK336 := qbb BK336 hb; replace BK337 := qbb BK337 hb; replace BK338 := qbb BK338 hb; replace HB := qbs HB hb; (try clear hb)))
  go_ret
  exact ⟨qF, qB⟩

def DeleteFunc34_impl_fittingLattices_1.f (k : Nat) (l0 : List (S25)) (l1_0 : List (S63)) (l2_0 : List (S45)) : Option ((List (S25))) := impl_Lattice_34.f k l0 (fun e0_ e1_ e2_ => impl_fittingLattices_1.f k e0_ e1_ e2_ l1_0 l2_0)
set_option maxHeartbeats 4000000 in
theorem DeleteFunc34_impl_fittingLattices_1.calls (k : Nat) (P0_ : Nat → Prop) (u9000_ : Value) (l0 : List (S25)) (b1 : Nat) (A1_0 : Option Addr) (c1_0 : Nat) (l1_0 : List (S63)) (b2 : Nat) (A2_0 : Option Addr) (c2_0 : Nat) (l2_0 : List (S45)) (r : List (S25)) (w0 w : World) (hB : Below w0.heap.size w0 w) (ho0 : Kd.R k25 25 w w0.heap.size P0_ u9000_ l0) (hk1 : ∀ W_, Kept w W_ (fun k_ => P0_ k_) → W_.heap[b1]? = some (.cells #[.slice A1_0 l1_0.length c1_0] 64 (0, 0))) (hr1_0 : ∀ W_, Kept w W_ (fun k_ => P0_ k_) → Kd.C k63 W_ A1_0 l1_0.length l1_0) (hc1_0 : l1_0.length ≤ c1_0) (hk2 : ∀ W_, Kept w W_ (fun k_ => P0_ k_) → W_.heap[b2]? = some (.cells #[.slice A2_0 l2_0.length c2_0] 28 (0, 0))) (hr2_0 : ∀ W_, Kept w W_ (fun k_ => P0_ k_) → Kd.C k45 W_ A2_0 l2_0.length l2_0) (hc2_0 : l2_0.length ≤ c2_0) (h : DeleteFunc34_impl_fittingLattices_1.f k l0 l1_0 l2_0 = some r) :
    Calls Try.prog 34 #[u9000_, .func (.func 36) #[] #[.pointer (some ⟨b1, 0, none⟩), .pointer (some ⟨b2, 0, none⟩)]] w fun e w' => ∃ v0_ : Value, e = .returned (v0_) ∧ Kd.R k25 25 w' w0.heap.size (fun k_ => (P0_ k_ ∨ w.heap.size ≤ k_)) v0_ r ∧ Below w0.heap.size w0 w' ∧ Kept w w' (fun k_ => P0_ k_) :=
  impl_Lattice_34.calls k P0_ u9000_ l0 36 #[.pointer (some ⟨b1, 0, none⟩), .pointer (some ⟨b2, 0, none⟩)] (fun e0_ e1_ e2_ => impl_fittingLattices_1.f k e0_ e1_ e2_ l1_0 l2_0) r w0 w hB ho0 (fun W_ e0_ e1_ e2_ r_ hW hh => (impl_fittingLattices_1.calls k e0_ e1_ e2_ b1 _ _ l1_0 b2 _ _ l2_0 r_ W_ (hk1 W_ hW) (hr1_0 W_ hW) hc1_0 (hk2 W_ hW) (hr2_0 W_ hW) hc2_0 hh)) (enters_of Try.func36 (by kernel_rfl) rfl) h

def impl_fittingLattices.f (k : Nat) (l0 : List (S45)) (a1 : Int) : Option ((List (S25))) := (impl_unit.f).bind fun bt343 => ((impl_sublattices.f k a1).bind fun t351 => ((DeleteFunc34_impl_fittingLattices_1.f k t351 (([(⟨(⟨bt343.1, bt343.2.1, bt343.2.2.1, bt343.2.2.2⟩ : S60), (⟨0, 0⟩ : S43)⟩ : S63)] : List (S63))) l0).bind fun t354 => (some t354)))
set_option maxHeartbeats 8000000 in
set_option maxRecDepth 100000 in
theorem impl_fittingLattices.calls (k : Nat) (A0 : Option Addr) (c0 : Nat) (l0 : List (S45)) (a1 : Int) (r : List (S25)) (w : World) (hr0 : Kd.C k45 w A0 l0.length l0) (hc0 : l0.length ≤ c0) (h : impl_fittingLattices.f k l0 a1 = some r) :
    Calls Try.prog 21 #[.slice A0 l0.length c0, .int .i64 a1] w fun e w' => ∃ v0_ : Value, e = .returned (v0_) ∧ Kd.R k25 25 w' w.heap.size (fun _ => True) v0_ r ∧ Below w.heap.size w w' := by
  have hu63 := Try.underlying63
  have HR0 := Aside0.mk hr0
  have HC0 := Aside0.mk hc0
  clear hr0 hc0
  have HB := Aside0.mk (Below.refl w.heap.size w)
  have H : ((impl_unit.f).bind fun bt343 => ((impl_sublattices.f k a1).bind fun t351 => ((DeleteFunc34_impl_fittingLattices_1.f k t351 (([(⟨(⟨bt343.1, bt343.2.1, bt343.2.2.1, bt343.2.2.2⟩ : S60), (⟨0, 0⟩ : S43)⟩ : S63)] : List (S63))) l0).bind fun t354 => (some t354)))) = some r := h
  clear h
  replace H := qbd H
  obtain ⟨⟨t343, t344, t345, t346⟩, A3, H⟩ := H
  try dsimp only at H
  obtain ⟨y347, hy347⟩ : ∃ y_ : List (S63), y_ = (([(⟨(⟨t343, t344, t345, t346⟩ : S60), (⟨0, 0⟩ : S43)⟩ : S63)] : List (S63))) := ⟨_, rfl⟩
  replace H : ((impl_sublattices.f k a1).bind fun t351 => ((DeleteFunc34_impl_fittingLattices_1.f k t351 y347 l0).bind fun t354 => (some t354))) = some r := by first | (rw [hy347]; with_reducible exact H) | (have H2_ := (Option.bind_some _ _).symm.trans H; rw [hy347]; with_reducible exact H2_) | (have H2_ := (Option.bind_some _ _).symm.trans H; with_reducible exact H2_) | with_reducible exact H | (rw [hy347]; exact H) | exact H
  have Ny347 := Aside0.mk hy347
  clear hy347
  replace H := qbd H
  obtain ⟨t351, A4, H⟩ := H
  try dsimp only at H
  replace H := qbd H
  obtain ⟨t354, A5, H⟩ := H
  try dsimp only at H
  obtain rfl := Option.some.inj H
  go_enter Try.func21, Try.ntmps21
  go_wp2_with (first | ((with_reducible refine gate_dst (N := 2) rfl ?_); refine qbx 2 28 #[.slice A0 l0.length c0] ?_; intro gb342 hg w6 hbox hb; have BK342 := Aside0.mk (hbox); have GW342 := qgs HB hg; have GE342 := qgs HB hg; replace HB := qbs HB hb; clear hb hbox hg) | ((with_reducible refine gate_callee (f := 33) rfl ?_); refine qgl (some 6) Try.func33 #[] ?_; (with_reducible refine (impl_unit.calls  t343 t344 t345 t346 _ A3.out).mono ?_); rintro e w7 ⟨rfl, hb⟩; refine ⟨_, rfl, ?_⟩; replace BK342 := qbb BK342 hb; replace HB := qbs HB hb; (try clear hb)) | ((with_reducible refine gate_dst (N := 8) rfl ?_); refine Kd.R_lit k63 _ 63 ?hg (N := 8) ?hd (xs := ([(⟨(⟨t343, t344, t345, t346⟩ : S60), (⟨0, 0⟩ : S43)⟩ : S63)] : List (S63))) (inner := [.int .i64 t343, .int .i64 t344, .int .i64 t345, .int .i64 t346, .int .i64 0, .int .i64 0]) (ok := fun _ => True) (okp := fun _ => True) ?hr ?hp (fun _ hk => hk) trivial (Below.refl _ _) (Nat.le_refl _) (by simp) ?_; (case hd => rfl); (case hg => rfl); (case hr => first | (go_simp; done) | (go_simp; rfl)); (case hp => exact (Reps.c6 (show Kd.M k63 _ _ _ (⟨(⟨t343, t344, t345, t346⟩ : S60), (⟨0, 0⟩ : S43)⟩ : S63) [.int .i64 t343, .int .i64 t344, .int .i64 t345, .int .i64 t346, .int .i64 0, .int .i64 0] from (k63_mkM _ _ _ (⟨(⟨t343, t344, t345, t346⟩ : S60), (⟨0, 0⟩ : S43)⟩ : S63) )) (Reps.none _ _))); intro v348 w8 ho9 hb hg_ hnew_; clear hg_ hnew_; (first | rw [← Ny347.out] at ho9 | (simp only [Int.reduceToNat] at ho9; rw [← Ny347.out] at ho9)); have HO349 := Aside0.mk (Kd.R_lower ho9 (below_size qB)); replace BK342 := qbb BK342 hb; replace HB := qbs HB hb; clear hb ho9) | ((with_reducible refine gate_dst (N := 5) rfl ?_); refine qbx 5 64 #[.slice none 0 0] ?_; intro gb350 hg w10 hbox hb; replace HO349 := Aside0.mk (Kd.R_below (qR HO349.out) hb); have BK350 := Aside0.mk (hbox); have GW350 := qgs HB hg; have GE350 := qgs HB hg; replace HB := qbs HB hb; have NB342_350 := qnL BK342 hg; have NB350_342 := qnG BK342 hg; replace BK342 := qbb BK342 hb; clear hb hbox hg; obtain ⟨Ao11, co11, eo11⟩ := Kd.R_slice HO349.out; subst eo11; have hnb12 := NB350_342.out; have hnc12 := NB342_350.out; have hcz13_0 := qc0 BK350; have hfz13_0 := blk_frozen BK350.out 0) | ((with_reducible refine gate_callee (f := 35) rfl ?_); refine qgl (some 10) Try.func35 #[.int .i64 a1] ?_; (with_reducible refine (impl_sublattices.calls k a1 t351 _ A4.out).mono ?_); rintro e w14 ⟨v352, rfl, ho0, hb⟩; refine ⟨_, rfl, ?_⟩; replace HO349 := Aside0.mk (Kd.R_below (qR (Kd.R_mono (Kd.R_far (p := ⟨gb350, 0, none⟩) (Kd.R_types HO349.out BK350.out (by decide)) (fun _ hk => hk.2) (.slice Ao11 y347.length co11)) (fun _ h_ => h_.1))) hb); have HO353 := Aside0.mk (Kd.R_lower ho0 (below_size qB)); replace BK342 := qbq (g := gb342) (o := .cells #[.slice A0 l0.length c0] 28 (0, 0)) hb; replace BK350 := qbq (g := gb350) (o := .cells #[.slice Ao11 y347.length co11] 64 (0, 0)) hb; replace HB := qbs HB hb; (try clear hb); (try clear hk); (try clear ho0); obtain ⟨Ao15, co15, eo15⟩ := Kd.R_slice HO353.out; subst eo15) | ((with_reducible refine gate_callee (f := 34) rfl ?_); refine qgl (some 12) Try.func34 #[.slice Ao15 t351.length co15, .func (.func 36) #[] #[.pointer (some ⟨gb350, 0, none⟩), .pointer (some ⟨gb342, 0, none⟩)]] ?_; (with_reducible refine (DeleteFunc34_impl_fittingLattices_1.calls k (fun k_ => some k_ = (.slice Ao15 t351.length co15 : Value).ownBlock) (.slice Ao15 t351.length co15) t351 gb350 Ao11 co11 y347 gb342 A0 c0 l0 t354 w _ qB ?side2 ?side3 ?side4 ((Kd.R_reads' HO349.out).2.1) ?side6 ?side7 HC0.out A5.out).mono ?_); (case side2 => exact Kd.R_tight rfl HO353.out); (case side3 => exact fun W_ hkp => blk_kept (qp BK350.out) hkp (fun hs_ => (fun e_ => (Kd.R_ne HO353.out BK350.out (by decide)) e_) hs_)); (case side4 => exact Kd.C_kept_own ((Kd.R_apart' HO349.out (Kd.R_typed HO353.out) (by decide))) (fun k_ hk_ hs_ => (hk_.2) hs_)); (case side6 => exact fun W_ hkp => blk_kept (qp BK342.out) hkp (fun hs_ => (fun e_ => (Kd.R_ne HO353.out BK342.out (by decide)) e_) hs_)); (case side7 => exact Kd.C_kept_came k45_heap HR0.out qB (fun k_ hs_ => (fun e_ => Kd.R_base HO353.out k_ e_.symm) hs_)); rintro e w16 ⟨v355, rfl, ho0, hb, hkp⟩; refine ⟨_, rfl, ?_⟩; replace BK342 := Aside0.mk (blk_kept (qp BK342.out) hkp (fun hs_ => (fun e_ => (Kd.R_ne HO353.out BK342.out (by decide)) e_) hs_)); replace HO349 := Aside0.mk (Kd.R_mono (ok' := fun k_ => True) (Kd.R_keptB ((Kd.R_apart' HO349.out (Kd.R_typed HO353.out) (by decide))) hkp (fun k_ hk_ hs_ => (hk_.2) hs_)) (fun k_ hk_ => trivial)); replace BK350 := Aside0.mk (blk_kept (qp BK350.out) hkp (fun hs_ => (fun e_ => (Kd.R_ne HO353.out BK350.out (by decide)) e_) hs_)); have HO356 := Aside0.mk (Kd.R_mono (ok' := fun k_ => True) ho0 (fun k_ hk_ => trivial)); replace HB := Aside0.mk (hb); clear HO353; (try clear hb); (try clear hkp); (try clear ho0)))
  go_ret
  exact ⟨_, qF, by (with_reducible repeat (first | apply Kd.R_alloc | apply Kd.R_drewN | apply Kd.R_drew)); exact HO356.out, qB⟩

def impl_LeastFitting.l0 : Nat → List (S45) → Int → Option (Int × Int × Int × Int)
  | 0, _, _ => none
  | k + 1, x0, x4 => if x4 ≤ 64 then ((impl_fittingLattices.f k x0 x4).bind fun t359 => (if (t359.length : Int) > 0 then (if 0 < (t359.length : Int) then (some ((rd_T25 t359 0).f0, (rd_T25 t359 0).f1, (rd_T25 t359 0).f2, 0)) else (none)) else (impl_LeastFitting.l0 k x0 (wrap64 (x4 + 1))))) else (some (0, 0, 0, 4))
def impl_LeastFitting.f (k : Nat) (l0 : List (S45)) : Option (Int × Int × Int × Int) := (impl_AreMarks.f k l0).bind fun t358 => (if t358 = true then (impl_LeastFitting.l0 k l0 1) else (some (0, 0, 0, 2)))
set_option maxHeartbeats 8000000 in
set_option maxRecDepth 100000 in
theorem impl_LeastFitting.calls (k : Nat) (A0 : Option Addr) (c0 : Nat) (l0 : List (S45)) (r1 : Int) (r2 : Int) (r3 : Int) (r4 : Int) (w : World) (hr0 : Kd.C k45 w A0 l0.length l0) (hc0 : l0.length ≤ c0) (h : impl_LeastFitting.f k l0 = some (r1, r2, r3, r4)) :
    Calls Try.prog 8 #[.slice A0 l0.length c0] w fun e w' => e = .returned (.tuple #[.agg #[.int .i64 r1, .int .i64 r2, .int .i64 r3], .int .i64 r4]) ∧ Below w.heap.size w w' := by
  have hu25 := Try.underlying25
  have HR0 := Aside0.mk hr0
  have HC0 := Aside0.mk hc0
  clear hr0 hc0
  have HB := Aside0.mk (Below.refl w.heap.size w)
  have H : ((impl_AreMarks.f k l0).bind fun t358 => (if t358 = true then (impl_LeastFitting.l0 k l0 1) else (some (0, 0, 0, 2)))) = some (r1, r2, r3, r4) := h
  clear h
  replace H := qbd H
  obtain ⟨t358, A2, H⟩ := H
  try dsimp only at H
  by_cases c3 : t358 = true
  · subst c3
    have H1 : (impl_LeastFitting.l0 k l0 1) = some (r1, r2, r3, r4) := by rw [if_pos rfl] at H; exact H
    clear H
    have H := H1
    clear H1
    have H' := Aside0.mk H
    clear H
    go_enter Try.func8, Try.ntmps8
    go_wp2_with (first | ((with_reducible refine gate_dst (N := 2) rfl ?_); refine qbx 2 25 #[.int .i64 0, .int .i64 0, .int .i64 0] ?_; intro gb357 hg w4 hbox hb; have BK357 := Aside0.mk (hbox); have GW357 := qgs HB hg; have GE357 := qgs HB hg; replace HB := qbs HB hb; clear hb hbox hg) | ((with_reducible refine gate_callee (f := 20) rfl ?_); refine qgl (some 7) Try.func20 #[.slice A0 l0.length c0] ?_; (with_reducible refine (impl_AreMarks.calls k _ _ l0 true _ (qC (Kd.C_below HR0.out HB.out)) HC0.out A2.out).mono ?_); rintro e w5 ⟨rfl, hb⟩; refine ⟨_, rfl, ?_⟩; replace BK357 := qbb BK357 hb; replace HB := qbs HB hb; (try clear hb)))
    go_loopg [4] k (fun kq v4 w' => ∃ (x4_1 : Int) (x358000_1 : Int) (x358001_1 : Int) (x358002_1 : Int), v4 = .int .i64 x4_1 ∧ Aside0 (impl_LeastFitting.l0 kq l0 x4_1 = some (r1, r2, r3, r4)) ∧ Aside0 (kq ≤ k) ∧ Aside0 (w'.heap[gb357]? = some (.cells #[.int .i64 x358000_1, .int .i64 x358001_1, .int .i64 x358002_1] 25 (0, 0))) ∧ Aside0 (Below w.heap.size w w'))
    case atStart => exact ⟨(1), (0), (0), (0), qf, H', ⟨Nat.le_refl _⟩, ⟨by (with_reducible repeat (first | refine blk_drewN ?_ _ | refine blk_drew ?_ | refine blk_alloc ?_ _)); exact BK357.out⟩, ⟨qB⟩⟩
    case round =>
      clear H'
      try clear c2
      try clear p2
      try clear c3
      obtain ⟨x4_1, x358000_1, x358001_1, x358002_1, rfl, HA, HK1, BK357, HB⟩ := hrel
      cases gk with
      | zero => exact absurd HA.out (by simp [impl_LeastFitting.l0])
      | succ k1 =>
        have H := HA.out
        clear HA
        simp only [impl_LeastFitting.l0] at H
        by_cases c6 : x4_1 ≤ 64
        · rw [if_pos c6] at H
          have c6b0 : decide (x4_1 ≤ 64) = true := decide_eq_true c6
          clear c6
          replace H := qbd H
          obtain ⟨t359, A7, H⟩ := H
          try dsimp only at H
          by_cases c8 : (t359.length : Int) > 0
          · rw [if_pos c8] at H
            have c8b0 : decide (0 < (t359.length : Int)) = true := decide_eq_true c8
            have c8b1 : decide (0 < t359.length) = true := decide_eq_true (by omega)
            clear c8
            by_cases c9 : 0 < (t359.length : Int)
            · rw [if_pos c9] at H
              have c9b0 : decide (0 < (t359.length : Int)) = true := decide_eq_true c9
              have c9b1 : decide (0 < t359.length) = true := decide_eq_true (by omega)
              clear c9
              simp only [Option.some.injEq, Prod.mk.injEq] at H
              obtain ⟨rfl, rfl, rfl, rfl⟩ := H
              go_wp2_with (first | ((with_reducible refine gate_callee (f := 21) rfl ?_); refine qgl (some 16) Try.func21 #[.slice A0 l0.length c0, .int .i64 x4_1] ?_; (with_reducible refine (impl_fittingLattices.calls k1 _ _ l0 x4_1 t359 _ (qC (Kd.C_below HR0.out HB.out)) HC0.out A7.out).mono ?_); rintro e w10 ⟨v360, rfl, ho0, hb⟩; refine ⟨_, rfl, ?_⟩; have HO361 := Aside0.mk (Kd.R_lower (Kd.R_newB ho0 (g := gb357) (o := .cells #[.int .i64 x358000_1, .int .i64 x358001_1, .int .i64 x358002_1] 25 (0, 0)) (qp BK357.out)) (below_size qB)); replace BK357 := qbb BK357 hb; replace HB := qbs HB hb; (try clear hb); (try clear ho0); obtain ⟨Ao11, co11, eo11⟩ := Kd.R_slice HO361.out; subst eo11; have p362 : 0 ≤ (0 : Int) := (by omega); have q362 : 0 < (t359.length : Int) := qo; obtain ⟨ad362, e362, hx362_0, hx362_1, hx362_2⟩ := at_T25 (Kd.R_reads' HO361.out).2.2 0 p362 q362; cases e362; have qi362 : (0 < t359.length) = True := eq_true (by omega); (try rw [show ((0 : Int)).toNat = 0 from rfl] at hx362_0); (try rw [show 0 * 3 = 0 from rfl] at hx362_0); (try rw [Addr.add_zero'] at hx362_0); (try rw [show ((0 : Int)).toNat = 0 from rfl] at hx362_1); (try rw [show 0 * 3 = 0 from rfl] at hx362_1); (try rw [Addr.add_zero'] at hx362_1); (try rw [show ((0 : Int)).toNat = 0 from rfl] at hx362_2); (try rw [show 0 * 3 = 0 from rfl] at hx362_2); (try rw [Addr.add_zero'] at hx362_2); replace p362 := eq_true p362; replace q362 := eq_true q362; have hcz12_0 := qc0 BK357; have hcz12_1 := qc1 BK357; have hcz12_2 := qc2 BK357; have hfz12_0 := blk_frozen BK357.out 0; have hfz12_1 := blk_frozen BK357.out 1; have hfz12_2 := blk_frozen BK357.out 2))
              refine bodyPost_ret (results_ct rfl _ _ gb357 25 #[.int .i64 ((rd_T25 t359 0).f0), .int .i64 ((rd_T25 t359 0).f1), .int .i64 ((rd_T25 t359 0).f2)] (0, 0) _ rfl qw Try.underlying25 rfl (by kernel_rfl)) rfl ?_
              exact ⟨qF, qB⟩
            · rw [if_neg c9] at H
              exact absurd H (by simp)
          · rw [if_neg c8] at H
            have c8b0 : decide (0 < (t359.length : Int)) = false := decide_eq_false c8
            have c8b1 : decide (0 < t359.length) = false := decide_eq_false (by omega)
            clear c8
            have H' := Aside0.mk H
            clear H
            go_wp2_with (first | ((with_reducible refine gate_callee (f := 21) rfl ?_); refine qgl (some 16) Try.func21 #[.slice A0 l0.length c0, .int .i64 x4_1] ?_; (with_reducible refine (impl_fittingLattices.calls k1 _ _ l0 x4_1 t359 _ (qC (Kd.C_below HR0.out HB.out)) HC0.out A7.out).mono ?_); rintro e w13 ⟨v360, rfl, ho0, hb⟩; refine ⟨_, rfl, ?_⟩; have HO361 := Aside0.mk (Kd.R_lower (Kd.R_newB ho0 (g := gb357) (o := .cells #[.int .i64 x358000_1, .int .i64 x358001_1, .int .i64 x358002_1] 25 (0, 0)) (qp BK357.out)) (below_size qB)); replace BK357 := qbb BK357 hb; replace HB := qbs HB hb; (try clear hb); (try clear ho0); obtain ⟨Ao14, co14, eo14⟩ := Kd.R_slice HO361.out; subst eo14))
            go_roundg k1
            case measure => have := HK1.out; omega
            case rel => exact ⟨(wrap64 (x4_1 + 1)), (x358000_1), (x358001_1), (x358002_1), qf, H', ⟨by have := HK1.out; omega⟩, ⟨by (with_reducible repeat (first | refine blk_drewN ?_ _ | refine blk_drew ?_ | refine blk_alloc ?_ _)); exact BK357.out⟩, ⟨qB⟩⟩
        · rw [if_neg c6] at H
          have c6b0 : decide (x4_1 ≤ 64) = false := decide_eq_false c6
          clear c6
          simp only [Option.some.injEq, Prod.mk.injEq] at H
          obtain ⟨rfl, rfl, rfl, rfl⟩ := H
          have hcz15_0 : wr.cell? ⟨gb357, 0, none⟩ = some (.int .i64 x358000_1) := (blk_cell BK357.out 0).trans rfl
          have hcz15_1 : wr.cell? ⟨gb357, 1, none⟩ = some (.int .i64 x358001_1) := (blk_cell BK357.out 1).trans rfl
          have hcz15_2 : wr.cell? ⟨gb357, 2, none⟩ = some (.int .i64 x358002_1) := (blk_cell BK357.out 2).trans rfl
          have hfz15_0 := blk_frozen BK357.out 0
          have hfz15_1 := blk_frozen BK357.out 1
          have hfz15_2 := blk_frozen BK357.out 2
          go_wp2
          refine bodyPost_ret (results_ct rfl _ _ gb357 25 #[.int .i64 0, .int .i64 0, .int .i64 0] (0, 0) _ rfl qw Try.underlying25 rfl (by kernel_rfl)) rfl ?_
          exact ⟨qF, qB⟩
  · replace c3 := Bool.eq_false_iff.mpr c3
    subst c3
    have H1 : (some (0, 0, 0, 2)) = some (r1, r2, r3, r4) := by rw [if_neg (show ¬ (false = true) by decide)] at H; exact H
    clear H
    have H := H1
    clear H1
    simp only [Option.some.injEq, Prod.mk.injEq] at H
    obtain ⟨rfl, rfl, rfl, rfl⟩ := H
    go_enter Try.func8, Try.ntmps8
    go_wp2_with (first | ((with_reducible refine gate_dst (N := 2) rfl ?_); refine qbx 2 25 #[.int .i64 0, .int .i64 0, .int .i64 0] ?_; intro gb357 hg w16 hbox hb; have BK357 := Aside0.mk (hbox); have GW357 := qgs HB hg; have GE357 := qgs HB hg; replace HB := qbs HB hb; clear hb hbox hg) | ((with_reducible refine gate_callee (f := 20) rfl ?_); refine qgl (some 7) Try.func20 #[.slice A0 l0.length c0] ?_; (with_reducible refine (impl_AreMarks.calls k _ _ l0 false _ (qC (Kd.C_below HR0.out HB.out)) HC0.out A2.out).mono ?_); rintro e w17 ⟨rfl, hb⟩; refine ⟨_, rfl, ?_⟩; replace BK357 := qbb BK357 hb; replace HB := qbs HB hb; (try clear hb); have hcz18_0 := qc0 BK357; have hcz18_1 := qc1 BK357; have hcz18_2 := qc2 BK357; have hfz18_0 := blk_frozen BK357.out 0; have hfz18_1 := blk_frozen BK357.out 1; have hfz18_2 := blk_frozen BK357.out 2))
    refine bodyPost_ret (results_ct rfl _ _ gb357 25 #[.int .i64 0, .int .i64 0, .int .i64 0] (0, 0) _ rfl qw Try.underlying25 rfl (by kernel_rfl)) rfl ?_
    exact ⟨qF, qB⟩

def laws_eqLattice.f (a0_0 : Int) (a0_1 : Int) (a0_2 : Int) (a1_0 : Int) (a1_1 : Int) (a1_2 : Int) : Option (Bool) := if a0_0 = a1_0 then (if a0_1 = a1_1 then (if a0_2 = a1_2 then (some true) else (some false)) else (some false)) else (some false)
set_option maxHeartbeats 8000000 in
set_option maxRecDepth 100000 in
theorem laws_eqLattice.calls (a0_0 : Int) (a0_1 : Int) (a0_2 : Int) (a1_0 : Int) (a1_1 : Int) (a1_2 : Int) (r : Bool) (w : World) (h : laws_eqLattice.f a0_0 a0_1 a0_2 a1_0 a1_1 a1_2 = some r) :
    Calls Try.prog 9 #[.agg #[.int .i64 a0_0, .int .i64 a0_1, .int .i64 a0_2], .agg #[.int .i64 a1_0, .int .i64 a1_1, .int .i64 a1_2]] w fun e w' => e = .returned (.bool r) ∧ Below w.heap.size w w' := by
  have hu25 := Try.underlying25
  have HB := Aside0.mk (Below.refl w.heap.size w)
  have H : (if a0_0 = a1_0 then (if a0_1 = a1_1 then (if a0_2 = a1_2 then (some true) else (some false)) else (some false)) else (some false)) = some r := h
  clear h
  by_cases c3 : a0_0 = a1_0
  · rw [if_pos c3] at H
    have c3b0 : (a0_0 == a1_0) = true := beq_iff_eq.mpr c3
    have c3b1 : (a0_0 != a1_0) = false := bne_eq_false_iff_eq.mpr c3
    clear c3
    by_cases c4 : a0_1 = a1_1
    · rw [if_pos c4] at H
      have c4b0 : (a0_1 == a1_1) = true := beq_iff_eq.mpr c4
      have c4b1 : (a0_1 != a1_1) = false := bne_eq_false_iff_eq.mpr c4
      clear c4
      by_cases c5 : a0_2 = a1_2
      · rw [if_pos c5] at H
        have c5b0 : (a0_2 == a1_2) = true := beq_iff_eq.mpr c5
        have c5b1 : (a0_2 != a1_2) = false := bne_eq_false_iff_eq.mpr c5
        clear c5
        obtain rfl := Option.some.inj H
        go_enter Try.func9, Try.ntmps9
        go_wp2_with (first | ((with_reducible refine gate_dst (N := 2) rfl ?_); refine qbx 2 25 #[.int .i64 a0_0, .int .i64 a0_1, .int .i64 a0_2] ?_; intro gb363 hg w6 hbox hb; have BK363 := Aside0.mk (hbox); have GW363 := qgs HB hg; have GE363 := qgs HB hg; replace HB := qbs HB hb; clear hb hbox hg) | ((with_reducible refine gate_dst (N := 3) rfl ?_); refine qbx 3 25 #[.int .i64 a1_0, .int .i64 a1_1, .int .i64 a1_2] ?_; intro gb364 hg w7 hbox hb; have BK364 := Aside0.mk (hbox); have GW364 := qgs HB hg; have GE364 := qgs HB hg; replace HB := qbs HB hb; have NB363_364 := qnL BK363 hg; have NB364_363 := qnG BK363 hg; replace BK363 := qbb BK363 hb; clear hb hbox hg; have hnb8 := NB363_364.out; have hnc8 := NB364_363.out; have hcz9_0 := qc0 BK363; have hcz9_1 := qc1 BK363; have hcz9_2 := qc2 BK363; have hfz9_0 := blk_frozen BK363.out 0; have hfz9_1 := blk_frozen BK363.out 1; have hfz9_2 := blk_frozen BK363.out 2; have hcz10_0 := qc0 BK364; have hcz10_1 := qc1 BK364; have hcz10_2 := qc2 BK364; have hfz10_0 := blk_frozen BK364.out 0; have hfz10_1 := blk_frozen BK364.out 1; have hfz10_2 := blk_frozen BK364.out 2))
        go_ret
        exact ⟨qF, qB⟩
      · rw [if_neg c5] at H
        have c5b0 : (a0_2 == a1_2) = false := beq_eq_false_iff_ne.mpr c5
        have c5b1 : (a0_2 != a1_2) = true := bne_iff_ne.mpr c5
        obtain rfl := Option.some.inj H
        go_enter Try.func9, Try.ntmps9
        go_wp2_with (first | ((with_reducible refine gate_dst (N := 2) rfl ?_); refine qbx 2 25 #[.int .i64 a0_0, .int .i64 a0_1, .int .i64 a0_2] ?_; intro gb363 hg w11 hbox hb; have BK363 := Aside0.mk (hbox); have GW363 := qgs HB hg; have GE363 := qgs HB hg; replace HB := qbs HB hb; clear hb hbox hg) | ((with_reducible refine gate_dst (N := 3) rfl ?_); refine qbx 3 25 #[.int .i64 a1_0, .int .i64 a1_1, .int .i64 a1_2] ?_; intro gb364 hg w12 hbox hb; have BK364 := Aside0.mk (hbox); have GW364 := qgs HB hg; have GE364 := qgs HB hg; replace HB := qbs HB hb; have NB363_364 := qnL BK363 hg; have NB364_363 := qnG BK363 hg; replace BK363 := qbb BK363 hb; clear hb hbox hg; have hnb13 := NB363_364.out; have hnc13 := NB364_363.out; have hcz14_0 := qc0 BK363; have hcz14_1 := qc1 BK363; have hcz14_2 := qc2 BK363; have hfz14_0 := blk_frozen BK363.out 0; have hfz14_1 := blk_frozen BK363.out 1; have hfz14_2 := blk_frozen BK363.out 2; have hcz15_0 := qc0 BK364; have hcz15_1 := qc1 BK364; have hcz15_2 := qc2 BK364; have hfz15_0 := blk_frozen BK364.out 0; have hfz15_1 := blk_frozen BK364.out 1; have hfz15_2 := blk_frozen BK364.out 2))
        go_ret
        exact ⟨qF, qB⟩
    · rw [if_neg c4] at H
      have c4b0 : (a0_1 == a1_1) = false := beq_eq_false_iff_ne.mpr c4
      have c4b1 : (a0_1 != a1_1) = true := bne_iff_ne.mpr c4
      obtain rfl := Option.some.inj H
      go_enter Try.func9, Try.ntmps9
      go_wp2_with (first | ((with_reducible refine gate_dst (N := 2) rfl ?_); refine qbx 2 25 #[.int .i64 a0_0, .int .i64 a0_1, .int .i64 a0_2] ?_; intro gb363 hg w16 hbox hb; have BK363 := Aside0.mk (hbox); have GW363 := qgs HB hg; have GE363 := qgs HB hg; replace HB := qbs HB hb; clear hb hbox hg) | ((with_reducible refine gate_dst (N := 3) rfl ?_); refine qbx 3 25 #[.int .i64 a1_0, .int .i64 a1_1, .int .i64 a1_2] ?_; intro gb364 hg w17 hbox hb; have BK364 := Aside0.mk (hbox); have GW364 := qgs HB hg; have GE364 := qgs HB hg; replace HB := qbs HB hb; have NB363_364 := qnL BK363 hg; have NB364_363 := qnG BK363 hg; replace BK363 := qbb BK363 hb; clear hb hbox hg; have hnb18 := NB363_364.out; have hnc18 := NB364_363.out; have hcz19_0 := qc0 BK363; have hcz19_1 := qc1 BK363; have hcz19_2 := qc2 BK363; have hfz19_0 := blk_frozen BK363.out 0; have hfz19_1 := blk_frozen BK363.out 1; have hfz19_2 := blk_frozen BK363.out 2; have hcz20_0 := qc0 BK364; have hcz20_1 := qc1 BK364; have hcz20_2 := qc2 BK364; have hfz20_0 := blk_frozen BK364.out 0; have hfz20_1 := blk_frozen BK364.out 1; have hfz20_2 := blk_frozen BK364.out 2))
      go_ret
      exact ⟨qF, qB⟩
  · rw [if_neg c3] at H
    have c3b0 : (a0_0 == a1_0) = false := beq_eq_false_iff_ne.mpr c3
    have c3b1 : (a0_0 != a1_0) = true := bne_iff_ne.mpr c3
    obtain rfl := Option.some.inj H
    go_enter Try.func9, Try.ntmps9
    go_wp2_with (first | ((with_reducible refine gate_dst (N := 2) rfl ?_); refine qbx 2 25 #[.int .i64 a0_0, .int .i64 a0_1, .int .i64 a0_2] ?_; intro gb363 hg w21 hbox hb; have BK363 := Aside0.mk (hbox); have GW363 := qgs HB hg; have GE363 := qgs HB hg; replace HB := qbs HB hb; clear hb hbox hg) | ((with_reducible refine gate_dst (N := 3) rfl ?_); refine qbx 3 25 #[.int .i64 a1_0, .int .i64 a1_1, .int .i64 a1_2] ?_; intro gb364 hg w22 hbox hb; have BK364 := Aside0.mk (hbox); have GW364 := qgs HB hg; have GE364 := qgs HB hg; replace HB := qbs HB hb; have NB363_364 := qnL BK363 hg; have NB364_363 := qnG BK363 hg; replace BK363 := qbb BK363 hb; clear hb hbox hg; have hnb23 := NB363_364.out; have hnc23 := NB364_363.out; have hcz24_0 := qc0 BK363; have hcz24_1 := qc1 BK363; have hcz24_2 := qc2 BK363; have hfz24_0 := blk_frozen BK363.out 0; have hfz24_1 := blk_frozen BK363.out 1; have hfz24_2 := blk_frozen BK363.out 2; have hcz25_0 := qc0 BK364; have hcz25_1 := qc1 BK364; have hcz25_2 := qc2 BK364; have hfz25_0 := blk_frozen BK364.out 0; have hfz25_1 := blk_frozen BK364.out 1; have hfz25_2 := blk_frozen BK364.out 2))
    go_ret
    exact ⟨qF, qB⟩

def laws_eqVec.f (a0_0 : Int) (a0_1 : Int) (a1_0 : Int) (a1_1 : Int) : Option (Bool) := if a0_0 = a1_0 then (if a0_1 = a1_1 then (some true) else (some false)) else (some false)
set_option maxHeartbeats 8000000 in
set_option maxRecDepth 100000 in
theorem laws_eqVec.calls (a0_0 : Int) (a0_1 : Int) (a1_0 : Int) (a1_1 : Int) (r : Bool) (w : World) (h : laws_eqVec.f a0_0 a0_1 a1_0 a1_1 = some r) :
    Calls Try.prog 38 #[.agg #[.int .i64 a0_0, .int .i64 a0_1], .agg #[.int .i64 a1_0, .int .i64 a1_1]] w fun e w' => e = .returned (.bool r) ∧ Below w.heap.size w w' := by
  have hu43 := Try.underlying43
  have HB := Aside0.mk (Below.refl w.heap.size w)
  have H : (if a0_0 = a1_0 then (if a0_1 = a1_1 then (some true) else (some false)) else (some false)) = some r := h
  clear h
  by_cases c3 : a0_0 = a1_0
  · rw [if_pos c3] at H
    have c3b0 : (a0_0 == a1_0) = true := beq_iff_eq.mpr c3
    have c3b1 : (a0_0 != a1_0) = false := bne_eq_false_iff_eq.mpr c3
    clear c3
    by_cases c4 : a0_1 = a1_1
    · rw [if_pos c4] at H
      have c4b0 : (a0_1 == a1_1) = true := beq_iff_eq.mpr c4
      have c4b1 : (a0_1 != a1_1) = false := bne_eq_false_iff_eq.mpr c4
      clear c4
      obtain rfl := Option.some.inj H
      go_enter Try.func38, Try.ntmps38
      go_wp2_with (first | ((with_reducible refine gate_dst (N := 2) rfl ?_); refine qbx 2 43 #[.int .i64 a0_0, .int .i64 a0_1] ?_; intro gb365 hg w5 hbox hb; have BK365 := Aside0.mk (hbox); have GW365 := qgs HB hg; have GE365 := qgs HB hg; replace HB := qbs HB hb; clear hb hbox hg) | ((with_reducible refine gate_dst (N := 3) rfl ?_); refine qbx 3 43 #[.int .i64 a1_0, .int .i64 a1_1] ?_; intro gb366 hg w6 hbox hb; have BK366 := Aside0.mk (hbox); have GW366 := qgs HB hg; have GE366 := qgs HB hg; replace HB := qbs HB hb; have NB365_366 := qnL BK365 hg; have NB366_365 := qnG BK365 hg; replace BK365 := qbb BK365 hb; clear hb hbox hg; have hnb7 := NB365_366.out; have hnc7 := NB366_365.out; have hcz8_0 := qc0 BK365; have hcz8_1 := qc1 BK365; have hfz8_0 := blk_frozen BK365.out 0; have hfz8_1 := blk_frozen BK365.out 1; have hcz9_0 := qc0 BK366; have hcz9_1 := qc1 BK366; have hfz9_0 := blk_frozen BK366.out 0; have hfz9_1 := blk_frozen BK366.out 1))
      go_ret
      exact ⟨qF, qB⟩
    · rw [if_neg c4] at H
      have c4b0 : (a0_1 == a1_1) = false := beq_eq_false_iff_ne.mpr c4
      have c4b1 : (a0_1 != a1_1) = true := bne_iff_ne.mpr c4
      obtain rfl := Option.some.inj H
      go_enter Try.func38, Try.ntmps38
      go_wp2_with (first | ((with_reducible refine gate_dst (N := 2) rfl ?_); refine qbx 2 43 #[.int .i64 a0_0, .int .i64 a0_1] ?_; intro gb365 hg w10 hbox hb; have BK365 := Aside0.mk (hbox); have GW365 := qgs HB hg; have GE365 := qgs HB hg; replace HB := qbs HB hb; clear hb hbox hg) | ((with_reducible refine gate_dst (N := 3) rfl ?_); refine qbx 3 43 #[.int .i64 a1_0, .int .i64 a1_1] ?_; intro gb366 hg w11 hbox hb; have BK366 := Aside0.mk (hbox); have GW366 := qgs HB hg; have GE366 := qgs HB hg; replace HB := qbs HB hb; have NB365_366 := qnL BK365 hg; have NB366_365 := qnG BK365 hg; replace BK365 := qbb BK365 hb; clear hb hbox hg; have hnb12 := NB365_366.out; have hnc12 := NB366_365.out; have hcz13_0 := qc0 BK365; have hcz13_1 := qc1 BK365; have hfz13_0 := blk_frozen BK365.out 0; have hfz13_1 := blk_frozen BK365.out 1; have hcz14_0 := qc0 BK366; have hcz14_1 := qc1 BK366; have hfz14_0 := blk_frozen BK366.out 0; have hfz14_1 := blk_frozen BK366.out 1))
      go_ret
      exact ⟨qF, qB⟩
  · rw [if_neg c3] at H
    have c3b0 : (a0_0 == a1_0) = false := beq_eq_false_iff_ne.mpr c3
    have c3b1 : (a0_0 != a1_0) = true := bne_iff_ne.mpr c3
    obtain rfl := Option.some.inj H
    go_enter Try.func38, Try.ntmps38
    go_wp2_with (first | ((with_reducible refine gate_dst (N := 2) rfl ?_); refine qbx 2 43 #[.int .i64 a0_0, .int .i64 a0_1] ?_; intro gb365 hg w15 hbox hb; have BK365 := Aside0.mk (hbox); have GW365 := qgs HB hg; have GE365 := qgs HB hg; replace HB := qbs HB hb; clear hb hbox hg) | ((with_reducible refine gate_dst (N := 3) rfl ?_); refine qbx 3 43 #[.int .i64 a1_0, .int .i64 a1_1] ?_; intro gb366 hg w16 hbox hb; have BK366 := Aside0.mk (hbox); have GW366 := qgs HB hg; have GE366 := qgs HB hg; replace HB := qbs HB hb; have NB365_366 := qnL BK365 hg; have NB366_365 := qnG BK365 hg; replace BK365 := qbb BK365 hb; clear hb hbox hg; have hnb17 := NB365_366.out; have hnc17 := NB366_365.out; have hcz18_0 := qc0 BK365; have hcz18_1 := qc1 BK365; have hfz18_0 := blk_frozen BK365.out 0; have hfz18_1 := blk_frozen BK365.out 1; have hcz19_0 := qc0 BK366; have hcz19_1 := qc1 BK366; have hfz19_0 := blk_frozen BK366.out 0; have hfz19_1 := blk_frozen BK366.out 1))
    go_ret
    exact ⟨qF, qB⟩

def laws_eqMark.f (a0_0 : Int) (a0_1 : Int) (a0_2 : Int) (a1_0 : Int) (a1_1 : Int) (a1_2 : Int) : Option (Bool) := (laws_eqVec.f a0_0 a0_1 a1_0 a1_1).bind fun t369 => (if t369 = true then (if a0_2 = a1_2 then (some true) else (some false)) else (some false))
set_option maxHeartbeats 8000000 in
set_option maxRecDepth 100000 in
theorem laws_eqMark.calls (a0_0 : Int) (a0_1 : Int) (a0_2 : Int) (a1_0 : Int) (a1_1 : Int) (a1_2 : Int) (r : Bool) (w : World) (h : laws_eqMark.f a0_0 a0_1 a0_2 a1_0 a1_1 a1_2 = some r) :
    Calls Try.prog 22 #[.agg #[.int .i64 a0_0, .int .i64 a0_1, .int .i64 a0_2], .agg #[.int .i64 a1_0, .int .i64 a1_1, .int .i64 a1_2]] w fun e w' => e = .returned (.bool r) ∧ Below w.heap.size w w' := by
  have hu45 := Try.underlying45
  have hu43 := Try.underlying43
  have HB := Aside0.mk (Below.refl w.heap.size w)
  have H : ((laws_eqVec.f a0_0 a0_1 a1_0 a1_1).bind fun t369 => (if t369 = true then (if a0_2 = a1_2 then (some true) else (some false)) else (some false))) = some r := h
  clear h
  replace H := qbd H
  obtain ⟨t369, A3, H⟩ := H
  try dsimp only at H
  by_cases c4 : t369 = true
  · subst c4
    have H1 : (if a0_2 = a1_2 then (some true) else (some false)) = some r := by rw [if_pos rfl] at H; exact H
    clear H
    have H := H1
    clear H1
    by_cases c5 : a0_2 = a1_2
    · rw [if_pos c5] at H
      have c5b0 : (a0_2 == a1_2) = true := beq_iff_eq.mpr c5
      have c5b1 : (a0_2 != a1_2) = false := bne_eq_false_iff_eq.mpr c5
      clear c5
      obtain rfl := Option.some.inj H
      go_enter Try.func22, Try.ntmps22
      go_wp2_with (first | ((with_reducible refine gate_dst (N := 2) rfl ?_); refine qbx 2 45 #[.int .i64 a0_0, .int .i64 a0_1, .int .i64 a0_2] ?_; intro gb367 hg w6 hbox hb; have BK367 := Aside0.mk (hbox); have GW367 := qgs HB hg; have GE367 := qgs HB hg; replace HB := qbs HB hb; clear hb hbox hg) | ((with_reducible refine gate_dst (N := 3) rfl ?_); refine qbx 3 45 #[.int .i64 a1_0, .int .i64 a1_1, .int .i64 a1_2] ?_; intro gb368 hg w7 hbox hb; have BK368 := Aside0.mk (hbox); have GW368 := qgs HB hg; have GE368 := qgs HB hg; replace HB := qbs HB hb; have NB367_368 := qnL BK367 hg; have NB368_367 := qnG BK367 hg; replace BK367 := qbb BK367 hb; clear hb hbox hg; have hnb8 := NB367_368.out; have hnc8 := NB368_367.out; have hcz9_0 := qc0 BK367; have hcz9_1 := qc1 BK367; have hcz9_2 := qc2 BK367; have hfz9_0 := blk_frozen BK367.out 0; have hfz9_1 := blk_frozen BK367.out 1; have hfz9_2 := blk_frozen BK367.out 2; have hcz10_0 := qc0 BK368; have hcz10_1 := qc1 BK368; have hcz10_2 := qc2 BK368; have hfz10_0 := blk_frozen BK368.out 0; have hfz10_1 := blk_frozen BK368.out 1; have hfz10_2 := blk_frozen BK368.out 2) | ((with_reducible refine gate_callee (f := 38) rfl ?_); refine qgl (some 9) Try.func38 #[.agg #[.int .i64 a0_0, .int .i64 a0_1], .agg #[.int .i64 a1_0, .int .i64 a1_1]] ?_; (with_reducible refine (laws_eqVec.calls a0_0 a0_1 a1_0 a1_1 true _ A3.out).mono ?_); rintro e w11 ⟨rfl, hb⟩; refine ⟨_, rfl, ?_⟩; replace BK367 := qbb BK367 hb; replace BK368 := qbb BK368 hb; replace HB := qbs HB hb; (try clear hb); have hcz12_0 := qc0 BK367; have hcz12_1 := qc1 BK367; have hcz12_2 := qc2 BK367; have hfz12_0 := blk_frozen BK367.out 0; have hfz12_1 := blk_frozen BK367.out 1; have hfz12_2 := blk_frozen BK367.out 2; have hcz13_0 := qc0 BK368; have hcz13_1 := qc1 BK368; have hcz13_2 := qc2 BK368; have hfz13_0 := blk_frozen BK368.out 0; have hfz13_1 := blk_frozen BK368.out 1; have hfz13_2 := blk_frozen BK368.out 2))
      go_ret
      exact ⟨qF, qB⟩
    · rw [if_neg c5] at H
      have c5b0 : (a0_2 == a1_2) = false := beq_eq_false_iff_ne.mpr c5
      have c5b1 : (a0_2 != a1_2) = true := bne_iff_ne.mpr c5
      obtain rfl := Option.some.inj H
      go_enter Try.func22, Try.ntmps22
      go_wp2_with (first | ((with_reducible refine gate_dst (N := 2) rfl ?_); refine qbx 2 45 #[.int .i64 a0_0, .int .i64 a0_1, .int .i64 a0_2] ?_; intro gb367 hg w14 hbox hb; have BK367 := Aside0.mk (hbox); have GW367 := qgs HB hg; have GE367 := qgs HB hg; replace HB := qbs HB hb; clear hb hbox hg) | ((with_reducible refine gate_dst (N := 3) rfl ?_); refine qbx 3 45 #[.int .i64 a1_0, .int .i64 a1_1, .int .i64 a1_2] ?_; intro gb368 hg w15 hbox hb; have BK368 := Aside0.mk (hbox); have GW368 := qgs HB hg; have GE368 := qgs HB hg; replace HB := qbs HB hb; have NB367_368 := qnL BK367 hg; have NB368_367 := qnG BK367 hg; replace BK367 := qbb BK367 hb; clear hb hbox hg; have hnb16 := NB367_368.out; have hnc16 := NB368_367.out; have hcz17_0 := qc0 BK367; have hcz17_1 := qc1 BK367; have hcz17_2 := qc2 BK367; have hfz17_0 := blk_frozen BK367.out 0; have hfz17_1 := blk_frozen BK367.out 1; have hfz17_2 := blk_frozen BK367.out 2; have hcz18_0 := qc0 BK368; have hcz18_1 := qc1 BK368; have hcz18_2 := qc2 BK368; have hfz18_0 := blk_frozen BK368.out 0; have hfz18_1 := blk_frozen BK368.out 1; have hfz18_2 := blk_frozen BK368.out 2) | ((with_reducible refine gate_callee (f := 38) rfl ?_); refine qgl (some 9) Try.func38 #[.agg #[.int .i64 a0_0, .int .i64 a0_1], .agg #[.int .i64 a1_0, .int .i64 a1_1]] ?_; (with_reducible refine (laws_eqVec.calls a0_0 a0_1 a1_0 a1_1 true _ A3.out).mono ?_); rintro e w19 ⟨rfl, hb⟩; refine ⟨_, rfl, ?_⟩; replace BK367 := qbb BK367 hb; replace BK368 := qbb BK368 hb; replace HB := qbs HB hb; (try clear hb); have hcz20_0 := qc0 BK367; have hcz20_1 := qc1 BK367; have hcz20_2 := qc2 BK367; have hfz20_0 := blk_frozen BK367.out 0; have hfz20_1 := blk_frozen BK367.out 1; have hfz20_2 := blk_frozen BK367.out 2; have hcz21_0 := qc0 BK368; have hcz21_1 := qc1 BK368; have hcz21_2 := qc2 BK368; have hfz21_0 := blk_frozen BK368.out 0; have hfz21_1 := blk_frozen BK368.out 1; have hfz21_2 := blk_frozen BK368.out 2))
      go_ret
      exact ⟨qF, qB⟩
  · replace c4 := Bool.eq_false_iff.mpr c4
    subst c4
    have H1 : (some false) = some r := by rw [if_neg (show ¬ (false = true) by decide)] at H; exact H
    clear H
    have H := H1
    clear H1
    obtain rfl := Option.some.inj H
    go_enter Try.func22, Try.ntmps22
    go_wp2_with (first | ((with_reducible refine gate_dst (N := 2) rfl ?_); refine qbx 2 45 #[.int .i64 a0_0, .int .i64 a0_1, .int .i64 a0_2] ?_; intro gb367 hg w22 hbox hb; have BK367 := Aside0.mk (hbox); have GW367 := qgs HB hg; have GE367 := qgs HB hg; replace HB := qbs HB hb; clear hb hbox hg) | ((with_reducible refine gate_dst (N := 3) rfl ?_); refine qbx 3 45 #[.int .i64 a1_0, .int .i64 a1_1, .int .i64 a1_2] ?_; intro gb368 hg w23 hbox hb; have BK368 := Aside0.mk (hbox); have GW368 := qgs HB hg; have GE368 := qgs HB hg; replace HB := qbs HB hb; have NB367_368 := qnL BK367 hg; have NB368_367 := qnG BK367 hg; replace BK367 := qbb BK367 hb; clear hb hbox hg; have hnb24 := NB367_368.out; have hnc24 := NB368_367.out; have hcz25_0 := qc0 BK367; have hcz25_1 := qc1 BK367; have hcz25_2 := qc2 BK367; have hfz25_0 := blk_frozen BK367.out 0; have hfz25_1 := blk_frozen BK367.out 1; have hfz25_2 := blk_frozen BK367.out 2; have hcz26_0 := qc0 BK368; have hcz26_1 := qc1 BK368; have hcz26_2 := qc2 BK368; have hfz26_0 := blk_frozen BK368.out 0; have hfz26_1 := blk_frozen BK368.out 1; have hfz26_2 := blk_frozen BK368.out 2) | ((with_reducible refine gate_callee (f := 38) rfl ?_); refine qgl (some 9) Try.func38 #[.agg #[.int .i64 a0_0, .int .i64 a0_1], .agg #[.int .i64 a1_0, .int .i64 a1_1]] ?_; (with_reducible refine (laws_eqVec.calls a0_0 a0_1 a1_0 a1_1 false _ A3.out).mono ?_); rintro e w27 ⟨rfl, hb⟩; refine ⟨_, rfl, ?_⟩; replace BK367 := qbb BK367 hb; replace BK368 := qbb BK368 hb; replace HB := qbs HB hb; (try clear hb)))
    go_ret
    exact ⟨qF, qB⟩

def laws_eqMarkS.l0 : Nat → List (S45) → List (S45) → Int → Option (Bool)
  | 0, _, _, _ => none
  | k + 1, x0, x1, x5 => if x5 < (x0.length : Int) then (if 0 ≤ x5 then (if x5 < (x1.length : Int) then ((laws_eqMark.f ((rd_T45 x0 x5).f0.f0) ((rd_T45 x0 x5).f0.f1) ((rd_T45 x0 x5).f1) ((rd_T45 x1 x5).f0.f0) ((rd_T45 x1 x5).f0.f1) ((rd_T45 x1 x5).f1)).bind fun t372 => (if t372 = true then (laws_eqMarkS.l0 k x0 x1 (wrap64 (x5 + 1))) else (some false))) else (none)) else (none)) else (some true)
def laws_eqMarkS.f (k : Nat) (l0 : List (S45)) (l1 : List (S45)) : Option (Bool) := if (l0.length : Int) = (l1.length : Int) then (laws_eqMarkS.l0 k l0 l1 0) else (some false)
def laws_eqMarkS.T6 : Bool × List (List Nat × List Nat) := (true, [([], []), ([], []), ([0, 1], [0, 1]), ([2], [2]), ([], []), ([], []), ([4, 5], [4, 5]), ([6], [6]), ([3, 7], [3, 7]), ([8], [8])])
def laws_eqMarkS.B6 : List Nat := [0, 0, 3, 7, 0, 0, 48, 112, 255, 511]
theorem laws_eqMarkS.tab6 : rtab .any (opsOf Try.f10 6) = laws_eqMarkS.T6 := by kernel_rfl
theorem laws_eqMarkS.bits6 : waitsOk laws_eqMarkS.T6.2 laws_eqMarkS.B6 = true := by kernel_rfl
set_option maxHeartbeats 8000000 in
set_option maxRecDepth 100000 in
theorem laws_eqMarkS.calls (k : Nat) (A0 : Option Addr) (c0 : Nat) (l0 : List (S45)) (A1 : Option Addr) (c1 : Nat) (l1 : List (S45)) (r : Bool) (w : World) (hr0 : Kd.C k45 w A0 l0.length l0) (hc0 : l0.length ≤ c0) (hr1 : Kd.C k45 w A1 l1.length l1) (hc1 : l1.length ≤ c1) (h : laws_eqMarkS.f k l0 l1 = some r) :
    Calls Try.prog 10 #[.slice A0 l0.length c0, .slice A1 l1.length c1] w fun e w' => e = .returned (.bool r) ∧ Below w.heap.size w w' := by
  have hu45 := Try.underlying45
  have HR0 := Aside0.mk hr0
  have HC0 := Aside0.mk hc0
  clear hr0 hc0
  have HR1 := Aside0.mk hr1
  have HC1 := Aside0.mk hc1
  clear hr1 hc1
  have HB := Aside0.mk (Below.refl w.heap.size w)
  have H : (if (l0.length : Int) = (l1.length : Int) then (laws_eqMarkS.l0 k l0 l1 0) else (some false)) = some r := h
  clear h
  by_cases c3 : (l0.length : Int) = (l1.length : Int)
  · rw [if_pos c3] at H
    have c3b0 : ((l0.length : Int) == (l1.length : Int)) = true := beq_iff_eq.mpr c3
    have c3b1 : ((l0.length : Int) != (l1.length : Int)) = false := bne_eq_false_iff_eq.mpr c3
    have c3b2 : (l0.length == l1.length) = true := by first | simpa using c3 | (simp at c3 ⊢; omega)
    clear c3
    have H' := Aside0.mk H
    clear H
    go_enter Try.func10, Try.ntmps10
    go_wp2
    go_loopg [5] k (fun kq v5 w' => ∃ (x5_1 : Int), v5 = .int .i64 x5_1 ∧ Aside0 (laws_eqMarkS.l0 kq l0 l1 x5_1 = some r) ∧ Aside0 (kq ≤ k) ∧ Aside0 (Below w.heap.size w w'))
    case atStart => exact ⟨(0), qf, H', ⟨Nat.le_refl _⟩, ⟨qB⟩⟩
    case round =>
      clear H'
      try clear c1
      try clear p2
      try clear c3
      try clear c3b0
      try clear c3b1
      try clear c3b2
      obtain ⟨x5_1, rfl, HA, HK1, HB⟩ := hrel
      cases gk with
      | zero => exact absurd HA.out (by simp [laws_eqMarkS.l0])
      | succ k1 =>
        have H := HA.out
        clear HA
        simp only [laws_eqMarkS.l0] at H
        by_cases c4 : x5_1 < (l0.length : Int)
        · rw [if_pos c4] at H
          have c4b0 : decide (x5_1 < (l0.length : Int)) = true := decide_eq_true c4
          clear c4
          by_cases c5 : 0 ≤ x5_1
          · rw [if_pos c5] at H
            have c5b0 : decide (0 ≤ x5_1) = true := decide_eq_true c5
            clear c5
            by_cases c6 : x5_1 < (l1.length : Int)
            · rw [if_pos c6] at H
              have c6b0 : decide (x5_1 < (l1.length : Int)) = true := decide_eq_true c6
              clear c6
              replace H := qbd H
              obtain ⟨t372, A7, H⟩ := H
              try dsimp only at H
              by_cases c8 : t372 = true
              · subst c8
                have H1 : (laws_eqMarkS.l0 k1 l0 l1 (wrap64 (x5_1 + 1))) = some r := by rw [if_pos rfl] at H; exact H
                clear H
                have H := H1
                clear H1
                have H' := Aside0.mk H
                clear H
                try go_wp2
                replace HB := Aside0.mk (below_drew1 HB.out)
                have p370 : 0 ≤ (x5_1 : Int) := qo
                have q370 : x5_1 < (l0.length : Int) := qo
                obtain ⟨ad370, e370, hx370_0, hx370_1, hx370_2⟩ := at_T45 HR0.out x5_1 p370 q370
                have hw370_2 := hx370_2
                have hw370_1 := hx370_1
                have hw370_0 := hx370_0
                cases e370
                replace hx370_0 := (HB.out.cell (World.block_lt_of_cell? w _ hx370_0)).trans hx370_0
                replace hx370_1 := (HB.out.cell (World.block_lt_of_cell? w _ hx370_1)).trans hx370_1
                replace hx370_2 := (HB.out.cell (World.block_lt_of_cell? w _ hx370_2)).trans hx370_2
                replace p370 := eq_true p370
                replace q370 := eq_true q370
                have p371 : 0 ≤ (x5_1 : Int) := qo
                have q371 : x5_1 < (l1.length : Int) := qo
                obtain ⟨ad371, e371, hx371_0, hx371_1, hx371_2⟩ := at_T45 HR1.out x5_1 p371 q371
                have hw371_2 := hx371_2
                have hw371_1 := hx371_1
                have hw371_0 := hx371_0
                cases e371
                replace hx371_0 := (HB.out.cell (World.block_lt_of_cell? w _ hx371_0)).trans hx371_0
                replace hx371_1 := (HB.out.cell (World.block_lt_of_cell? w _ hx371_1)).trans hx371_1
                replace hx371_2 := (HB.out.cell (World.block_lt_of_cell? w _ hx371_2)).trans hx371_2
                replace p371 := eq_true p371
                replace q371 := eq_true q371
                refine start_ (n := 10) (S := fun w' => w'.cell? (ad370.add ((x5_1).toNat * 3)) = some (.int .i64 ((rd_T45 l0 x5_1).f0.f0)) ∧ w'.cell? ⟨(ad370.add ((x5_1).toNat * 3)).block, (ad370.add ((x5_1).toNat * 3)).off + 1, none⟩ = some (.int .i64 ((rd_T45 l0 x5_1).f0.f1)) ∧ w'.cell? ⟨(ad370.add ((x5_1).toNat * 3)).block, (ad370.add ((x5_1).toNat * 3)).off + 2, none⟩ = some (.int .i64 ((rd_T45 l0 x5_1).f1)) ∧ w'.cell? (ad371.add ((x5_1).toNat * 3)) = some (.int .i64 ((rd_T45 l1 x5_1).f0.f0)) ∧ w'.cell? ⟨(ad371.add ((x5_1).toNat * 3)).block, (ad371.add ((x5_1).toNat * 3)).off + 1, none⟩ = some (.int .i64 ((rd_T45 l1 x5_1).f0.f1)) ∧ w'.cell? ⟨(ad371.add ((x5_1).toNat * 3)).block, (ad371.add ((x5_1).toNat * 3)).off + 2, none⟩ = some (.int .i64 ((rd_T45 l1 x5_1).f1))) (ds := []) #[false, false, false, false, false, false, false, false, false, false] (by kernel_rfl) rfl rfl ⟨((HB.out.cell (World.block_lt_of_cell? w _ hw370_0)).trans hw370_0), ((HB.out.cell (World.block_lt_of_cell? w _ hw370_1)).trans hw370_1), ((HB.out.cell (World.block_lt_of_cell? w _ hw370_2)).trans hw370_2), ((HB.out.cell (World.block_lt_of_cell? w _ hw371_0)).trans hw371_0), ((HB.out.cell (World.block_lt_of_cell? w _ hw371_1)).trans hw371_1), ((HB.out.cell (World.block_lt_of_cell? w _ hw371_2)).trans hw371_2)⟩ (fun hHeld => ?_); refine with_tabW laws_eqMarkS.tab6 laws_eqMarkS.bits6 (fun HT_ HW_ => ?_)
                generalize wr.drew = w9 at HB hx370_0 hx370_1 hx370_2 hx371_0 hx371_1 hx371_2 hHeld ⊢
                refine pure_ (i := 0) (N := some 17) (v := ?_) (a' := ?_) #[true, false, false, false, false, false, false, false, false, false] rfl rfl (any_of HT_.out (by kernel_rfl)) (fun _ _ _ h => h) (Or.inl ⟨by rfl, ?_⟩) ?_ ?_
                rotate_left
                · intro w'
                  go_simp
                  with_reducible rfl
                rotate_left
                · simp only [Act.put, List.setIfInBounds_toArray, List.set_cons_zero, List.set_cons_succ, i64_w, i32_w]
                  rfl
                refine pure_ (i := 1) (N := some 18) (v := ?_) (a' := ?_) #[true, true, false, false, false, false, false, false, false, false] rfl rfl (any_of HT_.out (by kernel_rfl)) (fun _ _ _ h => h) (Or.inl ⟨by rfl, ?_⟩) ?_ ?_
                rotate_left
                · intro w'
                  go_simp
                  with_reducible rfl
                rotate_left
                · simp only [Act.put, List.setIfInBounds_toArray, List.set_cons_zero, List.set_cons_succ, i64_w, i32_w]
                  rfl
                refine pure_ (i := 2) (N := some 19) (v := ?_) (a' := ?_) #[true, true, true, false, false, false, false, false, false, false] rfl rfl (any_of HT_.out (by kernel_rfl)) (fun _ _ _ h => h) (Or.inl ⟨by rfl, ?_⟩) ?_ ?_
                rotate_left
                · intro w'
                  go_simp
                  with_reducible rfl
                rotate_left
                · simp only [Act.put, List.setIfInBounds_toArray, List.set_cons_zero, List.set_cons_succ, i64_w, i32_w]
                  rfl
                refine pure_ (i := 4) (N := some 21) (v := ?_) (a' := ?_) #[true, true, true, false, true, false, false, false, false, false] rfl rfl (any_of HT_.out (by kernel_rfl)) (fun _ _ _ h => h) (Or.inl ⟨by rfl, ?_⟩) ?_ ?_
                rotate_left
                · intro w'
                  go_simp
                  with_reducible rfl
                rotate_left
                · simp only [Act.put, List.setIfInBounds_toArray, List.set_cons_zero, List.set_cons_succ, i64_w, i32_w]
                  rfl
                refine pure_ (i := 5) (N := some 22) (v := ?_) (a' := ?_) #[true, true, true, false, true, true, false, false, false, false] rfl rfl (any_of HT_.out (by kernel_rfl)) (fun _ _ _ h => h) (Or.inl ⟨by rfl, ?_⟩) ?_ ?_
                rotate_left
                · intro w'
                  go_simp
                  with_reducible rfl
                rotate_left
                · simp only [Act.put, List.setIfInBounds_toArray, List.set_cons_zero, List.set_cons_succ, i64_w, i32_w]
                  rfl
                refine pure_ (i := 6) (N := some 23) (v := ?_) (a' := ?_) #[true, true, true, false, true, true, true, false, false, false] rfl rfl (any_of HT_.out (by kernel_rfl)) (fun _ _ _ h => h) (Or.inl ⟨by rfl, ?_⟩) ?_ ?_
                rotate_left
                · intro w'
                  go_simp
                  with_reducible rfl
                rotate_left
                · simp only [Act.put, List.setIfInBounds_toArray, List.set_cons_zero, List.set_cons_succ, i64_w, i32_w]
                  rfl
                refine take_ (i := 3) (N := some 20) (v := ?_) (a' := ?_) #[true, true, true, true, true, true, true, false, false, false] rfl rfl (take_ofW HT_.out HW_.out (by kernel_rfl)) (fun _ _ _ h => h) (Or.inl ⟨by rfl, ?_⟩) hHeld ?_ ?_
                rotate_left
                · rintro w' ⟨s0, s1, s2, s3, s4, s5⟩
                  go_simp
                  with_reducible rfl
                rotate_left
                · simp only [Act.put, List.setIfInBounds_toArray, List.set_cons_zero, List.set_cons_succ, i64_w, i32_w]
                  rfl
                refine take_ (i := 7) (N := some 24) (v := ?_) (a' := ?_) #[true, true, true, true, true, true, true, true, false, false] rfl rfl (take_ofW HT_.out HW_.out (by kernel_rfl)) (fun _ _ _ h => h) (Or.inl ⟨by rfl, ?_⟩) hHeld ?_ ?_
                rotate_left
                · rintro w' ⟨s0, s1, s2, s3, s4, s5⟩
                  go_simp
                  with_reducible rfl
                rotate_left
                · simp only [Act.put, List.setIfInBounds_toArray, List.set_cons_zero, List.set_cons_succ, i64_w, i32_w]
                  rfl
                refine one_ (i := 8) (N := some 25) #[true, true, true, true, true, true, true, true, true, false] rfl rfl (one_of HT_.out (by kernel_rfl)) (by decide) (fun K hK => ?_)
                refine qgo Try.func22 #[.agg #[.int .i64 ((rd_T45 l0 x5_1).f0.f0), .int .i64 ((rd_T45 l0 x5_1).f0.f1), .int .i64 ((rd_T45 l0 x5_1).f1)], .agg #[.int .i64 ((rd_T45 l1 x5_1).f0.f0), .int .i64 ((rd_T45 l1 x5_1).f0.f1), .int .i64 ((rd_T45 l1 x5_1).f1)]] ?_
                with_reducible refine (laws_eqMark.calls ((rd_T45 l0 x5_1).f0.f0) ((rd_T45 l0 x5_1).f0.f1) ((rd_T45 l0 x5_1).f1) ((rd_T45 l1 x5_1).f0.f0) ((rd_T45 l1 x5_1).f0.f1) ((rd_T45 l1 x5_1).f1) true _ A7.out).mono ?_
                rintro e w10 ⟨rfl, hb⟩
                refine ⟨_, rfl, ?_⟩
                replace HB := qbs HB hb
                (try clear hb)
                (try clear hb2)
                (try clear hk)
                (try clear hi)
                refine hK.out _ _ ⟨((HB.out.cell (World.block_lt_of_cell? w _ hw370_0)).trans hw370_0), ((HB.out.cell (World.block_lt_of_cell? w _ hw370_1)).trans hw370_1), ((HB.out.cell (World.block_lt_of_cell? w _ hw370_2)).trans hw370_2), ((HB.out.cell (World.block_lt_of_cell? w _ hw371_0)).trans hw371_0), ((HB.out.cell (World.block_lt_of_cell? w _ hw371_1)).trans hw371_1), ((HB.out.cell (World.block_lt_of_cell? w _ hw371_2)).trans hw371_2)⟩ (fun hHeld => ?_)
                clear hK K
                refine norm_ (a' := ?_) ?_ ?_
                rotate_left
                · show Act.put _ (some 25) _ = _
                  simp only [Act.put, List.setIfInBounds_toArray, List.set_cons_zero, List.set_cons_succ, i64_w, i32_w]
                  rfl
                refine pure_ (i := 9) (N := some 26) (v := ?_) (a' := ?_) #[true, true, true, true, true, true, true, true, true, true] rfl rfl (any_of HT_.out (by kernel_rfl)) (fun _ _ _ h => h) (Or.inl ⟨by rfl, ?_⟩) ?_ ?_
                rotate_left
                · intro w'
                  go_simp
                  with_reducible rfl
                rotate_left
                · simp only [Act.put, List.setIfInBounds_toArray, List.set_cons_zero, List.set_cons_succ, i64_w, i32_w]
                  rfl
                refine done_ (done_of HT_.out (by kernel_rfl)) ?_
                try go_wp2
                go_roundg k1
                case measure => have := HK1.out; omega
                case rel => exact ⟨(wrap64 (x5_1 + 1)), qf, H', ⟨by have := HK1.out; omega⟩, ⟨qB⟩⟩
              · replace c8 := Bool.eq_false_iff.mpr c8
                subst c8
                have H1 : (some false) = some r := by rw [if_neg (show ¬ (false = true) by decide)] at H; exact H
                clear H
                have H := H1
                clear H1
                obtain rfl := Option.some.inj H
                try go_wp2
                replace HB := Aside0.mk (below_drew1 HB.out)
                have p370 : 0 ≤ (x5_1 : Int) := qo
                have q370 : x5_1 < (l0.length : Int) := qo
                obtain ⟨ad370, e370, hx370_0, hx370_1, hx370_2⟩ := at_T45 HR0.out x5_1 p370 q370
                have hw370_2 := hx370_2
                have hw370_1 := hx370_1
                have hw370_0 := hx370_0
                cases e370
                replace hx370_0 := (HB.out.cell (World.block_lt_of_cell? w _ hx370_0)).trans hx370_0
                replace hx370_1 := (HB.out.cell (World.block_lt_of_cell? w _ hx370_1)).trans hx370_1
                replace hx370_2 := (HB.out.cell (World.block_lt_of_cell? w _ hx370_2)).trans hx370_2
                replace p370 := eq_true p370
                replace q370 := eq_true q370
                have p371 : 0 ≤ (x5_1 : Int) := qo
                have q371 : x5_1 < (l1.length : Int) := qo
                obtain ⟨ad371, e371, hx371_0, hx371_1, hx371_2⟩ := at_T45 HR1.out x5_1 p371 q371
                have hw371_2 := hx371_2
                have hw371_1 := hx371_1
                have hw371_0 := hx371_0
                cases e371
                replace hx371_0 := (HB.out.cell (World.block_lt_of_cell? w _ hx371_0)).trans hx371_0
                replace hx371_1 := (HB.out.cell (World.block_lt_of_cell? w _ hx371_1)).trans hx371_1
                replace hx371_2 := (HB.out.cell (World.block_lt_of_cell? w _ hx371_2)).trans hx371_2
                replace p371 := eq_true p371
                replace q371 := eq_true q371
                refine start_ (n := 10) (S := fun w' => w'.cell? (ad370.add ((x5_1).toNat * 3)) = some (.int .i64 ((rd_T45 l0 x5_1).f0.f0)) ∧ w'.cell? ⟨(ad370.add ((x5_1).toNat * 3)).block, (ad370.add ((x5_1).toNat * 3)).off + 1, none⟩ = some (.int .i64 ((rd_T45 l0 x5_1).f0.f1)) ∧ w'.cell? ⟨(ad370.add ((x5_1).toNat * 3)).block, (ad370.add ((x5_1).toNat * 3)).off + 2, none⟩ = some (.int .i64 ((rd_T45 l0 x5_1).f1)) ∧ w'.cell? (ad371.add ((x5_1).toNat * 3)) = some (.int .i64 ((rd_T45 l1 x5_1).f0.f0)) ∧ w'.cell? ⟨(ad371.add ((x5_1).toNat * 3)).block, (ad371.add ((x5_1).toNat * 3)).off + 1, none⟩ = some (.int .i64 ((rd_T45 l1 x5_1).f0.f1)) ∧ w'.cell? ⟨(ad371.add ((x5_1).toNat * 3)).block, (ad371.add ((x5_1).toNat * 3)).off + 2, none⟩ = some (.int .i64 ((rd_T45 l1 x5_1).f1))) (ds := []) #[false, false, false, false, false, false, false, false, false, false] (by kernel_rfl) rfl rfl ⟨((HB.out.cell (World.block_lt_of_cell? w _ hw370_0)).trans hw370_0), ((HB.out.cell (World.block_lt_of_cell? w _ hw370_1)).trans hw370_1), ((HB.out.cell (World.block_lt_of_cell? w _ hw370_2)).trans hw370_2), ((HB.out.cell (World.block_lt_of_cell? w _ hw371_0)).trans hw371_0), ((HB.out.cell (World.block_lt_of_cell? w _ hw371_1)).trans hw371_1), ((HB.out.cell (World.block_lt_of_cell? w _ hw371_2)).trans hw371_2)⟩ (fun hHeld => ?_); refine with_tabW laws_eqMarkS.tab6 laws_eqMarkS.bits6 (fun HT_ HW_ => ?_)
                generalize wr.drew = w11 at HB hx370_0 hx370_1 hx370_2 hx371_0 hx371_1 hx371_2 hHeld ⊢
                refine pure_ (i := 0) (N := some 17) (v := ?_) (a' := ?_) #[true, false, false, false, false, false, false, false, false, false] rfl rfl (any_of HT_.out (by kernel_rfl)) (fun _ _ _ h => h) (Or.inl ⟨by rfl, ?_⟩) ?_ ?_
                rotate_left
                · intro w'
                  go_simp
                  with_reducible rfl
                rotate_left
                · simp only [Act.put, List.setIfInBounds_toArray, List.set_cons_zero, List.set_cons_succ, i64_w, i32_w]
                  rfl
                refine pure_ (i := 1) (N := some 18) (v := ?_) (a' := ?_) #[true, true, false, false, false, false, false, false, false, false] rfl rfl (any_of HT_.out (by kernel_rfl)) (fun _ _ _ h => h) (Or.inl ⟨by rfl, ?_⟩) ?_ ?_
                rotate_left
                · intro w'
                  go_simp
                  with_reducible rfl
                rotate_left
                · simp only [Act.put, List.setIfInBounds_toArray, List.set_cons_zero, List.set_cons_succ, i64_w, i32_w]
                  rfl
                refine pure_ (i := 2) (N := some 19) (v := ?_) (a' := ?_) #[true, true, true, false, false, false, false, false, false, false] rfl rfl (any_of HT_.out (by kernel_rfl)) (fun _ _ _ h => h) (Or.inl ⟨by rfl, ?_⟩) ?_ ?_
                rotate_left
                · intro w'
                  go_simp
                  with_reducible rfl
                rotate_left
                · simp only [Act.put, List.setIfInBounds_toArray, List.set_cons_zero, List.set_cons_succ, i64_w, i32_w]
                  rfl
                refine pure_ (i := 4) (N := some 21) (v := ?_) (a' := ?_) #[true, true, true, false, true, false, false, false, false, false] rfl rfl (any_of HT_.out (by kernel_rfl)) (fun _ _ _ h => h) (Or.inl ⟨by rfl, ?_⟩) ?_ ?_
                rotate_left
                · intro w'
                  go_simp
                  with_reducible rfl
                rotate_left
                · simp only [Act.put, List.setIfInBounds_toArray, List.set_cons_zero, List.set_cons_succ, i64_w, i32_w]
                  rfl
                refine pure_ (i := 5) (N := some 22) (v := ?_) (a' := ?_) #[true, true, true, false, true, true, false, false, false, false] rfl rfl (any_of HT_.out (by kernel_rfl)) (fun _ _ _ h => h) (Or.inl ⟨by rfl, ?_⟩) ?_ ?_
                rotate_left
                · intro w'
                  go_simp
                  with_reducible rfl
                rotate_left
                · simp only [Act.put, List.setIfInBounds_toArray, List.set_cons_zero, List.set_cons_succ, i64_w, i32_w]
                  rfl
                refine pure_ (i := 6) (N := some 23) (v := ?_) (a' := ?_) #[true, true, true, false, true, true, true, false, false, false] rfl rfl (any_of HT_.out (by kernel_rfl)) (fun _ _ _ h => h) (Or.inl ⟨by rfl, ?_⟩) ?_ ?_
                rotate_left
                · intro w'
                  go_simp
                  with_reducible rfl
                rotate_left
                · simp only [Act.put, List.setIfInBounds_toArray, List.set_cons_zero, List.set_cons_succ, i64_w, i32_w]
                  rfl
                refine take_ (i := 3) (N := some 20) (v := ?_) (a' := ?_) #[true, true, true, true, true, true, true, false, false, false] rfl rfl (take_ofW HT_.out HW_.out (by kernel_rfl)) (fun _ _ _ h => h) (Or.inl ⟨by rfl, ?_⟩) hHeld ?_ ?_
                rotate_left
                · rintro w' ⟨s0, s1, s2, s3, s4, s5⟩
                  go_simp
                  with_reducible rfl
                rotate_left
                · simp only [Act.put, List.setIfInBounds_toArray, List.set_cons_zero, List.set_cons_succ, i64_w, i32_w]
                  rfl
                refine take_ (i := 7) (N := some 24) (v := ?_) (a' := ?_) #[true, true, true, true, true, true, true, true, false, false] rfl rfl (take_ofW HT_.out HW_.out (by kernel_rfl)) (fun _ _ _ h => h) (Or.inl ⟨by rfl, ?_⟩) hHeld ?_ ?_
                rotate_left
                · rintro w' ⟨s0, s1, s2, s3, s4, s5⟩
                  go_simp
                  with_reducible rfl
                rotate_left
                · simp only [Act.put, List.setIfInBounds_toArray, List.set_cons_zero, List.set_cons_succ, i64_w, i32_w]
                  rfl
                refine one_ (i := 8) (N := some 25) #[true, true, true, true, true, true, true, true, true, false] rfl rfl (one_of HT_.out (by kernel_rfl)) (by decide) (fun K hK => ?_)
                refine qgo Try.func22 #[.agg #[.int .i64 ((rd_T45 l0 x5_1).f0.f0), .int .i64 ((rd_T45 l0 x5_1).f0.f1), .int .i64 ((rd_T45 l0 x5_1).f1)], .agg #[.int .i64 ((rd_T45 l1 x5_1).f0.f0), .int .i64 ((rd_T45 l1 x5_1).f0.f1), .int .i64 ((rd_T45 l1 x5_1).f1)]] ?_
                with_reducible refine (laws_eqMark.calls ((rd_T45 l0 x5_1).f0.f0) ((rd_T45 l0 x5_1).f0.f1) ((rd_T45 l0 x5_1).f1) ((rd_T45 l1 x5_1).f0.f0) ((rd_T45 l1 x5_1).f0.f1) ((rd_T45 l1 x5_1).f1) false _ A7.out).mono ?_
                rintro e w12 ⟨rfl, hb⟩
                refine ⟨_, rfl, ?_⟩
                replace HB := qbs HB hb
                (try clear hb)
                (try clear hb2)
                (try clear hk)
                (try clear hi)
                refine hK.out _ _ ⟨((HB.out.cell (World.block_lt_of_cell? w _ hw370_0)).trans hw370_0), ((HB.out.cell (World.block_lt_of_cell? w _ hw370_1)).trans hw370_1), ((HB.out.cell (World.block_lt_of_cell? w _ hw370_2)).trans hw370_2), ((HB.out.cell (World.block_lt_of_cell? w _ hw371_0)).trans hw371_0), ((HB.out.cell (World.block_lt_of_cell? w _ hw371_1)).trans hw371_1), ((HB.out.cell (World.block_lt_of_cell? w _ hw371_2)).trans hw371_2)⟩ (fun hHeld => ?_)
                clear hK K
                refine norm_ (a' := ?_) ?_ ?_
                rotate_left
                · show Act.put _ (some 25) _ = _
                  simp only [Act.put, List.setIfInBounds_toArray, List.set_cons_zero, List.set_cons_succ, i64_w, i32_w]
                  rfl
                refine pure_ (i := 9) (N := some 26) (v := ?_) (a' := ?_) #[true, true, true, true, true, true, true, true, true, true] rfl rfl (any_of HT_.out (by kernel_rfl)) (fun _ _ _ h => h) (Or.inl ⟨by rfl, ?_⟩) ?_ ?_
                rotate_left
                · intro w'
                  go_simp
                  with_reducible rfl
                rotate_left
                · simp only [Act.put, List.setIfInBounds_toArray, List.set_cons_zero, List.set_cons_succ, i64_w, i32_w]
                  rfl
                refine done_ (done_of HT_.out (by kernel_rfl)) ?_
                try go_wp2
                go_ret
                exact ⟨qF, qB⟩
            · rw [if_neg c6] at H
              exact absurd H (by simp)
          · rw [if_neg c5] at H
            exact absurd H (by simp)
        · rw [if_neg c4] at H
          have c4b0 : decide (x5_1 < (l0.length : Int)) = false := decide_eq_false c4
          clear c4
          obtain rfl := Option.some.inj H
          go_wp2
          go_ret
          exact ⟨qF, qB⟩
  · rw [if_neg c3] at H
    have c3b0 : ((l0.length : Int) == (l1.length : Int)) = false := beq_eq_false_iff_ne.mpr c3
    have c3b1 : ((l0.length : Int) != (l1.length : Int)) = true := bne_iff_ne.mpr c3
    have c3b2 : (l0.length == l1.length) = false := by first | simpa using c3 | (simp at c3 ⊢; omega)
    obtain rfl := Option.some.inj H
    go_enter Try.func10, Try.ntmps10
    go_wp2
    go_ret
    exact ⟨qF, qB⟩

end Go.Proofs.Ytoajccbmikmjdaa.X

/-
  The row of FnExactFittingLattices.
-/
import Derived.Test.YtoajccbmikmjdaaRows
import Derived.Test.YtoajccbmikmjdaaYLawF
import Derived.Test.YtoajccbmikmjdaaXOpen
import Derived.WalkKit
import Derived.ProofKit
import Derived.OpenShut
import Derived.ShutString
import Derived.ChangeOld
import Derived.Below
import Derived.SizedLaws
namespace Go.Proofs.Ytoajccbmikmjdaa.fnExactFittingLattices
open Go.ChangeShapes Go.WideShapes Go.ChangeAt Go.RowKit
open Go.ChangeMaps (open_string shut_string)
open Go.Proofs.YtoajccbmikmjdaaX Go.Proofs.Ytoajccbmikmjdaa.X Go.Proofs.YtoajccbmikmjdaaW.PrintWords
set_option linter.unusedVariables false
theorem own : ownKnob Try.prog.godebug = none := by kernel_rfl
theorem laidOut : laidOutB Try.prog = true := by kernel_rfl
instance : Inhabited S49 := ⟨z49⟩
theorem opens47 {H : Type} {enc : TypeId × Value → H} {w : World} {base : Nat} {spare : Nat → Bool} {held : Bool} : ∃ good, Opens enc Try.prog w base spare held 47 k47 good :=
  ⟨_, opens_iso (fun x => ⟨x.1, x.2⟩) (fun _ => rfl) (opens_pair Try.underlying47 (opens_int Try.underlying2) (opens_int Try.underlying2) rfl (by kernel_rfl) (by kernel_rfl))⟩
theorem opens49 {H : Type} {enc : TypeId × Value → H} {w : World} {base : Nat} {spare : Nat → Bool} {held : Bool} : ∃ good, Opens enc Try.prog w base spare held 49 k49 good := by
  obtain ⟨g, h⟩ := opens47 (H := H) (enc := enc) (w := w) (base := base) (spare := spare) (held := held)
  exact ⟨_, opens_iso (fun x => ⟨x.1, x.2⟩) (fun _ => rfl) (opens_pair Try.underlying49 h (opens_int Try.underlying2) rfl (by kernel_rfl) (by kernel_rfl))⟩
set_option maxRecDepth 100000 in
theorem lifted (os : Os) (started : os.Started) (H : Type) (enc : TypeId × Value → H) :
    ReturnsInHanded {} Try.checked os 4 .any (Rows.fnExactFittingLatticesSpec.pre6 enc Try.prog Try.f4 Rows.fnExactFittingLatticesRow.domain false) (Rows.fnExactFittingLatticesSpec.post enc Try.prog Try.f4 false true false false) := by
  refine returnsInHanded_of_change_sized (C := Try.checked) own started (by kernel_rfl) Try.func4
    (ChangeSpec.witness6 (enc := enc) (C := Try.checked) false ⟨#[], #[.slice none 0 0, .int .i64 0], []⟩ 8 (by kernel_rfl) (by kernel_rfl) (by kernel_rfl) (by kernel_rfl)) ?_
  intro W base args ds gs before hval0 hW hcnd hsz0 _
  have hsz : (DataW.weightsEach Try.prog (Try.f4.params.toList ++ Rows.fnExactFittingLatticesSpec.plain.varTypes Try.prog) (ds ++ gs)).all (· ≤ reachBytes) = true := hsz0
  have hval : ∀ (j : Nat) t v, Try.f4.params[j]? = some t → args[j]? = some v → Value.okWide Try.prog W .any base t v := hval0
  have hW' := hW
  obtain ⟨p, q, hA0, hV, rfl, hfz, hnd⟩ := hW
  have hA : DataW.TrodAll enc Try.prog W 0 (fun _ => true) true Try.f4.params.toList args.toList ds p := hA0
  rw [Try.params4] at hA hval hsz
  obtain ⟨v0, vs0, d0, ds0, p0, q0, hargs, rfl, rfl, h0, r0⟩ := trodAll_cons hA
  obtain ⟨v1, vs1, d1, ds1, p1, q1, rfl, rfl, rfl, h1, r1⟩ := trodAll_cons r0
  obtain ⟨rfl, rfl, rfl⟩ := trodAll_nil r1
  obtain rfl : args = #[v0, v1] := by cases args; simp_all
  obtain ⟨rfl, rfl⟩ := trodVars_none hV
  obtain ⟨a0, len0, cap0, rfl⟩ := okWide_slice Try.underlying22 (hval 0 22 v0 rfl rfl)
  obtain ⟨a1, rfl, rfl, rfl, w1⟩ := open_int Try.underlying2 (hval 1 2 v1 rfl rfl) h1
  have k0 := h0
  have lt0 : ∀ x ∈ p0, x.block < W.heap.size := by obtain ⟨m, hm⟩ := k0; exact DataW.trod_lt m _ _ _ hm
  obtain ⟨good, ho⟩ := opens49 (H := H) (enc := enc) (w := W) (base := 0) (spare := fun _ => true) (held := true)
  obtain ⟨hlc, hD, hC⟩ := open_C Try.underlying22 ho (by kernel_rfl) k0
  have hlen : len0 ≤ 1000000000000 ∨ 9000000000000 < len0 → len0 ≤ 9000000000000 := fun _ => by
    rcases hD with h | ⟨D, sp, rfl, hDl⟩
    · omega
    · have z := sized_slice hsz (j := 0) (t := 22) rfl rfl Try.underlying22
      rw [show Try.prog.bytesOf 49 = 24 by kernel_rfl, hDl] at z
      simp only [reachBytes] at z
      omega
  have hlen9 : len0 ≤ 9000000000000 := by omega
  obtain ⟨xs, hxl, hK, _⟩ := hC (by omega)
  subst hxl
  obtain ⟨k, hk⟩ := Y.fitting_true xs a1 hlen9
  clear hA0 hval0 hsz0 hsz
  refine (laws_FnExactFittingLattices.calls k a0 cap0 xs a1 true W hK hlc hk).mono fun e W' ⟨he, bel⟩ => ?_
  subst he
  exact ⟨_, rfl, _, _, _, [], _, [], hW', trodAll_mk1 (shut_bool Try.underlying4 _), (trodAll_cons_mk (Below.trod laidOut (by kernel_rfl) (of_decide_eq_true (by kernel_rfl)) k0 bel lt0) (trodAll_cons_mk (shut_int Try.underlying2 w1) trodAll_mk0)), rfl, bel.frame _, fun h => by cases h⟩
theorem over : Rows.fnExactFittingLatticesRow.holds Try.pinned (OpenSpec.ofChange Rows.fnExactFittingLatticesSpec) :=
  OpenClaim.holds_of_wide 4 Try.f4 rfl rfl rfl rfl rfl rfl rfl ⟨rfl, rfl, rfl, rfl, rfl⟩ rfl rfl rfl rfl rfl (by kernel_rfl) Try.func4 (by kernel_rfl)
    (of_decide_eq_true (by kernel_rfl)) (by unfold Func.isWrapper; first | (rw [if_pos (by decide +kernel)]; kernel_rfl) | (rw [if_neg (by decide +kernel)]; exact ⟨rfl, rfl⟩))
    (fun os started H enc _ => lifted os started H enc)
theorem proved : Rows.FnExactFittingLatticesSaid := over
#print axioms proved
end Go.Proofs.Ytoajccbmikmjdaa.fnExactFittingLattices
namespace Go.Proofs.Ytoajccbmikmjdaa
/-- The row, under a short name, for the claim. -/
theorem fnExactFittingLattices_holds : Rows.FnExactFittingLatticesSaid := fnExactFittingLattices.proved
end Go.Proofs.Ytoajccbmikmjdaa

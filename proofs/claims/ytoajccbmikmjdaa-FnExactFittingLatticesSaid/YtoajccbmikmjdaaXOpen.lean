import Derived.Test.YtoajccbmikmjdaaXLib
import Derived.Deep.Slices
import Derived.ChangeSame
import Derived.SizedLaws
set_option linter.unusedVariables false
namespace Go.Proofs.YtoajccbmikmjdaaX
open Go.RowKit Go.ChangeShapes Go.WideShapes Go.Deep Go.Proofs.YtoajccbmikmjdaaW.PrintWords

section
variable {H : Type} {enc : TypeId × Value → H} {P : Program} {w : World} {base : Nat} {spare : Nat → Bool} {held : Bool} {α β : Type}
/-- Whatever is read of type t is of the kind d, and good. -/
def Opens (enc : TypeId × Value → H) (P : Program) (w : World) (base : Nat) (spare : Nat → Bool) (held : Bool) (t : TypeId) (d : Kd α) (good : α → Prop) : Prop :=
  ∀ (fuel : Nat) (cs : List Value) (x : DataW H × List MemPlace), DataW.trod enc P w base spare held fuel t cs = some x → ∃ a, d.K w a cs ∧ good a
theorem opens_int {t : TypeId} {k : IntKind} (ht : P.underlying t = some (.int k)) : Opens enc P w base spare held t (Kd.int k) (fun n => (Lit.int k n).wf = true) := by
  intro fuel cs x h
  obtain ⟨n, rfl, _, hw⟩ := DataW.trod_int ht h
  exact ⟨n, rfl, hw⟩
theorem opens_pair {t : TypeId} {f0 f1 : Field} {a : Kd α} {b : Kd β} {ga : α → Prop} {gb : β → Prop} (ht : P.underlying t = some (.struct #[f0, f1])) (h0 : Opens enc P w base spare held f0.type a ga) (h1 : Opens enc P w base spare held f1.type b gb)
    (o0 : f0.offset = 0) (o1 : f1.offset = P.cellsOf f0.type) (hc : P.cellsOf t = P.cellsOf f0.type + P.cellsOf f1.type) : Opens enc P w base spare held t (Kd.pair a b) (fun x => ga x.1 ∧ gb x.2) := by
  intro fuel cs x h
  obtain ⟨y0, y1, n, _, hl, e0, e1⟩ := trod_struct2 ht h
  obtain ⟨u, hu, gu⟩ := h0 _ _ _ e0
  obtain ⟨v, hv, gv⟩ := h1 _ _ _ e1
  refine ⟨(u, v), ⟨_, _, ?_, hu, hv⟩, gu, gv⟩
  rw [o0, o1, List.drop_zero, List.take_of_length_le (l := cs.drop _) (by rw [List.length_drop]; omega), List.take_append_drop]
theorem opens_iso {t : TypeId} {d : Kd α} {f : β → α} {good : α → Prop} (g : α → β) (hfg : ∀ a, f (g a) = a) (h : Opens enc P w base spare held t d good) : Opens enc P w base spare held t (Kd.iso d f) (fun x => good (f x)) := by
  intro fuel cs x hx
  obtain ⟨a, ha, hg⟩ := h _ _ _ hx
  refine ⟨g a, ?_, ?_⟩
  · show d.K w (f (g a)) cs
    rw [hfg]; exact ha
  · show good (f (g a))
    rw [hfg]; exact hg
theorem open_C [Inhabited α] {t e : TypeId} {d : Kd α} {good : α → Prop} (ht : P.underlying t = some (.slice e)) (hd : Opens enc P w base spare held e d good) (hsz : P.cellsOf e = d.sz) {A : Option Addr} {len cap : Nat} {dd : DataW H} {ps : List MemPlace}
    (h : DataW.Trod enc P w base spare held t (.slice A len cap) dd ps) : len ≤ cap ∧ (len = 0 ∨ ∃ D sp, dd = .slice D sp ∧ D.length = len) ∧ (len ≤ 9223372036854775807 → ∃ xs : List α, xs.length = len ∧ d.C w A len xs ∧ ∀ x ∈ xs, good x) := by
  obtain ⟨fuel, hf⟩ := h
  rcases open_slice ht hf with ⟨hcs, _⟩ | ⟨a, l, c, m, n, D, Pl, hcs, hb, hl, hm, hmm, hx, hel⟩
  · simp [Value.cells] at hcs
    obtain ⟨rfl, rfl, rfl⟩ := hcs
    exact ⟨Nat.le_refl _, .inl rfl, fun _ => ⟨[], rfl, ⟨rfl, by omega, fun hp => by omega⟩, fun x hx => by simp at hx⟩⟩
  · simp [Value.cells] at hcs
    obtain ⟨rfl, rfl, rfl⟩ := hcs
    obtain ⟨hx, _⟩ := Prod.mk.inj hx
    refine ⟨hl, .inr ⟨_, _, hx, by simp⟩, fun hlen => ?_⟩
    have hlm : len ≤ m := by rw [hmm]; split <;> omega
    obtain ⟨F, hF⟩ := choose_lt (n := len) (p := fun i (x : α) => good x ∧ ∃ cs', w.cells? base (a.add (i * P.cellsOf e)) (P.cellsOf e) = some cs' ∧ d.K w x cs') (fun i hi => by
      obtain ⟨cs', h1, h2⟩ := hel i (by omega)
      obtain ⟨x, hk, hg⟩ := hd _ _ _ h2
      exact ⟨x, hg, cs', h1, hk⟩)
    refine ⟨(List.range len).map F, by simp, ⟨by simp, hlen, fun _ => ⟨a, rfl, fun j p hj => ?_⟩⟩, fun x hx => ?_⟩
    · rw [List.getElem?_map] at hj
      have hjl : j < len := by
        rcases Nat.lt_or_ge j len with h | h
        · exact h
        · rw [List.getElem?_eq_none (by simpa using h)] at hj
          cases hj
      rw [List.getElem?_range hjl] at hj
      injection hj with hj
      subst hj
      obtain ⟨_, cs', h1, hk⟩ := hF j hjl
      obtain ⟨_, hlen', hcell⟩ := World.cells?_some h1
      refine ⟨cs', by rw [hlen', hsz], hk, fun i u hu => ?_⟩
      have hi : i < cs'.length := (List.getElem?_eq_some_iff.1 hu).1
      have := hcell i (by omega)
      rw [Go.Deep.add_add, hsz] at this
      rw [this, hu]
    · obtain ⟨i, hi, rfl⟩ := List.mem_map.1 hx
      exact (hF i (List.mem_range.1 hi)).1
end
end Go.Proofs.YtoajccbmikmjdaaX

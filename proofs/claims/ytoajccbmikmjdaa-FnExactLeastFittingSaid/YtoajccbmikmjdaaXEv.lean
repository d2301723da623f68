import Derived.Test.YtoajccbmikmjdaaXLib
set_option linter.unusedVariables false
namespace Go.Proofs.YtoajccbmikmjdaaX
open Go.RowKit Go.Proofs.YtoajccbmikmjdaaW.PrintWords Go.Proofs.YtoajccbmikmjdaaW.PrintLast Go.Proofs.YtoajccbmikmjdaaW.PrintMore

/-- From some number of rounds on the answer is v. -/
def Evt {β : Type} (f : Nat → Option β) (v : β) : Prop := ∃ K, ∀ k, K ≤ k → f k = some v
namespace Evt
variable {β γ : Type}
theorem pure (v : β) : Evt (fun _ => some v) v := ⟨0, fun _ _ => rfl⟩
theorem congr {f g : Nat → Option β} {v : β} (h : Evt f v) (e : ∀ k, g k = f k) : Evt g v := by
  obtain ⟨K, hK⟩ := h
  exact ⟨K, fun k hk => (e k).trans (hK k hk)⟩
theorem of {f : Nat → Option β} {v : β} (e : ∀ k, f k = some v) : Evt f v := ⟨0, fun k _ => e k⟩
theorem step {f g : Nat → Option β} {v : β} (h : Evt g v) (e : ∀ k, f (k + 1) = g k) : Evt f v := by
  obtain ⟨K, hK⟩ := h
  refine ⟨K + 1, fun k hk => ?_⟩
  obtain ⟨j, rfl⟩ : ∃ j, k = j + 1 := ⟨k - 1, by omega⟩
  exact (e j).trans (hK j (by omega))
theorem bind {f : Nat → Option β} {g : Nat → β → Option γ} {a : β} {v : γ} (h1 : Evt f a) (h2 : Evt (fun k => g k a) v) : Evt (fun k => (f k).bind (g k)) v := by
  obtain ⟨K, hK⟩ := h1
  obtain ⟨L, hL⟩ := h2
  refine ⟨max K L, fun k hk => ?_⟩
  show (f k).bind (g k) = some v
  rw [hK k (by omega)]
  exact hL k (by omega)
theorem bind0 {a : Option β} {g : Nat → β → Option γ} {b : β} {v : γ} (h1 : a = some b) (h2 : Evt (fun k => g k b) v) : Evt (fun k => a.bind (g k)) v := bind (of fun _ => h1) h2
theorem pos {c : Prop} [Decidable c] {f g : Nat → Option β} {v : β} (hc : c) (h : Evt f v) : Evt (fun k => if c then f k else g k) v := h.congr fun k => if_pos hc
theorem neg {c : Prop} [Decidable c] {f g : Nat → Option β} {v : β} (hc : ¬ c) (h : Evt g v) : Evt (fun k => if c then f k else g k) v := h.congr fun k => if_neg hc
theorem ite {c : Prop} [Decidable c] {f g : Nat → Option β} {a b : β} (h1 : c → Evt f a) (h2 : ¬ c → Evt g b) : Evt (fun k => if c then f k else g k) (if c then a else b) := by
  by_cases hc : c
  · rw [if_pos hc]; exact pos hc (h1 hc)
  · rw [if_neg hc]; exact neg hc (h2 hc)
theorem get {f : Nat → Option β} {v : β} (h : Evt f v) : ∃ k, f k = some v := by
  obtain ⟨K, hK⟩ := h
  exact ⟨K, hK K (Nat.le_refl _)⟩
end Evt

theorem w64 {n : Int} (h1 : -9223372036854775808 ≤ n) (h2 : n ≤ 9223372036854775807) : wrap64 n = n := IntWalk.wrap64_in n ⟨h1, h2⟩
theorem tmod_emod_ (a n : Int) : (Int.tmod a n) % n = a % n := by
  rw [Int.tmod_def, Int.sub_emod, Int.mul_emod_right, Int.sub_zero, Int.emod_emod]
theorem mod_emod {a n : Int} (hn : 0 < n) (hb : n ≤ 4294967296) : Int.tmod (wrap64 (Int.tmod a n + n)) n = a % n := by
  have h1 := Int.tmod_lt_of_pos a hn
  have h2 : -n < Int.tmod a n := Int.lt_tmod_of_pos a hn
  rw [w64 (by omega) (by omega)]
  have h3 : a % n = (Int.tmod a n + n) % n := by
    rw [Int.add_emod_right]
    exact (tmod_emod_ a n).symm
  rw [h3, Int.tmod_eq_emod_of_nonneg (by omega)]
theorem mod_emod2 {a n : Int} (hn : 0 < n) (hb : n ≤ 4294967296) : (if Int.tmod a n < 0 then wrap64 (Int.tmod a n + n) else Int.tmod a n) = a % n := by
  have h1 := Int.tmod_lt_of_pos a hn
  have h2 : -n < Int.tmod a n := Int.lt_tmod_of_pos a hn
  have h3 : a % n = (Int.tmod a n) % n := (tmod_emod_ a n).symm
  split
  · rw [w64 (by omega) (by omega), h3, ← Int.add_emod_right, Int.emod_eq_of_lt (by omega) (by omega)]
  · rw [h3, Int.emod_eq_of_lt (by omega) (by omega)]
end Go.Proofs.YtoajccbmikmjdaaX

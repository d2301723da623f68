import Derived.Test.YtoajccbmikmjdaaYLat
set_option linter.unusedVariables false
namespace Go.Proofs.Ytoajccbmikmjdaa.Y
open Go.RowKit Go.Proofs.YtoajccbmikmjdaaX Go.Proofs.Ytoajccbmikmjdaa.X Go.Proofs.YtoajccbmikmjdaaW.PrintWords Go.Proofs.YtoajccbmikmjdaaW.PrintLast Go.Proofs.YtoajccbmikmjdaaW.PrintMore

def rowL (a c : Int) : Int → Nat → List S25
  | _, 0 => []
  | b, m + 1 => ⟨a, b, c⟩ :: rowL a c (b + 1) m
def subL (n : Int) : Int → Nat → List S25
  | _, 0 => []
  | a, m + 1 => (if n % a = 0 then rowL a (n / a) 0 a.toNat else []) ++ subL n (a + 1) m
theorem rowL_len (a c : Int) : ∀ (m : Nat) (b : Int), (rowL a c b m).length = m
  | 0, _ => rfl
  | m + 1, b => by simp [rowL, rowL_len a c m]
theorem rowL_mem (a c : Int) : ∀ (m : Nat) (b : Int) (x : S25), x ∈ rowL a c b m → x.f0 = a ∧ x.f2 = c ∧ b ≤ x.f1 ∧ x.f1 < b + m
  | 0, _, x, h => by simp [rowL] at h
  | m + 1, b, x, h => by
    simp only [rowL, List.mem_cons] at h
    rcases h with rfl | h
    · exact ⟨rfl, rfl, Int.le_refl _, by show b < _; omega⟩
    · have := rowL_mem a c m (b + 1) x h
      exact ⟨this.1, this.2.1, by omega, by omega⟩
theorem subL_ok {n : Int} (h0 : 1 ≤ n) (h1 : n ≤ 64) : ∀ (m : Nat) (a : Int), 1 ≤ a → ∀ x ∈ subL n a m, LatOK x.f0 x.f1 x.f2
  | 0, _, _, x, h => by simp [subL] at h
  | m + 1, a, ha, x, h => by
    simp only [subL, List.mem_append] at h
    rcases h with h | h
    · split at h
      · rename_i hd
        have hm := rowL_mem _ _ _ _ _ h
        have hq : a * (n / a) = n := Int.mul_ediv_cancel_of_emod_eq_zero hd
        have hp : 1 ≤ n / a := by
          by_cases h2 : 1 ≤ n / a
          · exact h2
          · have h3 : a * (n / a) ≤ a * 0 := Int.mul_le_mul_of_nonneg_left (by omega) (by omega)
            omega
        exact ⟨by omega, by omega, by omega, by omega, by rw [hm.1, hm.2.1, hq]; exact h1⟩
      · simp at h
    · exact subL_ok h0 h1 m (a + 1) (by omega) x h

theorem tm {n a : Int} (h0 : 0 ≤ n) : Int.tmod n a = n % a := Int.tmod_eq_emod_of_nonneg h0
theorem td {n a : Int} (h0 : 0 ≤ n) : Int.tdiv n a = n / a := Int.tdiv_eq_ediv_of_nonneg h0
theorem div_bd {n a : Int} (h0 : 1 ≤ n) (h1 : n ≤ 64) (ha : 1 ≤ a) : 0 ≤ n / a ∧ n / a ≤ 64 :=
  ⟨Int.ediv_nonneg (by omega) (by omega), Int.le_trans (Int.ediv_le_self _ (by omega)) h1⟩

section
variable (k : Nat) (n : Int) (acc : List S25) (a b e : Int)
theorem is0_done (h : ¬ a ≤ n) : impl_sublattices.l0 (k + 1) n acc a = some acc := by
  simp only [impl_sublattices.l0]
  rw [if_neg h]
theorem is0_round (h : a ≤ n) : impl_sublattices.l0 (k + 1) n acc a = impl_sublattices.l1 k n acc a a 0 := by
  simp only [impl_sublattices.l0]
  rw [if_pos h]
theorem is1_done (h : ¬ b < e) : impl_sublattices.l1 (k + 1) n acc a e b = impl_sublattices.l0 k n acc (wrap64 (a + 1)) := by
  simp only [impl_sublattices.l1]
  rw [if_neg h]
theorem is1_put (h : b < e) (ha : ¬ a = 0) (hm : Int.tmod n a = 0) (hl : acc.length < 5864062014805) : impl_sublattices.l1 (k + 1) n acc a e b = impl_sublattices.l1 k n (acc ++ [⟨a, b, wrap64 (Int.tdiv n a)⟩]) a e (wrap64 (b + 1)) := by
  simp only [impl_sublattices.l1]
  rw [if_pos h, if_neg ha, if_pos hm, if_pos hl]
theorem is1_skip (h : b < e) (ha : ¬ a = 0) (hm : ¬ Int.tmod n a = 0) : impl_sublattices.l1 (k + 1) n acc a e b = impl_sublattices.l1 k n acc a e (wrap64 (b + 1)) := by
  simp only [impl_sublattices.l1]
  rw [if_pos h, if_neg ha, if_neg hm]
theorem ss0_done (h : ¬ a ≤ n) : spec_SublatticesOf.l0 (k + 1) n acc a = some (acc, 0) := by
  simp only [spec_SublatticesOf.l0]
  rw [if_neg h]
theorem ss0_round (h : a ≤ n) : spec_SublatticesOf.l0 (k + 1) n acc a = spec_SublatticesOf.l1 k n acc a 0 := by
  simp only [spec_SublatticesOf.l0]
  rw [if_pos h]
theorem ss1_done (ha : ¬ a = 0) (hm : Int.tmod n a = 0) (h : ¬ b < a) : spec_SublatticesOf.l1 (k + 1) n acc a b = spec_SublatticesOf.l0 k n acc (wrap64 (a + 1)) := by
  simp only [spec_SublatticesOf.l1]
  rw [if_neg ha, if_pos hm, if_neg h]
theorem ss1_put (ha : ¬ a = 0) (hm : Int.tmod n a = 0) (h : b < a) (hl : acc.length < 5864062014805) : spec_SublatticesOf.l1 (k + 1) n acc a b = spec_SublatticesOf.l1 k n (acc ++ [⟨a, b, wrap64 (Int.tdiv n a)⟩]) a (wrap64 (b + 1)) := by
  simp only [spec_SublatticesOf.l1]
  rw [if_neg ha, if_pos hm, if_pos h, if_pos hl]
theorem ss1_skip (ha : ¬ a = 0) (hm : ¬ Int.tmod n a = 0) : spec_SublatticesOf.l1 (k + 1) n acc a b = spec_SublatticesOf.l0 k n acc (wrap64 (a + 1)) := by
  simp only [spec_SublatticesOf.l1]
  rw [if_neg ha, if_neg hm]
end

theorem is1_ev {n : Int} (h0 : 1 ≤ n) (h1 : n ≤ 64) {a : Int} (ha : 1 ≤ a) (ha' : a ≤ 64) {v : List S25} (hd : n % a = 0) : ∀ (m : Nat) (b : Int) (acc : List S25), 0 ≤ b → b + m = a → acc.length + m ≤ 10000 →
    Evt (fun k => impl_sublattices.l0 k n (acc ++ rowL a (n / a) b m) (a + 1)) v → Evt (fun k => impl_sublattices.l1 k n acc a a b) v
  | 0, b, acc, hb, hm, hl, hv => by
    rw [show rowL a (n / a) b 0 = [] from rfl, List.append_nil] at hv
    refine hv.step fun k => ?_
    rw [is1_done _ _ _ _ _ _ (by omega), w64 (by omega) (by omega)]
  | m + 1, b, acc, hb, hm, hl, hv => by
    have hdb := div_bd h0 h1 ha
    have ih := is1_ev h0 h1 ha ha' hd m (b + 1) (acc ++ [⟨a, b, n / a⟩]) (by omega) (by omega) (by simp; omega) (by
      rw [List.append_assoc]
      exact hv)
    refine ih.step fun k => ?_
    rw [is1_put _ _ _ _ _ _ (by omega) (by omega) (by rw [tm (by omega)]; exact hd) (by omega), td (by omega), w64 (n := n / a) (by omega) (by omega), w64 (n := b + 1) (by omega) (by omega)]
theorem is1_skip_ev {n : Int} (h0 : 1 ≤ n) (h1 : n ≤ 64) {a : Int} (ha : 1 ≤ a) (ha' : a ≤ 64) {v : List S25} {acc : List S25} (hd : ¬ n % a = 0) (hv : Evt (fun k => impl_sublattices.l0 k n acc (a + 1)) v) : ∀ (m : Nat) (b : Int), 0 ≤ b → b + m = a →
    Evt (fun k => impl_sublattices.l1 k n acc a a b) v
  | 0, b, hb, hm => by
    refine hv.step fun k => ?_
    rw [is1_done _ _ _ _ _ _ (by omega), w64 (by omega) (by omega)]
  | m + 1, b, hb, hm => by
    refine (is1_skip_ev h0 h1 ha ha' hd hv m (b + 1) (by omega) (by omega)).step fun k => ?_
    rw [is1_skip _ _ _ _ _ _ (by omega) (by omega) (by rw [tm (by omega)]; exact hd), w64 (n := b + 1) (by omega) (by omega)]
theorem is0_ev {n : Int} (h0 : 1 ≤ n) (h1 : n ≤ 64) : ∀ (m : Nat) (a : Int) (acc : List S25), 1 ≤ a → a + m = n + 1 → acc.length + m * 64 ≤ 9000 → Evt (fun k => impl_sublattices.l0 k n acc a) (acc ++ subL n a m)
  | 0, a, acc, ha, hm, hl => by
    rw [show subL n a 0 = [] from rfl, List.append_nil]
    exact (Evt.pure _).step fun k => is0_done _ _ _ _ (by omega)
  | m + 1, a, acc, ha, hm, hl => by
    have hra := rowL_len a (n / a) a.toNat 0
    by_cases hd : n % a = 0
    · have ih := is0_ev h0 h1 m (a + 1) (acc ++ rowL a (n / a) 0 a.toNat) (by omega) (by omega) (by rw [List.length_append, hra]; omega)
      have e : acc ++ subL n a (m + 1) = acc ++ rowL a (n / a) 0 a.toNat ++ subL n (a + 1) m := by
        rw [subL, if_pos hd, List.append_assoc]
      rw [e]
      exact (is1_ev h0 h1 ha (by omega) hd a.toNat 0 acc (by omega) (by omega) (by omega) ih).step fun k => is0_round _ _ _ _ (by omega)
    · have ih := is0_ev h0 h1 m (a + 1) acc (by omega) (by omega) (by omega)
      have e : acc ++ subL n a (m + 1) = acc ++ subL n (a + 1) m := by
        rw [subL, if_neg hd, List.nil_append]
      rw [e]
      exact (is1_skip_ev h0 h1 ha (by omega) hd ih a.toNat 0 (by omega) (by omega)).step fun k => is0_round _ _ _ _ (by omega)
theorem impl_sub_ev {n : Int} (h0 : 1 ≤ n) (h1 : n ≤ 64) : Evt (fun k => impl_sublattices.f k n) (subL n 1 n.toNat) := is0_ev h0 h1 n.toNat 1 [] (by omega) (by omega) (by simp; omega)

theorem ss1_ev {n : Int} (h0 : 1 ≤ n) (h1 : n ≤ 64) {a : Int} (ha : 1 ≤ a) (ha' : a ≤ 64) {v : List S25 × Int} (hd : n % a = 0) : ∀ (m : Nat) (b : Int) (acc : List S25), 0 ≤ b → b + m = a → acc.length + m ≤ 10000 →
    Evt (fun k => spec_SublatticesOf.l0 k n (acc ++ rowL a (n / a) b m) (a + 1)) v → Evt (fun k => spec_SublatticesOf.l1 k n acc a b) v
  | 0, b, acc, hb, hm, hl, hv => by
    rw [show rowL a (n / a) b 0 = [] from rfl, List.append_nil] at hv
    refine hv.step fun k => ?_
    rw [ss1_done _ _ _ _ _ (by omega) (by rw [tm (by omega)]; exact hd) (by omega), w64 (by omega) (by omega)]
  | m + 1, b, acc, hb, hm, hl, hv => by
    have hdb := div_bd h0 h1 ha
    have ih := ss1_ev h0 h1 ha ha' hd m (b + 1) (acc ++ [⟨a, b, n / a⟩]) (by omega) (by omega) (by simp; omega) (by
      rw [List.append_assoc]
      exact hv)
    refine ih.step fun k => ?_
    rw [ss1_put _ _ _ _ _ (by omega) (by rw [tm (by omega)]; exact hd) (by omega) (by omega), td (by omega), w64 (n := n / a) (by omega) (by omega), w64 (n := b + 1) (by omega) (by omega)]
theorem ss0_ev {n : Int} (h0 : 1 ≤ n) (h1 : n ≤ 64) : ∀ (m : Nat) (a : Int) (acc : List S25), 1 ≤ a → a + m = n + 1 → acc.length + m * 64 ≤ 9000 → Evt (fun k => spec_SublatticesOf.l0 k n acc a) (acc ++ subL n a m, 0)
  | 0, a, acc, ha, hm, hl => by
    rw [show subL n a 0 = [] from rfl, List.append_nil]
    exact (Evt.pure _).step fun k => ss0_done _ _ _ _ (by omega)
  | m + 1, a, acc, ha, hm, hl => by
    have hra := rowL_len a (n / a) a.toNat 0
    by_cases hd : n % a = 0
    · have ih := ss0_ev h0 h1 m (a + 1) (acc ++ rowL a (n / a) 0 a.toNat) (by omega) (by omega) (by rw [List.length_append, hra]; omega)
      have e : acc ++ subL n a (m + 1) = acc ++ rowL a (n / a) 0 a.toNat ++ subL n (a + 1) m := by
        rw [subL, if_pos hd, List.append_assoc]
      rw [e]
      exact (ss1_ev h0 h1 ha (by omega) hd a.toNat 0 acc (by omega) (by omega) (by omega) ih).step fun k => ss0_round _ _ _ _ (by omega)
    · have ih := ss0_ev h0 h1 m (a + 1) acc (by omega) (by omega) (by omega)
      have e : acc ++ subL n a (m + 1) = acc ++ subL n (a + 1) m := by
        rw [subL, if_neg hd, List.nil_append]
      rw [e]
      have h2 : Evt (fun k => spec_SublatticesOf.l1 k n acc a 0) (acc ++ subL n (a + 1) m, 0) := ih.step fun k => by
        rw [ss1_skip _ _ _ _ _ (by omega) (by rw [tm (by omega)]; exact hd), w64 (by omega) (by omega)]
      exact h2.step fun k => ss0_round _ _ _ _ (by omega)
theorem spec_sub_ev {n : Int} (h0 : 1 ≤ n) (h1 : n ≤ 64) : Evt (fun k => spec_SublatticesOf.f k n) (subL n 1 n.toNat, 0) := by
  have h := ss0_ev h0 h1 n.toNat 1 [] (by omega) (by omega) (by simp; omega)
  refine h.congr fun k => ?_
  unfold spec_SublatticesOf.f spec_l01In.f
  rw [if_pos h0, decide_eq_true h1, Option.bind_some, if_pos rfl]
theorem subL_len {n : Int} : ∀ (m : Nat) (a : Int), 1 ≤ a → a + m ≤ 65 → (subL n a m).length ≤ m * 64
  | 0, _, _, _ => by simp [subL]
  | m + 1, a, ha, hm => by
    have ih := subL_len (n := n) m (a + 1) (by omega) (by omega)
    have hr := rowL_len a (n / a) a.toNat 0
    rw [subL, List.length_append]
    split
    · rw [hr]; omega
    · simp; omega
end Go.Proofs.Ytoajccbmikmjdaa.Y

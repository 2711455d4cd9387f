/-
  prefix.Cover in plain words: blocks of powers of two, one behind the other, from the first address to the last; at most 62.
-/
import Derived.Test.YtdlkdcdopjgbaaaDoorPre
import Derived.Test.YtdlkdcdopjgbaaaDoorXx7
set_option linter.unusedVariables false
set_option linter.unusedSimpArgs false
set_option linter.unusedSectionVars false
namespace Go.Proofs.YtdlkdcdopjgbaaaDoor.X
open Go.RowKit Go.Proofs.YtdlkdcdopjgbaaaDoorW.PrintWords
/-- The greatest power of two, from 2^m down, that fits. -/
def down (R : Nat) : Nat → Nat
  | 0 => 0
  | m + 1 => if 2 ^ (m + 1) ≤ R then m + 1 else down R m
theorem down_le (R : Nat) : ∀ m, down R m ≤ m
  | 0 => Nat.le_refl _
  | m + 1 => by
    simp only [down]
    split
    · exact Nat.le_refl _
    · exact Nat.le_succ_of_le (down_le R m)
theorem down_fits {R : Nat} (h : 0 < R) : ∀ m, 2 ^ down R m ≤ R
  | 0 => by simp [down]; omega
  | m + 1 => by
    simp only [down]
    split
    · assumption
    · exact down_fits h m
theorem down_max {R : Nat} : ∀ m, down R m < m → R < 2 ^ (down R m + 1)
  | 0, h => by simp [down] at h
  | m + 1, h => by
    simp only [down] at h ⊢
    split
    · rename_i hh; simp [hh] at h
    · rename_i hh
      simp only [hh, if_false] at h
      rcases Nat.lt_or_ge (down R m) m with h' | h'
      · exact down_max m h'
      · have := down_le R m
        have e : down R m = m := by omega
        rw [e]; omega
/-- The exponent of the next block. -/
def expo (low R : Nat) : Nat := down R (Go.Lib.ctz 32 low)
theorem odd_pow {T m c low : Nat} (e : low = 2 ^ T * (2 * m + 1)) (hc : low = 2 ^ T * 2 * c) : False := by
  rw [hc, Nat.mul_assoc] at e
  have := Nat.eq_of_mul_eq_mul_left (Nat.pow_pos (by decide : 0 < 2)) e
  omega
theorem next_pow {T m low : Nat} (e : low = 2 ^ T * (2 * m + 1)) : (low + 2 ^ T) % 2 ^ (T + 1) = 0 := by
  refine Nat.mod_eq_zero_of_dvd ⟨m + 1, ?_⟩
  rw [e, ← Nat.mul_succ, Nat.pow_succ, Nat.mul_assoc]
  congr 1
theorem ctz_pos {low : Nat} (h : low < 2 ^ 32) (h0 : low ≠ 0) : Go.Lib.ctz 32 low < 32 ∧ ∃ m, low = 2 ^ Go.Lib.ctz 32 low * (2 * m + 1) := by
  have hc : Go.Lib.ctz 32 low = Go.Lib.ctzFrom 32 low := by unfold Go.Lib.ctz; rw [if_neg h0]
  obtain ⟨m, e, hl⟩ := Go.Lib.ctzFrom_spec 32 low (Nat.pos_of_ne_zero h0) h
  rw [hc]
  exact ⟨hl, m, e⟩
theorem ctz_nil : Go.Lib.ctz 32 0 = 32 := by unfold Go.Lib.ctz; rw [if_pos rfl]
theorem ctz_spec {low : Nat} (h : low < 2 ^ 32) : low % 2 ^ Go.Lib.ctz 32 low = 0 ∧ Go.Lib.ctz 32 low ≤ 32 := by
  by_cases h0 : low = 0
  · rw [h0, ctz_nil]
    exact ⟨Nat.zero_mod _, Nat.le_refl _⟩
  · obtain ⟨hl, m, e⟩ := ctz_pos h h0
    exact ⟨Nat.mod_eq_zero_of_dvd ⟨_, e⟩, Nat.le_of_lt hl⟩
theorem ctz_ge {low j : Nat} (h : low < 2 ^ 32) (h1 : low % 2 ^ j = 0) (hj : j ≤ 32) : j ≤ Go.Lib.ctz 32 low := by
  by_cases h0 : low = 0
  · rw [h0, ctz_nil]; exact hj
  · obtain ⟨hl, m, e⟩ := ctz_pos h h0
    by_cases hh : j ≤ Go.Lib.ctz 32 low
    · exact hh
    · exfalso
      have hd : 2 ^ (Go.Lib.ctz 32 low + 1) ∣ low := Nat.dvd_trans (Nat.pow_dvd_pow 2 (by omega)) (Nat.dvd_of_mod_eq_zero h1)
      rw [Nat.pow_succ] at hd
      obtain ⟨c, hc⟩ := hd
      exact odd_pow e hc
theorem lt32 {low : Nat} (h : low < 4294967296) : low < 2 ^ 32 := Nat.lt_of_lt_of_eq h (by decide)
theorem mod_pow_le {low m t : Nat} (h : low % 2 ^ t = 0) (hm : m ≤ t) : low % 2 ^ m = 0 := Nat.mod_eq_zero_of_dvd (Nat.dvd_trans (Nat.pow_dvd_pow 2 hm) (Nat.dvd_of_mod_eq_zero h))
theorem expo_spec {low R : Nat} (h : low < 4294967296) (hR : 0 < R) : expo low R ≤ 32 ∧ low % 2 ^ expo low R = 0 ∧ 2 ^ expo low R ≤ R := by
  obtain ⟨h1, h2⟩ := ctz_spec (lt32 h)
  have h3 := down_le R (Go.Lib.ctz 32 low)
  exact ⟨Nat.le_trans h3 h2, mod_pow_le h1 h3, down_fits hR _⟩
/-- The blocks. -/
def cov : Nat → Nat → Nat → List (Nat × Nat)
  | 0, _, _ => []
  | k + 1, low, R => if R = 0 then [] else (low, expo low R) :: cov k (low + 2 ^ expo low R) (R - 2 ^ expo low R)
theorem cov_zero (k low : Nat) : cov k low 0 = [] := by cases k <;> simp [cov]
theorem cov_spec : ∀ (k low R : Nat), R ≤ k → low + R ≤ 4294967296 →
    (∀ p ∈ cov k low R, p.2 ≤ 32 ∧ p.1 % 2 ^ p.2 = 0 ∧ low ≤ p.1 ∧ p.1 + 2 ^ p.2 ≤ low + R) ∧ (cov k low R).Pairwise (fun p q => p.1 + 2 ^ p.2 ≤ q.1) ∧ (∀ a, low ≤ a → a < low + R → ∃ p ∈ cov k low R, p.1 ≤ a ∧ a < p.1 + 2 ^ p.2)
  | 0, low, R, hk, _ => by
    obtain rfl : R = 0 := by omega
    exact ⟨by simp [cov], by simp [cov], fun a h1 h2 => by omega⟩
  | k + 1, low, R, hk, hl => by
    by_cases h0 : R = 0
    · subst h0
      exact ⟨by simp [cov], by simp [cov], fun a h1 h2 => by omega⟩
    · obtain ⟨e1, e2, e3⟩ := expo_spec (low := low) (R := R) (by omega) (by omega)
      have hp : 0 < 2 ^ expo low R := Nat.pow_pos (by decide)
      obtain ⟨i1, i2, i3⟩ := cov_spec k (low + 2 ^ expo low R) (R - 2 ^ expo low R) (by omega) (by omega)
      simp only [cov, h0, if_false]
      refine ⟨fun p hp => ?_, List.pairwise_cons.2 ⟨fun q hq => (i1 q hq).2.2.1, i2⟩, fun a h1 h2 => ?_⟩
      · rcases List.mem_cons.1 hp with rfl | hp
        · exact ⟨e1, e2, Nat.le_refl _, by dsimp only; omega⟩
        · obtain ⟨j1, j2, j3, j4⟩ := i1 p hp
          exact ⟨j1, j2, by omega, by omega⟩
      · by_cases ha : a < low + 2 ^ expo low R
        · exact ⟨_, List.mem_cons_self, h1, ha⟩
        · obtain ⟨p, hp, h⟩ := i3 a (by omega) (by omega)
          exact ⟨p, List.mem_cons_of_mem _ hp, h⟩
/-- Less than 2^j is left, and the place is right for 2^j: at most j blocks. -/
theorem cov_tail : ∀ (k j low R : Nat), low % 2 ^ j = 0 → j ≤ 32 → R < 2 ^ j → low + R ≤ 4294967296 → (cov k low R).length ≤ j
  | 0, _, _, _, _, _, _, _ => by simp [cov]
  | k + 1, j, low, R, h1, h2, h3, h4 => by
    by_cases h0 : R = 0
    · subst h0; simp [cov]
    · obtain ⟨e1, e2, e3⟩ := expo_spec (low := low) (R := R) (by omega) (by omega)
      have hlt : expo low R < j := (Nat.pow_lt_pow_iff_right (by decide : 1 < 2)).1 (Nat.lt_of_le_of_lt e3 h3)
      have hct : j ≤ Go.Lib.ctz 32 low := ctz_ge (lt32 (by omega)) h1 h2
      have hmax := down_max (R := R) (Go.Lib.ctz 32 low) (by unfold expo at hlt; omega)
      have hmax' : R < 2 ^ (expo low R + 1) := hmax
      rw [Nat.pow_succ] at hmax'
      simp only [cov, h0, if_false, List.length_cons]
      have := cov_tail k (expo low R) (low + 2 ^ expo low R) (R - 2 ^ expo low R) (by rw [Nat.add_mod_right]; exact e2) e1 (by omega) (by omega)
      omega
theorem cov_rise : ∀ (k t low R : Nat), low % 2 ^ t = 0 → t ≤ 31 → 0 < low → low + R ≤ 4294967296 → (cov k low R).length ≤ 62 - t
  | 0, _, _, _, _, _, _, _ => by simp [cov]
  | k + 1, t, low, R, h1, h2, h3, h4 => by
    by_cases h0 : R = 0
    · subst h0; simp [cov]
    · obtain ⟨e1, e2, e3⟩ := expo_spec (low := low) (R := R) (by omega) (by omega)
      obtain ⟨c1, c2⟩ := ctz_spec (low := low) (lt32 (by omega))
      obtain ⟨hl, m, e⟩ := ctz_pos (low := low) (lt32 (by omega)) (by omega)
      have htc : t ≤ Go.Lib.ctz 32 low := ctz_ge (lt32 (by omega)) h1 (by omega)
      by_cases hR : 2 ^ Go.Lib.ctz 32 low ≤ R
      · have he : expo low R = Go.Lib.ctz 32 low := by
          have := down_le R (Go.Lib.ctz 32 low)
          rcases Nat.lt_or_ge (expo low R) (Go.Lib.ctz 32 low) with h | h
          · have hm := down_max (R := R) _ h
            have : 2 ^ (down R (Go.Lib.ctz 32 low) + 1) ≤ 2 ^ Go.Lib.ctz 32 low := Nat.pow_le_pow_right (by decide) h
            omega
          · unfold expo at h ⊢; omega
        simp only [cov, h0, if_false, List.length_cons]
        rw [he]
        by_cases hend : R - 2 ^ Go.Lib.ctz 32 low = 0
        · rw [hend, cov_zero]; simp; omega
        · have hd : (low + 2 ^ Go.Lib.ctz 32 low) % 2 ^ (Go.Lib.ctz 32 low + 1) = 0 := next_pow e
          have ht : Go.Lib.ctz 32 low + 1 ≤ 31 := by
            by_cases hh : Go.Lib.ctz 32 low + 1 ≤ 31
            · exact hh
            · exfalso
              have e31 : Go.Lib.ctz 32 low = 31 := by omega
              rw [e31] at hR e hend
              have : (2 : Nat) ^ 31 = 2147483648 := by decide
              rw [this] at hR e hend
              omega
          have := cov_rise k (Go.Lib.ctz 32 low + 1) (low + 2 ^ Go.Lib.ctz 32 low) (R - 2 ^ Go.Lib.ctz 32 low) hd ht (by omega) (by omega)
          omega
      · have := cov_tail (k + 1) (Go.Lib.ctz 32 low) low R c1 c2 (by omega) h4
        omega
theorem cov_len {k low R : Nat} (h : low + R ≤ 4294967296) : (cov k low R).length ≤ 62 := by
  by_cases h0 : low = 0
  · subst h0
    by_cases hR : R = 4294967296
    · subst hR
      cases k with
      | zero => simp [cov]
      | succ k =>
        have : expo 0 4294967296 = 32 := by unfold expo; rw [ctz_nil]; decide +kernel
        simp only [cov]
        rw [this]
        simp [cov_zero]
    · have := cov_tail k 32 0 R (by simp) (Nat.le_refl _) (by omega) h
      omega
  · exact cov_rise k 0 low R (by simp [Nat.mod_one]) (by omega) (by omega) h
end Go.Proofs.YtdlkdcdopjgbaaaDoor.X

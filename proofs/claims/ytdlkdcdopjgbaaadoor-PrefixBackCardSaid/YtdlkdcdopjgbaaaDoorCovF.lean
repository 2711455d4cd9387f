/-
  prefix.Cover tells these blocks; PrefixOnce's plain law.
-/
import Derived.Test.YtdlkdcdopjgbaaaDoorCov
import Derived.Test.YtdlkdcdopjgbaaaDoorXx8
set_option linter.unusedVariables false
set_option linter.unusedSimpArgs false
set_option linter.unusedSectionVars false
namespace Go.Proofs.YtdlkdcdopjgbaaaDoor.X
open Go.RowKit Go.Proofs.YtdlkdcdopjgbaaaDoorW.PrintWords
def to24 (p : Nat × Nat) : S24 := ⟨p.1, 32 - (p.2 : Int)⟩
theorem sz_exp (m : Nat) (h : m ≤ 32) : sz (32 - (m : Int)) = ((2 ^ m : Nat) : Int) := by rw [sz_nat m h]; exact (Int.natCast_pow 2 m).symm
theorem okP_exp {low m : Nat} (h : m ≤ 32) (hm : low % 2 ^ m = 0) : okP (low : Int) (32 - (m : Int)) := by
  refine ⟨by omega, by omega, ?_⟩
  rw [sz_exp m h, ← Int.natCast_emod, hm]; rfl
theorem ends_exp {low m : Nat} (hl : low < 4294967296) (h : m ≤ 32) (hm : low % 2 ^ m = 0) : prefix_Ends.f (low : Int) (32 - (m : Int)) = some ((low : Int), (low : Int) + ((2 ^ m : Nat) : Int) - 1) := by
  rw [ends_f (by omega) (by omega), if_pos (okP_exp h hm), sz_exp m h]
/-- The inner loop: from the exponent m down. -/
theorem cover_l1 {low R high : Nat} (hR : 0 < R) (hh : high + 1 = low + R) (hl : high < 4294967296) (acc : List S24) (hacc : acc.length < 8796093022208) (r : List S24) : ∀ m : Nat, m ≤ 32 → low % 2 ^ m = 0 →
    (Ev (fun k => if (low : Int) + ((2 ^ down R m : Nat) : Int) - 1 = (high : Int) then some (acc ++ [to24 (low, down R m)]) else prefix_Cover.l0 k (((low : Int) + ((2 ^ down R m : Nat) : Int) - 1 + 1) % 4294967296) high (acc ++ [to24 (low, down R m)])) r) →
    Ev (fun k => prefix_Cover.l1 k low high acc (32 - (m : Int))) r := by
  intro m
  induction m with
  | zero =>
    intro _ h1 h
    refine Ev.step (fun k => ?_) h
    have hd : down R 0 = 0 := rfl
    simp only [prefix_Cover.l1, ends_exp (m := 0) (show low < 4294967296 by omega) (by omega) h1, Option.bind_some, hd]
    rw [if_neg (by simp only [Nat.pow_zero]; omega), if_pos hacc]
    rfl
  | succ m ih =>
    intro hm h1 h
    by_cases hf : 2 ^ (m + 1) ≤ R
    · have hd : down R (m + 1) = m + 1 := by simp only [down, hf, if_true]
      rw [hd] at h
      refine Ev.step (fun k => ?_) h
      simp only [prefix_Cover.l1, ends_exp (m := m + 1) (show low < 4294967296 by omega) hm h1, Option.bind_some]
      rw [if_neg (by omega), if_pos hacc]
      rfl
    · have hd : down R (m + 1) = down R m := by simp only [down, hf, if_false]
      rw [hd] at h
      have h1' : low % 2 ^ m = 0 := mod_pow_le h1 (by omega)
      refine Ev.step (fun k => ?_) (ih (by omega) h1' h)
      simp only [prefix_Cover.l1, ends_exp (m := m + 1) (show low < 4294967296 by omega) hm h1, Option.bind_some]
      have e : wrap64 (32 - ((m + 1 : Nat) : Int) + 1) = 32 - (m : Int) := by unfold wrap64; omega
      rw [if_pos (by omega), e]
theorem cover_l0 (high : Nat) (hl : high < 4294967296) : ∀ (k low R : Nat) (acc : List S24), R ≤ k → 0 < R → high + 1 = low + R → acc.length + R < 8796093022208 →
    Ev (fun j => prefix_Cover.l0 j low high acc) (acc ++ (cov k low R).map to24)
  | 0, low, R, acc, h1, h2, _, _ => by omega
  | k + 1, low, R, acc, h1, h2, h3, h4 => by
    obtain ⟨c1, c2⟩ := ctz_spec (low := low) (lt32 (by omega))
    obtain ⟨e1, e2, e3⟩ := expo_spec (low := low) (R := R) (by omega) h2
    have hp : 0 < 2 ^ expo low R := Nat.pow_pos (by decide)
    have hz : bits_TrailingZeros32.f (low : Int) = some ((Go.Lib.ctz 32 low : Nat) : Int) := by
      unfold bits_TrailingZeros32.f
      rw [if_pos (by omega)]
      simp
    refine Ev.step (f := fun j => prefix_Cover.l1 j low high acc (32 - ((Go.Lib.ctz 32 low : Nat) : Int))) (fun j => ?_) (cover_l1 h2 h3 hl acc (by omega) _ (Go.Lib.ctz 32 low) c2 c1 ?_)
    · have e : wrap64 (32 - ((Go.Lib.ctz 32 low : Nat) : Int)) = 32 - ((Go.Lib.ctz 32 low : Nat) : Int) := by unfold wrap64; omega
      simp only [prefix_Cover.l0, hz, Option.bind_some, e]
    · have hexp : down R (Go.Lib.ctz 32 low) = expo low R := rfl
      rw [hexp]
      have hcov : (cov (k + 1) low R) = (low, expo low R) :: cov k (low + 2 ^ expo low R) (R - 2 ^ expo low R) := by simp only [cov]; rw [if_neg (by omega)]
      rw [hcov, List.map_cons]
      by_cases hend : R = 2 ^ expo low R
      · rw [show R - 2 ^ expo low R = 0 by omega, cov_zero, List.map_nil]
        refine ⟨0, fun j _ => ?_⟩
        dsimp only
        rw [if_pos (by omega)]
      · have em : (((low : Int) + ((2 ^ expo low R : Nat) : Int) - 1 + 1) % 4294967296) = ((low + 2 ^ expo low R : Nat) : Int) := by omega
        have := cover_l0 high hl k (low + 2 ^ expo low R) (R - 2 ^ expo low R) (acc ++ [to24 (low, expo low R)]) (by omega) (by omega) (by omega) (by simp; omega)
        rw [List.append_assoc] at this
        refine Ev.congr (fun j => ?_) this
        rw [if_neg (by omega), em]
/-- What Cover tells. -/
def covS (low high : Int) : List (Nat × Nat) := if low > high then [] else cov (high + 1 - low).toNat low.toNat (high + 1 - low).toNat
theorem cover_f {low high : Int} (h0 : 0 ≤ low) (h1 : 0 ≤ high) (h2 : high < 4294967296) : Ev (fun k => prefix_Cover.f k low high) ((covS low high).map to24) := by
  unfold prefix_Cover.f covS
  by_cases h : low > high
  · simp only [h, if_true]
    exact Ev.now _
  · simp only [h, if_false]
    obtain ⟨a, rfl⟩ : ∃ a : Nat, low = a := ⟨low.toNat, by omega⟩
    obtain ⟨b, rfl⟩ : ∃ b : Nat, high = b := ⟨high.toNat, by omega⟩
    have := cover_l0 b (by omega) ((b : Int) + 1 - a).toNat a ((b : Int) + 1 - a).toNat [] (Nat.le_refl _) (by omega) (by omega) (by simp; omega)
    simpa using this
theorem works_f : Ev (fun k => vizardlaw04_works.f k) true := Ev.of (fun k => vizardlaw04_works.mono k) (k := 30) (by decide +kernel)
/-- What is known of the blocks. -/
theorem covS_spec {low high : Int} (h0 : 0 ≤ low) (h1 : 0 ≤ high) (h2 : high < 4294967296) :
    (∀ p ∈ covS low high, p.2 ≤ 32 ∧ p.1 % 2 ^ p.2 = 0 ∧ low ≤ p.1 ∧ ((p.1 + 2 ^ p.2 : Nat) : Int) ≤ high + 1) ∧ (covS low high).Pairwise (fun p q => p.1 + 2 ^ p.2 ≤ q.1) ∧ (∀ a : Int, low ≤ a → a ≤ high → ∃ p ∈ covS low high, (p.1 : Int) ≤ a ∧ a < ((p.1 + 2 ^ p.2 : Nat) : Int)) ∧ (covS low high).length ≤ 62 := by
  unfold covS
  by_cases h : low > high
  · simp only [h, if_true]
    exact ⟨by simp, List.Pairwise.nil, fun a q1 q2 => by omega, by simp⟩
  · simp only [h, if_false]
    obtain ⟨a, rfl⟩ : ∃ a : Nat, low = a := ⟨low.toNat, by omega⟩
    obtain ⟨b, rfl⟩ : ∃ b : Nat, high = b := ⟨high.toNat, by omega⟩
    obtain ⟨R, hR⟩ : ∃ R, ((b : Int) + 1 - a).toNat = R := ⟨_, rfl⟩
    rw [hR, Int.toNat_natCast]
    obtain ⟨c1, c2, c3⟩ := cov_spec R a R (Nat.le_refl _) (by omega)
    refine ⟨fun p hp => ?_, c2, fun x q1 q2 => ?_, cov_len (by omega)⟩
    · obtain ⟨d1, d2, d3, d4⟩ := c1 p hp
      exact ⟨d1, d2, by omega, by omega⟩
    · obtain ⟨p, hp, d1, d2⟩ := c3 x.toNat (by omega) (by omega)
      exact ⟨p, hp, by omega, by omega⟩
end Go.Proofs.YtdlkdcdopjgbaaaDoor.X

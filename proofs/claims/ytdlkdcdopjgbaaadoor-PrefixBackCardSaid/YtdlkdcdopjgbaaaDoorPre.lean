/-
  What the prefixes' own functions compute, in plain words: right prefixes, their addresses, their ends.
-/
import Derived.Test.YtdlkdcdopjgbaaaDoorXx5
import Derived.Test.YtdlkdcdopjgbaaaDoorXx9
set_option linter.unusedVariables false
set_option linter.unusedSimpArgs false
set_option linter.unusedSectionVars false
namespace Go.Proofs.YtdlkdcdopjgbaaaDoor.X
open Go.RowKit Go.Proofs.YtdlkdcdopjgbaaaDoorW.PrintWords Go.Proofs.YtdlkdcdopjgbaaaDoorW.PrintLast Go.Proofs.YtdlkdcdopjgbaaaDoorW.PrintMore
/-- How many addresses a prefix of so many bits has. -/
def sz (b : Int) : Int := 2 ^ (32 - b).toNat
theorem sz_nat (n : Nat) (h : n ≤ 32) : sz (32 - n) = 2 ^ n := by
  unfold sz
  rw [show ((32 : Int) - (32 - n)).toNat = n by omega]
theorem bits_nat_of {b : Int} (h0 : 0 ≤ b) (h1 : b ≤ 32) : ∃ n : Nat, n ≤ 32 ∧ b = 32 - n := ⟨(32 - b).toNat, by omega, by omega⟩
theorem rest_nat : ∀ n : Nat, n ≤ 32 → prefix_rest.f (32 - n) = some (2 ^ n - 1) := by decide +kernel
theorem rest_f {b : Int} (h0 : 0 ≤ b) (h1 : b ≤ 32) : prefix_rest.f b = some (sz b - 1) := by
  obtain ⟨n, hn, rfl⟩ := bits_nat_of h0 h1
  rw [rest_nat n hn, sz_nat n hn]
theorem sz_pos (b : Int) : 0 < sz b := by unfold sz; exact Int.pow_pos (by decide)
theorem pow_dvd_32 (n : Nat) (h : n ≤ 32) : ∃ m : Int, 0 < m ∧ (2 : Int) ^ n * m = 4294967296 := by
  refine ⟨2 ^ (32 - n), Int.pow_pos (by decide), ?_⟩
  rw [← Int.pow_add, show n + (32 - n) = 32 by omega]
  rfl
theorem sz_dvd {b : Int} (h0 : 0 ≤ b) (h1 : b ≤ 32) : ∃ m : Int, 0 < m ∧ sz b * m = 4294967296 := by
  obtain ⟨n, hn, rfl⟩ := bits_nat_of h0 h1
  rw [sz_nat n hn]
  exact pow_dvd_32 n hn
theorem le_mul_one_le {a m : Int} (ha : 0 ≤ a) (hm : 1 ≤ m) : a ≤ a * m := by
  have := Int.mul_le_mul_of_nonneg_left hm ha
  omega
theorem sz_le {b : Int} (h0 : 0 ≤ b) (h1 : b ≤ 32) : sz b ≤ 4294967296 := by
  obtain ⟨m, hm, e⟩ := sz_dvd h0 h1
  have := sz_pos b
  rw [← e]
  exact le_mul_one_le (by omega) (by omega)
theorem wraps_u32 (n : Int) (h₀ : 0 ≤ n) (h₁ : n < 2 ^ 32) : IntKind.u32.wrap n = n := by
  rw [IntKind.wrap_u32]
  have : (2 : Int) ^ 32 = 4294967296 := rfl
  omega
theorem and_sz {a b : Int} (ha : 0 ≤ a) (ha2 : a < 4294967296) (h0 : 0 ≤ b) (h1 : b ≤ 32) : Go.bits .and .u32 a (sz b - 1) = a % sz b := by
  obtain ⟨n, hn, rfl⟩ := bits_nat_of h0 h1
  rw [sz_nat n hn]
  exact bits_mask .u32 32 (by decide) wraps_u32 n hn a ha ha2
theorem or_sz {a b : Int} (ha : 0 ≤ a) (ha2 : a < 4294967296) (h0 : 0 ≤ b) (h1 : b ≤ 32) (hm : a % sz b = 0) : Go.bits .or .u32 a (sz b - 1) = a + sz b - 1 := by
  obtain ⟨n, hn, rfl⟩ := bits_nat_of h0 h1
  rw [sz_nat n hn] at *
  have hp : (0 : Int) < 2 ^ n := Int.pow_pos (by decide)
  have hp2 : (2 : Int) ^ n ≤ 2 ^ 32 := by
    obtain ⟨m, hm, e⟩ := pow_dvd_32 n hn
    have : (2 : Int) ^ 32 = 4294967296 := rfl
    rw [this, ← e]
    exact le_mul_one_le (by omega) (by omega)
  rw [bits_join .u32 32 (by decide) wraps_u32 n a (2 ^ n - 1) ha hm ha2 (by omega) (by omega) (by omega)]
  omega
/-- A right prefix. -/
def okP (a b : Int) : Prop := 0 ≤ b ∧ b ≤ 32 ∧ a % sz b = 0
instance (a b : Int) : Decidable (okP a b) := inferInstanceAs (Decidable (_ ∧ _ ∧ _))
/-- An address is in it. -/
def hasP (a b x : Int) : Prop := okP a b ∧ a ≤ x ∧ x < a + sz b
instance (a b x : Int) : Decidable (hasP a b x) := inferInstanceAs (Decidable (_ ∧ _ ∧ _))
theorem check_f {a : Int} (ha : 0 ≤ a) (ha2 : a < 4294967296) (b : Int) : prefix_Check.f a b = some (decide (okP a b)) := by
  unfold prefix_Check.f okP
  by_cases h0 : 0 ≤ b
  · by_cases h1 : b ≤ 32
    · rw [if_pos h0, if_pos h1, rest_f h0 h1]
      simp only [Option.bind_some, and_sz ha ha2 h0 h1, h0, h1, true_and]
      rfl
    · rw [if_pos h0, if_neg h1]
      simp [h1]
  · rw [if_neg h0]
    simp [h0]
theorem andNot_sz {a b : Int} (ha : 0 ≤ a) (ha2 : a < 4294967296) (h0 : 0 ≤ b) (h1 : b ≤ 32) : Go.bits .andNot .u32 a (sz b - 1) = a - a % sz b := by
  obtain ⟨n, hn, rfl⟩ := bits_nat_of h0 h1
  rw [sz_nat n hn]
  obtain ⟨x, rfl⟩ := Int.eq_ofNat_of_zero_le ha
  have hx : x < 2 ^ 32 := by omega
  have hpos : 0 < 2 ^ n := Nat.two_pow_pos n
  have hc : ((2 : Int) ^ n - 1) = ((2 ^ n - 1 : Nat) : Int) := by
    rw [Int.natCast_sub hpos]; simp
  have key : (BitVec.ofNat 32 x &&& ~~~(BitVec.ofNat 32 (2 ^ n - 1))).toNat = 2 ^ n * (x / 2 ^ n) := by
    apply Nat.eq_of_testBit_eq
    intro i
    rw [BitVec.testBit_toNat, BitVec.getLsbD_and, BitVec.getLsbD_not, BitVec.getLsbD_ofNat, BitVec.getLsbD_ofNat, Nat.testBit_two_pow_sub_one, Nat.testBit_two_pow_mul, Nat.testBit_div_two_pow]
    by_cases hi : i < 32
    · by_cases hin : n ≤ i
      · have e : i - n + n = i := by omega
        simp [hi, hin, e]
      · simp [hi, hin]
        intro _
        omega
    · by_cases hin : n ≤ i
      · have e : i - n + n = i := by omega
        have : x.testBit i = false := Nat.testBit_lt_two_pow (Nat.lt_of_lt_of_le hx (Nat.pow_le_pow_right (by decide) (by omega)))
        simp [hi, hin, e, this]
      · simp [hi, hin]
  have hd := Nat.div_add_mod x (2 ^ n)
  show IntKind.u32.wrap _ = _
  rw [hc, BitVec.ofInt_natCast, BitVec.ofInt_natCast]
  show IntKind.u32.wrap ((BitVec.ofNat 32 x &&& ~~~(BitVec.ofNat 32 (2 ^ n - 1))).toNat : Int) = _
  rw [key, wraps_u32 _ (Int.natCast_nonneg _) (by exact_mod_cast (by omega : 2 ^ n * (x / 2 ^ n) < 2 ^ 32))]
  have : ((x : Int) % 2 ^ n) = ((x % 2 ^ n : Nat) : Int) := by simp
  rw [this]
  omega
theorem has_f {a x : Int} (ha : 0 ≤ a) (ha2 : a < 4294967296) (hx : 0 ≤ x) (hx2 : x < 4294967296) (b : Int) : prefix_Has.f a b x = some (decide (hasP a b x)) := by
  unfold prefix_Has.f
  rw [check_f ha ha2]
  simp only [Option.bind_some]
  by_cases h : okP a b
  · obtain ⟨h0, h1, hm⟩ := h
    rw [if_pos (decide_eq_true ⟨h0, h1, hm⟩), rest_f h0 h1]
    simp only [Option.bind_some, andNot_sz hx hx2 h0 h1, Option.some.injEq]
    have hp := sz_pos b
    have hmod := Int.emod_lt_of_pos x hp
    have hmod0 := Int.emod_nonneg x (Int.ne_of_gt hp)
    have hdx := Int.emod_add_mul_ediv x (sz b)
    have hda := Int.emod_add_mul_ediv a (sz b)
    rw [Bool.eq_iff_iff, beq_iff_eq, decide_eq_true_eq]
    constructor
    · intro e
      exact ⟨⟨h0, h1, hm⟩, by omega, by omega⟩
    · rintro ⟨_, e1, e2⟩
      have hq : x / sz b = a / sz b := by
        have e3 : a / sz b ≤ x / sz b := Int.ediv_le_ediv hp e1
        have e4 : x / sz b < a / sz b + 1 := Int.ediv_lt_of_lt_mul hp (by
          have : (a / sz b + 1) * sz b = sz b * (a / sz b) + sz b := by rw [Int.add_mul, Int.mul_comm]; omega
          omega)
        omega
      rw [hq] at hdx
      omega
  · rw [if_neg (by simp [h])]
    have : ¬ hasP a b x := fun e => h e.1
    simp [this]
theorem sum_lt {a b : Int} (ha : 0 ≤ a) (ha2 : a < 4294967296) (h : okP a b) : a + sz b ≤ 4294967296 := by
  obtain ⟨h0, h1, hm⟩ := h
  obtain ⟨m, hm0, e⟩ := sz_dvd h0 h1
  have hp := sz_pos b
  have hda := Int.emod_add_mul_ediv a (sz b)
  have hlt : a / sz b < m := Int.ediv_lt_of_lt_mul hp (by rw [Int.mul_comm]; omega)
  have : sz b * (a / sz b + 1) ≤ sz b * m := Int.mul_le_mul_of_nonneg_left (by omega) (by omega)
  rw [Int.mul_add] at this
  omega
theorem ends_f {a : Int} (ha : 0 ≤ a) (ha2 : a < 4294967296) (b : Int) : prefix_Ends.f a b = some (if okP a b then (a, a + sz b - 1) else (0, 0)) := by
  unfold prefix_Ends.f
  rw [check_f ha ha2]
  simp only [Option.bind_some]
  by_cases h : okP a b
  · rw [if_pos (decide_eq_true h), rest_f h.1 h.2.1, if_pos h]
    simp only [Option.bind_some, or_sz ha ha2 h.1 h.2.1 h.2.2]
  · rw [if_neg (by simp [h]), if_neg h]
end Go.Proofs.YtdlkdcdopjgbaaaDoor.X

/-
  What the reference's functions on prefixes compute: the same.
-/
import Derived.Test.YtcpneggifmldoaaPre
import Derived.Test.YtcpneggifmldoaaXx10
import Derived.Test.YtcpneggifmldoaaXx12
namespace Go.Proofs.Ytcpneggifmldoaa.X
open Go.RowKit Go.Proofs.YtcpneggifmldoaaW.PrintWords Go.Proofs.YtcpneggifmldoaaW.PrintLast Go.Proofs.YtcpneggifmldoaaW.PrintMore
theorem size_nat : ∀ n : Nat, n ≤ 32 → vizardref04_size.f (32 - n) = some (2 ^ n) := by decide +kernel
theorem size_f {b : Int} (h0 : 0 ≤ b) (h1 : b ≤ 32) : vizardref04_size.f b = some (sz b) := by
  obtain ⟨n, hn, rfl⟩ := bits_nat_of h0 h1
  rw [size_nat n hn, sz_nat n hn]
theorem tmod_pos {a s : Int} (ha : 0 ≤ a) : Int.tmod a s = a % s := Int.tmod_eq_emod_of_nonneg ha
theorem refcheck_f {a : Int} (ha : 0 ≤ a) (ha2 : a < 4294967296) (b : Int) : vizardref04_Check.f a b = some (decide (okP a b)) := by
  have hw : wrap64 a = a := by unfold wrap64; omega
  unfold vizardref04_Check.f okP
  by_cases h0 : 0 ≤ b
  · by_cases h1 : b ≤ 32
    · have := sz_pos b
      rw [if_pos h0, if_pos h1, size_f h0 h1]
      simp only [Option.bind_some, h0, h1, true_and]
      rw [if_neg (by omega), hw, tmod_pos ha]
      rfl
    · rw [if_pos h0, if_neg h1]
      simp [h1]
  · rw [if_neg h0]
    simp [h0]
theorem refhas_f {a x : Int} (ha : 0 ≤ a) (ha2 : a < 4294967296) (hx : 0 ≤ x) (hx2 : x < 4294967296) (b : Int) : vizardref04_Has.f a b x = some (decide (hasP a b x)) := by
  unfold vizardref04_Has.f
  rw [refcheck_f ha ha2]
  simp only [Option.bind_some]
  by_cases h : okP a b
  · have hs := sum_lt ha ha2 h
    have hp := sz_pos b
    have hsz := sz_le h.1 h.2.1
    have e1 : wrap64 x = x := by unfold wrap64; omega
    have e2 : wrap64 (wrap64 a + sz b) = a + sz b := by unfold wrap64; omega
    rw [if_pos (decide_eq_true h), size_f h.1 h.2.1]
    simp only [Option.bind_some, e1, e2]
    by_cases h1 : x ≥ a
    · rw [if_pos h1]
      have : hasP a b x ↔ x < a + sz b := ⟨fun e => e.2.2, fun e => ⟨h, h1, e⟩⟩
      simp [this]
    · rw [if_neg h1]
      have : ¬ hasP a b x := fun e => h1 e.2.1
      simp [this]
  · rw [if_neg (by simp [h])]
    have : ¬ hasP a b x := fun e => h e.1
    simp [this]
theorem refends_f {a : Int} (ha : 0 ≤ a) (ha2 : a < 4294967296) (b : Int) : vizardref04_Ends.f a b = some (if okP a b then (a, a + sz b - 1) else (0, 0)) := by
  unfold vizardref04_Ends.f
  rw [refcheck_f ha ha2]
  simp only [Option.bind_some]
  by_cases h : okP a b
  · have hs := sum_lt ha ha2 h
    have hp := sz_pos b
    have hsz := sz_le h.1 h.2.1
    have e2 : wrap64 (wrap64 (wrap64 a + sz b) - 1) = a + sz b - 1 := by unfold wrap64; omega
    have e3 : (a + sz b - 1) % 4294967296 = a + sz b - 1 := by omega
    rw [if_pos (decide_eq_true h), size_f h.1 h.2.1, if_pos h]
    simp only [Option.bind_some, e2, e3]
  · rw [if_neg (by simp [h]), if_neg h]
end Go.Proofs.Ytcpneggifmldoaa.X

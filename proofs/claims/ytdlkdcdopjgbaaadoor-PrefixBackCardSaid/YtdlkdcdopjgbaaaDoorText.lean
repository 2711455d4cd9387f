/-
  What Text writes of an address, Parse reads as it was; what Print writes of a right prefix is cut and read as it was.
-/
import Derived.Test.YtdlkdcdopjgbaaaDoorRead
import Derived.Test.YtdlkdcdopjgbaaaDoorXx5
set_option linter.unusedVariables false
set_option linter.unusedSimpArgs false
set_option linter.unusedSectionVars false
namespace Go.Proofs.YtdlkdcdopjgbaaaDoor.X
open Go.RowKit Go.Proofs.YtdlkdcdopjgbaaaDoorW.PrintWords Go
theorem itoa_back : ∀ n : Nat, n < 256 → Lib.atoiAll (Lib.itoa (n : Int)) = .ok (n : Int) := by decide +kernel
theorem itoa_plain : ∀ n : Nat, n < 256 → ∀ c ∈ Lib.itoa (n : Int), c ≠ 46 ∧ c ≠ 47 := by decide +kernel
theorem part_itoa {b : Int} (h0 : 0 ≤ b) (h1 : b < 256) : partS (Lib.itoa b) = some b := by
  obtain ⟨n, rfl⟩ : ∃ n : Nat, b = n := ⟨b.toNat, by omega⟩
  unfold partS
  rw [itoa_back n (by omega)]
  have h2 : (n : Int) ≤ 255 := by omega
  simp [h2]
theorem itoa_no {b : Int} (h0 : 0 ≤ b) (h1 : b < 256) : ∀ c ∈ Lib.itoa b, c ≠ 46 := by
  obtain ⟨n, rfl⟩ : ∃ n : Nat, b = n := ⟨b.toNat, by omega⟩
  exact fun c hc => (itoa_plain n (by omega) c hc).1
theorem stepA_add {a n : Int} (a0 : 0 ≤ a) (a1 : a < 16777216) (n0 : 0 ≤ n) (n1 : n < 256) : stepA a n = a * 256 + n := by
  obtain ⟨x, rfl⟩ : ∃ x : Nat, a = x := ⟨a.toNat, by omega⟩
  obtain ⟨y, rfl⟩ : ∃ y : Nat, n = y := ⟨n.toNat, by omega⟩
  have e : ((x : Int) * 256 % 4294967296) = ((x * 256 : Nat) : Int) := by omega
  unfold stepA
  rw [e, BitVec.ofInt_natCast, BitVec.ofInt_natCast, BitVec.toNat_or, BitVec.toNat_ofNat, BitVec.toNat_ofNat, Nat.mod_eq_of_lt (by omega), Nat.mod_eq_of_lt (by omega)]
  have := Nat.shiftLeft_add_eq_or_of_lt (show y < 2 ^ 8 by omega) x
  rw [Nat.shiftLeft_eq] at this
  rw [show (2 : Nat) ^ 8 = 256 by decide] at this
  rw [← this]
  omega
def textS (a : Int) : List UInt8 := Lib.itoa (a / 16777216) ++ 46 :: (Lib.itoa (a / 65536 % 256) ++ 46 :: (Lib.itoa (a / 256 % 256) ++ 46 :: Lib.itoa (a % 256)))
theorem parse_text {a : Int} (h0 : 0 ≤ a) (h1 : a < 4294967296) : parseS (textS a) = (a, true) := by
  unfold parseS textS
  rw [dots_some (itoa_no (by omega) (by omega)), dots_some (itoa_no (by omega) (by omega)), dots_some (itoa_no (by omega) (by omega)), dots_none (itoa_no (by omega) (by omega))]
  have e1 : stepA 0 (a / 16777216) = a / 16777216 := by rw [stepA_add (by omega) (by omega) (by omega) (by omega)]; omega
  have e2 : stepA (a / 16777216) (a / 65536 % 256) = a / 65536 := by rw [stepA_add (by omega) (by omega) (by omega) (by omega)]; omega
  have e3 : stepA (a / 65536) (a / 256 % 256) = a / 256 := by rw [stepA_add (by omega) (by omega) (by omega) (by omega)]; omega
  have e4 : stepA (a / 256) (a % 256) = a := by rw [stepA_add (by omega) (by omega) (by omega) (by omega)]; omega
  have w : wrap64 (wrap64 (wrap64 (wrap64 (0 + 1) + 1) + 1) + 1) = 4 := by decide +kernel
  simp only [foldS, List.foldl_cons, List.foldl_nil, part_itoa (b := a / 16777216) (by omega) (by omega), part_itoa (b := a / 65536 % 256) (by omega) (by omega), part_itoa (b := a / 256 % 256) (by omega) (by omega), part_itoa (b := a % 256) (by omega) (by omega), Option.bind_some, e1, e2, e3, e4, w, if_true]
theorem itoa_len {b : Int} (h0 : 0 ≤ b) (h1 : b < 256) : (Lib.itoa b).length ≤ 3 := by
  have : ∀ n : Nat, n < 256 → (Lib.itoa (n : Int)).length ≤ 3 := by decide +kernel
  obtain ⟨n, rfl⟩ : ∃ n : Nat, b = n := ⟨b.toNat, by omega⟩
  exact this n (by omega)
theorem join4 (a b c d : List UInt8) : Lib.join [a, b, c, d] [46] = a ++ 46 :: (b ++ 46 :: (c ++ 46 :: d)) := by
  rw [Lib.join_cons]
  simp [Lib.joinTail]
theorem itoa_f {n : Int} (h0 : 0 ≤ n) (h1 : n < 4294967296) : strconv_Itoa.f n = some ⟨(Lib.itoa n).toArray⟩ := by
  unfold strconv_Itoa.f
  rw [if_pos (by omega)]
theorem byte_at {a : Int} (h0 : 0 ≤ a) (h1 : a < 4294967296) (k : Nat) (hk : k ≤ 24) : wrap64 (bits .and .u32 (shr .u32 a (k : Int)) 255) = a / 2 ^ k % 256 := by
  have hs : shr .u32 a (k : Int) = a / 2 ^ k := by
    unfold shr
    rw [Int.toNat_natCast, show min k IntKind.u32.bits = k from Nat.min_eq_left (by show k ≤ 32; omega)]
  have hp : (0 : Int) < 2 ^ k := Int.pow_pos (by decide)
  have d0 : 0 ≤ a / 2 ^ k := Int.ediv_nonneg h0 (Int.le_of_lt hp)
  have d1 : a / 2 ^ k ≤ a := Int.ediv_le_self _ h0
  have := and_sz (a := a / 2 ^ k) (b := 24) d0 (by omega) (by omega) (by omega)
  rw [show sz 24 = 256 by decide +kernel, show (256 : Int) - 1 = 255 by decide] at this
  rw [hs, this]
  unfold wrap64
  omega
/-- What Text writes. -/
theorem text_f {a : Int} (h0 : 0 ≤ a) (h1 : a < 4294967296) : Ev (fun k => prefix_Text.f k a) ⟨(textS a).toArray⟩ := by
  have b0 := byte_at h0 h1 24 (by omega)
  have b1 := byte_at h0 h1 16 (by omega)
  have b2 := byte_at h0 h1 8 (by omega)
  have b3 := byte_at h0 h1 0 (by omega)
  rw [show (2 : Int) ^ 24 = 16777216 by decide, show a / 16777216 % 256 = a / 16777216 by omega] at b0
  rw [show (2 : Int) ^ 16 = 65536 by decide] at b1
  rw [show (2 : Int) ^ 8 = 256 by decide] at b2
  rw [show (2 : Int) ^ 0 = 1 by decide, Int.ediv_one] at b3
  have hj : strings_Join.f [⟨(Lib.itoa (a / 16777216)).toArray⟩, ⟨(Lib.itoa (a / 65536 % 256)).toArray⟩, ⟨(Lib.itoa (a / 256 % 256)).toArray⟩, ⟨(Lib.itoa (a % 256)).toArray⟩] (⟨#[46]⟩ : ByteArray) = some ⟨(textS a).toArray⟩ := by
    have l0 := itoa_len (b := a / 16777216) (by omega) (by omega)
    have l1 := itoa_len (b := a / 65536 % 256) (by omega) (by omega)
    have l2 := itoa_len (b := a / 256 % 256) (by omega) (by omega)
    have l3 := itoa_len (b := a % 256) (by omega) (by omega)
    unfold strings_Join.f textS
    simp only [List.map_cons, List.map_nil, join4]
    rw [if_pos ⟨by simp, by simp, by simp; omega⟩]
  refine ⟨5, fun k hk => ?_⟩
  obtain ⟨k, rfl⟩ : ∃ m, k = m + 5 := ⟨k - 5, by omega⟩
  have w0 : wrap64 (24 - wrap64 (8 * 0)) = ((24 : Nat) : Int) := by decide +kernel
  have w1 : wrap64 (24 - wrap64 (8 * 1)) = ((16 : Nat) : Int) := by decide +kernel
  have w2 : wrap64 (24 - wrap64 (8 * 2)) = ((8 : Nat) : Int) := by decide +kernel
  have w3 : wrap64 (24 - wrap64 (8 * 3)) = ((0 : Nat) : Int) := by decide +kernel
  have v1 : wrap64 (0 + 1) = 1 := by decide +kernel
  have v2 : wrap64 (1 + 1) = 2 := by decide +kernel
  have v3 : wrap64 (2 + 1) = 3 := by decide +kernel
  have v4 : wrap64 (3 + 1) = 4 := by decide +kernel
  unfold prefix_Text.f
  simp only [prefix_Text.l0, w0, w1, w2, w3, v1, v2, v3, v4, b0, b1, b2, b3, itoa_f (n := a / 16777216) (by omega) (by omega), itoa_f (n := a / 65536 % 256) (by omega) (by omega), itoa_f (n := a / 256 % 256) (by omega) (by omega), itoa_f (n := a % 256) (by omega) (by omega), Option.bind_some, List.nil_append, List.cons_append, hj]
  simp
end Go.Proofs.YtdlkdcdopjgbaaaDoor.X

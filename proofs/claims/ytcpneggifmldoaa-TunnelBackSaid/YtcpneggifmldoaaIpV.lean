/-
  What the printed functions of the packets compute: get, Number, both sums, a number's bytes.
-/
import Derived.Test.YtcpneggifmldoaaIp
import Derived.Test.YtcpneggifmldoaaTx8
import Derived.Test.YtcpneggifmldoaaTx9
import Derived.Test.YtcpneggifmldoaaTx20
set_option linter.unusedVariables false
set_option linter.unusedSimpArgs false
namespace Go.Proofs.Ytcpneggifmldoaa.T
open Go.RowKit Go.Proofs.YtcpneggifmldoaaW.PrintWords Go.Proofs.YtcpneggifmldoaaW.PrintLast Go.Proofs.YtcpneggifmldoaaW.PrintMore Go
theorem wraps_u32 (n : Int) (h₀ : 0 ≤ n) (h₁ : n < 2 ^ 32) : IntKind.u32.wrap n = n := by
  rw [IntKind.wrap_u32]
  have : (2 : Int) ^ 32 = 4294967296 := rfl
  omega
theorem wraps_i64 (n : Int) (h₀ : 0 ≤ n) (h₁ : n < 2 ^ 63) : IntKind.i64.wrap n = n := by
  rw [IntKind.wrap_i64]
  have : (2 : Int) ^ 63 = 9223372036854775808 := rfl
  omega
theorem or_byte {v b : Int} (v0 : 0 ≤ v) (v1 : v < 16777216) (b0 : 0 ≤ b) (b1 : b ≤ 255) : Go.bits .or .u32 ((v * 256) % 4294967296) (b % 4294967296) = v * 256 + b := by
  rw [show (v * 256) % 4294967296 = v * 256 by omega, show b % 4294967296 = b by omega]
  have e8 : (2 : Int) ^ 8 = 256 := rfl
  have e32 : (2 : Int) ^ 32 = 4294967296 := rfl
  exact bits_join .u32 32 (by decide) wraps_u32 8 (v * 256) b (by omega) (by omega) (by omega) b0 (by omega) (by omega)
theorem get_l0 (x : ByteArray) (hx : x.size ≤ 4) : ∀ (d i : Nat) (v : Int) (k : Nat), i + d = x.size → d ≤ 4 → 0 ≤ v → v * 256 ^ d < 4294967296 → ipv4_get.l0 (k + d + 1) x v (x.size : Int) (i : Int) = some (foldV x i d v)
  | 0, i, v, k, hi, _, _, _ => by
    simp only [ipv4_get.l0, foldV]
    rw [if_neg (by omega)]
  | d + 1, i, v, k, hi, hd, v0, v1 => by
    have hb := bt_range x (i : Int)
    have hp : (256 : Int) ≤ 256 ^ (d + 1) := by
      have : d = 0 ∨ d = 1 ∨ d = 2 ∨ d = 3 := by omega
      rcases this with rfl | rfl | rfl | rfl <;> decide
    have hv : v * 256 ≤ v * 256 ^ (d + 1) := Int.mul_le_mul_of_nonneg_left hp v0
    have hv2 : v < 16777216 := by omega
    have ih := get_l0 x hx d (i + 1) (v * 256 + bt x i) k (by omega) (by omega) (by omega) (by
      have : d = 0 ∨ d = 1 ∨ d = 2 ∨ d = 3 := by omega
      rcases this with rfl | rfl | rfl | rfl <;> simp at v1 ⊢ <;> omega)
    rw [show k + (d + 1) + 1 = (k + d + 1) + 1 by omega]
    rw [ipv4_get.l0, if_pos (by omega), if_pos (by omega), if_pos (by omega), or_byte v0 hv2 hb.1 hb.2]
    rw [show wrap64 ((i : Int) + 1) = ((i + 1 : Nat) : Int) by unfold wrap64; omega]
    exact ih
theorem get_f (x : ByteArray) (h : x.size ≤ 4) : Ev (fun k => ipv4_get.f k x) (numV x) := by
  refine ⟨x.size + 1, fun k hk => ?_⟩
  obtain ⟨k, rfl⟩ : ∃ m, k = m + x.size + 1 := ⟨k - x.size - 1, by omega⟩
  exact get_l0 x h x.size 0 0 k (by omega) h (by omega) (by simp)
theorem number_l0 (x : ByteArray) (hx : x.size ≤ 4) : ∀ (d i : Nat) (v : Int) (k : Nat), i + d = x.size → d ≤ 4 → 0 ≤ v → v * 256 ^ d < 4294967296 → vizardref01_Number.l0 (k + d + 1) x v (i : Int) = some (foldV x i d v)
  | 0, i, v, k, hi, _, _, _ => by
    simp only [vizardref01_Number.l0, foldV]
    rw [if_neg (by omega)]
  | d + 1, i, v, k, hi, hd, v0, v1 => by
    have hb := bt_range x (i : Int)
    have hp : (256 : Int) ≤ 256 ^ (d + 1) := by
      have : d = 0 ∨ d = 1 ∨ d = 2 ∨ d = 3 := by omega
      rcases this with rfl | rfl | rfl | rfl <;> decide
    have hv : v * 256 ≤ v * 256 ^ (d + 1) := Int.mul_le_mul_of_nonneg_left hp v0
    have hv2 : v < 16777216 := by omega
    have ih := number_l0 x hx d (i + 1) (v * 256 + bt x i) k (by omega) (by omega) (by omega) (by
      have : d = 0 ∨ d = 1 ∨ d = 2 ∨ d = 3 := by omega
      rcases this with rfl | rfl | rfl | rfl <;> simp at v1 ⊢ <;> omega)
    rw [show k + (d + 1) + 1 = (k + d + 1) + 1 by omega]
    rw [vizardref01_Number.l0, if_pos (by omega), if_pos (by omega)]
    rw [show wrap64 ((i : Int) + 1) = ((i + 1 : Nat) : Int) by unfold wrap64; omega, show wrap64 (wrap64 (v * 256) + wrap64 (bt x i)) = v * 256 + bt x i by unfold wrap64; omega]
    exact ih
theorem number_f (x : ByteArray) (h : x.size ≤ 4) : Ev (fun k => vizardref01_Number.f k x) (numV x) := by
  refine ⟨x.size + 1, fun k hk => ?_⟩
  obtain ⟨k, rfl⟩ : ∃ m, k = m + x.size + 1 := ⟨k - x.size - 1, by omega⟩
  exact number_l0 x h x.size 0 0 k (by omega) h (by omega) (by simp)
theorem and_word {n : Int} (h0 : 0 ≤ n) (h1 : n < 4294967296) : Go.bits .and .i64 n 65535 = n % 65536 := by
  have := bits_mask .i64 63 (by decide) wraps_i64 16 (by decide) n h0 (by have : (2 : Int) ^ 63 = 9223372036854775808 := rfl; omega)
  simpa using this
theorem sum_l1 {n : Int} (h0 : 0 ≤ n) (h1 : n ≤ 655350) (k : Nat) : ipv4_Sum.l1 (k + 3) n = some (65535 - fold1 (fold1 n)) := by
  have w : ∀ m : Int, 0 ≤ m → m ≤ 655350 → wrap64 (Go.bits .and .i64 m 65535 + m / 65536) = m % 65536 + m / 65536 := fun m a b => by
    rw [and_word a (by omega)]; unfold wrap64; omega
  have w2 : ∀ m : Int, 0 ≤ m → m ≤ 65535 → wrap64 (65535 - m) = 65535 - m := fun m a b => by unfold wrap64; omega
  by_cases c : n > 65535
  · rw [ipv4_Sum.l1, if_pos c, w n h0 h1]
    have e1 : fold1 n = n % 65536 + n / 65536 := by unfold fold1; rw [if_pos c]
    rw [e1]
    have r1 : 0 ≤ n % 65536 + n / 65536 := by omega
    have r2 : n % 65536 + n / 65536 ≤ 65545 := by omega
    generalize n % 65536 + n / 65536 = m at *
    by_cases c2 : m > 65535
    · rw [ipv4_Sum.l1, if_pos c2, w m r1 (by omega), ipv4_Sum.l1, if_neg (by omega), w2 _ (by omega) (by omega)]
      unfold fold1; rw [if_pos c2]
    · rw [ipv4_Sum.l1, if_neg c2, w2 m r1 (by omega)]
      unfold fold1; rw [if_neg c2]
  · have e1 : fold1 n = n := by unfold fold1; rw [if_neg c]
    rw [ipv4_Sum.l1, if_neg c, w2 n h0 (by omega), e1, e1]
theorem rsum_l1 {n : Int} (h0 : 0 ≤ n) (h1 : n ≤ 655350) (k : Nat) : vizardref02_Sum.l1 (k + 3) n = some (65535 - fold1 (fold1 n)) := by
  have w : ∀ m : Int, 0 ≤ m → m ≤ 655350 → wrap64 (Int.tmod m 65536 + wrap64 (Int.tdiv m 65536)) = m % 65536 + m / 65536 := fun m a b => by
    rw [Int.tmod_eq_emod_of_nonneg a, Int.tdiv_eq_ediv_of_nonneg a]; unfold wrap64; omega
  have w2 : ∀ m : Int, 0 ≤ m → m ≤ 65535 → wrap64 (65535 - m) = 65535 - m := fun m a b => by unfold wrap64; omega
  by_cases c : n > 65535
  · rw [vizardref02_Sum.l1, if_pos c, w n h0 h1]
    have e1 : fold1 n = n % 65536 + n / 65536 := by unfold fold1; rw [if_pos c]
    rw [e1]
    have r1 : 0 ≤ n % 65536 + n / 65536 := by omega
    have r2 : n % 65536 + n / 65536 ≤ 65545 := by omega
    generalize n % 65536 + n / 65536 = m at *
    by_cases c2 : m > 65535
    · rw [vizardref02_Sum.l1, if_pos c2, w m r1 (by omega), vizardref02_Sum.l1, if_neg (by omega), w2 _ (by omega) (by omega)]
      unfold fold1; rw [if_pos c2]
    · rw [vizardref02_Sum.l1, if_neg c2, w2 m r1 (by omega)]
      unfold fold1; rw [if_neg c2]
  · have e1 : fold1 n = n := by unfold fold1; rw [if_neg c]
    rw [vizardref02_Sum.l1, if_neg c, w2 n h0 (by omega), e1, e1]
/-- A round of the program's sum. -/
theorem sum_even (x : ByteArray) (k i : Nat) (n : Int) (hi : 2 * i < x.size) (hs : x.size ≤ 1000) (h0 : 0 ≤ n) (h1 : n ≤ 1000000) : ipv4_Sum.l0 (k + 1) x n (x.size : Int) ((2 * i : Nat) : Int) = ipv4_Sum.l0 k x (n + bt x ((2 * i : Nat) : Int) * 256) (x.size : Int) ((2 * i + 1 : Nat) : Int) := by
  have hb := bt_range x ((2 * i : Nat) : Int)
  have e : wrap64 (8 * wrap64 (1 - Int.tmod ((2 * i : Nat) : Int) 2)) = 8 := by
    rw [Int.tmod_eq_emod_of_nonneg (by omega)]; unfold wrap64; omega
  have e2 : shl .i64 (wrap64 (bt x ((2 * i : Nat) : Int))) 8 = bt x ((2 * i : Nat) : Int) * 256 := by
    unfold shl
    rw [show min (8 : Int).toNat IntKind.i64.bits = 8 by decide, i64_w]
    unfold wrap64
    have : (2 : Int) ^ 8 = 256 := rfl
    omega
  rw [ipv4_Sum.l0, if_pos (by omega), if_pos (by omega), if_pos (by omega), e, if_pos (by omega), e2]
  rw [show wrap64 (((2 * i : Nat) : Int) + 1) = ((2 * i + 1 : Nat) : Int) by unfold wrap64; omega, show wrap64 (n + bt x ((2 * i : Nat) : Int) * 256) = n + bt x ((2 * i : Nat) : Int) * 256 by unfold wrap64; omega]
theorem sum_odd (x : ByteArray) (k i : Nat) (n : Int) (hi : 2 * i + 1 < x.size) (hs : x.size ≤ 1000) (h0 : 0 ≤ n) (h1 : n ≤ 1000000) : ipv4_Sum.l0 (k + 1) x n (x.size : Int) ((2 * i + 1 : Nat) : Int) = ipv4_Sum.l0 k x (n + bt x ((2 * i + 1 : Nat) : Int)) (x.size : Int) ((2 * (i + 1) : Nat) : Int) := by
  have hb := bt_range x ((2 * i + 1 : Nat) : Int)
  have e : wrap64 (8 * wrap64 (1 - Int.tmod ((2 * i + 1 : Nat) : Int) 2)) = 0 := by
    rw [Int.tmod_eq_emod_of_nonneg (by omega)]; unfold wrap64; omega
  have e2 : shl .i64 (wrap64 (bt x ((2 * i + 1 : Nat) : Int))) 0 = bt x ((2 * i + 1 : Nat) : Int) := by
    unfold shl
    rw [show min (0 : Int).toNat IntKind.i64.bits = 0 by decide, i64_w]
    unfold wrap64
    have : (2 : Int) ^ 0 = 1 := rfl
    omega
  rw [ipv4_Sum.l0, if_pos (by omega), if_pos (by omega), if_pos (by omega), e, if_pos (by omega), e2]
  rw [show wrap64 (((2 * i + 1 : Nat) : Int) + 1) = ((2 * (i + 1) : Nat) : Int) by unfold wrap64; omega, show wrap64 (n + bt x ((2 * i + 1 : Nat) : Int)) = n + bt x ((2 * i + 1 : Nat) : Int) by unfold wrap64; omega]
theorem sum_l0 (x : ByteArray) (hs : x.size = 20) : ∀ (d i : Nat) (n : Int) (k : Nat), i + d = 10 → 0 ≤ n → n ≤ 65535 * i → ipv4_Sum.l0 (k + 2 * d + 4) x n (x.size : Int) ((2 * i : Nat) : Int) = some (65535 - fold1 (fold1 (n + wordsV x (2 * i) d)))
  | 0, i, n, k, hi, h0, h1 => by
    rw [show k + 2 * 0 + 4 = (k + 3) + 1 by omega, ipv4_Sum.l0, if_neg (by omega), sum_l1 h0 (by omega)]
    simp [wordsV]
  | d + 1, i, n, k, hi, h0, h1 => by
    have hb := bt_range x ((2 * i : Nat) : Int)
    have hb' := bt_range x ((2 * i + 1 : Nat) : Int)
    rw [show k + 2 * (d + 1) + 4 = (k + 2 * d + 4) + 1 + 1 by omega, sum_even x _ i n (by omega) (by omega) h0 (by omega), sum_odd x _ i _ (by omega) (by omega) (by omega) (by omega)]
    rw [sum_l0 x hs d (i + 1) _ k (by omega) (by omega) (by omega)]
    simp only [wordsV, n2]
    rw [show 2 * (i + 1) = 2 * i + 2 by omega]
    congr 4
    omega
theorem sum_f (x : ByteArray) (hs : x.size = 20) : Ev (fun k => ipv4_Sum.f k x) (sumV x) := by
  refine ⟨24, fun k hk => ?_⟩
  obtain ⟨k, rfl⟩ : ∃ m, k = m + 2 * 10 + 4 := ⟨k - 24, by omega⟩
  have := sum_l0 x hs 10 0 0 k rfl (by omega) (by omega)
  rw [Int.zero_add, show ((2 * 0 : Nat) : Int) = 0 from rfl, show 2 * 0 = 0 from rfl] at this
  show ipv4_Sum.f (k + 2 * 10 + 4) x = some (sumV x)
  unfold ipv4_Sum.f sumV
  exact this
theorem rsum_end (x : ByteArray) (hs : x.size = 20) (i : Nat) (n : Int) (k : Nat) (hi : i = 10) (h0 : 0 ≤ n) (h1 : n ≤ 655350) : vizardref02_Sum.l0 (k + 8) x n ((2 * i : Nat) : Int) = some (65535 - fold1 (fold1 n)) := by
    rw [show k + 8 = (k + 4 + 3) + 1 by omega, vizardref02_Sum.l0, if_neg (by unfold wrap64; omega), rsum_l1 h0 (by omega)]
theorem rsum_word (x : ByteArray) (hs : x.size = 20) (i : Nat) (k : Nat) (hi : 2 * i + 2 ≤ 20) : vizardref01_Number.f (k + 8) (x.extract ((2 * i : Nat) : Int).toNat ((2 * i + 2 : Nat) : Int).toNat) = some (n2 x (2 * i)) := by
      rw [Int.toNat_natCast, Int.toNat_natCast, ← numV2 x (2 * i) (by omega)]
      have hz := size_extract' x (2 * i) (2 * i + 2) (by omega)
      have := number_l0 (x.extract (2 * i) (2 * i + 2)) (by omega) 2 0 0 (k + 5) (by omega) (by omega) (by omega) (by simp)
      unfold vizardref01_Number.f numV
      rw [hz, show 2 * i + 2 - 2 * i = 2 by omega, show k + 8 = k + 5 + 2 + 1 by omega]
      exact this

theorem rsum_round (x : ByteArray) (n : Int) (i : Int) (k : Nat) (a : wrap64 (i + 1) < (x.size : Int)) (b : 0 ≤ i) (c : i ≤ wrap64 (i + 2)) (d : wrap64 (i + 2) ≤ (x.size : Int)) : vizardref02_Sum.l0 (k + 1) x n i = (vizardref01_Number.f k (x.extract i.toNat (wrap64 (i + 2)).toNat)).bind fun t129 => (vizardref02_Sum.l0 k x (wrap64 (n + t129)) (wrap64 (i + 2))) := by
    rw [vizardref02_Sum.l0, if_pos a, if_pos b, if_pos c, if_pos d]
theorem rsum_next (x : ByteArray) (hs : x.size = 20) (i : Nat) (n : Int) (k : Nat) (hi : i < 10) (h0 : 0 ≤ n) (h1 : n ≤ 655350) : vizardref02_Sum.l0 (k + 8 + 1) x n ((2 * i : Nat) : Int) = vizardref02_Sum.l0 (k + 8) x (n + n2 x (2 * i)) ((2 * i + 2 : Nat) : Int) := by
    have hb := n2_range x (2 * i)
    have w1 : wrap64 (((2 * i : Nat) : Int) + 1) = ((2 * i + 1 : Nat) : Int) := by unfold wrap64; omega
    have w2 : wrap64 (((2 * i : Nat) : Int) + 2) = ((2 * i + 2 : Nat) : Int) := by unfold wrap64; omega
    have hr := rsum_word x hs i k (by omega)
    rw [rsum_round x n _ (k + 8) (by rw [w1]; omega) (by omega) (by rw [w2]; omega) (by rw [w2]; omega), w2, hr, Option.bind_some]
    rw [show wrap64 (n + n2 x (2 * i)) = n + n2 x (2 * i) by unfold wrap64; omega]
theorem rsum_l0 (x : ByteArray) (hs : x.size = 20) : ∀ (d i : Nat) (n : Int) (k : Nat), i + d = 10 → 0 ≤ n → n ≤ 65535 * i → vizardref02_Sum.l0 (k + d + 8) x n ((2 * i : Nat) : Int) = some (65535 - fold1 (fold1 (n + wordsV x (2 * i) d)))
  | 0, i, n, k, hi, h0, h1 => by
    have := rsum_end x hs i n k (by omega) h0 (by omega)
    rw [Nat.add_zero, this]
    simp [wordsV]
  | d + 1, i, n, k, hi, h0, h1 => by
    have hb := n2_range x (2 * i)
    rw [show k + (d + 1) + 8 = k + d + 8 + 1 by omega, rsum_next x hs i n (k + d) (by omega) h0 (by omega)]
    have := rsum_l0 x hs d (i + 1) (n + n2 x (2 * i)) k (by omega) (by omega) (by omega)
    rw [show 2 * (i + 1) = 2 * i + 2 by omega] at this
    rw [this]
    simp only [wordsV]
    congr 4
    omega
theorem rsum_f (x : ByteArray) (hs : x.size = 20) : Ev (fun k => vizardref02_Sum.f k x) (sumV x) := by
  refine ⟨19, fun k hk => ?_⟩
  obtain ⟨k, rfl⟩ : ∃ m, k = (m + 10 + 8) + 1 := ⟨k - 19, by omega⟩
  have := rsum_l0 x hs 10 0 0 k rfl (by omega) (by omega)
  rw [Int.zero_add, show ((2 * 0 : Nat) : Int) = 0 from rfl] at this
  show vizardref02_Sum.f (k + 10 + 8 + 1) x = _
  unfold vizardref02_Sum.f
  rw [if_neg (by omega), vizardref02_Sum.j0]
  exact this
theorem bytes0 (k : Nat) (n : Int) : vizardref01_Bytes.f (k + 1) n 0 = some ⟨#[]⟩ := by rw [vizardref01_Bytes.f, if_pos rfl]
theorem bytesS (k : Nat) (n : Int) (m : Nat) (h0 : 0 ≤ n) (h1 : n < 9223372036854775808) (hm : m < 8) (r : ByteArray) (hr : r.size ≤ 8) (h : vizardref01_Bytes.f k (n / 256) m = some r) : vizardref01_Bytes.f (k + 1) n ((m + 1 : Nat) : Int) = some (r ++ ⟨#[u8 n]⟩) := by
  have e : strOfNums [Int.tmod n 256 % 256] = ⟨#[u8 n]⟩ := by
    rw [Int.tmod_eq_emod_of_nonneg h0, Int.emod_emod]; rfl
  rw [vizardref01_Bytes.f, if_neg (by omega), Int.tdiv_eq_ediv_of_nonneg h0, show wrap64 (n / 256) = n / 256 by unfold wrap64; omega, show wrap64 (((m + 1 : Nat) : Int) - 1) = (m : Int) by unfold wrap64; omega, h]
  simp only [Option.bind_some]
  rw [e, if_pos (by have : (⟨#[u8 n]⟩ : ByteArray).size = 1 := rfl; omega)]
theorem b_f {k : Nat} {n m : Int} {r : ByteArray} (h : vizardref01_Bytes.f k n m = some r) : vizardref02_b.f k n m = some r := by
  unfold vizardref02_b.f
  rw [h]
  rfl
theorem b1_f (k : Nat) (n : Int) (h0 : 0 ≤ n) (h1 : n < 9223372036854775808) : vizardref02_b.f (k + 2) n 1 = some ⟨#[u8 n]⟩ := b_f (bytesS (k + 1) n 0 h0 h1 (by omega) ⟨#[]⟩ (by decide) (bytes0 k _))
theorem b2_f (k : Nat) (n : Int) (h0 : 0 ≤ n) (h1 : n < 9223372036854775808) : vizardref02_b.f (k + 3) n 2 = some ⟨#[u8 (n / 256), u8 n]⟩ :=
  b_f (bytesS (k + 2) n 1 h0 h1 (by omega) ⟨#[u8 (n / 256)]⟩ (by show (1 : Nat) ≤ 8; omega) (bytesS (k + 1) (n / 256) 0 (by omega) (by omega) (by omega) ⟨#[]⟩ (by decide) (bytes0 k _)))
theorem b4_f (k : Nat) (n : Int) (h0 : 0 ≤ n) (h1 : n < 9223372036854775808) : vizardref02_b.f (k + 5) n 4 = some ⟨#[u8 (n / 16777216), u8 (n / 65536), u8 (n / 256), u8 n]⟩ := by
  have e2 : n / 256 / 256 = n / 65536 := by omega
  have e3 : n / 256 / 256 / 256 = n / 16777216 := by omega
  refine b_f ?_
  rw [← e2, ← e3]
  exact bytesS (k + 4) n 3 h0 h1 (by omega) ⟨#[u8 (n / 256 / 256 / 256), u8 (n / 256 / 256), u8 (n / 256)]⟩ (by show (3 : Nat) ≤ 8; omega)
    (bytesS (k + 3) (n / 256) 2 (by omega) (by omega) (by omega) ⟨#[u8 (n / 256 / 256 / 256), u8 (n / 256 / 256)]⟩ (by show (2 : Nat) ≤ 8; omega)
      (bytesS (k + 2) (n / 256 / 256) 1 (by omega) (by omega) (by omega) ⟨#[u8 (n / 256 / 256 / 256)]⟩ (by show (1 : Nat) ≤ 8; omega)
        (bytesS (k + 1) (n / 256 / 256 / 256) 0 (by omega) (by omega) (by omega) ⟨#[]⟩ (by decide) (bytes0 k _))))
end Go.Proofs.Ytcpneggifmldoaa.T

/-
  Packets of IPv4 in plain words: numbers of bytes, the check sum, a header's bytes, what a packet parses to, what a header builds.
-/
import Derived.Test.YtcpneggifmldoaaWWords
set_option linter.unusedVariables false
set_option linter.unusedSimpArgs false
namespace Go.Proofs.Ytcpneggifmldoaa.T
open Go.RowKit Go.Proofs.YtcpneggifmldoaaW.PrintWords Go
/-- A byte of a number. -/
def u8 (n : Int) : UInt8 := UInt8.ofNat (n % 256).toNat
theorem u8_nat (n : Int) : ((u8 n).toNat : Int) = n % 256 := by
  unfold u8
  rw [UInt8.toNat_ofNat']
  have h0 := Int.emod_nonneg n (show (256 : Int) ≠ 0 by decide)
  have h1 := Int.emod_lt_of_pos n (show (0 : Int) < 256 by decide)
  rw [Nat.mod_eq_of_lt (by omega)]
  omega
theorem u8_ext {a b : UInt8} (h : (a.toNat : Int) = b.toNat) : a = b := UInt8.toNat_inj.1 (by omega)
theorem u8_back (b : UInt8) : u8 (b.toNat : Int) = b := u8_ext (by rw [u8_nat]; have := b.toNat_lt; omega)
/-- Bytes, added to a number from a place on. -/
def foldV (x : ByteArray) : Nat → Nat → Int → Int
  | _, 0, v => v
  | i, d + 1, v => foldV x (i + 1) d (v * 256 + bt x i)
/-- The number of some bytes. -/
def numV (x : ByteArray) : Int := foldV x 0 x.size 0
def n2 (s : ByteArray) (i : Nat) : Int := bt s i * 256 + bt s ((i + 1 : Nat) : Int)
def n4 (s : ByteArray) (i : Nat) : Int := ((bt s i * 256 + bt s ((i + 1 : Nat) : Int)) * 256 + bt s ((i + 2 : Nat) : Int)) * 256 + bt s ((i + 3 : Nat) : Int)
theorem bt_nat (s : ByteArray) (i : Nat) (h : i < s.size) : bt s (i : Int) = ((s[i]'h).toNat : Int) := by
  have := bt_at s (i : Int) (by simpa using h)
  rw [← this]
  rfl
theorem bt_extract (s : ByteArray) (a b i : Nat) (hb : b ≤ s.size) (hi : a + i < b) : bt (s.extract a b) (i : Int) = bt s ((a + i : Nat) : Int) := by
  rw [bt_nat s (a + i) (by omega), bt_nat (s.extract a b) i (by rw [ByteArray.size_extract]; omega)]
  rw [ByteArray.getElem_extract]
theorem size_extract' (s : ByteArray) (a b : Nat) (hb : b ≤ s.size) : (s.extract a b).size = b - a := by
  rw [ByteArray.size_extract]; omega
theorem numV2 (s : ByteArray) (a : Nat) (h : a + 2 ≤ s.size) : numV (s.extract a (a + 2)) = n2 s a := by
  unfold numV
  rw [size_extract' s _ _ h, show a + 2 - a = 2 by omega]
  simp only [foldV]
  rw [bt_extract s a (a + 2) 0 h (by omega), bt_extract s a (a + 2) (0 + 1) h (by omega)]
  unfold n2
  simp
theorem numV4 (s : ByteArray) (a : Nat) (h : a + 4 ≤ s.size) : numV (s.extract a (a + 4)) = n4 s a := by
  unfold numV
  rw [size_extract' s _ _ h, show a + 4 - a = 4 by omega]
  simp only [foldV]
  rw [bt_extract s a (a + 4) 0 h (by omega), bt_extract s a (a + 4) (0 + 1) h (by omega), bt_extract s a (a + 4) (0 + 1 + 1) h (by omega), bt_extract s a (a + 4) (0 + 1 + 1 + 1) h (by omega)]
  unfold n4
  simp
theorem n2_range (s : ByteArray) (i : Nat) : 0 ≤ n2 s i ∧ n2 s i ≤ 65535 := by
  have := bt_range s i
  have := bt_range s ((i + 1 : Nat) : Int)
  unfold n2
  omega
theorem n4_range (s : ByteArray) (i : Nat) : 0 ≤ n4 s i ∧ n4 s i ≤ 4294967295 := by
  have := bt_range s i
  have := bt_range s ((i + 1 : Nat) : Int)
  have := bt_range s ((i + 2 : Nat) : Int)
  have := bt_range s ((i + 3 : Nat) : Int)
  unfold n4
  omega
/-- The sum's words, from a place on. -/
def wordsV (x : ByteArray) : Nat → Nat → Int
  | _, 0 => 0
  | i, d + 1 => n2 x i + wordsV x (i + 2) d
theorem wordsV_range (x : ByteArray) : ∀ (d i : Nat), 0 ≤ wordsV x i d ∧ wordsV x i d ≤ 65535 * d
  | 0, _ => by simp [wordsV]
  | d + 1, i => by
    have := wordsV_range x d (i + 2)
    have := n2_range x i
    simp only [wordsV]
    omega
def fold1 (n : Int) : Int := if n > 65535 then n % 65536 + n / 65536 else n
/-- The check sum of twenty bytes. -/
def sumV (x : ByteArray) : Int := 65535 - fold1 (fold1 (wordsV x 0 10))
theorem fold1_range {n : Int} (h0 : 0 ≤ n) (h1 : n ≤ 655350) : 0 ≤ fold1 n ∧ fold1 n ≤ 65545 := by
  unfold fold1; split <;> omega
theorem fold2_range {n : Int} (h0 : 0 ≤ n) (h1 : n ≤ 655350) : 0 ≤ fold1 (fold1 n) ∧ fold1 (fold1 n) ≤ 65535 := by
  have := fold1_range h0 h1
  generalize fold1 n = m at *
  unfold fold1; split <;> omega
theorem sumV_range (x : ByteArray) : 0 ≤ sumV x ∧ sumV x ≤ 65535 := by
  have h := wordsV_range x 10 0
  have := fold2_range h.1 (by omega)
  unfold sumV
  omega
/-- A header's twenty bytes. -/
def hdrV (len tos id frag ttl proto sum src dst : Int) : ByteArray :=
  ⟨#[69, u8 tos, u8 (len / 256), u8 len, u8 (id / 256), u8 id, u8 (frag / 256), u8 frag, u8 ttl, u8 proto, u8 (sum / 256), u8 sum,
    u8 (src / 16777216), u8 (src / 65536), u8 (src / 256), u8 src, u8 (dst / 16777216), u8 (dst / 65536), u8 (dst / 256), u8 dst]⟩
def okH (tos id frag ttl proto : Int) : Prop := (0 ≤ tos ∧ tos ≤ 255) ∧ (0 ≤ ttl ∧ ttl ≤ 255) ∧ (0 ≤ proto ∧ proto ≤ 255) ∧ (0 ≤ id ∧ id ≤ 65535) ∧ (0 ≤ frag ∧ frag ≤ 65535)
instance (a b c d e : Int) : Decidable (okH a b c d e) := inferInstanceAs (Decidable (_ ∧ _))
def packV (tos id frag ttl proto src dst : Int) (data : ByteArray) : ByteArray :=
  hdrV (20 + data.size) tos id frag ttl proto (sumV (hdrV (20 + data.size) tos id frag ttl proto 0 src dst)) src dst ++ data
/-- What a header builds. -/
def buildV (tos id frag ttl proto src dst : Int) (data : ByteArray) : ByteArray × Int :=
  if okH tos id frag ttl proto then if data.size ≤ 65515 then (packV tos id frag ttl proto src dst data, 0) else (⟨#[]⟩, 8) else (⟨#[]⟩, 2)
abbrev Hd := Int × Int × Int × Int × Int × Int × Int × ByteArray × Int
def badH (e : Int) : Hd := (0, 0, 0, 0, 0, 0, 0, ⟨#[]⟩, e)
/-- A packet, its sum set to nothing. -/
def zeroed (s : ByteArray) : ByteArray := s.extract 0 10 ++ ⟨#[0, 0]⟩ ++ s.extract 12 20
/-- What some bytes are as a packet. -/
def parseV (s : ByteArray) : Hd :=
  if s.size < 20 then badH 1 else if bt s 0 = 69 then if n2 s 2 < 20 ∨ (s.size : Int) < n2 s 2 then badH 1 else if (s.size : Int) = n2 s 2 then
    if sumV (zeroed s) = n2 s 10 then (bt s 1, n2 s 4, n2 s 6, bt s 8, bt s 9, n4 s 12, n4 s 16, s.extract 20 s.size, 0) else badH 9 else badH 6 else badH 3
def hdA (r : Hd) : Array Value := #[.int .i64 r.1, .int .i64 r.2.1, .int .i64 r.2.2.1, .int .i64 r.2.2.2.1, .int .i64 r.2.2.2.2.1, .int .u32 r.2.2.2.2.2.1, .int .u32 r.2.2.2.2.2.2.1, .string r.2.2.2.2.2.2.2.1]
def hdV (r : Hd) : Value := .tuple #[.agg (hdA r), .int .i64 r.2.2.2.2.2.2.2.2]
def hdO (s : ByteArray) : Hd := (bt s 1, n2 s 4, n2 s 6, bt s 8, bt s 9, n4 s 12, n4 s 16, s.extract 20 s.size, 0)
theorem wrap_n {n : Int} (h0 : 0 ≤ n) (h1 : n ≤ 4294967295) : wrap64 n = n := by unfold wrap64; omega
end Go.Proofs.Ytcpneggifmldoaa.T

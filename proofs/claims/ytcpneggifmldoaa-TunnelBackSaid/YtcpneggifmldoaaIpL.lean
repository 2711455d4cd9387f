/-
  Plain laws of packets: a packet's bytes one by one; what is built is parsed as it was; a packet is right just if it is what its fields build.
-/
import Derived.Test.YtcpneggifmldoaaIp
import Derived.Lib.Strings
set_option linter.unusedVariables false
set_option linter.unusedSimpArgs false
namespace Go.Proofs.Ytcpneggifmldoaa.T
open Go.RowKit Go.Proofs.YtcpneggifmldoaaW.PrintWords Go
/-- Twenty bytes and what is behind. -/
def by20 (b0 b1 b2 b3 b4 b5 b6 b7 b8 b9 b10 b11 b12 b13 b14 b15 b16 b17 b18 b19 : UInt8) (r : List UInt8) : ByteArray := ⟨(b0 :: b1 :: b2 :: b3 :: b4 :: b5 :: b6 :: b7 :: b8 :: b9 :: b10 :: b11 :: b12 :: b13 :: b14 :: b15 :: b16 :: b17 :: b18 :: b19 :: r).toArray⟩
theorem cons_of {n : Nat} {l : List UInt8} (h : n + 1 ≤ l.length) : ∃ b t, l = b :: t ∧ n ≤ t.length := by
  cases l with
  | nil => simp at h
  | cons b t => exact ⟨b, t, rfl, by simp at h; omega⟩
theorem by20_of {s : ByteArray} (h : 20 ≤ s.size) : ∃ b0 b1 b2 b3 b4 b5 b6 b7 b8 b9 b10 b11 b12 b13 b14 b15 b16 b17 b18 b19 r, s = by20 b0 b1 b2 b3 b4 b5 b6 b7 b8 b9 b10 b11 b12 b13 b14 b15 b16 b17 b18 b19 r := by
  obtain ⟨⟨l⟩⟩ := s
  have h : 20 ≤ l.length := h
  obtain ⟨b0, l0, e0, h0⟩ := cons_of h
  obtain ⟨b1, l1, e1, h1⟩ := cons_of h0
  obtain ⟨b2, l2, e2, h2⟩ := cons_of h1
  obtain ⟨b3, l3, e3, h3⟩ := cons_of h2
  obtain ⟨b4, l4, e4, h4⟩ := cons_of h3
  obtain ⟨b5, l5, e5, h5⟩ := cons_of h4
  obtain ⟨b6, l6, e6, h6⟩ := cons_of h5
  obtain ⟨b7, l7, e7, h7⟩ := cons_of h6
  obtain ⟨b8, l8, e8, h8⟩ := cons_of h7
  obtain ⟨b9, l9, e9, h9⟩ := cons_of h8
  obtain ⟨b10, l10, e10, h10⟩ := cons_of h9
  obtain ⟨b11, l11, e11, h11⟩ := cons_of h10
  obtain ⟨b12, l12, e12, h12⟩ := cons_of h11
  obtain ⟨b13, l13, e13, h13⟩ := cons_of h12
  obtain ⟨b14, l14, e14, h14⟩ := cons_of h13
  obtain ⟨b15, l15, e15, h15⟩ := cons_of h14
  obtain ⟨b16, l16, e16, h16⟩ := cons_of h15
  obtain ⟨b17, l17, e17, h17⟩ := cons_of h16
  obtain ⟨b18, l18, e18, h18⟩ := cons_of h17
  obtain ⟨b19, l19, e19, h19⟩ := cons_of h18
  refine ⟨b0, b1, b2, b3, b4, b5, b6, b7, b8, b9, b10, b11, b12, b13, b14, b15, b16, b17, b18, b19, l19, ?_⟩
  rw [e0, e1, e2, e3, e4, e5, e6, e7, e8, e9, e10, e11, e12, e13, e14, e15, e16, e17, e18, e19]
  rfl
section
variable (b0 b1 b2 b3 b4 b5 b6 b7 b8 b9 b10 b11 b12 b13 b14 b15 b16 b17 b18 b19 : UInt8) (r : List UInt8)
theorem by20_size : (by20 b0 b1 b2 b3 b4 b5 b6 b7 b8 b9 b10 b11 b12 b13 b14 b15 b16 b17 b18 b19 r).size = r.length + 20 := by simp [by20, ByteArray.size]
theorem by20_rest : (by20 b0 b1 b2 b3 b4 b5 b6 b7 b8 b9 b10 b11 b12 b13 b14 b15 b16 b17 b18 b19 r).extract 20 (by20 b0 b1 b2 b3 b4 b5 b6 b7 b8 b9 b10 b11 b12 b13 b14 b15 b16 b17 b18 b19 r).size = ⟨r.toArray⟩ := by
  apply ByteArray.ext
  rw [by20_size]
  simp [by20, ByteArray.data_extract, List.take_of_length_le]
theorem by20_zeroed : zeroed (by20 b0 b1 b2 b3 b4 b5 b6 b7 b8 b9 b10 b11 b12 b13 b14 b15 b16 b17 b18 b19 r) = ⟨#[b0, b1, b2, b3, b4, b5, b6, b7, b8, b9, 0, 0, b12, b13, b14, b15, b16, b17, b18, b19]⟩ := by
  unfold zeroed
  apply ByteArray.ext
  simp [by20, ByteArray.data_extract, ByteArray.data_append]
theorem bt_of (l : List UInt8) (i : Nat) (b : UInt8) (h : l[i]? = some b) : bt ⟨l.toArray⟩ (i : Int) = b.toNat := by
  obtain ⟨hi, hb⟩ := List.getElem?_eq_some_iff.1 h
  rw [bt_nat _ i (by simpa [ByteArray.size] using hi)]
  have : (⟨l.toArray⟩ : ByteArray)[i]'(by simpa [ByteArray.size] using hi) = l[i] := by simp [ByteArray.getElem_eq_getElem_data]
  rw [this, hb]
theorem bt0 : bt (by20 b0 b1 b2 b3 b4 b5 b6 b7 b8 b9 b10 b11 b12 b13 b14 b15 b16 b17 b18 b19 r) ((0 : Nat) : Int) = b0.toNat := bt_of _ 0 _ rfl
theorem bt1 : bt (by20 b0 b1 b2 b3 b4 b5 b6 b7 b8 b9 b10 b11 b12 b13 b14 b15 b16 b17 b18 b19 r) ((1 : Nat) : Int) = b1.toNat := bt_of _ 1 _ rfl
theorem bt8 : bt (by20 b0 b1 b2 b3 b4 b5 b6 b7 b8 b9 b10 b11 b12 b13 b14 b15 b16 b17 b18 b19 r) ((8 : Nat) : Int) = b8.toNat := bt_of _ 8 _ rfl
theorem bt9 : bt (by20 b0 b1 b2 b3 b4 b5 b6 b7 b8 b9 b10 b11 b12 b13 b14 b15 b16 b17 b18 b19 r) ((9 : Nat) : Int) = b9.toNat := bt_of _ 9 _ rfl
theorem n2_2 : n2 (by20 b0 b1 b2 b3 b4 b5 b6 b7 b8 b9 b10 b11 b12 b13 b14 b15 b16 b17 b18 b19 r) 2 = b2.toNat * 256 + b3.toNat := by unfold n2 by20; rw [bt_of _ 2 _ rfl, bt_of _ (2 + 1) _ rfl]
theorem n2_4 : n2 (by20 b0 b1 b2 b3 b4 b5 b6 b7 b8 b9 b10 b11 b12 b13 b14 b15 b16 b17 b18 b19 r) 4 = b4.toNat * 256 + b5.toNat := by unfold n2 by20; rw [bt_of _ 4 _ rfl, bt_of _ (4 + 1) _ rfl]
theorem n2_6 : n2 (by20 b0 b1 b2 b3 b4 b5 b6 b7 b8 b9 b10 b11 b12 b13 b14 b15 b16 b17 b18 b19 r) 6 = b6.toNat * 256 + b7.toNat := by unfold n2 by20; rw [bt_of _ 6 _ rfl, bt_of _ (6 + 1) _ rfl]
theorem n2_10 : n2 (by20 b0 b1 b2 b3 b4 b5 b6 b7 b8 b9 b10 b11 b12 b13 b14 b15 b16 b17 b18 b19 r) 10 = b10.toNat * 256 + b11.toNat := by unfold n2 by20; rw [bt_of _ 10 _ rfl, bt_of _ (10 + 1) _ rfl]
theorem n4_12 : n4 (by20 b0 b1 b2 b3 b4 b5 b6 b7 b8 b9 b10 b11 b12 b13 b14 b15 b16 b17 b18 b19 r) 12 = ((b12.toNat * 256 + b13.toNat) * 256 + b14.toNat) * 256 + b15.toNat := by unfold n4 by20; rw [bt_of _ 12 _ rfl, bt_of _ (12 + 1) _ rfl, bt_of _ (12 + 2) _ rfl, bt_of _ (12 + 3) _ rfl]
theorem n4_16 : n4 (by20 b0 b1 b2 b3 b4 b5 b6 b7 b8 b9 b10 b11 b12 b13 b14 b15 b16 b17 b18 b19 r) 16 = ((b16.toNat * 256 + b17.toNat) * 256 + b18.toNat) * 256 + b19.toNat := by unfold n4 by20; rw [bt_of _ 16 _ rfl, bt_of _ (16 + 1) _ rfl, bt_of _ (16 + 2) _ rfl, bt_of _ (16 + 3) _ rfl]
end
theorem u8_lo (a b : UInt8) : u8 ((a.toNat : Int) * 256 + b.toNat) = b := u8_ext (by rw [u8_nat]; have := b.toNat_lt; omega)
theorem u8_hi (a b : UInt8) : u8 (((a.toNat : Int) * 256 + b.toNat) / 256) = a := u8_ext (by rw [u8_nat]; have := b.toNat_lt; have := a.toNat_lt; omega)
theorem u8_4 (a b c d : UInt8) : u8 ((((a.toNat : Int) * 256 + b.toNat) * 256 + c.toNat) * 256 + d.toNat) = d ∧ u8 (((((a.toNat : Int) * 256 + b.toNat) * 256 + c.toNat) * 256 + d.toNat) / 256) = c ∧ u8 (((((a.toNat : Int) * 256 + b.toNat) * 256 + c.toNat) * 256 + d.toNat) / 65536) = b ∧ u8 (((((a.toNat : Int) * 256 + b.toNat) * 256 + c.toNat) * 256 + d.toNat) / 16777216) = a := by
  have ha := a.toNat_lt
  have hb := b.toNat_lt
  have hc := c.toNat_lt
  have hd := d.toNat_lt
  refine ⟨u8_ext ?_, u8_ext ?_, u8_ext ?_, u8_ext ?_⟩ <;> rw [u8_nat] <;> omega
/-- What a packet's fields build, with any sum. -/
theorem hdr_of (b0 b1 b2 b3 b4 b5 b6 b7 b8 b9 b10 b11 b12 b13 b14 b15 b16 b17 b18 b19 : UInt8) (r : List UInt8) (m : Int) (h2 : (r.length : Int) + 20 = b2.toNat * 256 + b3.toNat) :
    hdrV (20 + ((⟨r.toArray⟩ : ByteArray).size : Int)) b1.toNat (b4.toNat * 256 + b5.toNat) (b6.toNat * 256 + b7.toNat) b8.toNat b9.toNat m (((b12.toNat * 256 + b13.toNat) * 256 + b14.toNat) * 256 + b15.toNat) (((b16.toNat * 256 + b17.toNat) * 256 + b18.toNat) * 256 + b19.toNat)
      = ⟨#[69, b1, b2, b3, b4, b5, b6, b7, b8, b9, u8 (m / 256), u8 m, b12, b13, b14, b15, b16, b17, b18, b19]⟩ := by
  have hz : ((⟨r.toArray⟩ : ByteArray).size : Int) = r.length := by simp [ByteArray.size]
  have e : 20 + ((⟨r.toArray⟩ : ByteArray).size : Int) = b2.toNat * 256 + b3.toNat := by omega
  obtain ⟨p0, p1, p2, p3⟩ := u8_4 b12 b13 b14 b15
  obtain ⟨q0, q1, q2, q3⟩ := u8_4 b16 b17 b18 b19
  unfold hdrV
  rw [e, u8_lo, u8_hi, u8_lo, u8_hi, u8_lo, u8_hi, u8_back, u8_back, u8_back, p0, p1, p2, p3, q0, q1, q2, q3]
/-- A packet's fields are where a header's may be. -/
theorem ok_of (b1 b4 b5 b6 b7 b8 b9 : UInt8) : okH b1.toNat (b4.toNat * 256 + b5.toNat) (b6.toNat * 256 + b7.toNat) b8.toNat b9.toNat := by
  have h1 := b1.toNat_lt
  have h4 := b4.toNat_lt
  have h5 := b5.toNat_lt
  have h6 := b6.toNat_lt
  have h7 := b7.toNat_lt
  have h8 := b8.toNat_lt
  have h9 := b9.toNat_lt
  unfold okH
  omega
/-- A packet's bytes are right just if they are what its fields build. -/
theorem build_back (s : ByteArray) (h : 20 ≤ s.size) (h0 : bt s 0 = 69) (hl : (s.size : Int) = n2 s 2) :
    ∃ T, buildV (bt s 1) (n2 s 4) (n2 s 6) (bt s 8) (bt s 9) (n4 s 12) (n4 s 16) (s.extract 20 s.size) = (T, 0) ∧ (T.toList == s.toList) = (sumV (zeroed s) == n2 s 10) := by
  obtain ⟨b0, b1, b2, b3, b4, b5, b6, b7, b8, b9, b10, b11, b12, b13, b14, b15, b16, b17, b18, b19, r, rfl⟩ := by20_of h
  have e0 := bt0 b0 b1 b2 b3 b4 b5 b6 b7 b8 b9 b10 b11 b12 b13 b14 b15 b16 b17 b18 b19 r
  have e1 := bt1 b0 b1 b2 b3 b4 b5 b6 b7 b8 b9 b10 b11 b12 b13 b14 b15 b16 b17 b18 b19 r
  have e8 := bt8 b0 b1 b2 b3 b4 b5 b6 b7 b8 b9 b10 b11 b12 b13 b14 b15 b16 b17 b18 b19 r
  have e9 := bt9 b0 b1 b2 b3 b4 b5 b6 b7 b8 b9 b10 b11 b12 b13 b14 b15 b16 b17 b18 b19 r
  rw [show ((0 : Nat) : Int) = 0 from rfl] at e0
  rw [show ((1 : Nat) : Int) = 1 from rfl] at e1
  rw [show ((8 : Nat) : Int) = 8 from rfl] at e8
  rw [show ((9 : Nat) : Int) = 9 from rfl] at e9
  rw [n2_2, by20_size] at hl
  have hlen : (r.length : Int) + 20 = b2.toNat * 256 + b3.toNat := by rw [← hl]; omega
  have hb0 : b0 = 69 := by
    rw [e0] at h0
    exact UInt8.toNat_inj.1 (by have : (69 : UInt8).toNat = 69 := rfl; omega)
  have h2 := b2.toNat_lt
  have h3 := b3.toNat_lt
  have hz : (⟨r.toArray⟩ : ByteArray).size = r.length := by simp [ByteArray.size]
  rw [e1, e8, e9, n2_4, n2_6, n2_10, n4_12, n4_16, by20_rest, by20_zeroed]
  unfold buildV
  rw [if_pos (ok_of b1 b4 b5 b6 b7 b8 b9), if_pos (by rw [hz]; omega)]
  refine ⟨_, rfl, ?_⟩
  unfold packV
  rw [hdr_of b0 b1 b2 b3 b4 b5 b6 b7 b8 b9 b10 b11 b12 b13 b14 b15 b16 b17 b18 b19 r 0 hlen, hdr_of b0 b1 b2 b3 b4 b5 b6 b7 b8 b9 b10 b11 b12 b13 b14 b15 b16 b17 b18 b19 r _ hlen]
  have z1 : u8 (0 / 256) = 0 := by decide
  have z2 : u8 0 = 0 := by decide
  rw [z1, z2, hb0]
  have hS := sumV_range ⟨#[69, b1, b2, b3, b4, b5, b6, b7, b8, b9, 0, 0, b12, b13, b14, b15, b16, b17, b18, b19]⟩
  generalize sumV ⟨#[69, b1, b2, b3, b4, b5, b6, b7, b8, b9, 0, 0, b12, b13, b14, b15, b16, b17, b18, b19]⟩ = S at hS ⊢
  rw [Lib.toList_data, Lib.toList_data, Bool.eq_iff_iff, beq_iff_eq, beq_iff_eq]
  simp only [by20, ByteArray.data_append, Array.toList_append, List.cons_append, List.nil_append, List.cons.injEq, true_and, and_true]
  have hb10 := b10.toNat_lt
  have hb11 := b11.toNat_lt
  constructor
  · rintro ⟨p, q⟩
    have p' := congrArg (fun x : UInt8 => (x.toNat : Int)) p
    have q' := congrArg (fun x : UInt8 => (x.toNat : Int)) q
    simp only [u8_nat] at p' q'
    omega
  · rintro rfl
    exact ⟨u8_hi b10 b11, u8_lo b10 b11⟩
theorem bne_not {x y : List UInt8} {b : Bool} (h : (x == y) = b) : (x != y) = !b := by rw [bne, h]
theorem two_back {n : Int} (h0 : 0 ≤ n) (h1 : n ≤ 65535) : ((u8 (n / 256)).toNat : Int) * 256 + ((u8 n).toNat : Int) = n := by rw [u8_nat, u8_nat]; omega
theorem one_back {n : Int} (h0 : 0 ≤ n) (h1 : n ≤ 255) : ((u8 n).toNat : Int) = n := by rw [u8_nat]; omega
theorem four_back {n : Int} (h0 : 0 ≤ n) (h1 : n < 4294967296) : ((((u8 (n / 16777216)).toNat : Int) * 256 + ((u8 (n / 65536)).toNat : Int)) * 256 + ((u8 (n / 256)).toNat : Int)) * 256 + ((u8 n).toNat : Int) = n := by rw [u8_nat, u8_nat, u8_nat, u8_nat]; omega
theorem pack_by20 (len a0 a1 a2 a3 a4 m a5 a6 : Int) (d : ByteArray) : hdrV len a0 a1 a2 a3 a4 m a5 a6 ++ d = by20 69 (u8 a0) (u8 (len / 256)) (u8 len) (u8 (a1 / 256)) (u8 a1) (u8 (a2 / 256)) (u8 a2) (u8 a3) (u8 a4) (u8 (m / 256)) (u8 m)
    (u8 (a5 / 16777216)) (u8 (a5 / 65536)) (u8 (a5 / 256)) (u8 a5) (u8 (a6 / 16777216)) (u8 (a6 / 65536)) (u8 (a6 / 256)) (u8 a6) d.data.toList := by
  apply ByteArray.ext
  apply Array.ext'
  simp [by20, hdrV, ByteArray.data_append]
/-- What is built is parsed as it was. -/
theorem parse_pack {a0 a1 a2 a3 a4 a5 a6 : Int} {d : ByteArray} (h : okH a0 a1 a2 a3 a4) (h5 : 0 ≤ a5) (h5' : a5 < 4294967296) (h6 : 0 ≤ a6) (h6' : a6 < 4294967296) (hs : d.size ≤ 65515) :
    parseV (packV a0 a1 a2 a3 a4 a5 a6 d) = (a0, a1, a2, a3, a4, a5, a6, d, 0) := by
  obtain ⟨⟨g0, g0'⟩, ⟨g3, g3'⟩, ⟨g4, g4'⟩, ⟨g1, g1'⟩, g2, g2'⟩ := h
  unfold packV
  rw [pack_by20]
  have hS := sumV_range (hdrV (20 + (d.size : Int)) a0 a1 a2 a3 a4 0 a5 a6)
  obtain ⟨S, hSe⟩ : ∃ S, sumV (hdrV (20 + (d.size : Int)) a0 a1 a2 a3 a4 0 a5 a6) = S := ⟨_, rfl⟩
  rw [hSe] at hS ⊢
  have hd : d.data.toList.length = d.size := Array.length_toList
  have hdd : (⟨d.data.toList.toArray⟩ : ByteArray) = d := by
    obtain ⟨a⟩ := d
    show (⟨a.toList.toArray⟩ : ByteArray) = ⟨a⟩
    rw [Array.toArray_toList]
  unfold parseV
  rw [by20_size, n2_2, n2_4, n2_6, n2_10, n4_12, n4_16, ← by20_size, by20_rest, by20_size, by20_zeroed]
  rw [show (0 : Int) = ((0 : Nat) : Int) from rfl, show (1 : Int) = ((1 : Nat) : Int) from rfl, show (8 : Int) = ((8 : Nat) : Int) from rfl, show (9 : Int) = ((9 : Nat) : Int) from rfl, bt0, bt1, bt8, bt9]
  have hz : (⟨#[69, u8 a0, u8 ((20 + (d.size : Int)) / 256), u8 (20 + (d.size : Int)), u8 (a1 / 256), u8 a1, u8 (a2 / 256), u8 a2, u8 a3, u8 a4, 0, 0, u8 (a5 / 16777216), u8 (a5 / 65536), u8 (a5 / 256), u8 a5, u8 (a6 / 16777216), u8 (a6 / 65536), u8 (a6 / 256), u8 a6]⟩ : ByteArray) = hdrV (20 + (d.size : Int)) a0 a1 a2 a3 a4 0 a5 a6 := rfl
  rw [hz, hSe, two_back (by omega) (by omega), two_back g1 g1', two_back g2 g2', two_back hS.1 hS.2, four_back h5 h5', four_back h6 h6', one_back g0 g0', one_back g3 g3', one_back g4 g4', hdd, hd]
  rw [if_neg (by omega), if_pos (by decide), if_neg (by omega), if_pos (by omega), if_pos rfl]
/-- What a right packet's fields are. -/
theorem parse_ok {s : ByteArray} {a0 a1 a2 a3 a4 a5 a6 : Int} {d : ByteArray} (h : parseV s = (a0, a1, a2, a3, a4, a5, a6, d, 0)) :
    okH a0 a1 a2 a3 a4 ∧ 0 ≤ a5 ∧ a5 < 4294967296 ∧ 0 ≤ a6 ∧ a6 < 4294967296 ∧ d.size ≤ 65515 ∧ s.size = d.size + 20 := by
  unfold parseV at h
  by_cases c1 : s.size < 20
  · rw [if_pos c1] at h; simp [badH] at h
  rw [if_neg c1] at h
  by_cases c2 : bt s 0 = 69
  · rw [if_pos c2] at h
    by_cases c3 : n2 s 2 < 20 ∨ (s.size : Int) < n2 s 2
    · rw [if_pos c3] at h; simp [badH] at h
    rw [if_neg c3] at h
    by_cases c4 : (s.size : Int) = n2 s 2
    · rw [if_pos c4] at h
      by_cases c5 : sumV (zeroed s) = n2 s 10
      · rw [if_pos c5] at h
        simp only [Prod.mk.injEq] at h
        obtain ⟨rfl, rfl, rfl, rfl, rfl, rfl, rfl, rfl, -⟩ := h
        have r1 := bt_range s 1
        have r8 := bt_range s 8
        have r9 := bt_range s 9
        have r2 := n2_range s 2
        have r4 := n2_range s 4
        have r6 := n2_range s 6
        have r12 := n4_range s 12
        have r16 := n4_range s 16
        have e := size_extract' s 20 s.size (Nat.le_refl _)
        unfold okH
        omega
      · rw [if_neg c5] at h; simp [badH] at h
    · rw [if_neg c4] at h; simp [badH] at h
  · rw [if_neg c2] at h; simp [badH] at h
/-- What goes wrong leaves nothing. -/
theorem parse_bad (s : ByteArray) (h : (parseV s).2.2.2.2.2.2.2.2 ≠ 0) : parseV s = badH (parseV s).2.2.2.2.2.2.2.2 := by
  have key : parseV s = badH 1 ∨ parseV s = badH 3 ∨ parseV s = badH 6 ∨ parseV s = badH 9 ∨ (parseV s).2.2.2.2.2.2.2.2 = 0 := by
    unfold parseV
    by_cases c1 : s.size < 20
    · rw [if_pos c1]; exact .inl rfl
    rw [if_neg c1]
    by_cases c2 : bt s 0 = 69
    · rw [if_pos c2]
      by_cases c3 : n2 s 2 < 20 ∨ (s.size : Int) < n2 s 2
      · rw [if_pos c3]; exact .inl rfl
      rw [if_neg c3]
      by_cases c4 : (s.size : Int) = n2 s 2
      · rw [if_pos c4]
        by_cases c5 : sumV (zeroed s) = n2 s 10
        · rw [if_pos c5]; exact .inr (.inr (.inr (.inr rfl)))
        · rw [if_neg c5]; exact .inr (.inr (.inr (.inl rfl)))
      · rw [if_neg c4]; exact .inr (.inr (.inl rfl))
    · rw [if_neg c2]; exact .inr (.inl rfl)
  rcases key with k | k | k | k | k
  · rw [k]; rfl
  · rw [k]; rfl
  · rw [k]; rfl
  · rw [k]; rfl
  · exact absurd k h
/-- A packet a hop further. -/
def hopV (s : ByteArray) : ByteArray × Int :=
  if (parseV s).2.2.2.2.2.2.2.2 = 0 then if (parseV s).2.2.2.1 < 2 then (⟨#[]⟩, 2) else
    (packV (parseV s).1 (parseV s).2.1 (parseV s).2.2.1 ((parseV s).2.2.2.1 - 1) (parseV s).2.2.2.2.1 (parseV s).2.2.2.2.2.1 (parseV s).2.2.2.2.2.2.1 (parseV s).2.2.2.2.2.2.2.1, 0)
  else (⟨#[]⟩, (parseV s).2.2.2.2.2.2.2.2)
/-- What comes down of a tunnel. -/
def downV (ip : Bool) (addr port own src frm : Int) (s : ByteArray) : ByteArray × Int :=
  if 1000 < s.size then (⟨#[]⟩, 8) else if ip = true then
    if (parseV s).2.2.2.2.2.2.2.2 = 0 then if (parseV s).2.2.2.2.2.2.1 = own then hopV s else (⟨#[]⟩, 15) else (⟨#[]⟩, (parseV s).2.2.2.2.2.2.2.2)
  else if src = addr ∧ frm = port then (s, 0) else (⟨#[]⟩, 15)
end Go.Proofs.Ytcpneggifmldoaa.T

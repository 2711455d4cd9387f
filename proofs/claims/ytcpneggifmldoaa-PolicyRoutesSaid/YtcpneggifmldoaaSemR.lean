/-
  What the reference's functions say of rules: the same.
-/
import Derived.Test.YtcpneggifmldoaaSem
import Derived.Test.YtcpneggifmldoaaPreR
import Derived.Test.YtcpneggifmldoaaXx13
namespace Go.Proofs.Ytcpneggifmldoaa.X
open Go.RowKit Go.Proofs.YtcpneggifmldoaaW.PrintWords Go.Proofs.YtcpneggifmldoaaW.PrintLast Go.Proofs.YtcpneggifmldoaaW.PrintMore
theorem port_f (x : Int) : vizardref18_port.f x = some (decide (0 ≤ x ∧ x ≤ 65535)) := by
  unfold vizardref18_port.f
  by_cases h : 0 ≤ x <;> simp [h]
theorem refchk_loop (l : List S40) (hw : ∀ z ∈ l, AdrR z) (hl : l.length ≤ 4611686018427387904) (d : Nat) : ∀ (k : Nat) (i : Int), d < k → 0 ≤ i → (l.length : Int) - i = d →
    vizardref18_Check.l0 k l i = some (if ∀ z ∈ l.drop i.toNat, rightR z then 0 else 2) := by
  induction d with
  | zero =>
    intro k i hk h0 hd
    obtain ⟨k, rfl⟩ : ∃ m, k = m + 1 := ⟨k - 1, by omega⟩
    simp only [vizardref18_Check.l0]
    rw [if_neg (by omega), List.drop_of_length_le (by omega), if_pos (by simp)]
  | succ d ih =>
    intro k i hk h0 hd
    obtain ⟨k, rfl⟩ : ∃ m, k = m + 1 := ⟨k - 1, by omega⟩
    obtain ⟨h', hr, hdr⟩ := get_rd (l := l) h0 (by omega)
    have e : wrap64 (i + 1) = i + 1 := by unfold wrap64; omega
    have hz := hw _ (List.getElem_mem h')
    simp only [vizardref18_Check.l0]
    rw [if_pos (by omega), if_pos h0, e, hr, refcheck_f hz.1 hz.2, port_f, port_f, ih k (i + 1) (by omega) (by omega) (by omega), hdr]
    generalize l[i.toNat] = z at *
    simp only [Option.bind_some, decide_eq_true_eq, List.forall_mem_cons]
    unfold rightR
    by_cases h1 : z.f1 < 0
    · rw [if_pos h1, if_neg (fun h => by have := h.1.1; omega)]
    rw [if_neg h1]
    by_cases h2 : z.f1 > 255
    · rw [if_pos h2, if_neg (fun h => by have := h.1.2.1; omega)]
    rw [if_neg h2]
    by_cases h3 : okP z.f2.f0 z.f2.f1
    · rw [if_pos h3]
      by_cases h4 : 0 ≤ z.f3 ∧ z.f3 ≤ 65535
      · rw [if_pos h4]
        by_cases h5 : 0 ≤ z.f4 ∧ z.f4 ≤ 65535
        · rw [if_pos h5]
          by_cases h6 : z.f3 > z.f4
          · rw [if_pos h6, if_neg (fun h => by have := h.1.2.2.2.2.1; omega)]
          · rw [if_neg h6]
            have hh : 0 ≤ z.f1 ∧ z.f1 ≤ 255 ∧ okP z.f2.f0 z.f2.f1 ∧ 0 ≤ z.f3 ∧ z.f3 ≤ z.f4 ∧ z.f4 ≤ 65535 := ⟨by omega, by omega, h3, h4.1, by omega, h5.2⟩
            simp only [hh, true_and]
            simp
        · rw [if_neg h5, if_neg (fun h => h5 ⟨by have := h.1.2.2.2; omega, h.1.2.2.2.2.2⟩)]
      · rw [if_neg h4, if_neg (fun h => h4 ⟨h.1.2.2.2.1, by have := h.1.2.2.2; omega⟩)]
    · rw [if_neg h3, if_neg (fun h => h3 h.1.2.2.1)]
theorem refchk_f (l : List S40) (hw : ∀ z ∈ l, AdrR z) (hl : l.length ≤ 4611686018427387904) : Ev (fun k => vizardref18_Check.f k l) (checkS l) := by
  refine ⟨l.length + 1, fun k hk => ?_⟩
  unfold vizardref18_Check.f checkS
  dsimp only
  by_cases h : l.length > 32
  · rw [if_pos (show (l.length : Int) > 32 by omega), if_pos h]
  · rw [if_neg (show ¬ (l.length : Int) > 32 by omega), if_neg h, refchk_loop l hw hl l.length k 0 (by omega) (by omega) (by omega)]
    simp
theorem refallow_ev (l : List S40) (hw : ∀ z ∈ l, AdrR z) (hl : l.length ≤ 4611686018427387904) (p a port : Int) (ha : 0 ≤ a) (ha2 : a < 4294967296) (d : Nat) : ∀ (k : Nat) (i : Int), d < k → 0 ≤ i → (l.length : Int) - i = d →
    vizardref18_Allow.l0 k l p a port i = some (allowS (l.drop i.toNat) p a port) := by
  induction d with
  | zero =>
    intro k i hk h0 hd
    obtain ⟨k, rfl⟩ : ∃ m, k = m + 1 := ⟨k - 1, by omega⟩
    simp only [vizardref18_Allow.l0]
    rw [if_neg (by omega), List.drop_of_length_le (by omega)]
    rfl
  | succ d ih =>
    intro k i hk h0 hd
    obtain ⟨k, rfl⟩ : ∃ m, k = m + 1 := ⟨k - 1, by omega⟩
    obtain ⟨h', hr, hdr⟩ := get_rd (l := l) h0 (by omega)
    have e : wrap64 (i + 1) = i + 1 := by unfold wrap64; omega
    have hz := hw _ (List.getElem_mem h')
    have ih2 := ih k (i + 1) (by omega) (by omega) (by omega)
    have q : i < (l.length : Int) := by omega
    simp only [vizardref18_Allow.l0, q, h0, if_true]
    rw [e, hr, refhas_f hz.1 hz.2 ha ha2, ih2, hdr]
    generalize l[i.toNat] = z at *
    simp only [Option.bind_some, decide_eq_true_eq, allowS]
    by_cases h1 : z.f1 = 0
    · by_cases h2 : hasP z.f2.f0 z.f2.f1 a <;> by_cases h3 : port ≥ z.f3 <;> by_cases h4 : port ≤ z.f4 <;> simp [h1, h2, h3, h4]
    · by_cases h5 : z.f1 = p <;> by_cases h2 : hasP z.f2.f0 z.f2.f1 a <;> by_cases h3 : port ≥ z.f3 <;> by_cases h4 : port ≤ z.f4 <;> simp [h1, h2, h3, h4, h5]
theorem refAllow_f (l : List S40) (hw : ∀ z ∈ l, AdrR z) (hl : l.length ≤ 4611686018427387904) (p a port : Int) (ha : 0 ≤ a) (ha2 : a < 4294967296) : Ev (fun k => vizardref18_Allow.f k l p a port) (AllowS l p a port) := by
  unfold vizardref18_Allow.f AllowS
  refine Ev.bind (refchk_f l hw hl) ?_
  by_cases h : checkS l = 0
  · refine ⟨l.length + 1, fun k hk => ?_⟩
    have := refallow_ev l hw hl p a port ha ha2 l.length k 0 (by omega) (by omega) (by omega)
    simp only [h, if_true, this]
    simp
  · exact ⟨0, fun k _ => by simp [h]⟩
end Go.Proofs.Ytcpneggifmldoaa.X

/-
  The addresses at which rules may change what they say.
-/
import Derived.Test.YtcpneggifmldoaaReach
import Derived.Test.YtcpneggifmldoaaLists
namespace Go.Proofs.Ytcpneggifmldoaa.X
open Go.RowKit Go.Proofs.YtcpneggifmldoaaW.PrintWords Go.Proofs.YtcpneggifmldoaaW.PrintLast Go.Proofs.YtcpneggifmldoaaW.PrintMore
/-- The addresses at which something may change. -/
def bnds (l : List S40) : List Int := l.flatMap fun z => [z.f2.f0, z.f2.f0 + sz z.f2.f1]
theorem rises_ge {out : List Int} (h : Rises out) (h0 : ∀ x ∈ out, 0 ≤ x) : ∀ i (hi : i < out.length), (i : Int) ≤ out[i] := by
  intro i
  induction i with
  | zero => intro hi; exact h0 _ (List.getElem_mem hi)
  | succ i ih =>
    intro hi
    have h1 := ih (by omega)
    have h2 := List.pairwise_iff_getElem.1 h i (i + 1) (by omega) hi (by omega)
    omega
theorem rises_len {out : List Int} (h : Rises out) (h0 : ∀ x ∈ out, 0 ≤ x ∧ x ≤ 4294967296) : out.length ≤ 4294967297 := by
  rcases Nat.eq_zero_or_pos out.length with e | e
  · omega
  · have h1 := rises_ge h (fun x hx => (h0 x hx).1) (out.length - 1) (by omega)
    have h2 := h0 _ (List.getElem_mem (show out.length - 1 < out.length by omega))
    omega
theorem rd_drop {b : List Int} {i : Int} (h0 : 0 ≤ i) (h : i < b.length) : ∃ h' : i.toNat < b.length, rd b i = b[i.toNat] ∧ b.drop i.toNat = b[i.toNat] :: b.drop (i + 1).toNat := by
  have h' : i.toNat < b.length := by omega
  refine ⟨h', by unfold rd; simp [h'], ?_⟩
  rw [show (i + 1).toNat = i.toNat + 1 by omega]
  exact List.drop_eq_getElem_cons h'
theorem bnds_range {l : List S40} (hw : ∀ z ∈ l, AdrR z) (hr : ∀ z ∈ l, rightR z) : ∀ y ∈ bnds l, 0 ≤ y ∧ y ≤ 4294967296 := by
  intro y hy
  unfold bnds at hy
  obtain ⟨z, hz, hy⟩ := List.mem_flatMap.1 hy
  have h1 := hw z hz
  have h2 := sum_lt h1.1 h1.2 (hr z hz).2.2.1
  have h3 := sz_pos z.f2.f1
  have h4 := h1.1
  have h5 := h1.2
  simp only [List.mem_cons, List.not_mem_nil, or_false] at hy
  rcases hy with rfl | rfl <;> omega
theorem bnds_len (l : List S40) : (bnds l).length = 2 * l.length := by
  unfold bnds
  rw [List.length_flatMap]
  simp [List.map_const', List.sum_replicate_nat, Nat.mul_comm]
theorem ends_one {z : S40} (h : AdrR z) (hr : rightR z) : prefix_Ends.f z.f2.f0 z.f2.f1 = some (z.f2.f0, z.f2.f0 + sz z.f2.f1 - 1) ∧ wrap64 z.f2.f0 = z.f2.f0 ∧ wrap64 (wrap64 (z.f2.f0 + sz z.f2.f1 - 1) + 1) = z.f2.f0 + sz z.f2.f1 := by
  have h2 := sum_lt h.1 h.2 hr.2.2.1
  have h3 := sz_pos z.f2.f1
  have h4 := h.1
  refine ⟨by rw [ends_f h.1 h.2, if_pos hr.2.2.1], ?_, ?_⟩
  · unfold wrap64; omega
  · unfold wrap64; omega
end Go.Proofs.Ytcpneggifmldoaa.X

/-
  A sorted row, each number told once, is the one rising row of the same numbers.
-/
import Derived.Lib.SlicesCompact
namespace Go.Proofs.Ytcpneggifmldoaa.X
open Go.Lib
/-- A row that rises. -/
def Rises (l : List Int) : Prop := l.Pairwise (· < ·)
theorem compact_spec (d : Array Int) (hs : ∀ i j, i ≤ j → j < d.size → d[i]! ≤ d[j]!) (m : Nat) (hm : m ≤ d.size) :
    Rises (compactUpTo d m) ∧ ∀ x, x ∈ compactUpTo d m ↔ ∃ j, j < m ∧ d[j]! = x := by
  induction m with
  | zero => exact ⟨by simp [Rises, compactUpTo], fun x => by simp [compactUpTo]⟩
  | succ m ih =>
    obtain ⟨h1, h2⟩ := ih (by omega)
    rw [compactUpTo_succ]
    by_cases hk : keeps d m = true
    · rw [if_pos hk]
      refine ⟨List.pairwise_append.2 ⟨h1, List.pairwise_singleton _ _, fun a ha b hb => ?_⟩, fun x => ?_⟩
      · obtain ⟨j, hj, rfl⟩ := (h2 a).1 ha
        simp only [List.mem_singleton] at hb
        subst hb
        unfold keeps at hk
        simp only [decide_eq_true_eq] at hk
        have h3 := hs (m - 1) m (by omega) (by omega)
        have h4 := hs j (m - 1) (by omega) (by omega)
        rcases hk with hk | hk
        · omega
        · have : d[m]! ≠ d[m - 1]! := hk
          omega
      · simp only [List.mem_append, List.mem_singleton, h2]
        constructor
        · rintro (⟨j, hj, e⟩ | rfl)
          · exact ⟨j, by omega, e⟩
          · exact ⟨m, by omega, rfl⟩
        · rintro ⟨j, hj, e⟩
          by_cases e2 : j = m
          · right; rw [← e, e2]
          · left; exact ⟨j, by omega, e⟩
    · rw [if_neg hk, List.append_nil]
      refine ⟨h1, fun x => ?_⟩
      rw [h2]
      unfold keeps at hk
      simp only [decide_eq_true_eq, not_or, Classical.not_not] at hk
      constructor
      · rintro ⟨j, hj, e⟩
        exact ⟨j, by omega, e⟩
      · rintro ⟨j, hj, e⟩
        by_cases e2 : j = m
        · exact ⟨m - 1, by omega, by rw [← e, e2, hk.2]⟩
        · exact ⟨j, by omega, e⟩
theorem compact_sorted (l : List Int) (hs : l.Pairwise (· ≤ ·)) : Rises (compact l) ∧ ∀ x, x ∈ compact l ↔ x ∈ l := by
  unfold compact
  obtain ⟨h1, h2⟩ := compact_spec l.toArray (fun i j hij hj => by
    simp only [List.size_toArray] at hj
    rcases Nat.lt_or_eq_of_le hij with h | rfl
    · have := List.pairwise_iff_getElem.1 hs i j (by omega) hj h
      simpa [getElem!_pos, hj, show i < l.length by omega] using this
    · omega) l.length (by simp)
  refine ⟨h1, fun x => (h2 x).trans ?_⟩
  constructor
  · rintro ⟨j, hj, e⟩
    simp [getElem!_pos, hj] at e
    rw [← e]
    exact List.getElem_mem hj
  · intro hx
    obtain ⟨j, hj, e⟩ := List.mem_iff_getElem.1 hx
    exact ⟨j, hj, by simp [getElem!_pos, hj, e]⟩
/-- Rows that rise and have the same members are one. -/
theorem rises_ext : ∀ {a b : List Int}, Rises a → Rises b → (∀ x, x ∈ a ↔ x ∈ b) → a = b
  | [], [], _, _, _ => rfl
  | [], y :: b, _, _, h => by have := (h y).2 List.mem_cons_self; cases this
  | x :: a, [], _, _, h => by have := (h x).1 List.mem_cons_self; cases this
  | x :: a, y :: b, ha, hb, h => by
    unfold Rises at ha hb
    rw [List.pairwise_cons] at ha hb
    have e : x = y := by
      have h1 := (h x).1 List.mem_cons_self
      have h2 := (h y).2 List.mem_cons_self
      rw [List.mem_cons] at h1 h2
      rcases h1 with h1 | h1
      · exact h1
      · rcases h2 with h2 | h2
        · exact h2.symm
        · have := ha.1 _ h2
          have := hb.1 _ h1
          omega
    subst e
    congr 1
    refine rises_ext ha.2 hb.2 fun z => ?_
    have hz := h z
    rw [List.mem_cons, List.mem_cons] at hz
    constructor
    · intro hm
      rcases hz.1 (.inr hm) with rfl | h1
      · have := ha.1 _ hm; omega
      · exact h1
    · intro hm
      rcases hz.2 (.inr hm) with rfl | h1
      · have := hb.1 _ hm; omega
      · exact h1
theorem mergeSort_le (l : List Int) : (l.mergeSort fun x y => decide (x ≤ y)).Pairwise (· ≤ ·) := by
  have := List.pairwise_mergeSort (le := fun x y : Int => decide (x ≤ y)) (fun a b c h1 h2 => by simp at *; omega) (fun a b => by simp; omega) l
  exact this.imp (fun h => by simpa using h)
/-- Sorted, and each told once. -/
theorem sorted_once (l : List Int) : Rises (compact (l.mergeSort fun x y => decide (x ≤ y))) ∧ ∀ x, x ∈ compact (l.mergeSort fun x y => decide (x ≤ y)) ↔ x ∈ l := by
  obtain ⟨h1, h2⟩ := compact_sorted _ (mergeSort_le l)
  exact ⟨h1, fun x => (h2 x).trans (List.mem_mergeSort)⟩
end Go.Proofs.Ytcpneggifmldoaa.X

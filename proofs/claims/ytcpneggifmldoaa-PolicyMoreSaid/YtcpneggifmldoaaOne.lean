/-
  Rules one after the other: the first that fits wins.
-/
import Derived.Test.YtcpneggifmldoaaWorks
namespace Go.Proofs.Ytcpneggifmldoaa.X
open Go.RowKit Go.Proofs.YtcpneggifmldoaaW.PrintWords Go.Proofs.YtcpneggifmldoaaW.PrintLast Go.Proofs.YtcpneggifmldoaaW.PrintMore
theorem allowS_append (l m : List S40) (p a port : Int) : (allowS (l ++ m) p a port = allowS l p a port) ∨ (allowS l p a port = false ∧ allowS (l ++ m) p a port = allowS m p a port) := by
  induction l with
  | nil => exact Or.inr ⟨rfl, rfl⟩
  | cons z r ih =>
    simp only [List.cons_append, allowS]
    by_cases h : (z.f1 = 0 ∨ z.f1 = p) ∧ hasP z.f2.f0 z.f2.f1 a ∧ port ≥ z.f3 ∧ port ≤ z.f4
    · rw [if_pos h, if_pos h]; exact Or.inl rfl
    · simp only [h, if_false]; exact ih
theorem checkS_append {l m : List S40} (h1 : checkS l = 0) (h2 : checkS m = 0) (h : l.length + m.length ≤ 32) : checkS (l ++ m) = 0 := by
  refine checkS_ok.2 ⟨by simp; omega, fun z hz => ?_⟩
  rcases List.mem_append.1 hz with hz | hz
  · exact (checkS_ok.1 h1).2 z hz
  · exact (checkS_ok.1 h2).2 z hz
theorem adr_append {l m : List S40} (h1 : ∀ z ∈ l, AdrR z) (h2 : ∀ z ∈ m, AdrR z) : ∀ z ∈ l ++ m, AdrR z := fun z hz => (List.mem_append.1 hz).elim (h1 z) (h2 z)
theorem AllowS_ok {l : List S40} (h : checkS l = 0) (p a port : Int) : AllowS l p a port = allowS l p a port := by simp [AllowS, h]
end Go.Proofs.Ytcpneggifmldoaa.X

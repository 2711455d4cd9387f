/-
  Plain law: one rule more, at the end, allows more at most when it allows.
-/
import Derived.Test.YtcpneggifmldoaaOne
import Derived.Test.YtcpneggifmldoaaXx22
namespace Go.Proofs.Ytcpneggifmldoaa.X
open Go.RowKit Go.Proofs.YtcpneggifmldoaaW.PrintWords Go.Proofs.YtcpneggifmldoaaW.PrintLast Go.Proofs.YtcpneggifmldoaaW.PrintMore
theorem more_j0 {l : List S40} (z : S40) (hw : ∀ z ∈ l, AdrR z) (hz : AdrR z) (p a port : Int) (ha : 0 ≤ a) (ha2 : a < 4294967296) (b : Bool) (hb : b = false → l.length ≤ 31 ∧ checkS l = 0 ∧ checkS [z] = 0) : Ev (fun k => vizardlaw18_PolicyMore.j0 k l p a port b z.f0 z.f1 z.f2.f0 z.f2.f1 z.f3 z.f4) true := by
  cases b
  · obtain ⟨n1, c1, c2⟩ := hb rfl
    have hlm : ∀ y ∈ l ++ [z], AdrR y := adr_append hw (fun y hy => by rw [List.mem_singleton] at hy; rw [hy]; exact hz)
    have c3 := checkS_append c1 c2 (by simp; omega)
    refine Ev.step (f := fun k => (policy_Allow.f k l p a port).bind fun t313 => (policy_Allow.f k (l ++ [z]) p a port).bind fun t323 => (if (t313 == t323) = true then (some true) else (if t313 = true then (some false) else (if t323 = true then (some z.f0) else (some false))))) (fun k => ?_) ?_
    · have hlt : l.length + [z].length < 2932031007402 := by simp; omega
      simp only [vizardlaw18_PolicyMore.j0, own_f (show l.length < 2932031007402 by omega), Option.bind_some, Bool.false_eq_true, if_false]
      simp only [show (⟨z.f0, z.f1, ⟨z.f2.f0, z.f2.f1⟩, z.f3, z.f4⟩ : S40) = z from rfl, hlt, if_true]
    · refine Ev.bind (Allow_f l hw (by omega) p a port ha ha2) (Ev.bind (Allow_f (l ++ [z]) hlm (by simp; omega) p a port ha ha2) ?_)
      rw [AllowS_ok c1, AllowS_ok c3]
      refine ⟨0, fun k _ => ?_⟩
      rcases allowS_append l [z] p a port with h | ⟨h1, h2⟩
      · rw [h]; simp
      · rw [h1, h2]
        simp only [allowS]
        split
        · cases z.f0 <;> simp
        · simp
  · exact ⟨1, fun k hk => by
      obtain ⟨k, rfl⟩ : ∃ m, k = m + 1 := ⟨k - 1, by omega⟩
      simp [vizardlaw18_PolicyMore.j0]⟩
/-- One rule more, at the end, allows more, at most when it allows. -/
theorem policyMore_ev {l : List S40} (z : S40) (hw : ∀ z ∈ l, AdrR z) (hz : AdrR z) (hl : l.length < 2932031007402) (p a port : Int) (ha : 0 ≤ a) (ha2 : a < 4294967296) : Ev (fun k => vizardlaw18_PolicyMore.f k l z.f0 z.f1 z.f2.f0 z.f2.f1 z.f3 z.f4 p a port) true := by
  unfold vizardlaw18_PolicyMore.f
  refine Ev.bind works_f ?_
  simp only [if_true]
  by_cases h1 : (l.length : Int) > 31
  · simp only [h1, if_true]
    exact more_j0 z hw hz p a port ha ha2 true (by simp)
  · simp only [h1, if_false]
    rw [own_f hl]
    simp only [Option.bind_some]
    refine Ev.bind (chk_f l hw (by omega)) ?_
    by_cases c1 : checkS l = 0
    · simp only [c1, if_true]
      refine Ev.bind (chk_f [z] (fun y hy => by rw [List.mem_singleton] at hy; rw [hy]; exact hz) (by simp)) ?_
      exact more_j0 z hw hz p a port ha ha2 _ (fun hb => ⟨by omega, c1, by simpa using hb⟩)
    · simp only [c1, if_false]
      exact more_j0 z hw hz p a port ha ha2 true (by simp)
end Go.Proofs.Ytcpneggifmldoaa.X

/-
  Plain law: rules ahead of others win.
-/
import Derived.Test.YtcpneggifmldoaaOne
import Derived.Test.YtcpneggifmldoaaXx21
namespace Go.Proofs.Ytcpneggifmldoaa.X
open Go.RowKit Go.Proofs.YtcpneggifmldoaaW.PrintWords Go.Proofs.YtcpneggifmldoaaW.PrintLast Go.Proofs.YtcpneggifmldoaaW.PrintMore
def anyR : S40 := ⟨false, 0, ⟨0, 0⟩, 0, 65535⟩
theorem any_adr : AdrR anyR := by unfold AdrR; decide +kernel
theorem any_check : checkS [anyR] = 0 := by decide +kernel
theorem first_j0 {l m : List S40} (hw : ∀ z ∈ l, AdrR z) (hm : ∀ z ∈ m, AdrR z) (p a port : Int) (ha : 0 ≤ a) (ha2 : a < 4294967296) (b : Bool) (hb : b = false → l.length ≤ 30 ∧ l.length + m.length ≤ 31 ∧ checkS l = 0 ∧ checkS m = 0) : Ev (fun k => vizardlaw18_PolicyFirst.j0 k l m p a port b) true := by
  cases b
  · obtain ⟨n1, n2, c1, c2⟩ := hb rfl
    have hlm := adr_append hw hm
    have hal : ∀ z ∈ [anyR] ++ l, AdrR z := adr_append (fun z hz => by rw [List.mem_singleton] at hz; rw [hz]; exact any_adr) hw
    have c3 := checkS_append c1 c2 (by omega)
    have c4 := checkS_append (l := [anyR]) any_check c1 (by simp; omega)
    refine Ev.step (f := fun k => (policy_Allow.f k l p a port).bind fun t293 => (policy_Allow.f k (l ++ m) p a port).bind fun t294 => (policy_Allow.f k m p a port).bind fun t298 => (policy_Allow.f k ([anyR] ++ l) p a port).bind fun t299 => (if t299 = true then (if port ≥ 0 then (if port ≤ 65535 then (some false) else (if (t294 == t293) = true then (some true) else (if t293 = true then (some false) else (some (t294 == t298))))) else (if (t294 == t293) = true then (some true) else (if t293 = true then (some false) else (some (t294 == t298))))) else (if (t294 == t293) = true then (some true) else (if t293 = true then (some false) else (some (t294 == t298)))))) (fun k => ?_) ?_
    · simp only [vizardlaw18_PolicyFirst.j0, own_f (show l.length < 2932031007402 by omega), own_f (show m.length < 2932031007402 by omega), Option.bind_some, Bool.false_eq_true, if_false]
      rw [if_pos (by omega), if_pos (by simp; omega)]
      rfl
    · refine Ev.bind (Allow_f l hw (by omega) p a port ha ha2) (Ev.bind (Allow_f (l ++ m) hlm (by simp; omega) p a port ha ha2) (Ev.bind (Allow_f m hm (by omega) p a port ha ha2) (Ev.bind (Allow_f ([anyR] ++ l) hal (by simp; omega) p a port ha ha2) ?_)))
      rw [AllowS_ok c1, AllowS_ok c2, AllowS_ok c3, AllowS_ok c4]
      refine ⟨0, fun k _ => ?_⟩
      have hlast : (if (allowS (l ++ m) p a port == allowS l p a port) = true then some true else (if allowS l p a port = true then some false else some (allowS (l ++ m) p a port == allowS m p a port))) = some true := by
        rcases allowS_append l m p a port with h | ⟨h1, h2⟩
        · rw [h]; simp
        · rw [h1, h2]; simp
      have hany : port ≥ 0 → port ≤ 65535 → allowS ([anyR] ++ l) p a port = false := fun q1 q2 => by
        have hh : hasP 0 0 a := ⟨by decide +kernel, by omega, by have : sz 0 = 4294967296 := by decide +kernel
                                                                 omega⟩
        simp only [List.cons_append, List.nil_append, allowS, anyR]
        rw [if_pos ⟨Or.inl trivial, hh, by omega, by omega⟩]
      simp only [hlast]
      by_cases q1 : port ≥ 0
      · by_cases q2 : port ≤ 65535
        · rw [hany q1 q2]; simp
        · simp [q1, q2]
      · simp [q1]
  · exact ⟨1, fun k hk => by
      obtain ⟨k, rfl⟩ : ∃ m, k = m + 1 := ⟨k - 1, by omega⟩
      simp [vizardlaw18_PolicyFirst.j0]⟩
/-- Rules ahead of others win. -/
theorem policyFirst_ev {l m : List S40} (hw : ∀ z ∈ l, AdrR z) (hm : ∀ z ∈ m, AdrR z) (hl : l.length < 2932031007402) (hml : m.length < 2932031007402) (p a port : Int) (ha : 0 ≤ a) (ha2 : a < 4294967296) : Ev (fun k => vizardlaw18_PolicyFirst.f k l m p a port) true := by
  unfold vizardlaw18_PolicyFirst.f
  refine Ev.bind works_f ?_
  simp only [if_true]
  have e : wrap64 ((l.length : Int) + (m.length : Int)) = (l.length : Int) + m.length := by unfold wrap64; omega
  rw [e]
  by_cases h1 : (l.length : Int) > 30
  · simp only [h1, if_true]
    exact first_j0 hw hm p a port ha ha2 true (by simp)
  · by_cases h2 : (l.length : Int) + (m.length : Int) > 31
    · simp only [h1, h2, if_true, if_false]
      exact first_j0 hw hm p a port ha ha2 true (by simp)
    · simp only [h1, h2, if_false]
      rw [own_f hl]
      simp only [Option.bind_some]
      refine Ev.bind (chk_f l hw (by omega)) ?_
      by_cases c1 : checkS l = 0
      · simp only [c1, if_true]
        rw [own_f hml]
        simp only [Option.bind_some]
        refine Ev.bind (chk_f m hm (by omega)) ?_
        exact first_j0 hw hm p a port ha ha2 _ (fun hb => ⟨by omega, by omega, c1, by simpa using hb⟩)
      · simp only [c1, if_false]
        exact first_j0 hw hm p a port ha ha2 true (by simp)
end Go.Proofs.Ytcpneggifmldoaa.X

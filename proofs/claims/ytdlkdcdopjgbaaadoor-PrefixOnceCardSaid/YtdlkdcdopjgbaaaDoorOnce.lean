/-
  Plain law: each address from one to another is in just one of the blocks, no other one is in any; they rise, and are at most 62.
-/
import Derived.Test.YtdlkdcdopjgbaaaDoorCovF
import Derived.Test.YtdlkdcdopjgbaaaDoorXx10
set_option linter.unusedVariables false
set_option linter.unusedSimpArgs false
set_option linter.unusedSectionVars false
namespace Go.Proofs.YtdlkdcdopjgbaaaDoor.X
open Go.RowKit Go.Proofs.YtdlkdcdopjgbaaaDoorW.PrintWords
/-- How many of the blocks hold the address. -/
def holds (a : Int) (l : List (Nat × Nat)) : Int := (l.countP fun p => decide ((p.1 : Int) ≤ a ∧ a < ((p.1 + 2 ^ p.2 : Nat) : Int)) : Nat)
theorem get_to24 {P : List (Nat × Nat)} {i : Int} (h0 : 0 ≤ i) (h : i < (P.length : Int)) : ∃ h' : i.toNat < P.length, rd_T24 (P.map to24) i = to24 P[i.toNat] ∧ P.drop i.toNat = P[i.toNat] :: P.drop (i + 1).toNat := by
  have h' : i.toNat < P.length := by omega
  refine ⟨h', ?_, ?_⟩
  · unfold rd_T24
    simp [List.getD, h']
  · rw [show (i + 1).toNat = i.toNat + 1 by omega]
    exact List.drop_eq_getElem_cons h'
theorem has_exp {low m : Nat} {a : Int} (hl : low < 4294967296) (h : m ≤ 32) (hm : low % 2 ^ m = 0) (h0 : 0 ≤ a) (h1 : a < 4294967296) : prefix_Has.f (low : Int) (32 - (m : Int)) a = some (decide ((low : Int) ≤ a ∧ a < ((low + 2 ^ m : Nat) : Int))) := by
  rw [has_f (by omega) (by omega) h0 h1]
  have hok := okP_exp h hm
  have e : ((low + 2 ^ m : Nat) : Int) = (low : Int) + ((2 ^ m : Nat) : Int) := Int.natCast_add _ _
  have hiff : hasP (low : Int) (32 - (m : Int)) a ↔ ((low : Int) ≤ a ∧ a < ((low + 2 ^ m : Nat) : Int)) := by
    unfold hasP
    rw [sz_exp m h, e]
    exact ⟨fun q => q.2, fun q => ⟨hok, q⟩⟩
  exact congrArg some (decide_eq_decide.2 hiff)
section
variable {low high a : Int} (h0 : 0 ≤ low) (h1 : 0 ≤ high) (h2 : high < 4294967296) (a0 : 0 ≤ a) (a1 : a < 4294967296) {P : List (Nat × Nat)} (hP : ∀ p ∈ P, p.2 ≤ 32 ∧ p.1 % 2 ^ p.2 = 0 ∧ low ≤ p.1 ∧ ((p.1 + 2 ^ p.2 : Nat) : Int) ≤ high + 1) (hpw : P.Pairwise (fun p q => p.1 + 2 ^ p.2 ≤ q.1)) (hlen : P.length ≤ 62)
include h0 h1 h2 a0 a1 hP hpw hlen
theorem once_l0 (hfin : (low ≤ a ∧ a ≤ high → holds a P = 1) ∧ (¬ (low ≤ a ∧ a ≤ high) → holds a P = 0)) (d : Nat) : ∀ (i n : Int), 0 ≤ i → (P.length : Int) - i = d → n + holds a (P.drop i.toNat) = holds a P → 0 ≤ n → Ev (fun k => vizardlaw04_PrefixOnce.l0 k low high a (P.map to24) n i) true := by
  induction d with
  | zero =>
    intro i n hi hd hn hn0
    refine ⟨1, fun k hk => ?_⟩
    obtain ⟨k, rfl⟩ : ∃ m, k = m + 1 := ⟨k - 1, by omega⟩
    rw [List.drop_of_length_le (show P.length ≤ i.toNat by omega)] at hn
    have hz : holds a [] = 0 := rfl
    simp only [vizardlaw04_PrefixOnce.l0, List.length_map]
    rw [if_neg (by omega)]
    have h62 : (P.length : Int) ≤ 62 := by omega
    by_cases c1 : a ≥ low
    · by_cases c2 : a ≤ high
      · have : n = 1 := by have := hfin.1 ⟨c1, c2⟩; omega
        simp [c1, c2, this, h62]
      · have : n = 0 := by have := hfin.2 (fun h => c2 h.2); omega
        simp [c1, c2, this, h62]
    · have : n = 0 := by have := hfin.2 (fun h => c1 h.1); omega
      simp [c1, this, h62]
  | succ d ih =>
    intro i n hi hd hn hn0
    obtain ⟨h', e1, e2⟩ := get_to24 (P := P) hi (by omega)
    obtain ⟨p1, p2, p3, p4⟩ := hP _ (List.getElem_mem h')
    have hp : 0 < 2 ^ (P[i.toNat]).2 := Nat.pow_pos (by decide)
    have ei : wrap64 (i + 1) = i + 1 := by unfold wrap64; omega
    have hcnt : ∀ l : List (Nat × Nat), 0 ≤ holds a l ∧ holds a l ≤ l.length := fun l => by unfold holds; exact ⟨by omega, by have := List.countP_le_length (p := fun p : Nat × Nat => decide ((p.1 : Int) ≤ a ∧ a < ((p.1 + 2 ^ p.2 : Nat) : Int))) (l := l); omega⟩
    have hall := hcnt P
    have hrest := hcnt (P.drop (i + 1).toNat)
    rw [e2] at hn
    have hcons : holds a (P[i.toNat] :: P.drop (i + 1).toNat) = holds a (P.drop (i + 1).toNat) + (if ((P[i.toNat]).1 : Int) ≤ a ∧ a < (((P[i.toNat]).1 + 2 ^ (P[i.toNat]).2 : Nat) : Int) then 1 else 0) := by
      unfold holds
      rw [List.countP_cons]
      simp only [decide_eq_true_eq]
      split <;> omega
    rw [hcons] at hn
    have hck : prefix_Check.f (to24 P[i.toNat]).f0 (to24 P[i.toNat]).f1 = some true := by
      show prefix_Check.f ((P[i.toNat]).1 : Int) (32 - ((P[i.toNat]).2 : Int)) = _
      rw [check_f (by omega) (by omega), decide_eq_true (okP_exp p1 p2)]
    have hhs : prefix_Has.f (to24 P[i.toNat]).f0 (to24 P[i.toNat]).f1 a = some (decide (((P[i.toNat]).1 : Int) ≤ a ∧ a < (((P[i.toNat]).1 + 2 ^ (P[i.toNat]).2 : Nat) : Int))) := has_exp (by omega) p1 p2 a0 a1
    have hj1 : Ev (fun k => vizardlaw04_PrefixOnce.j1 k low high a (P.map to24) n i false) true := by
      by_cases c : ((P[i.toNat]).1 : Int) ≤ a ∧ a < (((P[i.toNat]).1 + 2 ^ (P[i.toNat]).2 : Nat) : Int)
      · rw [if_pos c] at hn
        have en : wrap64 (n + 1) = n + 1 := by unfold wrap64; omega
        refine Ev.step (f := fun k => vizardlaw04_PrefixOnce.l0 k low high a (P.map to24) (n + 1) (i + 1)) (fun k => ?_) (ih (i + 1) (n + 1) (by omega) (by omega) (by omega) (by omega))
        simp only [vizardlaw04_PrefixOnce.j1, List.length_map, Bool.false_eq_true, if_false]
        rw [if_pos hi, if_pos (by omega), e1, hhs, decide_eq_true c, ei, en]
        simp
      · rw [if_neg c] at hn
        refine Ev.step (f := fun k => vizardlaw04_PrefixOnce.l0 k low high a (P.map to24) n (i + 1)) (fun k => ?_) (ih (i + 1) n (by omega) (by omega) (by omega) hn0)
        simp only [vizardlaw04_PrefixOnce.j1, List.length_map, Bool.false_eq_true, if_false]
        rw [if_pos hi, if_pos (by omega), e1, hhs, decide_eq_false c, ei]
        simp
    refine Ev.step (f := fun k => vizardlaw04_PrefixOnce.j1 k low high a (P.map to24) n i false) (fun k => ?_) hj1
    simp only [vizardlaw04_PrefixOnce.l0, List.length_map]
    rw [if_pos (by omega), if_pos hi, e1, hck]
    simp only [Option.bind_some, if_true]
    by_cases hz : i > 0
    · have em : wrap64 (i - 1) = i - 1 := by unfold wrap64; omega
      obtain ⟨h'', e3, -⟩ := get_to24 (P := P) (i := i - 1) (by omega) (by omega)
      have hgap := List.pairwise_iff_getElem.1 hpw (i - 1).toNat i.toNat h'' h' (by omega)
      have hp2 : 0 < 2 ^ (P[(i - 1).toNat]).2 := Nat.pow_pos (by decide)
      rw [if_pos hz, em, if_pos (by omega), if_pos (by omega), e3]
      have : decide ((to24 P[i.toNat]).f0 ≤ (to24 P[(i - 1).toNat]).f0) = false := decide_eq_false (by show ¬ ((P[i.toNat]).1 : Int) ≤ ((P[(i - 1).toNat]).1 : Int); omega)
      rw [this]
    · rw [if_neg hz]
end
theorem holds_le {a : Int} : ∀ {P : List (Nat × Nat)}, P.Pairwise (fun p q => p.1 + 2 ^ p.2 ≤ q.1) → holds a P ≤ 1
  | [], _ => by simp [holds]
  | p :: r, h => by
    obtain ⟨h1, h2⟩ := List.pairwise_cons.1 h
    have ih := holds_le (a := a) h2
    unfold holds at *
    rw [List.countP_cons]
    by_cases c : (p.1 : Int) ≤ a ∧ a < ((p.1 + 2 ^ p.2 : Nat) : Int)
    · have : List.countP (fun p : Nat × Nat => decide ((p.1 : Int) ≤ a ∧ a < ((p.1 + 2 ^ p.2 : Nat) : Int))) r = 0 := List.countP_eq_zero.2 (fun q hq => by
        have := h1 q hq
        simp only [decide_eq_true_eq]
        omega)
      rw [this]
      split <;> omega
    · rw [if_neg (by simpa using c)]
      exact ih
theorem prefixOnce_ev {low high a : Int} (h0 : 0 ≤ low) (hl : low < 4294967296) (h1 : 0 ≤ high) (h2 : high < 4294967296) (a0 : 0 ≤ a) (a1 : a < 4294967296) : Ev (fun k => vizardlaw04_PrefixOnce.f k low high a) true := by
  obtain ⟨s1, s2, s3, s4⟩ := covS_spec h0 h1 h2
  have hle := holds_le (a := a) s2
  have hge : 0 ≤ holds a (covS low high) := by unfold holds; omega
  unfold vizardlaw04_PrefixOnce.f
  refine Ev.bind works_f ?_
  simp only [if_true]
  refine Ev.bind (cover_f h0 h1 h2) ?_
  refine once_l0 h0 h1 h2 a0 a1 s1 s2 s4 ⟨fun h => ?_, fun h => ?_⟩ (covS low high).length 0 0 (by omega) (by omega) (by simp) (by omega)
  · obtain ⟨p, hp, q1, q2⟩ := s3 a h.1 h.2
    have : 0 < (covS low high).countP (fun p => decide ((p.1 : Int) ≤ a ∧ a < ((p.1 + 2 ^ p.2 : Nat) : Int))) := List.countP_pos_iff.2 ⟨p, hp, by simp only [decide_eq_true_eq]; exact ⟨q1, q2⟩⟩
    unfold holds at *
    omega
  · have : (covS low high).countP (fun p => decide ((p.1 : Int) ≤ a ∧ a < ((p.1 + 2 ^ p.2 : Nat) : Int))) = 0 := List.countP_eq_zero.2 (fun p hp => by
      obtain ⟨-, -, d3, d4⟩ := s1 p hp
      simp only [decide_eq_true_eq]
      intro c
      exact h ⟨by omega, by omega⟩)
    unfold holds
    rw [this]; rfl
end Go.Proofs.YtdlkdcdopjgbaaaDoor.X

/-
  Plain law: a prefix with a bit to spare is two prefixes of one bit more.
-/
import Derived.Test.YtdlkdcdopjgbaaaDoorCovF
import Derived.Test.YtdlkdcdopjgbaaaDoorXx11
set_option linter.unusedVariables false
set_option linter.unusedSimpArgs false
set_option linter.unusedSectionVars false
namespace Go.Proofs.YtdlkdcdopjgbaaaDoor.X
open Go.RowKit Go.Proofs.YtdlkdcdopjgbaaaDoorW.PrintWords
theorem shl_one : ∀ n : Nat, n ≤ 31 → shl .u32 1 (n : Int) = 2 ^ n := by decide +kernel
theorem prefixHalves_ev {addr bits a : Int} (h0 : 0 ≤ addr) (h1 : addr < 4294967296) (a0 : 0 ≤ a) (a1 : a < 4294967296) : Ev (fun k => vizardlaw04_PrefixHalves.f k addr bits a) true := by
  have yes : Ev (fun k => vizardlaw04_PrefixHalves.j0 k a true addr bits) true := Ev.step (f := fun _ => some true) (fun k => by simp [vizardlaw04_PrefixHalves.j0]) (Ev.now true)
  unfold vizardlaw04_PrefixHalves.f
  refine Ev.bind works_f ?_
  simp only [if_true]
  rw [check_f h0 h1 bits]
  simp only [Option.bind_some, decide_eq_true_eq]
  by_cases hc : okP addr bits
  · simp only [hc, if_true]
    by_cases hb : bits = 32
    · rw [show (bits == 32) = true by simpa using hb]
      exact yes
    · rw [show (bits == 32) = false by simpa using hb]
      obtain ⟨b0, b1, b2⟩ := hc
      obtain ⟨n, hn, en⟩ : ∃ n : Nat, n ≤ 31 ∧ bits = 31 - n := ⟨(31 - bits).toNat, by omega, by omega⟩
      have hs : sz bits = 2 * 2 ^ n := by rw [en, show (31 : Int) - n = 32 - ((n + 1 : Nat) : Int) by omega, sz_nat (n + 1) (by omega), Int.pow_succ, Int.mul_comm]
      have hh : sz (bits + 1) = 2 ^ n := by rw [en, show (31 : Int) - n + 1 = 32 - (n : Int) by omega, sz_nat n (by omega)]
      obtain ⟨H, hH⟩ : ∃ H : Int, H = 2 ^ n := ⟨_, rfl⟩
      rw [← hH] at hs hh
      have hpos : 0 < H := by rw [hH]; exact Int.pow_pos (by decide)
      have hsum := sum_lt h0 h1 ⟨b0, b1, b2⟩
      rw [hs] at hsum b2
      have e31 : wrap64 (31 - bits) = (n : Int) := by unfold wrap64; omega
      have e1 : wrap64 (bits + 1) = bits + 1 := by unfold wrap64; omega
      have esh : (addr + shl .u32 1 (wrap64 (31 - bits))) % 4294967296 = addr + H := by rw [e31, shl_one n hn, ← hH]; omega
      have d1 : addr % H = 0 := Int.emod_eq_zero_of_dvd (Int.dvd_trans (Int.dvd_mul_left 2 H) (Int.dvd_of_emod_eq_zero b2))
      have ok1 : okP addr (bits + 1) := ⟨by omega, by omega, by rw [hh]; exact d1⟩
      have ok2 : okP (addr + H) (bits + 1) := ⟨by omega, by omega, by rw [hh, Int.add_emod_right]; exact d1⟩
      have ok0 : okP addr bits := ⟨b0, b1, by rw [hs]; exact b2⟩
      have c1 := check_f h0 h1 (bits + 1)
      have c2 := check_f (a := addr + H) (by omega) (by omega) (bits + 1)
      have f1 := has_f h0 h1 a0 a1 (bits + 1)
      have f2 := has_f (a := addr + H) (by omega) (by omega) a0 a1 (bits + 1)
      have f0 := has_f h0 h1 a0 a1 bits
      have i1 : hasP addr (bits + 1) a ↔ addr ≤ a ∧ a < addr + H := by unfold hasP; rw [hh]; exact ⟨fun q => q.2, fun q => ⟨ok1, q⟩⟩
      have i2 : hasP (addr + H) (bits + 1) a ↔ addr + H ≤ a ∧ a < addr + H + H := by unfold hasP; rw [hh]; exact ⟨fun q => q.2, fun q => ⟨ok2, q⟩⟩
      have i0 : hasP addr bits a ↔ addr ≤ a ∧ a < addr + 2 * H := by unfold hasP; rw [hs]; exact ⟨fun q => q.2, fun q => ⟨ok0, q⟩⟩
      rw [decide_eq_decide.2 i1] at f1
      rw [decide_eq_decide.2 i2] at f2
      rw [decide_eq_decide.2 i0] at f0
      rw [decide_eq_true ok1] at c1
      rw [decide_eq_true ok2] at c2
      refine Ev.step (f := fun _ => some true) (fun k => ?_) (Ev.now true)
      simp only [vizardlaw04_PrefixHalves.j0, Bool.false_eq_true, if_false, esh, e1, f1, f2, f0, c1, c2, Option.bind_some, if_true]
      rw [if_pos (by rw [e31]; omega)]
      by_cases q1 : addr ≤ a
      · by_cases q2 : a < addr + H
        · have n2 : ¬ (addr + H ≤ a ∧ a < addr + H + H) := by omega
          have n1 : addr ≤ a ∧ a < addr + H := ⟨q1, q2⟩
          have n0 : addr ≤ a ∧ a < addr + 2 * H := by omega
          simp [n0, n1, n2]
        · by_cases q3 : a < addr + 2 * H
          · have n2 : addr + H ≤ a ∧ a < addr + H + H := by omega
            have n1 : ¬ (addr ≤ a ∧ a < addr + H) := by omega
            have n0 : addr ≤ a ∧ a < addr + 2 * H := by omega
            rw [decide_eq_false n1, decide_eq_true n2, decide_eq_true n0]; rfl
          · have n2 : ¬ (addr + H ≤ a ∧ a < addr + H + H) := by omega
            have n1 : ¬ (addr ≤ a ∧ a < addr + H) := by omega
            have n0 : ¬ (addr ≤ a ∧ a < addr + 2 * H) := by omega
            rw [decide_eq_false n1, decide_eq_false n2, decide_eq_false n0]; rfl
      · have n2 : ¬ (addr + H ≤ a ∧ a < addr + H + H) := by omega
        have n1 : ¬ (addr ≤ a ∧ a < addr + H) := by omega
        have n0 : ¬ (addr ≤ a ∧ a < addr + 2 * H) := by omega
        rw [decide_eq_false n1, decide_eq_false n2, decide_eq_false n0]; rfl
  · simp only [hc, if_false]
    exact yes
end Go.Proofs.YtdlkdcdopjgbaaaDoor.X

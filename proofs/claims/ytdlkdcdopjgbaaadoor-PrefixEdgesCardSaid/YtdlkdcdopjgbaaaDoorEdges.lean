/-
  Plain law: a prefix has its ends, and no address next to them; what lies between them is covered by it alone.
-/
import Derived.Test.YtdlkdcdopjgbaaaDoorCovF
import Derived.Test.YtdlkdcdopjgbaaaDoorEdgesA
import Derived.Test.YtdlkdcdopjgbaaaDoorEdgesB
import Derived.Test.YtdlkdcdopjgbaaaDoorEdgesC
import Derived.Test.YtdlkdcdopjgbaaaDoorEdgesD
set_option linter.unusedVariables false
set_option linter.unusedSimpArgs false
set_option linter.unusedSectionVars false
namespace Go.Proofs.YtdlkdcdopjgbaaaDoor.X
open Go.RowKit Go.Proofs.YtdlkdcdopjgbaaaDoorW.PrintWords
/-- What lies between the ends of a right prefix is one block. -/
theorem cover_one {addr bits : Int} (h0 : 0 ≤ addr) (h1 : addr < 4294967296) (hc : okP addr bits) : (covS addr (addr + sz bits - 1)).map to24 = [⟨addr, bits⟩] := by
  have hs := sum_lt h0 h1 hc
  obtain ⟨b0, b1, b2⟩ := hc
  obtain ⟨m, hm, em⟩ := bits_nat_of b0 b1
  have hsz : sz bits = ((2 ^ m : Nat) : Int) := by rw [em]; exact sz_exp m hm
  have hp : 0 < 2 ^ m := Nat.pow_pos (by decide)
  obtain ⟨a, rfl⟩ : ∃ a : Nat, addr = a := ⟨addr.toNat, by omega⟩
  rw [hsz] at hs b2 ⊢
  have hd : a % 2 ^ m = 0 := by rw [← Int.natCast_emod] at b2; exact Int.natCast_eq_zero.1 b2
  unfold covS
  rw [if_neg (by omega)]
  rw [show ((a : Int) + ((2 ^ m : Nat) : Int) - 1 + 1 - a).toNat = 2 ^ m by omega, Int.toNat_natCast]
  have hct : m ≤ Go.Lib.ctz 32 a := ctz_ge (lt32 (by omega)) hd hm
  have he : expo a (2 ^ m) = m := by
    obtain ⟨e1, e2, e3⟩ := expo_spec (low := a) (R := 2 ^ m) (by omega) hp
    have hle : expo a (2 ^ m) ≤ m := (Nat.pow_le_pow_iff_right (by decide : 1 < 2)).1 e3
    rcases Nat.lt_or_ge (expo a (2 ^ m)) m with h | h
    · have hmax : 2 ^ m < 2 ^ (expo a (2 ^ m) + 1) := down_max (R := 2 ^ m) (Go.Lib.ctz 32 a) (by unfold expo at h; omega)
      have := (Nat.pow_lt_pow_iff_right (by decide : 1 < 2)).1 hmax
      omega
    · omega
  obtain ⟨k, hk⟩ : ∃ k, 2 ^ m = k + 1 := ⟨2 ^ m - 1, by omega⟩
  have : cov (2 ^ m) a (2 ^ m) = [(a, m)] := by
    rw [show cov (2 ^ m) a (2 ^ m) = cov (k + 1) a (2 ^ m) by rw [← hk]]
    simp only [cov]
    rw [if_neg (by omega), he, Nat.sub_self, cov_zero]
  rw [this]
  simp [to24, em]
section
variable {addr bits : Int} (h0 : 0 ≤ addr) (h1 : addr < 4294967296)
include h0 h1
theorem edges_has {x : Int} (x0 : 0 ≤ x) (x1 : x < 4294967296) (b : Bool) (hb : hasP addr bits x ↔ b = true) : prefix_Has.f addr bits x = some b := by
  rw [has_f h0 h1 x0 x1]
  congr 1
  cases b
  · exact decide_eq_false (fun h => by simpa using hb.1 h)
  · exact decide_eq_true (hb.2 rfl)
theorem edges_bad (hc : ¬ okP addr bits) : Ev (fun k => edgesA.f k addr bits) true := by
  unfold edgesA.f
  refine Ev.bind works_f ?_
  simp only [if_true]
  have hh := edges_has h0 h1 (bits := bits) h0 h1 false (by unfold hasP; simp [hc])
  rw [ends_f h0 h1, check_f h0 h1, if_neg hc, decide_eq_false hc, hh]
  exact ⟨0, fun k _ => by simp⟩
theorem edges_good (hc : okP addr bits) : Ev (fun k => edgesA.f k addr bits) true ∨ Ev (fun k => edgesB.f k addr bits) true ∨ Ev (fun k => edgesC.f k addr bits) true ∨ Ev (fun k => edgesD.f k addr bits) true := by
  have hs := sum_lt h0 h1 hc
  have hp := sz_pos bits
  have e1 := ends_f h0 h1 bits
  rw [if_pos hc] at e1
  have c1 := check_f h0 h1 bits
  rw [decide_eq_true hc] at c1
  have cv := cover_f (low := addr) (high := addr + sz bits - 1) h0 (by omega) (by omega)
  rw [cover_one h0 h1 hc] at cv
  have ha := edges_has h0 h1 (bits := bits) (x := addr) h0 h1 true (by unfold hasP; exact ⟨fun _ => rfl, fun _ => ⟨hc, by omega, by omega⟩⟩)
  have hb := edges_has h0 h1 (bits := bits) (x := addr + sz bits - 1) (by omega) (by omega) true (by unfold hasP; exact ⟨fun _ => rfl, fun _ => ⟨hc, by omega, by omega⟩⟩)
  have hrd : rd_T24 [(⟨addr, bits⟩ : S24)] 0 = ⟨addr, bits⟩ := rfl
  by_cases z : addr = 0
  · by_cases y : addr + sz bits - 1 = 4294967295
    · refine Or.inl ?_
      unfold edgesA.f
      refine Ev.bind works_f ?_
      simp only [if_true, e1, c1, Option.bind_some]
      refine Ev.bind cv ?_
      refine ⟨0, fun k _ => ?_⟩
      simp only [ha, hb, hrd, Option.bind_some, if_true, if_pos z, if_pos y]
      simp
    · refine Or.inr (Or.inl ?_)
      have hn := edges_has h0 h1 (bits := bits) (x := (addr + sz bits - 1 + 1) % 4294967296) (by omega) (by omega) false (by unfold hasP; exact ⟨fun q => by exfalso; have q1 := q.2.1; have q2 := q.2.2; omega, fun q => by simp at q⟩)
      unfold edgesB.f
      refine Ev.bind works_f ?_
      simp only [if_true, e1, c1, Option.bind_some]
      refine Ev.bind cv ?_
      refine ⟨0, fun k _ => ?_⟩
      simp only [ha, hb, hn, hrd, Option.bind_some, if_true, if_pos z, if_neg y]
      simp
  · have hl := edges_has h0 h1 (bits := bits) (x := (addr - 1) % 4294967296) (by omega) (by omega) false (by unfold hasP; exact ⟨fun q => by exfalso; have q1 := q.2.1; have q2 := q.2.2; omega, fun q => by simp at q⟩)
    by_cases y : addr + sz bits - 1 = 4294967295
    · refine Or.inr (Or.inr (Or.inl ?_))
      unfold edgesC.f
      refine Ev.bind works_f ?_
      simp only [if_true, e1, c1, Option.bind_some]
      refine Ev.bind cv ?_
      refine ⟨0, fun k _ => ?_⟩
      simp only [ha, hb, hl, hrd, Option.bind_some, if_true, if_neg z, if_pos y]
      simp
    · refine Or.inr (Or.inr (Or.inr ?_))
      have hn := edges_has h0 h1 (bits := bits) (x := (addr + sz bits - 1 + 1) % 4294967296) (by omega) (by omega) false (by unfold hasP; exact ⟨fun q => by exfalso; have q1 := q.2.1; have q2 := q.2.2; omega, fun q => by simp at q⟩)
      unfold edgesD.f
      refine Ev.bind works_f ?_
      simp only [if_true, e1, c1, Option.bind_some]
      refine Ev.bind cv ?_
      refine ⟨0, fun k _ => ?_⟩
      simp only [ha, hb, hl, hn, hrd, Option.bind_some, if_true, if_neg z, if_neg y]
      simp
end
/-- The law's call, whichever way it takes. -/
theorem prefixEdges_calls {addr bits : Int} (h0 : 0 ≤ addr) (h1 : addr < 4294967296) (w : World) (hL : LaidD w) : Calls Tryd.prog 6 #[.agg #[.int .u32 addr, .int .i64 bits]] w fun e w' => e = .returned (.bool true) ∧ Below w.heap.size w w' := by
  by_cases hc : okP addr bits
  · rcases edges_good h0 h1 hc with h | h | h | h
    · obtain ⟨k, hk⟩ := h.rounds; exact edgesA.calls k addr bits true w hL hk
    · obtain ⟨k, hk⟩ := h.rounds; exact edgesB.calls k addr bits true w hL hk
    · obtain ⟨k, hk⟩ := h.rounds; exact edgesC.calls k addr bits true w hL hk
    · obtain ⟨k, hk⟩ := h.rounds; exact edgesD.calls k addr bits true w hL hk
  · obtain ⟨k, hk⟩ := (edges_bad h0 h1 hc).rounds
    exact edgesA.calls k addr bits true w hL hk
end Go.Proofs.YtdlkdcdopjgbaaaDoor.X

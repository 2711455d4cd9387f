/-
  The made-up rules that the laws ask first answer as they should.
-/
import Derived.Test.YtcpneggifmldoaaWays
import Derived.Test.YtcpneggifmldoaaXx10
import Derived.Test.YtcpneggifmldoaaXx19
namespace Go.Proofs.Ytcpneggifmldoaa.X
open Go.RowKit Go.Proofs.YtcpneggifmldoaaW.PrintWords Go.Proofs.YtcpneggifmldoaaW.PrintLast Go.Proofs.YtcpneggifmldoaaW.PrintMore
theorem own_f {l : List S40} (hl : l.length < 2932031007402) : vizardlaw18_own.f l = some l := by
  unfold vizardlaw18_own.f
  simp [hl]
theorem get_to30 {P : List (Int × Int)} {i : Int} (h0 : 0 ≤ i) (h : i < (P.length : Int)) : ∃ h' : i.toNat < P.length, rd_T30 (P.map to30) i = to30 P[i.toNat] := by
  have h' : i.toNat < P.length := by omega
  refine ⟨h', ?_⟩
  unfold rd_T30
  simp [List.getD, h']
theorem take16 (P : List (Int × Int)) : (P.take 16).length ≤ 16 := by simp; omega
def wRules : List S40 := [(⟨false, 0, (⟨167772161, 32⟩ : S38), 0, 65535⟩ : S40), (⟨true, 17, (⟨167772160, 30⟩ : S38), 53, 53⟩ : S40)]
theorem w_adr : ∀ z ∈ wRules, AdrR z := by unfold AdrR; decide +kernel
theorem w_check : checkS wRules = 0 := by decide +kernel
theorem w_a1 : AllowS wRules 17 167772162 53 = true := by decide +kernel
theorem w_a2 : AllowS wRules 17 167772161 53 = false := by decide +kernel
theorem w_a3 : AllowS wRules 6 167772162 53 = false := by decide +kernel
def wB : List Int := [0, 167772160, 167772161, 167772162, 167772164, 4294967296]
theorem w_bnds : [0, 4294967296] ++ bnds wRules = [0, 4294967296, 167772161, 167772162, 167772160, 167772164] := by decide +kernel
theorem w_segs : ((segs (reachS wRules) wB false []).take 16).length = 2 := by decide +kernel
theorem works_f : Ev (fun k => vizardlaw18_works.f k) true := by
  have h1 := routes_f w_adr (by decide)
  obtain ⟨B, -, b1, b2, -, -, hR⟩ := routes_bounds w_adr w_check
  have hB : B = wB := rises_ext b1 (by unfold Rises; decide +kernel) (fun x => by
    rw [b2, w_bnds]
    unfold wB
    simp only [List.mem_cons, List.not_mem_nil, or_false]
    omega)
  subst hB
  rw [hR] at h1
  unfold vizardlaw18_works.f
  simp only [Option.bind_some]
  refine Ev.bind (w_a1 ▸ Allow_f wRules w_adr (by decide) 17 167772162 53 (by omega) (by omega)) ?_
  simp only [if_true]
  refine Ev.bind (w_a2 ▸ Allow_f wRules w_adr (by decide) 17 167772161 53 (by omega) (by omega)) ?_
  simp only [Bool.false_eq_true, if_false]
  refine Ev.bind (w_a3 ▸ Allow_f wRules w_adr (by decide) 6 167772162 53 (by omega) (by omega)) ?_
  simp only [Bool.false_eq_true, if_false]
  refine Ev.bind h1 ?_
  rw [List.length_map, w_segs]
  exact Ev.now true
/-! ### rules one after the other -/
end Go.Proofs.Ytcpneggifmldoaa.X

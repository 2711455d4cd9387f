/-
  Plain law: the program's routes and the reference's are the same.
-/
import Derived.Test.YtcpneggifmldoaaWaysR
import Derived.Test.YtcpneggifmldoaaXx10
import Derived.Test.YtcpneggifmldoaaXx17
namespace Go.Proofs.Ytcpneggifmldoaa.X
open Go.RowKit Go.Proofs.YtcpneggifmldoaaW.PrintWords Go.Proofs.YtcpneggifmldoaaW.PrintLast Go.Proofs.YtcpneggifmldoaaW.PrintMore
theorem own_fR {l : List S40} (hl : l.length < 2932031007402) : vizardlaw18_own.f l = some l := by
  unfold vizardlaw18_own.f
  simp [hl]
theorem get_to30R {P : List (Int × Int)} {i : Int} (h0 : 0 ≤ i) (h : i < (P.length : Int)) : ∃ h' : i.toNat < P.length, rd_T30 (P.map to30) i = to30 P[i.toNat] := by
  have h' : i.toNat < P.length := by omega
  refine ⟨h', ?_⟩
  unfold rd_T30
  simp [List.getD, h']
theorem get_to31 {P : List (Int × Int)} {i : Int} (h0 : 0 ≤ i) (h : i < (P.length : Int)) : ∃ h' : i.toNat < P.length, rd_T31 (P.map to31) i = to31 P[i.toNat] := by
  have h' : i.toNat < P.length := by omega
  refine ⟨h', ?_⟩
  unfold rd_T31
  simp [List.getD, h']
theorem routes_loop (P : List (Int × Int)) (hP : P.length ≤ 4611686018427387904) (d : Nat) : ∀ i : Int, 0 ≤ i → (P.length : Int) - i = d → Ev (fun k => vizardlaw18_PolicyRoutes.l0 k (P.map to30) (P.map to31) i) true := by
  induction d with
  | zero =>
    intro i h0 hd
    refine ⟨1, fun k hk => ?_⟩
    obtain ⟨k, rfl⟩ : ∃ m, k = m + 1 := ⟨k - 1, by omega⟩
    simp only [vizardlaw18_PolicyRoutes.l0, List.length_map]
    rw [if_neg (by omega)]
  | succ d ih =>
    intro i h0 hd
    obtain ⟨h', e1⟩ := get_to30R (P := P) h0 (by omega)
    obtain ⟨_, e2⟩ := get_to31 (P := P) h0 (by omega)
    refine Ev.step (f := fun k => vizardlaw18_PolicyRoutes.l0 k (P.map to30) (P.map to31) (i + 1)) (fun k => ?_) (ih (i + 1) (by omega) (by omega))
    simp only [vizardlaw18_PolicyRoutes.l0, List.length_map]
    rw [if_pos (by omega), if_pos h0, if_pos (by omega), e1, e2, show wrap64 (i + 1) = i + 1 by unfold wrap64; omega]
    simp [to30, to31]
theorem policyRoutes_ev {l : List S40} (hw : ∀ z ∈ l, AdrR z) (hl : l.length < 2932031007402) : Ev (fun k => vizardlaw18_PolicyRoutes.f k l) true := by
  have hP := routesS_len l
  unfold vizardlaw18_PolicyRoutes.f
  rw [own_fR hl]
  simp only [Option.bind_some]
  refine Ev.bind (routes_f hw (by omega)) (Ev.bind (refroutes_f hw (by omega)) ?_)
  simp only [List.length_map, if_true]
  exact routes_loop (routesS l) (by omega) (routesS l).length 0 (by omega) (by omega)
end Go.Proofs.Ytcpneggifmldoaa.X

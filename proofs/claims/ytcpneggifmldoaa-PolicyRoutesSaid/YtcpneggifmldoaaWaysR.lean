/-
  The reference's routes: the same row of ranges.
-/
import Derived.Test.YtcpneggifmldoaaWays
import Derived.Test.YtcpneggifmldoaaBounds
import Derived.Test.YtcpneggifmldoaaXx16
namespace Go.Proofs.Ytcpneggifmldoaa.X
open Go.RowKit Go.Proofs.YtcpneggifmldoaaW.PrintWords Go.Proofs.YtcpneggifmldoaaW.PrintLast Go.Proofs.YtcpneggifmldoaaW.PrintMore
def to31 (p : Int × Int) : S31 := ⟨p.1, p.2, 0⟩
theorem map_setLast31 (P : List (Int × Int)) (hp : P ≠ []) (h : Int) : (P.map to31).set ((((P.map to31).length : Int) - 1)).toNat (⟨(rd_T31 (P.map to31) (((P.map to31).length : Int) - 1)).f0, h, (rd_T31 (P.map to31) (((P.map to31).length : Int) - 1)).f2⟩ : S31) = (setLast P h).map to31 := by
  have hl : 0 < P.length := List.length_pos_iff.2 hp
  have e1 : (((P.map to31).length : Int) - 1).toNat = P.length - 1 := by simp
  have e2 : rd_T31 (P.map to31) (((P.map to31).length : Int) - 1) = to31 (P.getD (P.length - 1) (0, 0)) := by
    unfold rd_T31
    rw [e1]
    simp [List.getD, List.getElem?_eq_getElem (show P.length - 1 < P.length by omega)]
  rw [e1, e2]
  unfold setLast
  rw [List.map_set]
  rfl
section
variable {l : List S40} (hw : ∀ z ∈ l, AdrR z) (hc : checkS l = 0) {B : List Int} (hB : Rises B) (hrng : ∀ x ∈ B, 0 ≤ x ∧ x ≤ 4294967296)
include hw hc hB hrng
/-- The reference's loop over the bounds. -/
theorem ref_loop (d : Nat) : ∀ (i : Int) (j : Bool) (P : List (Int × Int)), 0 ≤ i → (B.length : Int) - i = d → (j = true → P ≠ []) → P.length + d ≤ 5000000000 →
    Ev (fun k => vizardref18_Routes.l0 k l (P.map to31) B j i) ((segs (reachS l) (B.drop i.toNat) j P).take 16 |>.map to31) := by
  have hbl := rises_len hB hrng
  induction d with
  | zero =>
    intro i j P h0 hd hj hl
    refine ⟨1, fun k hk => ?_⟩
    obtain ⟨k, rfl⟩ : ∃ m, k = m + 1 := ⟨k - 1, by omega⟩
    have e : wrap64 (i + 1) = i + 1 := by unfold wrap64; omega
    rw [List.drop_of_length_le (by omega)]
    simp only [vizardref18_Routes.l0, segs]
    rw [e, if_neg (by omega)]
    by_cases h16 : ((P.map to31).length : Int) > 16
    · rw [if_pos h16, if_pos (by omega), List.map_take]
      rfl
    · rw [if_neg h16, List.take_of_length_le (by simp only [List.length_map] at h16; omega)]
  | succ d ih =>
    intro i j P h0 hd hj hl
    have e : wrap64 (i + 1) = i + 1 := by unfold wrap64; omega
    obtain ⟨h', hrd, hdr⟩ := rd_drop (b := B) h0 (by omega)
    by_cases hlast : i + 1 < (B.length : Int)
    · obtain ⟨h'', hrd2, hdr2⟩ := rd_drop (b := B) (i := i + 1) (by omega) hlast
      have hlt : B[i.toNat] < B[(i + 1).toNat] := List.pairwise_iff_getElem.1 hB i.toNat (i + 1).toNat h' h'' (by omega)
      have hr1 := hrng _ (List.getElem_mem h')
      have hr2 := hrng _ (List.getElem_mem h'')
      have m1 : B[i.toNat] % 4294967296 = B[i.toNat] := by omega
      have m2 : (wrap64 (B[(i + 1).toNat] - 1)) % 4294967296 = B[(i + 1).toNat] - 1 := by unfold wrap64; omega
      have hs := someref_f hw hc hr1.1 (show B[i.toNat] < 4294967296 by omega)
      refine Ev.step (f := fun k => (vizardref18_some.f k l B[i.toNat]).bind fun t215 => (if t215 = true then (if 0 ≤ i + 1 then (if j = true then (if 0 ≤ (wrap64 (((P.map to31).length : Int) - 1)) then (if (wrap64 (((P.map to31).length : Int) - 1)) < ((P.map to31).length : Int) then (vizardref18_Routes.l0 k l ((P.map to31).set ((wrap64 (((P.map to31).length : Int) - 1)) : Int).toNat (⟨(rd_T31 (P.map to31) (wrap64 (((P.map to31).length : Int) - 1))).f0, B[(i + 1).toNat] - 1, (rd_T31 (P.map to31) (wrap64 (((P.map to31).length : Int) - 1))).f2⟩ : S31)) B true (i + 1)) else (none)) else (none)) else (if (P.map to31).length < 8796093022208 then (vizardref18_Routes.l0 k l ((P.map to31) ++ [(⟨B[i.toNat], B[(i + 1).toNat] - 1, 0⟩ : S31)]) B true (i + 1)) else (none))) else (none)) else (vizardref18_Routes.l0 k l (P.map to31) B false (i + 1)))) (fun k => ?_) ?_
      · simp only [vizardref18_Routes.l0]
        rw [e, if_pos hlast, if_pos h0, if_pos (by omega), hrd, hrd2, m1, m2]
      · refine Ev.bind hs ?_
        rw [hdr, hdr2]
        simp only [segs]
        rw [← hdr2]
        cases hR : reachS l B[i.toNat]
        · simp only [Bool.false_eq_true, if_false]
          exact ih (i + 1) false P (by omega) (by omega) (by simp) (by omega)
        · simp only [if_true, show (0 : Int) ≤ i + 1 by omega]
          cases j
          · simp only [Bool.false_eq_true, if_false, List.length_map, show P.length < 8796093022208 by omega, if_true]
            have := ih (i + 1) true (P ++ [(B[i.toNat], B[(i + 1).toNat] - 1)]) (by omega) (by omega) (by simp) (by simp; omega)
            simpa [to31] using this
          · have hne := hj rfl
            have hp : 0 < P.length := List.length_pos_iff.2 hne
            have e2 : wrap64 (((P.map to31).length : Int) - 1) = ((P.map to31).length : Int) - 1 := by simp only [List.length_map]; unfold wrap64; omega
            have hm := map_setLast31 P hne (B[(i + 1).toNat] - 1)
            simp only [if_true, e2]
            rw [hm]
            simp only [List.length_map, show (0 : Int) ≤ (P.length : Int) - 1 by omega, if_true, show (P.length : Int) - 1 < (P.length : Int) by omega]
            exact ih (i + 1) true (setLast P (B[(i + 1).toNat] - 1)) (by omega) (by omega) (fun _ h => hne (List.length_eq_zero_iff.1 (by rw [← setLast_len P (B[(i + 1).toNat] - 1), h]; rfl))) (by rw [setLast_len]; omega)
    · refine ⟨1, fun k hk => ?_⟩
      obtain ⟨k, rfl⟩ : ∃ m, k = m + 1 := ⟨k - 1, by omega⟩
      rw [hdr, List.drop_of_length_le (show B.length ≤ (i + 1).toNat by omega)]
      simp only [vizardref18_Routes.l0, segs]
      rw [e, if_neg (by omega)]
      by_cases h16 : ((P.map to31).length : Int) > 16
      · rw [if_pos h16, if_pos (by omega), List.map_take]
        rfl
      · rw [if_neg h16, List.take_of_length_le (by simp only [List.length_map] at h16; omega)]
end
/-- The reference tells these routes. -/
theorem refroutes_f {l : List S40} (hw : ∀ z ∈ l, AdrR z) (hl : l.length ≤ 4611686018427387904) : Ev (fun k => vizardref18_Routes.f k l) ((routesS l).map to31) := by
  unfold vizardref18_Routes.f
  refine Ev.bind (refchk_f l hw hl) ?_
  by_cases hc : checkS l = 0
  · obtain ⟨B', hBe, c1, c2, hrng', hBp, hR⟩ := routes_bounds hw hc
    obtain ⟨B, b1, b2, b3⟩ := refbounds_f hw hc
    have e : B = B' := rises_ext b1 c1 (fun x => (b2 x).trans (c2 x).symm)
    subst e
    have hbl := rises_len b1 hrng'
    simp only [hc, if_true]
    refine Ev.bind b3 ?_
    rw [hR]
    have := ref_loop hw hc b1 hrng' B.length 0 false [] (by omega) (by omega) (by simp) (by simp; omega)
    simpa using this
  · simp only [hc, if_false]
    rw [routesS, if_neg hc]
    exact ⟨0, fun k _ => rfl⟩
end Go.Proofs.Ytcpneggifmldoaa.X

/-
  The program's routes: what it tells of rules, as a row of ranges.
-/
import Derived.Test.YtcpneggifmldoaaBnds
import Derived.Test.YtcpneggifmldoaaXx9
namespace Go.Proofs.Ytcpneggifmldoaa.X
open Go.RowKit Go.Proofs.YtcpneggifmldoaaW.PrintWords Go.Proofs.YtcpneggifmldoaaW.PrintLast Go.Proofs.YtcpneggifmldoaaW.PrintMore
/-- Routes, as pairs of addresses: of a row of bounds; 'joins': the last one ends where the next part begins. -/
def setLast (P : List (Int × Int)) (h : Int) : List (Int × Int) := P.set (P.length - 1) ((P.getD (P.length - 1) (0, 0)).1, h)
def segs (R : Int → Bool) : List Int → Bool → List (Int × Int) → List (Int × Int)
  | b0 :: b1 :: r, joins, P => if R b0 = true then segs R (b1 :: r) true (if joins = true then setLast P (b1 - 1) else P ++ [(b0, b1 - 1)]) else segs R (b1 :: r) false P
  | _, _, P => P
def to30 (p : Int × Int) : S30 := ⟨p.1, p.2, 0⟩
theorem setLast_len (P : List (Int × Int)) (h : Int) : (setLast P h).length = P.length := by simp [setLast]
theorem map_setLast30 (P : List (Int × Int)) (hp : P ≠ []) (h : Int) : (P.map to30).set ((((P.map to30).length : Int) - 1)).toNat (⟨(rd_T30 (P.map to30) (((P.map to30).length : Int) - 1)).f0, h, (rd_T30 (P.map to30) (((P.map to30).length : Int) - 1)).f2⟩ : S30) = (setLast P h).map to30 := by
  have hl : 0 < P.length := List.length_pos_iff.2 hp
  have e1 : (((P.map to30).length : Int) - 1).toNat = P.length - 1 := by simp
  have e2 : rd_T30 (P.map to30) (((P.map to30).length : Int) - 1) = to30 (P.getD (P.length - 1) (0, 0)) := by
    unfold rd_T30
    rw [e1]
    simp [List.getD, List.getElem?_eq_getElem (show P.length - 1 < P.length by omega)]
  rw [e1, e2]
  unfold setLast
  rw [List.map_set]
  rfl
section
variable {l : List S40} (hw : ∀ z ∈ l, AdrR z) (hc : checkS l = 0) {B : List Int} (hB : Rises B) (hrng : ∀ x ∈ B, 0 ≤ x ∧ x ≤ 4294967296)
include hw hc hB hrng
/-- The program's loop over the bounds: 'joins' is that the last route ends next to the bound. -/
theorem prog_loop (d : Nat) : ∀ (i : Int) (P : List (Int × Int)), 0 ≤ i → (B.length : Int) - 1 - i = d → P.length + d ≤ 5000000000 → (∀ p ∈ P, 0 ≤ p.2 ∧ p.2 < 4294967296) → (P ≠ [] → (P.getD (P.length - 1) (0, 0)).2 + 1 ≤ rd B i) →
    Ev (fun k => policy_Routes.l1 k l B (P.map to30) (B.take (B.length - 1)) ((B.take (B.length - 1)).length : Int) i) ((segs (reachS l) (B.drop i.toNat) (decide (P ≠ [] ∧ (P.getD (P.length - 1) (0, 0)).2 + 1 = rd B i)) P).take 16 |>.map to30) := by
  have hbl := rises_len hB hrng
  have htl : (B.take (B.length - 1)).length = B.length - 1 := by rw [List.length_take]; omega
  induction d with
  | zero =>
    intro i P h0 hd hl hP hle
    refine ⟨1, fun k hk => ?_⟩
    obtain ⟨k, rfl⟩ : ∃ m, k = m + 1 := ⟨k - 1, by omega⟩
    obtain ⟨h', hrd, hdr⟩ := rd_drop (b := B) h0 (by omega)
    rw [hdr, List.drop_of_length_le (show B.length ≤ (i + 1).toNat by omega)]
    simp only [policy_Routes.l1, segs, htl]
    rw [if_neg (by omega)]
    have hmn : mn (((P.map to30).length : Int)) 16 = (min P.length 16 : Nat) := by unfold mn; simp only [List.length_map]; split <;> omega
    rw [hmn, if_pos (by omega), if_pos (by simp only [List.length_map]; omega), List.map_take]
    simp only [Int.toNat_natCast]
    congr 1
    rw [← List.map_take, ← List.map_take]
    congr 1
    rcases Nat.le_total P.length 16 with h | h
    · rw [Nat.min_eq_left h, List.take_length, List.take_of_length_le h]
    · rw [Nat.min_eq_right h]
  | succ d ih =>
    intro i P h0 hd hl hP hle
    have e : wrap64 (i + 1) = i + 1 := by unfold wrap64; omega
    obtain ⟨h', hrd, hdr⟩ := rd_drop (b := B) h0 (by omega)
    obtain ⟨h'', hrd2, hdr2⟩ := rd_drop (b := B) (i := i + 1) (by omega) (by omega)
    have hlt : B[i.toNat] < B[(i + 1).toNat] := List.pairwise_iff_getElem.1 hB i.toNat (i + 1).toNat h' h'' (by omega)
    have hr1 := hrng _ (List.getElem_mem h')
    have hr2 := hrng _ (List.getElem_mem h'')
    have m1 : B[i.toNat] % 4294967296 = B[i.toNat] := by omega
    have m2 : (wrap64 (B[(i + 1).toNat] - 1)) % 4294967296 = B[(i + 1).toNat] - 1 := by unfold wrap64; omega
    have hrt : rd (B.take (B.length - 1)) i = B[i.toNat] := by
      unfold rd
      simp [List.getD, show i.toNat < B.length - 1 by omega]
    have hs := reached_f hw hc hr1.1 (show B[i.toNat] < 4294967296 by omega)
    refine Ev.step (f := fun k => if reachS l B[i.toNat] = true then (if ((P.map to30).length : Int) > 0 then (if 0 ≤ (wrap64 (((P.map to30).length : Int) - 1)) then (if (wrap64 (((P.map to30).length : Int) - 1)) < ((P.map to30).length : Int) then (if (wrap64 ((wrap64 ((rd_T30 (P.map to30) (wrap64 (((P.map to30).length : Int) - 1))).f1)) + 1)) = B[i.toNat] then (policy_Routes.l1 k l B ((P.map to30).set ((wrap64 (((P.map to30).length : Int) - 1)) : Int).toNat (⟨(rd_T30 (P.map to30) (wrap64 (((P.map to30).length : Int) - 1))).f0, B[(i + 1).toNat] - 1, (rd_T30 (P.map to30) (wrap64 (((P.map to30).length : Int) - 1))).f2⟩ : S30)) (B.take (B.length - 1)) ((B.take (B.length - 1)).length : Int) (i + 1)) else (if (P.map to30).length < 8796093022208 then (policy_Routes.l1 k l B ((P.map to30) ++ [(⟨B[i.toNat], B[(i + 1).toNat] - 1, 0⟩ : S30)]) (B.take (B.length - 1)) ((B.take (B.length - 1)).length : Int) (i + 1)) else (none))) else (none)) else (none)) else (if (P.map to30).length < 8796093022208 then (policy_Routes.l1 k l B ((P.map to30) ++ [(⟨B[i.toNat], B[(i + 1).toNat] - 1, 0⟩ : S30)]) (B.take (B.length - 1)) ((B.take (B.length - 1)).length : Int) (i + 1)) else (none))) else (policy_Routes.l1 k l B (P.map to30) (B.take (B.length - 1)) ((B.take (B.length - 1)).length : Int) (i + 1))) (fun k => ?_) ?_
    · simp only [policy_Routes.l1]
      rw [if_pos (by rw [htl]; omega), if_pos h0, if_pos (by rw [htl]; omega), hrt, m1, hs, e, hrd2, m2]
      simp only [Option.bind_some, show (0 : Int) ≤ i + 1 by omega, if_true, show i + 1 < (B.length : Int) by omega]
    · rw [hdr, hdr2]
      simp only [segs]
      rw [← hdr2, hrd]
      cases hR : reachS l B[i.toNat]
      · simp only [Bool.false_eq_true, if_false]
        have hih := ih (i + 1) P (by omega) (by omega) (by omega) hP (fun hne => by have := hle hne; rw [hrd2]; rw [hrd] at this; omega)
        rw [hrd2] at hih
        have : decide (P ≠ [] ∧ (P.getD (P.length - 1) (0, 0)).2 + 1 = B[(i + 1).toNat]) = false := decide_eq_false (fun h => by have := hle h.1; rw [hrd] at this; have := h.2; omega)
        rw [this] at hih
        exact hih
      · simp only [if_true]
        -- the last route ends next to the bound, or a new one begins
        have hnew : Ev (fun k => policy_Routes.l1 k l B ((P.map to30) ++ [(⟨B[i.toNat], B[(i + 1).toNat] - 1, 0⟩ : S30)]) (B.take (B.length - 1)) ((B.take (B.length - 1)).length : Int) (i + 1)) ((segs (reachS l) (B.drop (i + 1).toNat) true (P ++ [(B[i.toNat], B[(i + 1).toNat] - 1)])).take 16 |>.map to30) := by
          have hih := ih (i + 1) (P ++ [(B[i.toNat], B[(i + 1).toNat] - 1)]) (by omega) (by omega) (by simp only [List.length_append, List.length_singleton]; omega) (fun p hp => by
            rcases List.mem_append.1 hp with hp | hp
            · exact hP p hp
            · rw [List.mem_singleton] at hp
              rw [hp]; simp only; omega) (fun _ => by rw [hrd2]; simp)
          have : decide ((P ++ [(B[i.toNat], B[(i + 1).toNat] - 1)]) ≠ [] ∧ ((P ++ [(B[i.toNat], B[(i + 1).toNat] - 1)]).getD ((P ++ [(B[i.toNat], B[(i + 1).toNat] - 1)]).length - 1) (0, 0)).2 + 1 = rd B (i + 1)) = true := decide_eq_true ⟨by simp, by rw [hrd2]; simp⟩
          rw [this] at hih
          simpa [to30] using hih
        by_cases hne : P = []
        · subst hne
          simp only [List.map_nil, List.length_nil, ne_eq, not_true_eq_false, false_and, decide_false, Bool.false_eq_true, if_false]
          simpa using hnew
        · have hp : 0 < P.length := List.length_pos_iff.2 hne
          have e2 : wrap64 (((P.map to30).length : Int) - 1) = ((P.map to30).length : Int) - 1 := by simp only [List.length_map]; unfold wrap64; omega
          have hm := map_setLast30 P hne (B[(i + 1).toNat] - 1)
          have hlm : P.getD (P.length - 1) (0, 0) ∈ P := by
            have hge : P.getD (P.length - 1) (0, 0) = P[P.length - 1]'(by omega) := by simp [List.getD, List.getElem?_eq_getElem (show P.length - 1 < P.length by omega)]
            rw [hge]
            exact List.getElem_mem _
          have hlr := hP _ hlm
          have hgd : rd_T30 (P.map to30) (((P.map to30).length : Int) - 1) = to30 (P.getD (P.length - 1) (0, 0)) := by
            unfold rd_T30
            rw [show (((P.map to30).length : Int) - 1).toNat = P.length - 1 by simp]
            simp [List.getD, List.getElem?_eq_getElem (show P.length - 1 < P.length by omega)]
          have hw1 : wrap64 (wrap64 (to30 (P.getD (P.length - 1) (0, 0))).f1 + 1) = (P.getD (P.length - 1) (0, 0)).2 + 1 := by
            show wrap64 (wrap64 (P.getD (P.length - 1) (0, 0)).2 + 1) = _
            unfold wrap64; omega
          rw [e2, hm, hgd, hw1]
          simp only [List.length_map, show (P.length : Int) > 0 by omega, show (0 : Int) ≤ (P.length : Int) - 1 by omega, show (P.length : Int) - 1 < (P.length : Int) by omega, if_true, show P.length < 8796093022208 by omega]
          by_cases hj : (P.getD (P.length - 1) (0, 0)).2 + 1 = B[i.toNat]
          · simp only [hj, if_true, ne_eq, hne, not_false_eq_true, and_self, decide_true]
            have hlen := setLast_len P (B[(i + 1).toNat] - 1)
            have hget : ((setLast P (B[(i + 1).toNat] - 1)).getD ((setLast P (B[(i + 1).toNat] - 1)).length - 1) (0, 0)).2 = B[(i + 1).toNat] - 1 := by
              rw [hlen]
              unfold setLast
              simp [List.getD, show P.length - 1 < P.length by omega]
            have hih := ih (i + 1) (setLast P (B[(i + 1).toNat] - 1)) (by omega) (by omega) (by rw [hlen]; omega) (fun p hp => by
              unfold setLast at hp
              rcases List.mem_or_eq_of_mem_set hp with hp | hp
              · exact hP p hp
              · rw [hp]; simp only; omega) (fun _ => by rw [hrd2, hget]; omega)
            have : decide (setLast P (B[(i + 1).toNat] - 1) ≠ [] ∧ ((setLast P (B[(i + 1).toNat] - 1)).getD ((setLast P (B[(i + 1).toNat] - 1)).length - 1) (0, 0)).2 + 1 = rd B (i + 1)) = true := decide_eq_true ⟨fun h => hne (List.length_eq_zero_iff.1 (by rw [← hlen, h]; rfl)), by rw [hrd2, hget]; omega⟩
            rw [this] at hih
            exact hih
          · simp only [hj, if_false, ne_eq, hne, not_false_eq_true, and_false, decide_false, Bool.false_eq_true]
            exact hnew
end
/-- The program's loop that gathers the bounds. -/
theorem prog_l0 {l : List S40} (hw : ∀ z ∈ l, AdrR z) (hc : checkS l = 0) (r : List S30) (d : Nat) : ∀ (i : Int) (b : List Int), 0 ≤ i → (l.length : Int) - i = d → b.length + 2 * d ≤ 1000 → 0 < b.length →
    Ev (fun k => policy_Routes.l1 k l (Lib.compact ((b ++ bnds (l.drop i.toNat)).mergeSort fun x y => decide (x ≤ y))) [] ((Lib.compact ((b ++ bnds (l.drop i.toNat)).mergeSort fun x y => decide (x ≤ y))).take ((Lib.compact ((b ++ bnds (l.drop i.toNat)).mergeSort fun x y => decide (x ≤ y))).length - 1)) (((Lib.compact ((b ++ bnds (l.drop i.toNat)).mergeSort fun x y => decide (x ≤ y))).take ((Lib.compact ((b ++ bnds (l.drop i.toNat)).mergeSort fun x y => decide (x ≤ y))).length - 1)).length : Int) 0) r →
    Ev (fun k => policy_Routes.l0 k l b l (l.length : Int) i) r := by
  have hn := (checkS_ok.1 hc).1
  induction d with
  | zero =>
    intro i b h0 hd hbl hbp hr
    have hdn : bnds (l.drop i.toNat) = [] := by simp [bnds, List.drop_of_length_le (show l.length ≤ i.toNat by omega)]
    rw [hdn, List.append_nil] at hr
    have hcl := Lib.compact_length_le (b.mergeSort fun x y => decide (x ≤ y))
    rw [List.length_mergeSort] at hcl
    have hcp : 0 < (Lib.compact (b.mergeSort fun x y => decide (x ≤ y))).length := by
      obtain ⟨x, hx⟩ := List.exists_mem_of_length_pos hbp
      exact List.length_pos_of_mem ((sorted_once b).2 x |>.2 hx)
    have e : wrap64 (((Lib.compact (b.mergeSort fun x y => decide (x ≤ y))).length : Int) - 1) = ((Lib.compact (b.mergeSort fun x y => decide (x ≤ y))).length : Int) - 1 := by unfold wrap64; omega
    refine Ev.step (f := fun k => policy_Routes.l1 k l (Lib.compact (b.mergeSort fun x y => decide (x ≤ y))) [] ((Lib.compact (b.mergeSort fun x y => decide (x ≤ y))).take ((Lib.compact (b.mergeSort fun x y => decide (x ≤ y))).length - 1)) (((Lib.compact (b.mergeSort fun x y => decide (x ≤ y))).take ((Lib.compact (b.mergeSort fun x y => decide (x ≤ y))).length - 1)).length : Int) 0) (fun k => ?_) hr
    simp only [policy_Routes.l0]
    rw [if_neg (by omega)]
    unfold slices_Sort_int64_int64.f slices_Compact_int64_int64.f
    rw [if_pos ⟨hbp, by omega⟩]
    simp only [Option.bind_some]
    rw [if_pos ⟨by rw [List.length_mergeSort]; omega, by rw [List.length_mergeSort]; omega⟩]
    simp only [Option.bind_some, e]
    rw [if_pos (by omega), if_pos (by omega), show (((Lib.compact (b.mergeSort fun x y => decide (x ≤ y))).length : Int) - 1).toNat = (Lib.compact (b.mergeSort fun x y => decide (x ≤ y))).length - 1 by omega]
  | succ d ih =>
    intro i b h0 hd hbl hbp hr
    obtain ⟨h', hrd, hdr⟩ := get_rd (l := l) h0 (by omega)
    have e : wrap64 (i + 1) = i + 1 := by unfold wrap64; omega
    have hz := List.getElem_mem h'
    obtain ⟨e1, e2, e3⟩ := ends_one (hw _ hz) ((checkS_ok.1 hc).2 _ hz)
    have hbb : b ++ bnds (l.drop i.toNat) = (b ++ [(l[i.toNat]).f2.f0, (l[i.toNat]).f2.f0 + sz (l[i.toNat]).f2.f1]) ++ bnds (l.drop (i + 1).toNat) := by
      rw [hdr, List.append_assoc]
      simp [bnds]
    rw [hbb] at hr
    refine Ev.step (f := fun k => policy_Routes.l0 k l (b ++ [(l[i.toNat]).f2.f0, (l[i.toNat]).f2.f0 + sz (l[i.toNat]).f2.f1]) l (l.length : Int) (i + 1)) (fun k => ?_) (ih (i + 1) (b ++ [(l[i.toNat]).f2.f0, (l[i.toNat]).f2.f0 + sz (l[i.toNat]).f2.f1]) (by omega) (by omega) (by rw [List.length_append]; simp only [List.length_cons, List.length_nil]; omega) (by simp) hr)
    simp only [policy_Routes.l0]
    rw [if_pos (by omega), if_pos h0, if_pos (by omega), hrd, e1]
    simp only [Option.bind_some, e, e2, e3]
    rw [if_pos (by simp; omega)]
/-- The routes that rules tell. -/
def routesS (l : List S40) : List (Int × Int) := if checkS l = 0 then (segs (reachS l) (Lib.compact (([0, 4294967296] ++ bnds l).mergeSort fun x y => decide (x ≤ y))) false []).take 16 else []
theorem routes_bounds {l : List S40} (hw : ∀ z ∈ l, AdrR z) (hc : checkS l = 0) : ∃ B, B = Lib.compact (([0, 4294967296] ++ bnds l).mergeSort fun x y => decide (x ≤ y)) ∧ Rises B ∧ (∀ x, x ∈ B ↔ x ∈ [0, 4294967296] ++ bnds l) ∧ (∀ x ∈ B, 0 ≤ x ∧ x ≤ 4294967296) ∧ 0 < B.length ∧ routesS l = (segs (reachS l) B false []).take 16 := by
  have hso := sorted_once ([0, 4294967296] ++ bnds l)
  have hb := bnds_range hw (checkS_ok.1 hc).2
  refine ⟨_, rfl, hso.1, hso.2, fun x hx => ?_, List.length_pos_of_mem ((hso.2 0).2 (by simp)), by rw [routesS, if_pos hc]⟩
  rcases List.mem_append.1 ((hso.2 x).1 hx) with h | h
  · simp only [List.mem_cons, List.not_mem_nil, or_false] at h; omega
  · exact hb x h
theorem routesS_len (l : List S40) : (routesS l).length ≤ 16 := by
  unfold routesS
  split
  · rw [List.length_take]; omega
  · simp
/-- The program tells these routes. -/
theorem routes_f {l : List S40} (hw : ∀ z ∈ l, AdrR z) (hl : l.length ≤ 4611686018427387904) : Ev (fun k => policy_Routes.f k l) ((routesS l).map to30) := by
  unfold policy_Routes.f
  refine Ev.bind (chk_f l hw hl) ?_
  by_cases hc : checkS l = 0
  · have hn := (checkS_ok.1 hc).1
    obtain ⟨B, hBe, b1, b2, hrng, hBp, hR⟩ := routes_bounds hw hc
    have hbl := rises_len b1 hrng
    simp only [hc, if_true]
    refine prog_l0 hw hc _ l.length 0 [0, 4294967296] (by omega) (by omega) (by simp; omega) (by simp) ?_
    rw [Int.toNat_zero, List.drop_zero, ← hBe, hR]
    have := prog_loop hw hc b1 hrng (B.length - 1) 0 [] (by omega) (by omega) (by simp; omega) (by simp) (by simp)
    simpa using this
  · simp only [hc, if_false]
    rw [routesS, if_neg hc]
    exact ⟨0, fun k _ => rfl⟩
end Go.Proofs.Ytcpneggifmldoaa.X

-- laid by ext.py (this session's) over the kit's print; the functions named EXT in it are proved by hand
import Derived.Test.YtcpneggifmldoaaXx0
import Derived.Test.YtcpneggifmldoaaXx3
import Derived.Test.YtcpneggifmldoaaXx4
import Derived.Test.YtcpneggifmldoaaXx5
import Derived.Test.YtcpneggifmldoaaXx8
namespace Go.Proofs.Ytcpneggifmldoaa.X
open Go.RowKit Go.Proofs.YtcpneggifmldoaaW.PrintWords Go.Proofs.YtcpneggifmldoaaW.PrintLast Go.Proofs.YtcpneggifmldoaaW.PrintMore
attribute [local go_sem] max2_int min2_int max_two min_two max_three min_three max_four min_four   -- for this text's walks alone
set_option linter.unusedVariables false
set_option linter.unusedSimpArgs false

/-! ### policy_Routes: function 10 -/
mutual
def policy_Routes.l0 : Nat → List (S40) → List Int → List (S40) → Int → Int → Option ((List (S30)))
  | 0, _, _, _, _, _ => none
  | k + 1, x0, x3, x17, x18, x19 => if x19 < x18 then (if 0 ≤ x19 then (if x19 < (x17.length : Int) then ((prefix_Ends.f ((rd_T40 x17 x19).f2.f0) ((rd_T40 x17 x19).f2.f1)).bind fun bt124 => ((some (([wrap64 (bt124.1), wrap64 ((wrap64 (bt124.2)) + 1)] : List Int) : List Int)).bind fun y126 => (if x3.length + y126.length < 17592186044416 then (policy_Routes.l0 k x0 (x3 ++ y126) x17 x18 (wrap64 (x19 + 1))) else (none)))) else (none)) else (none)) else ((slices_Sort_int64_int64.f x3).bind fun t132 => ((slices_Compact_int64_int64.f t132).bind fun t133 => (if 0 ≤ (wrap64 ((t133.length : Int) - 1)) then (if (wrap64 ((t133.length : Int) - 1)) ≤ (t133.length : Int) then ((some (t133.take ((wrap64 ((t133.length : Int) - 1)) : Int).toNat : List Int)).bind fun y136 => (policy_Routes.l1 k x0 t133 ([] : List (S30)) y136 (y136.length : Int) 0)) else (none)) else (none))))
def policy_Routes.l1 : Nat → List (S40) → List Int → List (S30) → List Int → Int → Int → Option ((List (S30)))
  | 0, _, _, _, _, _, _ => none
  | k + 1, x0, x3, x8, x46, x47, x48 => if x48 < x47 then (if 0 ≤ x48 then (if x48 < (x46.length : Int) then ((policy_reached.f x0 ((rd x46 x48) % 4294967296)).bind fun t144 => (if t144 = true then (if 0 ≤ (wrap64 (x48 + 1)) then (if (wrap64 (x48 + 1)) < (x3.length : Int) then (if (x8.length : Int) > 0 then (if 0 ≤ (wrap64 ((x8.length : Int) - 1)) then (if (wrap64 ((x8.length : Int) - 1)) < (x8.length : Int) then (if (wrap64 ((wrap64 ((rd_T30 x8 (wrap64 ((x8.length : Int) - 1))).f1)) + 1)) = (rd x46 x48) then (policy_Routes.l1 k x0 x3 (x8.set ((wrap64 ((x8.length : Int) - 1)) : Int).toNat (⟨(rd_T30 x8 (wrap64 ((x8.length : Int) - 1))).f0, (wrap64 ((rd x3 (wrap64 (x48 + 1))) - 1)) % 4294967296, (rd_T30 x8 (wrap64 ((x8.length : Int) - 1))).f2⟩ : S30)) x46 x47 (wrap64 (x48 + 1))) else (if x8.length < 8796093022208 then (policy_Routes.l1 k x0 x3 (x8 ++ [(⟨(rd x46 x48) % 4294967296, (wrap64 ((rd x3 (wrap64 (x48 + 1))) - 1)) % 4294967296, 0⟩ : S30)]) x46 x47 (wrap64 (x48 + 1))) else (none))) else (none)) else (none)) else (if x8.length < 8796093022208 then (policy_Routes.l1 k x0 x3 (x8 ++ [(⟨(rd x46 x48) % 4294967296, (wrap64 ((rd x3 (wrap64 (x48 + 1))) - 1)) % 4294967296, 0⟩ : S30)]) x46 x47 (wrap64 (x48 + 1))) else (none))) else (none)) else (none)) else (policy_Routes.l1 k x0 x3 x8 x46 x47 (wrap64 (x48 + 1))))) else (none)) else (none)) else (if 0 ≤ (mn (x8.length : Int) 16) then (if (mn (x8.length : Int) 16) ≤ (x8.length : Int) then (some (x8.take ((mn (x8.length : Int) 16) : Int).toNat)) else (none)) else (none))
end
def policy_Routes.f (k : Nat) (l0 : List (S40)) : Option ((List (S30))) := (policy_Check.f k l0).bind fun t118 => (if t118 = 0 then (policy_Routes.l0 k l0 (([0, 4294967296] : List Int)) l0 (l0.length : Int) 0) else (some ([] : List (S30))))
theorem policy_Routes.mono_l : ∀ k, (∀ y0 y1 y2 y3 y4, LeO (policy_Routes.l0 k y0 y1 y2 y3 y4) (policy_Routes.l0 (k + 1) y0 y1 y2 y3 y4)) ∧ (∀ y0 y1 y2 y3 y4 y5, LeO (policy_Routes.l1 k y0 y1 y2 y3 y4 y5) (policy_Routes.l1 (k + 1) y0 y1 y2 y3 y4 y5))
  | 0 => ⟨fun _ _ _ _ _ r h => by simp [policy_Routes.l0] at h, fun _ _ _ _ _ _ r h => by simp [policy_Routes.l1] at h⟩
  | k + 1 => by
    obtain ⟨ih0, ih1⟩ := policy_Routes.mono_l k
    refine ⟨?_, ?_⟩
    · intro y0 y1 y2 y3 y4
      unfold policy_Routes.l0
      repeat' first
      | (with_reducible exact ih0 _ _ _ _ _)
      | (with_reducible exact ih1 _ _ _ _ _ _)
      | (with_reducible exact policy_Check.mono _ _)
      | (with_reducible exact LeO.refl _)
      | (with_reducible exact LeO.none _)
      | (with_reducible refine LeO.ite ?_ ?_)
      | (with_reducible refine LeO.bind ?_ (fun _ => ?_))
      | exact ih0 _ _ _ _ _
      | exact ih1 _ _ _ _ _ _
      | exact policy_Check.mono _ _
      | exact LeO.none _
      | refine LeO.ite ?_ ?_
      | refine LeO.bind ?_ (fun _ => ?_)
    · intro y0 y1 y2 y3 y4 y5
      unfold policy_Routes.l1
      repeat' first
      | (with_reducible exact ih0 _ _ _ _ _)
      | (with_reducible exact ih1 _ _ _ _ _ _)
      | (with_reducible exact policy_Check.mono _ _)
      | (with_reducible exact LeO.refl _)
      | (with_reducible exact LeO.none _)
      | (with_reducible refine LeO.ite ?_ ?_)
      | (with_reducible refine LeO.bind ?_ (fun _ => ?_))
      | exact ih0 _ _ _ _ _
      | exact ih1 _ _ _ _ _ _
      | exact policy_Check.mono _ _
      | exact LeO.none _
      | refine LeO.ite ?_ ?_
      | refine LeO.bind ?_ (fun _ => ?_)
theorem policy_Routes.mono : ∀ a0 k, LeO (policy_Routes.f k a0) (policy_Routes.f (k + 1) a0) := by
  intro a0 k
  obtain ⟨ih0, ih1⟩ := policy_Routes.mono_l k
  unfold policy_Routes.f
  repeat' first
      | (with_reducible exact ih0 _ _ _ _ _)
      | (with_reducible exact ih1 _ _ _ _ _ _)
      | (with_reducible exact policy_Check.mono _ _)
      | (with_reducible exact LeO.refl _)
      | (with_reducible exact LeO.none _)
      | (with_reducible refine LeO.ite ?_ ?_)
      | (with_reducible refine LeO.bind ?_ (fun _ => ?_))
      | exact ih0 _ _ _ _ _
      | exact ih1 _ _ _ _ _ _
      | exact policy_Check.mono _ _
      | exact LeO.none _
      | refine LeO.ite ?_ ?_
      | refine LeO.bind ?_ (fun _ => ?_)
set_option maxHeartbeats 8000000 in
set_option maxRecDepth 100000 in
theorem policy_Routes.calls (k : Nat) (A0 : Option Addr) (c0 : Nat) (l0 : List (S40)) (r : List (S30)) (w : World) (hr0 : Kd.C k40 w A0 l0.length l0) (hc0 : l0.length ≤ c0) (h : policy_Routes.f k l0 = some r) :
    Calls Try.prog 10 #[.slice A0 l0.length c0] w fun e w' => ∃ v0_ : Value, e = .returned (v0_) ∧ Kd.R k30 30 w' w.heap.size (fun _ => True) v0_ r ∧ Below w.heap.size w w' := by
  have hu40 := Try.underlying40
  have hu38 := Try.underlying38
  have hu30 := Try.underlying30
  have HR0 := Aside0.mk hr0
  have HC0 := Aside0.mk hc0
  clear hr0 hc0
  have HB := Aside0.mk (Below.refl w.heap.size w)
  have H : ((policy_Check.f k l0).bind fun t118 => (if t118 = 0 then (policy_Routes.l0 k l0 (([0, 4294967296] : List Int)) l0 (l0.length : Int) 0) else (some ([] : List (S30))))) = some r := h
  clear h
  replace H := Option.bind_eq_some_iff.mp H
  obtain ⟨t118, A20, H⟩ := H
  replace H : (if t118 = 0 then (policy_Routes.l0 k l0 (([0, 4294967296] : List Int)) l0 (l0.length : Int) 0) else (some ([] : List (S30)))) = some r := H
  have A2 := Aside0.mk A20
  clear A20
  by_cases c3 : t118 = 0
  · rw [if_pos c3] at H
    have c3b0 : (t118 == 0) = true := beq_iff_eq.mpr c3
    have c3b1 : (t118 != 0) = false := bne_eq_false_iff_eq.mpr c3
    clear c3
    obtain ⟨y119, hy119⟩ : ∃ y_ : List Int, y_ = (([0, 4294967296] : List Int)) := ⟨_, rfl⟩
    replace H : (policy_Routes.l0 k l0 y119 l0 (l0.length : Int) 0) = some r := by first | (rw [hy119]; with_reducible exact H) | (have H2_ := (Option.bind_some _ _).symm.trans H; rw [hy119]; with_reducible exact H2_) | (have H2_ := (Option.bind_some _ _).symm.trans H; with_reducible exact H2_) | with_reducible exact H | (rw [hy119]; exact H) | exact H
    have Ny119 := Aside0.mk hy119
    clear hy119
    have H' := Aside0.mk H
    clear H
    go_enter Try.func10, Try.ntmps10
    go_wp2_with (first | ((with_reducible refine gate_callee (f := 15) rfl ?_); refine goesL_ (some 14) rfl rfl Try.func15 (by kernel_rfl) rfl #[.slice A0 l0.length c0] rfl (by (try simp only [List.map_toArray, List.map_cons, List.map_nil]); first | done | rfl | (simp only [List.length_drop, List.length_take]; rfl)) ?_; (with_reducible refine (policy_Check.calls k _ _ l0 t118 _ ?side1 ?side2 A2.out).mono ?_); (case side1 => repeat (first | exact HR0.out | (with_reducible refine Kd.C_alloc ?_ _) | (with_reducible refine Kd.C_drewN ?_ _) | (with_reducible refine Kd.C_drew ?_))); (case side2 => exact HC0.out); rintro e w4 ⟨rfl, hb⟩; refine ⟨_, rfl, ?_⟩; have n0_ := Aside0.mk (below_step (by repeat (first | (with_reducible first | exact HB.out | apply below_alloc | apply pw_below_drewN | apply below_drew1) | exact HB.out)) hb); clear HB; have HB := n0_; clear n0_; (try clear hb); (try clear hb2); (try clear hk); (try clear hi)) | ((with_reducible refine gate_dst (N := 16) rfl ?_); refine Kd.R_lit (Kd.int .i64) _ 2 ?hg (N := 16) ?hd (xs := ([0, 4294967296] : List Int)) (inner := [.int .i64 0, .int .i64 4294967296]) (ok := fun _ => True) (okp := fun _ => True) ?hr ?hp (fun _ hk => hk) trivial (Below.refl _ _) (Nat.le_refl _) (by simp) ?_; (case hd => rfl); (case hg => rfl); (case hr => first | (go_simp; done) | (go_simp; rfl)); (case hp => exact (Reps.one (show Kd.M (Kd.int .i64) _ _ _ 0 [.int .i64 0] from rfl) (Reps.one (show Kd.M (Kd.int .i64) _ _ _ 4294967296 [.int .i64 4294967296] from rfl) (Reps.none _ _)))); intro v120 w5 ho6 hb hg_ hnew_; clear hg_ hnew_; (first | rw [← Ny119.out] at ho6 | (simp only [Int.reduceToNat] at ho6; rw [← Ny119.out] at ho6)); have n0_ := Aside0.mk (Kd.R_lower ho6 (below_size (by repeat (first | (with_reducible first | exact HB.out | apply below_alloc | apply pw_below_drewN | apply below_drew1) | exact HB.out)))); have n1_ := Aside0.mk (below_step (by repeat (first | (with_reducible first | exact HB.out | apply below_alloc | apply pw_below_drewN | apply below_drew1) | exact HB.out)) hb); clear HB; have HO121 := n0_; have HB := n1_; clear n0_ n1_; clear hb ho6))
    go_loopg [3, 19] k (fun kq v3 v19 w' => ∃ (x3_1 : List Int) (x19_1 : Int), v19 = .int .i64 x19_1 ∧ Aside0 (policy_Routes.l0 kq l0 x3_1 l0 (l0.length : Int) x19_1 = some r) ∧ Aside0 (kq ≤ k) ∧ Aside0 (Kd.R (Kd.int .i64) 2 w' w.heap.size (fun _ => True) v3 x3_1) ∧ Aside0 (Below w.heap.size w w'))
    case atStart => exact ⟨(y119), (0), (by first | rfl | (simp; done) | (simp [*]; done)), H', ⟨Nat.le_refl _⟩, ⟨by (with_reducible repeat (first | apply Kd.R_alloc | apply Kd.R_drewN | apply Kd.R_drew)); exact HO121.out⟩, ⟨by repeat (first | (with_reducible first | exact HB.out | apply below_alloc | apply pw_below_drewN | apply below_drew1) | exact HB.out)⟩⟩
    case round =>
      clear H'
      try clear c1
      try clear p2
      try clear c3
      try clear c3b0
      try clear c3b1
      obtain ⟨x3_1, x19_1, rfl, HA, HK1, HO_3, HB⟩ := hrel
      cases gk with
      | zero => exact absurd HA.out (by simp [policy_Routes.l0])
      | succ k1 =>
        have H := HA.out
        clear HA
        simp only [policy_Routes.l0] at H
        by_cases c7 : x19_1 < (l0.length : Int)
        · rw [if_pos c7] at H
          have c7b0 : decide (x19_1 < (l0.length : Int)) = true := decide_eq_true c7
          clear c7
          by_cases c8 : 0 ≤ x19_1
          · rw [if_pos c8] at H
            have c8b0 : decide (0 ≤ x19_1) = true := decide_eq_true c8
            clear c8
            by_cases c9 : x19_1 < (l0.length : Int)
            · rw [if_pos c9] at H
              have c9b0 : decide (x19_1 < (l0.length : Int)) = true := decide_eq_true c9
              clear c9
              replace H := Option.bind_eq_some_iff.mp H
              obtain ⟨⟨t124, t125⟩, A100, H⟩ := H
              replace H : ((some (([wrap64 (t124), wrap64 ((wrap64 (t125)) + 1)] : List Int) : List Int)).bind fun y126 => (if x3_1.length + y126.length < 17592186044416 then (policy_Routes.l0 k1 l0 (x3_1 ++ y126) l0 (l0.length : Int) (wrap64 (x19_1 + 1))) else (none))) = some r := H
              have A10 := Aside0.mk A100
              clear A100
              obtain ⟨y126, hy126⟩ : ∃ y_ : List Int, y_ = (([wrap64 (t124), wrap64 ((wrap64 (t125)) + 1)] : List Int)) := ⟨_, rfl⟩
              replace H : (if x3_1.length + y126.length < 17592186044416 then (policy_Routes.l0 k1 l0 (x3_1 ++ y126) l0 (l0.length : Int) (wrap64 (x19_1 + 1))) else (none)) = some r := by first | (rw [hy126]; with_reducible exact H) | (have H2_ := (Option.bind_some _ _).symm.trans H; rw [hy126]; with_reducible exact H2_) | (have H2_ := (Option.bind_some _ _).symm.trans H; with_reducible exact H2_) | with_reducible exact H | (rw [hy126]; exact H) | exact H
              have Ny126 := Aside0.mk hy126
              clear hy126
              by_cases c11 : x3_1.length + y126.length < 17592186044416
              · rw [if_pos c11] at H
                have LMc11 := Aside0.mk c11
                clear c11
                obtain ⟨y129, hy129⟩ : ∃ y_ : List Int, y_ = (x3_1 ++ y126) := ⟨_, rfl⟩
                replace H : (policy_Routes.l0 k1 l0 y129 l0 (l0.length : Int) (wrap64 (x19_1 + 1))) = some r := by first | (rw [hy129]; with_reducible exact H) | (have H2_ := (Option.bind_some _ _).symm.trans H; rw [hy129]; with_reducible exact H2_) | (have H2_ := (Option.bind_some _ _).symm.trans H; with_reducible exact H2_) | with_reducible exact H | (rw [hy129]; exact H) | exact H
                have Ny129 := Aside0.mk hy129
                clear hy129
                have H' := Aside0.mk H
                clear H
                have p122 : 0 ≤ (x19_1 : Int) := of_decide_eq_true (by first | (with_reducible assumption) | assumption)
                have q122 : x19_1 < (l0.length : Int) := of_decide_eq_true (by first | (with_reducible assumption) | assumption)
                obtain ⟨ad122, e122, hx122_0, hx122_1, hx122_2, hx122_3, hx122_4, hx122_5⟩ := at_T40 HR0.out x19_1 p122 q122
                cases e122
                try replace hx122_0 := (HB.out.cell (World.block_lt_of_cell? w _ hx122_0)).trans hx122_0
                try replace hx122_1 := (HB.out.cell (World.block_lt_of_cell? w _ hx122_1)).trans hx122_1
                try replace hx122_2 := (HB.out.cell (World.block_lt_of_cell? w _ hx122_2)).trans hx122_2
                try replace hx122_3 := (HB.out.cell (World.block_lt_of_cell? w _ hx122_3)).trans hx122_3
                try replace hx122_4 := (HB.out.cell (World.block_lt_of_cell? w _ hx122_4)).trans hx122_4
                try replace hx122_5 := (HB.out.cell (World.block_lt_of_cell? w _ hx122_5)).trans hx122_5
                replace p122 := eq_true p122
                replace q122 := eq_true q122
                go_wp2_with (first | ((with_reducible refine gate_dst (N := 5) rfl ?_); refine box_event ?hg (N := 5) ?hd (cs := #[.bool false, .int .i64 0, .int .u32 0, .int .i64 0, .int .i64 0, .int .i64 0]) (t := 40) ?hr ?_; (case hd => rfl); (case hg => rfl); (case hr => first | (go_simp; done) | (go_simp; rfl)); intro gb123 hg w12 hbox hb; have n0_ := Aside0.mk (Kd.R_below (by (with_reducible repeat (first | apply Kd.R_alloc | apply Kd.R_drewN | apply Kd.R_drew)); exact HO_3.out) hb); have n1_ := Aside0.mk (below_step (by repeat (first | (with_reducible first | exact HB.out | apply below_alloc | apply pw_below_drewN | apply below_drew1) | exact HB.out)) hb); have n2_ := Aside0.mk (hbox); have n3_ := Aside0.mk ((by rw [hg]; exact (below_size (by repeat (first | (with_reducible first | exact HB.out | apply below_alloc | apply pw_below_drewN | apply below_drew1) | exact HB.out))) : w.heap.size ≤ gb123)); have n4_ := Aside0.mk ((by rw [hg]; exact (below_size (by repeat (first | (with_reducible first | exact HB.out | apply below_alloc | apply pw_below_drewN | apply below_drew1) | exact HB.out))) : w.heap.size ≤ gb123)); clear HO_3; clear HB; have HO_3 := n0_; have HB := n1_; have BK123 := n2_; have GW123 := n3_; have GE123 := n4_; clear n0_ n1_ n2_ n3_ n4_; clear hb hbox hg; have hcz13_0 : w12.cell? ⟨gb123, 0, none⟩ = some (.bool false) := (blk_cell BK123.out 0).trans rfl; have hcz13_1 : w12.cell? ⟨gb123, 1, none⟩ = some (.int .i64 0) := (blk_cell BK123.out 1).trans rfl; have hcz13_2 : w12.cell? ⟨gb123, 2, none⟩ = some (.int .u32 0) := (blk_cell BK123.out 2).trans rfl; have hcz13_3 : w12.cell? ⟨gb123, 3, none⟩ = some (.int .i64 0) := (blk_cell BK123.out 3).trans rfl; have hcz13_4 : w12.cell? ⟨gb123, 4, none⟩ = some (.int .i64 0) := (blk_cell BK123.out 4).trans rfl; have hcz13_5 : w12.cell? ⟨gb123, 5, none⟩ = some (.int .i64 0) := (blk_cell BK123.out 5).trans rfl; have hfz13_0 := blk_frozen BK123.out 0; have hfz13_1 := blk_frozen BK123.out 1; have hfz13_2 := blk_frozen BK123.out 2; have hfz13_3 := blk_frozen BK123.out 3; have hfz13_4 := blk_frozen BK123.out 4; have hfz13_5 := blk_frozen BK123.out 5) | ((with_reducible refine gate_callee (f := 27) rfl ?_); refine goesL_ (some 26) rfl rfl Try.func27 (by kernel_rfl) rfl #[.agg #[.int .u32 ((rd_T40 l0 x19_1).f2.f0), .int .i64 ((rd_T40 l0 x19_1).f2.f1)]] rfl (by (try simp only [List.map_toArray, List.map_cons, List.map_nil]); first | done | rfl | (simp only [List.length_drop, List.length_take]; rfl)) ?_; (with_reducible refine (prefix_Ends.calls ((rd_T40 l0 x19_1).f2.f0) ((rd_T40 l0 x19_1).f2.f1) t124 t125 _ A10.out).mono ?_); rintro e w14 ⟨rfl, hb⟩; refine ⟨_, rfl, ?_⟩; have n0_ := Aside0.mk (Kd.R_below (by (with_reducible repeat (first | apply Kd.R_alloc | apply Kd.R_drewN | apply Kd.R_drew)); exact (Kd.R_mono (Kd.R_far (p := ⟨gb123, 5, none⟩) (Kd.R_far (p := ⟨gb123, 4, none⟩) (Kd.R_far (p := ⟨gb123, 3, none⟩) (Kd.R_far (p := ⟨gb123, 2, none⟩) (Kd.R_far (p := ⟨gb123, 1, none⟩) (Kd.R_far (p := ⟨gb123, 0, none⟩) (Kd.R_types HO_3.out BK123.out (by decide)) (fun _ hk => hk.2) (.bool ((rd_T40 l0 x19_1).f0))) (fun _ hk => hk.2) (.int .i64 ((rd_T40 l0 x19_1).f1))) (fun _ hk => hk.2) (.int .u32 ((rd_T40 l0 x19_1).f2.f0))) (fun _ hk => hk.2) (.int .i64 ((rd_T40 l0 x19_1).f2.f1))) (fun _ hk => hk.2) (.int .i64 ((rd_T40 l0 x19_1).f3))) (fun _ hk => hk.2) (.int .i64 ((rd_T40 l0 x19_1).f4))) (fun _ h_ => h_.1))) hb); have n1_ := Aside0.mk (blk_below (g := gb123) (o := .cells #[.bool ((rd_T40 l0 x19_1).f0), .int .i64 ((rd_T40 l0 x19_1).f1), .int .u32 ((rd_T40 l0 x19_1).f2.f0), .int .i64 ((rd_T40 l0 x19_1).f2.f1), .int .i64 ((rd_T40 l0 x19_1).f3), .int .i64 ((rd_T40 l0 x19_1).f4)] 40 (0, 0)) (by (with_reducible repeat (first | refine blk_drewN ?_ _ | refine blk_drew ?_ | refine blk_alloc ?_ _)); refine blk_put (cs := #[.bool ((rd_T40 l0 x19_1).f0), .int .i64 ((rd_T40 l0 x19_1).f1), .int .u32 ((rd_T40 l0 x19_1).f2.f0), .int .i64 ((rd_T40 l0 x19_1).f2.f1), .int .i64 ((rd_T40 l0 x19_1).f3), .int .i64 0]) ?_ 5 _ rfl; (with_reducible repeat (first | refine blk_drewN ?_ _ | refine blk_drew ?_ | refine blk_alloc ?_ _)); refine blk_put (cs := #[.bool ((rd_T40 l0 x19_1).f0), .int .i64 ((rd_T40 l0 x19_1).f1), .int .u32 ((rd_T40 l0 x19_1).f2.f0), .int .i64 ((rd_T40 l0 x19_1).f2.f1), .int .i64 0, .int .i64 0]) ?_ 4 _ rfl; (with_reducible repeat (first | refine blk_drewN ?_ _ | refine blk_drew ?_ | refine blk_alloc ?_ _)); refine blk_put (cs := #[.bool ((rd_T40 l0 x19_1).f0), .int .i64 ((rd_T40 l0 x19_1).f1), .int .u32 ((rd_T40 l0 x19_1).f2.f0), .int .i64 0, .int .i64 0, .int .i64 0]) ?_ 3 _ rfl; (with_reducible repeat (first | refine blk_drewN ?_ _ | refine blk_drew ?_ | refine blk_alloc ?_ _)); refine blk_put (cs := #[.bool ((rd_T40 l0 x19_1).f0), .int .i64 ((rd_T40 l0 x19_1).f1), .int .u32 0, .int .i64 0, .int .i64 0, .int .i64 0]) ?_ 2 _ rfl; (with_reducible repeat (first | refine blk_drewN ?_ _ | refine blk_drew ?_ | refine blk_alloc ?_ _)); refine blk_put (cs := #[.bool ((rd_T40 l0 x19_1).f0), .int .i64 0, .int .u32 0, .int .i64 0, .int .i64 0, .int .i64 0]) ?_ 1 _ rfl; (with_reducible repeat (first | refine blk_drewN ?_ _ | refine blk_drew ?_ | refine blk_alloc ?_ _)); refine blk_put (cs := #[.bool false, .int .i64 0, .int .u32 0, .int .i64 0, .int .i64 0, .int .i64 0]) ?_ 0 _ rfl; (with_reducible repeat (first | refine blk_drewN ?_ _ | refine blk_drew ?_ | refine blk_alloc ?_ _)); exact BK123.out) hb); have n2_ := Aside0.mk (below_step (by repeat (first | (with_reducible first | exact HB.out | apply below_alloc | apply pw_below_drewN | apply below_drew1 | refine below_set ?_ GE123.out) | exact HB.out)) hb); clear HO_3; clear BK123; clear HB; have HO_3 := n0_; have BK123 := n1_; have HB := n2_; clear n0_ n1_ n2_; (try clear hb); (try clear hb2); (try clear hk); (try clear hi)) | ((with_reducible refine gate_dst (N := 35) rfl ?_); refine Kd.R_lit (Kd.int .i64) _ 2 ?hg (N := 35) ?hd (xs := ([wrap64 (t124), wrap64 ((wrap64 (t125)) + 1)] : List Int)) (inner := [.int .i64 (wrap64 (t124)), .int .i64 (wrap64 ((wrap64 (t125)) + 1))]) (ok := fun _ => True) (okp := fun _ => True) ?hr ?hp (fun _ hk => hk) trivial (Below.refl _ _) (Nat.le_refl _) (by simp) ?_; (case hd => rfl); (case hg => rfl); (case hr => first | (go_simp; done) | (go_simp; rfl)); (case hp => exact (Reps.one (show Kd.M (Kd.int .i64) _ _ _ (wrap64 (t124)) [.int .i64 (wrap64 (t124))] from rfl) (Reps.one (show Kd.M (Kd.int .i64) _ _ _ (wrap64 ((wrap64 (t125)) + 1)) [.int .i64 (wrap64 ((wrap64 (t125)) + 1))] from rfl) (Reps.none _ _)))); intro v127 w15 ho16 hb hg_ hnew_; clear hg_ hnew_; (first | rw [← Ny126.out] at ho16 | (simp only [Int.reduceToNat] at ho16; rw [← Ny126.out] at ho16)); have n0_ := Aside0.mk (Kd.R_elder' (by (with_reducible repeat (first | apply Kd.R_alloc | apply Kd.R_drewN | apply Kd.R_drew)); exact HO_3.out) (Kd.R_base ho16) hb); have n1_ := Aside0.mk (Kd.R_lower (Kd.R_new' ho16 (Kd.R_lt (by (with_reducible repeat (first | apply Kd.R_alloc | apply Kd.R_drewN | apply Kd.R_drew)); exact HO_3.out))) (below_size (by repeat (first | (with_reducible first | exact HB.out | apply below_alloc | apply pw_below_drewN | apply below_drew1 | refine below_set ?_ GE123.out) | exact HB.out)))); have n2_ := Aside0.mk (blk_below (g := gb123) (o := .cells #[.bool ((rd_T40 l0 x19_1).f0), .int .i64 ((rd_T40 l0 x19_1).f1), .int .u32 ((rd_T40 l0 x19_1).f2.f0), .int .i64 ((rd_T40 l0 x19_1).f2.f1), .int .i64 ((rd_T40 l0 x19_1).f3), .int .i64 ((rd_T40 l0 x19_1).f4)] 40 (0, 0)) (by (with_reducible repeat (first | refine blk_drewN ?_ _ | refine blk_drew ?_ | refine blk_alloc ?_ _)); exact BK123.out) hb); have n3_ := Aside0.mk (below_step (by repeat (first | (with_reducible first | exact HB.out | apply below_alloc | apply pw_below_drewN | apply below_drew1 | refine below_set ?_ GE123.out) | exact HB.out)) hb); clear HO_3; clear BK123; clear HB; have HO_3 := n0_; have HO128 := n1_; have BK123 := n2_; have HB := n3_; clear n0_ n1_ n2_ n3_; clear hb ho16; obtain ⟨Ao18, co18, eo18⟩ := Kd.R_slice HO128.out; subst eo18) | ((with_reducible refine gate_builtin (b := .append) (xs := #[.tmp 29, .tmp 35]) rfl ?_); at_builtin; refine Kd.R_append_rows (Kd.int .i64) (w0 := w) w.heap.size rfl (.tmp 29) (.tmp 35) 63 2 (.int .i64 0) 8 rfl Try.underlying63 info2 rfl (by decide) (by omega) u3 x3_1 y126 _ _ _ (fun k_ => some k_ ≠ (.slice Ao18 y126.length co18 : Value).ownBlock) (fun _ => False) rfl rfl ?aO ?aR (fun _ _ h => h) (fun _ h => h.elim) ?aF ?aB ?aS ?aL ?_; (case aR => repeat (first | exact (Kd.R_reads' HO128.out).2.2 | (with_reducible refine Kd.C_alloc ?_ _) | (with_reducible refine Kd.C_drewN ?_ _) | (with_reducible refine Kd.C_drew ?_))); (case aB => exact (by repeat (first | (with_reducible first | exact HB.out | apply below_alloc | apply pw_below_drewN | apply below_drew1 | refine below_set ?_ GE123.out) | exact HB.out))); (case aF => exact (fun k_ hk => Kd.fresh' (Kd.R_lt (by (with_reducible repeat (first | apply Kd.R_alloc | apply Kd.R_drewN | apply Kd.R_drew)); exact HO128.out)) k_ hk)); (case aO => exact (by (with_reducible repeat (first | apply Kd.R_alloc | apply Kd.R_drewN | apply Kd.R_drew)); exact Kd.R_mono HO_3.out (fun _ hk => hk.2))); (case aS => exact (below_size (by repeat (first | (with_reducible first | exact HB.out | apply below_alloc | apply pw_below_drewN | apply below_drew1 | refine below_set ?_ GE123.out) | exact HB.out)))); (case aL => have := LMc11.out; omega); intro v130 w17 ho hb hg hat; rw [← Ny129.out] at ho; have n0_ := Aside0.mk (blk_grown (g := gb123) (o := .cells #[.bool ((rd_T40 l0 x19_1).f0), .int .i64 ((rd_T40 l0 x19_1).f1), .int .u32 ((rd_T40 l0 x19_1).f2.f0), .int .i64 ((rd_T40 l0 x19_1).f2.f1), .int .i64 ((rd_T40 l0 x19_1).f3), .int .i64 ((rd_T40 l0 x19_1).f4)] 40 (0, 0)) (by (with_reducible repeat (first | refine blk_drewN ?_ _ | refine blk_drew ?_ | refine blk_alloc ?_ _)); exact BK123.out) hg (Kd.R_ne HO_3.out BK123.out (by decide))); have n1_ := Aside0.mk (Kd.R_after (ok := (fun _ => True)) (by (with_reducible repeat (first | apply Kd.R_alloc | apply Kd.R_drewN | apply Kd.R_drew)); exact HO128.out) hg hat); have n2_ := Aside0.mk (hb); have n3_ := Aside0.mk (ho); clear BK123; clear HO128; clear HB; clear HO_3; have BK123 := n0_; have HO128 := n1_; have HB := n2_; have HO131 := n3_; clear n0_ n1_ n2_ n3_; clear ho hb hg hat))
                go_roundg k1
                case measure => have := HK1.out; omega
                case rel => exact ⟨(y129), (wrap64 (x19_1 + 1)), (by first | rfl | (simp; done) | (simp [*]; done)), H', ⟨by have := HK1.out; omega⟩, ⟨by (with_reducible repeat (first | apply Kd.R_alloc | apply Kd.R_drewN | apply Kd.R_drew)); exact Kd.R_mono HO131.out (fun _ hk => trivial)⟩, ⟨by repeat (first | (with_reducible first | exact HB.out | apply below_alloc | apply pw_below_drewN | apply below_drew1 | refine below_set ?_ GE123.out) | exact HB.out)⟩⟩
              · rw [if_neg c11] at H
                exact absurd H (by simp)
            · rw [if_neg c9] at H
              exact absurd H (by simp)
          · rw [if_neg c8] at H
            exact absurd H (by simp)
        · rw [if_neg c7] at H
          have c7b0 : decide (x19_1 < (l0.length : Int)) = false := decide_eq_false c7
          clear c7
          replace H := Option.bind_eq_some_iff.mp H
          obtain ⟨t132, A190, H⟩ := H
          replace H : ((slices_Compact_int64_int64.f t132).bind fun t133 => (if 0 ≤ (wrap64 ((t133.length : Int) - 1)) then (if (wrap64 ((t133.length : Int) - 1)) ≤ (t133.length : Int) then ((some (t133.take ((wrap64 ((t133.length : Int) - 1)) : Int).toNat : List Int)).bind fun y136 => (policy_Routes.l1 k1 l0 t133 ([] : List (S30)) y136 (y136.length : Int) 0)) else (none)) else (none))) = some r := H
          have A19 := Aside0.mk A190
          clear A190
          replace H := Option.bind_eq_some_iff.mp H
          obtain ⟨t133, A200, H⟩ := H
          replace H : (if 0 ≤ (wrap64 ((t133.length : Int) - 1)) then (if (wrap64 ((t133.length : Int) - 1)) ≤ (t133.length : Int) then ((some (t133.take ((wrap64 ((t133.length : Int) - 1)) : Int).toNat : List Int)).bind fun y136 => (policy_Routes.l1 k1 l0 t133 ([] : List (S30)) y136 (y136.length : Int) 0)) else (none)) else (none)) = some r := H
          have A20 := Aside0.mk A200
          clear A200
          obtain ⟨ji21, hji21⟩ : ∃ j_ : Int, (wrap64 ((t133.length : Int) - 1)) = j_ := ⟨_, rfl⟩
          replace H : (if 0 ≤ (ji21) then (if (ji21) ≤ (t133.length : Int) then ((some (t133.take ((ji21) : Int).toNat : List Int)).bind fun y136 => (policy_Routes.l1 k1 l0 t133 ([] : List (S30)) y136 (y136.length : Int) 0)) else (none)) else (none)) = some r := by first | (rw [hji21] at H; exact H) | (simp only [hji21] at H ⊢; exact H)
          (try rw [hji21] at A19)
          (try rw [hji21] at A20)
          have hji21w : (IntKind.i64.wrap ((t133.length : Int) - 1)) = ji21 := (i64_w _).trans hji21
          by_cases c22 : 0 ≤ (ji21)
          · rw [if_pos c22] at H
            have c22b0 := eq_true c22
            have c22b1 : decide (0 ≤ (ji21)) = true := decide_eq_true c22
            clear c22
            by_cases c23 : (ji21) ≤ (t133.length : Int)
            · rw [if_pos c23] at H
              have c23b0 := eq_true c23
              have c23b1 : decide ((ji21) ≤ (t133.length : Int)) = true := decide_eq_true c23
              clear c23
              obtain ⟨y136, hy136⟩ : ∃ y_ : List Int, y_ = (t133.take ((ji21) : Int).toNat) := ⟨_, rfl⟩
              replace H : (policy_Routes.l1 k1 l0 t133 ([] : List (S30)) y136 (y136.length : Int) 0) = some r := by first | (rw [hy136]; with_reducible exact H) | (have H2_ := (Option.bind_some _ _).symm.trans H; rw [hy136]; with_reducible exact H2_) | (have H2_ := (Option.bind_some _ _).symm.trans H; with_reducible exact H2_) | with_reducible exact H | (rw [hy136]; exact H) | exact H
              have Ny136 := Aside0.mk hy136
              clear hy136
              have H' := Aside0.mk H
              clear H
              obtain ⟨Ao24, co24, eo24⟩ := Kd.R_slice HO_3.out
              subst eo24
              go_wp2_with (first | ((with_reducible refine gate_callee (f := 28) rfl ?_); refine goesL_ (some 39) rfl rfl Try.func28 (by kernel_rfl) rfl #[.slice Ao24 x3_1.length co24] rfl (by (try simp only [List.map_toArray, List.map_cons, List.map_nil]); first | done | rfl | (simp only [List.length_drop, List.length_take]; rfl)) ?_; (with_reducible refine (slices_Sort_int64_int64.calls (fun k_ => some k_ = (.slice Ao24 x3_1.length co24 : Value).ownBlock) (.slice Ao24 x3_1.length co24) x3_1 t132 w _ ?side1 ?side2 A19.out).mono ?_); (case side1 => repeat (first | (with_reducible first | exact HB.out | apply below_alloc | apply pw_below_drewN | apply below_drew1) | exact HB.out)); (case side2 => exact Kd.R_tight rfl HO_3.out); rintro e w25 ⟨rfl, hy0, hb, hkp⟩; refine ⟨_, rfl, ?_⟩; have n0_ := Aside0.mk (Kd.R_reok rfl hy0 (fun k_ e_ => HO_3.out.1 k_ e_)); have n1_ := Aside0.mk (hb); clear HO_3; clear HB; have HO_3 := n0_; have HB := n1_; clear n0_ n1_; (try clear hb); (try clear hkp); (try clear hy0)) | ((with_reducible refine gate_callee (f := 29) rfl ?_); refine goesL_ (some 41) rfl rfl Try.func29 (by kernel_rfl) rfl #[.slice Ao24 x3_1.length co24] rfl (by (try simp only [List.map_toArray, List.map_cons, List.map_nil]); first | done | rfl | (simp only [List.length_drop, List.length_take]; rfl)) ?_; (with_reducible refine (slices_Compact_int64_int64.calls (fun k_ => some k_ = (.slice Ao24 x3_1.length co24 : Value).ownBlock) (.slice Ao24 x3_1.length co24) t132 t133 w _ ?side1 ?side2 A20.out).mono ?_); (case side1 => repeat (first | (with_reducible first | exact HB.out | apply below_alloc | apply pw_below_drewN | apply below_drew1) | exact HB.out)); (case side2 => exact Kd.R_tight rfl HO_3.out); rintro e w26 ⟨v134, rfl, ho0, hb, hkp⟩; refine ⟨_, rfl, ?_⟩; have n0_ := Aside0.mk (Kd.R_mono (ok' := fun k_ => True) ho0 (fun k_ hk_ => trivial)); have n1_ := Aside0.mk (hb); clear HB; clear HO_3; have HO135 := n0_; have HB := n1_; clear n0_ n1_; (try clear hb); (try clear hkp); (try clear ho0); obtain ⟨Ao27, co27, eo27⟩ := Kd.R_slice HO135.out; subst eo27; have q28 : ((ji21) : Int) ≤ ((t133.length : Int) : Int) := of_decide_eq_true (by first | (with_reducible assumption) | assumption); obtain ⟨i028, hi028, _, hsz28, _⟩ := info_parts info2; have hroom28 : t133.length ≤ co27 := (Kd.R_reads' HO135.out).2.1; have hC28 : Kd.C (Kd.int .i64) _ Ao27 t133.length t133 := (Kd.R_reads' HO135.out).2.2; have hcut28 := cut_to (P := Try.prog) 63 2 .i64 Try.underlying63 hi028 Ao27 t133.length co27 (ji21) (of_decide_eq_true (by first | (with_reducible assumption) | assumption)) q28 hroom28; have hr28 := Kd.C_take (m := ((ji21) : Int).toNat) hC28 (by omega); have hy28 : y136.length = ((ji21) : Int).toNat := (by rw [Ny136.out, List.length_take]; omega); rw [← Ny136.out] at hr28; rw [← hy28] at hcut28; have HR139 := Aside0.mk hr28; have HC139 := Aside0.mk (show y136.length ≤ co27 from by omega); clear hr28 hC28 hroom28 hi028 hsz28; have KY28 := Aside0.mk hy28; clear hy28; have KL28 := Aside0.mk (show ((ji21) : Int).toNat ≤ t133.length from by omega); replace q28 := eq_true q28))
              go_loopg [8, 48] k1 (fun kq v8 v48 w' => ∃ (x8_2 : List (S30)) (x48_2 : Int), v48 = .int .i64 x48_2 ∧ Aside0 (policy_Routes.l1 kq l0 t133 x8_2 y136 (y136.length : Int) x48_2 = some r) ∧ Aside0 (kq ≤ k1) ∧ Aside0 (Kd.R (Kd.int .i64) 2 w' w.heap.size (fun _ => True) (.slice Ao27 t133.length co27) t133) ∧ Aside0 (Kd.R k30 30 w' w.heap.size (fun _ => True) v8 x8_2) ∧ Aside0 (Below w.heap.size w w'))
              case atStart => exact ⟨(([] : List (S30))), (0), (by first | rfl | (simp; done) | (simp [*]; done)), H', ⟨Nat.le_refl _⟩, ⟨by (with_reducible repeat (first | apply Kd.R_alloc | apply Kd.R_drewN | apply Kd.R_drew)); exact HO135.out⟩, ⟨by first | exact Kd.R_nil _ _ _ _ _ | exact Kd.N_nil _ _ _ _ _ | exact Kd.V_nil _ _ _ _ _ | exact Kd.Q_nil _ _ _ _ _ | exact Kd.S_nil _ _ _ _ _⟩, ⟨by repeat (first | (with_reducible first | exact HB.out | apply below_alloc | apply pw_below_drewN | apply below_drew1) | exact HB.out)⟩⟩
              case round =>
                clear H'
                try clear c1
                try clear p1
                try clear q1
                try clear hx1
                try clear c2
                try clear p2
                try clear q2
                try clear c3
                try clear c3b0
                try clear c3b1
                try clear p6
                try clear c7
                try clear c7b0
                try clear c8
                try clear c8b0
                try clear c9
                try clear c9b0
                try clear c10
                try clear c11
                try clear p12
                try clear q12
                try clear hx12
                try clear c15
                try clear c22
                try clear c22b0
                try clear c22b1
                try clear c23
                try clear c23b0
                try clear c23b1
                try clear c27
                try clear c28
                try clear q28
                try clear hcz13_0
                try clear hcz13_1
                try clear hcz13_2
                try clear hcz13_3
                try clear hcz13_4
                try clear hcz13_5
                try clear hfz13_0
                try clear hfz13_1
                try clear hfz13_2
                try clear hfz13_3
                try clear hfz13_4
                try clear hfz13_5
                try clear hx122_0
                try clear hx122_1
                try clear hx122_2
                try clear hx122_3
                try clear hx122_4
                try clear hx122_5
                try clear p122
                try clear p2
                try clear q122
                try clear q28
                obtain ⟨x8_2, x48_2, rfl, HA, HK2, HO_3, HO_8, HB⟩ := hrel
                cases gk with
                | zero => exact absurd HA.out (by simp [policy_Routes.l1])
                | succ k2 =>
                  have H := HA.out
                  clear HA
                  simp only [policy_Routes.l1] at H
                  by_cases c29 : x48_2 < (y136.length : Int)
                  · rw [if_pos c29] at H
                    have c29b0 : decide (x48_2 < (y136.length : Int)) = true := decide_eq_true c29
                    clear c29
                    by_cases c30 : 0 ≤ x48_2
                    · rw [if_pos c30] at H
                      have c30b0 : decide (0 ≤ x48_2) = true := decide_eq_true c30
                      clear c30
                      by_cases c31 : x48_2 < (y136.length : Int)
                      · rw [if_pos c31] at H
                        have c31b0 : decide (x48_2 < (y136.length : Int)) = true := decide_eq_true c31
                        clear c31
                        replace H := Option.bind_eq_some_iff.mp H
                        obtain ⟨t144, A320, H⟩ := H
                        replace H : (if t144 = true then (if 0 ≤ (wrap64 (x48_2 + 1)) then (if (wrap64 (x48_2 + 1)) < (t133.length : Int) then (if (x8_2.length : Int) > 0 then (if 0 ≤ (wrap64 ((x8_2.length : Int) - 1)) then (if (wrap64 ((x8_2.length : Int) - 1)) < (x8_2.length : Int) then (if (wrap64 ((wrap64 ((rd_T30 x8_2 (wrap64 ((x8_2.length : Int) - 1))).f1)) + 1)) = (rd y136 x48_2) then (policy_Routes.l1 k2 l0 t133 (x8_2.set ((wrap64 ((x8_2.length : Int) - 1)) : Int).toNat (⟨(rd_T30 x8_2 (wrap64 ((x8_2.length : Int) - 1))).f0, (wrap64 ((rd t133 (wrap64 (x48_2 + 1))) - 1)) % 4294967296, (rd_T30 x8_2 (wrap64 ((x8_2.length : Int) - 1))).f2⟩ : S30)) y136 (y136.length : Int) (wrap64 (x48_2 + 1))) else (if x8_2.length < 8796093022208 then (policy_Routes.l1 k2 l0 t133 (x8_2 ++ [(⟨(rd y136 x48_2) % 4294967296, (wrap64 ((rd t133 (wrap64 (x48_2 + 1))) - 1)) % 4294967296, 0⟩ : S30)]) y136 (y136.length : Int) (wrap64 (x48_2 + 1))) else (none))) else (none)) else (none)) else (if x8_2.length < 8796093022208 then (policy_Routes.l1 k2 l0 t133 (x8_2 ++ [(⟨(rd y136 x48_2) % 4294967296, (wrap64 ((rd t133 (wrap64 (x48_2 + 1))) - 1)) % 4294967296, 0⟩ : S30)]) y136 (y136.length : Int) (wrap64 (x48_2 + 1))) else (none))) else (none)) else (none)) else (policy_Routes.l1 k2 l0 t133 x8_2 y136 (y136.length : Int) (wrap64 (x48_2 + 1)))) = some r := H
                        have A32 := Aside0.mk A320
                        clear A320
                        by_cases c33 : t144 = true
                        · subst c33
                          have H1 : (if 0 ≤ (wrap64 (x48_2 + 1)) then (if (wrap64 (x48_2 + 1)) < (t133.length : Int) then (if (x8_2.length : Int) > 0 then (if 0 ≤ (wrap64 ((x8_2.length : Int) - 1)) then (if (wrap64 ((x8_2.length : Int) - 1)) < (x8_2.length : Int) then (if (wrap64 ((wrap64 ((rd_T30 x8_2 (wrap64 ((x8_2.length : Int) - 1))).f1)) + 1)) = (rd y136 x48_2) then (policy_Routes.l1 k2 l0 t133 (x8_2.set ((wrap64 ((x8_2.length : Int) - 1)) : Int).toNat (⟨(rd_T30 x8_2 (wrap64 ((x8_2.length : Int) - 1))).f0, (wrap64 ((rd t133 (wrap64 (x48_2 + 1))) - 1)) % 4294967296, (rd_T30 x8_2 (wrap64 ((x8_2.length : Int) - 1))).f2⟩ : S30)) y136 (y136.length : Int) (wrap64 (x48_2 + 1))) else (if x8_2.length < 8796093022208 then (policy_Routes.l1 k2 l0 t133 (x8_2 ++ [(⟨(rd y136 x48_2) % 4294967296, (wrap64 ((rd t133 (wrap64 (x48_2 + 1))) - 1)) % 4294967296, 0⟩ : S30)]) y136 (y136.length : Int) (wrap64 (x48_2 + 1))) else (none))) else (none)) else (none)) else (if x8_2.length < 8796093022208 then (policy_Routes.l1 k2 l0 t133 (x8_2 ++ [(⟨(rd y136 x48_2) % 4294967296, (wrap64 ((rd t133 (wrap64 (x48_2 + 1))) - 1)) % 4294967296, 0⟩ : S30)]) y136 (y136.length : Int) (wrap64 (x48_2 + 1))) else (none))) else (none)) else (none)) = some r := by rw [if_pos rfl] at H; exact H
                          clear H
                          have H := H1
                          clear H1
                          obtain ⟨ji34, hji34⟩ : ∃ j_ : Int, (wrap64 (x48_2 + 1)) = j_ := ⟨_, rfl⟩
                          replace H : (if 0 ≤ (ji34) then (if (ji34) < (t133.length : Int) then (if (x8_2.length : Int) > 0 then (if 0 ≤ (wrap64 ((x8_2.length : Int) - 1)) then (if (wrap64 ((x8_2.length : Int) - 1)) < (x8_2.length : Int) then (if (wrap64 ((wrap64 ((rd_T30 x8_2 (wrap64 ((x8_2.length : Int) - 1))).f1)) + 1)) = (rd y136 x48_2) then (policy_Routes.l1 k2 l0 t133 (x8_2.set ((wrap64 ((x8_2.length : Int) - 1)) : Int).toNat (⟨(rd_T30 x8_2 (wrap64 ((x8_2.length : Int) - 1))).f0, (wrap64 ((rd t133 (ji34)) - 1)) % 4294967296, (rd_T30 x8_2 (wrap64 ((x8_2.length : Int) - 1))).f2⟩ : S30)) y136 (y136.length : Int) ji34) else (if x8_2.length < 8796093022208 then (policy_Routes.l1 k2 l0 t133 (x8_2 ++ [(⟨(rd y136 x48_2) % 4294967296, (wrap64 ((rd t133 (ji34)) - 1)) % 4294967296, 0⟩ : S30)]) y136 (y136.length : Int) ji34) else (none))) else (none)) else (none)) else (if x8_2.length < 8796093022208 then (policy_Routes.l1 k2 l0 t133 (x8_2 ++ [(⟨(rd y136 x48_2) % 4294967296, (wrap64 ((rd t133 (ji34)) - 1)) % 4294967296, 0⟩ : S30)]) y136 (y136.length : Int) ji34) else (none))) else (none)) else (none)) = some r := by first | (rw [hji34] at H; exact H) | (simp only [hji34] at H ⊢; exact H)
                          (try rw [hji34] at A32)
                          have hji34w : (IntKind.i64.wrap (x48_2 + 1)) = ji34 := (i64_w _).trans hji34
                          by_cases c35 : 0 ≤ (ji34)
                          · rw [if_pos c35] at H
                            have c35b0 : decide (0 ≤ (ji34)) = true := decide_eq_true c35
                            clear c35
                            by_cases c36 : (ji34) < (t133.length : Int)
                            · rw [if_pos c36] at H
                              have c36b0 : decide ((ji34) < (t133.length : Int)) = true := decide_eq_true c36
                              clear c36
                              by_cases c37 : (x8_2.length : Int) > 0
                              · rw [if_pos c37] at H
                                have c37b0 : decide (0 < (x8_2.length : Int)) = true := decide_eq_true c37
                                have c37b1 : decide (0 < x8_2.length) = true := decide_eq_true (by omega)
                                clear c37
                                obtain ⟨ji38, hji38⟩ : ∃ j_ : Int, (wrap64 ((x8_2.length : Int) - 1)) = j_ := ⟨_, rfl⟩
                                replace H : (if 0 ≤ (ji38) then (if (ji38) < (x8_2.length : Int) then (if (wrap64 ((wrap64 ((rd_T30 x8_2 (ji38)).f1)) + 1)) = (rd y136 x48_2) then (policy_Routes.l1 k2 l0 t133 (x8_2.set ((ji38) : Int).toNat (⟨(rd_T30 x8_2 (ji38)).f0, (wrap64 ((rd t133 (ji34)) - 1)) % 4294967296, (rd_T30 x8_2 (ji38)).f2⟩ : S30)) y136 (y136.length : Int) ji34) else (if x8_2.length < 8796093022208 then (policy_Routes.l1 k2 l0 t133 (x8_2 ++ [(⟨(rd y136 x48_2) % 4294967296, (wrap64 ((rd t133 (ji34)) - 1)) % 4294967296, 0⟩ : S30)]) y136 (y136.length : Int) ji34) else (none))) else (none)) else (none)) = some r := by first | (rw [hji38] at H; exact H) | (simp only [hji38] at H ⊢; exact H)
                                (try rw [hji38] at A32)
                                have hji38w : (IntKind.i64.wrap ((x8_2.length : Int) - 1)) = ji38 := (i64_w _).trans hji38
                                by_cases c39 : 0 ≤ (ji38)
                                · rw [if_pos c39] at H
                                  have c39b0 : decide (0 ≤ (ji38)) = true := decide_eq_true c39
                                  clear c39
                                  by_cases c40 : (ji38) < (x8_2.length : Int)
                                  · rw [if_pos c40] at H
                                    have c40b0 : decide ((ji38) < (x8_2.length : Int)) = true := decide_eq_true c40
                                    clear c40
                                    by_cases c41 : (wrap64 ((wrap64 ((rd_T30 x8_2 (ji38)).f1)) + 1)) = (rd y136 x48_2)
                                    · rw [if_pos c41] at H
                                      have c41b0 : ((wrap64 ((wrap64 ((rd_T30 x8_2 (ji38)).f1)) + 1)) == (rd y136 x48_2)) = true := beq_iff_eq.mpr c41
                                      have c41b1 : ((wrap64 ((wrap64 ((rd_T30 x8_2 (ji38)).f1)) + 1)) != (rd y136 x48_2)) = false := bne_eq_false_iff_eq.mpr c41
                                      clear c41
                                      obtain ⟨y147, hy147⟩ : ∃ y_ : List (S30), y_ = (x8_2.set ((ji38) : Int).toNat (⟨(rd_T30 x8_2 (ji38)).f0, (wrap64 ((rd t133 (ji34)) - 1)) % 4294967296, (rd_T30 x8_2 (ji38)).f2⟩ : S30)) := ⟨_, rfl⟩
                                      replace H : (policy_Routes.l1 k2 l0 t133 y147 y136 (y136.length : Int) ji34) = some r := by first | (rw [hy147]; with_reducible exact H) | (have H2_ := (Option.bind_some _ _).symm.trans H; rw [hy147]; with_reducible exact H2_) | (have H2_ := (Option.bind_some _ _).symm.trans H; with_reducible exact H2_) | with_reducible exact H | (rw [hy147]; exact H) | exact H
                                      have Ny147 := Aside0.mk hy147
                                      clear hy147
                                      have H' := Aside0.mk H
                                      clear H
                                      have p143 : 0 ≤ (x48_2 : Int) := of_decide_eq_true (by first | (with_reducible assumption) | assumption)
                                      have q143 : x48_2 < (y136.length : Int) := of_decide_eq_true (by first | (with_reducible assumption) | assumption)
                                      obtain ⟨ad143, e143, hx143_0⟩ := Kd.at_int HR139.out x48_2 p143 q143
                                      cases e143
                                      obtain ⟨Aq, cq, eq_, _, hCq⟩ := Kd.R_reads HO_3.out
                                      cases eq_
                                      obtain ⟨adq, eadq, hxq⟩ := Kd.at_int hCq x48_2 p143 (by have := take_len_le Ny136.out; omega)
                                      cases eadq
                                      rw [← rd_of_take Ny136.out x48_2 p143 q143] at hxq
                                      clear hx143_0
                                      have hx143_0 := hxq
                                      clear hxq
                                      clear hCq
                                      replace p143 := eq_true p143
                                      replace q143 := eq_true q143
                                      go_wp2_with (first | ((with_reducible refine gate_callee (f := 30) rfl ?_); refine goesL_ (some 56) rfl rfl Try.func30 (by kernel_rfl) rfl #[.slice A0 l0.length c0, .int .u32 ((rd y136 x48_2) % 4294967296)] rfl (by (try simp only [List.map_toArray, List.map_cons, List.map_nil]); first | done | rfl | (simp only [List.length_drop, List.length_take]; rfl)) ?_; (with_reducible refine (policy_reached.calls _ _ l0 ((rd y136 x48_2) % 4294967296) true _ ?side1 ?side2 A32.out).mono ?_); (case side1 => repeat (first | exact (Kd.C_below HR0.out HB.out) | (with_reducible refine Kd.C_alloc ?_ _) | (with_reducible refine Kd.C_drewN ?_ _) | (with_reducible refine Kd.C_drew ?_))); (case side2 => exact HC0.out); rintro e w43 ⟨rfl, hb⟩; refine ⟨_, rfl, ?_⟩; have n0_ := Aside0.mk (Kd.R_below (by (with_reducible repeat (first | apply Kd.R_alloc | apply Kd.R_drewN | apply Kd.R_drew)); exact HO_3.out) hb); have n1_ := Aside0.mk (Kd.R_below (by (with_reducible repeat (first | apply Kd.R_alloc | apply Kd.R_drewN | apply Kd.R_drew)); exact HO_8.out) hb); have n2_ := Aside0.mk (below_step (by repeat (first | (with_reducible first | exact HB.out | apply below_alloc | apply pw_below_drewN | apply below_drew1) | exact HB.out)) hb); clear HO_3; clear HO_8; clear HB; have HO_3 := n0_; have HO_8 := n1_; have HB := n2_; clear n0_ n1_ n2_; (try clear hb); (try clear hb2); (try clear hk); (try clear hi); have p145 : 0 ≤ ((ji34) : Int) := of_decide_eq_true (by first | (with_reducible assumption) | assumption); have q145 : (ji34) < (t133.length : Int) := of_decide_eq_true (by first | (with_reducible assumption) | assumption); obtain ⟨ad145, e145, hx145_0⟩ := Kd.at_int (Kd.R_reads' HO_3.out).2.2 (ji34) p145 q145; obtain rfl : ad143 = ad145 := (by injection e145); replace p145 := eq_true p145; replace q145 := eq_true q145; obtain ⟨Ao44, co44, eo44⟩ := Kd.R_slice HO_8.out; subst eo44; have p146 : 0 ≤ ((ji38) : Int) := of_decide_eq_true (by first | (with_reducible assumption) | assumption); have q146 : (ji38) < (x8_2.length : Int) := of_decide_eq_true (by first | (with_reducible assumption) | assumption); obtain ⟨ad146, e146, hx146_0, hx146_1, hx146_2⟩ := at_T30 (Kd.R_reads' HO_8.out).2.2 (ji38) p146 q146; cases e146; replace p146 := eq_true p146; replace q146 := eq_true q146; have p42 : 0 ≤ ((ji38) : Int) := of_decide_eq_true (by first | (with_reducible assumption) | assumption); have q42 : ((ji38) : Int) < ((x8_2.length : Int) : Int) := of_decide_eq_true (by first | (with_reducible assumption) | assumption); obtain ⟨go42, co42, eo42, gb42, gl42, cl42, HG42⟩ := Kd.R_form HO_8.out (by omega); (first | cases eo42 | (injection eo42 with ea_ en_ ec_; (first | subst ea_ | (injection ea_ with ea_; subst ea_)); subst ec_; clear en_)); have GB42 := Aside0.mk gb42; have GG42 := Aside0.mk HG42; clear gb42 gl42 HG42; (first | simp only [add_plain] at hx146_0 | skip); (first | simp only [add_plain] at hx146_1 | skip); (first | simp only [add_plain] at hx146_2 | skip); obtain ⟨ce42, hcl42, hM42, hcc42, hfr42⟩ := Kd.R_elem HO_8.out z30 ((ji38) : Int) p42 q42; obtain rfl := k30_openM hM42; have hx42_0 : w43.cell? ⟨go42, ((ji38) : Int).toNat * 3, none⟩ = some (.int .u32 ((rd_T30 x8_2 (ji38)).f0)) := hcc42 0 _ rfl; have hx42_1 : w43.cell? ⟨go42, ((ji38) : Int).toNat * 3 + 1, none⟩ = some (.int .u32 ((rd_T30 x8_2 (ji38)).f1)) := hcc42 1 _ rfl; have hx42_2 : w43.cell? ⟨go42, ((ji38) : Int).toNat * 3 + 2, none⟩ = some (.int .i64 ((rd_T30 x8_2 (ji38)).f2)) := hcc42 2 _ rfl; have hf42_0 : w43.frozen? ⟨go42, ((ji38) : Int).toNat * 3, none⟩ = false := hfr42 0; have hf42_1 : w43.frozen? ⟨go42, ((ji38) : Int).toNat * 3 + 1, none⟩ = false := hfr42 1; have hf42_2 : w43.frozen? ⟨go42, ((ji38) : Int).toNat * 3 + 2, none⟩ = false := hfr42 2; clear hcl42 hcc42 hfr42 hM42; replace p42 := eq_true p42; replace q42 := eq_true q42; have HX45 := Aside0.mk (show Kd.R k30 30 w43 w.heap.size (fun _ => True) (.slice (some ⟨go42, 0, none⟩) x8_2.length co44) x8_2 from (by (with_reducible repeat (first | apply Kd.R_alloc | apply Kd.R_drewN | apply Kd.R_drew)); exact HO_8.out)); obtain ⟨ce45, hcl45, hM45, hcc45, hfr45⟩ := Kd.R_elem HX45.out z30 ((ji38) : Int) (of_decide_eq_true (by first | (with_reducible assumption) | assumption)) (by have h_ : ((ji38) : Int) < ((x8_2.length : Int) : Int) := of_decide_eq_true (by first | (with_reducible assumption) | assumption); first | exact h_ | (have e_ := (Kd.R_reads' HO_8.out).1; omega) | simpa using h_); obtain rfl := k30_openM hM45; have HP45 := Kd.R_seg HX45.out ((ji38) : Int) (of_decide_eq_true (by first | (with_reducible assumption) | assumption)) (by have h_ : ((ji38) : Int) < ((x8_2.length : Int) : Int) := of_decide_eq_true (by first | (with_reducible assumption) | assumption); first | exact h_ | (have e_ := (Kd.R_reads' HO_8.out).1; omega) | simpa using h_) (seg := [.int .u32 ((wrap64 ((rd t133 (ji34)) - 1)) % 4294967296)]) (j := 1) hcl45 hcc45 (show 2 ≤ 3 from by decide) (x' := (⟨(rd_T30 x8_2 (ji38)).f0, (wrap64 ((rd t133 (ji34)) - 1)) % 4294967296, (rd_T30 x8_2 (ji38)).f2⟩ : S30)) (k30_mkM _ _ _ (⟨(rd_T30 x8_2 (ji38)).f0, (wrap64 ((rd t133 (ji34)) - 1)) % 4294967296, (rd_T30 x8_2 (ji38)).f2⟩ : S30) ) (fun _ hk => hk); have hx45_1 := hcc45 1 _ rfl; (try simp only [show (k30).sz = 3 from rfl, Nat.mul_one, Nat.add_zero] at hx45_1); have hf45_1 := hfr45 1; (try simp only [show (k30).sz = 3 from rfl, Nat.mul_one, Nat.add_zero] at hf45_1); clear hcl45 hcc45 hfr45 hM45) | ((with_reducible refine gate_store (t := 28) (p := 86) rfl ?_); refine store_event (t := 28) (p := 86) (v := ?vo_w46) (w1 := (w43.setCell ⟨go42, ((ji38) : Int).toNat * 3 + 1, none⟩ (.int .u32 ((wrap64 ((rd t133 (ji34)) - 1)) % 4294967296)))) ?hg ?ho ?hn ?hr ?_; (case ho => rfl); (case hg => rfl); (case hn => rfl); (case hr => first | (go_simp; done) | (go_simp; rfl)); intro w46 hw; have hg : w43.grownBy w46 (some go42) := (by rw [hw]; exact HP45.2); have hp_ : Kd.R k30 30 w46 w.heap.size (fun _ => True) (.slice (some ⟨go42, 0, none⟩) x8_2.length co44) y147 := (by rw [hw, Ny147.out]; exact HP45.1); clear HP45; have n0_ := Aside0.mk (Kd.R_over' (v := (.slice (some ⟨go42, 0, none⟩) x8_2.length co44)) (by (with_reducible repeat (first | apply Kd.R_alloc | apply Kd.R_drewN | apply Kd.R_drew)); exact HO_3.out) (Kd.R_typed HO_8.out) (by decide) hg); have n1_ := Aside0.mk (hp_); have n2_ := Aside0.mk ((by rw [hw]; exact below_set (HB.out) GB42.out : Below w.heap.size w w46)); clear HO_3; clear HO_8; clear HB; have HO_3 := n0_; have HO_8 := n1_; have HB := n2_; clear n0_ n1_ n2_; clear hg hw hp_))
                                      go_roundg k2
                                      case measure => have := HK1.out; have := HK2.out; omega
                                      case rel => exact ⟨(y147), (ji34), (by first | rfl | (simp; done) | (simp only [← hji34] <;> (first | rfl | simp)) | (simp [*]; done)), H', ⟨by have := HK1.out; have := HK2.out; omega⟩, ⟨by (with_reducible repeat (first | apply Kd.R_alloc | apply Kd.R_drewN | apply Kd.R_drew)); exact HO_3.out⟩, ⟨by (with_reducible repeat (first | apply Kd.R_alloc | apply Kd.R_drewN | apply Kd.R_drew)); exact HO_8.out⟩, ⟨by repeat (first | (with_reducible first | exact HB.out | apply below_alloc | apply pw_below_drewN | apply below_drew1) | exact HB.out)⟩⟩
                                    · rw [if_neg c41] at H
                                      have c41b0 : ((wrap64 ((wrap64 ((rd_T30 x8_2 (ji38)).f1)) + 1)) == (rd y136 x48_2)) = false := beq_eq_false_iff_ne.mpr c41
                                      have c41b1 : ((wrap64 ((wrap64 ((rd_T30 x8_2 (ji38)).f1)) + 1)) != (rd y136 x48_2)) = true := bne_iff_ne.mpr c41
                                      by_cases c47 : x8_2.length < 8796093022208
                                      · rw [if_pos c47] at H
                                        have LMc47 := Aside0.mk c47
                                        clear c47
                                        obtain ⟨y148, hy148⟩ : ∃ y_ : List (S30), y_ = (x8_2 ++ [(⟨(rd y136 x48_2) % 4294967296, (wrap64 ((rd t133 (ji34)) - 1)) % 4294967296, 0⟩ : S30)]) := ⟨_, rfl⟩
                                        replace H : (policy_Routes.l1 k2 l0 t133 y148 y136 (y136.length : Int) ji34) = some r := by first | (rw [hy148]; with_reducible exact H) | (have H2_ := (Option.bind_some _ _).symm.trans H; rw [hy148]; with_reducible exact H2_) | (have H2_ := (Option.bind_some _ _).symm.trans H; with_reducible exact H2_) | with_reducible exact H | (rw [hy148]; exact H) | exact H
                                        have Ny148 := Aside0.mk hy148
                                        clear hy148
                                        have H' := Aside0.mk H
                                        clear H
                                        have p143 : 0 ≤ (x48_2 : Int) := of_decide_eq_true (by first | (with_reducible assumption) | assumption)
                                        have q143 : x48_2 < (y136.length : Int) := of_decide_eq_true (by first | (with_reducible assumption) | assumption)
                                        obtain ⟨ad143, e143, hx143_0⟩ := Kd.at_int HR139.out x48_2 p143 q143
                                        cases e143
                                        obtain ⟨Aq, cq, eq_, _, hCq⟩ := Kd.R_reads HO_3.out
                                        cases eq_
                                        obtain ⟨adq, eadq, hxq⟩ := Kd.at_int hCq x48_2 p143 (by have := take_len_le Ny136.out; omega)
                                        cases eadq
                                        rw [← rd_of_take Ny136.out x48_2 p143 q143] at hxq
                                        clear hx143_0
                                        have hx143_0 := hxq
                                        clear hxq
                                        clear hCq
                                        replace p143 := eq_true p143
                                        replace q143 := eq_true q143
                                        go_wp2_with (first | ((with_reducible refine gate_callee (f := 30) rfl ?_); refine goesL_ (some 56) rfl rfl Try.func30 (by kernel_rfl) rfl #[.slice A0 l0.length c0, .int .u32 ((rd y136 x48_2) % 4294967296)] rfl (by (try simp only [List.map_toArray, List.map_cons, List.map_nil]); first | done | rfl | (simp only [List.length_drop, List.length_take]; rfl)) ?_; (with_reducible refine (policy_reached.calls _ _ l0 ((rd y136 x48_2) % 4294967296) true _ ?side1 ?side2 A32.out).mono ?_); (case side1 => repeat (first | exact (Kd.C_below HR0.out HB.out) | (with_reducible refine Kd.C_alloc ?_ _) | (with_reducible refine Kd.C_drewN ?_ _) | (with_reducible refine Kd.C_drew ?_))); (case side2 => exact HC0.out); rintro e w48 ⟨rfl, hb⟩; refine ⟨_, rfl, ?_⟩; have n0_ := Aside0.mk (Kd.R_below (by (with_reducible repeat (first | apply Kd.R_alloc | apply Kd.R_drewN | apply Kd.R_drew)); exact HO_3.out) hb); have n1_ := Aside0.mk (Kd.R_below (by (with_reducible repeat (first | apply Kd.R_alloc | apply Kd.R_drewN | apply Kd.R_drew)); exact HO_8.out) hb); have n2_ := Aside0.mk (below_step (by repeat (first | (with_reducible first | exact HB.out | apply below_alloc | apply pw_below_drewN | apply below_drew1) | exact HB.out)) hb); clear HO_3; clear HO_8; clear HB; have HO_3 := n0_; have HO_8 := n1_; have HB := n2_; clear n0_ n1_ n2_; (try clear hb); (try clear hb2); (try clear hk); (try clear hi); have p145 : 0 ≤ ((ji34) : Int) := of_decide_eq_true (by first | (with_reducible assumption) | assumption); have q145 : (ji34) < (t133.length : Int) := of_decide_eq_true (by first | (with_reducible assumption) | assumption); obtain ⟨ad145, e145, hx145_0⟩ := Kd.at_int (Kd.R_reads' HO_3.out).2.2 (ji34) p145 q145; obtain rfl : ad143 = ad145 := (by injection e145); replace p145 := eq_true p145; replace q145 := eq_true q145; obtain ⟨Ao49, co49, eo49⟩ := Kd.R_slice HO_8.out; subst eo49; have p146 : 0 ≤ ((ji38) : Int) := of_decide_eq_true (by first | (with_reducible assumption) | assumption); have q146 : (ji38) < (x8_2.length : Int) := of_decide_eq_true (by first | (with_reducible assumption) | assumption); obtain ⟨ad146, e146, hx146_0, hx146_1, hx146_2⟩ := at_T30 (Kd.R_reads' HO_8.out).2.2 (ji38) p146 q146; cases e146; replace p146 := eq_true p146; replace q146 := eq_true q146) | ((with_reducible refine gate_builtin (b := .append) (xs := #[.tmp 87, .tmp 92]) rfl ?_); at_builtin; refine Kd.R_append k30 (w0 := w) w.heap.size rfl (.tmp 87) (.tmp 92) 23 30 (.agg #[(.int .u32 0), (.int .u32 0), (.int .i64 0)]) 16 rfl Try.underlying23 info30 rfl (by decide) (by omega) (.slice (some ad146) x8_2.length co49) x8_2 (⟨(rd y136 x48_2) % 4294967296, (wrap64 ((rd t133 (ji34)) - 1)) % 4294967296, 0⟩ : S30) [.int .u32 ((rd y136 x48_2) % 4294967296), .int .u32 ((wrap64 ((rd t133 (ji34)) - 1)) % 4294967296), .int .i64 0] (fun _ => True) (fun _ => False) rfl rfl ?aP (fun _ hk => hk.elim) ?aF ?aO ?aB ?aS ?aL ?_; (case aP => exact k30_mkM _ _ _ (⟨(rd y136 x48_2) % 4294967296, (wrap64 ((rd t133 (ji34)) - 1)) % 4294967296, 0⟩ : S30)); (case aB => exact (by repeat (first | (with_reducible first | exact HB.out | apply below_alloc | apply pw_below_drewN | apply below_drew1) | exact HB.out))); (case aF => exact (fun _ _ => trivial)); (case aO => exact (by (with_reducible repeat (first | apply Kd.R_alloc | apply Kd.R_drewN | apply Kd.R_drew)); exact HO_8.out)); (case aS => exact (below_size (by repeat (first | (with_reducible first | exact HB.out | apply below_alloc | apply pw_below_drewN | apply below_drew1) | exact HB.out)))); (case aL => have := LMc47.out; omega); intro v149 w50 ho hb hg hat; rw [← Ny148.out] at ho; have n0_ := Aside0.mk (Kd.R_over' (by (with_reducible repeat (first | apply Kd.R_alloc | apply Kd.R_drewN | apply Kd.R_drew)); exact HO_3.out) (Kd.R_typed (by (with_reducible repeat (first | apply Kd.R_alloc | apply Kd.R_drewN | apply Kd.R_drew)); exact HO_8.out)) (by decide) hg); have n1_ := Aside0.mk (hb); have n2_ := Aside0.mk (ho); clear HO_3; clear HB; clear HO_8; have HO_3 := n0_; have HB := n1_; have HO150 := n2_; clear n0_ n1_ n2_; clear ho hb hg hat))
                                        go_roundg k2
                                        case measure => have := HK1.out; have := HK2.out; omega
                                        case rel => exact ⟨(y148), (ji34), (by first | rfl | (simp; done) | (simp only [← hji34] <;> (first | rfl | simp)) | (simp [*]; done)), H', ⟨by have := HK1.out; have := HK2.out; omega⟩, ⟨by (with_reducible repeat (first | apply Kd.R_alloc | apply Kd.R_drewN | apply Kd.R_drew)); exact HO_3.out⟩, ⟨by (with_reducible repeat (first | apply Kd.R_alloc | apply Kd.R_drewN | apply Kd.R_drew)); exact HO150.out⟩, ⟨by repeat (first | (with_reducible first | exact HB.out | apply below_alloc | apply pw_below_drewN | apply below_drew1) | exact HB.out)⟩⟩
                                      · rw [if_neg c47] at H
                                        exact absurd H (by simp)
                                  · rw [if_neg c40] at H
                                    exact absurd H (by simp)
                                · rw [if_neg c39] at H
                                  exact absurd H (by simp)
                              · rw [if_neg c37] at H
                                have c37b0 : decide (0 < (x8_2.length : Int)) = false := decide_eq_false c37
                                have c37b1 : decide (0 < x8_2.length) = false := decide_eq_false (by omega)
                                clear c37
                                by_cases c51 : x8_2.length < 8796093022208
                                · rw [if_pos c51] at H
                                  have LMc51 := Aside0.mk c51
                                  clear c51
                                  obtain ⟨y151, hy151⟩ : ∃ y_ : List (S30), y_ = (x8_2 ++ [(⟨(rd y136 x48_2) % 4294967296, (wrap64 ((rd t133 (ji34)) - 1)) % 4294967296, 0⟩ : S30)]) := ⟨_, rfl⟩
                                  replace H : (policy_Routes.l1 k2 l0 t133 y151 y136 (y136.length : Int) ji34) = some r := by first | (rw [hy151]; with_reducible exact H) | (have H2_ := (Option.bind_some _ _).symm.trans H; rw [hy151]; with_reducible exact H2_) | (have H2_ := (Option.bind_some _ _).symm.trans H; with_reducible exact H2_) | with_reducible exact H | (rw [hy151]; exact H) | exact H
                                  have Ny151 := Aside0.mk hy151
                                  clear hy151
                                  have H' := Aside0.mk H
                                  clear H
                                  have p143 : 0 ≤ (x48_2 : Int) := of_decide_eq_true (by first | (with_reducible assumption) | assumption)
                                  have q143 : x48_2 < (y136.length : Int) := of_decide_eq_true (by first | (with_reducible assumption) | assumption)
                                  obtain ⟨ad143, e143, hx143_0⟩ := Kd.at_int HR139.out x48_2 p143 q143
                                  cases e143
                                  obtain ⟨Aq, cq, eq_, _, hCq⟩ := Kd.R_reads HO_3.out
                                  cases eq_
                                  obtain ⟨adq, eadq, hxq⟩ := Kd.at_int hCq x48_2 p143 (by have := take_len_le Ny136.out; omega)
                                  cases eadq
                                  rw [← rd_of_take Ny136.out x48_2 p143 q143] at hxq
                                  clear hx143_0
                                  have hx143_0 := hxq
                                  clear hxq
                                  clear hCq
                                  replace p143 := eq_true p143
                                  replace q143 := eq_true q143
                                  go_wp2_with (first | ((with_reducible refine gate_callee (f := 30) rfl ?_); refine goesL_ (some 56) rfl rfl Try.func30 (by kernel_rfl) rfl #[.slice A0 l0.length c0, .int .u32 ((rd y136 x48_2) % 4294967296)] rfl (by (try simp only [List.map_toArray, List.map_cons, List.map_nil]); first | done | rfl | (simp only [List.length_drop, List.length_take]; rfl)) ?_; (with_reducible refine (policy_reached.calls _ _ l0 ((rd y136 x48_2) % 4294967296) true _ ?side1 ?side2 A32.out).mono ?_); (case side1 => repeat (first | exact (Kd.C_below HR0.out HB.out) | (with_reducible refine Kd.C_alloc ?_ _) | (with_reducible refine Kd.C_drewN ?_ _) | (with_reducible refine Kd.C_drew ?_))); (case side2 => exact HC0.out); rintro e w52 ⟨rfl, hb⟩; refine ⟨_, rfl, ?_⟩; have n0_ := Aside0.mk (Kd.R_below (by (with_reducible repeat (first | apply Kd.R_alloc | apply Kd.R_drewN | apply Kd.R_drew)); exact HO_3.out) hb); have n1_ := Aside0.mk (Kd.R_below (by (with_reducible repeat (first | apply Kd.R_alloc | apply Kd.R_drewN | apply Kd.R_drew)); exact HO_8.out) hb); have n2_ := Aside0.mk (below_step (by repeat (first | (with_reducible first | exact HB.out | apply below_alloc | apply pw_below_drewN | apply below_drew1) | exact HB.out)) hb); clear HO_3; clear HO_8; clear HB; have HO_3 := n0_; have HO_8 := n1_; have HB := n2_; clear n0_ n1_ n2_; (try clear hb); (try clear hb2); (try clear hk); (try clear hi); have p145 : 0 ≤ ((ji34) : Int) := of_decide_eq_true (by first | (with_reducible assumption) | assumption); have q145 : (ji34) < (t133.length : Int) := of_decide_eq_true (by first | (with_reducible assumption) | assumption); obtain ⟨ad145, e145, hx145_0⟩ := Kd.at_int (Kd.R_reads' HO_3.out).2.2 (ji34) p145 q145; obtain rfl : ad143 = ad145 := (by injection e145); replace p145 := eq_true p145; replace q145 := eq_true q145; obtain ⟨Ao53, co53, eo53⟩ := Kd.R_slice HO_8.out; subst eo53) | ((with_reducible refine gate_builtin (b := .append) (xs := #[.tmp 87, .tmp 92]) rfl ?_); at_builtin; refine Kd.R_append k30 (w0 := w) w.heap.size rfl (.tmp 87) (.tmp 92) 23 30 (.agg #[(.int .u32 0), (.int .u32 0), (.int .i64 0)]) 16 rfl Try.underlying23 info30 rfl (by decide) (by omega) (.slice Ao53 x8_2.length co53) x8_2 (⟨(rd y136 x48_2) % 4294967296, (wrap64 ((rd t133 (ji34)) - 1)) % 4294967296, 0⟩ : S30) [.int .u32 ((rd y136 x48_2) % 4294967296), .int .u32 ((wrap64 ((rd t133 (ji34)) - 1)) % 4294967296), .int .i64 0] (fun _ => True) (fun _ => False) rfl rfl ?aP (fun _ hk => hk.elim) ?aF ?aO ?aB ?aS ?aL ?_; (case aP => exact k30_mkM _ _ _ (⟨(rd y136 x48_2) % 4294967296, (wrap64 ((rd t133 (ji34)) - 1)) % 4294967296, 0⟩ : S30)); (case aB => exact (by repeat (first | (with_reducible first | exact HB.out | apply below_alloc | apply pw_below_drewN | apply below_drew1) | exact HB.out))); (case aF => exact (fun _ _ => trivial)); (case aO => exact (by (with_reducible repeat (first | apply Kd.R_alloc | apply Kd.R_drewN | apply Kd.R_drew)); exact HO_8.out)); (case aS => exact (below_size (by repeat (first | (with_reducible first | exact HB.out | apply below_alloc | apply pw_below_drewN | apply below_drew1) | exact HB.out)))); (case aL => have := LMc51.out; omega); intro v152 w54 ho hb hg hat; rw [← Ny151.out] at ho; have n0_ := Aside0.mk (Kd.R_over' (by (with_reducible repeat (first | apply Kd.R_alloc | apply Kd.R_drewN | apply Kd.R_drew)); exact HO_3.out) (Kd.R_typed (by (with_reducible repeat (first | apply Kd.R_alloc | apply Kd.R_drewN | apply Kd.R_drew)); exact HO_8.out)) (by decide) hg); have n1_ := Aside0.mk (hb); have n2_ := Aside0.mk (ho); clear HO_3; clear HB; clear HO_8; have HO_3 := n0_; have HB := n1_; have HO153 := n2_; clear n0_ n1_ n2_; clear ho hb hg hat))
                                  go_roundg k2
                                  case measure => have := HK1.out; have := HK2.out; omega
                                  case rel => exact ⟨(y151), (ji34), (by first | rfl | (simp; done) | (simp only [← hji34] <;> (first | rfl | simp)) | (simp [*]; done)), H', ⟨by have := HK1.out; have := HK2.out; omega⟩, ⟨by (with_reducible repeat (first | apply Kd.R_alloc | apply Kd.R_drewN | apply Kd.R_drew)); exact HO_3.out⟩, ⟨by (with_reducible repeat (first | apply Kd.R_alloc | apply Kd.R_drewN | apply Kd.R_drew)); exact HO153.out⟩, ⟨by repeat (first | (with_reducible first | exact HB.out | apply below_alloc | apply pw_below_drewN | apply below_drew1) | exact HB.out)⟩⟩
                                · rw [if_neg c51] at H
                                  exact absurd H (by simp)
                            · rw [if_neg c36] at H
                              exact absurd H (by simp)
                          · rw [if_neg c35] at H
                            exact absurd H (by simp)
                        · replace c33 := Bool.eq_false_iff.mpr c33
                          subst c33
                          have H1 : (policy_Routes.l1 k2 l0 t133 x8_2 y136 (y136.length : Int) (wrap64 (x48_2 + 1))) = some r := by rw [if_neg (show ¬ (false = true) by decide)] at H; exact H
                          clear H
                          have H := H1
                          clear H1
                          have H' := Aside0.mk H
                          clear H
                          have p143 : 0 ≤ (x48_2 : Int) := of_decide_eq_true (by first | (with_reducible assumption) | assumption)
                          have q143 : x48_2 < (y136.length : Int) := of_decide_eq_true (by first | (with_reducible assumption) | assumption)
                          obtain ⟨ad143, e143, hx143_0⟩ := Kd.at_int HR139.out x48_2 p143 q143
                          cases e143
                          obtain ⟨Aq, cq, eq_, _, hCq⟩ := Kd.R_reads HO_3.out
                          cases eq_
                          obtain ⟨adq, eadq, hxq⟩ := Kd.at_int hCq x48_2 p143 (by have := take_len_le Ny136.out; omega)
                          cases eadq
                          rw [← rd_of_take Ny136.out x48_2 p143 q143] at hxq
                          clear hx143_0
                          have hx143_0 := hxq
                          clear hxq
                          clear hCq
                          replace p143 := eq_true p143
                          replace q143 := eq_true q143
                          go_wp2_with (first | ((with_reducible refine gate_callee (f := 30) rfl ?_); refine goesL_ (some 56) rfl rfl Try.func30 (by kernel_rfl) rfl #[.slice A0 l0.length c0, .int .u32 ((rd y136 x48_2) % 4294967296)] rfl (by (try simp only [List.map_toArray, List.map_cons, List.map_nil]); first | done | rfl | (simp only [List.length_drop, List.length_take]; rfl)) ?_; (with_reducible refine (policy_reached.calls _ _ l0 ((rd y136 x48_2) % 4294967296) false _ ?side1 ?side2 A32.out).mono ?_); (case side1 => repeat (first | exact (Kd.C_below HR0.out HB.out) | (with_reducible refine Kd.C_alloc ?_ _) | (with_reducible refine Kd.C_drewN ?_ _) | (with_reducible refine Kd.C_drew ?_))); (case side2 => exact HC0.out); rintro e w55 ⟨rfl, hb⟩; refine ⟨_, rfl, ?_⟩; have n0_ := Aside0.mk (Kd.R_below (by (with_reducible repeat (first | apply Kd.R_alloc | apply Kd.R_drewN | apply Kd.R_drew)); exact HO_3.out) hb); have n1_ := Aside0.mk (Kd.R_below (by (with_reducible repeat (first | apply Kd.R_alloc | apply Kd.R_drewN | apply Kd.R_drew)); exact HO_8.out) hb); have n2_ := Aside0.mk (below_step (by repeat (first | (with_reducible first | exact HB.out | apply below_alloc | apply pw_below_drewN | apply below_drew1) | exact HB.out)) hb); clear HO_3; clear HO_8; clear HB; have HO_3 := n0_; have HO_8 := n1_; have HB := n2_; clear n0_ n1_ n2_; (try clear hb); (try clear hb2); (try clear hk); (try clear hi)))
                          go_roundg k2
                          case measure => have := HK1.out; have := HK2.out; omega
                          case rel => exact ⟨(x8_2), (wrap64 (x48_2 + 1)), (by first | rfl | (simp; done) | (simp [*]; done)), H', ⟨by have := HK1.out; have := HK2.out; omega⟩, ⟨by (with_reducible repeat (first | apply Kd.R_alloc | apply Kd.R_drewN | apply Kd.R_drew)); exact HO_3.out⟩, ⟨by (with_reducible repeat (first | apply Kd.R_alloc | apply Kd.R_drewN | apply Kd.R_drew)); exact HO_8.out⟩, ⟨by repeat (first | (with_reducible first | exact HB.out | apply below_alloc | apply pw_below_drewN | apply below_drew1) | exact HB.out)⟩⟩
                      · rw [if_neg c31] at H
                        exact absurd H (by simp)
                    · rw [if_neg c30] at H
                      exact absurd H (by simp)
                  · rw [if_neg c29] at H
                    have c29b0 : decide (x48_2 < (y136.length : Int)) = false := decide_eq_false c29
                    clear c29
                    obtain ⟨ji56, hji56⟩ : ∃ j_ : Int, (mn (x8_2.length : Int) 16) = j_ := ⟨_, rfl⟩
                    replace H : (if 0 ≤ (ji56) then (if (ji56) ≤ (x8_2.length : Int) then (some (x8_2.take ((ji56) : Int).toNat)) else (none)) else (none)) = some r := by first | (rw [hji56] at H; exact H) | (simp only [hji56] at H ⊢; exact H)
                    have hji56_ : (if 16 < (x8_2.length : Int) then 16 else (x8_2.length : Int)) = ji56 := hji56
                    by_cases c57 : 0 ≤ (ji56)
                    · rw [if_pos c57] at H
                      have c57b0 := eq_true c57
                      have c57b1 : decide (0 ≤ (ji56)) = true := decide_eq_true c57
                      clear c57
                      by_cases c58 : (ji56) ≤ (x8_2.length : Int)
                      · rw [if_pos c58] at H
                        have c58b0 := eq_true c58
                        have c58b1 : decide ((ji56) ≤ (x8_2.length : Int)) = true := decide_eq_true c58
                        clear c58
                        obtain ⟨y140, hy140⟩ : ∃ y_ : List (S30), y_ = (x8_2.take ((ji56) : Int).toNat) := ⟨_, rfl⟩
                        replace H : (some y140) = some r := by first | (rw [hy140]; with_reducible exact H) | (have H2_ := (Option.bind_some _ _).symm.trans H; rw [hy140]; with_reducible exact H2_) | (have H2_ := (Option.bind_some _ _).symm.trans H; with_reducible exact H2_) | with_reducible exact H | (rw [hy140]; exact H) | exact H
                        have Ny140 := Aside0.mk hy140
                        clear hy140
                        obtain rfl := Option.some.inj H
                        obtain ⟨Ao59, co59, eo59⟩ := Kd.R_slice HO_8.out
                        subst eo59
                        have q60 : ((ji56) : Int) ≤ ((x8_2.length : Int) : Int) := of_decide_eq_true (by first | (with_reducible assumption) | assumption)
                        obtain ⟨i060, hi060, _, hsz60, _⟩ := info_parts info30
                        have hcut60 := cut_to (P := Try.prog) 23 30 .i64 Try.underlying23 hi060 Ao59 x8_2.length co59 (ji56) (of_decide_eq_true (by first | (with_reducible assumption) | assumption)) q60 (Kd.R_reads' HO_8.out).2.1
                        have hr60 := Kd.R_take (m := ((ji56) : Int).toNat) HO_8.out (by omega)
                        have hy60 : y140.length = ((ji56) : Int).toNat := (by rw [Ny140.out, List.length_take]; omega)
                        rw [← Ny140.out] at hr60
                        rw [← hy60] at hr60 hcut60
                        clear hy60 hi060 hsz60 HO_8
                        have HO142 := Aside0.mk hr60
                        clear hr60
                        replace q60 := eq_true q60
                        go_wp2
                        go_ret
                        exact ⟨_, by first | rfl | (simp [errW_none, errW_some] <;> rfl) | (simp only [← hji21, ← hji56]; first | rfl | (simp [errW_none, errW_some] <;> rfl)) | (simp [*, errW_none, errW_some] <;> rfl), by (with_reducible repeat (first | apply Kd.R_alloc | apply Kd.R_drewN | apply Kd.R_drew)); exact HO142.out, by repeat (first | (with_reducible first | exact HB.out | apply below_alloc | apply pw_below_drewN | apply below_drew1) | exact HB.out)⟩
                      · rw [if_neg c58] at H
                        exact absurd H (by simp)
                    · rw [if_neg c57] at H
                      exact absurd H (by simp)
            · rw [if_neg c23] at H
              exact absurd H (by simp)
          · rw [if_neg c22] at H
            exact absurd H (by simp)
  · rw [if_neg c3] at H
    have c3b0 : (t118 == 0) = false := beq_eq_false_iff_ne.mpr c3
    have c3b1 : (t118 != 0) = true := bne_iff_ne.mpr c3
    obtain rfl := Option.some.inj H
    go_enter Try.func10, Try.ntmps10
    go_wp2_with (first | ((with_reducible refine gate_callee (f := 15) rfl ?_); refine goesL_ (some 14) rfl rfl Try.func15 (by kernel_rfl) rfl #[.slice A0 l0.length c0] rfl (by (try simp only [List.map_toArray, List.map_cons, List.map_nil]); first | done | rfl | (simp only [List.length_drop, List.length_take]; rfl)) ?_; (with_reducible refine (policy_Check.calls k _ _ l0 t118 _ ?side1 ?side2 A2.out).mono ?_); (case side1 => repeat (first | exact HR0.out | (with_reducible refine Kd.C_alloc ?_ _) | (with_reducible refine Kd.C_drewN ?_ _) | (with_reducible refine Kd.C_drew ?_))); (case side2 => exact HC0.out); rintro e w61 ⟨rfl, hb⟩; refine ⟨_, rfl, ?_⟩; have n0_ := Aside0.mk (below_step (by repeat (first | (with_reducible first | exact HB.out | apply below_alloc | apply pw_below_drewN | apply below_drew1) | exact HB.out)) hb); clear HB; have HB := n0_; clear n0_; (try clear hb); (try clear hb2); (try clear hk); (try clear hi)))
    go_ret
    exact ⟨_, by first | rfl | (simp [errW_none, errW_some] <;> rfl) | (simp [*, errW_none, errW_some] <;> rfl), by first | exact Kd.R_nil _ _ _ _ _ | exact Kd.N_nil _ _ _ _ _ | exact Kd.V_nil _ _ _ _ _ | exact Kd.Q_nil _ _ _ _ _ | exact Kd.S_nil _ _ _ _ _, by repeat (first | (with_reducible first | exact HB.out | apply below_alloc | apply pw_below_drewN | apply below_drew1) | exact HB.out)⟩

end Go.Proofs.Ytcpneggifmldoaa.X

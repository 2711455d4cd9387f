/-
  Part 10 of the texts of this claim: Tx6, TunSemR, TunS, TunP, TunPL, TunRow0.
-/
import Derived.Test.YtcpneggifmldoaaTPpi
namespace Go.Proofs.Ytcpneggifmldoaa.T
open Go.RowKit Go.Proofs.YtcpneggifmldoaaW.PrintWords Go.Proofs.YtcpneggifmldoaaW.PrintLast Go.Proofs.YtcpneggifmldoaaW.PrintMore
attribute [local go_sem] max2_int min2_int max_two min_two max_three min_three max_four min_four   -- for this text's walks alone
set_option linter.unusedVariables false
set_option linter.unusedSimpArgs false
def vizardref18_Allow.l0 : Nat → List (S40) → Int → Int → Int → Int → Option (Bool)
  | 0, _, _, _, _, _ => none
  | k + 1, x0, x1, x2, x3, x9 => if x9 < (x0.length : Int) then (if 0 ≤ x9 then (if ((rd_T40 x0 x9).f1) = 0 then ((vizardref04_Has.f ((rd_T40 x0 x9).f2.f0) ((rd_T40 x0 x9).f2.f1) x2).bind fun t122 => (if t122 = true then (if x3 ≥ ((rd_T40 x0 x9).f3) then (if x3 ≤ ((rd_T40 x0 x9).f4) then (some ((rd_T40 x0 x9).f0)) else (vizardref18_Allow.l0 k x0 x1 x2 x3 (wrap64 (x9 + 1)))) else (vizardref18_Allow.l0 k x0 x1 x2 x3 (wrap64 (x9 + 1)))) else (vizardref18_Allow.l0 k x0 x1 x2 x3 (wrap64 (x9 + 1))))) else (if ((rd_T40 x0 x9).f1) = x1 then ((vizardref04_Has.f ((rd_T40 x0 x9).f2.f0) ((rd_T40 x0 x9).f2.f1) x2).bind fun t123 => (if t123 = true then (if x3 ≥ ((rd_T40 x0 x9).f3) then (if x3 ≤ ((rd_T40 x0 x9).f4) then (some ((rd_T40 x0 x9).f0)) else (vizardref18_Allow.l0 k x0 x1 x2 x3 (wrap64 (x9 + 1)))) else (vizardref18_Allow.l0 k x0 x1 x2 x3 (wrap64 (x9 + 1)))) else (vizardref18_Allow.l0 k x0 x1 x2 x3 (wrap64 (x9 + 1))))) else (vizardref18_Allow.l0 k x0 x1 x2 x3 (wrap64 (x9 + 1))))) else (none)) else (some false)
def vizardref18_Allow.f (k : Nat) (l0 : List (S40)) (a1 : Int) (a2 : Int) (a3 : Int) : Option (Bool) := (vizardref18_Check.f k l0).bind fun t119 => (if t119 = 0 then (vizardref18_Allow.l0 k l0 a1 a2 a3 0) else (some false))
set_option maxHeartbeats 8000000 in
set_option maxRecDepth 100000 in
theorem vizardref18_Allow.calls (k : Nat) (A0 : Option Addr) (c0 : Nat) (l0 : List (S40)) (a1 : Int) (a2 : Int) (a3 : Int) (r : Bool) (w : World) (hr0 : Kd.C k40 w A0 l0.length l0) (hc0 : l0.length ≤ c0) (h : vizardref18_Allow.f k l0 a1 a2 a3 = some r) :
    Calls Try.prog 24 #[.slice A0 l0.length c0, .int .i64 a1, .int .u32 a2, .int .i64 a3] w fun e w' => e = .returned (.bool r) ∧ Below w.heap.size w w' := by
  have hu40 := Try.underlying40
  have hu38 := Try.underlying38
  have HR0 := Aside0.mk hr0
  have HC0 := Aside0.mk hc0
  clear hr0 hc0
  have HB := Aside0.mk (Below.refl w.heap.size w)
  have H : ((vizardref18_Check.f k l0).bind fun t119 => (if t119 = 0 then (vizardref18_Allow.l0 k l0 a1 a2 a3 0) else (some false))) = some r := h
  clear h
  replace H := Option.bind_eq_some_iff.mp H
  obtain ⟨t119, A50, H⟩ := H
  replace H : (if t119 = 0 then (vizardref18_Allow.l0 k l0 a1 a2 a3 0) else (some false)) = some r := H
  have A5 := Aside0.mk A50
  clear A50
  by_cases c6 : t119 = 0
  · rw [if_pos c6] at H
    have c6b0 : (t119 == 0) = true := beq_iff_eq.mpr c6
    have c6b1 : (t119 != 0) = false := bne_eq_false_iff_eq.mpr c6
    clear c6
    have H' := Aside0.mk H
    clear H
    go_enter Try.func24, Try.ntmps24
    go_wp2_with (first | ((with_reducible refine gate_callee (f := 31) rfl ?_); refine goesL_ (some 12) rfl rfl Try.func31 (by kernel_rfl) rfl #[.slice A0 l0.length c0] rfl (by (try simp only [List.map_toArray, List.map_cons, List.map_nil]); first | done | rfl | (simp only [List.length_drop, List.length_take]; rfl)) ?_; (with_reducible refine (vizardref18_Check.calls k _ _ l0 t119 _ ?side1 ?side2 A5.out).mono ?_); (case side1 => repeat (first | exact HR0.out | (with_reducible refine Kd.C_alloc ?_ _) | (with_reducible refine Kd.C_drewN ?_ _) | (with_reducible refine Kd.C_drew ?_))); (case side2 => exact HC0.out); rintro e w7 ⟨rfl, hb⟩; refine ⟨_, rfl, ?_⟩; have n0_ := Aside0.mk (below_step (by repeat (first | (with_reducible first | exact HB.out | apply below_alloc | apply pw_below_drewN | apply below_drew1) | exact HB.out)) hb); clear HB; have HB := n0_; clear n0_; (try clear hb); (try clear hb2); (try clear hk); (try clear hi)))
    go_loopg [9] k (fun kq v9 w' => ∃ (x9_1 : Int), v9 = .int .i64 x9_1 ∧ Aside0 (vizardref18_Allow.l0 kq l0 a1 a2 a3 x9_1 = some r) ∧ Aside0 (kq ≤ k) ∧ Aside0 (Below w.heap.size w w'))
    case atStart => exact ⟨(0), (by first | rfl | (simp; done) | (simp [*]; done)), H', ⟨Nat.le_refl _⟩, ⟨by repeat (first | (with_reducible first | exact HB.out | apply below_alloc | apply pw_below_drewN | apply below_drew1) | exact HB.out)⟩⟩
    case round =>
      clear H'
      try clear c2
      try clear p2
      try clear c3
      try clear c6
      try clear c6b0
      try clear c6b1
      obtain ⟨x9_1, rfl, HA, HK1, HB⟩ := hrel
      cases gk with
      | zero => exact absurd HA.out (by simp [vizardref18_Allow.l0])
      | succ k1 =>
        have H := HA.out
        clear HA
        simp only [vizardref18_Allow.l0] at H
        by_cases c8 : x9_1 < (l0.length : Int)
        · rw [if_pos c8] at H
          have c8b0 : decide (x9_1 < (l0.length : Int)) = true := decide_eq_true c8
          clear c8
          by_cases c9 : 0 ≤ x9_1
          · rw [if_pos c9] at H
            have c9b0 : decide (0 ≤ x9_1) = true := decide_eq_true c9
            clear c9
            by_cases c10 : ((rd_T40 l0 x9_1).f1) = 0
            · rw [if_pos c10] at H
              have c10b0 : (((rd_T40 l0 x9_1).f1) == 0) = true := beq_iff_eq.mpr c10
              have c10b1 : (((rd_T40 l0 x9_1).f1) != 0) = false := bne_eq_false_iff_eq.mpr c10
              clear c10
              replace H := Option.bind_eq_some_iff.mp H
              obtain ⟨t122, A110, H⟩ := H
              replace H : (if t122 = true then (if a3 ≥ ((rd_T40 l0 x9_1).f3) then (if a3 ≤ ((rd_T40 l0 x9_1).f4) then (some ((rd_T40 l0 x9_1).f0)) else (vizardref18_Allow.l0 k1 l0 a1 a2 a3 (wrap64 (x9_1 + 1)))) else (vizardref18_Allow.l0 k1 l0 a1 a2 a3 (wrap64 (x9_1 + 1)))) else (vizardref18_Allow.l0 k1 l0 a1 a2 a3 (wrap64 (x9_1 + 1)))) = some r := H
              have A11 := Aside0.mk A110
              clear A110
              by_cases c12 : t122 = true
              · subst c12
                have H1 : (if a3 ≥ ((rd_T40 l0 x9_1).f3) then (if a3 ≤ ((rd_T40 l0 x9_1).f4) then (some ((rd_T40 l0 x9_1).f0)) else (vizardref18_Allow.l0 k1 l0 a1 a2 a3 (wrap64 (x9_1 + 1)))) else (vizardref18_Allow.l0 k1 l0 a1 a2 a3 (wrap64 (x9_1 + 1)))) = some r := by rw [if_pos rfl] at H; exact H
                clear H
                have H := H1
                clear H1
                by_cases c13 : a3 ≥ ((rd_T40 l0 x9_1).f3)
                · rw [if_pos c13] at H
                  have c13b0 : decide (((rd_T40 l0 x9_1).f3) ≤ a3) = true := decide_eq_true c13
                  clear c13
                  by_cases c14 : a3 ≤ ((rd_T40 l0 x9_1).f4)
                  · rw [if_pos c14] at H
                    have c14b0 : decide (a3 ≤ ((rd_T40 l0 x9_1).f4)) = true := decide_eq_true c14
                    clear c14
                    obtain rfl := Option.some.inj H
                    have p120 : 0 ≤ (x9_1 : Int) := of_decide_eq_true (by first | (with_reducible assumption) | assumption)
                    have q120 : x9_1 < (l0.length : Int) := of_decide_eq_true (by first | (with_reducible assumption) | assumption)
                    obtain ⟨ad120, e120, hx120_0, hx120_1, hx120_2, hx120_3, hx120_4, hx120_5⟩ := at_T40 HR0.out x9_1 p120 q120
                    cases e120
                    try replace hx120_0 := (HB.out.cell (World.block_lt_of_cell? w _ hx120_0)).trans hx120_0
                    try replace hx120_1 := (HB.out.cell (World.block_lt_of_cell? w _ hx120_1)).trans hx120_1
                    try replace hx120_2 := (HB.out.cell (World.block_lt_of_cell? w _ hx120_2)).trans hx120_2
                    try replace hx120_3 := (HB.out.cell (World.block_lt_of_cell? w _ hx120_3)).trans hx120_3
                    try replace hx120_4 := (HB.out.cell (World.block_lt_of_cell? w _ hx120_4)).trans hx120_4
                    try replace hx120_5 := (HB.out.cell (World.block_lt_of_cell? w _ hx120_5)).trans hx120_5
                    replace p120 := eq_true p120
                    replace q120 := eq_true q120
                    go_wp2_with (first | ((with_reducible refine gate_dst (N := 10) rfl ?_); refine box_event ?hg (N := 10) ?hd (cs := #[.bool false, .int .i64 0, .int .u32 0, .int .i64 0, .int .i64 0, .int .i64 0]) (t := 40) ?hr ?_; (case hd => rfl); (case hg => rfl); (case hr => first | (go_simp; done) | (go_simp; rfl)); intro gb121 hg w15 hbox hb; have n0_ := Aside0.mk (below_step (by repeat (first | (with_reducible first | exact HB.out | apply below_alloc | apply pw_below_drewN | apply below_drew1) | exact HB.out)) hb); have n1_ := Aside0.mk (hbox); have n2_ := Aside0.mk ((by rw [hg]; exact (below_size (by repeat (first | (with_reducible first | exact HB.out | apply below_alloc | apply pw_below_drewN | apply below_drew1) | exact HB.out))) : w.heap.size ≤ gb121)); have n3_ := Aside0.mk ((by rw [hg]; exact (below_size (by repeat (first | (with_reducible first | exact HB.out | apply below_alloc | apply pw_below_drewN | apply below_drew1) | exact HB.out))) : w.heap.size ≤ gb121)); clear HB; have HB := n0_; have BK121 := n1_; have GW121 := n2_; have GE121 := n3_; clear n0_ n1_ n2_ n3_; clear hb hbox hg; have hcz16_0 : w15.cell? ⟨gb121, 0, none⟩ = some (.bool false) := (blk_cell BK121.out 0).trans rfl; have hcz16_1 : w15.cell? ⟨gb121, 1, none⟩ = some (.int .i64 0) := (blk_cell BK121.out 1).trans rfl; have hcz16_2 : w15.cell? ⟨gb121, 2, none⟩ = some (.int .u32 0) := (blk_cell BK121.out 2).trans rfl; have hcz16_3 : w15.cell? ⟨gb121, 3, none⟩ = some (.int .i64 0) := (blk_cell BK121.out 3).trans rfl; have hcz16_4 : w15.cell? ⟨gb121, 4, none⟩ = some (.int .i64 0) := (blk_cell BK121.out 4).trans rfl; have hcz16_5 : w15.cell? ⟨gb121, 5, none⟩ = some (.int .i64 0) := (blk_cell BK121.out 5).trans rfl; have hfz16_0 := blk_frozen BK121.out 0; have hfz16_1 := blk_frozen BK121.out 1; have hfz16_2 := blk_frozen BK121.out 2; have hfz16_3 := blk_frozen BK121.out 3; have hfz16_4 := blk_frozen BK121.out 4; have hfz16_5 := blk_frozen BK121.out 5) | (go_at_call 40; (with_reducible refine (vizardref04_Has.calls ((rd_T40 l0 x9_1).f2.f0) ((rd_T40 l0 x9_1).f2.f1) a2 true _ A11.out).mono ?_); rintro e w17 ⟨rfl, hb⟩; have n0_ := Aside0.mk (blk_below (g := gb121) (o := .cells #[.bool ((rd_T40 l0 x9_1).f0), .int .i64 ((rd_T40 l0 x9_1).f1), .int .u32 ((rd_T40 l0 x9_1).f2.f0), .int .i64 ((rd_T40 l0 x9_1).f2.f1), .int .i64 ((rd_T40 l0 x9_1).f3), .int .i64 ((rd_T40 l0 x9_1).f4)] 40 (0, 0)) (by (with_reducible repeat (first | refine blk_drewN ?_ _ | refine blk_drew ?_ | refine blk_alloc ?_ _)); refine blk_put (cs := #[.bool ((rd_T40 l0 x9_1).f0), .int .i64 ((rd_T40 l0 x9_1).f1), .int .u32 ((rd_T40 l0 x9_1).f2.f0), .int .i64 ((rd_T40 l0 x9_1).f2.f1), .int .i64 ((rd_T40 l0 x9_1).f3), .int .i64 0]) ?_ 5 _ rfl; (with_reducible repeat (first | refine blk_drewN ?_ _ | refine blk_drew ?_ | refine blk_alloc ?_ _)); refine blk_put (cs := #[.bool ((rd_T40 l0 x9_1).f0), .int .i64 ((rd_T40 l0 x9_1).f1), .int .u32 ((rd_T40 l0 x9_1).f2.f0), .int .i64 ((rd_T40 l0 x9_1).f2.f1), .int .i64 0, .int .i64 0]) ?_ 4 _ rfl; (with_reducible repeat (first | refine blk_drewN ?_ _ | refine blk_drew ?_ | refine blk_alloc ?_ _)); refine blk_put (cs := #[.bool ((rd_T40 l0 x9_1).f0), .int .i64 ((rd_T40 l0 x9_1).f1), .int .u32 ((rd_T40 l0 x9_1).f2.f0), .int .i64 0, .int .i64 0, .int .i64 0]) ?_ 3 _ rfl; (with_reducible repeat (first | refine blk_drewN ?_ _ | refine blk_drew ?_ | refine blk_alloc ?_ _)); refine blk_put (cs := #[.bool ((rd_T40 l0 x9_1).f0), .int .i64 ((rd_T40 l0 x9_1).f1), .int .u32 0, .int .i64 0, .int .i64 0, .int .i64 0]) ?_ 2 _ rfl; (with_reducible repeat (first | refine blk_drewN ?_ _ | refine blk_drew ?_ | refine blk_alloc ?_ _)); refine blk_put (cs := #[.bool ((rd_T40 l0 x9_1).f0), .int .i64 0, .int .u32 0, .int .i64 0, .int .i64 0, .int .i64 0]) ?_ 1 _ rfl; (with_reducible repeat (first | refine blk_drewN ?_ _ | refine blk_drew ?_ | refine blk_alloc ?_ _)); refine blk_put (cs := #[.bool false, .int .i64 0, .int .u32 0, .int .i64 0, .int .i64 0, .int .i64 0]) ?_ 0 _ rfl; (with_reducible repeat (first | refine blk_drewN ?_ _ | refine blk_drew ?_ | refine blk_alloc ?_ _)); exact BK121.out) hb); have n1_ := Aside0.mk (below_step (by repeat (first | (with_reducible first | exact HB.out | apply below_alloc | apply pw_below_drewN | apply below_drew1 | refine below_set ?_ GE121.out) | exact HB.out)) hb); clear BK121; clear HB; have BK121 := n0_; have HB := n1_; clear n0_ n1_; (try clear hb); (try clear hb2); (try clear hk); (try clear hi); have hcz18_0 : w17.cell? ⟨gb121, 0, none⟩ = some (.bool ((rd_T40 l0 x9_1).f0)) := (blk_cell BK121.out 0).trans rfl; have hcz18_1 : w17.cell? ⟨gb121, 1, none⟩ = some (.int .i64 ((rd_T40 l0 x9_1).f1)) := (blk_cell BK121.out 1).trans rfl; have hcz18_2 : w17.cell? ⟨gb121, 2, none⟩ = some (.int .u32 ((rd_T40 l0 x9_1).f2.f0)) := (blk_cell BK121.out 2).trans rfl; have hcz18_3 : w17.cell? ⟨gb121, 3, none⟩ = some (.int .i64 ((rd_T40 l0 x9_1).f2.f1)) := (blk_cell BK121.out 3).trans rfl; have hcz18_4 : w17.cell? ⟨gb121, 4, none⟩ = some (.int .i64 ((rd_T40 l0 x9_1).f3)) := (blk_cell BK121.out 4).trans rfl; have hcz18_5 : w17.cell? ⟨gb121, 5, none⟩ = some (.int .i64 ((rd_T40 l0 x9_1).f4)) := (blk_cell BK121.out 5).trans rfl; have hfz18_0 := blk_frozen BK121.out 0; have hfz18_1 := blk_frozen BK121.out 1; have hfz18_2 := blk_frozen BK121.out 2; have hfz18_3 := blk_frozen BK121.out 3; have hfz18_4 := blk_frozen BK121.out 4; have hfz18_5 := blk_frozen BK121.out 5))
                    go_ret
                    exact ⟨by first | rfl | (simp [errW_none, errW_some] <;> rfl) | (simp [*, errW_none, errW_some] <;> rfl), by repeat (first | (with_reducible first | exact HB.out | apply below_alloc | apply pw_below_drewN | apply below_drew1 | refine below_set ?_ GE121.out) | exact HB.out)⟩
                  · rw [if_neg c14] at H
                    have c14b0 : decide (a3 ≤ ((rd_T40 l0 x9_1).f4)) = false := decide_eq_false c14
                    clear c14
                    have H' := Aside0.mk H
                    clear H
                    have p120 : 0 ≤ (x9_1 : Int) := of_decide_eq_true (by first | (with_reducible assumption) | assumption)
                    have q120 : x9_1 < (l0.length : Int) := of_decide_eq_true (by first | (with_reducible assumption) | assumption)
                    obtain ⟨ad120, e120, hx120_0, hx120_1, hx120_2, hx120_3, hx120_4, hx120_5⟩ := at_T40 HR0.out x9_1 p120 q120
                    cases e120
                    try replace hx120_0 := (HB.out.cell (World.block_lt_of_cell? w _ hx120_0)).trans hx120_0
                    try replace hx120_1 := (HB.out.cell (World.block_lt_of_cell? w _ hx120_1)).trans hx120_1
                    try replace hx120_2 := (HB.out.cell (World.block_lt_of_cell? w _ hx120_2)).trans hx120_2
                    try replace hx120_3 := (HB.out.cell (World.block_lt_of_cell? w _ hx120_3)).trans hx120_3
                    try replace hx120_4 := (HB.out.cell (World.block_lt_of_cell? w _ hx120_4)).trans hx120_4
                    try replace hx120_5 := (HB.out.cell (World.block_lt_of_cell? w _ hx120_5)).trans hx120_5
                    replace p120 := eq_true p120
                    replace q120 := eq_true q120
                    go_wp2_with (first | ((with_reducible refine gate_dst (N := 10) rfl ?_); refine box_event ?hg (N := 10) ?hd (cs := #[.bool false, .int .i64 0, .int .u32 0, .int .i64 0, .int .i64 0, .int .i64 0]) (t := 40) ?hr ?_; (case hd => rfl); (case hg => rfl); (case hr => first | (go_simp; done) | (go_simp; rfl)); intro gb121 hg w19 hbox hb; have n0_ := Aside0.mk (below_step (by repeat (first | (with_reducible first | exact HB.out | apply below_alloc | apply pw_below_drewN | apply below_drew1) | exact HB.out)) hb); have n1_ := Aside0.mk (hbox); have n2_ := Aside0.mk ((by rw [hg]; exact (below_size (by repeat (first | (with_reducible first | exact HB.out | apply below_alloc | apply pw_below_drewN | apply below_drew1) | exact HB.out))) : w.heap.size ≤ gb121)); have n3_ := Aside0.mk ((by rw [hg]; exact (below_size (by repeat (first | (with_reducible first | exact HB.out | apply below_alloc | apply pw_below_drewN | apply below_drew1) | exact HB.out))) : w.heap.size ≤ gb121)); clear HB; have HB := n0_; have BK121 := n1_; have GW121 := n2_; have GE121 := n3_; clear n0_ n1_ n2_ n3_; clear hb hbox hg; have hcz20_0 : w19.cell? ⟨gb121, 0, none⟩ = some (.bool false) := (blk_cell BK121.out 0).trans rfl; have hcz20_1 : w19.cell? ⟨gb121, 1, none⟩ = some (.int .i64 0) := (blk_cell BK121.out 1).trans rfl; have hcz20_2 : w19.cell? ⟨gb121, 2, none⟩ = some (.int .u32 0) := (blk_cell BK121.out 2).trans rfl; have hcz20_3 : w19.cell? ⟨gb121, 3, none⟩ = some (.int .i64 0) := (blk_cell BK121.out 3).trans rfl; have hcz20_4 : w19.cell? ⟨gb121, 4, none⟩ = some (.int .i64 0) := (blk_cell BK121.out 4).trans rfl; have hcz20_5 : w19.cell? ⟨gb121, 5, none⟩ = some (.int .i64 0) := (blk_cell BK121.out 5).trans rfl; have hfz20_0 := blk_frozen BK121.out 0; have hfz20_1 := blk_frozen BK121.out 1; have hfz20_2 := blk_frozen BK121.out 2; have hfz20_3 := blk_frozen BK121.out 3; have hfz20_4 := blk_frozen BK121.out 4; have hfz20_5 := blk_frozen BK121.out 5) | (go_at_call 40; (with_reducible refine (vizardref04_Has.calls ((rd_T40 l0 x9_1).f2.f0) ((rd_T40 l0 x9_1).f2.f1) a2 true _ A11.out).mono ?_); rintro e w21 ⟨rfl, hb⟩; have n0_ := Aside0.mk (blk_below (g := gb121) (o := .cells #[.bool ((rd_T40 l0 x9_1).f0), .int .i64 ((rd_T40 l0 x9_1).f1), .int .u32 ((rd_T40 l0 x9_1).f2.f0), .int .i64 ((rd_T40 l0 x9_1).f2.f1), .int .i64 ((rd_T40 l0 x9_1).f3), .int .i64 ((rd_T40 l0 x9_1).f4)] 40 (0, 0)) (by (with_reducible repeat (first | refine blk_drewN ?_ _ | refine blk_drew ?_ | refine blk_alloc ?_ _)); refine blk_put (cs := #[.bool ((rd_T40 l0 x9_1).f0), .int .i64 ((rd_T40 l0 x9_1).f1), .int .u32 ((rd_T40 l0 x9_1).f2.f0), .int .i64 ((rd_T40 l0 x9_1).f2.f1), .int .i64 ((rd_T40 l0 x9_1).f3), .int .i64 0]) ?_ 5 _ rfl; (with_reducible repeat (first | refine blk_drewN ?_ _ | refine blk_drew ?_ | refine blk_alloc ?_ _)); refine blk_put (cs := #[.bool ((rd_T40 l0 x9_1).f0), .int .i64 ((rd_T40 l0 x9_1).f1), .int .u32 ((rd_T40 l0 x9_1).f2.f0), .int .i64 ((rd_T40 l0 x9_1).f2.f1), .int .i64 0, .int .i64 0]) ?_ 4 _ rfl; (with_reducible repeat (first | refine blk_drewN ?_ _ | refine blk_drew ?_ | refine blk_alloc ?_ _)); refine blk_put (cs := #[.bool ((rd_T40 l0 x9_1).f0), .int .i64 ((rd_T40 l0 x9_1).f1), .int .u32 ((rd_T40 l0 x9_1).f2.f0), .int .i64 0, .int .i64 0, .int .i64 0]) ?_ 3 _ rfl; (with_reducible repeat (first | refine blk_drewN ?_ _ | refine blk_drew ?_ | refine blk_alloc ?_ _)); refine blk_put (cs := #[.bool ((rd_T40 l0 x9_1).f0), .int .i64 ((rd_T40 l0 x9_1).f1), .int .u32 0, .int .i64 0, .int .i64 0, .int .i64 0]) ?_ 2 _ rfl; (with_reducible repeat (first | refine blk_drewN ?_ _ | refine blk_drew ?_ | refine blk_alloc ?_ _)); refine blk_put (cs := #[.bool ((rd_T40 l0 x9_1).f0), .int .i64 0, .int .u32 0, .int .i64 0, .int .i64 0, .int .i64 0]) ?_ 1 _ rfl; (with_reducible repeat (first | refine blk_drewN ?_ _ | refine blk_drew ?_ | refine blk_alloc ?_ _)); refine blk_put (cs := #[.bool false, .int .i64 0, .int .u32 0, .int .i64 0, .int .i64 0, .int .i64 0]) ?_ 0 _ rfl; (with_reducible repeat (first | refine blk_drewN ?_ _ | refine blk_drew ?_ | refine blk_alloc ?_ _)); exact BK121.out) hb); have n1_ := Aside0.mk (below_step (by repeat (first | (with_reducible first | exact HB.out | apply below_alloc | apply pw_below_drewN | apply below_drew1 | refine below_set ?_ GE121.out) | exact HB.out)) hb); clear BK121; clear HB; have BK121 := n0_; have HB := n1_; clear n0_ n1_; (try clear hb); (try clear hb2); (try clear hk); (try clear hi); have hcz22_0 : w21.cell? ⟨gb121, 0, none⟩ = some (.bool ((rd_T40 l0 x9_1).f0)) := (blk_cell BK121.out 0).trans rfl; have hcz22_1 : w21.cell? ⟨gb121, 1, none⟩ = some (.int .i64 ((rd_T40 l0 x9_1).f1)) := (blk_cell BK121.out 1).trans rfl; have hcz22_2 : w21.cell? ⟨gb121, 2, none⟩ = some (.int .u32 ((rd_T40 l0 x9_1).f2.f0)) := (blk_cell BK121.out 2).trans rfl; have hcz22_3 : w21.cell? ⟨gb121, 3, none⟩ = some (.int .i64 ((rd_T40 l0 x9_1).f2.f1)) := (blk_cell BK121.out 3).trans rfl; have hcz22_4 : w21.cell? ⟨gb121, 4, none⟩ = some (.int .i64 ((rd_T40 l0 x9_1).f3)) := (blk_cell BK121.out 4).trans rfl; have hcz22_5 : w21.cell? ⟨gb121, 5, none⟩ = some (.int .i64 ((rd_T40 l0 x9_1).f4)) := (blk_cell BK121.out 5).trans rfl; have hfz22_0 := blk_frozen BK121.out 0; have hfz22_1 := blk_frozen BK121.out 1; have hfz22_2 := blk_frozen BK121.out 2; have hfz22_3 := blk_frozen BK121.out 3; have hfz22_4 := blk_frozen BK121.out 4; have hfz22_5 := blk_frozen BK121.out 5))
                    go_roundg k1
                    case measure => have := HK1.out; omega
                    case rel => exact ⟨(wrap64 (x9_1 + 1)), (by first | rfl | (simp; done) | (simp [*]; done)), H', ⟨by have := HK1.out; omega⟩, ⟨by repeat (first | (with_reducible first | exact HB.out | apply below_alloc | apply pw_below_drewN | apply below_drew1 | refine below_set ?_ GE121.out) | exact HB.out)⟩⟩
                · rw [if_neg c13] at H
                  have c13b0 : decide (((rd_T40 l0 x9_1).f3) ≤ a3) = false := decide_eq_false c13
                  clear c13
                  have H' := Aside0.mk H
                  clear H
                  have p120 : 0 ≤ (x9_1 : Int) := of_decide_eq_true (by first | (with_reducible assumption) | assumption)
                  have q120 : x9_1 < (l0.length : Int) := of_decide_eq_true (by first | (with_reducible assumption) | assumption)
                  obtain ⟨ad120, e120, hx120_0, hx120_1, hx120_2, hx120_3, hx120_4, hx120_5⟩ := at_T40 HR0.out x9_1 p120 q120
                  cases e120
                  try replace hx120_0 := (HB.out.cell (World.block_lt_of_cell? w _ hx120_0)).trans hx120_0
                  try replace hx120_1 := (HB.out.cell (World.block_lt_of_cell? w _ hx120_1)).trans hx120_1
                  try replace hx120_2 := (HB.out.cell (World.block_lt_of_cell? w _ hx120_2)).trans hx120_2
                  try replace hx120_3 := (HB.out.cell (World.block_lt_of_cell? w _ hx120_3)).trans hx120_3
                  try replace hx120_4 := (HB.out.cell (World.block_lt_of_cell? w _ hx120_4)).trans hx120_4
                  try replace hx120_5 := (HB.out.cell (World.block_lt_of_cell? w _ hx120_5)).trans hx120_5
                  replace p120 := eq_true p120
                  replace q120 := eq_true q120
                  go_wp2_with (first | ((with_reducible refine gate_dst (N := 10) rfl ?_); refine box_event ?hg (N := 10) ?hd (cs := #[.bool false, .int .i64 0, .int .u32 0, .int .i64 0, .int .i64 0, .int .i64 0]) (t := 40) ?hr ?_; (case hd => rfl); (case hg => rfl); (case hr => first | (go_simp; done) | (go_simp; rfl)); intro gb121 hg w23 hbox hb; have n0_ := Aside0.mk (below_step (by repeat (first | (with_reducible first | exact HB.out | apply below_alloc | apply pw_below_drewN | apply below_drew1) | exact HB.out)) hb); have n1_ := Aside0.mk (hbox); have n2_ := Aside0.mk ((by rw [hg]; exact (below_size (by repeat (first | (with_reducible first | exact HB.out | apply below_alloc | apply pw_below_drewN | apply below_drew1) | exact HB.out))) : w.heap.size ≤ gb121)); have n3_ := Aside0.mk ((by rw [hg]; exact (below_size (by repeat (first | (with_reducible first | exact HB.out | apply below_alloc | apply pw_below_drewN | apply below_drew1) | exact HB.out))) : w.heap.size ≤ gb121)); clear HB; have HB := n0_; have BK121 := n1_; have GW121 := n2_; have GE121 := n3_; clear n0_ n1_ n2_ n3_; clear hb hbox hg; have hcz24_0 : w23.cell? ⟨gb121, 0, none⟩ = some (.bool false) := (blk_cell BK121.out 0).trans rfl; have hcz24_1 : w23.cell? ⟨gb121, 1, none⟩ = some (.int .i64 0) := (blk_cell BK121.out 1).trans rfl; have hcz24_2 : w23.cell? ⟨gb121, 2, none⟩ = some (.int .u32 0) := (blk_cell BK121.out 2).trans rfl; have hcz24_3 : w23.cell? ⟨gb121, 3, none⟩ = some (.int .i64 0) := (blk_cell BK121.out 3).trans rfl; have hcz24_4 : w23.cell? ⟨gb121, 4, none⟩ = some (.int .i64 0) := (blk_cell BK121.out 4).trans rfl; have hcz24_5 : w23.cell? ⟨gb121, 5, none⟩ = some (.int .i64 0) := (blk_cell BK121.out 5).trans rfl; have hfz24_0 := blk_frozen BK121.out 0; have hfz24_1 := blk_frozen BK121.out 1; have hfz24_2 := blk_frozen BK121.out 2; have hfz24_3 := blk_frozen BK121.out 3; have hfz24_4 := blk_frozen BK121.out 4; have hfz24_5 := blk_frozen BK121.out 5) | (go_at_call 40; (with_reducible refine (vizardref04_Has.calls ((rd_T40 l0 x9_1).f2.f0) ((rd_T40 l0 x9_1).f2.f1) a2 true _ A11.out).mono ?_); rintro e w25 ⟨rfl, hb⟩; have n0_ := Aside0.mk (blk_below (g := gb121) (o := .cells #[.bool ((rd_T40 l0 x9_1).f0), .int .i64 ((rd_T40 l0 x9_1).f1), .int .u32 ((rd_T40 l0 x9_1).f2.f0), .int .i64 ((rd_T40 l0 x9_1).f2.f1), .int .i64 ((rd_T40 l0 x9_1).f3), .int .i64 ((rd_T40 l0 x9_1).f4)] 40 (0, 0)) (by (with_reducible repeat (first | refine blk_drewN ?_ _ | refine blk_drew ?_ | refine blk_alloc ?_ _)); refine blk_put (cs := #[.bool ((rd_T40 l0 x9_1).f0), .int .i64 ((rd_T40 l0 x9_1).f1), .int .u32 ((rd_T40 l0 x9_1).f2.f0), .int .i64 ((rd_T40 l0 x9_1).f2.f1), .int .i64 ((rd_T40 l0 x9_1).f3), .int .i64 0]) ?_ 5 _ rfl; (with_reducible repeat (first | refine blk_drewN ?_ _ | refine blk_drew ?_ | refine blk_alloc ?_ _)); refine blk_put (cs := #[.bool ((rd_T40 l0 x9_1).f0), .int .i64 ((rd_T40 l0 x9_1).f1), .int .u32 ((rd_T40 l0 x9_1).f2.f0), .int .i64 ((rd_T40 l0 x9_1).f2.f1), .int .i64 0, .int .i64 0]) ?_ 4 _ rfl; (with_reducible repeat (first | refine blk_drewN ?_ _ | refine blk_drew ?_ | refine blk_alloc ?_ _)); refine blk_put (cs := #[.bool ((rd_T40 l0 x9_1).f0), .int .i64 ((rd_T40 l0 x9_1).f1), .int .u32 ((rd_T40 l0 x9_1).f2.f0), .int .i64 0, .int .i64 0, .int .i64 0]) ?_ 3 _ rfl; (with_reducible repeat (first | refine blk_drewN ?_ _ | refine blk_drew ?_ | refine blk_alloc ?_ _)); refine blk_put (cs := #[.bool ((rd_T40 l0 x9_1).f0), .int .i64 ((rd_T40 l0 x9_1).f1), .int .u32 0, .int .i64 0, .int .i64 0, .int .i64 0]) ?_ 2 _ rfl; (with_reducible repeat (first | refine blk_drewN ?_ _ | refine blk_drew ?_ | refine blk_alloc ?_ _)); refine blk_put (cs := #[.bool ((rd_T40 l0 x9_1).f0), .int .i64 0, .int .u32 0, .int .i64 0, .int .i64 0, .int .i64 0]) ?_ 1 _ rfl; (with_reducible repeat (first | refine blk_drewN ?_ _ | refine blk_drew ?_ | refine blk_alloc ?_ _)); refine blk_put (cs := #[.bool false, .int .i64 0, .int .u32 0, .int .i64 0, .int .i64 0, .int .i64 0]) ?_ 0 _ rfl; (with_reducible repeat (first | refine blk_drewN ?_ _ | refine blk_drew ?_ | refine blk_alloc ?_ _)); exact BK121.out) hb); have n1_ := Aside0.mk (below_step (by repeat (first | (with_reducible first | exact HB.out | apply below_alloc | apply pw_below_drewN | apply below_drew1 | refine below_set ?_ GE121.out) | exact HB.out)) hb); clear BK121; clear HB; have BK121 := n0_; have HB := n1_; clear n0_ n1_; (try clear hb); (try clear hb2); (try clear hk); (try clear hi); have hcz26_0 : w25.cell? ⟨gb121, 0, none⟩ = some (.bool ((rd_T40 l0 x9_1).f0)) := (blk_cell BK121.out 0).trans rfl; have hcz26_1 : w25.cell? ⟨gb121, 1, none⟩ = some (.int .i64 ((rd_T40 l0 x9_1).f1)) := (blk_cell BK121.out 1).trans rfl; have hcz26_2 : w25.cell? ⟨gb121, 2, none⟩ = some (.int .u32 ((rd_T40 l0 x9_1).f2.f0)) := (blk_cell BK121.out 2).trans rfl; have hcz26_3 : w25.cell? ⟨gb121, 3, none⟩ = some (.int .i64 ((rd_T40 l0 x9_1).f2.f1)) := (blk_cell BK121.out 3).trans rfl; have hcz26_4 : w25.cell? ⟨gb121, 4, none⟩ = some (.int .i64 ((rd_T40 l0 x9_1).f3)) := (blk_cell BK121.out 4).trans rfl; have hcz26_5 : w25.cell? ⟨gb121, 5, none⟩ = some (.int .i64 ((rd_T40 l0 x9_1).f4)) := (blk_cell BK121.out 5).trans rfl; have hfz26_0 := blk_frozen BK121.out 0; have hfz26_1 := blk_frozen BK121.out 1; have hfz26_2 := blk_frozen BK121.out 2; have hfz26_3 := blk_frozen BK121.out 3; have hfz26_4 := blk_frozen BK121.out 4; have hfz26_5 := blk_frozen BK121.out 5))
                  go_roundg k1
                  case measure => have := HK1.out; omega
                  case rel => exact ⟨(wrap64 (x9_1 + 1)), (by first | rfl | (simp; done) | (simp [*]; done)), H', ⟨by have := HK1.out; omega⟩, ⟨by repeat (first | (with_reducible first | exact HB.out | apply below_alloc | apply pw_below_drewN | apply below_drew1 | refine below_set ?_ GE121.out) | exact HB.out)⟩⟩
              · replace c12 := Bool.eq_false_iff.mpr c12
                subst c12
                have H1 : (vizardref18_Allow.l0 k1 l0 a1 a2 a3 (wrap64 (x9_1 + 1))) = some r := by rw [if_neg (show ¬ (false = true) by decide)] at H; exact H
                clear H
                have H := H1
                clear H1
                have H' := Aside0.mk H
                clear H
                have p120 : 0 ≤ (x9_1 : Int) := of_decide_eq_true (by first | (with_reducible assumption) | assumption)
                have q120 : x9_1 < (l0.length : Int) := of_decide_eq_true (by first | (with_reducible assumption) | assumption)
                obtain ⟨ad120, e120, hx120_0, hx120_1, hx120_2, hx120_3, hx120_4, hx120_5⟩ := at_T40 HR0.out x9_1 p120 q120
                cases e120
                try replace hx120_0 := (HB.out.cell (World.block_lt_of_cell? w _ hx120_0)).trans hx120_0
                try replace hx120_1 := (HB.out.cell (World.block_lt_of_cell? w _ hx120_1)).trans hx120_1
                try replace hx120_2 := (HB.out.cell (World.block_lt_of_cell? w _ hx120_2)).trans hx120_2
                try replace hx120_3 := (HB.out.cell (World.block_lt_of_cell? w _ hx120_3)).trans hx120_3
                try replace hx120_4 := (HB.out.cell (World.block_lt_of_cell? w _ hx120_4)).trans hx120_4
                try replace hx120_5 := (HB.out.cell (World.block_lt_of_cell? w _ hx120_5)).trans hx120_5
                replace p120 := eq_true p120
                replace q120 := eq_true q120
                go_wp2_with (first | ((with_reducible refine gate_dst (N := 10) rfl ?_); refine box_event ?hg (N := 10) ?hd (cs := #[.bool false, .int .i64 0, .int .u32 0, .int .i64 0, .int .i64 0, .int .i64 0]) (t := 40) ?hr ?_; (case hd => rfl); (case hg => rfl); (case hr => first | (go_simp; done) | (go_simp; rfl)); intro gb121 hg w27 hbox hb; have n0_ := Aside0.mk (below_step (by repeat (first | (with_reducible first | exact HB.out | apply below_alloc | apply pw_below_drewN | apply below_drew1) | exact HB.out)) hb); have n1_ := Aside0.mk (hbox); have n2_ := Aside0.mk ((by rw [hg]; exact (below_size (by repeat (first | (with_reducible first | exact HB.out | apply below_alloc | apply pw_below_drewN | apply below_drew1) | exact HB.out))) : w.heap.size ≤ gb121)); have n3_ := Aside0.mk ((by rw [hg]; exact (below_size (by repeat (first | (with_reducible first | exact HB.out | apply below_alloc | apply pw_below_drewN | apply below_drew1) | exact HB.out))) : w.heap.size ≤ gb121)); clear HB; have HB := n0_; have BK121 := n1_; have GW121 := n2_; have GE121 := n3_; clear n0_ n1_ n2_ n3_; clear hb hbox hg; have hcz28_0 : w27.cell? ⟨gb121, 0, none⟩ = some (.bool false) := (blk_cell BK121.out 0).trans rfl; have hcz28_1 : w27.cell? ⟨gb121, 1, none⟩ = some (.int .i64 0) := (blk_cell BK121.out 1).trans rfl; have hcz28_2 : w27.cell? ⟨gb121, 2, none⟩ = some (.int .u32 0) := (blk_cell BK121.out 2).trans rfl; have hcz28_3 : w27.cell? ⟨gb121, 3, none⟩ = some (.int .i64 0) := (blk_cell BK121.out 3).trans rfl; have hcz28_4 : w27.cell? ⟨gb121, 4, none⟩ = some (.int .i64 0) := (blk_cell BK121.out 4).trans rfl; have hcz28_5 : w27.cell? ⟨gb121, 5, none⟩ = some (.int .i64 0) := (blk_cell BK121.out 5).trans rfl; have hfz28_0 := blk_frozen BK121.out 0; have hfz28_1 := blk_frozen BK121.out 1; have hfz28_2 := blk_frozen BK121.out 2; have hfz28_3 := blk_frozen BK121.out 3; have hfz28_4 := blk_frozen BK121.out 4; have hfz28_5 := blk_frozen BK121.out 5) | (go_at_call 40; (with_reducible refine (vizardref04_Has.calls ((rd_T40 l0 x9_1).f2.f0) ((rd_T40 l0 x9_1).f2.f1) a2 false _ A11.out).mono ?_); rintro e w29 ⟨rfl, hb⟩; have n0_ := Aside0.mk (blk_below (g := gb121) (o := .cells #[.bool ((rd_T40 l0 x9_1).f0), .int .i64 ((rd_T40 l0 x9_1).f1), .int .u32 ((rd_T40 l0 x9_1).f2.f0), .int .i64 ((rd_T40 l0 x9_1).f2.f1), .int .i64 ((rd_T40 l0 x9_1).f3), .int .i64 ((rd_T40 l0 x9_1).f4)] 40 (0, 0)) (by (with_reducible repeat (first | refine blk_drewN ?_ _ | refine blk_drew ?_ | refine blk_alloc ?_ _)); refine blk_put (cs := #[.bool ((rd_T40 l0 x9_1).f0), .int .i64 ((rd_T40 l0 x9_1).f1), .int .u32 ((rd_T40 l0 x9_1).f2.f0), .int .i64 ((rd_T40 l0 x9_1).f2.f1), .int .i64 ((rd_T40 l0 x9_1).f3), .int .i64 0]) ?_ 5 _ rfl; (with_reducible repeat (first | refine blk_drewN ?_ _ | refine blk_drew ?_ | refine blk_alloc ?_ _)); refine blk_put (cs := #[.bool ((rd_T40 l0 x9_1).f0), .int .i64 ((rd_T40 l0 x9_1).f1), .int .u32 ((rd_T40 l0 x9_1).f2.f0), .int .i64 ((rd_T40 l0 x9_1).f2.f1), .int .i64 0, .int .i64 0]) ?_ 4 _ rfl; (with_reducible repeat (first | refine blk_drewN ?_ _ | refine blk_drew ?_ | refine blk_alloc ?_ _)); refine blk_put (cs := #[.bool ((rd_T40 l0 x9_1).f0), .int .i64 ((rd_T40 l0 x9_1).f1), .int .u32 ((rd_T40 l0 x9_1).f2.f0), .int .i64 0, .int .i64 0, .int .i64 0]) ?_ 3 _ rfl; (with_reducible repeat (first | refine blk_drewN ?_ _ | refine blk_drew ?_ | refine blk_alloc ?_ _)); refine blk_put (cs := #[.bool ((rd_T40 l0 x9_1).f0), .int .i64 ((rd_T40 l0 x9_1).f1), .int .u32 0, .int .i64 0, .int .i64 0, .int .i64 0]) ?_ 2 _ rfl; (with_reducible repeat (first | refine blk_drewN ?_ _ | refine blk_drew ?_ | refine blk_alloc ?_ _)); refine blk_put (cs := #[.bool ((rd_T40 l0 x9_1).f0), .int .i64 0, .int .u32 0, .int .i64 0, .int .i64 0, .int .i64 0]) ?_ 1 _ rfl; (with_reducible repeat (first | refine blk_drewN ?_ _ | refine blk_drew ?_ | refine blk_alloc ?_ _)); refine blk_put (cs := #[.bool false, .int .i64 0, .int .u32 0, .int .i64 0, .int .i64 0, .int .i64 0]) ?_ 0 _ rfl; (with_reducible repeat (first | refine blk_drewN ?_ _ | refine blk_drew ?_ | refine blk_alloc ?_ _)); exact BK121.out) hb); have n1_ := Aside0.mk (below_step (by repeat (first | (with_reducible first | exact HB.out | apply below_alloc | apply pw_below_drewN | apply below_drew1 | refine below_set ?_ GE121.out) | exact HB.out)) hb); clear BK121; clear HB; have BK121 := n0_; have HB := n1_; clear n0_ n1_; (try clear hb); (try clear hb2); (try clear hk); (try clear hi)))
                go_roundg k1
                case measure => have := HK1.out; omega
                case rel => exact ⟨(wrap64 (x9_1 + 1)), (by first | rfl | (simp; done) | (simp [*]; done)), H', ⟨by have := HK1.out; omega⟩, ⟨by repeat (first | (with_reducible first | exact HB.out | apply below_alloc | apply pw_below_drewN | apply below_drew1 | refine below_set ?_ GE121.out) | exact HB.out)⟩⟩
            · rw [if_neg c10] at H
              have c10b0 : (((rd_T40 l0 x9_1).f1) == 0) = false := beq_eq_false_iff_ne.mpr c10
              have c10b1 : (((rd_T40 l0 x9_1).f1) != 0) = true := bne_iff_ne.mpr c10
              by_cases c30 : ((rd_T40 l0 x9_1).f1) = a1
              · rw [if_pos c30] at H
                have c30b0 : (((rd_T40 l0 x9_1).f1) == a1) = true := beq_iff_eq.mpr c30
                have c30b1 : (((rd_T40 l0 x9_1).f1) != a1) = false := bne_eq_false_iff_eq.mpr c30
                clear c30
                replace H := Option.bind_eq_some_iff.mp H
                obtain ⟨t123, A310, H⟩ := H
                replace H : (if t123 = true then (if a3 ≥ ((rd_T40 l0 x9_1).f3) then (if a3 ≤ ((rd_T40 l0 x9_1).f4) then (some ((rd_T40 l0 x9_1).f0)) else (vizardref18_Allow.l0 k1 l0 a1 a2 a3 (wrap64 (x9_1 + 1)))) else (vizardref18_Allow.l0 k1 l0 a1 a2 a3 (wrap64 (x9_1 + 1)))) else (vizardref18_Allow.l0 k1 l0 a1 a2 a3 (wrap64 (x9_1 + 1)))) = some r := H
                have A31 := Aside0.mk A310
                clear A310
                by_cases c32 : t123 = true
                · subst c32
                  have H1 : (if a3 ≥ ((rd_T40 l0 x9_1).f3) then (if a3 ≤ ((rd_T40 l0 x9_1).f4) then (some ((rd_T40 l0 x9_1).f0)) else (vizardref18_Allow.l0 k1 l0 a1 a2 a3 (wrap64 (x9_1 + 1)))) else (vizardref18_Allow.l0 k1 l0 a1 a2 a3 (wrap64 (x9_1 + 1)))) = some r := by rw [if_pos rfl] at H; exact H
                  clear H
                  have H := H1
                  clear H1
                  by_cases c33 : a3 ≥ ((rd_T40 l0 x9_1).f3)
                  · rw [if_pos c33] at H
                    have c33b0 : decide (((rd_T40 l0 x9_1).f3) ≤ a3) = true := decide_eq_true c33
                    clear c33
                    by_cases c34 : a3 ≤ ((rd_T40 l0 x9_1).f4)
                    · rw [if_pos c34] at H
                      have c34b0 : decide (a3 ≤ ((rd_T40 l0 x9_1).f4)) = true := decide_eq_true c34
                      clear c34
                      obtain rfl := Option.some.inj H
                      have p120 : 0 ≤ (x9_1 : Int) := of_decide_eq_true (by first | (with_reducible assumption) | assumption)
                      have q120 : x9_1 < (l0.length : Int) := of_decide_eq_true (by first | (with_reducible assumption) | assumption)
                      obtain ⟨ad120, e120, hx120_0, hx120_1, hx120_2, hx120_3, hx120_4, hx120_5⟩ := at_T40 HR0.out x9_1 p120 q120
                      cases e120
                      try replace hx120_0 := (HB.out.cell (World.block_lt_of_cell? w _ hx120_0)).trans hx120_0
                      try replace hx120_1 := (HB.out.cell (World.block_lt_of_cell? w _ hx120_1)).trans hx120_1
                      try replace hx120_2 := (HB.out.cell (World.block_lt_of_cell? w _ hx120_2)).trans hx120_2
                      try replace hx120_3 := (HB.out.cell (World.block_lt_of_cell? w _ hx120_3)).trans hx120_3
                      try replace hx120_4 := (HB.out.cell (World.block_lt_of_cell? w _ hx120_4)).trans hx120_4
                      try replace hx120_5 := (HB.out.cell (World.block_lt_of_cell? w _ hx120_5)).trans hx120_5
                      replace p120 := eq_true p120
                      replace q120 := eq_true q120
                      go_wp2_with (first | ((with_reducible refine gate_dst (N := 10) rfl ?_); refine box_event ?hg (N := 10) ?hd (cs := #[.bool false, .int .i64 0, .int .u32 0, .int .i64 0, .int .i64 0, .int .i64 0]) (t := 40) ?hr ?_; (case hd => rfl); (case hg => rfl); (case hr => first | (go_simp; done) | (go_simp; rfl)); intro gb121 hg w35 hbox hb; have n0_ := Aside0.mk (below_step (by repeat (first | (with_reducible first | exact HB.out | apply below_alloc | apply pw_below_drewN | apply below_drew1) | exact HB.out)) hb); have n1_ := Aside0.mk (hbox); have n2_ := Aside0.mk ((by rw [hg]; exact (below_size (by repeat (first | (with_reducible first | exact HB.out | apply below_alloc | apply pw_below_drewN | apply below_drew1) | exact HB.out))) : w.heap.size ≤ gb121)); have n3_ := Aside0.mk ((by rw [hg]; exact (below_size (by repeat (first | (with_reducible first | exact HB.out | apply below_alloc | apply pw_below_drewN | apply below_drew1) | exact HB.out))) : w.heap.size ≤ gb121)); clear HB; have HB := n0_; have BK121 := n1_; have GW121 := n2_; have GE121 := n3_; clear n0_ n1_ n2_ n3_; clear hb hbox hg; have hcz36_0 : w35.cell? ⟨gb121, 0, none⟩ = some (.bool false) := (blk_cell BK121.out 0).trans rfl; have hcz36_1 : w35.cell? ⟨gb121, 1, none⟩ = some (.int .i64 0) := (blk_cell BK121.out 1).trans rfl; have hcz36_2 : w35.cell? ⟨gb121, 2, none⟩ = some (.int .u32 0) := (blk_cell BK121.out 2).trans rfl; have hcz36_3 : w35.cell? ⟨gb121, 3, none⟩ = some (.int .i64 0) := (blk_cell BK121.out 3).trans rfl; have hcz36_4 : w35.cell? ⟨gb121, 4, none⟩ = some (.int .i64 0) := (blk_cell BK121.out 4).trans rfl; have hcz36_5 : w35.cell? ⟨gb121, 5, none⟩ = some (.int .i64 0) := (blk_cell BK121.out 5).trans rfl; have hfz36_0 := blk_frozen BK121.out 0; have hfz36_1 := blk_frozen BK121.out 1; have hfz36_2 := blk_frozen BK121.out 2; have hfz36_3 := blk_frozen BK121.out 3; have hfz36_4 := blk_frozen BK121.out 4; have hfz36_5 := blk_frozen BK121.out 5) | (go_at_call 40; (with_reducible refine (vizardref04_Has.calls ((rd_T40 l0 x9_1).f2.f0) ((rd_T40 l0 x9_1).f2.f1) a2 true _ A31.out).mono ?_); rintro e w37 ⟨rfl, hb⟩; have n0_ := Aside0.mk (blk_below (g := gb121) (o := .cells #[.bool ((rd_T40 l0 x9_1).f0), .int .i64 ((rd_T40 l0 x9_1).f1), .int .u32 ((rd_T40 l0 x9_1).f2.f0), .int .i64 ((rd_T40 l0 x9_1).f2.f1), .int .i64 ((rd_T40 l0 x9_1).f3), .int .i64 ((rd_T40 l0 x9_1).f4)] 40 (0, 0)) (by (with_reducible repeat (first | refine blk_drewN ?_ _ | refine blk_drew ?_ | refine blk_alloc ?_ _)); refine blk_put (cs := #[.bool ((rd_T40 l0 x9_1).f0), .int .i64 ((rd_T40 l0 x9_1).f1), .int .u32 ((rd_T40 l0 x9_1).f2.f0), .int .i64 ((rd_T40 l0 x9_1).f2.f1), .int .i64 ((rd_T40 l0 x9_1).f3), .int .i64 0]) ?_ 5 _ rfl; (with_reducible repeat (first | refine blk_drewN ?_ _ | refine blk_drew ?_ | refine blk_alloc ?_ _)); refine blk_put (cs := #[.bool ((rd_T40 l0 x9_1).f0), .int .i64 ((rd_T40 l0 x9_1).f1), .int .u32 ((rd_T40 l0 x9_1).f2.f0), .int .i64 ((rd_T40 l0 x9_1).f2.f1), .int .i64 0, .int .i64 0]) ?_ 4 _ rfl; (with_reducible repeat (first | refine blk_drewN ?_ _ | refine blk_drew ?_ | refine blk_alloc ?_ _)); refine blk_put (cs := #[.bool ((rd_T40 l0 x9_1).f0), .int .i64 ((rd_T40 l0 x9_1).f1), .int .u32 ((rd_T40 l0 x9_1).f2.f0), .int .i64 0, .int .i64 0, .int .i64 0]) ?_ 3 _ rfl; (with_reducible repeat (first | refine blk_drewN ?_ _ | refine blk_drew ?_ | refine blk_alloc ?_ _)); refine blk_put (cs := #[.bool ((rd_T40 l0 x9_1).f0), .int .i64 ((rd_T40 l0 x9_1).f1), .int .u32 0, .int .i64 0, .int .i64 0, .int .i64 0]) ?_ 2 _ rfl; (with_reducible repeat (first | refine blk_drewN ?_ _ | refine blk_drew ?_ | refine blk_alloc ?_ _)); refine blk_put (cs := #[.bool ((rd_T40 l0 x9_1).f0), .int .i64 0, .int .u32 0, .int .i64 0, .int .i64 0, .int .i64 0]) ?_ 1 _ rfl; (with_reducible repeat (first | refine blk_drewN ?_ _ | refine blk_drew ?_ | refine blk_alloc ?_ _)); refine blk_put (cs := #[.bool false, .int .i64 0, .int .u32 0, .int .i64 0, .int .i64 0, .int .i64 0]) ?_ 0 _ rfl; (with_reducible repeat (first | refine blk_drewN ?_ _ | refine blk_drew ?_ | refine blk_alloc ?_ _)); exact BK121.out) hb); have n1_ := Aside0.mk (below_step (by repeat (first | (with_reducible first | exact HB.out | apply below_alloc | apply pw_below_drewN | apply below_drew1 | refine below_set ?_ GE121.out) | exact HB.out)) hb); clear BK121; clear HB; have BK121 := n0_; have HB := n1_; clear n0_ n1_; (try clear hb); (try clear hb2); (try clear hk); (try clear hi); have hcz38_0 : w37.cell? ⟨gb121, 0, none⟩ = some (.bool ((rd_T40 l0 x9_1).f0)) := (blk_cell BK121.out 0).trans rfl; have hcz38_1 : w37.cell? ⟨gb121, 1, none⟩ = some (.int .i64 ((rd_T40 l0 x9_1).f1)) := (blk_cell BK121.out 1).trans rfl; have hcz38_2 : w37.cell? ⟨gb121, 2, none⟩ = some (.int .u32 ((rd_T40 l0 x9_1).f2.f0)) := (blk_cell BK121.out 2).trans rfl; have hcz38_3 : w37.cell? ⟨gb121, 3, none⟩ = some (.int .i64 ((rd_T40 l0 x9_1).f2.f1)) := (blk_cell BK121.out 3).trans rfl; have hcz38_4 : w37.cell? ⟨gb121, 4, none⟩ = some (.int .i64 ((rd_T40 l0 x9_1).f3)) := (blk_cell BK121.out 4).trans rfl; have hcz38_5 : w37.cell? ⟨gb121, 5, none⟩ = some (.int .i64 ((rd_T40 l0 x9_1).f4)) := (blk_cell BK121.out 5).trans rfl; have hfz38_0 := blk_frozen BK121.out 0; have hfz38_1 := blk_frozen BK121.out 1; have hfz38_2 := blk_frozen BK121.out 2; have hfz38_3 := blk_frozen BK121.out 3; have hfz38_4 := blk_frozen BK121.out 4; have hfz38_5 := blk_frozen BK121.out 5))
                      go_ret
                      exact ⟨by first | rfl | (simp [errW_none, errW_some] <;> rfl) | (simp [*, errW_none, errW_some] <;> rfl), by repeat (first | (with_reducible first | exact HB.out | apply below_alloc | apply pw_below_drewN | apply below_drew1 | refine below_set ?_ GE121.out) | exact HB.out)⟩
                    · rw [if_neg c34] at H
                      have c34b0 : decide (a3 ≤ ((rd_T40 l0 x9_1).f4)) = false := decide_eq_false c34
                      clear c34
                      have H' := Aside0.mk H
                      clear H
                      have p120 : 0 ≤ (x9_1 : Int) := of_decide_eq_true (by first | (with_reducible assumption) | assumption)
                      have q120 : x9_1 < (l0.length : Int) := of_decide_eq_true (by first | (with_reducible assumption) | assumption)
                      obtain ⟨ad120, e120, hx120_0, hx120_1, hx120_2, hx120_3, hx120_4, hx120_5⟩ := at_T40 HR0.out x9_1 p120 q120
                      cases e120
                      try replace hx120_0 := (HB.out.cell (World.block_lt_of_cell? w _ hx120_0)).trans hx120_0
                      try replace hx120_1 := (HB.out.cell (World.block_lt_of_cell? w _ hx120_1)).trans hx120_1
                      try replace hx120_2 := (HB.out.cell (World.block_lt_of_cell? w _ hx120_2)).trans hx120_2
                      try replace hx120_3 := (HB.out.cell (World.block_lt_of_cell? w _ hx120_3)).trans hx120_3
                      try replace hx120_4 := (HB.out.cell (World.block_lt_of_cell? w _ hx120_4)).trans hx120_4
                      try replace hx120_5 := (HB.out.cell (World.block_lt_of_cell? w _ hx120_5)).trans hx120_5
                      replace p120 := eq_true p120
                      replace q120 := eq_true q120
                      go_wp2_with (first | ((with_reducible refine gate_dst (N := 10) rfl ?_); refine box_event ?hg (N := 10) ?hd (cs := #[.bool false, .int .i64 0, .int .u32 0, .int .i64 0, .int .i64 0, .int .i64 0]) (t := 40) ?hr ?_; (case hd => rfl); (case hg => rfl); (case hr => first | (go_simp; done) | (go_simp; rfl)); intro gb121 hg w39 hbox hb; have n0_ := Aside0.mk (below_step (by repeat (first | (with_reducible first | exact HB.out | apply below_alloc | apply pw_below_drewN | apply below_drew1) | exact HB.out)) hb); have n1_ := Aside0.mk (hbox); have n2_ := Aside0.mk ((by rw [hg]; exact (below_size (by repeat (first | (with_reducible first | exact HB.out | apply below_alloc | apply pw_below_drewN | apply below_drew1) | exact HB.out))) : w.heap.size ≤ gb121)); have n3_ := Aside0.mk ((by rw [hg]; exact (below_size (by repeat (first | (with_reducible first | exact HB.out | apply below_alloc | apply pw_below_drewN | apply below_drew1) | exact HB.out))) : w.heap.size ≤ gb121)); clear HB; have HB := n0_; have BK121 := n1_; have GW121 := n2_; have GE121 := n3_; clear n0_ n1_ n2_ n3_; clear hb hbox hg; have hcz40_0 : w39.cell? ⟨gb121, 0, none⟩ = some (.bool false) := (blk_cell BK121.out 0).trans rfl; have hcz40_1 : w39.cell? ⟨gb121, 1, none⟩ = some (.int .i64 0) := (blk_cell BK121.out 1).trans rfl; have hcz40_2 : w39.cell? ⟨gb121, 2, none⟩ = some (.int .u32 0) := (blk_cell BK121.out 2).trans rfl; have hcz40_3 : w39.cell? ⟨gb121, 3, none⟩ = some (.int .i64 0) := (blk_cell BK121.out 3).trans rfl; have hcz40_4 : w39.cell? ⟨gb121, 4, none⟩ = some (.int .i64 0) := (blk_cell BK121.out 4).trans rfl; have hcz40_5 : w39.cell? ⟨gb121, 5, none⟩ = some (.int .i64 0) := (blk_cell BK121.out 5).trans rfl; have hfz40_0 := blk_frozen BK121.out 0; have hfz40_1 := blk_frozen BK121.out 1; have hfz40_2 := blk_frozen BK121.out 2; have hfz40_3 := blk_frozen BK121.out 3; have hfz40_4 := blk_frozen BK121.out 4; have hfz40_5 := blk_frozen BK121.out 5) | (go_at_call 40; (with_reducible refine (vizardref04_Has.calls ((rd_T40 l0 x9_1).f2.f0) ((rd_T40 l0 x9_1).f2.f1) a2 true _ A31.out).mono ?_); rintro e w41 ⟨rfl, hb⟩; have n0_ := Aside0.mk (blk_below (g := gb121) (o := .cells #[.bool ((rd_T40 l0 x9_1).f0), .int .i64 ((rd_T40 l0 x9_1).f1), .int .u32 ((rd_T40 l0 x9_1).f2.f0), .int .i64 ((rd_T40 l0 x9_1).f2.f1), .int .i64 ((rd_T40 l0 x9_1).f3), .int .i64 ((rd_T40 l0 x9_1).f4)] 40 (0, 0)) (by (with_reducible repeat (first | refine blk_drewN ?_ _ | refine blk_drew ?_ | refine blk_alloc ?_ _)); refine blk_put (cs := #[.bool ((rd_T40 l0 x9_1).f0), .int .i64 ((rd_T40 l0 x9_1).f1), .int .u32 ((rd_T40 l0 x9_1).f2.f0), .int .i64 ((rd_T40 l0 x9_1).f2.f1), .int .i64 ((rd_T40 l0 x9_1).f3), .int .i64 0]) ?_ 5 _ rfl; (with_reducible repeat (first | refine blk_drewN ?_ _ | refine blk_drew ?_ | refine blk_alloc ?_ _)); refine blk_put (cs := #[.bool ((rd_T40 l0 x9_1).f0), .int .i64 ((rd_T40 l0 x9_1).f1), .int .u32 ((rd_T40 l0 x9_1).f2.f0), .int .i64 ((rd_T40 l0 x9_1).f2.f1), .int .i64 0, .int .i64 0]) ?_ 4 _ rfl; (with_reducible repeat (first | refine blk_drewN ?_ _ | refine blk_drew ?_ | refine blk_alloc ?_ _)); refine blk_put (cs := #[.bool ((rd_T40 l0 x9_1).f0), .int .i64 ((rd_T40 l0 x9_1).f1), .int .u32 ((rd_T40 l0 x9_1).f2.f0), .int .i64 0, .int .i64 0, .int .i64 0]) ?_ 3 _ rfl; (with_reducible repeat (first | refine blk_drewN ?_ _ | refine blk_drew ?_ | refine blk_alloc ?_ _)); refine blk_put (cs := #[.bool ((rd_T40 l0 x9_1).f0), .int .i64 ((rd_T40 l0 x9_1).f1), .int .u32 0, .int .i64 0, .int .i64 0, .int .i64 0]) ?_ 2 _ rfl; (with_reducible repeat (first | refine blk_drewN ?_ _ | refine blk_drew ?_ | refine blk_alloc ?_ _)); refine blk_put (cs := #[.bool ((rd_T40 l0 x9_1).f0), .int .i64 0, .int .u32 0, .int .i64 0, .int .i64 0, .int .i64 0]) ?_ 1 _ rfl; (with_reducible repeat (first | refine blk_drewN ?_ _ | refine blk_drew ?_ | refine blk_alloc ?_ _)); refine blk_put (cs := #[.bool false, .int .i64 0, .int .u32 0, .int .i64 0, .int .i64 0, .int .i64 0]) ?_ 0 _ rfl; (with_reducible repeat (first | refine blk_drewN ?_ _ | refine blk_drew ?_ | refine blk_alloc ?_ _)); exact BK121.out) hb); have n1_ := Aside0.mk (below_step (by repeat (first | (with_reducible first | exact HB.out | apply below_alloc | apply pw_below_drewN | apply below_drew1 | refine below_set ?_ GE121.out) | exact HB.out)) hb); clear BK121; clear HB; have BK121 := n0_; have HB := n1_; clear n0_ n1_; (try clear hb); (try clear hb2); (try clear hk); (try clear hi); have hcz42_0 : w41.cell? ⟨gb121, 0, none⟩ = some (.bool ((rd_T40 l0 x9_1).f0)) := (blk_cell BK121.out 0).trans rfl; have hcz42_1 : w41.cell? ⟨gb121, 1, none⟩ = some (.int .i64 ((rd_T40 l0 x9_1).f1)) := (blk_cell BK121.out 1).trans rfl; have hcz42_2 : w41.cell? ⟨gb121, 2, none⟩ = some (.int .u32 ((rd_T40 l0 x9_1).f2.f0)) := (blk_cell BK121.out 2).trans rfl; have hcz42_3 : w41.cell? ⟨gb121, 3, none⟩ = some (.int .i64 ((rd_T40 l0 x9_1).f2.f1)) := (blk_cell BK121.out 3).trans rfl; have hcz42_4 : w41.cell? ⟨gb121, 4, none⟩ = some (.int .i64 ((rd_T40 l0 x9_1).f3)) := (blk_cell BK121.out 4).trans rfl; have hcz42_5 : w41.cell? ⟨gb121, 5, none⟩ = some (.int .i64 ((rd_T40 l0 x9_1).f4)) := (blk_cell BK121.out 5).trans rfl; have hfz42_0 := blk_frozen BK121.out 0; have hfz42_1 := blk_frozen BK121.out 1; have hfz42_2 := blk_frozen BK121.out 2; have hfz42_3 := blk_frozen BK121.out 3; have hfz42_4 := blk_frozen BK121.out 4; have hfz42_5 := blk_frozen BK121.out 5))
                      go_roundg k1
                      case measure => have := HK1.out; omega
                      case rel => exact ⟨(wrap64 (x9_1 + 1)), (by first | rfl | (simp; done) | (simp [*]; done)), H', ⟨by have := HK1.out; omega⟩, ⟨by repeat (first | (with_reducible first | exact HB.out | apply below_alloc | apply pw_below_drewN | apply below_drew1 | refine below_set ?_ GE121.out) | exact HB.out)⟩⟩
                  · rw [if_neg c33] at H
                    have c33b0 : decide (((rd_T40 l0 x9_1).f3) ≤ a3) = false := decide_eq_false c33
                    clear c33
                    have H' := Aside0.mk H
                    clear H
                    have p120 : 0 ≤ (x9_1 : Int) := of_decide_eq_true (by first | (with_reducible assumption) | assumption)
                    have q120 : x9_1 < (l0.length : Int) := of_decide_eq_true (by first | (with_reducible assumption) | assumption)
                    obtain ⟨ad120, e120, hx120_0, hx120_1, hx120_2, hx120_3, hx120_4, hx120_5⟩ := at_T40 HR0.out x9_1 p120 q120
                    cases e120
                    try replace hx120_0 := (HB.out.cell (World.block_lt_of_cell? w _ hx120_0)).trans hx120_0
                    try replace hx120_1 := (HB.out.cell (World.block_lt_of_cell? w _ hx120_1)).trans hx120_1
                    try replace hx120_2 := (HB.out.cell (World.block_lt_of_cell? w _ hx120_2)).trans hx120_2
                    try replace hx120_3 := (HB.out.cell (World.block_lt_of_cell? w _ hx120_3)).trans hx120_3
                    try replace hx120_4 := (HB.out.cell (World.block_lt_of_cell? w _ hx120_4)).trans hx120_4
                    try replace hx120_5 := (HB.out.cell (World.block_lt_of_cell? w _ hx120_5)).trans hx120_5
                    replace p120 := eq_true p120
                    replace q120 := eq_true q120
                    go_wp2_with (first | ((with_reducible refine gate_dst (N := 10) rfl ?_); refine box_event ?hg (N := 10) ?hd (cs := #[.bool false, .int .i64 0, .int .u32 0, .int .i64 0, .int .i64 0, .int .i64 0]) (t := 40) ?hr ?_; (case hd => rfl); (case hg => rfl); (case hr => first | (go_simp; done) | (go_simp; rfl)); intro gb121 hg w43 hbox hb; have n0_ := Aside0.mk (below_step (by repeat (first | (with_reducible first | exact HB.out | apply below_alloc | apply pw_below_drewN | apply below_drew1) | exact HB.out)) hb); have n1_ := Aside0.mk (hbox); have n2_ := Aside0.mk ((by rw [hg]; exact (below_size (by repeat (first | (with_reducible first | exact HB.out | apply below_alloc | apply pw_below_drewN | apply below_drew1) | exact HB.out))) : w.heap.size ≤ gb121)); have n3_ := Aside0.mk ((by rw [hg]; exact (below_size (by repeat (first | (with_reducible first | exact HB.out | apply below_alloc | apply pw_below_drewN | apply below_drew1) | exact HB.out))) : w.heap.size ≤ gb121)); clear HB; have HB := n0_; have BK121 := n1_; have GW121 := n2_; have GE121 := n3_; clear n0_ n1_ n2_ n3_; clear hb hbox hg; have hcz44_0 : w43.cell? ⟨gb121, 0, none⟩ = some (.bool false) := (blk_cell BK121.out 0).trans rfl; have hcz44_1 : w43.cell? ⟨gb121, 1, none⟩ = some (.int .i64 0) := (blk_cell BK121.out 1).trans rfl; have hcz44_2 : w43.cell? ⟨gb121, 2, none⟩ = some (.int .u32 0) := (blk_cell BK121.out 2).trans rfl; have hcz44_3 : w43.cell? ⟨gb121, 3, none⟩ = some (.int .i64 0) := (blk_cell BK121.out 3).trans rfl; have hcz44_4 : w43.cell? ⟨gb121, 4, none⟩ = some (.int .i64 0) := (blk_cell BK121.out 4).trans rfl; have hcz44_5 : w43.cell? ⟨gb121, 5, none⟩ = some (.int .i64 0) := (blk_cell BK121.out 5).trans rfl; have hfz44_0 := blk_frozen BK121.out 0; have hfz44_1 := blk_frozen BK121.out 1; have hfz44_2 := blk_frozen BK121.out 2; have hfz44_3 := blk_frozen BK121.out 3; have hfz44_4 := blk_frozen BK121.out 4; have hfz44_5 := blk_frozen BK121.out 5) | (go_at_call 40; (with_reducible refine (vizardref04_Has.calls ((rd_T40 l0 x9_1).f2.f0) ((rd_T40 l0 x9_1).f2.f1) a2 true _ A31.out).mono ?_); rintro e w45 ⟨rfl, hb⟩; have n0_ := Aside0.mk (blk_below (g := gb121) (o := .cells #[.bool ((rd_T40 l0 x9_1).f0), .int .i64 ((rd_T40 l0 x9_1).f1), .int .u32 ((rd_T40 l0 x9_1).f2.f0), .int .i64 ((rd_T40 l0 x9_1).f2.f1), .int .i64 ((rd_T40 l0 x9_1).f3), .int .i64 ((rd_T40 l0 x9_1).f4)] 40 (0, 0)) (by (with_reducible repeat (first | refine blk_drewN ?_ _ | refine blk_drew ?_ | refine blk_alloc ?_ _)); refine blk_put (cs := #[.bool ((rd_T40 l0 x9_1).f0), .int .i64 ((rd_T40 l0 x9_1).f1), .int .u32 ((rd_T40 l0 x9_1).f2.f0), .int .i64 ((rd_T40 l0 x9_1).f2.f1), .int .i64 ((rd_T40 l0 x9_1).f3), .int .i64 0]) ?_ 5 _ rfl; (with_reducible repeat (first | refine blk_drewN ?_ _ | refine blk_drew ?_ | refine blk_alloc ?_ _)); refine blk_put (cs := #[.bool ((rd_T40 l0 x9_1).f0), .int .i64 ((rd_T40 l0 x9_1).f1), .int .u32 ((rd_T40 l0 x9_1).f2.f0), .int .i64 ((rd_T40 l0 x9_1).f2.f1), .int .i64 0, .int .i64 0]) ?_ 4 _ rfl; (with_reducible repeat (first | refine blk_drewN ?_ _ | refine blk_drew ?_ | refine blk_alloc ?_ _)); refine blk_put (cs := #[.bool ((rd_T40 l0 x9_1).f0), .int .i64 ((rd_T40 l0 x9_1).f1), .int .u32 ((rd_T40 l0 x9_1).f2.f0), .int .i64 0, .int .i64 0, .int .i64 0]) ?_ 3 _ rfl; (with_reducible repeat (first | refine blk_drewN ?_ _ | refine blk_drew ?_ | refine blk_alloc ?_ _)); refine blk_put (cs := #[.bool ((rd_T40 l0 x9_1).f0), .int .i64 ((rd_T40 l0 x9_1).f1), .int .u32 0, .int .i64 0, .int .i64 0, .int .i64 0]) ?_ 2 _ rfl; (with_reducible repeat (first | refine blk_drewN ?_ _ | refine blk_drew ?_ | refine blk_alloc ?_ _)); refine blk_put (cs := #[.bool ((rd_T40 l0 x9_1).f0), .int .i64 0, .int .u32 0, .int .i64 0, .int .i64 0, .int .i64 0]) ?_ 1 _ rfl; (with_reducible repeat (first | refine blk_drewN ?_ _ | refine blk_drew ?_ | refine blk_alloc ?_ _)); refine blk_put (cs := #[.bool false, .int .i64 0, .int .u32 0, .int .i64 0, .int .i64 0, .int .i64 0]) ?_ 0 _ rfl; (with_reducible repeat (first | refine blk_drewN ?_ _ | refine blk_drew ?_ | refine blk_alloc ?_ _)); exact BK121.out) hb); have n1_ := Aside0.mk (below_step (by repeat (first | (with_reducible first | exact HB.out | apply below_alloc | apply pw_below_drewN | apply below_drew1 | refine below_set ?_ GE121.out) | exact HB.out)) hb); clear BK121; clear HB; have BK121 := n0_; have HB := n1_; clear n0_ n1_; (try clear hb); (try clear hb2); (try clear hk); (try clear hi); have hcz46_0 : w45.cell? ⟨gb121, 0, none⟩ = some (.bool ((rd_T40 l0 x9_1).f0)) := (blk_cell BK121.out 0).trans rfl; have hcz46_1 : w45.cell? ⟨gb121, 1, none⟩ = some (.int .i64 ((rd_T40 l0 x9_1).f1)) := (blk_cell BK121.out 1).trans rfl; have hcz46_2 : w45.cell? ⟨gb121, 2, none⟩ = some (.int .u32 ((rd_T40 l0 x9_1).f2.f0)) := (blk_cell BK121.out 2).trans rfl; have hcz46_3 : w45.cell? ⟨gb121, 3, none⟩ = some (.int .i64 ((rd_T40 l0 x9_1).f2.f1)) := (blk_cell BK121.out 3).trans rfl; have hcz46_4 : w45.cell? ⟨gb121, 4, none⟩ = some (.int .i64 ((rd_T40 l0 x9_1).f3)) := (blk_cell BK121.out 4).trans rfl; have hcz46_5 : w45.cell? ⟨gb121, 5, none⟩ = some (.int .i64 ((rd_T40 l0 x9_1).f4)) := (blk_cell BK121.out 5).trans rfl; have hfz46_0 := blk_frozen BK121.out 0; have hfz46_1 := blk_frozen BK121.out 1; have hfz46_2 := blk_frozen BK121.out 2; have hfz46_3 := blk_frozen BK121.out 3; have hfz46_4 := blk_frozen BK121.out 4; have hfz46_5 := blk_frozen BK121.out 5))
                    go_roundg k1
                    case measure => have := HK1.out; omega
                    case rel => exact ⟨(wrap64 (x9_1 + 1)), (by first | rfl | (simp; done) | (simp [*]; done)), H', ⟨by have := HK1.out; omega⟩, ⟨by repeat (first | (with_reducible first | exact HB.out | apply below_alloc | apply pw_below_drewN | apply below_drew1 | refine below_set ?_ GE121.out) | exact HB.out)⟩⟩
                · replace c32 := Bool.eq_false_iff.mpr c32
                  subst c32
                  have H1 : (vizardref18_Allow.l0 k1 l0 a1 a2 a3 (wrap64 (x9_1 + 1))) = some r := by rw [if_neg (show ¬ (false = true) by decide)] at H; exact H
                  clear H
                  have H := H1
                  clear H1
                  have H' := Aside0.mk H
                  clear H
                  have p120 : 0 ≤ (x9_1 : Int) := of_decide_eq_true (by first | (with_reducible assumption) | assumption)
                  have q120 : x9_1 < (l0.length : Int) := of_decide_eq_true (by first | (with_reducible assumption) | assumption)
                  obtain ⟨ad120, e120, hx120_0, hx120_1, hx120_2, hx120_3, hx120_4, hx120_5⟩ := at_T40 HR0.out x9_1 p120 q120
                  cases e120
                  try replace hx120_0 := (HB.out.cell (World.block_lt_of_cell? w _ hx120_0)).trans hx120_0
                  try replace hx120_1 := (HB.out.cell (World.block_lt_of_cell? w _ hx120_1)).trans hx120_1
                  try replace hx120_2 := (HB.out.cell (World.block_lt_of_cell? w _ hx120_2)).trans hx120_2
                  try replace hx120_3 := (HB.out.cell (World.block_lt_of_cell? w _ hx120_3)).trans hx120_3
                  try replace hx120_4 := (HB.out.cell (World.block_lt_of_cell? w _ hx120_4)).trans hx120_4
                  try replace hx120_5 := (HB.out.cell (World.block_lt_of_cell? w _ hx120_5)).trans hx120_5
                  replace p120 := eq_true p120
                  replace q120 := eq_true q120
                  go_wp2_with (first | ((with_reducible refine gate_dst (N := 10) rfl ?_); refine box_event ?hg (N := 10) ?hd (cs := #[.bool false, .int .i64 0, .int .u32 0, .int .i64 0, .int .i64 0, .int .i64 0]) (t := 40) ?hr ?_; (case hd => rfl); (case hg => rfl); (case hr => first | (go_simp; done) | (go_simp; rfl)); intro gb121 hg w47 hbox hb; have n0_ := Aside0.mk (below_step (by repeat (first | (with_reducible first | exact HB.out | apply below_alloc | apply pw_below_drewN | apply below_drew1) | exact HB.out)) hb); have n1_ := Aside0.mk (hbox); have n2_ := Aside0.mk ((by rw [hg]; exact (below_size (by repeat (first | (with_reducible first | exact HB.out | apply below_alloc | apply pw_below_drewN | apply below_drew1) | exact HB.out))) : w.heap.size ≤ gb121)); have n3_ := Aside0.mk ((by rw [hg]; exact (below_size (by repeat (first | (with_reducible first | exact HB.out | apply below_alloc | apply pw_below_drewN | apply below_drew1) | exact HB.out))) : w.heap.size ≤ gb121)); clear HB; have HB := n0_; have BK121 := n1_; have GW121 := n2_; have GE121 := n3_; clear n0_ n1_ n2_ n3_; clear hb hbox hg; have hcz48_0 : w47.cell? ⟨gb121, 0, none⟩ = some (.bool false) := (blk_cell BK121.out 0).trans rfl; have hcz48_1 : w47.cell? ⟨gb121, 1, none⟩ = some (.int .i64 0) := (blk_cell BK121.out 1).trans rfl; have hcz48_2 : w47.cell? ⟨gb121, 2, none⟩ = some (.int .u32 0) := (blk_cell BK121.out 2).trans rfl; have hcz48_3 : w47.cell? ⟨gb121, 3, none⟩ = some (.int .i64 0) := (blk_cell BK121.out 3).trans rfl; have hcz48_4 : w47.cell? ⟨gb121, 4, none⟩ = some (.int .i64 0) := (blk_cell BK121.out 4).trans rfl; have hcz48_5 : w47.cell? ⟨gb121, 5, none⟩ = some (.int .i64 0) := (blk_cell BK121.out 5).trans rfl; have hfz48_0 := blk_frozen BK121.out 0; have hfz48_1 := blk_frozen BK121.out 1; have hfz48_2 := blk_frozen BK121.out 2; have hfz48_3 := blk_frozen BK121.out 3; have hfz48_4 := blk_frozen BK121.out 4; have hfz48_5 := blk_frozen BK121.out 5) | (go_at_call 40; (with_reducible refine (vizardref04_Has.calls ((rd_T40 l0 x9_1).f2.f0) ((rd_T40 l0 x9_1).f2.f1) a2 false _ A31.out).mono ?_); rintro e w49 ⟨rfl, hb⟩; have n0_ := Aside0.mk (blk_below (g := gb121) (o := .cells #[.bool ((rd_T40 l0 x9_1).f0), .int .i64 ((rd_T40 l0 x9_1).f1), .int .u32 ((rd_T40 l0 x9_1).f2.f0), .int .i64 ((rd_T40 l0 x9_1).f2.f1), .int .i64 ((rd_T40 l0 x9_1).f3), .int .i64 ((rd_T40 l0 x9_1).f4)] 40 (0, 0)) (by (with_reducible repeat (first | refine blk_drewN ?_ _ | refine blk_drew ?_ | refine blk_alloc ?_ _)); refine blk_put (cs := #[.bool ((rd_T40 l0 x9_1).f0), .int .i64 ((rd_T40 l0 x9_1).f1), .int .u32 ((rd_T40 l0 x9_1).f2.f0), .int .i64 ((rd_T40 l0 x9_1).f2.f1), .int .i64 ((rd_T40 l0 x9_1).f3), .int .i64 0]) ?_ 5 _ rfl; (with_reducible repeat (first | refine blk_drewN ?_ _ | refine blk_drew ?_ | refine blk_alloc ?_ _)); refine blk_put (cs := #[.bool ((rd_T40 l0 x9_1).f0), .int .i64 ((rd_T40 l0 x9_1).f1), .int .u32 ((rd_T40 l0 x9_1).f2.f0), .int .i64 ((rd_T40 l0 x9_1).f2.f1), .int .i64 0, .int .i64 0]) ?_ 4 _ rfl; (with_reducible repeat (first | refine blk_drewN ?_ _ | refine blk_drew ?_ | refine blk_alloc ?_ _)); refine blk_put (cs := #[.bool ((rd_T40 l0 x9_1).f0), .int .i64 ((rd_T40 l0 x9_1).f1), .int .u32 ((rd_T40 l0 x9_1).f2.f0), .int .i64 0, .int .i64 0, .int .i64 0]) ?_ 3 _ rfl; (with_reducible repeat (first | refine blk_drewN ?_ _ | refine blk_drew ?_ | refine blk_alloc ?_ _)); refine blk_put (cs := #[.bool ((rd_T40 l0 x9_1).f0), .int .i64 ((rd_T40 l0 x9_1).f1), .int .u32 0, .int .i64 0, .int .i64 0, .int .i64 0]) ?_ 2 _ rfl; (with_reducible repeat (first | refine blk_drewN ?_ _ | refine blk_drew ?_ | refine blk_alloc ?_ _)); refine blk_put (cs := #[.bool ((rd_T40 l0 x9_1).f0), .int .i64 0, .int .u32 0, .int .i64 0, .int .i64 0, .int .i64 0]) ?_ 1 _ rfl; (with_reducible repeat (first | refine blk_drewN ?_ _ | refine blk_drew ?_ | refine blk_alloc ?_ _)); refine blk_put (cs := #[.bool false, .int .i64 0, .int .u32 0, .int .i64 0, .int .i64 0, .int .i64 0]) ?_ 0 _ rfl; (with_reducible repeat (first | refine blk_drewN ?_ _ | refine blk_drew ?_ | refine blk_alloc ?_ _)); exact BK121.out) hb); have n1_ := Aside0.mk (below_step (by repeat (first | (with_reducible first | exact HB.out | apply below_alloc | apply pw_below_drewN | apply below_drew1 | refine below_set ?_ GE121.out) | exact HB.out)) hb); clear BK121; clear HB; have BK121 := n0_; have HB := n1_; clear n0_ n1_; (try clear hb); (try clear hb2); (try clear hk); (try clear hi)))
                  go_roundg k1
                  case measure => have := HK1.out; omega
                  case rel => exact ⟨(wrap64 (x9_1 + 1)), (by first | rfl | (simp; done) | (simp [*]; done)), H', ⟨by have := HK1.out; omega⟩, ⟨by repeat (first | (with_reducible first | exact HB.out | apply below_alloc | apply pw_below_drewN | apply below_drew1 | refine below_set ?_ GE121.out) | exact HB.out)⟩⟩
              · rw [if_neg c30] at H
                have c30b0 : (((rd_T40 l0 x9_1).f1) == a1) = false := beq_eq_false_iff_ne.mpr c30
                have c30b1 : (((rd_T40 l0 x9_1).f1) != a1) = true := bne_iff_ne.mpr c30
                have H' := Aside0.mk H
                clear H
                have p120 : 0 ≤ (x9_1 : Int) := of_decide_eq_true (by first | (with_reducible assumption) | assumption)
                have q120 : x9_1 < (l0.length : Int) := of_decide_eq_true (by first | (with_reducible assumption) | assumption)
                obtain ⟨ad120, e120, hx120_0, hx120_1, hx120_2, hx120_3, hx120_4, hx120_5⟩ := at_T40 HR0.out x9_1 p120 q120
                cases e120
                try replace hx120_0 := (HB.out.cell (World.block_lt_of_cell? w _ hx120_0)).trans hx120_0
                try replace hx120_1 := (HB.out.cell (World.block_lt_of_cell? w _ hx120_1)).trans hx120_1
                try replace hx120_2 := (HB.out.cell (World.block_lt_of_cell? w _ hx120_2)).trans hx120_2
                try replace hx120_3 := (HB.out.cell (World.block_lt_of_cell? w _ hx120_3)).trans hx120_3
                try replace hx120_4 := (HB.out.cell (World.block_lt_of_cell? w _ hx120_4)).trans hx120_4
                try replace hx120_5 := (HB.out.cell (World.block_lt_of_cell? w _ hx120_5)).trans hx120_5
                replace p120 := eq_true p120
                replace q120 := eq_true q120
                go_wp2_with (first | ((with_reducible refine gate_dst (N := 10) rfl ?_); refine box_event ?hg (N := 10) ?hd (cs := #[.bool false, .int .i64 0, .int .u32 0, .int .i64 0, .int .i64 0, .int .i64 0]) (t := 40) ?hr ?_; (case hd => rfl); (case hg => rfl); (case hr => first | (go_simp; done) | (go_simp; rfl)); intro gb121 hg w50 hbox hb; have n0_ := Aside0.mk (below_step (by repeat (first | (with_reducible first | exact HB.out | apply below_alloc | apply pw_below_drewN | apply below_drew1) | exact HB.out)) hb); have n1_ := Aside0.mk (hbox); have n2_ := Aside0.mk ((by rw [hg]; exact (below_size (by repeat (first | (with_reducible first | exact HB.out | apply below_alloc | apply pw_below_drewN | apply below_drew1) | exact HB.out))) : w.heap.size ≤ gb121)); have n3_ := Aside0.mk ((by rw [hg]; exact (below_size (by repeat (first | (with_reducible first | exact HB.out | apply below_alloc | apply pw_below_drewN | apply below_drew1) | exact HB.out))) : w.heap.size ≤ gb121)); clear HB; have HB := n0_; have BK121 := n1_; have GW121 := n2_; have GE121 := n3_; clear n0_ n1_ n2_ n3_; clear hb hbox hg; have hcz51_0 : w50.cell? ⟨gb121, 0, none⟩ = some (.bool false) := (blk_cell BK121.out 0).trans rfl; have hcz51_1 : w50.cell? ⟨gb121, 1, none⟩ = some (.int .i64 0) := (blk_cell BK121.out 1).trans rfl; have hcz51_2 : w50.cell? ⟨gb121, 2, none⟩ = some (.int .u32 0) := (blk_cell BK121.out 2).trans rfl; have hcz51_3 : w50.cell? ⟨gb121, 3, none⟩ = some (.int .i64 0) := (blk_cell BK121.out 3).trans rfl; have hcz51_4 : w50.cell? ⟨gb121, 4, none⟩ = some (.int .i64 0) := (blk_cell BK121.out 4).trans rfl; have hcz51_5 : w50.cell? ⟨gb121, 5, none⟩ = some (.int .i64 0) := (blk_cell BK121.out 5).trans rfl; have hfz51_0 := blk_frozen BK121.out 0; have hfz51_1 := blk_frozen BK121.out 1; have hfz51_2 := blk_frozen BK121.out 2; have hfz51_3 := blk_frozen BK121.out 3; have hfz51_4 := blk_frozen BK121.out 4; have hfz51_5 := blk_frozen BK121.out 5))
                go_roundg k1
                case measure => have := HK1.out; omega
                case rel => exact ⟨(wrap64 (x9_1 + 1)), (by first | rfl | (simp; done) | (simp [*]; done)), H', ⟨by have := HK1.out; omega⟩, ⟨by repeat (first | (with_reducible first | exact HB.out | apply below_alloc | apply pw_below_drewN | apply below_drew1 | refine below_set ?_ GE121.out) | exact HB.out)⟩⟩
          · rw [if_neg c9] at H
            exact absurd H (by simp)
        · rw [if_neg c8] at H
          have c8b0 : decide (x9_1 < (l0.length : Int)) = false := decide_eq_false c8
          clear c8
          obtain rfl := Option.some.inj H
          go_wp2
          go_ret
          exact ⟨by first | rfl | (simp [errW_none, errW_some] <;> rfl) | (simp [*, errW_none, errW_some] <;> rfl), by repeat (first | (with_reducible first | exact HB.out | apply below_alloc | apply pw_below_drewN | apply below_drew1) | exact HB.out)⟩
  · rw [if_neg c6] at H
    have c6b0 : (t119 == 0) = false := beq_eq_false_iff_ne.mpr c6
    have c6b1 : (t119 != 0) = true := bne_iff_ne.mpr c6
    obtain rfl := Option.some.inj H
    go_enter Try.func24, Try.ntmps24
    go_wp2_with (first | ((with_reducible refine gate_callee (f := 31) rfl ?_); refine goesL_ (some 12) rfl rfl Try.func31 (by kernel_rfl) rfl #[.slice A0 l0.length c0] rfl (by (try simp only [List.map_toArray, List.map_cons, List.map_nil]); first | done | rfl | (simp only [List.length_drop, List.length_take]; rfl)) ?_; (with_reducible refine (vizardref18_Check.calls k _ _ l0 t119 _ ?side1 ?side2 A5.out).mono ?_); (case side1 => repeat (first | exact HR0.out | (with_reducible refine Kd.C_alloc ?_ _) | (with_reducible refine Kd.C_drewN ?_ _) | (with_reducible refine Kd.C_drew ?_))); (case side2 => exact HC0.out); rintro e w52 ⟨rfl, hb⟩; refine ⟨_, rfl, ?_⟩; have n0_ := Aside0.mk (below_step (by repeat (first | (with_reducible first | exact HB.out | apply below_alloc | apply pw_below_drewN | apply below_drew1) | exact HB.out)) hb); clear HB; have HB := n0_; clear n0_; (try clear hb); (try clear hb2); (try clear hk); (try clear hi)))
    go_ret
    exact ⟨by first | rfl | (simp [errW_none, errW_some] <;> rfl) | (simp [*, errW_none, errW_some] <;> rfl), by repeat (first | (with_reducible first | exact HB.out | apply below_alloc | apply pw_below_drewN | apply below_drew1) | exact HB.out)⟩
end Go.Proofs.Ytcpneggifmldoaa.T
namespace Go.Proofs.Ytcpneggifmldoaa.T
open Go.RowKit Go.Proofs.YtcpneggifmldoaaW.PrintWords Go.Proofs.YtcpneggifmldoaaW.PrintLast Go.Proofs.YtcpneggifmldoaaW.PrintMore
theorem port_f (x : Int) : vizardref18_port.f x = some (decide (0 ≤ x ∧ x ≤ 65535)) := by
  unfold vizardref18_port.f
  by_cases h : 0 ≤ x <;> simp [h]
theorem refchk_loop (l : List S40) (hw : ∀ z ∈ l, AdrR z) (hl : l.length ≤ 4611686018427387904) (d : Nat) : ∀ (k : Nat) (i : Int), d < k → 0 ≤ i → (l.length : Int) - i = d →
    vizardref18_Check.l0 k l i = some (if ∀ z ∈ l.drop i.toNat, rightR z then 0 else 2) := by
  induction d with
  | zero =>
    intro k i hk h0 hd
    obtain ⟨k, rfl⟩ : ∃ m, k = m + 1 := ⟨k - 1, by omega⟩
    simp only [vizardref18_Check.l0]
    rw [if_neg (by omega), List.drop_of_length_le (by omega), if_pos (by simp)]
  | succ d ih =>
    intro k i hk h0 hd
    obtain ⟨k, rfl⟩ : ∃ m, k = m + 1 := ⟨k - 1, by omega⟩
    obtain ⟨h', hr, hdr⟩ := get_rd (l := l) h0 (by omega)
    have e : wrap64 (i + 1) = i + 1 := by unfold wrap64; omega
    have hz := hw _ (List.getElem_mem h')
    simp only [vizardref18_Check.l0]
    rw [if_pos (by omega), if_pos h0, e, hr, refcheck_f hz.1 hz.2, port_f, port_f, ih k (i + 1) (by omega) (by omega) (by omega), hdr]
    generalize l[i.toNat] = z at *
    simp only [Option.bind_some, decide_eq_true_eq, List.forall_mem_cons]
    unfold rightR
    by_cases h1 : z.f1 < 0
    · rw [if_pos h1, if_neg (fun h => by have := h.1.1; omega)]
    rw [if_neg h1]
    by_cases h2 : z.f1 > 255
    · rw [if_pos h2, if_neg (fun h => by have := h.1.2.1; omega)]
    rw [if_neg h2]
    by_cases h3 : okP z.f2.f0 z.f2.f1
    · rw [if_pos h3]
      by_cases h4 : 0 ≤ z.f3 ∧ z.f3 ≤ 65535
      · rw [if_pos h4]
        by_cases h5 : 0 ≤ z.f4 ∧ z.f4 ≤ 65535
        · rw [if_pos h5]
          by_cases h6 : z.f3 > z.f4
          · rw [if_pos h6, if_neg (fun h => by have := h.1.2.2.2.2.1; omega)]
          · rw [if_neg h6]
            have hh : 0 ≤ z.f1 ∧ z.f1 ≤ 255 ∧ okP z.f2.f0 z.f2.f1 ∧ 0 ≤ z.f3 ∧ z.f3 ≤ z.f4 ∧ z.f4 ≤ 65535 := ⟨by omega, by omega, h3, h4.1, by omega, h5.2⟩
            simp only [hh, true_and]
            simp
        · rw [if_neg h5, if_neg (fun h => h5 ⟨by have := h.1.2.2.2; omega, h.1.2.2.2.2.2⟩)]
      · rw [if_neg h4, if_neg (fun h => h4 ⟨h.1.2.2.2.1, by have := h.1.2.2.2; omega⟩)]
    · rw [if_neg h3, if_neg (fun h => h3 h.1.2.2.1)]
theorem refchk_f (l : List S40) (hw : ∀ z ∈ l, AdrR z) (hl : l.length ≤ 4611686018427387904) : Ev (fun k => vizardref18_Check.f k l) (checkS l) := by
  refine ⟨l.length + 1, fun k hk => ?_⟩
  unfold vizardref18_Check.f checkS
  dsimp only
  by_cases h : l.length > 32
  · rw [if_pos (show (l.length : Int) > 32 by omega), if_pos h]
  · rw [if_neg (show ¬ (l.length : Int) > 32 by omega), if_neg h, refchk_loop l hw hl l.length k 0 (by omega) (by omega) (by omega)]
    simp
theorem refallow_ev (l : List S40) (hw : ∀ z ∈ l, AdrR z) (hl : l.length ≤ 4611686018427387904) (p a port : Int) (ha : 0 ≤ a) (ha2 : a < 4294967296) (d : Nat) : ∀ (k : Nat) (i : Int), d < k → 0 ≤ i → (l.length : Int) - i = d →
    vizardref18_Allow.l0 k l p a port i = some (allowS (l.drop i.toNat) p a port) := by
  induction d with
  | zero =>
    intro k i hk h0 hd
    obtain ⟨k, rfl⟩ : ∃ m, k = m + 1 := ⟨k - 1, by omega⟩
    simp only [vizardref18_Allow.l0]
    rw [if_neg (by omega), List.drop_of_length_le (by omega)]
    rfl
  | succ d ih =>
    intro k i hk h0 hd
    obtain ⟨k, rfl⟩ : ∃ m, k = m + 1 := ⟨k - 1, by omega⟩
    obtain ⟨h', hr, hdr⟩ := get_rd (l := l) h0 (by omega)
    have e : wrap64 (i + 1) = i + 1 := by unfold wrap64; omega
    have hz := hw _ (List.getElem_mem h')
    have ih2 := ih k (i + 1) (by omega) (by omega) (by omega)
    have q : i < (l.length : Int) := by omega
    simp only [vizardref18_Allow.l0, q, h0, if_true]
    rw [e, hr, refhas_f hz.1 hz.2 ha ha2, ih2, hdr]
    generalize l[i.toNat] = z at *
    simp only [Option.bind_some, decide_eq_true_eq, allowS]
    by_cases h1 : z.f1 = 0
    · by_cases h2 : hasP z.f2.f0 z.f2.f1 a <;> by_cases h3 : port ≥ z.f3 <;> by_cases h4 : port ≤ z.f4 <;> simp [h1, h2, h3, h4]
    · by_cases h5 : z.f1 = p <;> by_cases h2 : hasP z.f2.f0 z.f2.f1 a <;> by_cases h3 : port ≥ z.f3 <;> by_cases h4 : port ≤ z.f4 <;> simp [h1, h2, h3, h4, h5]
theorem refAllow_f (l : List S40) (hw : ∀ z ∈ l, AdrR z) (hl : l.length ≤ 4611686018427387904) (p a port : Int) (ha : 0 ≤ a) (ha2 : a < 4294967296) : Ev (fun k => vizardref18_Allow.f k l p a port) (AllowS l p a port) := by
  unfold vizardref18_Allow.f AllowS
  refine Ev.bind (refchk_f l hw hl) ?_
  by_cases h : checkS l = 0
  · refine ⟨l.length + 1, fun k hk => ?_⟩
    have := refallow_ev l hw hl p a port ha ha2 l.length k 0 (by omega) (by omega) (by omega)
    simp only [h, if_true, this]
    simp
  · exact ⟨0, fun k _ => by simp [h]⟩
end Go.Proofs.Ytcpneggifmldoaa.T
set_option linter.unusedVariables false
set_option linter.unusedSimpArgs false
namespace Go.Proofs.Ytcpneggifmldoaa.T
open Go.RowKit Go.Proofs.YtcpneggifmldoaaW.PrintWords Go.Proofs.YtcpneggifmldoaaW.PrintLast Go.Proofs.YtcpneggifmldoaaW.PrintMore Go
def packV' (own : Int) (l : List S40) (s : ByteArray) : Bool × Int × Int × Int × ByteArray × Int :=
  if (parseV s).2.2.2.2.2.2.2.2 = 0 then
    if (parseV s).2.2.2.2.2.1 = own ∧ AllowS l (parseV s).2.2.2.2.1 (parseV s).2.2.2.2.2.2.1 (portsV (parseV s).2.2.1 (parseV s).2.2.2.2.1 (parseV s).2.2.2.2.2.2.2.1).2.1 = true then
      if (hopV s).2 = 0 then (true, 0, (parseV s).2.2.2.2.2.2.1, 0, (hopV s).1, 0) else (false, 0, 0, 0, ⟨#[]⟩, (hopV s).2)
    else (false, 0, 0, 0, ⟨#[]⟩, 15)
  else (false, 0, 0, 0, ⟨#[]⟩, (parseV s).2.2.2.2.2.2.2.2)
def upV (ip : Bool) (addr port own prt : Int) (l : List S40) (s : ByteArray) : Bool × Int × Int × Int × ByteArray × Int :=
  if 1000 < s.size then (false, 0, 0, 0, ⟨#[]⟩, 8) else if ip = true then packV' own l s
  else if AllowS l 17 addr port = true then (false, prt, addr, port, s, 0) else (false, 0, 0, 0, ⟨#[]⟩, 15)
theorem packet_ev (ip : Bool) (addr port own prt : Int) (l : List S40) (s : ByteArray) (hw : ∀ z ∈ l, AdrR z) (hl : l.length ≤ 4611686018427387904) :
    Ev (fun k => tunnel_Tunnel_packet.f k ip addr port own prt l s) (packV' own l s) := by
  obtain ⟨a0, a1, a2, a3, a4, a5, a6, d, u, hp⟩ : ∃ a0 a1 a2 a3 a4 a5 a6 d u, parseV s = (a0, a1, a2, a3, a4, a5, a6, d, u) := ⟨_, _, _, _, _, _, _, _, _, rfl⟩
  unfold packV'
  rw [hp]
  simp only
  by_cases hu : u = 0
  · subst hu
    obtain ⟨hk, q5, q5', q6, q6', hd, -⟩ := parse_ok hp
    obtain ⟨K, hK⟩ := Allow_f l hw hl a4 a6 (portsV a2 a4 d).2.1 q6 q6'
    refine ⟨K + 1, fun k hk' => ?_⟩
    obtain ⟨m, rfl⟩ : ∃ m, k = m + 1 := ⟨k - 1, by omega⟩
    have hA := hK (m + 1) (by omega)
    simp only at hA
    have hP := ports_f a0 a1 a2 a3 a4 a5 a6 d (by unfold okH at hk; omega) (by unfold okH at hk; omega) m
    show tunnel_Tunnel_packet.f (m + 1) ip addr port own prt l s = _
    unfold tunnel_Tunnel_packet.f
    rw [show ipv4_Parse.f s = some (a0, a1, a2, a3, a4, a5, a6, d, 0) from congrArg some hp, Option.bind_some]
    simp only
    rw [if_pos trivial, hP, Option.bind_some, if_pos trivial]
    by_cases ho : a5 = own
    · rw [if_pos ho, hA, Option.bind_some, tunnel_Tunnel_packet.j0]
      by_cases hb : AllowS l a4 a6 (portsV a2 a4 d).2.1 = true
      · rw [hb, if_neg (show ¬ ((!true) = true) by decide), if_pos (show a5 = own ∧ true = true from ⟨ho, rfl⟩)]
        rw [show tunnel_further.f s = some (hopV s) from rfl, Option.bind_some]
        by_cases hh : (hopV s).2 = 0
        · rw [if_pos hh, if_pos hh]
        · rw [if_neg hh, if_neg hh]
      · have hb' : AllowS l a4 a6 (portsV a2 a4 d).2.1 = false := by simpa using hb
        rw [hb', if_pos (show (!false) = true from rfl), if_neg (show ¬ (a5 = own ∧ false = true) from fun h => by cases h.2)]
    · rw [if_neg ho, tunnel_Tunnel_packet.j0, if_pos rfl, if_neg (fun h => ho h.1)]
  · refine ⟨0, fun k _ => ?_⟩
    show tunnel_Tunnel_packet.f k ip addr port own prt l s = _
    unfold tunnel_Tunnel_packet.f
    rw [show ipv4_Parse.f s = some (a0, a1, a2, a3, a4, a5, a6, d, u) from congrArg some hp, Option.bind_some]
    simp only
    rw [if_neg hu, if_neg hu]
theorem up_ev (ip : Bool) (addr port own prt : Int) (l : List S40) (s : ByteArray) (hw : ∀ z ∈ l, AdrR z) (hl : l.length ≤ 4611686018427387904) (ha : 0 ≤ addr) (ha2 : addr < 4294967296) :
    Ev (fun k => tunnel_Tunnel_Up.f k ip addr port own prt l s) (upV ip addr port own prt l s) := by
  unfold upV
  by_cases hs : 1000 < s.size
  · refine ⟨0, fun k _ => ?_⟩
    show tunnel_Tunnel_Up.f k ip addr port own prt l s = _
    unfold tunnel_Tunnel_Up.f
    rw [if_pos hs, if_pos (by omega)]
  · rw [if_neg hs]
    cases ip
    · obtain ⟨K, hK⟩ := Allow_f l hw hl 17 addr port ha ha2
      refine ⟨K, fun k hk => ?_⟩
      have hA := hK k hk
      simp only at hA
      show tunnel_Tunnel_Up.f k false addr port own prt l s = _
      unfold tunnel_Tunnel_Up.f tunnel_Tunnel_Open.f
      rw [if_neg (by omega), if_neg (by decide), if_neg (by decide), hA, Option.bind_some, if_neg (by decide)]
      by_cases hb : AllowS l 17 addr port = true
      · rw [if_pos hb, if_pos hb, Option.bind_some, if_pos (by decide)]
      · rw [if_neg hb, if_neg hb, Option.bind_some, if_neg (by decide)]
    · obtain ⟨K, hK⟩ := packet_ev true addr port own prt l s hw hl
      refine ⟨K, fun k hk => ?_⟩
      have hA := hK k hk
      simp only at hA
      show tunnel_Tunnel_Up.f k true addr port own prt l s = _
      unfold tunnel_Tunnel_Up.f
      rw [if_neg (by omega), if_pos rfl, if_pos rfl, hA, Option.bind_some]
end Go.Proofs.Ytcpneggifmldoaa.T
set_option linter.unusedVariables false
set_option linter.unusedSimpArgs false
namespace Go.Proofs.Ytcpneggifmldoaa.T
open Go.RowKit Go.Proofs.YtcpneggifmldoaaW.PrintWords Go.Proofs.YtcpneggifmldoaaW.PrintLast Go.Proofs.YtcpneggifmldoaaW.PrintMore Go
attribute [local go_sem high] eqA58
theorem its_row (ip : Bool) (addr port own prt : Int) (A : Option Addr) (c : Nat) (l : List S40) (w : World) (hr : Kd.C k40 w A l.length l) (hc : l.length ≤ c) (hl : l.length < 2932031007402) :
    Calls Try.prog 16 #[.agg #[.bool ip, .int .u32 addr, .int .i64 port, .int .u32 own, .int .i64 prt, .slice A l.length c]] w fun e w' => ∃ A' c', e = .returned (.agg #[.bool ip, .int .u32 addr, .int .i64 port, .int .u32 own, .int .i64 prt, .slice A' l.length c']) ∧ l.length ≤ c' ∧ Kd.C k40 w' A' l.length l ∧ Below w.heap.size w w' := by
  have h := vizardlaw22_its.calls ip addr port own prt A c l ip addr port own prt l w hr hc (by
    unfold vizardlaw22_its.f
    rw [Option.bind_some, if_pos (by simpa using hl), List.nil_append])
  refine h.mono ?_
  rintro e w' ⟨v, rfl, hR, hb⟩
  obtain ⟨A', c', rfl, hc', hC⟩ := Kd.R_reads hR
  exact ⟨A', c', rfl, hc', hC, hb⟩
set_option maxRecDepth 100000 in
set_option maxHeartbeats 4000000 in
theorem tp_no (ip : Bool) (addr port own prt : Int) (A : Option Addr) (c : Nat) (l : List S40) (s : ByteArray) (w : World) (hr : Kd.C k40 w A l.length l) (hc : l.length ≤ c) (hl : l.length < 2932031007402) (u : Int) (h0 : (u == 0) = false) (h1 : (u != 0) = true)
    (k : Nat) (hU : tunnel_Tunnel_Up.f k ip addr port own prt l s = some (false, 0, 0, 0, ⟨#[]⟩, u)) :
    Calls Try.prog 8 #[.agg #[.bool ip, .int .u32 addr, .int .i64 port, .int .u32 own, .int .i64 prt, .slice A l.length c], .string s] w fun e w' => e = .returned (.bool true) ∧ Below w.heap.size w w' := by
  have hu46 := Try.underlying46
  have hu44 := Try.underlying44
  have hu50 := Try.underlying50
  have hu58 := Try.underlying58
  have I : Hid (∀ W, Below w.heap.size w W → Calls Try.prog 16 #[.agg #[.bool ip, .int .u32 addr, .int .i64 port, .int .u32 own, .int .i64 prt, .slice A l.length c]] W fun e w' => ∃ A' c', e = .returned (.agg #[.bool ip, .int .u32 addr, .int .i64 port, .int .u32 own, .int .i64 prt, .slice A' l.length c']) ∧ l.length ≤ c' ∧ Kd.C k40 w' A' l.length l ∧ Below W.heap.size W w') := fun W hb => its_row ip addr port own prt A c l W (Kd.C_below hr hb) hc hl
  have UU : Hid (∀ A' c' W, l.length ≤ c' → Kd.C k40 W A' l.length l → Calls Try.prog 17 #[.agg #[.bool ip, .int .u32 addr, .int .i64 port, .int .u32 own, .int .i64 prt, .slice A' l.length c'], .string s] W fun e w' => e = .returned (.tuple #[.agg #[.bool false, .int .i64 0, .int .u32 0, .int .i64 0, .string ⟨#[]⟩], .int .i64 u]) ∧ Below W.heap.size W w') := fun A' c' W h1 h2 => tunnel_Tunnel_Up.calls k ip addr port own prt A' c' l s (false) (0) (0) (0) (⟨#[]⟩) (u) W h2 h1 hU
  have Wk : Hid (∀ W, Calls Try.prog 23 #[] W fun e w' => e = .returned (.bool true) ∧ Below W.heap.size W w') := works_calls
  have Z0 : Hid (Below w.heap.size w (w.alloc (.cells #[.bool ip, .int .u32 addr, .int .i64 port, .int .u32 own, .int .i64 prt, .slice A l.length c] 46))) := (Below.refl _ w).alloc (Nat.le_refl _) _
  clear hr hc hl hU
  go_enter Try.func8, Try.ntmps8
  go_wp2_with (first
    | (go_at_call 23; (with_reducible refine (Wk.out _).mono ?_); rintro e w1 ⟨rfl, hb⟩; have T1 : Hid _ := blk_below (blk_new w (.cells #[.bool ip, .int .u32 addr, .int .i64 port, .int .u32 own, .int .i64 prt, .slice A l.length c] 46)) hb; have Z1 : Hid (Below w.heap.size w w1) := Z0.out.trans (hb.mono Z0.out.size); clear hb)
    | (refine wpList_load_row rfl 46 _ rfl _ rfl 46 _ (0, 0) _ T1.out Try.underlying46 rfl (by kernel_rfl) ?_)
    | (go_at_call 16; (with_reducible refine (I.out _ Z1.out).mono ?_); rintro e w2 ⟨A', c', rfl, hc', hr', hb⟩; have T2 : Hid _ := blk_below T1.out hb; have Z2 : Hid (Below w.heap.size w w2) := Z1.out.trans (hb.mono Z1.out.size); clear hb; have C2 : Hid (l.length ≤ c') := hc'; have K2 : Hid (Kd.C k40 w2 A' l.length l) := hr'; clear hc' hr')
    | (go_at_call 17; (with_reducible refine (UU.out _ _ _ C2.out K2.out).mono ?_); rintro e w3 ⟨rfl, hb⟩; have T3 : Hid _ := blk_below T2.out hb; have kz : w.heap.size < w3.heap.size := blk_lt T3.out; have k0 : w3.cell? ⟨w.heap.size, 0, none⟩ = some (.bool ip) := (blk_cell T3.out 0).trans rfl; have k5 : w3.cell? ⟨w.heap.size, 5, none⟩ = some (.slice A l.length c) := (blk_cell T3.out 5).trans rfl; have Z3 : Hid (Below w.heap.size w w3) := Z2.out.trans (hb.mono Z2.out.size); clear hb)
    | (refine wpList_store_row rfl 50 _ _ rfl _ _ rfl rfl 50 _ (blk_new _ _) (by kernel_rfl) rfl (by simp [Value.oneCell']) ?_; rw [World.setRow_alloc_new]))
  go_ret
  exact ⟨rfl, Z3.out.alloc Z3.out.size _⟩
set_option maxRecDepth 100000 in
set_option maxHeartbeats 4000000 in
theorem tp_plain (addr port own prt : Int) (A : Option Addr) (c : Nat) (l : List S40) (s : ByteArray) (w : World) (hr : Kd.C k40 w A l.length l) (hc : l.length ≤ c) (hl : l.length < 2932031007402) (k' : Nat) (hR : vizardref18_Allow.f k' l 17 addr port = some true)
    (k : Nat) (hU : tunnel_Tunnel_Up.f k false addr port own prt l s = some (false, prt, addr, port, s, 0)) :
    Calls Try.prog 8 #[.agg #[.bool false, .int .u32 addr, .int .i64 port, .int .u32 own, .int .i64 prt, .slice A l.length c], .string s] w fun e w' => e = .returned (.bool true) ∧ Below w.heap.size w w' := by
  have hu46 := Try.underlying46
  have hu44 := Try.underlying44
  have hu50 := Try.underlying50
  have hu58 := Try.underlying58
  have I : Hid (∀ W, Below w.heap.size w W → Calls Try.prog 16 #[.agg #[.bool false, .int .u32 addr, .int .i64 port, .int .u32 own, .int .i64 prt, .slice A l.length c]] W fun e w' => ∃ A' c', e = .returned (.agg #[.bool false, .int .u32 addr, .int .i64 port, .int .u32 own, .int .i64 prt, .slice A' l.length c']) ∧ l.length ≤ c' ∧ Kd.C k40 w' A' l.length l ∧ Below W.heap.size W w') := fun W hb => its_row false addr port own prt A c l W (Kd.C_below hr hb) hc hl
  have UU : Hid (∀ A' c' W, l.length ≤ c' → Kd.C k40 W A' l.length l → Calls Try.prog 17 #[.agg #[.bool false, .int .u32 addr, .int .i64 port, .int .u32 own, .int .i64 prt, .slice A' l.length c'], .string s] W fun e w' => e = .returned (.tuple #[.agg #[.bool false, .int .i64 prt, .int .u32 addr, .int .i64 port, .string s], .int .i64 0]) ∧ Below W.heap.size W w') := fun A' c' W h1 h2 => tunnel_Tunnel_Up.calls k false addr port own prt A' c' l s (false) (prt) (addr) (port) (s) (0) W h2 h1 hU
  have Wk : Hid (∀ W, Calls Try.prog 23 #[] W fun e w' => e = .returned (.bool true) ∧ Below W.heap.size W w') := works_calls
  have Z0 : Hid (Below w.heap.size w (w.alloc (.cells #[.bool false, .int .u32 addr, .int .i64 port, .int .u32 own, .int .i64 prt, .slice A l.length c] 46))) := (Below.refl _ w).alloc (Nat.le_refl _) _
  have R : Hid (∀ W, Below w.heap.size w W → Calls Try.prog 24 #[.slice A l.length c, .int .i64 17, .int .u32 addr, .int .i64 port] W fun e w' => e = .returned (.bool true) ∧ Below W.heap.size W w') := fun W hb => vizardref18_Allow.calls k' A c l 17 addr port true W (Kd.C_below hr hb) hc hR
  clear hr hc hl hU
  go_enter Try.func8, Try.ntmps8
  go_wp2_with (first
    | (go_at_call 23; (with_reducible refine (Wk.out _).mono ?_); rintro e w1 ⟨rfl, hb⟩; have T1 : Hid _ := blk_below (blk_new w (.cells #[.bool false, .int .u32 addr, .int .i64 port, .int .u32 own, .int .i64 prt, .slice A l.length c] 46)) hb; have Z1 : Hid (Below w.heap.size w w1) := Z0.out.trans (hb.mono Z0.out.size); clear hb)
    | (refine wpList_load_row rfl 46 _ rfl _ rfl 46 _ (0, 0) _ T1.out Try.underlying46 rfl (by kernel_rfl) ?_)
    | (go_at_call 16; (with_reducible refine (I.out _ Z1.out).mono ?_); rintro e w2 ⟨A', c', rfl, hc', hr', hb⟩; have T2 : Hid _ := blk_below T1.out hb; have Z2 : Hid (Below w.heap.size w w2) := Z1.out.trans (hb.mono Z1.out.size); clear hb; have C2 : Hid (l.length ≤ c') := hc'; have K2 : Hid (Kd.C k40 w2 A' l.length l) := hr'; clear hc' hr')
    | (go_at_call 17; (with_reducible refine (UU.out _ _ _ C2.out K2.out).mono ?_); rintro e w3 ⟨rfl, hb⟩; have T3 : Hid _ := blk_below T2.out hb; have kz : w.heap.size < w3.heap.size := blk_lt T3.out; have k0 : w3.cell? ⟨w.heap.size, 0, none⟩ = some (.bool false) := (blk_cell T3.out 0).trans rfl; have k5 : w3.cell? ⟨w.heap.size, 5, none⟩ = some (.slice A l.length c) := (blk_cell T3.out 5).trans rfl; have Z3 : Hid (Below w.heap.size w w3) := Z2.out.trans (hb.mono Z2.out.size); clear hb)
    | (refine wpList_store_row rfl 50 _ _ rfl _ _ rfl rfl 50 _ (blk_new _ _) (by kernel_rfl) rfl (by simp [Value.oneCell']) ?_; rw [World.setRow_alloc_new])
    | (go_at_call 24; (with_reducible refine (R.out _ (Z3.out.alloc Z3.out.size _)).mono ?_); rintro e w4 ⟨rfl, hb⟩; have U4 := blk_below (blk_new w3 (.cells #[.bool false, .int .i64 prt, .int .u32 addr, .int .i64 port, .string s] 50)) hb; have c4 : w4.cell? ⟨w3.heap.size, 4, none⟩ = some (.string s) := (blk_cell U4 4).trans rfl; have c1 : w4.cell? ⟨w3.heap.size, 1, none⟩ = some (.int .i64 prt) := (blk_cell U4 1).trans rfl; have T4 := blk_below (blk_alloc T3.out (.cells #[.bool false, .int .i64 prt, .int .u32 addr, .int .i64 port, .string s] 50)) hb; have k4 : w4.cell? ⟨w.heap.size, 4, none⟩ = some (.int .i64 prt) := (blk_cell T4 4).trans rfl; have Z4 : Hid (Below w.heap.size w w4) := (Z3.out.alloc Z3.out.size _).trans (hb.mono (by rw [World.size_alloc]; have := Z3.out.size; omega)); clear hb U4 T4))
  go_ret
  exact ⟨rfl, Z4.out⟩
set_option maxRecDepth 100000 in
set_option maxHeartbeats 4000000 in
theorem tp_ip (addr port own prt : Int) (A : Option Addr) (c : Nat) (l : List S40) (s : ByteArray) (w : World) (hr : Kd.C k40 w A l.length l) (hc : l.length ≤ c) (hl : l.length < 2932031007402) (T : ByteArray) (a0 a1 a2 a3 a4 a6 : Int) (d : ByteArray) (hp : parseV s = (a0, a1, a2, a3, a4, own, a6, d, 0)) (x : Int) (hx : wrap64 (a3 - 1) = x) (hT : parseV T = (a0, a1, a2, x, a4, own, a6, d, 0)) (kp : Nat) (pt : Int) (hPt : vizardref22_Port.f kp a0 a1 a2 x a4 own a6 d = some pt) (k' : Nat) (hR : vizardref18_Allow.f k' l a4 a6 pt = some true)
    (k : Nat) (hU : tunnel_Tunnel_Up.f k true addr port own prt l s = some (true, 0, a6, 0, T, 0)) :
    Calls Try.prog 8 #[.agg #[.bool true, .int .u32 addr, .int .i64 port, .int .u32 own, .int .i64 prt, .slice A l.length c], .string s] w fun e w' => e = .returned (.bool true) ∧ Below w.heap.size w w' := by
  have hu46 := Try.underlying46
  have hu44 := Try.underlying44
  have hu50 := Try.underlying50
  have hu58 := Try.underlying58
  have I : Hid (∀ W, Below w.heap.size w W → Calls Try.prog 16 #[.agg #[.bool true, .int .u32 addr, .int .i64 port, .int .u32 own, .int .i64 prt, .slice A l.length c]] W fun e w' => ∃ A' c', e = .returned (.agg #[.bool true, .int .u32 addr, .int .i64 port, .int .u32 own, .int .i64 prt, .slice A' l.length c']) ∧ l.length ≤ c' ∧ Kd.C k40 w' A' l.length l ∧ Below W.heap.size W w') := fun W hb => its_row true addr port own prt A c l W (Kd.C_below hr hb) hc hl
  have UU : Hid (∀ A' c' W, l.length ≤ c' → Kd.C k40 W A' l.length l → Calls Try.prog 17 #[.agg #[.bool true, .int .u32 addr, .int .i64 port, .int .u32 own, .int .i64 prt, .slice A' l.length c'], .string s] W fun e w' => e = .returned (.tuple #[.agg #[.bool true, .int .i64 0, .int .u32 a6, .int .i64 0, .string T], .int .i64 0]) ∧ Below W.heap.size W w') := fun A' c' W h1 h2 => tunnel_Tunnel_Up.calls k true addr port own prt A' c' l s (true) (0) (a6) (0) (T) (0) W h2 h1 hU
  have Wk : Hid (∀ W, Calls Try.prog 23 #[] W fun e w' => e = .returned (.bool true) ∧ Below W.heap.size W w') := works_calls
  have Z0 : Hid (Below w.heap.size w (w.alloc (.cells #[.bool true, .int .u32 addr, .int .i64 port, .int .u32 own, .int .i64 prt, .slice A l.length c] 46))) := (Below.refl _ w).alloc (Nat.le_refl _) _
  have P : Hid (∀ W, Calls Try.prog 25 #[.string T] W fun e w' => e = .returned (.tuple #[.agg #[.int .i64 a0, .int .i64 a1, .int .i64 a2, .int .i64 x, .int .i64 a4, .int .u32 own, .int .u32 a6, .string d], .int .i64 0]) ∧ Below W.heap.size W w') := fun W => by have := parse25_calls T W; rw [hT] at this; exact this
  clear hT
  have Q : Hid (∀ W, Calls Try.prog 25 #[.string s] W fun e w' => e = .returned (.tuple #[.agg #[.int .i64 a0, .int .i64 a1, .int .i64 a2, .int .i64 a3, .int .i64 a4, .int .u32 own, .int .u32 a6, .string d], .int .i64 0]) ∧ Below W.heap.size W w') := fun W => by have := parse25_calls s W; rw [hp] at this; exact this
  clear hp
  have R : Hid (∀ W, Below w.heap.size w W → Calls Try.prog 24 #[.slice A l.length c, .int .i64 a4, .int .u32 a6, .int .i64 pt] W fun e w' => e = .returned (.bool true) ∧ Below W.heap.size W w') := fun W hb => vizardref18_Allow.calls k' A c l a4 a6 pt true W (Kd.C_below hr hb) hc hR
  have Po : Hid (∀ W, Calls Try.prog 26 #[.agg #[.int .i64 a0, .int .i64 a1, .int .i64 a2, .int .i64 x, .int .i64 a4, .int .u32 own, .int .u32 a6, .string d]] W fun e w' => e = .returned (.int .i64 pt) ∧ Below W.heap.size W w') := fun W => vizardref22_Port.calls kp a0 a1 a2 x a4 own a6 d pt W hPt
  clear hPt
  clear hr hc hl hU
  go_enter Try.func8, Try.ntmps8
  go_wp2_with (first
    | (go_at_call 23; (with_reducible refine (Wk.out _).mono ?_); rintro e w1 ⟨rfl, hb⟩; have T1 : Hid _ := blk_below (blk_new w (.cells #[.bool true, .int .u32 addr, .int .i64 port, .int .u32 own, .int .i64 prt, .slice A l.length c] 46)) hb; have Z1 : Hid (Below w.heap.size w w1) := Z0.out.trans (hb.mono Z0.out.size); clear hb)
    | (refine wpList_load_row rfl 46 _ rfl _ rfl 46 _ (0, 0) _ T1.out Try.underlying46 rfl (by kernel_rfl) ?_)
    | (go_at_call 16; (with_reducible refine (I.out _ Z1.out).mono ?_); rintro e w2 ⟨A', c', rfl, hc', hr', hb⟩; have T2 : Hid _ := blk_below T1.out hb; have Z2 : Hid (Below w.heap.size w w2) := Z1.out.trans (hb.mono Z1.out.size); clear hb; have C2 : Hid (l.length ≤ c') := hc'; have K2 : Hid (Kd.C k40 w2 A' l.length l) := hr'; clear hc' hr')
    | (go_at_call 17; (with_reducible refine (UU.out _ _ _ C2.out K2.out).mono ?_); rintro e w3 ⟨rfl, hb⟩; have T3 : Hid _ := blk_below T2.out hb; have kz : w.heap.size < w3.heap.size := blk_lt T3.out; have k0 : w3.cell? ⟨w.heap.size, 0, none⟩ = some (.bool true) := (blk_cell T3.out 0).trans rfl; have k5 : w3.cell? ⟨w.heap.size, 5, none⟩ = some (.slice A l.length c) := (blk_cell T3.out 5).trans rfl; have Z3 : Hid (Below w.heap.size w w3) := Z2.out.trans (hb.mono Z2.out.size); clear hb)
    | (refine wpList_store_row rfl 50 _ _ rfl _ _ rfl rfl 50 _ (blk_new _ _) (by kernel_rfl) rfl (by simp [Value.oneCell']) ?_; rw [World.setRow_alloc_new])    | (refine wpList_store_row rfl 58 _ _ rfl _ _ rfl rfl 58 _ (blk_new _ _) (by kernel_rfl) rfl (by simp [Value.oneCell']) ?_; rw [World.setRow_alloc_new])
    | (go_at_call 25; (with_reducible refine (P.out _).mono ?_); rintro e w4 ⟨rfl, hb⟩; have T4 : Hid _ := blk_below (blk_alloc T3.out (.cells #[.bool true, .int .i64 0, .int .u32 a6, .int .i64 0, .string T] 50)) hb; have U4 : Hid _ := blk_below (blk_new w3 (.cells #[.bool true, .int .i64 0, .int .u32 a6, .int .i64 0, .string T] 50)) hb; have Z4 : Hid (Below w.heap.size w w4) := (Z3.out.alloc Z3.out.size _).trans (hb.mono (by rw [World.size_alloc]; have := Z3.out.size; omega)); clear hb)
    | (go_at_call 25; (with_reducible refine (Q.out _).mono ?_); rintro e w5 ⟨rfl, hb⟩; have T5 : Hid _ := blk_below (blk_alloc T4.out (.cells #[.int .i64 a0, .int .i64 a1, .int .i64 a2, .int .i64 x, .int .i64 a4, .int .u32 own, .int .u32 a6, .string d] 58)) hb; have U5 : Hid _ := blk_below (blk_alloc U4.out (.cells #[.int .i64 a0, .int .i64 a1, .int .i64 a2, .int .i64 x, .int .i64 a4, .int .u32 own, .int .u32 a6, .string d] 58)) hb; have H5 : Hid _ := blk_below (blk_new w4 (.cells #[.int .i64 a0, .int .i64 a1, .int .i64 a2, .int .i64 x, .int .i64 a4, .int .u32 own, .int .u32 a6, .string d] 58)) hb; have Z5 : Hid (Below w.heap.size w w5) := (Z4.out.alloc Z4.out.size _).trans (hb.mono (by rw [World.size_alloc]; have := Z4.out.size; omega)); clear hb))
  have A2 := blk_drew (blk_alloc T5.out (.cells #[.int .i64 a0, .int .i64 a1, .int .i64 a2, .int .i64 x, .int .i64 a4, .int .u32 own, .int .u32 a6, .string d] 58))
  have A5 := blk_drew (blk_alloc U5.out (.cells #[.int .i64 a0, .int .i64 a1, .int .i64 a2, .int .i64 x, .int .i64 a4, .int .u32 own, .int .u32 a6, .string d] 58))
  have A7 := blk_drew (blk_alloc H5.out (.cells #[.int .i64 a0, .int .i64 a1, .int .i64 a2, .int .i64 x, .int .i64 a4, .int .u32 own, .int .u32 a6, .string d] 58))
  have A9 := blk_drew (blk_new w5 (.cells #[.int .i64 a0, .int .i64 a1, .int .i64 a2, .int .i64 x, .int .i64 a4, .int .u32 own, .int .u32 a6, .string d] 58))
  have Z := below_drew1 (Z5.out.alloc Z5.out.size (.cells #[.int .i64 a0, .int .i64 a1, .int .i64 a2, .int .i64 x, .int .i64 a4, .int .u32 own, .int .u32 a6, .string d] 58))
  clear kz k0 k5
  try clear hHeld
  refine start_ (n := 37) (S := fun w' => w'.cell? ⟨w4.heap.size, 0, none⟩ = some (.int .i64 a0) ∧ w'.cell? ⟨w4.heap.size, 1, none⟩ = some (.int .i64 a1) ∧ w'.cell? ⟨w4.heap.size, 2, none⟩ = some (.int .i64 a2) ∧ w'.cell? ⟨w4.heap.size, 3, none⟩ = some (.int .i64 x) ∧ w'.cell? ⟨w4.heap.size, 4, none⟩ = some (.int .i64 a4) ∧ w'.cell? ⟨w4.heap.size, 5, none⟩ = some (.int .u32 own) ∧ w'.cell? ⟨w4.heap.size, 6, none⟩ = some (.int .u32 a6) ∧ w'.cell? ⟨w4.heap.size, 7, none⟩ = some (.string d) ∧ w'.cell? ⟨w5.heap.size, 0, none⟩ = some (.int .i64 a0) ∧ w'.cell? ⟨w5.heap.size, 1, none⟩ = some (.int .i64 a1) ∧ w'.cell? ⟨w5.heap.size, 2, none⟩ = some (.int .i64 a2) ∧ w'.cell? ⟨w5.heap.size, 3, none⟩ = some (.int .i64 x) ∧ w'.cell? ⟨w5.heap.size, 4, none⟩ = some (.int .i64 a4) ∧ w'.cell? ⟨w5.heap.size, 5, none⟩ = some (.int .u32 own) ∧ w'.cell? ⟨w5.heap.size, 6, none⟩ = some (.int .u32 a6) ∧ w'.cell? ⟨w5.heap.size, 7, none⟩ = some (.string d) ∧ w'.cell? ⟨w.heap.size, 1, none⟩ = some (.int .u32 addr) ∧ w'.cell? ⟨w.heap.size, 3, none⟩ = some (.int .u32 own) ∧ w'.cell? ⟨w.heap.size, 5, none⟩ = some (.slice A l.length c) ∧ w'.cell? ⟨w3.heap.size, 2, none⟩ = some (.int .u32 a6)) (ds := []) #[false, false, false, false, false, false, false, false, false, false, false, false, false, false, false, false, false, false, false, false, false, false, false, false, false, false, false, false, false, false, false, false, false, false, false, false, false] (by kernel_rfl) rfl rfl (by exact ⟨(blk_cell A7 0).trans rfl, (blk_cell A7 1).trans rfl, (blk_cell A7 2).trans rfl, (blk_cell A7 3).trans rfl, (blk_cell A7 4).trans rfl, (blk_cell A7 5).trans rfl, (blk_cell A7 6).trans rfl, (blk_cell A7 7).trans rfl, (blk_cell A9 0).trans rfl, (blk_cell A9 1).trans rfl, (blk_cell A9 2).trans rfl, (blk_cell A9 3).trans rfl, (blk_cell A9 4).trans rfl, (blk_cell A9 5).trans rfl, (blk_cell A9 6).trans rfl, (blk_cell A9 7).trans rfl, (blk_cell A2 1).trans rfl, (blk_cell A2 3).trans rfl, (blk_cell A2 5).trans rfl, (blk_cell A5 2).trans rfl⟩) (fun hHeld => ?_)
  generalize (w5.alloc (.cells #[.int .i64 a0, .int .i64 a1, .int .i64 a2, .int .i64 x, .int .i64 a4, .int .u32 own, .int .u32 a6, .string d] 58)).drew = W at A2 A5 A7 A9 Z hHeld ⊢
  refine pure_ (i := 0) (N := some 69) (v := ?_) (a' := ?_) #[true, false, false, false, false, false, false, false, false, false, false, false, false, false, false, false, false, false, false, false, false, false, false, false, false, false, false, false, false, false, false, false, false, false, false, false, false] rfl rfl (by kernel_rfl) (fun _ _ _ h => h) (Or.inl ⟨by rfl, ?_⟩) ?_ ?_
  rotate_left
  · intro w'; go_simp; try with_reducible rfl
  rotate_left
  · simp only [Act.put, List.setIfInBounds_toArray, List.set_cons_zero, List.set_cons_succ, i64_w, i32_w]; rfl
  refine pure_ (i := 1) (N := some 70) (v := ?_) (a' := ?_) #[true, true, false, false, false, false, false, false, false, false, false, false, false, false, false, false, false, false, false, false, false, false, false, false, false, false, false, false, false, false, false, false, false, false, false, false, false] rfl rfl (by kernel_rfl) (fun _ _ _ h => h) (Or.inl ⟨by rfl, ?_⟩) ?_ ?_
  rotate_left
  · intro w'; go_simp; try with_reducible rfl
  rotate_left
  · simp only [Act.put, List.setIfInBounds_toArray, List.set_cons_zero, List.set_cons_succ, i64_w, i32_w]; rfl
  refine pure_ (i := 2) (N := some 71) (v := ?_) (a' := ?_) #[true, true, true, false, false, false, false, false, false, false, false, false, false, false, false, false, false, false, false, false, false, false, false, false, false, false, false, false, false, false, false, false, false, false, false, false, false] rfl rfl (by kernel_rfl) (fun _ _ _ h => h) (Or.inl ⟨by rfl, ?_⟩) ?_ ?_
  rotate_left
  · intro w'; go_simp; try with_reducible rfl
  rotate_left
  · simp only [Act.put, List.setIfInBounds_toArray, List.set_cons_zero, List.set_cons_succ, i64_w, i32_w]; rfl
  refine pure_ (i := 3) (N := some 72) (v := ?_) (a' := ?_) #[true, true, true, true, false, false, false, false, false, false, false, false, false, false, false, false, false, false, false, false, false, false, false, false, false, false, false, false, false, false, false, false, false, false, false, false, false] rfl rfl (by kernel_rfl) (fun _ _ _ h => h) (Or.inl ⟨by rfl, ?_⟩) ?_ ?_
  rotate_left
  · intro w'; go_simp; try with_reducible rfl
  rotate_left
  · simp only [Act.put, List.setIfInBounds_toArray, List.set_cons_zero, List.set_cons_succ, i64_w, i32_w]; rfl
  refine pure_ (i := 4) (N := some 73) (v := ?_) (a' := ?_) #[true, true, true, true, true, false, false, false, false, false, false, false, false, false, false, false, false, false, false, false, false, false, false, false, false, false, false, false, false, false, false, false, false, false, false, false, false] rfl rfl (by kernel_rfl) (fun _ _ _ h => h) (Or.inl ⟨by rfl, ?_⟩) ?_ ?_
  rotate_left
  · intro w'; go_simp; try with_reducible rfl
  rotate_left
  · simp only [Act.put, List.setIfInBounds_toArray, List.set_cons_zero, List.set_cons_succ, i64_w, i32_w]; rfl
  refine pure_ (i := 5) (N := some 74) (v := ?_) (a' := ?_) #[true, true, true, true, true, true, false, false, false, false, false, false, false, false, false, false, false, false, false, false, false, false, false, false, false, false, false, false, false, false, false, false, false, false, false, false, false] rfl rfl (by kernel_rfl) (fun _ _ _ h => h) (Or.inl ⟨by rfl, ?_⟩) ?_ ?_
  rotate_left
  · intro w'; go_simp; try with_reducible rfl
  rotate_left
  · simp only [Act.put, List.setIfInBounds_toArray, List.set_cons_zero, List.set_cons_succ, i64_w, i32_w]; rfl
  refine pure_ (i := 6) (N := some 75) (v := ?_) (a' := ?_) #[true, true, true, true, true, true, true, false, false, false, false, false, false, false, false, false, false, false, false, false, false, false, false, false, false, false, false, false, false, false, false, false, false, false, false, false, false] rfl rfl (by kernel_rfl) (fun _ _ _ h => h) (Or.inl ⟨by rfl, ?_⟩) ?_ ?_
  rotate_left
  · intro w'; go_simp; try with_reducible rfl
  rotate_left
  · simp only [Act.put, List.setIfInBounds_toArray, List.set_cons_zero, List.set_cons_succ, i64_w, i32_w]; rfl
  refine take_ (i := 7) (N := some 76) (v := ?_) (a' := ?_) #[true, true, true, true, true, true, true, true, false, false, false, false, false, false, false, false, false, false, false, false, false, false, false, false, false, false, false, false, false, false, false, false, false, false, false, false, false] rfl rfl (by kernel_rfl) (fun _ _ _ h => h) (Or.inl ⟨by rfl, ?_⟩) hHeld ?_ ?_
  rotate_left
  · intro w' hS_; (try dsimp only at hS_); go_split_ands; go_simp; try with_reducible rfl
  rotate_left
  · simp only [Act.put, List.setIfInBounds_toArray, List.set_cons_zero, List.set_cons_succ, i64_w, i32_w]; rfl
  refine take_ (i := 8) (N := some 77) (v := ?_) (a' := ?_) #[true, true, true, true, true, true, true, true, true, false, false, false, false, false, false, false, false, false, false, false, false, false, false, false, false, false, false, false, false, false, false, false, false, false, false, false, false] rfl rfl (by kernel_rfl) (fun _ _ _ h => h) (Or.inl ⟨by rfl, ?_⟩) hHeld ?_ ?_
  rotate_left
  · intro w' hS_; (try dsimp only at hS_); go_split_ands; go_simp; try with_reducible rfl
  rotate_left
  · simp only [Act.put, List.setIfInBounds_toArray, List.set_cons_zero, List.set_cons_succ, i64_w, i32_w]; rfl
  refine pure_ (i := 9) (N := some 78) (v := ?_) (a' := ?_) #[true, true, true, true, true, true, true, true, true, true, false, false, false, false, false, false, false, false, false, false, false, false, false, false, false, false, false, false, false, false, false, false, false, false, false, false, false] rfl rfl (by kernel_rfl) (fun _ _ _ h => h) (Or.inl ⟨by rfl, ?_⟩) ?_ ?_
  rotate_left
  · intro w'; go_simp; try with_reducible rfl
  rotate_left
  · simp only [Act.put, List.setIfInBounds_toArray, List.set_cons_zero, List.set_cons_succ, i64_w, i32_w]; rfl
  refine pure_ (i := 10) (N := some 79) (v := ?_) (a' := ?_) #[true, true, true, true, true, true, true, true, true, true, true, false, false, false, false, false, false, false, false, false, false, false, false, false, false, false, false, false, false, false, false, false, false, false, false, false, false] rfl rfl (by kernel_rfl) (fun _ _ _ h => h) (Or.inl ⟨by rfl, ?_⟩) ?_ ?_
  rotate_left
  · intro w'; go_simp; try with_reducible rfl
  rotate_left
  · simp only [Act.put, List.setIfInBounds_toArray, List.set_cons_zero, List.set_cons_succ, i64_w, i32_w]; rfl
  refine pure_ (i := 11) (N := some 80) (v := ?_) (a' := ?_) #[true, true, true, true, true, true, true, true, true, true, true, true, false, false, false, false, false, false, false, false, false, false, false, false, false, false, false, false, false, false, false, false, false, false, false, false, false] rfl rfl (by kernel_rfl) (fun _ _ _ h => h) (Or.inl ⟨by rfl, ?_⟩) ?_ ?_
  rotate_left
  · intro w'; go_simp; try with_reducible rfl
  rotate_left
  · simp only [Act.put, List.setIfInBounds_toArray, List.set_cons_zero, List.set_cons_succ, i64_w, i32_w]; rfl
  refine pure_ (i := 12) (N := some 81) (v := ?_) (a' := ?_) #[true, true, true, true, true, true, true, true, true, true, true, true, true, false, false, false, false, false, false, false, false, false, false, false, false, false, false, false, false, false, false, false, false, false, false, false, false] rfl rfl (by kernel_rfl) (fun _ _ _ h => h) (Or.inl ⟨by rfl, ?_⟩) ?_ ?_
  rotate_left
  · intro w'; go_simp; try with_reducible rfl
  rotate_left
  · simp only [Act.put, List.setIfInBounds_toArray, List.set_cons_zero, List.set_cons_succ, i64_w, i32_w]; rfl
  refine take_ (i := 13) (N := some 82) (v := ?_) (a' := ?_) #[true, true, true, true, true, true, true, true, true, true, true, true, true, true, false, false, false, false, false, false, false, false, false, false, false, false, false, false, false, false, false, false, false, false, false, false, false] rfl rfl (by kernel_rfl) (fun _ _ _ h => h) (Or.inl ⟨by rfl, ?_⟩) hHeld ?_ ?_
  rotate_left
  · intro w' hS_; (try dsimp only at hS_); go_split_ands; go_simp; try with_reducible rfl
  rotate_left
  · simp only [Act.put, List.setIfInBounds_toArray, List.set_cons_zero, List.set_cons_succ, i64_w, i32_w]; rfl
  refine pure_ (i := 14) (N := some 83) (v := ?_) (a' := ?_) #[true, true, true, true, true, true, true, true, true, true, true, true, true, true, true, false, false, false, false, false, false, false, false, false, false, false, false, false, false, false, false, false, false, false, false, false, false] rfl rfl (by kernel_rfl) (fun _ _ _ h => h) (Or.inl ⟨by rfl, ?_⟩) ?_ ?_
  rotate_left
  · intro w'; go_simp; try with_reducible rfl
  rotate_left
  · simp only [Act.put, List.setIfInBounds_toArray, List.set_cons_zero, List.set_cons_succ, i64_w, i32_w]; rfl
  refine take_ (i := 15) (N := some 84) (v := ?_) (a' := ?_) #[true, true, true, true, true, true, true, true, true, true, true, true, true, true, true, true, false, false, false, false, false, false, false, false, false, false, false, false, false, false, false, false, false, false, false, false, false] rfl rfl (by kernel_rfl) (fun _ _ _ h => h) (Or.inl ⟨by rfl, ?_⟩) hHeld ?_ ?_
  rotate_left
  · intro w' hS_; (try dsimp only at hS_); go_split_ands; go_simp; try with_reducible rfl
  rotate_left
  · simp only [Act.put, List.setIfInBounds_toArray, List.set_cons_zero, List.set_cons_succ, i64_w, i32_w]; rfl
  refine pure_ (i := 16) (N := some 85) (v := ?_) (a' := ?_) #[true, true, true, true, true, true, true, true, true, true, true, true, true, true, true, true, true, false, false, false, false, false, false, false, false, false, false, false, false, false, false, false, false, false, false, false, false] rfl rfl (by kernel_rfl) (fun _ _ _ h => h) (Or.inl ⟨by rfl, ?_⟩) ?_ ?_
  rotate_left
  · intro w'; go_simp; try with_reducible rfl
  rotate_left
  · simp only [Act.put, List.setIfInBounds_toArray, List.set_cons_zero, List.set_cons_succ, i64_w, i32_w]; rfl
  refine pure_ (i := 17) (N := some 86) (v := ?_) (a' := ?_) #[true, true, true, true, true, true, true, true, true, true, true, true, true, true, true, true, true, true, false, false, false, false, false, false, false, false, false, false, false, false, false, false, false, false, false, false, false] rfl rfl (by kernel_rfl) (fun _ _ _ h => h) (Or.inl ⟨by rfl, ?_⟩) ?_ ?_
  rotate_left
  · intro w'; go_simp; try with_reducible rfl
  rotate_left
  · simp only [Act.put, List.setIfInBounds_toArray, List.set_cons_zero, List.set_cons_succ, i64_w, i32_w]; rfl
  refine pure_ (i := 18) (N := some 87) (v := ?_) (a' := ?_) #[true, true, true, true, true, true, true, true, true, true, true, true, true, true, true, true, true, true, true, false, false, false, false, false, false, false, false, false, false, false, false, false, false, false, false, false, false] rfl rfl (by kernel_rfl) (fun _ _ _ h => h) (Or.inl ⟨by rfl, ?_⟩) ?_ ?_
  rotate_left
  · intro w'; go_simp; try with_reducible rfl
  rotate_left
  · simp only [Act.put, List.setIfInBounds_toArray, List.set_cons_zero, List.set_cons_succ, i64_w, i32_w]; rfl
  refine pure_ (i := 19) (N := some 88) (v := ?_) (a' := ?_) #[true, true, true, true, true, true, true, true, true, true, true, true, true, true, true, true, true, true, true, true, false, false, false, false, false, false, false, false, false, false, false, false, false, false, false, false, false] rfl rfl (by kernel_rfl) (fun _ _ _ h => h) (Or.inl ⟨by rfl, ?_⟩) ?_ ?_
  rotate_left
  · intro w'; go_simp; try with_reducible rfl
  rotate_left
  · simp only [Act.put, List.setIfInBounds_toArray, List.set_cons_zero, List.set_cons_succ, i64_w, i32_w]; rfl
  refine take_ (i := 20) (N := some 89) (v := ?_) (a' := ?_) #[true, true, true, true, true, true, true, true, true, true, true, true, true, true, true, true, true, true, true, true, true, false, false, false, false, false, false, false, false, false, false, false, false, false, false, false, false] rfl rfl (by kernel_rfl) (fun _ _ _ h => h) (Or.inl ⟨by rfl, ?_⟩) hHeld ?_ ?_
  rotate_left
  · intro w' hS_; (try dsimp only at hS_); go_split_ands; go_simp; try with_reducible rfl
  rotate_left
  · simp only [Act.put, List.setIfInBounds_toArray, List.set_cons_zero, List.set_cons_succ, i64_w, i32_w]; rfl
  refine pure_ (i := 21) (N := some 90) (v := ?_) (a' := ?_) #[true, true, true, true, true, true, true, true, true, true, true, true, true, true, true, true, true, true, true, true, true, true, false, false, false, false, false, false, false, false, false, false, false, false, false, false, false] rfl rfl (by kernel_rfl) (fun _ _ _ h => h) (Or.inl ⟨by rfl, ?_⟩) ?_ ?_
  rotate_left
  · intro w'; go_simp; try with_reducible rfl
  rotate_left
  · simp only [Act.put, List.setIfInBounds_toArray, List.set_cons_zero, List.set_cons_succ, i64_w, i32_w]; rfl
  refine take_ (i := 22) (N := some 91) (v := ?_) (a' := ?_) #[true, true, true, true, true, true, true, true, true, true, true, true, true, true, true, true, true, true, true, true, true, true, true, false, false, false, false, false, false, false, false, false, false, false, false, false, false] rfl rfl (by kernel_rfl) (fun _ _ _ h => h) (Or.inl ⟨by rfl, ?_⟩) hHeld ?_ ?_
  rotate_left
  · intro w' hS_; (try dsimp only at hS_); go_split_ands; go_simp; try with_reducible rfl
  rotate_left
  · simp only [Act.put, List.setIfInBounds_toArray, List.set_cons_zero, List.set_cons_succ, i64_w, i32_w]; rfl
  refine pure_ (i := 23) (N := some 92) (v := ?_) (a' := ?_) #[true, true, true, true, true, true, true, true, true, true, true, true, true, true, true, true, true, true, true, true, true, true, true, true, false, false, false, false, false, false, false, false, false, false, false, false, false] rfl rfl (by kernel_rfl) (fun _ _ _ h => h) (Or.inl ⟨by rfl, ?_⟩) ?_ ?_
  rotate_left
  · intro w'; go_simp; try with_reducible rfl
  rotate_left
  · simp only [Act.put, List.setIfInBounds_toArray, List.set_cons_zero, List.set_cons_succ, i64_w, i32_w]; rfl
  refine pure_ (i := 24) (N := some 93) (v := ?_) (a' := ?_) #[true, true, true, true, true, true, true, true, true, true, true, true, true, true, true, true, true, true, true, true, true, true, true, true, true, false, false, false, false, false, false, false, false, false, false, false, false] rfl rfl (by kernel_rfl) (fun _ _ _ h => h) (Or.inl ⟨by rfl, ?_⟩) ?_ ?_
  rotate_left
  · intro w'; go_simp; try with_reducible rfl
  rotate_left
  · simp only [Act.put, List.setIfInBounds_toArray, List.set_cons_zero, List.set_cons_succ, i64_w, i32_w]; rfl
  refine pure_ (i := 25) (N := some 94) (v := ?_) (a' := ?_) #[true, true, true, true, true, true, true, true, true, true, true, true, true, true, true, true, true, true, true, true, true, true, true, true, true, true, false, false, false, false, false, false, false, false, false, false, false] rfl rfl (by kernel_rfl) (fun _ _ _ h => h) (Or.inl ⟨by rfl, ?_⟩) ?_ ?_
  rotate_left
  · intro w'; go_simp; try with_reducible rfl
  rotate_left
  · simp only [Act.put, List.setIfInBounds_toArray, List.set_cons_zero, List.set_cons_succ, i64_w, i32_w]; rfl
  refine pure_ (i := 26) (N := some 95) (v := ?_) (a' := ?_) #[true, true, true, true, true, true, true, true, true, true, true, true, true, true, true, true, true, true, true, true, true, true, true, true, true, true, true, false, false, false, false, false, false, false, false, false, false] rfl rfl (by kernel_rfl) (fun _ _ _ h => h) (Or.inl ⟨by rfl, ?_⟩) ?_ ?_
  rotate_left
  · intro w'; go_simp; try with_reducible rfl
  rotate_left
  · simp only [Act.put, List.setIfInBounds_toArray, List.set_cons_zero, List.set_cons_succ, i64_w, i32_w]; rfl
  refine take_ (i := 27) (N := some 96) (v := ?_) (a' := ?_) #[true, true, true, true, true, true, true, true, true, true, true, true, true, true, true, true, true, true, true, true, true, true, true, true, true, true, true, true, false, false, false, false, false, false, false, false, false] rfl rfl (by kernel_rfl) (fun _ _ _ h => h) (Or.inl ⟨by rfl, ?_⟩) hHeld ?_ ?_
  rotate_left
  · intro w' hS_; (try dsimp only at hS_); go_split_ands; go_simp; try with_reducible rfl
  rotate_left
  · simp only [Act.put, List.setIfInBounds_toArray, List.set_cons_zero, List.set_cons_succ, i64_w, i32_w]; rfl
  refine pure_ (i := 28) (N := some 97) (v := ?_) (a' := ?_) #[true, true, true, true, true, true, true, true, true, true, true, true, true, true, true, true, true, true, true, true, true, true, true, true, true, true, true, true, true, false, false, false, false, false, false, false, false] rfl rfl (by kernel_rfl) (fun _ _ _ h => h) (Or.inl ⟨by rfl, ?_⟩) ?_ ?_
  rotate_left
  · intro w'; go_simp; try with_reducible rfl
  rotate_left
  · simp only [Act.put, List.setIfInBounds_toArray, List.set_cons_zero, List.set_cons_succ, i64_w, i32_w]; rfl
  refine take_ (i := 29) (N := some 98) (v := ?_) (a' := ?_) #[true, true, true, true, true, true, true, true, true, true, true, true, true, true, true, true, true, true, true, true, true, true, true, true, true, true, true, true, true, true, false, false, false, false, false, false, false] rfl rfl (by kernel_rfl) (fun _ _ _ h => h) (Or.inl ⟨by rfl, ?_⟩) hHeld ?_ ?_
  rotate_left
  · intro w' hS_; (try dsimp only at hS_); go_split_ands; go_simp; try with_reducible rfl
  rotate_left
  · simp only [Act.put, List.setIfInBounds_toArray, List.set_cons_zero, List.set_cons_succ, i64_w, i32_w]; rfl
  refine pure_ (i := 30) (N := some 99) (v := ?_) (a' := ?_) #[true, true, true, true, true, true, true, true, true, true, true, true, true, true, true, true, true, true, true, true, true, true, true, true, true, true, true, true, true, true, true, false, false, false, false, false, false] rfl rfl (by kernel_rfl) (fun _ _ _ h => h) (Or.inl ⟨by rfl, ?_⟩) ?_ ?_
  rotate_left
  · intro w'; go_simp; try with_reducible rfl
  rotate_left
  · simp only [Act.put, List.setIfInBounds_toArray, List.set_cons_zero, List.set_cons_succ, i64_w, i32_w]; rfl
  refine take_ (i := 31) (N := some 100) (v := ?_) (a' := ?_) #[true, true, true, true, true, true, true, true, true, true, true, true, true, true, true, true, true, true, true, true, true, true, true, true, true, true, true, true, true, true, true, true, false, false, false, false, false] rfl rfl (by kernel_rfl) (fun _ _ _ h => h) (Or.inl ⟨by rfl, ?_⟩) hHeld ?_ ?_
  rotate_left
  · intro w' hS_; (try dsimp only at hS_); go_split_ands; go_simp; try with_reducible rfl
  rotate_left
  · simp only [Act.put, List.setIfInBounds_toArray, List.set_cons_zero, List.set_cons_succ, i64_w, i32_w]; rfl
  refine take_ (i := 32) (N := some 101) (v := ?_) (a' := ?_) #[true, true, true, true, true, true, true, true, true, true, true, true, true, true, true, true, true, true, true, true, true, true, true, true, true, true, true, true, true, true, true, true, true, false, false, false, false] rfl rfl (by kernel_rfl) (fun _ _ _ h => h) (Or.inl ⟨by rfl, ?_⟩) hHeld ?_ ?_
  rotate_left
  · intro w' hS_; (try dsimp only at hS_); go_split_ands; go_simp; try with_reducible rfl
  rotate_left
  · simp only [Act.put, List.setIfInBounds_toArray, List.set_cons_zero, List.set_cons_succ, i64_w, i32_w]; rfl
  refine one_ (i := 33) (N := some 102) #[true, true, true, true, true, true, true, true, true, true, true, true, true, true, true, true, true, true, true, true, true, true, true, true, true, true, true, true, true, true, true, true, true, true, false, false, false] rfl rfl (by kernel_rfl) (by decide) (fun K hK => ?_)
  refine goes_ Try.func26 (by kernel_rfl) rfl #[.agg #[.int .i64 a0, .int .i64 a1, .int .i64 a2, .int .i64 x, .int .i64 a4, .int .u32 own, .int .u32 a6, .string d]] (by rfl) rfl rfl (by (try simp only [List.map_toArray, List.map_cons, List.map_nil]); first | done | rfl) ?_
  with_reducible refine (Po.out _).mono ?_
  rintro e V1 ⟨rfl, hb⟩
  refine ⟨_, rfl, ?_⟩
  replace A2 := blk_below A2 hb
  replace A5 := blk_below A5 hb
  replace A7 := blk_below A7 hb
  replace A9 := blk_below A9 hb
  replace Z := Z.trans (hb.mono Z.size)
  clear hb
  try clear hHeld
  refine hK.out _ _ (by exact ⟨(blk_cell A7 0).trans rfl, (blk_cell A7 1).trans rfl, (blk_cell A7 2).trans rfl, (blk_cell A7 3).trans rfl, (blk_cell A7 4).trans rfl, (blk_cell A7 5).trans rfl, (blk_cell A7 6).trans rfl, (blk_cell A7 7).trans rfl, (blk_cell A9 0).trans rfl, (blk_cell A9 1).trans rfl, (blk_cell A9 2).trans rfl, (blk_cell A9 3).trans rfl, (blk_cell A9 4).trans rfl, (blk_cell A9 5).trans rfl, (blk_cell A9 6).trans rfl, (blk_cell A9 7).trans rfl, (blk_cell A2 1).trans rfl, (blk_cell A2 3).trans rfl, (blk_cell A2 5).trans rfl, (blk_cell A5 2).trans rfl⟩) (fun hHeld => ?_)
  clear hK K
  refine norm_ (a' := ?_) ?_ ?_
  rotate_left
  · show Act.put _ (some 102) _ = _; simp only [Act.put, List.setIfInBounds_toArray, List.set_cons_zero, List.set_cons_succ, i64_w, i32_w]; rfl
  refine one_ (i := 34) (N := some 103) #[true, true, true, true, true, true, true, true, true, true, true, true, true, true, true, true, true, true, true, true, true, true, true, true, true, true, true, true, true, true, true, true, true, true, true, false, false] rfl rfl (by kernel_rfl) (by decide) (fun K hK => ?_)
  refine goes_ Try.func24 (by kernel_rfl) rfl #[.slice A l.length c, .int .i64 a4, .int .u32 a6, .int .i64 pt] (by rfl) rfl rfl (by (try simp only [List.map_toArray, List.map_cons, List.map_nil]); first | done | rfl) ?_
  with_reducible refine (R.out _ Z).mono ?_
  rintro e V2 ⟨rfl, hb⟩
  refine ⟨_, rfl, ?_⟩
  replace A2 := blk_below A2 hb
  replace A5 := blk_below A5 hb
  replace A7 := blk_below A7 hb
  replace A9 := blk_below A9 hb
  replace Z := Z.trans (hb.mono Z.size)
  clear hb
  try clear hHeld
  refine hK.out _ _ (by exact ⟨(blk_cell A7 0).trans rfl, (blk_cell A7 1).trans rfl, (blk_cell A7 2).trans rfl, (blk_cell A7 3).trans rfl, (blk_cell A7 4).trans rfl, (blk_cell A7 5).trans rfl, (blk_cell A7 6).trans rfl, (blk_cell A7 7).trans rfl, (blk_cell A9 0).trans rfl, (blk_cell A9 1).trans rfl, (blk_cell A9 2).trans rfl, (blk_cell A9 3).trans rfl, (blk_cell A9 4).trans rfl, (blk_cell A9 5).trans rfl, (blk_cell A9 6).trans rfl, (blk_cell A9 7).trans rfl, (blk_cell A2 1).trans rfl, (blk_cell A2 3).trans rfl, (blk_cell A2 5).trans rfl, (blk_cell A5 2).trans rfl⟩) (fun hHeld => ?_)
  clear hK K
  refine norm_ (a' := ?_) ?_ ?_
  rotate_left
  · show Act.put _ (some 103) _ = _; simp only [Act.put, List.setIfInBounds_toArray, List.set_cons_zero, List.set_cons_succ, i64_w, i32_w]; rfl
  refine pure_ (i := 35) (N := some 104) (v := ?_) (a' := ?_) #[true, true, true, true, true, true, true, true, true, true, true, true, true, true, true, true, true, true, true, true, true, true, true, true, true, true, true, true, true, true, true, true, true, true, true, true, false] rfl rfl (by kernel_rfl) (fun _ _ _ h => h) (Or.inl ⟨by rfl, ?_⟩) ?_ ?_
  rotate_left
  · intro w'; go_simp; try with_reducible rfl
  rotate_left
  · simp only [Act.put, List.setIfInBounds_toArray, List.set_cons_zero, List.set_cons_succ, i64_w, i32_w]; rfl
  refine pure_ (i := 36) (N := some 4) (v := ?_) (a' := ?_) #[true, true, true, true, true, true, true, true, true, true, true, true, true, true, true, true, true, true, true, true, true, true, true, true, true, true, true, true, true, true, true, true, true, true, true, true, true] rfl rfl (by kernel_rfl) (fun _ _ _ h => h) (Or.inl ⟨by rfl, ?_⟩) ?_ ?_
  rotate_left
  · intro w'; go_simp; try with_reducible rfl
  rotate_left
  · simp only [Act.put, List.setIfInBounds_toArray, List.set_cons_zero, List.set_cons_succ, i64_w, i32_w]; rfl
  refine done_ (by kernel_rfl) ?_
  go_wp2
  go_ret
  exact ⟨rfl, Z⟩
end Go.Proofs.Ytcpneggifmldoaa.T
set_option linter.unusedVariables false
set_option linter.unusedSimpArgs false
namespace Go.Proofs.Ytcpneggifmldoaa.T
open Go.RowKit Go.Proofs.YtcpneggifmldoaaW.PrintWords Go.Proofs.YtcpneggifmldoaaW.PrintLast Go.Proofs.YtcpneggifmldoaaW.PrintMore Go
theorem tp_calls (ip : Bool) (addr port own prt : Int) (A : Option Addr) (c : Nat) (l : List S40) (s : ByteArray) (w : World) (hr : Kd.C k40 w A l.length l) (hc : l.length ≤ c) (hl : l.length < 2932031007402)
    (hw : ∀ z ∈ l, AdrR z) (ha : 0 ≤ addr) (ha2 : addr < 4294967296) :
    Calls Try.prog 8 #[.agg #[.bool ip, .int .u32 addr, .int .i64 port, .int .u32 own, .int .i64 prt, .slice A l.length c], .string s] w fun e w' => e = .returned (.bool true) ∧ Below w.heap.size w w' := by
  have hl' : l.length ≤ 4611686018427387904 := by omega
  obtain ⟨k, hU⟩ := (up_ev ip addr port own prt l s hw hl' ha ha2).rounds
  unfold upV at hU
  by_cases hs : 1000 < s.size
  · rw [if_pos hs] at hU
    exact tp_no ip addr port own prt A c l s w hr hc hl 8 rfl rfl k hU
  rw [if_neg hs] at hU
  cases ip
  · rw [if_neg (by decide)] at hU
    by_cases hb : AllowS l 17 addr port = true
    · rw [if_pos hb] at hU
      obtain ⟨k', hR⟩ := (refAllow_f l hw hl' 17 addr port ha ha2).rounds
      simp only [hb] at hR
      exact tp_plain addr port own prt A c l s w hr hc hl k' hR k hU
    · rw [if_neg hb] at hU
      exact tp_no false addr port own prt A c l s w hr hc hl 15 rfl rfl k hU
  rw [if_pos rfl] at hU
  unfold packV' at hU
  obtain ⟨a0, a1, a2, a3, a4, a5, a6, d, u, hp⟩ : ∃ a0 a1 a2 a3 a4 a5 a6 d u, parseV s = (a0, a1, a2, a3, a4, a5, a6, d, u) := ⟨_, _, _, _, _, _, _, _, _, rfl⟩
  rw [hp] at hU
  simp only at hU
  by_cases hu : u = 0
  · subst hu
    rw [if_pos rfl] at hU
    obtain ⟨hk, q5, q5', q6, q6', hd, -⟩ := parse_ok hp
    by_cases hb : a5 = own ∧ AllowS l a4 a6 (portsV a2 a4 d).2.1 = true
    · rw [if_pos hb] at hU
      obtain ⟨ho, hb⟩ := hb
      by_cases ht : a3 < 2
      · have hh : hopV s = (⟨#[]⟩, 2) := by unfold hopV; rw [hp]; simp only; rw [if_pos trivial, if_pos ht]
        rw [hh] at hU
        simp only at hU
        rw [if_neg (by decide)] at hU
        exact tp_no true addr port own prt A c l s w hr hc hl 2 rfl rfl k hU
      · have hk' : okH a0 a1 a2 (a3 - 1) a4 := by unfold okH at *; omega
        have hh : hopV s = (packV a0 a1 a2 (a3 - 1) a4 a5 a6 d, 0) := by unfold hopV; rw [hp]; simp only; rw [if_pos trivial, if_neg ht]
        rw [hh] at hU
        simp only at hU
        rw [if_pos trivial] at hU
        obtain ⟨k', hR⟩ := (refAllow_f l hw hl' a4 a6 (portsV a2 a4 d).2.1 q6 q6').rounds
        simp only [hb] at hR
        subst ho
        exact tp_ip addr port a5 prt A c l s w hr hc hl _ a0 a1 a2 a3 a4 a6 d hp (a3 - 1) (by unfold okH at hk; unfold wrap64; omega) (parse_pack hk' q5 q5' q6 q6' hd) _ _ (rport_f a0 a1 a2 (a3 - 1) a4 a5 a6 d (by unfold okH at hk; omega) (by unfold okH at hk; omega) 0) k' hR k hU
    · rw [if_neg hb] at hU
      exact tp_no true addr port own prt A c l s w hr hc hl 15 rfl rfl k hU
  · rw [if_neg hu] at hU
    have h0 : (u == 0) = false := beq_eq_false_iff_ne.2 hu
    exact tp_no true addr port own prt A c l s w hr hc hl u h0 (by rw [bne, h0]; rfl) k hU
end Go.Proofs.Ytcpneggifmldoaa.T
namespace Go.Proofs.Ytcpneggifmldoaa.T
open Go.RowKit Go.Proofs.YtcpneggifmldoaaW.PrintWords Go.ChangeShapes Go.WideShapes Go.Deep
theorem adr_of {z : S40} (h : Wf40 z) : AdrR z := by
  have := h.2.1
  unfold AdrR
  simp only [Lit.wf, IntKind.min, IntKind.max, IntKind.signed, IntKind.bits, Bool.and_eq_true] at this
  simp at this
  omega
theorem u32_of {a : Int} (h : (Lit.int .u32 a).wf = true) : 0 ≤ a ∧ a < 4294967296 := by
  simp only [Lit.wf, IntKind.min, IntKind.max, IntKind.signed, IntKind.bits, Bool.and_eq_true] at h
  simp at h
  omega
end Go.Proofs.Ytcpneggifmldoaa.T

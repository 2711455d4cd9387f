-- laid by ext.py (this session's) over the kit's print; the functions named EXT in it are proved by hand
import Derived.Test.YtcpneggifmldoaaXx0
import Derived.Test.YtcpneggifmldoaaXx9
import Derived.Test.YtcpneggifmldoaaXx10
import Derived.Test.YtcpneggifmldoaaXx18
import Derived.Test.YtcpneggifmldoaaXx19
namespace Go.Proofs.Ytcpneggifmldoaa.X
open Go.RowKit Go.Proofs.YtcpneggifmldoaaW.PrintWords Go.Proofs.YtcpneggifmldoaaW.PrintLast Go.Proofs.YtcpneggifmldoaaW.PrintMore
attribute [local go_sem] max2_int min2_int max_two min_two max_three min_three max_four min_four   -- for this text's walks alone
set_option linter.unusedVariables false
set_option linter.unusedSimpArgs false

/-! ### vizardlaw18_PolicyCovers: function 4 -/
mutual
def vizardlaw18_PolicyCovers.l0 : Nat → List (S40) → Int → Int → Int → List (S30) → Bool → Int → Option (Bool)
  | 0, _, _, _, _, _, _, _ => none
  | k + 1, x0, x1, x2, x3, x9, x10, x11 => if x11 < (x9.length : Int) then (if 0 ≤ x11 then (if ((rd_T30 x9 x11).f0) > ((rd_T30 x9 x11).f1) then (some false) else (if x11 > 0 then (if 0 ≤ (wrap64 (x11 - 1)) then (if (wrap64 (x11 - 1)) < (x9.length : Int) then (if (wrap64 ((rd_T30 x9 x11).f0)) ≤ (wrap64 ((wrap64 ((rd_T30 x9 (wrap64 (x11 - 1))).f1)) + 1)) then (some false) else (if ((rd_T30 x9 x11).f2) = 0 then (if x10 = true then (vizardlaw18_PolicyCovers.l0 k x0 x1 x2 x3 x9 true (wrap64 (x11 + 1))) else (if x2 ≥ ((rd_T30 x9 x11).f0) then (vizardlaw18_PolicyCovers.l0 k x0 x1 x2 x3 x9 (decide (x2 ≤ ((rd_T30 x9 x11).f1))) (wrap64 (x11 + 1))) else (vizardlaw18_PolicyCovers.l0 k x0 x1 x2 x3 x9 false (wrap64 (x11 + 1))))) else (some false))) else (none)) else (none)) else (if ((rd_T30 x9 x11).f2) = 0 then (if x10 = true then (vizardlaw18_PolicyCovers.l0 k x0 x1 x2 x3 x9 true (wrap64 (x11 + 1))) else (if x2 ≥ ((rd_T30 x9 x11).f0) then (vizardlaw18_PolicyCovers.l0 k x0 x1 x2 x3 x9 (decide (x2 ≤ ((rd_T30 x9 x11).f1))) (wrap64 (x11 + 1))) else (vizardlaw18_PolicyCovers.l0 k x0 x1 x2 x3 x9 false (wrap64 (x11 + 1))))) else (some false)))) else (none)) else (if (x9.length : Int) ≥ 16 then (vizardlaw18_PolicyCovers.j1 k x0 x1 x2 x3 x9 x10 true) else (if x1 < 1 then (vizardlaw18_PolicyCovers.j1 k x0 x1 x2 x3 x9 x10 true) else (if x1 > 255 then (vizardlaw18_PolicyCovers.j1 k x0 x1 x2 x3 x9 x10 true) else (if x3 < 0 then (vizardlaw18_PolicyCovers.j1 k x0 x1 x2 x3 x9 x10 true) else (vizardlaw18_PolicyCovers.j1 k x0 x1 x2 x3 x9 x10 (decide (x3 > 65535)))))))
def vizardlaw18_PolicyCovers.j1 : Nat → List (S40) → Int → Int → Int → List (S30) → Bool → Bool → Option (Bool)
  | 0, _, _, _, _, _, _, _ => none
  | k + 1, x0, x1, x2, x3, x9, x10, x100 => if x100 = true then (some (decide ((x9.length : Int) ≤ 16))) else (if x10 = true then (some true) else ((vizardlaw18_own.f x0).bind fun t265 => ((policy_Allow.f k t265 x1 x2 x3).bind fun t268 => (some (!t268)))))
end
def vizardlaw18_PolicyCovers.f (k : Nat) (l0 : List (S40)) (a1 : Int) (a2 : Int) (a3 : Int) : Option (Bool) := (vizardlaw18_works.f k).bind fun t248 => (if t248 = true then ((vizardlaw18_own.f l0).bind fun t249 => ((policy_Routes.f k t249).bind fun t252 => (vizardlaw18_PolicyCovers.l0 k l0 a1 a2 a3 t252 false 0))) else (some false))
theorem vizardlaw18_PolicyCovers.mono_l : ∀ k, (∀ y0 y1 y2 y3 y4 y5 y6, LeO (vizardlaw18_PolicyCovers.l0 k y0 y1 y2 y3 y4 y5 y6) (vizardlaw18_PolicyCovers.l0 (k + 1) y0 y1 y2 y3 y4 y5 y6)) ∧ (∀ y0 y1 y2 y3 y4 y5 y6, LeO (vizardlaw18_PolicyCovers.j1 k y0 y1 y2 y3 y4 y5 y6) (vizardlaw18_PolicyCovers.j1 (k + 1) y0 y1 y2 y3 y4 y5 y6))
  | 0 => ⟨fun _ _ _ _ _ _ _ r h => by simp [vizardlaw18_PolicyCovers.l0] at h, fun _ _ _ _ _ _ _ r h => by simp [vizardlaw18_PolicyCovers.j1] at h⟩
  | k + 1 => by
    obtain ⟨ih0, ih1⟩ := vizardlaw18_PolicyCovers.mono_l k
    refine ⟨?_, ?_⟩
    · intro y0 y1 y2 y3 y4 y5 y6
      unfold vizardlaw18_PolicyCovers.l0
      repeat' first
      | (with_reducible exact ih0 _ _ _ _ _ _ _)
      | (with_reducible exact ih1 _ _ _ _ _ _ _)
      | (with_reducible exact policy_Allow.mono _ _ _ _ _)
      | (with_reducible exact policy_Routes.mono _ _)
      | (with_reducible exact vizardlaw18_works.mono _)
      | (with_reducible exact LeO.refl _)
      | (with_reducible exact LeO.none _)
      | (with_reducible refine LeO.ite ?_ ?_)
      | (with_reducible refine LeO.bind ?_ (fun _ => ?_))
      | exact ih0 _ _ _ _ _ _ _
      | exact ih1 _ _ _ _ _ _ _
      | exact policy_Allow.mono _ _ _ _ _
      | exact policy_Routes.mono _ _
      | exact vizardlaw18_works.mono _
      | exact LeO.none _
      | refine LeO.ite ?_ ?_
      | refine LeO.bind ?_ (fun _ => ?_)
    · intro y0 y1 y2 y3 y4 y5 y6
      unfold vizardlaw18_PolicyCovers.j1
      repeat' first
      | (with_reducible exact ih0 _ _ _ _ _ _ _)
      | (with_reducible exact ih1 _ _ _ _ _ _ _)
      | (with_reducible exact policy_Allow.mono _ _ _ _ _)
      | (with_reducible exact policy_Routes.mono _ _)
      | (with_reducible exact vizardlaw18_works.mono _)
      | (with_reducible exact LeO.refl _)
      | (with_reducible exact LeO.none _)
      | (with_reducible refine LeO.ite ?_ ?_)
      | (with_reducible refine LeO.bind ?_ (fun _ => ?_))
      | exact ih0 _ _ _ _ _ _ _
      | exact ih1 _ _ _ _ _ _ _
      | exact policy_Allow.mono _ _ _ _ _
      | exact policy_Routes.mono _ _
      | exact vizardlaw18_works.mono _
      | exact LeO.none _
      | refine LeO.ite ?_ ?_
      | refine LeO.bind ?_ (fun _ => ?_)
theorem vizardlaw18_PolicyCovers.mono : ∀ a0 a1 a2 a3 k, LeO (vizardlaw18_PolicyCovers.f k a0 a1 a2 a3) (vizardlaw18_PolicyCovers.f (k + 1) a0 a1 a2 a3) := by
  intro a0 a1 a2 a3 k
  obtain ⟨ih0, ih1⟩ := vizardlaw18_PolicyCovers.mono_l k
  unfold vizardlaw18_PolicyCovers.f
  repeat' first
      | (with_reducible exact ih0 _ _ _ _ _ _ _)
      | (with_reducible exact ih1 _ _ _ _ _ _ _)
      | (with_reducible exact policy_Allow.mono _ _ _ _ _)
      | (with_reducible exact policy_Routes.mono _ _)
      | (with_reducible exact vizardlaw18_works.mono _)
      | (with_reducible exact LeO.refl _)
      | (with_reducible exact LeO.none _)
      | (with_reducible refine LeO.ite ?_ ?_)
      | (with_reducible refine LeO.bind ?_ (fun _ => ?_))
      | exact ih0 _ _ _ _ _ _ _
      | exact ih1 _ _ _ _ _ _ _
      | exact policy_Allow.mono _ _ _ _ _
      | exact policy_Routes.mono _ _
      | exact vizardlaw18_works.mono _
      | exact LeO.none _
      | refine LeO.ite ?_ ?_
      | refine LeO.bind ?_ (fun _ => ?_)
set_option maxHeartbeats 8000000 in
set_option maxRecDepth 100000 in
theorem vizardlaw18_PolicyCovers.calls (k : Nat) (A0 : Option Addr) (c0 : Nat) (l0 : List (S40)) (a1 : Int) (a2 : Int) (a3 : Int) (r : Bool) (w : World) (hr0 : Kd.C k40 w A0 l0.length l0) (hc0 : l0.length ≤ c0) (h : vizardlaw18_PolicyCovers.f k l0 a1 a2 a3 = some r) :
    Calls Try.prog 4 #[.slice A0 l0.length c0, .int .i64 a1, .int .u32 a2, .int .i64 a3] w fun e w' => e = .returned (.bool r) ∧ Below w.heap.size w w' := by
  have HR0 := Aside0.mk hr0
  have HC0 := Aside0.mk hc0
  clear hr0 hc0
  have HB := Aside0.mk (Below.refl w.heap.size w)
  have H : ((vizardlaw18_works.f k).bind fun t248 => (if t248 = true then ((vizardlaw18_own.f l0).bind fun t249 => ((policy_Routes.f k t249).bind fun t252 => (vizardlaw18_PolicyCovers.l0 k l0 a1 a2 a3 t252 false 0))) else (some false))) = some r := h
  clear h
  replace H := Option.bind_eq_some_iff.mp H
  obtain ⟨t248, A50, H⟩ := H
  replace H : (if t248 = true then ((vizardlaw18_own.f l0).bind fun t249 => ((policy_Routes.f k t249).bind fun t252 => (vizardlaw18_PolicyCovers.l0 k l0 a1 a2 a3 t252 false 0))) else (some false)) = some r := H
  have A5 := Aside0.mk A50
  clear A50
  by_cases c6 : t248 = true
  · subst c6
    have H1 : ((vizardlaw18_own.f l0).bind fun t249 => ((policy_Routes.f k t249).bind fun t252 => (vizardlaw18_PolicyCovers.l0 k l0 a1 a2 a3 t252 false 0))) = some r := by rw [if_pos rfl] at H; exact H
    clear H
    have H := H1
    clear H1
    replace H := Option.bind_eq_some_iff.mp H
    obtain ⟨t249, A70, H⟩ := H
    replace H : ((policy_Routes.f k t249).bind fun t252 => (vizardlaw18_PolicyCovers.l0 k l0 a1 a2 a3 t252 false 0)) = some r := H
    have A7 := Aside0.mk A70
    clear A70
    replace H := Option.bind_eq_some_iff.mp H
    obtain ⟨t252, A80, H⟩ := H
    replace H : (vizardlaw18_PolicyCovers.l0 k l0 a1 a2 a3 t252 false 0) = some r := H
    have A8 := Aside0.mk A80
    clear A80
    have H' := Aside0.mk H
    clear H
    go_enter Try.func4, Try.ntmps4
    go_wp2_with (first | (go_at_call 13; (with_reducible refine (vizardlaw18_works.calls k  true _ A5.out).mono ?_); rintro e w9 ⟨rfl, hb⟩; have n0_ := Aside0.mk (below_step (by repeat (first | (with_reducible first | exact HB.out | apply below_alloc | apply pw_below_drewN | apply below_drew1) | exact HB.out)) hb); clear HB; have HB := n0_; clear n0_; (try clear hb); (try clear hb2); (try clear hk); (try clear hi)) | (go_at_call 11; (with_reducible refine (vizardlaw18_own.calls _ _ l0 t249 _ ?side1 ?side2 A7.out).mono ?_); (case side1 => repeat (first | exact (Kd.C_below HR0.out HB.out) | (with_reducible refine Kd.C_alloc ?_ _) | (with_reducible refine Kd.C_drewN ?_ _) | (with_reducible refine Kd.C_drew ?_))); (case side2 => exact HC0.out); rintro e w10 ⟨v250, rfl, ho0, hb⟩; have n0_ := Aside0.mk (Kd.R_lower ho0 (below_size (by repeat (first | (with_reducible first | exact HB.out | apply below_alloc | apply pw_below_drewN | apply below_drew1) | exact HB.out)))); have n1_ := Aside0.mk (below_step (by repeat (first | (with_reducible first | exact HB.out | apply below_alloc | apply pw_below_drewN | apply below_drew1) | exact HB.out)) hb); clear HB; have HO251 := n0_; have HB := n1_; clear n0_ n1_; (try clear hb); (try clear hb2); (try clear hk); (try clear hi); (try clear ho0); obtain ⟨Ao11, co11, eo11⟩ := Kd.R_slice HO251.out; subst eo11) | (go_at_call 10; (with_reducible refine (policy_Routes.calls k _ _ t249 t252 _ ?side1 ?side2 A8.out).mono ?_); (case side1 => repeat (first | exact (Kd.R_reads' HO251.out).2.2 | (with_reducible refine Kd.C_alloc ?_ _) | (with_reducible refine Kd.C_drewN ?_ _) | (with_reducible refine Kd.C_drew ?_))); (case side2 => exact (Kd.R_reads' HO251.out).2.1); rintro e w12 ⟨v253, rfl, ho0, hb⟩; have n0_ := Aside0.mk (Kd.R_below (by (with_reducible repeat (first | apply Kd.R_alloc | apply Kd.R_drewN | apply Kd.R_drew)); exact HO251.out) hb); have n1_ := Aside0.mk (Kd.R_lower ho0 (below_size (by repeat (first | (with_reducible first | exact HB.out | apply below_alloc | apply pw_below_drewN | apply below_drew1) | exact HB.out)))); have n2_ := Aside0.mk (below_step (by repeat (first | (with_reducible first | exact HB.out | apply below_alloc | apply pw_below_drewN | apply below_drew1) | exact HB.out)) hb); clear HO251; clear HB; have HO251 := n0_; have HO254 := n1_; have HB := n2_; clear n0_ n1_ n2_; (try clear hb); (try clear hb2); (try clear hk); (try clear hi); (try clear ho0)))
    repeat (go_quiet (first | (go_at_call 13; (with_reducible refine (vizardlaw18_works.calls k  true _ A5.out).mono ?_); rintro e w9 ⟨rfl, hb⟩; have n0_ := Aside0.mk (below_step (by repeat (first | (with_reducible first | exact HB.out | apply below_alloc | apply pw_below_drewN | apply below_drew1) | exact HB.out)) hb); clear HB; have HB := n0_; clear n0_; (try clear hb); (try clear hb2); (try clear hk); (try clear hi)) | (go_at_call 11; (with_reducible refine (vizardlaw18_own.calls _ _ l0 t249 _ ?side1 ?side2 A7.out).mono ?_); (case side1 => repeat (first | exact (Kd.C_below HR0.out HB.out) | (with_reducible refine Kd.C_alloc ?_ _) | (with_reducible refine Kd.C_drewN ?_ _) | (with_reducible refine Kd.C_drew ?_))); (case side2 => exact HC0.out); rintro e w10 ⟨v250, rfl, ho0, hb⟩; have n0_ := Aside0.mk (Kd.R_lower ho0 (below_size (by repeat (first | (with_reducible first | exact HB.out | apply below_alloc | apply pw_below_drewN | apply below_drew1) | exact HB.out)))); have n1_ := Aside0.mk (below_step (by repeat (first | (with_reducible first | exact HB.out | apply below_alloc | apply pw_below_drewN | apply below_drew1) | exact HB.out)) hb); clear HB; have HO251 := n0_; have HB := n1_; clear n0_ n1_; (try clear hb); (try clear hb2); (try clear hk); (try clear hi); (try clear ho0); obtain ⟨Ao11, co11, eo11⟩ := Kd.R_slice HO251.out; subst eo11) | (go_at_call 10; (with_reducible refine (policy_Routes.calls k _ _ t249 t252 _ ?side1 ?side2 A8.out).mono ?_); (case side1 => repeat (first | exact (Kd.R_reads' HO251.out).2.2 | (with_reducible refine Kd.C_alloc ?_ _) | (with_reducible refine Kd.C_drewN ?_ _) | (with_reducible refine Kd.C_drew ?_))); (case side2 => exact (Kd.R_reads' HO251.out).2.1); rintro e w12 ⟨v253, rfl, ho0, hb⟩; have n0_ := Aside0.mk (Kd.R_below (by (with_reducible repeat (first | apply Kd.R_alloc | apply Kd.R_drewN | apply Kd.R_drew)); exact HO251.out) hb); have n1_ := Aside0.mk (Kd.R_lower ho0 (below_size (by repeat (first | (with_reducible first | exact HB.out | apply below_alloc | apply pw_below_drewN | apply below_drew1) | exact HB.out)))); have n2_ := Aside0.mk (below_step (by repeat (first | (with_reducible first | exact HB.out | apply below_alloc | apply pw_below_drewN | apply below_drew1) | exact HB.out)) hb); clear HO251; clear HB; have HO251 := n0_; have HO254 := n1_; have HB := n2_; clear n0_ n1_ n2_; (try clear hb); (try clear hb2); (try clear hk); (try clear hi); (try clear ho0))); try go_wp2_with (first | (go_at_call 13; (with_reducible refine (vizardlaw18_works.calls k  true _ A5.out).mono ?_); rintro e w9 ⟨rfl, hb⟩; have n0_ := Aside0.mk (below_step (by repeat (first | (with_reducible first | exact HB.out | apply below_alloc | apply pw_below_drewN | apply below_drew1) | exact HB.out)) hb); clear HB; have HB := n0_; clear n0_; (try clear hb); (try clear hb2); (try clear hk); (try clear hi)) | (go_at_call 11; (with_reducible refine (vizardlaw18_own.calls _ _ l0 t249 _ ?side1 ?side2 A7.out).mono ?_); (case side1 => repeat (first | exact (Kd.C_below HR0.out HB.out) | (with_reducible refine Kd.C_alloc ?_ _) | (with_reducible refine Kd.C_drewN ?_ _) | (with_reducible refine Kd.C_drew ?_))); (case side2 => exact HC0.out); rintro e w10 ⟨v250, rfl, ho0, hb⟩; have n0_ := Aside0.mk (Kd.R_lower ho0 (below_size (by repeat (first | (with_reducible first | exact HB.out | apply below_alloc | apply pw_below_drewN | apply below_drew1) | exact HB.out)))); have n1_ := Aside0.mk (below_step (by repeat (first | (with_reducible first | exact HB.out | apply below_alloc | apply pw_below_drewN | apply below_drew1) | exact HB.out)) hb); clear HB; have HO251 := n0_; have HB := n1_; clear n0_ n1_; (try clear hb); (try clear hb2); (try clear hk); (try clear hi); (try clear ho0); obtain ⟨Ao11, co11, eo11⟩ := Kd.R_slice HO251.out; subst eo11) | (go_at_call 10; (with_reducible refine (policy_Routes.calls k _ _ t249 t252 _ ?side1 ?side2 A8.out).mono ?_); (case side1 => repeat (first | exact (Kd.R_reads' HO251.out).2.2 | (with_reducible refine Kd.C_alloc ?_ _) | (with_reducible refine Kd.C_drewN ?_ _) | (with_reducible refine Kd.C_drew ?_))); (case side2 => exact (Kd.R_reads' HO251.out).2.1); rintro e w12 ⟨v253, rfl, ho0, hb⟩; have n0_ := Aside0.mk (Kd.R_below (by (with_reducible repeat (first | apply Kd.R_alloc | apply Kd.R_drewN | apply Kd.R_drew)); exact HO251.out) hb); have n1_ := Aside0.mk (Kd.R_lower ho0 (below_size (by repeat (first | (with_reducible first | exact HB.out | apply below_alloc | apply pw_below_drewN | apply below_drew1) | exact HB.out)))); have n2_ := Aside0.mk (below_step (by repeat (first | (with_reducible first | exact HB.out | apply below_alloc | apply pw_below_drewN | apply below_drew1) | exact HB.out)) hb); clear HO251; clear HB; have HO251 := n0_; have HO254 := n1_; have HB := n2_; clear n0_ n1_ n2_; (try clear hb); (try clear hb2); (try clear hk); (try clear hi); (try clear ho0))))
    go_loopg [10, 11] k (fun kq v10 v11 w' => ∃ (x10_1 : Bool) (x11_1 : Int), v10 = .bool x10_1 ∧ v11 = .int .i64 x11_1 ∧ Aside0 (vizardlaw18_PolicyCovers.l0 kq l0 a1 a2 a3 t252 x10_1 x11_1 = some r) ∧ Aside0 (kq ≤ k) ∧ Aside0 (Kd.R k30 30 w' w.heap.size (fun _ => True) v253 t252) ∧ Aside0 (Below w.heap.size w w'))
    case atStart => exact ⟨(false), (0), (by first | rfl | (simp; done) | (simp [*]; done)), (by first | rfl | (simp; done) | (simp [*]; done)), H', ⟨Nat.le_refl _⟩, ⟨by (with_reducible repeat (first | apply Kd.R_alloc | apply Kd.R_drewN | apply Kd.R_drew)); exact HO254.out⟩, ⟨by repeat (first | (with_reducible first | exact HB.out | apply below_alloc | apply pw_below_drewN | apply below_drew1) | exact HB.out)⟩⟩
    case round =>
      clear H'
      try clear p2
      try clear c4
      try clear c6
      obtain ⟨x10_1, x11_1, rfl, rfl, HA, HK1, HO_9, HB⟩ := hrel
      cases gk with
      | zero => exact absurd HA.out (by simp [vizardlaw18_PolicyCovers.l0])
      | succ k1 =>
        have H := HA.out
        clear HA
        simp only [vizardlaw18_PolicyCovers.l0] at H
        by_cases c13 : x11_1 < (t252.length : Int)
        · rw [if_pos c13] at H
          have c13b0 : decide (x11_1 < (t252.length : Int)) = true := decide_eq_true c13
          clear c13
          by_cases c14 : 0 ≤ x11_1
          · rw [if_pos c14] at H
            have c14b0 : decide (0 ≤ x11_1) = true := decide_eq_true c14
            clear c14
            by_cases c15 : ((rd_T30 t252 x11_1).f0) > ((rd_T30 t252 x11_1).f1)
            · rw [if_pos c15] at H
              have c15b0 : decide (((rd_T30 t252 x11_1).f1) < ((rd_T30 t252 x11_1).f0)) = true := decide_eq_true c15
              clear c15
              obtain rfl := Option.some.inj H
              obtain ⟨Ao16, co16, eo16⟩ := Kd.R_slice HO_9.out
              subst eo16
              have p255 : 0 ≤ (x11_1 : Int) := of_decide_eq_true (by first | (with_reducible assumption) | assumption)
              have q255 : x11_1 < (t252.length : Int) := of_decide_eq_true (by first | (with_reducible assumption) | assumption)
              obtain ⟨ad255, e255, hx255_0, hx255_1, hx255_2⟩ := at_T30 (Kd.R_reads' HO_9.out).2.2 x11_1 p255 q255
              cases e255
              replace p255 := eq_true p255
              replace q255 := eq_true q255
              have p256 : 0 ≤ (x11_1 : Int) := of_decide_eq_true (by first | (with_reducible assumption) | assumption)
              have q256 : x11_1 < (t252.length : Int) := of_decide_eq_true (by first | (with_reducible assumption) | assumption)
              obtain ⟨ad256, e256, hx256_0, hx256_1, hx256_2⟩ := at_T30 (Kd.R_reads' HO_9.out).2.2 x11_1 p256 q256
              obtain rfl : ad255 = ad256 := (by injection e256)
              replace p256 := eq_true p256
              replace q256 := eq_true q256
              go_wp2
              repeat (go_quiet (fail); try go_wp2)
              go_ret
              exact ⟨by first | rfl | (simp [errW_none, errW_some] <;> rfl) | (simp [*, errW_none, errW_some] <;> rfl), by repeat (first | (with_reducible first | exact HB.out | apply below_alloc | apply pw_below_drewN | apply below_drew1) | exact HB.out)⟩
            · rw [if_neg c15] at H
              have c15b0 : decide (((rd_T30 t252 x11_1).f1) < ((rd_T30 t252 x11_1).f0)) = false := decide_eq_false c15
              clear c15
              by_cases c17 : x11_1 > 0
              · rw [if_pos c17] at H
                have c17b0 : decide (0 < x11_1) = true := decide_eq_true c17
                clear c17
                obtain ⟨ji18, hji18⟩ : ∃ j_ : Int, (wrap64 (x11_1 - 1)) = j_ := ⟨_, rfl⟩
                replace H : (if 0 ≤ (ji18) then (if (ji18) < (t252.length : Int) then (if (wrap64 ((rd_T30 t252 x11_1).f0)) ≤ (wrap64 ((wrap64 ((rd_T30 t252 (ji18)).f1)) + 1)) then (some false) else (if ((rd_T30 t252 x11_1).f2) = 0 then (if x10_1 = true then (vizardlaw18_PolicyCovers.l0 k1 l0 a1 a2 a3 t252 true (wrap64 (x11_1 + 1))) else (if a2 ≥ ((rd_T30 t252 x11_1).f0) then (vizardlaw18_PolicyCovers.l0 k1 l0 a1 a2 a3 t252 (decide (a2 ≤ ((rd_T30 t252 x11_1).f1))) (wrap64 (x11_1 + 1))) else (vizardlaw18_PolicyCovers.l0 k1 l0 a1 a2 a3 t252 false (wrap64 (x11_1 + 1))))) else (some false))) else (none)) else (none)) = some r := by first | (rw [hji18] at H; exact H) | (simp only [hji18] at H ⊢; exact H)
                have hji18w : (IntKind.i64.wrap (x11_1 - 1)) = ji18 := (i64_w _).trans hji18
                by_cases c19 : 0 ≤ (ji18)
                · rw [if_pos c19] at H
                  have c19b0 : decide (0 ≤ (ji18)) = true := decide_eq_true c19
                  clear c19
                  by_cases c20 : (ji18) < (t252.length : Int)
                  · rw [if_pos c20] at H
                    have c20b0 : decide ((ji18) < (t252.length : Int)) = true := decide_eq_true c20
                    clear c20
                    by_cases c21 : (wrap64 ((rd_T30 t252 x11_1).f0)) ≤ (wrap64 ((wrap64 ((rd_T30 t252 (ji18)).f1)) + 1))
                    · rw [if_pos c21] at H
                      have c21b0 : decide ((wrap64 ((rd_T30 t252 x11_1).f0)) ≤ (wrap64 ((wrap64 ((rd_T30 t252 (ji18)).f1)) + 1))) = true := decide_eq_true c21
                      clear c21
                      obtain rfl := Option.some.inj H
                      obtain ⟨Ao22, co22, eo22⟩ := Kd.R_slice HO_9.out
                      subst eo22
                      have p255 : 0 ≤ (x11_1 : Int) := of_decide_eq_true (by first | (with_reducible assumption) | assumption)
                      have q255 : x11_1 < (t252.length : Int) := of_decide_eq_true (by first | (with_reducible assumption) | assumption)
                      obtain ⟨ad255, e255, hx255_0, hx255_1, hx255_2⟩ := at_T30 (Kd.R_reads' HO_9.out).2.2 x11_1 p255 q255
                      cases e255
                      replace p255 := eq_true p255
                      replace q255 := eq_true q255
                      have p256 : 0 ≤ (x11_1 : Int) := of_decide_eq_true (by first | (with_reducible assumption) | assumption)
                      have q256 : x11_1 < (t252.length : Int) := of_decide_eq_true (by first | (with_reducible assumption) | assumption)
                      obtain ⟨ad256, e256, hx256_0, hx256_1, hx256_2⟩ := at_T30 (Kd.R_reads' HO_9.out).2.2 x11_1 p256 q256
                      obtain rfl : ad255 = ad256 := (by injection e256)
                      replace p256 := eq_true p256
                      replace q256 := eq_true q256
                      have p257 : 0 ≤ (x11_1 : Int) := of_decide_eq_true (by first | (with_reducible assumption) | assumption)
                      have q257 : x11_1 < (t252.length : Int) := of_decide_eq_true (by first | (with_reducible assumption) | assumption)
                      obtain ⟨ad257, e257, hx257_0, hx257_1, hx257_2⟩ := at_T30 (Kd.R_reads' HO_9.out).2.2 x11_1 p257 q257
                      obtain rfl : ad255 = ad257 := (by injection e257)
                      replace p257 := eq_true p257
                      replace q257 := eq_true q257
                      have p258 : 0 ≤ ((ji18) : Int) := of_decide_eq_true (by first | (with_reducible assumption) | assumption)
                      have q258 : (ji18) < (t252.length : Int) := of_decide_eq_true (by first | (with_reducible assumption) | assumption)
                      obtain ⟨ad258, e258, hx258_0, hx258_1, hx258_2⟩ := at_T30 (Kd.R_reads' HO_9.out).2.2 (ji18) p258 q258
                      obtain rfl : ad255 = ad258 := (by injection e258)
                      replace p258 := eq_true p258
                      replace q258 := eq_true q258
                      go_wp2
                      repeat (go_quiet (fail); try go_wp2)
                      go_ret
                      exact ⟨by first | rfl | (simp [errW_none, errW_some] <;> rfl) | (simp only [← hji18]; first | rfl | (simp [errW_none, errW_some] <;> rfl)) | (simp [*, errW_none, errW_some] <;> rfl), by repeat (first | (with_reducible first | exact HB.out | apply below_alloc | apply pw_below_drewN | apply below_drew1) | exact HB.out)⟩
                    · rw [if_neg c21] at H
                      have c21b0 : decide ((wrap64 ((rd_T30 t252 x11_1).f0)) ≤ (wrap64 ((wrap64 ((rd_T30 t252 (ji18)).f1)) + 1))) = false := decide_eq_false c21
                      clear c21
                      by_cases c23 : ((rd_T30 t252 x11_1).f2) = 0
                      · rw [if_pos c23] at H
                        have c23b0 : (((rd_T30 t252 x11_1).f2) == 0) = true := beq_iff_eq.mpr c23
                        have c23b1 : (((rd_T30 t252 x11_1).f2) != 0) = false := bne_eq_false_iff_eq.mpr c23
                        clear c23
                        by_cases c24 : x10_1 = true
                        · subst c24
                          have H1 : (vizardlaw18_PolicyCovers.l0 k1 l0 a1 a2 a3 t252 true (wrap64 (x11_1 + 1))) = some r := by rw [if_pos rfl] at H; exact H
                          clear H
                          have H := H1
                          clear H1
                          have H' := Aside0.mk H
                          clear H
                          obtain ⟨Ao25, co25, eo25⟩ := Kd.R_slice HO_9.out
                          subst eo25
                          have p255 : 0 ≤ (x11_1 : Int) := of_decide_eq_true (by first | (with_reducible assumption) | assumption)
                          have q255 : x11_1 < (t252.length : Int) := of_decide_eq_true (by first | (with_reducible assumption) | assumption)
                          obtain ⟨ad255, e255, hx255_0, hx255_1, hx255_2⟩ := at_T30 (Kd.R_reads' HO_9.out).2.2 x11_1 p255 q255
                          cases e255
                          replace p255 := eq_true p255
                          replace q255 := eq_true q255
                          have p256 : 0 ≤ (x11_1 : Int) := of_decide_eq_true (by first | (with_reducible assumption) | assumption)
                          have q256 : x11_1 < (t252.length : Int) := of_decide_eq_true (by first | (with_reducible assumption) | assumption)
                          obtain ⟨ad256, e256, hx256_0, hx256_1, hx256_2⟩ := at_T30 (Kd.R_reads' HO_9.out).2.2 x11_1 p256 q256
                          obtain rfl : ad255 = ad256 := (by injection e256)
                          replace p256 := eq_true p256
                          replace q256 := eq_true q256
                          have p257 : 0 ≤ (x11_1 : Int) := of_decide_eq_true (by first | (with_reducible assumption) | assumption)
                          have q257 : x11_1 < (t252.length : Int) := of_decide_eq_true (by first | (with_reducible assumption) | assumption)
                          obtain ⟨ad257, e257, hx257_0, hx257_1, hx257_2⟩ := at_T30 (Kd.R_reads' HO_9.out).2.2 x11_1 p257 q257
                          obtain rfl : ad255 = ad257 := (by injection e257)
                          replace p257 := eq_true p257
                          replace q257 := eq_true q257
                          have p258 : 0 ≤ ((ji18) : Int) := of_decide_eq_true (by first | (with_reducible assumption) | assumption)
                          have q258 : (ji18) < (t252.length : Int) := of_decide_eq_true (by first | (with_reducible assumption) | assumption)
                          obtain ⟨ad258, e258, hx258_0, hx258_1, hx258_2⟩ := at_T30 (Kd.R_reads' HO_9.out).2.2 (ji18) p258 q258
                          obtain rfl : ad255 = ad258 := (by injection e258)
                          replace p258 := eq_true p258
                          replace q258 := eq_true q258
                          have p259 : 0 ≤ (x11_1 : Int) := of_decide_eq_true (by first | (with_reducible assumption) | assumption)
                          have q259 : x11_1 < (t252.length : Int) := of_decide_eq_true (by first | (with_reducible assumption) | assumption)
                          obtain ⟨ad259, e259, hx259_0, hx259_1, hx259_2⟩ := at_T30 (Kd.R_reads' HO_9.out).2.2 x11_1 p259 q259
                          obtain rfl : ad255 = ad259 := (by injection e259)
                          replace p259 := eq_true p259
                          replace q259 := eq_true q259
                          go_wp2
                          repeat (go_quiet (fail); try go_wp2)
                          go_roundg k1
                          case measure => have := HK1.out; omega
                          case rel => exact ⟨(true), (wrap64 (x11_1 + 1)), (by first | rfl | (simp; done) | (simp [*]; done)), (by first | rfl | (simp; done) | (simp [*]; done)), H', ⟨by have := HK1.out; omega⟩, ⟨by (with_reducible repeat (first | apply Kd.R_alloc | apply Kd.R_drewN | apply Kd.R_drew)); exact HO_9.out⟩, ⟨by repeat (first | (with_reducible first | exact HB.out | apply below_alloc | apply pw_below_drewN | apply below_drew1) | exact HB.out)⟩⟩
                        · replace c24 := Bool.eq_false_iff.mpr c24
                          subst c24
                          have H1 : (if a2 ≥ ((rd_T30 t252 x11_1).f0) then (vizardlaw18_PolicyCovers.l0 k1 l0 a1 a2 a3 t252 (decide (a2 ≤ ((rd_T30 t252 x11_1).f1))) (wrap64 (x11_1 + 1))) else (vizardlaw18_PolicyCovers.l0 k1 l0 a1 a2 a3 t252 false (wrap64 (x11_1 + 1)))) = some r := by rw [if_neg (show ¬ (false = true) by decide)] at H; exact H
                          clear H
                          have H := H1
                          clear H1
                          by_cases c26 : a2 ≥ ((rd_T30 t252 x11_1).f0)
                          · rw [if_pos c26] at H
                            have c26b0 : decide (((rd_T30 t252 x11_1).f0) ≤ a2) = true := decide_eq_true c26
                            clear c26
                            have H' := Aside0.mk H
                            clear H
                            obtain ⟨Ao27, co27, eo27⟩ := Kd.R_slice HO_9.out
                            subst eo27
                            have p255 : 0 ≤ (x11_1 : Int) := of_decide_eq_true (by first | (with_reducible assumption) | assumption)
                            have q255 : x11_1 < (t252.length : Int) := of_decide_eq_true (by first | (with_reducible assumption) | assumption)
                            obtain ⟨ad255, e255, hx255_0, hx255_1, hx255_2⟩ := at_T30 (Kd.R_reads' HO_9.out).2.2 x11_1 p255 q255
                            cases e255
                            replace p255 := eq_true p255
                            replace q255 := eq_true q255
                            have p256 : 0 ≤ (x11_1 : Int) := of_decide_eq_true (by first | (with_reducible assumption) | assumption)
                            have q256 : x11_1 < (t252.length : Int) := of_decide_eq_true (by first | (with_reducible assumption) | assumption)
                            obtain ⟨ad256, e256, hx256_0, hx256_1, hx256_2⟩ := at_T30 (Kd.R_reads' HO_9.out).2.2 x11_1 p256 q256
                            obtain rfl : ad255 = ad256 := (by injection e256)
                            replace p256 := eq_true p256
                            replace q256 := eq_true q256
                            have p257 : 0 ≤ (x11_1 : Int) := of_decide_eq_true (by first | (with_reducible assumption) | assumption)
                            have q257 : x11_1 < (t252.length : Int) := of_decide_eq_true (by first | (with_reducible assumption) | assumption)
                            obtain ⟨ad257, e257, hx257_0, hx257_1, hx257_2⟩ := at_T30 (Kd.R_reads' HO_9.out).2.2 x11_1 p257 q257
                            obtain rfl : ad255 = ad257 := (by injection e257)
                            replace p257 := eq_true p257
                            replace q257 := eq_true q257
                            have p258 : 0 ≤ ((ji18) : Int) := of_decide_eq_true (by first | (with_reducible assumption) | assumption)
                            have q258 : (ji18) < (t252.length : Int) := of_decide_eq_true (by first | (with_reducible assumption) | assumption)
                            obtain ⟨ad258, e258, hx258_0, hx258_1, hx258_2⟩ := at_T30 (Kd.R_reads' HO_9.out).2.2 (ji18) p258 q258
                            obtain rfl : ad255 = ad258 := (by injection e258)
                            replace p258 := eq_true p258
                            replace q258 := eq_true q258
                            have p259 : 0 ≤ (x11_1 : Int) := of_decide_eq_true (by first | (with_reducible assumption) | assumption)
                            have q259 : x11_1 < (t252.length : Int) := of_decide_eq_true (by first | (with_reducible assumption) | assumption)
                            obtain ⟨ad259, e259, hx259_0, hx259_1, hx259_2⟩ := at_T30 (Kd.R_reads' HO_9.out).2.2 x11_1 p259 q259
                            obtain rfl : ad255 = ad259 := (by injection e259)
                            replace p259 := eq_true p259
                            replace q259 := eq_true q259
                            have p260 : 0 ≤ (x11_1 : Int) := of_decide_eq_true (by first | (with_reducible assumption) | assumption)
                            have q260 : x11_1 < (t252.length : Int) := of_decide_eq_true (by first | (with_reducible assumption) | assumption)
                            obtain ⟨ad260, e260, hx260_0, hx260_1, hx260_2⟩ := at_T30 (Kd.R_reads' HO_9.out).2.2 x11_1 p260 q260
                            obtain rfl : ad255 = ad260 := (by injection e260)
                            replace p260 := eq_true p260
                            replace q260 := eq_true q260
                            have p261 : 0 ≤ (x11_1 : Int) := of_decide_eq_true (by first | (with_reducible assumption) | assumption)
                            have q261 : x11_1 < (t252.length : Int) := of_decide_eq_true (by first | (with_reducible assumption) | assumption)
                            obtain ⟨ad261, e261, hx261_0, hx261_1, hx261_2⟩ := at_T30 (Kd.R_reads' HO_9.out).2.2 x11_1 p261 q261
                            obtain rfl : ad255 = ad261 := (by injection e261)
                            replace p261 := eq_true p261
                            replace q261 := eq_true q261
                            go_wp2
                            repeat (go_quiet (fail); try go_wp2)
                            go_roundg k1
                            case measure => have := HK1.out; omega
                            case rel => exact ⟨(decide (a2 ≤ ((rd_T30 t252 x11_1).f1))), (wrap64 (x11_1 + 1)), (by first | rfl | (simp; done) | (simp [*]; done)), (by first | rfl | (simp; done) | (simp [*]; done)), H', ⟨by have := HK1.out; omega⟩, ⟨by (with_reducible repeat (first | apply Kd.R_alloc | apply Kd.R_drewN | apply Kd.R_drew)); exact HO_9.out⟩, ⟨by repeat (first | (with_reducible first | exact HB.out | apply below_alloc | apply pw_below_drewN | apply below_drew1) | exact HB.out)⟩⟩
                          · rw [if_neg c26] at H
                            have c26b0 : decide (((rd_T30 t252 x11_1).f0) ≤ a2) = false := decide_eq_false c26
                            clear c26
                            have H' := Aside0.mk H
                            clear H
                            obtain ⟨Ao28, co28, eo28⟩ := Kd.R_slice HO_9.out
                            subst eo28
                            have p255 : 0 ≤ (x11_1 : Int) := of_decide_eq_true (by first | (with_reducible assumption) | assumption)
                            have q255 : x11_1 < (t252.length : Int) := of_decide_eq_true (by first | (with_reducible assumption) | assumption)
                            obtain ⟨ad255, e255, hx255_0, hx255_1, hx255_2⟩ := at_T30 (Kd.R_reads' HO_9.out).2.2 x11_1 p255 q255
                            cases e255
                            replace p255 := eq_true p255
                            replace q255 := eq_true q255
                            have p256 : 0 ≤ (x11_1 : Int) := of_decide_eq_true (by first | (with_reducible assumption) | assumption)
                            have q256 : x11_1 < (t252.length : Int) := of_decide_eq_true (by first | (with_reducible assumption) | assumption)
                            obtain ⟨ad256, e256, hx256_0, hx256_1, hx256_2⟩ := at_T30 (Kd.R_reads' HO_9.out).2.2 x11_1 p256 q256
                            obtain rfl : ad255 = ad256 := (by injection e256)
                            replace p256 := eq_true p256
                            replace q256 := eq_true q256
                            have p257 : 0 ≤ (x11_1 : Int) := of_decide_eq_true (by first | (with_reducible assumption) | assumption)
                            have q257 : x11_1 < (t252.length : Int) := of_decide_eq_true (by first | (with_reducible assumption) | assumption)
                            obtain ⟨ad257, e257, hx257_0, hx257_1, hx257_2⟩ := at_T30 (Kd.R_reads' HO_9.out).2.2 x11_1 p257 q257
                            obtain rfl : ad255 = ad257 := (by injection e257)
                            replace p257 := eq_true p257
                            replace q257 := eq_true q257
                            have p258 : 0 ≤ ((ji18) : Int) := of_decide_eq_true (by first | (with_reducible assumption) | assumption)
                            have q258 : (ji18) < (t252.length : Int) := of_decide_eq_true (by first | (with_reducible assumption) | assumption)
                            obtain ⟨ad258, e258, hx258_0, hx258_1, hx258_2⟩ := at_T30 (Kd.R_reads' HO_9.out).2.2 (ji18) p258 q258
                            obtain rfl : ad255 = ad258 := (by injection e258)
                            replace p258 := eq_true p258
                            replace q258 := eq_true q258
                            have p259 : 0 ≤ (x11_1 : Int) := of_decide_eq_true (by first | (with_reducible assumption) | assumption)
                            have q259 : x11_1 < (t252.length : Int) := of_decide_eq_true (by first | (with_reducible assumption) | assumption)
                            obtain ⟨ad259, e259, hx259_0, hx259_1, hx259_2⟩ := at_T30 (Kd.R_reads' HO_9.out).2.2 x11_1 p259 q259
                            obtain rfl : ad255 = ad259 := (by injection e259)
                            replace p259 := eq_true p259
                            replace q259 := eq_true q259
                            have p260 : 0 ≤ (x11_1 : Int) := of_decide_eq_true (by first | (with_reducible assumption) | assumption)
                            have q260 : x11_1 < (t252.length : Int) := of_decide_eq_true (by first | (with_reducible assumption) | assumption)
                            obtain ⟨ad260, e260, hx260_0, hx260_1, hx260_2⟩ := at_T30 (Kd.R_reads' HO_9.out).2.2 x11_1 p260 q260
                            obtain rfl : ad255 = ad260 := (by injection e260)
                            replace p260 := eq_true p260
                            replace q260 := eq_true q260
                            go_wp2
                            repeat (go_quiet (fail); try go_wp2)
                            go_roundg k1
                            case measure => have := HK1.out; omega
                            case rel => exact ⟨(false), (wrap64 (x11_1 + 1)), (by first | rfl | (simp; done) | (simp [*]; done)), (by first | rfl | (simp; done) | (simp [*]; done)), H', ⟨by have := HK1.out; omega⟩, ⟨by (with_reducible repeat (first | apply Kd.R_alloc | apply Kd.R_drewN | apply Kd.R_drew)); exact HO_9.out⟩, ⟨by repeat (first | (with_reducible first | exact HB.out | apply below_alloc | apply pw_below_drewN | apply below_drew1) | exact HB.out)⟩⟩
                      · rw [if_neg c23] at H
                        have c23b0 : (((rd_T30 t252 x11_1).f2) == 0) = false := beq_eq_false_iff_ne.mpr c23
                        have c23b1 : (((rd_T30 t252 x11_1).f2) != 0) = true := bne_iff_ne.mpr c23
                        obtain rfl := Option.some.inj H
                        obtain ⟨Ao29, co29, eo29⟩ := Kd.R_slice HO_9.out
                        subst eo29
                        have p255 : 0 ≤ (x11_1 : Int) := of_decide_eq_true (by first | (with_reducible assumption) | assumption)
                        have q255 : x11_1 < (t252.length : Int) := of_decide_eq_true (by first | (with_reducible assumption) | assumption)
                        obtain ⟨ad255, e255, hx255_0, hx255_1, hx255_2⟩ := at_T30 (Kd.R_reads' HO_9.out).2.2 x11_1 p255 q255
                        cases e255
                        replace p255 := eq_true p255
                        replace q255 := eq_true q255
                        have p256 : 0 ≤ (x11_1 : Int) := of_decide_eq_true (by first | (with_reducible assumption) | assumption)
                        have q256 : x11_1 < (t252.length : Int) := of_decide_eq_true (by first | (with_reducible assumption) | assumption)
                        obtain ⟨ad256, e256, hx256_0, hx256_1, hx256_2⟩ := at_T30 (Kd.R_reads' HO_9.out).2.2 x11_1 p256 q256
                        obtain rfl : ad255 = ad256 := (by injection e256)
                        replace p256 := eq_true p256
                        replace q256 := eq_true q256
                        have p257 : 0 ≤ (x11_1 : Int) := of_decide_eq_true (by first | (with_reducible assumption) | assumption)
                        have q257 : x11_1 < (t252.length : Int) := of_decide_eq_true (by first | (with_reducible assumption) | assumption)
                        obtain ⟨ad257, e257, hx257_0, hx257_1, hx257_2⟩ := at_T30 (Kd.R_reads' HO_9.out).2.2 x11_1 p257 q257
                        obtain rfl : ad255 = ad257 := (by injection e257)
                        replace p257 := eq_true p257
                        replace q257 := eq_true q257
                        have p258 : 0 ≤ ((ji18) : Int) := of_decide_eq_true (by first | (with_reducible assumption) | assumption)
                        have q258 : (ji18) < (t252.length : Int) := of_decide_eq_true (by first | (with_reducible assumption) | assumption)
                        obtain ⟨ad258, e258, hx258_0, hx258_1, hx258_2⟩ := at_T30 (Kd.R_reads' HO_9.out).2.2 (ji18) p258 q258
                        obtain rfl : ad255 = ad258 := (by injection e258)
                        replace p258 := eq_true p258
                        replace q258 := eq_true q258
                        have p259 : 0 ≤ (x11_1 : Int) := of_decide_eq_true (by first | (with_reducible assumption) | assumption)
                        have q259 : x11_1 < (t252.length : Int) := of_decide_eq_true (by first | (with_reducible assumption) | assumption)
                        obtain ⟨ad259, e259, hx259_0, hx259_1, hx259_2⟩ := at_T30 (Kd.R_reads' HO_9.out).2.2 x11_1 p259 q259
                        obtain rfl : ad255 = ad259 := (by injection e259)
                        replace p259 := eq_true p259
                        replace q259 := eq_true q259
                        go_wp2
                        repeat (go_quiet (fail); try go_wp2)
                        go_ret
                        exact ⟨by first | rfl | (simp [errW_none, errW_some] <;> rfl) | (simp only [← hji18]; first | rfl | (simp [errW_none, errW_some] <;> rfl)) | (simp [*, errW_none, errW_some] <;> rfl), by repeat (first | (with_reducible first | exact HB.out | apply below_alloc | apply pw_below_drewN | apply below_drew1) | exact HB.out)⟩
                  · rw [if_neg c20] at H
                    exact absurd H (by simp)
                · rw [if_neg c19] at H
                  exact absurd H (by simp)
              · rw [if_neg c17] at H
                have c17b0 : decide (0 < x11_1) = false := decide_eq_false c17
                clear c17
                by_cases c30 : ((rd_T30 t252 x11_1).f2) = 0
                · rw [if_pos c30] at H
                  have c30b0 : (((rd_T30 t252 x11_1).f2) == 0) = true := beq_iff_eq.mpr c30
                  have c30b1 : (((rd_T30 t252 x11_1).f2) != 0) = false := bne_eq_false_iff_eq.mpr c30
                  clear c30
                  by_cases c31 : x10_1 = true
                  · subst c31
                    have H1 : (vizardlaw18_PolicyCovers.l0 k1 l0 a1 a2 a3 t252 true (wrap64 (x11_1 + 1))) = some r := by rw [if_pos rfl] at H; exact H
                    clear H
                    have H := H1
                    clear H1
                    have H' := Aside0.mk H
                    clear H
                    obtain ⟨Ao32, co32, eo32⟩ := Kd.R_slice HO_9.out
                    subst eo32
                    have p255 : 0 ≤ (x11_1 : Int) := of_decide_eq_true (by first | (with_reducible assumption) | assumption)
                    have q255 : x11_1 < (t252.length : Int) := of_decide_eq_true (by first | (with_reducible assumption) | assumption)
                    obtain ⟨ad255, e255, hx255_0, hx255_1, hx255_2⟩ := at_T30 (Kd.R_reads' HO_9.out).2.2 x11_1 p255 q255
                    cases e255
                    replace p255 := eq_true p255
                    replace q255 := eq_true q255
                    have p256 : 0 ≤ (x11_1 : Int) := of_decide_eq_true (by first | (with_reducible assumption) | assumption)
                    have q256 : x11_1 < (t252.length : Int) := of_decide_eq_true (by first | (with_reducible assumption) | assumption)
                    obtain ⟨ad256, e256, hx256_0, hx256_1, hx256_2⟩ := at_T30 (Kd.R_reads' HO_9.out).2.2 x11_1 p256 q256
                    obtain rfl : ad255 = ad256 := (by injection e256)
                    replace p256 := eq_true p256
                    replace q256 := eq_true q256
                    have p262 : 0 ≤ (x11_1 : Int) := of_decide_eq_true (by first | (with_reducible assumption) | assumption)
                    have q262 : x11_1 < (t252.length : Int) := of_decide_eq_true (by first | (with_reducible assumption) | assumption)
                    obtain ⟨ad262, e262, hx262_0, hx262_1, hx262_2⟩ := at_T30 (Kd.R_reads' HO_9.out).2.2 x11_1 p262 q262
                    obtain rfl : ad255 = ad262 := (by injection e262)
                    replace p262 := eq_true p262
                    replace q262 := eq_true q262
                    go_wp2
                    repeat (go_quiet (fail); try go_wp2)
                    go_roundg k1
                    case measure => have := HK1.out; omega
                    case rel => exact ⟨(true), (wrap64 (x11_1 + 1)), (by first | rfl | (simp; done) | (simp [*]; done)), (by first | rfl | (simp; done) | (simp [*]; done)), H', ⟨by have := HK1.out; omega⟩, ⟨by (with_reducible repeat (first | apply Kd.R_alloc | apply Kd.R_drewN | apply Kd.R_drew)); exact HO_9.out⟩, ⟨by repeat (first | (with_reducible first | exact HB.out | apply below_alloc | apply pw_below_drewN | apply below_drew1) | exact HB.out)⟩⟩
                  · replace c31 := Bool.eq_false_iff.mpr c31
                    subst c31
                    have H1 : (if a2 ≥ ((rd_T30 t252 x11_1).f0) then (vizardlaw18_PolicyCovers.l0 k1 l0 a1 a2 a3 t252 (decide (a2 ≤ ((rd_T30 t252 x11_1).f1))) (wrap64 (x11_1 + 1))) else (vizardlaw18_PolicyCovers.l0 k1 l0 a1 a2 a3 t252 false (wrap64 (x11_1 + 1)))) = some r := by rw [if_neg (show ¬ (false = true) by decide)] at H; exact H
                    clear H
                    have H := H1
                    clear H1
                    by_cases c33 : a2 ≥ ((rd_T30 t252 x11_1).f0)
                    · rw [if_pos c33] at H
                      have c33b0 : decide (((rd_T30 t252 x11_1).f0) ≤ a2) = true := decide_eq_true c33
                      clear c33
                      have H' := Aside0.mk H
                      clear H
                      obtain ⟨Ao34, co34, eo34⟩ := Kd.R_slice HO_9.out
                      subst eo34
                      have p255 : 0 ≤ (x11_1 : Int) := of_decide_eq_true (by first | (with_reducible assumption) | assumption)
                      have q255 : x11_1 < (t252.length : Int) := of_decide_eq_true (by first | (with_reducible assumption) | assumption)
                      obtain ⟨ad255, e255, hx255_0, hx255_1, hx255_2⟩ := at_T30 (Kd.R_reads' HO_9.out).2.2 x11_1 p255 q255
                      cases e255
                      replace p255 := eq_true p255
                      replace q255 := eq_true q255
                      have p256 : 0 ≤ (x11_1 : Int) := of_decide_eq_true (by first | (with_reducible assumption) | assumption)
                      have q256 : x11_1 < (t252.length : Int) := of_decide_eq_true (by first | (with_reducible assumption) | assumption)
                      obtain ⟨ad256, e256, hx256_0, hx256_1, hx256_2⟩ := at_T30 (Kd.R_reads' HO_9.out).2.2 x11_1 p256 q256
                      obtain rfl : ad255 = ad256 := (by injection e256)
                      replace p256 := eq_true p256
                      replace q256 := eq_true q256
                      have p262 : 0 ≤ (x11_1 : Int) := of_decide_eq_true (by first | (with_reducible assumption) | assumption)
                      have q262 : x11_1 < (t252.length : Int) := of_decide_eq_true (by first | (with_reducible assumption) | assumption)
                      obtain ⟨ad262, e262, hx262_0, hx262_1, hx262_2⟩ := at_T30 (Kd.R_reads' HO_9.out).2.2 x11_1 p262 q262
                      obtain rfl : ad255 = ad262 := (by injection e262)
                      replace p262 := eq_true p262
                      replace q262 := eq_true q262
                      have p263 : 0 ≤ (x11_1 : Int) := of_decide_eq_true (by first | (with_reducible assumption) | assumption)
                      have q263 : x11_1 < (t252.length : Int) := of_decide_eq_true (by first | (with_reducible assumption) | assumption)
                      obtain ⟨ad263, e263, hx263_0, hx263_1, hx263_2⟩ := at_T30 (Kd.R_reads' HO_9.out).2.2 x11_1 p263 q263
                      obtain rfl : ad255 = ad263 := (by injection e263)
                      replace p263 := eq_true p263
                      replace q263 := eq_true q263
                      have p264 : 0 ≤ (x11_1 : Int) := of_decide_eq_true (by first | (with_reducible assumption) | assumption)
                      have q264 : x11_1 < (t252.length : Int) := of_decide_eq_true (by first | (with_reducible assumption) | assumption)
                      obtain ⟨ad264, e264, hx264_0, hx264_1, hx264_2⟩ := at_T30 (Kd.R_reads' HO_9.out).2.2 x11_1 p264 q264
                      obtain rfl : ad255 = ad264 := (by injection e264)
                      replace p264 := eq_true p264
                      replace q264 := eq_true q264
                      go_wp2
                      repeat (go_quiet (fail); try go_wp2)
                      go_roundg k1
                      case measure => have := HK1.out; omega
                      case rel => exact ⟨(decide (a2 ≤ ((rd_T30 t252 x11_1).f1))), (wrap64 (x11_1 + 1)), (by first | rfl | (simp; done) | (simp [*]; done)), (by first | rfl | (simp; done) | (simp [*]; done)), H', ⟨by have := HK1.out; omega⟩, ⟨by (with_reducible repeat (first | apply Kd.R_alloc | apply Kd.R_drewN | apply Kd.R_drew)); exact HO_9.out⟩, ⟨by repeat (first | (with_reducible first | exact HB.out | apply below_alloc | apply pw_below_drewN | apply below_drew1) | exact HB.out)⟩⟩
                    · rw [if_neg c33] at H
                      have c33b0 : decide (((rd_T30 t252 x11_1).f0) ≤ a2) = false := decide_eq_false c33
                      clear c33
                      have H' := Aside0.mk H
                      clear H
                      obtain ⟨Ao35, co35, eo35⟩ := Kd.R_slice HO_9.out
                      subst eo35
                      have p255 : 0 ≤ (x11_1 : Int) := of_decide_eq_true (by first | (with_reducible assumption) | assumption)
                      have q255 : x11_1 < (t252.length : Int) := of_decide_eq_true (by first | (with_reducible assumption) | assumption)
                      obtain ⟨ad255, e255, hx255_0, hx255_1, hx255_2⟩ := at_T30 (Kd.R_reads' HO_9.out).2.2 x11_1 p255 q255
                      cases e255
                      replace p255 := eq_true p255
                      replace q255 := eq_true q255
                      have p256 : 0 ≤ (x11_1 : Int) := of_decide_eq_true (by first | (with_reducible assumption) | assumption)
                      have q256 : x11_1 < (t252.length : Int) := of_decide_eq_true (by first | (with_reducible assumption) | assumption)
                      obtain ⟨ad256, e256, hx256_0, hx256_1, hx256_2⟩ := at_T30 (Kd.R_reads' HO_9.out).2.2 x11_1 p256 q256
                      obtain rfl : ad255 = ad256 := (by injection e256)
                      replace p256 := eq_true p256
                      replace q256 := eq_true q256
                      have p262 : 0 ≤ (x11_1 : Int) := of_decide_eq_true (by first | (with_reducible assumption) | assumption)
                      have q262 : x11_1 < (t252.length : Int) := of_decide_eq_true (by first | (with_reducible assumption) | assumption)
                      obtain ⟨ad262, e262, hx262_0, hx262_1, hx262_2⟩ := at_T30 (Kd.R_reads' HO_9.out).2.2 x11_1 p262 q262
                      obtain rfl : ad255 = ad262 := (by injection e262)
                      replace p262 := eq_true p262
                      replace q262 := eq_true q262
                      have p263 : 0 ≤ (x11_1 : Int) := of_decide_eq_true (by first | (with_reducible assumption) | assumption)
                      have q263 : x11_1 < (t252.length : Int) := of_decide_eq_true (by first | (with_reducible assumption) | assumption)
                      obtain ⟨ad263, e263, hx263_0, hx263_1, hx263_2⟩ := at_T30 (Kd.R_reads' HO_9.out).2.2 x11_1 p263 q263
                      obtain rfl : ad255 = ad263 := (by injection e263)
                      replace p263 := eq_true p263
                      replace q263 := eq_true q263
                      go_wp2
                      repeat (go_quiet (fail); try go_wp2)
                      go_roundg k1
                      case measure => have := HK1.out; omega
                      case rel => exact ⟨(false), (wrap64 (x11_1 + 1)), (by first | rfl | (simp; done) | (simp [*]; done)), (by first | rfl | (simp; done) | (simp [*]; done)), H', ⟨by have := HK1.out; omega⟩, ⟨by (with_reducible repeat (first | apply Kd.R_alloc | apply Kd.R_drewN | apply Kd.R_drew)); exact HO_9.out⟩, ⟨by repeat (first | (with_reducible first | exact HB.out | apply below_alloc | apply pw_below_drewN | apply below_drew1) | exact HB.out)⟩⟩
                · rw [if_neg c30] at H
                  have c30b0 : (((rd_T30 t252 x11_1).f2) == 0) = false := beq_eq_false_iff_ne.mpr c30
                  have c30b1 : (((rd_T30 t252 x11_1).f2) != 0) = true := bne_iff_ne.mpr c30
                  obtain rfl := Option.some.inj H
                  obtain ⟨Ao36, co36, eo36⟩ := Kd.R_slice HO_9.out
                  subst eo36
                  have p255 : 0 ≤ (x11_1 : Int) := of_decide_eq_true (by first | (with_reducible assumption) | assumption)
                  have q255 : x11_1 < (t252.length : Int) := of_decide_eq_true (by first | (with_reducible assumption) | assumption)
                  obtain ⟨ad255, e255, hx255_0, hx255_1, hx255_2⟩ := at_T30 (Kd.R_reads' HO_9.out).2.2 x11_1 p255 q255
                  cases e255
                  replace p255 := eq_true p255
                  replace q255 := eq_true q255
                  have p256 : 0 ≤ (x11_1 : Int) := of_decide_eq_true (by first | (with_reducible assumption) | assumption)
                  have q256 : x11_1 < (t252.length : Int) := of_decide_eq_true (by first | (with_reducible assumption) | assumption)
                  obtain ⟨ad256, e256, hx256_0, hx256_1, hx256_2⟩ := at_T30 (Kd.R_reads' HO_9.out).2.2 x11_1 p256 q256
                  obtain rfl : ad255 = ad256 := (by injection e256)
                  replace p256 := eq_true p256
                  replace q256 := eq_true q256
                  have p262 : 0 ≤ (x11_1 : Int) := of_decide_eq_true (by first | (with_reducible assumption) | assumption)
                  have q262 : x11_1 < (t252.length : Int) := of_decide_eq_true (by first | (with_reducible assumption) | assumption)
                  obtain ⟨ad262, e262, hx262_0, hx262_1, hx262_2⟩ := at_T30 (Kd.R_reads' HO_9.out).2.2 x11_1 p262 q262
                  obtain rfl : ad255 = ad262 := (by injection e262)
                  replace p262 := eq_true p262
                  replace q262 := eq_true q262
                  go_wp2
                  repeat (go_quiet (fail); try go_wp2)
                  go_ret
                  exact ⟨by first | rfl | (simp [errW_none, errW_some] <;> rfl) | (simp [*, errW_none, errW_some] <;> rfl), by repeat (first | (with_reducible first | exact HB.out | apply below_alloc | apply pw_below_drewN | apply below_drew1) | exact HB.out)⟩
          · rw [if_neg c14] at H
            exact absurd H (by simp)
        · rw [if_neg c13] at H
          have c13b0 : decide (x11_1 < (t252.length : Int)) = false := decide_eq_false c13
          clear c13
          have HC37 := Aside0.mk H
          clear H
          obtain ⟨Ao38, co38, eo38⟩ := Kd.R_slice HO_9.out
          subst eo38
          go_upto_region 11 with (fail)
          repeat (go_quiet (fail); go_upto_region 11 with (fail))
          go_cut [100] (fun v100 wc => ∃ (kq : Nat) (x100_36 : Bool), v100 = .bool x100_36 ∧ Aside0 (vizardlaw18_PolicyCovers.j1 kq l0 a1 a2 a3 t252 x10_1 x100_36 = some r) ∧ Aside0 (kq ≤ k1) ∧ Aside0 (Kd.R k30 30 wc w.heap.size (fun _ => True) (.slice Ao38 t252.length co38) t252) ∧ Aside0 (Below w.heap.size w wc))
          case first =>
            have H := HC37.out
            clear HC37
            by_cases c39 : (t252.length : Int) ≥ 16
            · rw [if_pos c39] at H
              have c39b0 : decide (16 ≤ (t252.length : Int)) = true := decide_eq_true c39
              have c39b1 : decide (16 ≤ t252.length) = true := decide_eq_true (by omega)
              clear c39
              (first | rw [c39b0] | (simp only [i64_w, i32_w]; rw [c39b0]) | skip)
              have H' := Aside0.mk H
              clear H
              go_wp2
              repeat (go_quiet (fail); try go_wp2)
              go_meet
              case rel => exact ⟨_, (true), (by first | rfl | (simp; done) | (simp [*]; done)), H', ⟨by have := HK1.out; first | omega | exact Nat.le_refl _⟩, ⟨by (with_reducible repeat (first | apply Kd.R_alloc | apply Kd.R_drewN | apply Kd.R_drew)); exact HO_9.out⟩, ⟨by repeat (first | (with_reducible first | exact HB.out | apply below_alloc | apply pw_below_drewN | apply below_drew1) | exact HB.out)⟩⟩
            · rw [if_neg c39] at H
              have c39b0 : decide (16 ≤ (t252.length : Int)) = false := decide_eq_false c39
              have c39b1 : decide (16 ≤ t252.length) = false := decide_eq_false (by omega)
              clear c39
              (first | rw [c39b0] | (simp only [i64_w, i32_w]; rw [c39b0]) | skip)
              by_cases c40 : a1 < 1
              · rw [if_pos c40] at H
                have c40b0 : decide (a1 < 1) = true := decide_eq_true c40
                clear c40
                have H' := Aside0.mk H
                clear H
                go_wp2
                repeat (go_quiet (fail); try go_wp2)
                go_meet
                case rel => exact ⟨_, (true), (by first | rfl | (simp; done) | (simp [*]; done)), H', ⟨by have := HK1.out; first | omega | exact Nat.le_refl _⟩, ⟨by (with_reducible repeat (first | apply Kd.R_alloc | apply Kd.R_drewN | apply Kd.R_drew)); exact HO_9.out⟩, ⟨by repeat (first | (with_reducible first | exact HB.out | apply below_alloc | apply pw_below_drewN | apply below_drew1) | exact HB.out)⟩⟩
              · rw [if_neg c40] at H
                have c40b0 : decide (a1 < 1) = false := decide_eq_false c40
                clear c40
                by_cases c41 : a1 > 255
                · rw [if_pos c41] at H
                  have c41b0 : decide (255 < a1) = true := decide_eq_true c41
                  clear c41
                  have H' := Aside0.mk H
                  clear H
                  go_wp2
                  repeat (go_quiet (fail); try go_wp2)
                  go_meet
                  case rel => exact ⟨_, (true), (by first | rfl | (simp; done) | (simp [*]; done)), H', ⟨by have := HK1.out; first | omega | exact Nat.le_refl _⟩, ⟨by (with_reducible repeat (first | apply Kd.R_alloc | apply Kd.R_drewN | apply Kd.R_drew)); exact HO_9.out⟩, ⟨by repeat (first | (with_reducible first | exact HB.out | apply below_alloc | apply pw_below_drewN | apply below_drew1) | exact HB.out)⟩⟩
                · rw [if_neg c41] at H
                  have c41b0 : decide (255 < a1) = false := decide_eq_false c41
                  clear c41
                  by_cases c42 : a3 < 0
                  · rw [if_pos c42] at H
                    have c42b0 : decide (a3 < 0) = true := decide_eq_true c42
                    clear c42
                    have H' := Aside0.mk H
                    clear H
                    go_wp2
                    repeat (go_quiet (fail); try go_wp2)
                    go_meet
                    case rel => exact ⟨_, (true), (by first | rfl | (simp; done) | (simp [*]; done)), H', ⟨by have := HK1.out; first | omega | exact Nat.le_refl _⟩, ⟨by (with_reducible repeat (first | apply Kd.R_alloc | apply Kd.R_drewN | apply Kd.R_drew)); exact HO_9.out⟩, ⟨by repeat (first | (with_reducible first | exact HB.out | apply below_alloc | apply pw_below_drewN | apply below_drew1) | exact HB.out)⟩⟩
                  · rw [if_neg c42] at H
                    have c42b0 : decide (a3 < 0) = false := decide_eq_false c42
                    clear c42
                    have H' := Aside0.mk H
                    clear H
                    go_wp2
                    repeat (go_quiet (fail); try go_wp2)
                    go_meet
                    case rel => exact ⟨_, (decide (a3 > 65535)), (by first | rfl | (simp; done) | (simp [*]; done)), H', ⟨by have := HK1.out; first | omega | exact Nat.le_refl _⟩, ⟨by (with_reducible repeat (first | apply Kd.R_alloc | apply Kd.R_drewN | apply Kd.R_drew)); exact HO_9.out⟩, ⟨by repeat (first | (with_reducible first | exact HB.out | apply below_alloc | apply pw_below_drewN | apply below_drew1) | exact HB.out)⟩⟩
          case rest =>
            clear HC37
            try clear c1
            try clear c2
            try clear p2
            try clear q2
            try clear hx2
            try clear c3
            try clear c4
            try clear c6
            try clear p6
            try clear c13
            try clear c13b0
            try clear c14
            try clear c14b0
            try clear c15
            try clear c15b0
            try clear c17
            try clear c17b0
            try clear c19
            try clear c19b0
            try clear c20
            try clear c20b0
            try clear c21
            try clear c21b0
            try clear c23
            try clear c23b0
            try clear c23b1
            try clear c24
            try clear p25
            try clear q25
            try clear hx25
            try clear c26
            try clear c26b0
            try clear p26
            try clear q26
            try clear hx26
            try clear c30
            try clear c30b0
            try clear c30b1
            try clear c31
            try clear c33
            try clear c33b0
            try clear c39
            try clear c39b0
            try clear c39b1
            try clear c40
            try clear c40b0
            try clear c41
            try clear c41b0
            try clear c42
            try clear c42b0
            try clear hx255_0
            try clear hx255_1
            try clear hx255_2
            try clear hx256_0
            try clear hx256_1
            try clear hx256_2
            try clear hx257_0
            try clear hx257_1
            try clear hx257_2
            try clear hx258_0
            try clear hx258_1
            try clear hx258_2
            try clear hx259_0
            try clear hx259_1
            try clear hx259_2
            try clear hx260_0
            try clear hx260_1
            try clear hx260_2
            try clear hx261_0
            try clear hx261_1
            try clear hx261_2
            try clear hx262_0
            try clear hx262_1
            try clear hx262_2
            try clear hx263_0
            try clear hx263_1
            try clear hx263_2
            try clear hx264_0
            try clear hx264_1
            try clear hx264_2
            try clear p2
            try clear p255
            try clear p256
            try clear p257
            try clear p258
            try clear p259
            try clear p260
            try clear p261
            try clear p262
            try clear p263
            try clear p264
            try clear q255
            try clear q256
            try clear q257
            try clear q258
            try clear q259
            try clear q260
            try clear q261
            try clear q262
            try clear q263
            try clear q264
            obtain ⟨kq, x100_36, rfl, HA, HJ36, HO_9, HB⟩ := hcut
            cases kq with
            | zero => exact absurd HA.out (by simp [vizardlaw18_PolicyCovers.j1])
            | succ kj36 =>
              have H := HA.out
              clear HA
              simp only [vizardlaw18_PolicyCovers.j1] at H
              by_cases c43 : x100_36 = true
              · subst c43
                have H1 : (some (decide ((t252.length : Int) ≤ 16))) = some r := by rw [if_pos rfl] at H; exact H
                clear H
                have H := H1
                clear H1
                obtain rfl := Option.some.inj H
                go_wp2
                repeat (go_quiet (fail); try go_wp2)
                go_ret
                exact ⟨by first | rfl | (simp [errW_none, errW_some] <;> rfl) | (simp [*, errW_none, errW_some] <;> rfl), by repeat (first | (with_reducible first | exact HB.out | apply below_alloc | apply pw_below_drewN | apply below_drew1) | exact HB.out)⟩
              · replace c43 := Bool.eq_false_iff.mpr c43
                subst c43
                have H1 : (if x10_1 = true then (some true) else ((vizardlaw18_own.f l0).bind fun t265 => ((policy_Allow.f kj36 t265 a1 a2 a3).bind fun t268 => (some (!t268))))) = some r := by rw [if_neg (show ¬ (false = true) by decide)] at H; exact H
                clear H
                have H := H1
                clear H1
                by_cases c44 : x10_1 = true
                · subst c44
                  have H1 : (some true) = some r := by rw [if_pos rfl] at H; exact H
                  clear H
                  have H := H1
                  clear H1
                  obtain rfl := Option.some.inj H
                  go_wp2
                  repeat (go_quiet (fail); try go_wp2)
                  go_ret
                  exact ⟨by first | rfl | (simp [errW_none, errW_some] <;> rfl) | (simp [*, errW_none, errW_some] <;> rfl), by repeat (first | (with_reducible first | exact HB.out | apply below_alloc | apply pw_below_drewN | apply below_drew1) | exact HB.out)⟩
                · replace c44 := Bool.eq_false_iff.mpr c44
                  subst c44
                  have H1 : ((vizardlaw18_own.f l0).bind fun t265 => ((policy_Allow.f kj36 t265 a1 a2 a3).bind fun t268 => (some (!t268)))) = some r := by rw [if_neg (show ¬ (false = true) by decide)] at H; exact H
                  clear H
                  have H := H1
                  clear H1
                  replace H := Option.bind_eq_some_iff.mp H
                  obtain ⟨t265, A450, H⟩ := H
                  replace H : ((policy_Allow.f kj36 t265 a1 a2 a3).bind fun t268 => (some (!t268))) = some r := H
                  have A45 := Aside0.mk A450
                  clear A450
                  replace H := Option.bind_eq_some_iff.mp H
                  obtain ⟨t268, A460, H⟩ := H
                  replace H : (some (!t268)) = some r := H
                  have A46 := Aside0.mk A460
                  clear A460
                  obtain rfl := Option.some.inj H
                  go_wp2_with (first | (go_at_call 11; (with_reducible refine (vizardlaw18_own.calls _ _ l0 t265 _ ?side1 ?side2 A45.out).mono ?_); (case side1 => repeat (first | exact (Kd.C_below HR0.out HB.out) | (with_reducible refine Kd.C_alloc ?_ _) | (with_reducible refine Kd.C_drewN ?_ _) | (with_reducible refine Kd.C_drew ?_))); (case side2 => exact HC0.out); rintro e w47 ⟨v266, rfl, ho0, hb⟩; have n0_ := Aside0.mk (Kd.R_below (by (with_reducible repeat (first | apply Kd.R_alloc | apply Kd.R_drewN | apply Kd.R_drew)); exact HO_9.out) hb); have n1_ := Aside0.mk (Kd.R_lower ho0 (below_size (by repeat (first | (with_reducible first | exact HB.out | apply below_alloc | apply pw_below_drewN | apply below_drew1) | exact HB.out)))); have n2_ := Aside0.mk (below_step (by repeat (first | (with_reducible first | exact HB.out | apply below_alloc | apply pw_below_drewN | apply below_drew1) | exact HB.out)) hb); clear HO_9; clear HB; have HO_9 := n0_; have HO267 := n1_; have HB := n2_; clear n0_ n1_ n2_; (try clear hb); (try clear hb2); (try clear hk); (try clear hi); (try clear ho0); obtain ⟨Ao48, co48, eo48⟩ := Kd.R_slice HO267.out; subst eo48) | (go_at_call 14; (with_reducible refine (policy_Allow.calls kj36 _ _ t265 a1 a2 a3 t268 _ ?side1 ?side2 A46.out).mono ?_); (case side1 => repeat (first | exact (Kd.R_reads' HO267.out).2.2 | (with_reducible refine Kd.C_alloc ?_ _) | (with_reducible refine Kd.C_drewN ?_ _) | (with_reducible refine Kd.C_drew ?_))); (case side2 => exact (Kd.R_reads' HO267.out).2.1); rintro e w49 ⟨rfl, hb⟩; have n0_ := Aside0.mk (Kd.R_below (by (with_reducible repeat (first | apply Kd.R_alloc | apply Kd.R_drewN | apply Kd.R_drew)); exact HO_9.out) hb); have n1_ := Aside0.mk (Kd.R_below (by (with_reducible repeat (first | apply Kd.R_alloc | apply Kd.R_drewN | apply Kd.R_drew)); exact HO267.out) hb); have n2_ := Aside0.mk (below_step (by repeat (first | (with_reducible first | exact HB.out | apply below_alloc | apply pw_below_drewN | apply below_drew1) | exact HB.out)) hb); clear HO_9; clear HO267; clear HB; have HO_9 := n0_; have HO267 := n1_; have HB := n2_; clear n0_ n1_ n2_; (try clear hb); (try clear hb2); (try clear hk); (try clear hi)))
                  repeat (go_quiet (first | (go_at_call 11; (with_reducible refine (vizardlaw18_own.calls _ _ l0 t265 _ ?side1 ?side2 A45.out).mono ?_); (case side1 => repeat (first | exact (Kd.C_below HR0.out HB.out) | (with_reducible refine Kd.C_alloc ?_ _) | (with_reducible refine Kd.C_drewN ?_ _) | (with_reducible refine Kd.C_drew ?_))); (case side2 => exact HC0.out); rintro e w47 ⟨v266, rfl, ho0, hb⟩; have n0_ := Aside0.mk (Kd.R_below (by (with_reducible repeat (first | apply Kd.R_alloc | apply Kd.R_drewN | apply Kd.R_drew)); exact HO_9.out) hb); have n1_ := Aside0.mk (Kd.R_lower ho0 (below_size (by repeat (first | (with_reducible first | exact HB.out | apply below_alloc | apply pw_below_drewN | apply below_drew1) | exact HB.out)))); have n2_ := Aside0.mk (below_step (by repeat (first | (with_reducible first | exact HB.out | apply below_alloc | apply pw_below_drewN | apply below_drew1) | exact HB.out)) hb); clear HO_9; clear HB; have HO_9 := n0_; have HO267 := n1_; have HB := n2_; clear n0_ n1_ n2_; (try clear hb); (try clear hb2); (try clear hk); (try clear hi); (try clear ho0); obtain ⟨Ao48, co48, eo48⟩ := Kd.R_slice HO267.out; subst eo48) | (go_at_call 14; (with_reducible refine (policy_Allow.calls kj36 _ _ t265 a1 a2 a3 t268 _ ?side1 ?side2 A46.out).mono ?_); (case side1 => repeat (first | exact (Kd.R_reads' HO267.out).2.2 | (with_reducible refine Kd.C_alloc ?_ _) | (with_reducible refine Kd.C_drewN ?_ _) | (with_reducible refine Kd.C_drew ?_))); (case side2 => exact (Kd.R_reads' HO267.out).2.1); rintro e w49 ⟨rfl, hb⟩; have n0_ := Aside0.mk (Kd.R_below (by (with_reducible repeat (first | apply Kd.R_alloc | apply Kd.R_drewN | apply Kd.R_drew)); exact HO_9.out) hb); have n1_ := Aside0.mk (Kd.R_below (by (with_reducible repeat (first | apply Kd.R_alloc | apply Kd.R_drewN | apply Kd.R_drew)); exact HO267.out) hb); have n2_ := Aside0.mk (below_step (by repeat (first | (with_reducible first | exact HB.out | apply below_alloc | apply pw_below_drewN | apply below_drew1) | exact HB.out)) hb); clear HO_9; clear HO267; clear HB; have HO_9 := n0_; have HO267 := n1_; have HB := n2_; clear n0_ n1_ n2_; (try clear hb); (try clear hb2); (try clear hk); (try clear hi))); try go_wp2_with (first | (go_at_call 11; (with_reducible refine (vizardlaw18_own.calls _ _ l0 t265 _ ?side1 ?side2 A45.out).mono ?_); (case side1 => repeat (first | exact (Kd.C_below HR0.out HB.out) | (with_reducible refine Kd.C_alloc ?_ _) | (with_reducible refine Kd.C_drewN ?_ _) | (with_reducible refine Kd.C_drew ?_))); (case side2 => exact HC0.out); rintro e w47 ⟨v266, rfl, ho0, hb⟩; have n0_ := Aside0.mk (Kd.R_below (by (with_reducible repeat (first | apply Kd.R_alloc | apply Kd.R_drewN | apply Kd.R_drew)); exact HO_9.out) hb); have n1_ := Aside0.mk (Kd.R_lower ho0 (below_size (by repeat (first | (with_reducible first | exact HB.out | apply below_alloc | apply pw_below_drewN | apply below_drew1) | exact HB.out)))); have n2_ := Aside0.mk (below_step (by repeat (first | (with_reducible first | exact HB.out | apply below_alloc | apply pw_below_drewN | apply below_drew1) | exact HB.out)) hb); clear HO_9; clear HB; have HO_9 := n0_; have HO267 := n1_; have HB := n2_; clear n0_ n1_ n2_; (try clear hb); (try clear hb2); (try clear hk); (try clear hi); (try clear ho0); obtain ⟨Ao48, co48, eo48⟩ := Kd.R_slice HO267.out; subst eo48) | (go_at_call 14; (with_reducible refine (policy_Allow.calls kj36 _ _ t265 a1 a2 a3 t268 _ ?side1 ?side2 A46.out).mono ?_); (case side1 => repeat (first | exact (Kd.R_reads' HO267.out).2.2 | (with_reducible refine Kd.C_alloc ?_ _) | (with_reducible refine Kd.C_drewN ?_ _) | (with_reducible refine Kd.C_drew ?_))); (case side2 => exact (Kd.R_reads' HO267.out).2.1); rintro e w49 ⟨rfl, hb⟩; have n0_ := Aside0.mk (Kd.R_below (by (with_reducible repeat (first | apply Kd.R_alloc | apply Kd.R_drewN | apply Kd.R_drew)); exact HO_9.out) hb); have n1_ := Aside0.mk (Kd.R_below (by (with_reducible repeat (first | apply Kd.R_alloc | apply Kd.R_drewN | apply Kd.R_drew)); exact HO267.out) hb); have n2_ := Aside0.mk (below_step (by repeat (first | (with_reducible first | exact HB.out | apply below_alloc | apply pw_below_drewN | apply below_drew1) | exact HB.out)) hb); clear HO_9; clear HO267; clear HB; have HO_9 := n0_; have HO267 := n1_; have HB := n2_; clear n0_ n1_ n2_; (try clear hb); (try clear hb2); (try clear hk); (try clear hi))))
                  go_ret
                  exact ⟨by first | rfl | (simp [errW_none, errW_some] <;> rfl) | (simp [*, errW_none, errW_some] <;> rfl), by repeat (first | (with_reducible first | exact HB.out | apply below_alloc | apply pw_below_drewN | apply below_drew1) | exact HB.out)⟩
  · replace c6 := Bool.eq_false_iff.mpr c6
    subst c6
    have H1 : (some false) = some r := by rw [if_neg (show ¬ (false = true) by decide)] at H; exact H
    clear H
    have H := H1
    clear H1
    obtain rfl := Option.some.inj H
    go_enter Try.func4, Try.ntmps4
    go_wp2_with (first | (go_at_call 13; (with_reducible refine (vizardlaw18_works.calls k  false _ A5.out).mono ?_); rintro e w50 ⟨rfl, hb⟩; have n0_ := Aside0.mk (below_step (by repeat (first | (with_reducible first | exact HB.out | apply below_alloc | apply pw_below_drewN | apply below_drew1) | exact HB.out)) hb); clear HB; have HB := n0_; clear n0_; (try clear hb); (try clear hb2); (try clear hk); (try clear hi)))
    repeat (go_quiet (first | (go_at_call 13; (with_reducible refine (vizardlaw18_works.calls k  false _ A5.out).mono ?_); rintro e w50 ⟨rfl, hb⟩; have n0_ := Aside0.mk (below_step (by repeat (first | (with_reducible first | exact HB.out | apply below_alloc | apply pw_below_drewN | apply below_drew1) | exact HB.out)) hb); clear HB; have HB := n0_; clear n0_; (try clear hb); (try clear hb2); (try clear hk); (try clear hi))); try go_wp2_with (first | (go_at_call 13; (with_reducible refine (vizardlaw18_works.calls k  false _ A5.out).mono ?_); rintro e w50 ⟨rfl, hb⟩; have n0_ := Aside0.mk (below_step (by repeat (first | (with_reducible first | exact HB.out | apply below_alloc | apply pw_below_drewN | apply below_drew1) | exact HB.out)) hb); clear HB; have HB := n0_; clear n0_; (try clear hb); (try clear hb2); (try clear hk); (try clear hi))))
    go_ret
    exact ⟨by first | rfl | (simp [errW_none, errW_some] <;> rfl) | (simp [*, errW_none, errW_some] <;> rfl), by repeat (first | (with_reducible first | exact HB.out | apply below_alloc | apply pw_below_drewN | apply below_drew1) | exact HB.out)⟩

end Go.Proofs.Ytcpneggifmldoaa.X

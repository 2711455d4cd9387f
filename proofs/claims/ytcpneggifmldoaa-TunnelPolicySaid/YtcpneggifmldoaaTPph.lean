/-
  Part 8 of the texts of this claim: Tx25, Tx10, Tx11, Tx12, TunPort, TunPre.
-/
import Derived.Test.YtcpneggifmldoaaTPpg
namespace Go.Proofs.Ytcpneggifmldoaa.T
open Go.RowKit Go.Proofs.YtcpneggifmldoaaW.PrintWords Go.Proofs.YtcpneggifmldoaaW.PrintLast Go.Proofs.YtcpneggifmldoaaW.PrintMore
attribute [local go_sem] max2_int min2_int max_two min_two max_three min_three max_four min_four   -- for this text's walks alone
set_option linter.unusedVariables false
set_option linter.unusedSimpArgs false
def tunnel_Tunnel_packet.j0 : Nat → ByteArray → Bool → Int → Int → Int → Int → Int → Int → Int → ByteArray → Option (Bool × Int × Int × Int × ByteArray × Int)
  | 0, _, _, _, _, _, _, _, _, _, _ => none
  | k + 1, x1, x42, x254000, x254001, x254002, x254003, x254004, x254005, x254006, x254007 => if x42 = true then (some (false, 0, 0, 0, (⟨#[]⟩ : ByteArray), 15)) else ((tunnel_further.f x1).bind fun bt258 => (if bt258.2 = 0 then (some (true, 0, x254006, 0, bt258.1, 0)) else (some (false, 0, 0, 0, (⟨#[]⟩ : ByteArray), bt258.2))))
def tunnel_Tunnel_packet.f (k : Nat) (a0_0 : Bool) (a0_1 : Int) (a0_2 : Int) (a0_3 : Int) (a0_4 : Int) (l0_5 : List (S40)) (a1 : ByteArray) : Option (Bool × Int × Int × Int × ByteArray × Int) := (ipv4_Parse.f a1).bind fun bt244 => (if bt244.2.2.2.2.2.2.2.2 = 0 then ((udp_Ports.f k bt244.1 bt244.2.1 bt244.2.2.1 bt244.2.2.2.1 bt244.2.2.2.2.1 bt244.2.2.2.2.2.1 bt244.2.2.2.2.2.2.1 bt244.2.2.2.2.2.2.2.1).bind fun bt254 => (if bt244.2.2.2.2.2.1 = a0_3 then ((policy_Allow.f k l0_5 bt244.2.2.2.2.1 bt244.2.2.2.2.2.2.1 bt254.2.1).bind fun t257 => (tunnel_Tunnel_packet.j0 k a1 (!t257) bt244.1 bt244.2.1 bt244.2.2.1 bt244.2.2.2.1 bt244.2.2.2.2.1 bt244.2.2.2.2.2.1 bt244.2.2.2.2.2.2.1 bt244.2.2.2.2.2.2.2.1)) else (tunnel_Tunnel_packet.j0 k a1 true bt244.1 bt244.2.1 bt244.2.2.1 bt244.2.2.2.1 bt244.2.2.2.2.1 bt244.2.2.2.2.2.1 bt244.2.2.2.2.2.2.1 bt244.2.2.2.2.2.2.2.1))) else (some (false, 0, 0, 0, (⟨#[]⟩ : ByteArray), bt244.2.2.2.2.2.2.2.2)))
set_option maxHeartbeats 8000000 in
set_option maxRecDepth 100000 in
theorem tunnel_Tunnel_packet.calls (k : Nat) (a0_0 : Bool) (a0_1 : Int) (a0_2 : Int) (a0_3 : Int) (a0_4 : Int) (A0_5 : Option Addr) (c0_5 : Nat) (l0_5 : List (S40)) (a1 : ByteArray) (r1 : Bool) (r2 : Int) (r3 : Int) (r4 : Int) (r5 : ByteArray) (r6 : Int) (w : World) (hr0_5 : Kd.C k40 w A0_5 l0_5.length l0_5) (hc0_5 : l0_5.length ≤ c0_5) (h : tunnel_Tunnel_packet.f k a0_0 a0_1 a0_2 a0_3 a0_4 l0_5 a1 = some (r1, r2, r3, r4, r5, r6)) :
    Calls Try.prog 36 #[.agg #[.bool a0_0, .int .u32 a0_1, .int .i64 a0_2, .int .u32 a0_3, .int .i64 a0_4, .slice A0_5 l0_5.length c0_5], .string a1] w fun e w' => e = .returned (.tuple #[.agg #[.bool r1, .int .i64 r2, .int .u32 r3, .int .i64 r4, .string r5], .int .i64 r6]) ∧ Below w.heap.size w w' := by
  have hu47 := Try.underlying47
  have hu50 := Try.underlying50
  have hu58 := Try.underlying58
  have HR0_5 := Aside0.mk hr0_5
  have HC0_5 := Aside0.mk hc0_5
  clear hr0_5 hc0_5
  have HB := Aside0.mk (Below.refl w.heap.size w)
  have H : ((ipv4_Parse.f a1).bind fun bt244 => (if bt244.2.2.2.2.2.2.2.2 = 0 then ((udp_Ports.f k bt244.1 bt244.2.1 bt244.2.2.1 bt244.2.2.2.1 bt244.2.2.2.2.1 bt244.2.2.2.2.2.1 bt244.2.2.2.2.2.2.1 bt244.2.2.2.2.2.2.2.1).bind fun bt254 => (if bt244.2.2.2.2.2.1 = a0_3 then ((policy_Allow.f k l0_5 bt244.2.2.2.2.1 bt244.2.2.2.2.2.2.1 bt254.2.1).bind fun t257 => (tunnel_Tunnel_packet.j0 k a1 (!t257) bt244.1 bt244.2.1 bt244.2.2.1 bt244.2.2.2.1 bt244.2.2.2.2.1 bt244.2.2.2.2.2.1 bt244.2.2.2.2.2.2.1 bt244.2.2.2.2.2.2.2.1)) else (tunnel_Tunnel_packet.j0 k a1 true bt244.1 bt244.2.1 bt244.2.2.1 bt244.2.2.2.1 bt244.2.2.2.2.1 bt244.2.2.2.2.2.1 bt244.2.2.2.2.2.2.1 bt244.2.2.2.2.2.2.2.1))) else (some (false, 0, 0, 0, (⟨#[]⟩ : ByteArray), bt244.2.2.2.2.2.2.2.2)))) = some (r1, r2, r3, r4, r5, r6) := h
  clear h
  replace H := Option.bind_eq_some_iff.mp H
  obtain ⟨⟨t244, t245, t246, t247, t248, t249, t250, t251, t252⟩, A30, H⟩ := H
  replace H : (if t252 = 0 then ((udp_Ports.f k t244 t245 t246 t247 t248 t249 t250 t251).bind fun bt254 => (if t249 = a0_3 then ((policy_Allow.f k l0_5 t248 t250 bt254.2.1).bind fun t257 => (tunnel_Tunnel_packet.j0 k a1 (!t257) t244 t245 t246 t247 t248 t249 t250 t251)) else (tunnel_Tunnel_packet.j0 k a1 true t244 t245 t246 t247 t248 t249 t250 t251))) else (some (false, 0, 0, 0, (⟨#[]⟩ : ByteArray), t252))) = some (r1, r2, r3, r4, r5, r6) := H
  have A3 := Aside0.mk A30
  clear A30
  by_cases c4 : t252 = 0
  · rw [if_pos c4] at H
    have c4b0 : (t252 == 0) = true := beq_iff_eq.mpr c4
    have c4b1 : (t252 != 0) = false := bne_eq_false_iff_eq.mpr c4
    clear c4
    replace H := Option.bind_eq_some_iff.mp H
    obtain ⟨⟨t254, t255, t256⟩, A50, H⟩ := H
    replace H : (if t249 = a0_3 then ((policy_Allow.f k l0_5 t248 t250 t255).bind fun t257 => (tunnel_Tunnel_packet.j0 k a1 (!t257) t244 t245 t246 t247 t248 t249 t250 t251)) else (tunnel_Tunnel_packet.j0 k a1 true t244 t245 t246 t247 t248 t249 t250 t251)) = some (r1, r2, r3, r4, r5, r6) := H
    have A5 := Aside0.mk A50
    clear A50
    have HC6 := Aside0.mk H
    clear H
    go_enter Try.func36, Try.ntmps36
    go_upto_region 5 with (first | ((with_reducible refine gate_dst (N := 2) rfl ?_); refine box_event ?hg (N := 2) ?hd (cs := #[.bool a0_0, .int .u32 a0_1, .int .i64 a0_2, .int .u32 a0_3, .int .i64 a0_4, .slice A0_5 l0_5.length c0_5]) (t := 47) ?hr ?_; (case hd => rfl); (case hg => rfl); (case hr => first | (go_simp; done) | (go_simp; rfl)); intro gb242 hg w7 hbox hb; have n0_ := Aside0.mk (below_step (by repeat (first | (with_reducible first | exact HB.out | apply below_alloc | apply pw_below_drewN | apply below_drew1) | exact HB.out)) hb); have n1_ := Aside0.mk (hbox); have n2_ := Aside0.mk ((by rw [hg]; exact (below_size (by repeat (first | (with_reducible first | exact HB.out | apply below_alloc | apply pw_below_drewN | apply below_drew1) | exact HB.out))) : w.heap.size ≤ gb242)); have n3_ := Aside0.mk ((by rw [hg]; exact (below_size (by repeat (first | (with_reducible first | exact HB.out | apply below_alloc | apply pw_below_drewN | apply below_drew1) | exact HB.out))) : w.heap.size ≤ gb242)); clear HB; have HB := n0_; have BK242 := n1_; have GW242 := n2_; have GE242 := n3_; clear n0_ n1_ n2_ n3_; clear hb hbox hg) | ((with_reducible refine gate_dst (N := 4) rfl ?_); refine box_event ?hg (N := 4) ?hd (cs := #[.bool false, .int .i64 0, .int .u32 0, .int .i64 0, .string (⟨#[]⟩ : ByteArray)]) (t := 50) ?hr ?_; (case hd => rfl); (case hg => rfl); (case hr => first | (go_simp; done) | (go_simp; rfl)); intro gb243 hg w8 hbox hb; have n0_ := Aside0.mk (blk_below (g := gb242) (o := .cells #[.bool a0_0, .int .u32 a0_1, .int .i64 a0_2, .int .u32 a0_3, .int .i64 a0_4, .slice A0_5 l0_5.length c0_5] 47 (0, 0)) (by (with_reducible repeat (first | refine blk_drewN ?_ _ | refine blk_drew ?_ | refine blk_alloc ?_ _)); exact BK242.out) hb); have n1_ := Aside0.mk (below_step (by repeat (first | (with_reducible first | exact HB.out | apply below_alloc | apply pw_below_drewN | apply below_drew1 | refine below_set ?_ GE242.out) | exact HB.out)) hb); have n2_ := Aside0.mk (hbox); have n3_ := Aside0.mk ((by rw [hg]; exact (below_size (by repeat (first | (with_reducible first | exact HB.out | apply below_alloc | apply pw_below_drewN | apply below_drew1 | refine below_set ?_ GE242.out) | exact HB.out))) : w.heap.size ≤ gb243)); have n4_ := Aside0.mk ((by rw [hg]; exact (below_size (by repeat (first | (with_reducible first | exact HB.out | apply below_alloc | apply pw_below_drewN | apply below_drew1 | refine below_set ?_ GE242.out) | exact HB.out))) : w.heap.size ≤ gb243)); have n5_ := Aside0.mk ((by rw [hg]; exact Nat.ne_of_lt (blk_lt (g := gb242) (o := .cells #[.bool a0_0, .int .u32 a0_1, .int .i64 a0_2, .int .u32 a0_3, .int .i64 a0_4, .slice A0_5 l0_5.length c0_5] 47 (0, 0)) (by (with_reducible repeat (first | refine blk_drewN ?_ _ | refine blk_drew ?_ | refine blk_alloc ?_ _)); exact BK242.out)) : gb242 ≠ gb243)); have n6_ := Aside0.mk ((by rw [hg]; exact Nat.ne_of_gt (blk_lt (g := gb242) (o := .cells #[.bool a0_0, .int .u32 a0_1, .int .i64 a0_2, .int .u32 a0_3, .int .i64 a0_4, .slice A0_5 l0_5.length c0_5] 47 (0, 0)) (by (with_reducible repeat (first | refine blk_drewN ?_ _ | refine blk_drew ?_ | refine blk_alloc ?_ _)); exact BK242.out)) : gb243 ≠ gb242)); clear BK242; clear HB; have BK242 := n0_; have HB := n1_; have BK243 := n2_; have GW243 := n3_; have GE243 := n4_; have NB242_243 := n5_; have NB243_242 := n6_; clear n0_ n1_ n2_ n3_ n4_ n5_ n6_; clear hb hbox hg) | ((with_reducible refine gate_callee (f := 38) rfl ?_); refine goesL_ (some 14) rfl rfl Try.func38 (by kernel_rfl) rfl #[.string a1] rfl (by (try simp only [List.map_toArray, List.map_cons, List.map_nil]); first | done | rfl | (simp only [List.length_drop, List.length_take]; rfl)) ?_; (with_reducible refine (ipv4_Parse.calls a1 t244 t245 t246 t247 t248 t249 t250 t251 t252 _ A3.out).mono ?_); rintro e w9 ⟨rfl, hb⟩; refine ⟨_, rfl, ?_⟩; have n0_ := Aside0.mk (blk_below (g := gb242) (o := .cells #[.bool a0_0, .int .u32 a0_1, .int .i64 a0_2, .int .u32 a0_3, .int .i64 a0_4, .slice A0_5 l0_5.length c0_5] 47 (0, 0)) (by (with_reducible repeat (first | refine blk_drewN ?_ _ | refine blk_drew ?_ | refine blk_alloc ?_ _)); exact BK242.out) hb); have n1_ := Aside0.mk (blk_below (g := gb243) (o := .cells #[.bool false, .int .i64 0, .int .u32 0, .int .i64 0, .string (⟨#[]⟩ : ByteArray)] 50 (0, 0)) (by (with_reducible repeat (first | refine blk_drewN ?_ _ | refine blk_drew ?_ | refine blk_alloc ?_ _)); exact BK243.out) hb); have n2_ := Aside0.mk (below_step (by repeat (first | (with_reducible first | exact HB.out | apply below_alloc | apply pw_below_drewN | apply below_drew1 | refine below_set ?_ GE242.out | refine below_set ?_ GE243.out) | exact HB.out)) hb); clear BK242; clear BK243; clear HB; have BK242 := n0_; have BK243 := n1_; have HB := n2_; clear n0_ n1_ n2_; (try clear hb); (try clear hb2); (try clear hk); (try clear hi)) | ((with_reducible refine gate_dst (N := 6) rfl ?_); refine box_event ?hg (N := 6) ?hd (cs := #[.int .i64 0, .int .i64 0, .int .i64 0, .int .i64 0, .int .i64 0, .int .u32 0, .int .u32 0, .string (⟨#[]⟩ : ByteArray)]) (t := 58) ?hr ?_; (case hd => rfl); (case hg => rfl); (case hr => first | (go_simp; done) | (go_simp; rfl)); intro gb253 hg w10 hbox hb; have n0_ := Aside0.mk (blk_below (g := gb242) (o := .cells #[.bool a0_0, .int .u32 a0_1, .int .i64 a0_2, .int .u32 a0_3, .int .i64 a0_4, .slice A0_5 l0_5.length c0_5] 47 (0, 0)) (by (with_reducible repeat (first | refine blk_drewN ?_ _ | refine blk_drew ?_ | refine blk_alloc ?_ _)); exact BK242.out) hb); have n1_ := Aside0.mk (blk_below (g := gb243) (o := .cells #[.bool false, .int .i64 0, .int .u32 0, .int .i64 0, .string (⟨#[]⟩ : ByteArray)] 50 (0, 0)) (by (with_reducible repeat (first | refine blk_drewN ?_ _ | refine blk_drew ?_ | refine blk_alloc ?_ _)); exact BK243.out) hb); have n2_ := Aside0.mk (below_step (by repeat (first | (with_reducible first | exact HB.out | apply below_alloc | apply pw_below_drewN | apply below_drew1 | refine below_set ?_ GE242.out | refine below_set ?_ GE243.out) | exact HB.out)) hb); have n3_ := Aside0.mk (hbox); have n4_ := Aside0.mk ((by rw [hg]; exact (below_size (by repeat (first | (with_reducible first | exact HB.out | apply below_alloc | apply pw_below_drewN | apply below_drew1 | refine below_set ?_ GE242.out | refine below_set ?_ GE243.out) | exact HB.out))) : w.heap.size ≤ gb253)); have n5_ := Aside0.mk ((by rw [hg]; exact (below_size (by repeat (first | (with_reducible first | exact HB.out | apply below_alloc | apply pw_below_drewN | apply below_drew1 | refine below_set ?_ GE242.out | refine below_set ?_ GE243.out) | exact HB.out))) : w.heap.size ≤ gb253)); have n6_ := Aside0.mk ((by rw [hg]; exact Nat.ne_of_lt (blk_lt (g := gb242) (o := .cells #[.bool a0_0, .int .u32 a0_1, .int .i64 a0_2, .int .u32 a0_3, .int .i64 a0_4, .slice A0_5 l0_5.length c0_5] 47 (0, 0)) (by (with_reducible repeat (first | refine blk_drewN ?_ _ | refine blk_drew ?_ | refine blk_alloc ?_ _)); exact BK242.out)) : gb242 ≠ gb253)); have n7_ := Aside0.mk ((by rw [hg]; exact Nat.ne_of_gt (blk_lt (g := gb242) (o := .cells #[.bool a0_0, .int .u32 a0_1, .int .i64 a0_2, .int .u32 a0_3, .int .i64 a0_4, .slice A0_5 l0_5.length c0_5] 47 (0, 0)) (by (with_reducible repeat (first | refine blk_drewN ?_ _ | refine blk_drew ?_ | refine blk_alloc ?_ _)); exact BK242.out)) : gb253 ≠ gb242)); have n8_ := Aside0.mk ((by rw [hg]; exact Nat.ne_of_lt (blk_lt (g := gb243) (o := .cells #[.bool false, .int .i64 0, .int .u32 0, .int .i64 0, .string (⟨#[]⟩ : ByteArray)] 50 (0, 0)) (by (with_reducible repeat (first | refine blk_drewN ?_ _ | refine blk_drew ?_ | refine blk_alloc ?_ _)); exact BK243.out)) : gb243 ≠ gb253)); have n9_ := Aside0.mk ((by rw [hg]; exact Nat.ne_of_gt (blk_lt (g := gb243) (o := .cells #[.bool false, .int .i64 0, .int .u32 0, .int .i64 0, .string (⟨#[]⟩ : ByteArray)] 50 (0, 0)) (by (with_reducible repeat (first | refine blk_drewN ?_ _ | refine blk_drew ?_ | refine blk_alloc ?_ _)); exact BK243.out)) : gb253 ≠ gb243)); clear BK242; clear BK243; clear HB; have BK242 := n0_; have BK243 := n1_; have HB := n2_; have BK253 := n3_; have GW253 := n4_; have GE253 := n5_; have NB242_253 := n6_; have NB253_242 := n7_; have NB243_253 := n8_; have NB253_243 := n9_; clear n0_ n1_ n2_ n3_ n4_ n5_ n6_ n7_ n8_ n9_; clear hb hbox hg; have hnb11 := NB253_242.out; have hnc11 := NB242_253.out; have hnb12 := NB253_243.out; have hnc12 := NB243_253.out; have hcz13_0 : w10.cell? ⟨gb253, 0, none⟩ = some (.int .i64 0) := (blk_cell BK253.out 0).trans rfl; have hcz13_1 : w10.cell? ⟨gb253, 1, none⟩ = some (.int .i64 0) := (blk_cell BK253.out 1).trans rfl; have hcz13_2 : w10.cell? ⟨gb253, 2, none⟩ = some (.int .i64 0) := (blk_cell BK253.out 2).trans rfl; have hcz13_3 : w10.cell? ⟨gb253, 3, none⟩ = some (.int .i64 0) := (blk_cell BK253.out 3).trans rfl; have hcz13_4 : w10.cell? ⟨gb253, 4, none⟩ = some (.int .i64 0) := (blk_cell BK253.out 4).trans rfl; have hcz13_5 : w10.cell? ⟨gb253, 5, none⟩ = some (.int .u32 0) := (blk_cell BK253.out 5).trans rfl; have hcz13_6 : w10.cell? ⟨gb253, 6, none⟩ = some (.int .u32 0) := (blk_cell BK253.out 6).trans rfl; have hcz13_7 : w10.cell? ⟨gb253, 7, none⟩ = some (.string (⟨#[]⟩ : ByteArray)) := (blk_cell BK253.out 7).trans rfl; have hfz13_0 := blk_frozen BK253.out 0; have hfz13_1 := blk_frozen BK253.out 1; have hfz13_2 := blk_frozen BK253.out 2; have hfz13_3 := blk_frozen BK253.out 3; have hfz13_4 := blk_frozen BK253.out 4; have hfz13_5 := blk_frozen BK253.out 5; have hfz13_6 := blk_frozen BK253.out 6; have hfz13_7 := blk_frozen BK253.out 7) | ((with_reducible refine gate_callee (f := 55) rfl ?_); refine goesL_ (some 23) rfl rfl Try.func55 (by kernel_rfl) rfl #[.agg #[.int .i64 t244, .int .i64 t245, .int .i64 t246, .int .i64 t247, .int .i64 t248, .int .u32 t249, .int .u32 t250, .string t251]] rfl (by (try simp only [List.map_toArray, List.map_cons, List.map_nil]); first | done | rfl | (simp only [List.length_drop, List.length_take]; rfl)) ?_; (with_reducible refine (udp_Ports.calls k t244 t245 t246 t247 t248 t249 t250 t251 t254 t255 t256 _ A5.out).mono ?_); rintro e w14 ⟨rfl, hb⟩; refine ⟨_, rfl, ?_⟩; have n0_ := Aside0.mk (blk_below (g := gb242) (o := .cells #[.bool a0_0, .int .u32 a0_1, .int .i64 a0_2, .int .u32 a0_3, .int .i64 a0_4, .slice A0_5 l0_5.length c0_5] 47 (0, 0)) (by (with_reducible repeat (first | refine blk_drewN ?_ _ | refine blk_drew ?_ | refine blk_alloc ?_ _)); refine blk_far ?_ NB242_253.out _; (with_reducible repeat (first | refine blk_drewN ?_ _ | refine blk_drew ?_ | refine blk_alloc ?_ _)); refine blk_far ?_ NB242_253.out _; (with_reducible repeat (first | refine blk_drewN ?_ _ | refine blk_drew ?_ | refine blk_alloc ?_ _)); refine blk_far ?_ NB242_253.out _; (with_reducible repeat (first | refine blk_drewN ?_ _ | refine blk_drew ?_ | refine blk_alloc ?_ _)); refine blk_far ?_ NB242_253.out _; (with_reducible repeat (first | refine blk_drewN ?_ _ | refine blk_drew ?_ | refine blk_alloc ?_ _)); refine blk_far ?_ NB242_253.out _; (with_reducible repeat (first | refine blk_drewN ?_ _ | refine blk_drew ?_ | refine blk_alloc ?_ _)); refine blk_far ?_ NB242_253.out _; (with_reducible repeat (first | refine blk_drewN ?_ _ | refine blk_drew ?_ | refine blk_alloc ?_ _)); refine blk_far ?_ NB242_253.out _; (with_reducible repeat (first | refine blk_drewN ?_ _ | refine blk_drew ?_ | refine blk_alloc ?_ _)); refine blk_far ?_ NB242_253.out _; (with_reducible repeat (first | refine blk_drewN ?_ _ | refine blk_drew ?_ | refine blk_alloc ?_ _)); exact BK242.out) hb); have n1_ := Aside0.mk (blk_below (g := gb243) (o := .cells #[.bool false, .int .i64 0, .int .u32 0, .int .i64 0, .string (⟨#[]⟩ : ByteArray)] 50 (0, 0)) (by (with_reducible repeat (first | refine blk_drewN ?_ _ | refine blk_drew ?_ | refine blk_alloc ?_ _)); refine blk_far ?_ NB243_253.out _; (with_reducible repeat (first | refine blk_drewN ?_ _ | refine blk_drew ?_ | refine blk_alloc ?_ _)); refine blk_far ?_ NB243_253.out _; (with_reducible repeat (first | refine blk_drewN ?_ _ | refine blk_drew ?_ | refine blk_alloc ?_ _)); refine blk_far ?_ NB243_253.out _; (with_reducible repeat (first | refine blk_drewN ?_ _ | refine blk_drew ?_ | refine blk_alloc ?_ _)); refine blk_far ?_ NB243_253.out _; (with_reducible repeat (first | refine blk_drewN ?_ _ | refine blk_drew ?_ | refine blk_alloc ?_ _)); refine blk_far ?_ NB243_253.out _; (with_reducible repeat (first | refine blk_drewN ?_ _ | refine blk_drew ?_ | refine blk_alloc ?_ _)); refine blk_far ?_ NB243_253.out _; (with_reducible repeat (first | refine blk_drewN ?_ _ | refine blk_drew ?_ | refine blk_alloc ?_ _)); refine blk_far ?_ NB243_253.out _; (with_reducible repeat (first | refine blk_drewN ?_ _ | refine blk_drew ?_ | refine blk_alloc ?_ _)); refine blk_far ?_ NB243_253.out _; (with_reducible repeat (first | refine blk_drewN ?_ _ | refine blk_drew ?_ | refine blk_alloc ?_ _)); exact BK243.out) hb); have n2_ := Aside0.mk (blk_below (g := gb253) (o := .cells #[.int .i64 t244, .int .i64 t245, .int .i64 t246, .int .i64 t247, .int .i64 t248, .int .u32 t249, .int .u32 t250, .string t251] 58 (0, 0)) (by (with_reducible repeat (first | refine blk_drewN ?_ _ | refine blk_drew ?_ | refine blk_alloc ?_ _)); refine blk_put (cs := #[.int .i64 t244, .int .i64 t245, .int .i64 t246, .int .i64 t247, .int .i64 t248, .int .u32 t249, .int .u32 t250, .string (⟨#[]⟩ : ByteArray)]) ?_ 7 _ rfl; (with_reducible repeat (first | refine blk_drewN ?_ _ | refine blk_drew ?_ | refine blk_alloc ?_ _)); refine blk_put (cs := #[.int .i64 t244, .int .i64 t245, .int .i64 t246, .int .i64 t247, .int .i64 t248, .int .u32 t249, .int .u32 0, .string (⟨#[]⟩ : ByteArray)]) ?_ 6 _ rfl; (with_reducible repeat (first | refine blk_drewN ?_ _ | refine blk_drew ?_ | refine blk_alloc ?_ _)); refine blk_put (cs := #[.int .i64 t244, .int .i64 t245, .int .i64 t246, .int .i64 t247, .int .i64 t248, .int .u32 0, .int .u32 0, .string (⟨#[]⟩ : ByteArray)]) ?_ 5 _ rfl; (with_reducible repeat (first | refine blk_drewN ?_ _ | refine blk_drew ?_ | refine blk_alloc ?_ _)); refine blk_put (cs := #[.int .i64 t244, .int .i64 t245, .int .i64 t246, .int .i64 t247, .int .i64 0, .int .u32 0, .int .u32 0, .string (⟨#[]⟩ : ByteArray)]) ?_ 4 _ rfl; (with_reducible repeat (first | refine blk_drewN ?_ _ | refine blk_drew ?_ | refine blk_alloc ?_ _)); refine blk_put (cs := #[.int .i64 t244, .int .i64 t245, .int .i64 t246, .int .i64 0, .int .i64 0, .int .u32 0, .int .u32 0, .string (⟨#[]⟩ : ByteArray)]) ?_ 3 _ rfl; (with_reducible repeat (first | refine blk_drewN ?_ _ | refine blk_drew ?_ | refine blk_alloc ?_ _)); refine blk_put (cs := #[.int .i64 t244, .int .i64 t245, .int .i64 0, .int .i64 0, .int .i64 0, .int .u32 0, .int .u32 0, .string (⟨#[]⟩ : ByteArray)]) ?_ 2 _ rfl; (with_reducible repeat (first | refine blk_drewN ?_ _ | refine blk_drew ?_ | refine blk_alloc ?_ _)); refine blk_put (cs := #[.int .i64 t244, .int .i64 0, .int .i64 0, .int .i64 0, .int .i64 0, .int .u32 0, .int .u32 0, .string (⟨#[]⟩ : ByteArray)]) ?_ 1 _ rfl; (with_reducible repeat (first | refine blk_drewN ?_ _ | refine blk_drew ?_ | refine blk_alloc ?_ _)); refine blk_put (cs := #[.int .i64 0, .int .i64 0, .int .i64 0, .int .i64 0, .int .i64 0, .int .u32 0, .int .u32 0, .string (⟨#[]⟩ : ByteArray)]) ?_ 0 _ rfl; (with_reducible repeat (first | refine blk_drewN ?_ _ | refine blk_drew ?_ | refine blk_alloc ?_ _)); exact BK253.out) hb); have n3_ := Aside0.mk (below_step (by repeat (first | (with_reducible first | exact HB.out | apply below_alloc | apply pw_below_drewN | apply below_drew1 | refine below_set ?_ GE242.out | refine below_set ?_ GE243.out | refine below_set ?_ GE253.out) | exact HB.out)) hb); clear BK242; clear BK243; clear BK253; clear HB; have BK242 := n0_; have BK243 := n1_; have BK253 := n2_; have HB := n3_; clear n0_ n1_ n2_ n3_; (try clear hb); (try clear hb2); (try clear hk); (try clear hi)))
    (try simp only [Act.put, List.setIfInBounds_toArray, List.set_cons_zero, List.set_cons_succ])
    go_cut [42] (fun v42 wc => ∃ (kq : Nat) (x42_5 : Bool), v42 = .bool x42_5 ∧ Aside0 (tunnel_Tunnel_packet.j0 kq a1 x42_5 t244 t245 t246 t247 t248 t249 t250 t251 = some (r1, r2, r3, r4, r5, r6)) ∧ Aside0 (kq ≤ k) ∧ Aside0 (wc.heap[gb242]? = some (.cells #[.bool a0_0, .int .u32 a0_1, .int .i64 a0_2, .int .u32 a0_3, .int .i64 a0_4, (.slice A0_5 l0_5.length c0_5)] 47 (0, 0))) ∧ Aside0 (wc.heap[gb243]? = some (.cells #[.bool false, .int .i64 0, .int .u32 0, .int .i64 0, .string (⟨#[]⟩ : ByteArray)] 50 (0, 0))) ∧ Aside0 (wc.heap[gb253]? = some (.cells #[.int .i64 t244, .int .i64 t245, .int .i64 t246, .int .i64 t247, .int .i64 t248, .int .u32 t249, .int .u32 t250, .string t251] 58 (0, 0))) ∧ Aside0 (Below w.heap.size w wc))
    case first =>
      have H := HC6.out
      clear HC6
      by_cases c15 : t249 = a0_3
      · rw [if_pos c15] at H
        have c15b0 : (t249 == a0_3) = true := beq_iff_eq.mpr c15
        have c15b1 : (t249 != a0_3) = false := bne_eq_false_iff_eq.mpr c15
        clear c15
        (first | rw [c15b0] | (simp only [i64_w, i32_w]; rw [c15b0]) | skip)
        replace H := Option.bind_eq_some_iff.mp H
        obtain ⟨t257, A160, H⟩ := H
        replace H : (tunnel_Tunnel_packet.j0 k a1 (!t257) t244 t245 t246 t247 t248 t249 t250 t251) = some (r1, r2, r3, r4, r5, r6) := H
        have A16 := Aside0.mk A160
        clear A160
        have H' := Aside0.mk H
        clear H
        have hnb17 := NB253_242.out
        have hnc17 := NB242_253.out
        have hnb18 := NB253_243.out
        have hnc18 := NB243_253.out
        have hcz19_0 : w14.cell? ⟨gb253, 0, none⟩ = some (.int .i64 t244) := (blk_cell BK253.out 0).trans rfl
        have hcz19_1 : w14.cell? ⟨gb253, 1, none⟩ = some (.int .i64 t245) := (blk_cell BK253.out 1).trans rfl
        have hcz19_2 : w14.cell? ⟨gb253, 2, none⟩ = some (.int .i64 t246) := (blk_cell BK253.out 2).trans rfl
        have hcz19_3 : w14.cell? ⟨gb253, 3, none⟩ = some (.int .i64 t247) := (blk_cell BK253.out 3).trans rfl
        have hcz19_4 : w14.cell? ⟨gb253, 4, none⟩ = some (.int .i64 t248) := (blk_cell BK253.out 4).trans rfl
        have hcz19_5 : w14.cell? ⟨gb253, 5, none⟩ = some (.int .u32 t249) := (blk_cell BK253.out 5).trans rfl
        have hcz19_6 : w14.cell? ⟨gb253, 6, none⟩ = some (.int .u32 t250) := (blk_cell BK253.out 6).trans rfl
        have hcz19_7 : w14.cell? ⟨gb253, 7, none⟩ = some (.string t251) := (blk_cell BK253.out 7).trans rfl
        have hfz19_0 := blk_frozen BK253.out 0
        have hfz19_1 := blk_frozen BK253.out 1
        have hfz19_2 := blk_frozen BK253.out 2
        have hfz19_3 := blk_frozen BK253.out 3
        have hfz19_4 := blk_frozen BK253.out 4
        have hfz19_5 := blk_frozen BK253.out 5
        have hfz19_6 := blk_frozen BK253.out 6
        have hfz19_7 := blk_frozen BK253.out 7
        have hnb20 := NB242_243.out
        have hnc20 := NB243_242.out
        have hcz21_0 : w14.cell? ⟨gb242, 0, none⟩ = some (.bool a0_0) := (blk_cell BK242.out 0).trans rfl
        have hcz21_1 : w14.cell? ⟨gb242, 1, none⟩ = some (.int .u32 a0_1) := (blk_cell BK242.out 1).trans rfl
        have hcz21_2 : w14.cell? ⟨gb242, 2, none⟩ = some (.int .i64 a0_2) := (blk_cell BK242.out 2).trans rfl
        have hcz21_3 : w14.cell? ⟨gb242, 3, none⟩ = some (.int .u32 a0_3) := (blk_cell BK242.out 3).trans rfl
        have hcz21_4 : w14.cell? ⟨gb242, 4, none⟩ = some (.int .i64 a0_4) := (blk_cell BK242.out 4).trans rfl
        have hcz21_5 : w14.cell? ⟨gb242, 5, none⟩ = some (.slice A0_5 l0_5.length c0_5) := (blk_cell BK242.out 5).trans rfl
        have hfz21_0 := blk_frozen BK242.out 0
        have hfz21_1 := blk_frozen BK242.out 1
        have hfz21_2 := blk_frozen BK242.out 2
        have hfz21_3 := blk_frozen BK242.out 3
        have hfz21_4 := blk_frozen BK242.out 4
        have hfz21_5 := blk_frozen BK242.out 5
        go_wp2_with (first | (go_at_call 14; (with_reducible refine (policy_Allow.calls k _ _ l0_5 t248 t250 t255 t257 _ ?side1 ?side2 A16.out).mono ?_); (case side1 => repeat (first | exact (Kd.C_below HR0_5.out HB.out) | (with_reducible refine Kd.C_alloc ?_ _) | (with_reducible refine Kd.C_drewN ?_ _) | (with_reducible refine Kd.C_drew ?_))); (case side2 => exact HC0_5.out); rintro e w22 ⟨rfl, hb⟩; have n0_ := Aside0.mk (blk_below (g := gb242) (o := .cells #[.bool a0_0, .int .u32 a0_1, .int .i64 a0_2, .int .u32 a0_3, .int .i64 a0_4, .slice A0_5 l0_5.length c0_5] 47 (0, 0)) (by (with_reducible repeat (first | refine blk_drewN ?_ _ | refine blk_drew ?_ | refine blk_alloc ?_ _)); exact BK242.out) hb); have n1_ := Aside0.mk (blk_below (g := gb243) (o := .cells #[.bool false, .int .i64 0, .int .u32 0, .int .i64 0, .string (⟨#[]⟩ : ByteArray)] 50 (0, 0)) (by (with_reducible repeat (first | refine blk_drewN ?_ _ | refine blk_drew ?_ | refine blk_alloc ?_ _)); exact BK243.out) hb); have n2_ := Aside0.mk (blk_below (g := gb253) (o := .cells #[.int .i64 t244, .int .i64 t245, .int .i64 t246, .int .i64 t247, .int .i64 t248, .int .u32 t249, .int .u32 t250, .string t251] 58 (0, 0)) (by (with_reducible repeat (first | refine blk_drewN ?_ _ | refine blk_drew ?_ | refine blk_alloc ?_ _)); exact BK253.out) hb); have n3_ := Aside0.mk (below_step (by repeat (first | (with_reducible first | exact HB.out | apply below_alloc | apply pw_below_drewN | apply below_drew1 | refine below_set ?_ GE242.out | refine below_set ?_ GE243.out | refine below_set ?_ GE253.out) | exact HB.out)) hb); clear BK242; clear BK243; clear BK253; clear HB; have BK242 := n0_; have BK243 := n1_; have BK253 := n2_; have HB := n3_; clear n0_ n1_ n2_ n3_; (try clear hb); (try clear hb2); (try clear hk); (try clear hi)))
        go_meet
        case rel => exact ⟨_, (!t257), (by first | rfl | (simp; done) | (simp [*]; done)), H', ⟨by first | omega | exact Nat.le_refl _⟩, ⟨by (with_reducible repeat (first | refine blk_drewN ?_ _ | refine blk_drew ?_ | refine blk_alloc ?_ _)); exact BK242.out⟩, ⟨by (with_reducible repeat (first | refine blk_drewN ?_ _ | refine blk_drew ?_ | refine blk_alloc ?_ _)); exact BK243.out⟩, ⟨by (with_reducible repeat (first | refine blk_drewN ?_ _ | refine blk_drew ?_ | refine blk_alloc ?_ _)); exact BK253.out⟩, ⟨by repeat (first | (with_reducible first | exact HB.out | apply below_alloc | apply pw_below_drewN | apply below_drew1 | refine below_set ?_ GE242.out | refine below_set ?_ GE243.out | refine below_set ?_ GE253.out) | exact HB.out)⟩⟩
      · rw [if_neg c15] at H
        have c15b0 : (t249 == a0_3) = false := beq_eq_false_iff_ne.mpr c15
        have c15b1 : (t249 != a0_3) = true := bne_iff_ne.mpr c15
        (first | rw [c15b0] | (simp only [i64_w, i32_w]; rw [c15b0]) | skip)
        have H' := Aside0.mk H
        clear H
        have hnb23 := NB253_242.out
        have hnc23 := NB242_253.out
        have hnb24 := NB253_243.out
        have hnc24 := NB243_253.out
        have hcz25_0 : w14.cell? ⟨gb253, 0, none⟩ = some (.int .i64 t244) := (blk_cell BK253.out 0).trans rfl
        have hcz25_1 : w14.cell? ⟨gb253, 1, none⟩ = some (.int .i64 t245) := (blk_cell BK253.out 1).trans rfl
        have hcz25_2 : w14.cell? ⟨gb253, 2, none⟩ = some (.int .i64 t246) := (blk_cell BK253.out 2).trans rfl
        have hcz25_3 : w14.cell? ⟨gb253, 3, none⟩ = some (.int .i64 t247) := (blk_cell BK253.out 3).trans rfl
        have hcz25_4 : w14.cell? ⟨gb253, 4, none⟩ = some (.int .i64 t248) := (blk_cell BK253.out 4).trans rfl
        have hcz25_5 : w14.cell? ⟨gb253, 5, none⟩ = some (.int .u32 t249) := (blk_cell BK253.out 5).trans rfl
        have hcz25_6 : w14.cell? ⟨gb253, 6, none⟩ = some (.int .u32 t250) := (blk_cell BK253.out 6).trans rfl
        have hcz25_7 : w14.cell? ⟨gb253, 7, none⟩ = some (.string t251) := (blk_cell BK253.out 7).trans rfl
        have hfz25_0 := blk_frozen BK253.out 0
        have hfz25_1 := blk_frozen BK253.out 1
        have hfz25_2 := blk_frozen BK253.out 2
        have hfz25_3 := blk_frozen BK253.out 3
        have hfz25_4 := blk_frozen BK253.out 4
        have hfz25_5 := blk_frozen BK253.out 5
        have hfz25_6 := blk_frozen BK253.out 6
        have hfz25_7 := blk_frozen BK253.out 7
        have hnb26 := NB242_243.out
        have hnc26 := NB243_242.out
        have hcz27_0 : w14.cell? ⟨gb242, 0, none⟩ = some (.bool a0_0) := (blk_cell BK242.out 0).trans rfl
        have hcz27_1 : w14.cell? ⟨gb242, 1, none⟩ = some (.int .u32 a0_1) := (blk_cell BK242.out 1).trans rfl
        have hcz27_2 : w14.cell? ⟨gb242, 2, none⟩ = some (.int .i64 a0_2) := (blk_cell BK242.out 2).trans rfl
        have hcz27_3 : w14.cell? ⟨gb242, 3, none⟩ = some (.int .u32 a0_3) := (blk_cell BK242.out 3).trans rfl
        have hcz27_4 : w14.cell? ⟨gb242, 4, none⟩ = some (.int .i64 a0_4) := (blk_cell BK242.out 4).trans rfl
        have hcz27_5 : w14.cell? ⟨gb242, 5, none⟩ = some (.slice A0_5 l0_5.length c0_5) := (blk_cell BK242.out 5).trans rfl
        have hfz27_0 := blk_frozen BK242.out 0
        have hfz27_1 := blk_frozen BK242.out 1
        have hfz27_2 := blk_frozen BK242.out 2
        have hfz27_3 := blk_frozen BK242.out 3
        have hfz27_4 := blk_frozen BK242.out 4
        have hfz27_5 := blk_frozen BK242.out 5
        go_wp2
        go_meet
        case rel => exact ⟨_, (true), (by first | rfl | (simp; done) | (simp [*]; done)), H', ⟨by first | omega | exact Nat.le_refl _⟩, ⟨by (with_reducible repeat (first | refine blk_drewN ?_ _ | refine blk_drew ?_ | refine blk_alloc ?_ _)); exact BK242.out⟩, ⟨by (with_reducible repeat (first | refine blk_drewN ?_ _ | refine blk_drew ?_ | refine blk_alloc ?_ _)); exact BK243.out⟩, ⟨by (with_reducible repeat (first | refine blk_drewN ?_ _ | refine blk_drew ?_ | refine blk_alloc ?_ _)); exact BK253.out⟩, ⟨by repeat (first | (with_reducible first | exact HB.out | apply below_alloc | apply pw_below_drewN | apply below_drew1 | refine below_set ?_ GE242.out | refine below_set ?_ GE243.out | refine below_set ?_ GE253.out) | exact HB.out)⟩⟩
    case rest =>
      clear HC6
      try clear c1
      try clear c2
      try clear p2
      try clear c3
      try clear c4
      try clear c4b0
      try clear c4b1
      try clear c5
      try clear c11
      try clear c12
      try clear c15
      try clear c15b0
      try clear c15b1
      try clear c17
      try clear c18
      try clear c20
      try clear c23
      try clear c24
      try clear c26
      try clear hcz13_0
      try clear hcz13_1
      try clear hcz13_2
      try clear hcz13_3
      try clear hcz13_4
      try clear hcz13_5
      try clear hcz13_6
      try clear hcz13_7
      try clear hcz19_0
      try clear hcz19_1
      try clear hcz19_2
      try clear hcz19_3
      try clear hcz19_4
      try clear hcz19_5
      try clear hcz19_6
      try clear hcz19_7
      try clear hcz21_0
      try clear hcz21_1
      try clear hcz21_2
      try clear hcz21_3
      try clear hcz21_4
      try clear hcz21_5
      try clear hcz25_0
      try clear hcz25_1
      try clear hcz25_2
      try clear hcz25_3
      try clear hcz25_4
      try clear hcz25_5
      try clear hcz25_6
      try clear hcz25_7
      try clear hcz27_0
      try clear hcz27_1
      try clear hcz27_2
      try clear hcz27_3
      try clear hcz27_4
      try clear hcz27_5
      try clear hfz13_0
      try clear hfz13_1
      try clear hfz13_2
      try clear hfz13_3
      try clear hfz13_4
      try clear hfz13_5
      try clear hfz13_6
      try clear hfz13_7
      try clear hfz19_0
      try clear hfz19_1
      try clear hfz19_2
      try clear hfz19_3
      try clear hfz19_4
      try clear hfz19_5
      try clear hfz19_6
      try clear hfz19_7
      try clear hfz21_0
      try clear hfz21_1
      try clear hfz21_2
      try clear hfz21_3
      try clear hfz21_4
      try clear hfz21_5
      try clear hfz25_0
      try clear hfz25_1
      try clear hfz25_2
      try clear hfz25_3
      try clear hfz25_4
      try clear hfz25_5
      try clear hfz25_6
      try clear hfz25_7
      try clear hfz27_0
      try clear hfz27_1
      try clear hfz27_2
      try clear hfz27_3
      try clear hfz27_4
      try clear hfz27_5
      obtain ⟨kq, x42_5, rfl, HA, HJ5, BK242, BK243, BK253, HB⟩ := hcut
      cases kq with
      | zero => exact absurd HA.out (by simp [tunnel_Tunnel_packet.j0])
      | succ kj5 =>
        have H := HA.out
        clear HA
        simp only [tunnel_Tunnel_packet.j0] at H
        by_cases c28 : x42_5 = true
        · subst c28
          have H1 : (some (false, 0, 0, 0, (⟨#[]⟩ : ByteArray), 15)) = some (r1, r2, r3, r4, r5, r6) := by rw [if_pos rfl] at H; exact H
          clear H
          have H := H1
          clear H1
          simp only [Option.some.injEq, Prod.mk.injEq] at H
          obtain ⟨rfl, rfl, rfl, rfl, rfl, rfl⟩ := H
          have hnb29 := NB243_242.out
          have hnc29 := NB242_243.out
          have hnb30 := NB243_253.out
          have hnc30 := NB253_243.out
          have hcz31_0 : wc.cell? ⟨gb243, 0, none⟩ = some (.bool false) := (blk_cell BK243.out 0).trans rfl
          have hcz31_1 : wc.cell? ⟨gb243, 1, none⟩ = some (.int .i64 0) := (blk_cell BK243.out 1).trans rfl
          have hcz31_2 : wc.cell? ⟨gb243, 2, none⟩ = some (.int .u32 0) := (blk_cell BK243.out 2).trans rfl
          have hcz31_3 : wc.cell? ⟨gb243, 3, none⟩ = some (.int .i64 0) := (blk_cell BK243.out 3).trans rfl
          have hcz31_4 : wc.cell? ⟨gb243, 4, none⟩ = some (.string (⟨#[]⟩ : ByteArray)) := (blk_cell BK243.out 4).trans rfl
          have hfz31_0 := blk_frozen BK243.out 0
          have hfz31_1 := blk_frozen BK243.out 1
          have hfz31_2 := blk_frozen BK243.out 2
          have hfz31_3 := blk_frozen BK243.out 3
          have hfz31_4 := blk_frozen BK243.out 4
          go_wp2
          refine bodyPost_ret (results_ct rfl _ _ gb243 50 #[.bool false, .int .i64 0, .int .u32 0, .int .i64 0, .string (⟨#[]⟩ : ByteArray)] (0, 0) _ rfl (by (with_reducible repeat (first | refine blk_drewN ?_ _ | refine blk_drew ?_ | refine blk_alloc ?_ _)); refine blk_put (cs := #[.bool false, .int .i64 0, .int .u32 0, .int .i64 0, .string (⟨#[]⟩ : ByteArray)]) ?_ 4 _ rfl; (with_reducible repeat (first | refine blk_drewN ?_ _ | refine blk_drew ?_ | refine blk_alloc ?_ _)); refine blk_put (cs := #[.bool false, .int .i64 0, .int .u32 0, .int .i64 0, .string (⟨#[]⟩ : ByteArray)]) ?_ 3 _ rfl; (with_reducible repeat (first | refine blk_drewN ?_ _ | refine blk_drew ?_ | refine blk_alloc ?_ _)); refine blk_put (cs := #[.bool false, .int .i64 0, .int .u32 0, .int .i64 0, .string (⟨#[]⟩ : ByteArray)]) ?_ 2 _ rfl; (with_reducible repeat (first | refine blk_drewN ?_ _ | refine blk_drew ?_ | refine blk_alloc ?_ _)); refine blk_put (cs := #[.bool false, .int .i64 0, .int .u32 0, .int .i64 0, .string (⟨#[]⟩ : ByteArray)]) ?_ 1 _ rfl; (with_reducible repeat (first | refine blk_drewN ?_ _ | refine blk_drew ?_ | refine blk_alloc ?_ _)); refine blk_put (cs := #[.bool false, .int .i64 0, .int .u32 0, .int .i64 0, .string (⟨#[]⟩ : ByteArray)]) ?_ 0 _ rfl; (with_reducible repeat (first | refine blk_drewN ?_ _ | refine blk_drew ?_ | refine blk_alloc ?_ _)); exact BK243.out) Try.underlying50 rfl (by kernel_rfl)) rfl ?_
          exact ⟨by first | rfl | (simp [errW_none, errW_some] <;> rfl) | (simp [*, errW_none, errW_some] <;> rfl), by repeat (first | (with_reducible first | exact HB.out | apply below_alloc | apply pw_below_drewN | apply below_drew1 | refine below_set ?_ GE242.out | refine below_set ?_ GE243.out | refine below_set ?_ GE253.out) | exact HB.out)⟩
        · replace c28 := Bool.eq_false_iff.mpr c28
          subst c28
          have H1 : ((tunnel_further.f a1).bind fun bt258 => (if bt258.2 = 0 then (some (true, 0, t250, 0, bt258.1, 0)) else (some (false, 0, 0, 0, (⟨#[]⟩ : ByteArray), bt258.2)))) = some (r1, r2, r3, r4, r5, r6) := by rw [if_neg (show ¬ (false = true) by decide)] at H; exact H
          clear H
          have H := H1
          clear H1
          replace H := Option.bind_eq_some_iff.mp H
          obtain ⟨⟨t258, t259⟩, A320, H⟩ := H
          replace H : (if t259 = 0 then (some (true, 0, t250, 0, t258, 0)) else (some (false, 0, 0, 0, (⟨#[]⟩ : ByteArray), t259))) = some (r1, r2, r3, r4, r5, r6) := H
          have A32 := Aside0.mk A320
          clear A320
          by_cases c33 : t259 = 0
          · rw [if_pos c33] at H
            have c33b0 : (t259 == 0) = true := beq_iff_eq.mpr c33
            have c33b1 : (t259 != 0) = false := bne_eq_false_iff_eq.mpr c33
            clear c33
            simp only [Option.some.injEq, Prod.mk.injEq] at H
            obtain ⟨rfl, rfl, rfl, rfl, rfl, rfl⟩ := H
            go_wp2_with (first | ((with_reducible refine gate_callee (f := 39) rfl ?_); refine goesL_ (some 46) rfl rfl Try.func39 (by kernel_rfl) rfl #[.string a1] rfl (by (try simp only [List.map_toArray, List.map_cons, List.map_nil]); first | done | rfl | (simp only [List.length_drop, List.length_take]; rfl)) ?_; (with_reducible refine (tunnel_further.calls a1 t258 t259 _ A32.out).mono ?_); rintro e w34 ⟨rfl, hb⟩; refine ⟨_, rfl, ?_⟩; have n0_ := Aside0.mk (blk_below (g := gb242) (o := .cells #[.bool a0_0, .int .u32 a0_1, .int .i64 a0_2, .int .u32 a0_3, .int .i64 a0_4, .slice A0_5 l0_5.length c0_5] 47 (0, 0)) (by (with_reducible repeat (first | refine blk_drewN ?_ _ | refine blk_drew ?_ | refine blk_alloc ?_ _)); exact BK242.out) hb); have n1_ := Aside0.mk (blk_below (g := gb243) (o := .cells #[.bool false, .int .i64 0, .int .u32 0, .int .i64 0, .string (⟨#[]⟩ : ByteArray)] 50 (0, 0)) (by (with_reducible repeat (first | refine blk_drewN ?_ _ | refine blk_drew ?_ | refine blk_alloc ?_ _)); exact BK243.out) hb); have n2_ := Aside0.mk (blk_below (g := gb253) (o := .cells #[.int .i64 t244, .int .i64 t245, .int .i64 t246, .int .i64 t247, .int .i64 t248, .int .u32 t249, .int .u32 t250, .string t251] 58 (0, 0)) (by (with_reducible repeat (first | refine blk_drewN ?_ _ | refine blk_drew ?_ | refine blk_alloc ?_ _)); exact BK253.out) hb); have n3_ := Aside0.mk (below_step (by repeat (first | (with_reducible first | exact HB.out | apply below_alloc | apply pw_below_drewN | apply below_drew1 | refine below_set ?_ GE242.out | refine below_set ?_ GE243.out | refine below_set ?_ GE253.out) | exact HB.out)) hb); clear BK242; clear BK243; clear BK253; clear HB; have BK242 := n0_; have BK243 := n1_; have BK253 := n2_; have HB := n3_; clear n0_ n1_ n2_ n3_; (try clear hb); (try clear hb2); (try clear hk); (try clear hi); have hnb35 := NB253_242.out; have hnc35 := NB242_253.out; have hnb36 := NB253_243.out; have hnc36 := NB243_253.out; have hcz37_0 : w34.cell? ⟨gb253, 0, none⟩ = some (.int .i64 t244) := (blk_cell BK253.out 0).trans rfl; have hcz37_1 : w34.cell? ⟨gb253, 1, none⟩ = some (.int .i64 t245) := (blk_cell BK253.out 1).trans rfl; have hcz37_2 : w34.cell? ⟨gb253, 2, none⟩ = some (.int .i64 t246) := (blk_cell BK253.out 2).trans rfl; have hcz37_3 : w34.cell? ⟨gb253, 3, none⟩ = some (.int .i64 t247) := (blk_cell BK253.out 3).trans rfl; have hcz37_4 : w34.cell? ⟨gb253, 4, none⟩ = some (.int .i64 t248) := (blk_cell BK253.out 4).trans rfl; have hcz37_5 : w34.cell? ⟨gb253, 5, none⟩ = some (.int .u32 t249) := (blk_cell BK253.out 5).trans rfl; have hcz37_6 : w34.cell? ⟨gb253, 6, none⟩ = some (.int .u32 t250) := (blk_cell BK253.out 6).trans rfl; have hcz37_7 : w34.cell? ⟨gb253, 7, none⟩ = some (.string t251) := (blk_cell BK253.out 7).trans rfl; have hfz37_0 := blk_frozen BK253.out 0; have hfz37_1 := blk_frozen BK253.out 1; have hfz37_2 := blk_frozen BK253.out 2; have hfz37_3 := blk_frozen BK253.out 3; have hfz37_4 := blk_frozen BK253.out 4; have hfz37_5 := blk_frozen BK253.out 5; have hfz37_6 := blk_frozen BK253.out 6; have hfz37_7 := blk_frozen BK253.out 7; have hnb38 := NB243_242.out; have hnc38 := NB242_243.out; have hcz39_0 : w34.cell? ⟨gb243, 0, none⟩ = some (.bool false) := (blk_cell BK243.out 0).trans rfl; have hcz39_1 : w34.cell? ⟨gb243, 1, none⟩ = some (.int .i64 0) := (blk_cell BK243.out 1).trans rfl; have hcz39_2 : w34.cell? ⟨gb243, 2, none⟩ = some (.int .u32 0) := (blk_cell BK243.out 2).trans rfl; have hcz39_3 : w34.cell? ⟨gb243, 3, none⟩ = some (.int .i64 0) := (blk_cell BK243.out 3).trans rfl; have hcz39_4 : w34.cell? ⟨gb243, 4, none⟩ = some (.string (⟨#[]⟩ : ByteArray)) := (blk_cell BK243.out 4).trans rfl; have hfz39_0 := blk_frozen BK243.out 0; have hfz39_1 := blk_frozen BK243.out 1; have hfz39_2 := blk_frozen BK243.out 2; have hfz39_3 := blk_frozen BK243.out 3; have hfz39_4 := blk_frozen BK243.out 4))
            refine bodyPost_ret (results_ct rfl _ _ gb243 50 #[.bool true, .int .i64 0, .int .u32 t250, .int .i64 0, .string t258] (0, 0) _ rfl (by (with_reducible repeat (first | refine blk_drewN ?_ _ | refine blk_drew ?_ | refine blk_alloc ?_ _)); refine blk_put (cs := #[.bool true, .int .i64 0, .int .u32 t250, .int .i64 0, .string (⟨#[]⟩ : ByteArray)]) ?_ 4 _ rfl; (with_reducible repeat (first | refine blk_drewN ?_ _ | refine blk_drew ?_ | refine blk_alloc ?_ _)); refine blk_put (cs := #[.bool true, .int .i64 0, .int .u32 t250, .int .i64 0, .string (⟨#[]⟩ : ByteArray)]) ?_ 3 _ rfl; (with_reducible repeat (first | refine blk_drewN ?_ _ | refine blk_drew ?_ | refine blk_alloc ?_ _)); refine blk_put (cs := #[.bool true, .int .i64 0, .int .u32 0, .int .i64 0, .string (⟨#[]⟩ : ByteArray)]) ?_ 2 _ rfl; (with_reducible repeat (first | refine blk_drewN ?_ _ | refine blk_drew ?_ | refine blk_alloc ?_ _)); refine blk_put (cs := #[.bool true, .int .i64 0, .int .u32 0, .int .i64 0, .string (⟨#[]⟩ : ByteArray)]) ?_ 1 _ rfl; (with_reducible repeat (first | refine blk_drewN ?_ _ | refine blk_drew ?_ | refine blk_alloc ?_ _)); refine blk_put (cs := #[.bool false, .int .i64 0, .int .u32 0, .int .i64 0, .string (⟨#[]⟩ : ByteArray)]) ?_ 0 _ rfl; (with_reducible repeat (first | refine blk_drewN ?_ _ | refine blk_drew ?_ | refine blk_alloc ?_ _)); exact BK243.out) Try.underlying50 rfl (by kernel_rfl)) rfl ?_
            exact ⟨by first | rfl | (simp [errW_none, errW_some] <;> rfl) | (simp [*, errW_none, errW_some] <;> rfl), by repeat (first | (with_reducible first | exact HB.out | apply below_alloc | apply pw_below_drewN | apply below_drew1 | refine below_set ?_ GE242.out | refine below_set ?_ GE243.out | refine below_set ?_ GE253.out) | exact HB.out)⟩
          · rw [if_neg c33] at H
            have c33b0 : (t259 == 0) = false := beq_eq_false_iff_ne.mpr c33
            have c33b1 : (t259 != 0) = true := bne_iff_ne.mpr c33
            simp only [Option.some.injEq, Prod.mk.injEq] at H
            obtain ⟨rfl, rfl, rfl, rfl, rfl, rfl⟩ := H
            go_wp2_with (first | ((with_reducible refine gate_callee (f := 39) rfl ?_); refine goesL_ (some 46) rfl rfl Try.func39 (by kernel_rfl) rfl #[.string a1] rfl (by (try simp only [List.map_toArray, List.map_cons, List.map_nil]); first | done | rfl | (simp only [List.length_drop, List.length_take]; rfl)) ?_; (with_reducible refine (tunnel_further.calls a1 t258 t259 _ A32.out).mono ?_); rintro e w40 ⟨rfl, hb⟩; refine ⟨_, rfl, ?_⟩; have n0_ := Aside0.mk (blk_below (g := gb242) (o := .cells #[.bool a0_0, .int .u32 a0_1, .int .i64 a0_2, .int .u32 a0_3, .int .i64 a0_4, .slice A0_5 l0_5.length c0_5] 47 (0, 0)) (by (with_reducible repeat (first | refine blk_drewN ?_ _ | refine blk_drew ?_ | refine blk_alloc ?_ _)); exact BK242.out) hb); have n1_ := Aside0.mk (blk_below (g := gb243) (o := .cells #[.bool false, .int .i64 0, .int .u32 0, .int .i64 0, .string (⟨#[]⟩ : ByteArray)] 50 (0, 0)) (by (with_reducible repeat (first | refine blk_drewN ?_ _ | refine blk_drew ?_ | refine blk_alloc ?_ _)); exact BK243.out) hb); have n2_ := Aside0.mk (blk_below (g := gb253) (o := .cells #[.int .i64 t244, .int .i64 t245, .int .i64 t246, .int .i64 t247, .int .i64 t248, .int .u32 t249, .int .u32 t250, .string t251] 58 (0, 0)) (by (with_reducible repeat (first | refine blk_drewN ?_ _ | refine blk_drew ?_ | refine blk_alloc ?_ _)); exact BK253.out) hb); have n3_ := Aside0.mk (below_step (by repeat (first | (with_reducible first | exact HB.out | apply below_alloc | apply pw_below_drewN | apply below_drew1 | refine below_set ?_ GE242.out | refine below_set ?_ GE243.out | refine below_set ?_ GE253.out) | exact HB.out)) hb); clear BK242; clear BK243; clear BK253; clear HB; have BK242 := n0_; have BK243 := n1_; have BK253 := n2_; have HB := n3_; clear n0_ n1_ n2_ n3_; (try clear hb); (try clear hb2); (try clear hk); (try clear hi); have hnb41 := NB243_242.out; have hnc41 := NB242_243.out; have hnb42 := NB243_253.out; have hnc42 := NB253_243.out; have hcz43_0 : w40.cell? ⟨gb243, 0, none⟩ = some (.bool false) := (blk_cell BK243.out 0).trans rfl; have hcz43_1 : w40.cell? ⟨gb243, 1, none⟩ = some (.int .i64 0) := (blk_cell BK243.out 1).trans rfl; have hcz43_2 : w40.cell? ⟨gb243, 2, none⟩ = some (.int .u32 0) := (blk_cell BK243.out 2).trans rfl; have hcz43_3 : w40.cell? ⟨gb243, 3, none⟩ = some (.int .i64 0) := (blk_cell BK243.out 3).trans rfl; have hcz43_4 : w40.cell? ⟨gb243, 4, none⟩ = some (.string (⟨#[]⟩ : ByteArray)) := (blk_cell BK243.out 4).trans rfl; have hfz43_0 := blk_frozen BK243.out 0; have hfz43_1 := blk_frozen BK243.out 1; have hfz43_2 := blk_frozen BK243.out 2; have hfz43_3 := blk_frozen BK243.out 3; have hfz43_4 := blk_frozen BK243.out 4))
            refine bodyPost_ret (results_ct rfl _ _ gb243 50 #[.bool false, .int .i64 0, .int .u32 0, .int .i64 0, .string (⟨#[]⟩ : ByteArray)] (0, 0) _ rfl (by (with_reducible repeat (first | refine blk_drewN ?_ _ | refine blk_drew ?_ | refine blk_alloc ?_ _)); refine blk_put (cs := #[.bool false, .int .i64 0, .int .u32 0, .int .i64 0, .string (⟨#[]⟩ : ByteArray)]) ?_ 4 _ rfl; (with_reducible repeat (first | refine blk_drewN ?_ _ | refine blk_drew ?_ | refine blk_alloc ?_ _)); refine blk_put (cs := #[.bool false, .int .i64 0, .int .u32 0, .int .i64 0, .string (⟨#[]⟩ : ByteArray)]) ?_ 3 _ rfl; (with_reducible repeat (first | refine blk_drewN ?_ _ | refine blk_drew ?_ | refine blk_alloc ?_ _)); refine blk_put (cs := #[.bool false, .int .i64 0, .int .u32 0, .int .i64 0, .string (⟨#[]⟩ : ByteArray)]) ?_ 2 _ rfl; (with_reducible repeat (first | refine blk_drewN ?_ _ | refine blk_drew ?_ | refine blk_alloc ?_ _)); refine blk_put (cs := #[.bool false, .int .i64 0, .int .u32 0, .int .i64 0, .string (⟨#[]⟩ : ByteArray)]) ?_ 1 _ rfl; (with_reducible repeat (first | refine blk_drewN ?_ _ | refine blk_drew ?_ | refine blk_alloc ?_ _)); refine blk_put (cs := #[.bool false, .int .i64 0, .int .u32 0, .int .i64 0, .string (⟨#[]⟩ : ByteArray)]) ?_ 0 _ rfl; (with_reducible repeat (first | refine blk_drewN ?_ _ | refine blk_drew ?_ | refine blk_alloc ?_ _)); exact BK243.out) Try.underlying50 rfl (by kernel_rfl)) rfl ?_
            exact ⟨by first | rfl | (simp [errW_none, errW_some] <;> rfl) | (simp [*, errW_none, errW_some] <;> rfl), by repeat (first | (with_reducible first | exact HB.out | apply below_alloc | apply pw_below_drewN | apply below_drew1 | refine below_set ?_ GE242.out | refine below_set ?_ GE243.out | refine below_set ?_ GE253.out) | exact HB.out)⟩
  · rw [if_neg c4] at H
    have c4b0 : (t252 == 0) = false := beq_eq_false_iff_ne.mpr c4
    have c4b1 : (t252 != 0) = true := bne_iff_ne.mpr c4
    simp only [Option.some.injEq, Prod.mk.injEq] at H
    obtain ⟨rfl, rfl, rfl, rfl, rfl, rfl⟩ := H
    go_enter Try.func36, Try.ntmps36
    go_wp2_with (first | ((with_reducible refine gate_dst (N := 2) rfl ?_); refine box_event ?hg (N := 2) ?hd (cs := #[.bool a0_0, .int .u32 a0_1, .int .i64 a0_2, .int .u32 a0_3, .int .i64 a0_4, .slice A0_5 l0_5.length c0_5]) (t := 47) ?hr ?_; (case hd => rfl); (case hg => rfl); (case hr => first | (go_simp; done) | (go_simp; rfl)); intro gb242 hg w44 hbox hb; have n0_ := Aside0.mk (below_step (by repeat (first | (with_reducible first | exact HB.out | apply below_alloc | apply pw_below_drewN | apply below_drew1) | exact HB.out)) hb); have n1_ := Aside0.mk (hbox); have n2_ := Aside0.mk ((by rw [hg]; exact (below_size (by repeat (first | (with_reducible first | exact HB.out | apply below_alloc | apply pw_below_drewN | apply below_drew1) | exact HB.out))) : w.heap.size ≤ gb242)); have n3_ := Aside0.mk ((by rw [hg]; exact (below_size (by repeat (first | (with_reducible first | exact HB.out | apply below_alloc | apply pw_below_drewN | apply below_drew1) | exact HB.out))) : w.heap.size ≤ gb242)); clear HB; have HB := n0_; have BK242 := n1_; have GW242 := n2_; have GE242 := n3_; clear n0_ n1_ n2_ n3_; clear hb hbox hg) | ((with_reducible refine gate_dst (N := 4) rfl ?_); refine box_event ?hg (N := 4) ?hd (cs := #[.bool false, .int .i64 0, .int .u32 0, .int .i64 0, .string (⟨#[]⟩ : ByteArray)]) (t := 50) ?hr ?_; (case hd => rfl); (case hg => rfl); (case hr => first | (go_simp; done) | (go_simp; rfl)); intro gb243 hg w45 hbox hb; have n0_ := Aside0.mk (blk_below (g := gb242) (o := .cells #[.bool a0_0, .int .u32 a0_1, .int .i64 a0_2, .int .u32 a0_3, .int .i64 a0_4, .slice A0_5 l0_5.length c0_5] 47 (0, 0)) (by (with_reducible repeat (first | refine blk_drewN ?_ _ | refine blk_drew ?_ | refine blk_alloc ?_ _)); exact BK242.out) hb); have n1_ := Aside0.mk (below_step (by repeat (first | (with_reducible first | exact HB.out | apply below_alloc | apply pw_below_drewN | apply below_drew1 | refine below_set ?_ GE242.out) | exact HB.out)) hb); have n2_ := Aside0.mk (hbox); have n3_ := Aside0.mk ((by rw [hg]; exact (below_size (by repeat (first | (with_reducible first | exact HB.out | apply below_alloc | apply pw_below_drewN | apply below_drew1 | refine below_set ?_ GE242.out) | exact HB.out))) : w.heap.size ≤ gb243)); have n4_ := Aside0.mk ((by rw [hg]; exact (below_size (by repeat (first | (with_reducible first | exact HB.out | apply below_alloc | apply pw_below_drewN | apply below_drew1 | refine below_set ?_ GE242.out) | exact HB.out))) : w.heap.size ≤ gb243)); have n5_ := Aside0.mk ((by rw [hg]; exact Nat.ne_of_lt (blk_lt (g := gb242) (o := .cells #[.bool a0_0, .int .u32 a0_1, .int .i64 a0_2, .int .u32 a0_3, .int .i64 a0_4, .slice A0_5 l0_5.length c0_5] 47 (0, 0)) (by (with_reducible repeat (first | refine blk_drewN ?_ _ | refine blk_drew ?_ | refine blk_alloc ?_ _)); exact BK242.out)) : gb242 ≠ gb243)); have n6_ := Aside0.mk ((by rw [hg]; exact Nat.ne_of_gt (blk_lt (g := gb242) (o := .cells #[.bool a0_0, .int .u32 a0_1, .int .i64 a0_2, .int .u32 a0_3, .int .i64 a0_4, .slice A0_5 l0_5.length c0_5] 47 (0, 0)) (by (with_reducible repeat (first | refine blk_drewN ?_ _ | refine blk_drew ?_ | refine blk_alloc ?_ _)); exact BK242.out)) : gb243 ≠ gb242)); clear BK242; clear HB; have BK242 := n0_; have HB := n1_; have BK243 := n2_; have GW243 := n3_; have GE243 := n4_; have NB242_243 := n5_; have NB243_242 := n6_; clear n0_ n1_ n2_ n3_ n4_ n5_ n6_; clear hb hbox hg) | ((with_reducible refine gate_callee (f := 38) rfl ?_); refine goesL_ (some 14) rfl rfl Try.func38 (by kernel_rfl) rfl #[.string a1] rfl (by (try simp only [List.map_toArray, List.map_cons, List.map_nil]); first | done | rfl | (simp only [List.length_drop, List.length_take]; rfl)) ?_; (with_reducible refine (ipv4_Parse.calls a1 t244 t245 t246 t247 t248 t249 t250 t251 t252 _ A3.out).mono ?_); rintro e w46 ⟨rfl, hb⟩; refine ⟨_, rfl, ?_⟩; have n0_ := Aside0.mk (blk_below (g := gb242) (o := .cells #[.bool a0_0, .int .u32 a0_1, .int .i64 a0_2, .int .u32 a0_3, .int .i64 a0_4, .slice A0_5 l0_5.length c0_5] 47 (0, 0)) (by (with_reducible repeat (first | refine blk_drewN ?_ _ | refine blk_drew ?_ | refine blk_alloc ?_ _)); exact BK242.out) hb); have n1_ := Aside0.mk (blk_below (g := gb243) (o := .cells #[.bool false, .int .i64 0, .int .u32 0, .int .i64 0, .string (⟨#[]⟩ : ByteArray)] 50 (0, 0)) (by (with_reducible repeat (first | refine blk_drewN ?_ _ | refine blk_drew ?_ | refine blk_alloc ?_ _)); exact BK243.out) hb); have n2_ := Aside0.mk (below_step (by repeat (first | (with_reducible first | exact HB.out | apply below_alloc | apply pw_below_drewN | apply below_drew1 | refine below_set ?_ GE242.out | refine below_set ?_ GE243.out) | exact HB.out)) hb); clear BK242; clear BK243; clear HB; have BK242 := n0_; have BK243 := n1_; have HB := n2_; clear n0_ n1_ n2_; (try clear hb); (try clear hb2); (try clear hk); (try clear hi)) | ((with_reducible refine gate_dst (N := 6) rfl ?_); refine box_event ?hg (N := 6) ?hd (cs := #[.int .i64 0, .int .i64 0, .int .i64 0, .int .i64 0, .int .i64 0, .int .u32 0, .int .u32 0, .string (⟨#[]⟩ : ByteArray)]) (t := 58) ?hr ?_; (case hd => rfl); (case hg => rfl); (case hr => first | (go_simp; done) | (go_simp; rfl)); intro gb253 hg w47 hbox hb; have n0_ := Aside0.mk (blk_below (g := gb242) (o := .cells #[.bool a0_0, .int .u32 a0_1, .int .i64 a0_2, .int .u32 a0_3, .int .i64 a0_4, .slice A0_5 l0_5.length c0_5] 47 (0, 0)) (by (with_reducible repeat (first | refine blk_drewN ?_ _ | refine blk_drew ?_ | refine blk_alloc ?_ _)); exact BK242.out) hb); have n1_ := Aside0.mk (blk_below (g := gb243) (o := .cells #[.bool false, .int .i64 0, .int .u32 0, .int .i64 0, .string (⟨#[]⟩ : ByteArray)] 50 (0, 0)) (by (with_reducible repeat (first | refine blk_drewN ?_ _ | refine blk_drew ?_ | refine blk_alloc ?_ _)); exact BK243.out) hb); have n2_ := Aside0.mk (below_step (by repeat (first | (with_reducible first | exact HB.out | apply below_alloc | apply pw_below_drewN | apply below_drew1 | refine below_set ?_ GE242.out | refine below_set ?_ GE243.out) | exact HB.out)) hb); have n3_ := Aside0.mk (hbox); have n4_ := Aside0.mk ((by rw [hg]; exact (below_size (by repeat (first | (with_reducible first | exact HB.out | apply below_alloc | apply pw_below_drewN | apply below_drew1 | refine below_set ?_ GE242.out | refine below_set ?_ GE243.out) | exact HB.out))) : w.heap.size ≤ gb253)); have n5_ := Aside0.mk ((by rw [hg]; exact (below_size (by repeat (first | (with_reducible first | exact HB.out | apply below_alloc | apply pw_below_drewN | apply below_drew1 | refine below_set ?_ GE242.out | refine below_set ?_ GE243.out) | exact HB.out))) : w.heap.size ≤ gb253)); have n6_ := Aside0.mk ((by rw [hg]; exact Nat.ne_of_lt (blk_lt (g := gb242) (o := .cells #[.bool a0_0, .int .u32 a0_1, .int .i64 a0_2, .int .u32 a0_3, .int .i64 a0_4, .slice A0_5 l0_5.length c0_5] 47 (0, 0)) (by (with_reducible repeat (first | refine blk_drewN ?_ _ | refine blk_drew ?_ | refine blk_alloc ?_ _)); exact BK242.out)) : gb242 ≠ gb253)); have n7_ := Aside0.mk ((by rw [hg]; exact Nat.ne_of_gt (blk_lt (g := gb242) (o := .cells #[.bool a0_0, .int .u32 a0_1, .int .i64 a0_2, .int .u32 a0_3, .int .i64 a0_4, .slice A0_5 l0_5.length c0_5] 47 (0, 0)) (by (with_reducible repeat (first | refine blk_drewN ?_ _ | refine blk_drew ?_ | refine blk_alloc ?_ _)); exact BK242.out)) : gb253 ≠ gb242)); have n8_ := Aside0.mk ((by rw [hg]; exact Nat.ne_of_lt (blk_lt (g := gb243) (o := .cells #[.bool false, .int .i64 0, .int .u32 0, .int .i64 0, .string (⟨#[]⟩ : ByteArray)] 50 (0, 0)) (by (with_reducible repeat (first | refine blk_drewN ?_ _ | refine blk_drew ?_ | refine blk_alloc ?_ _)); exact BK243.out)) : gb243 ≠ gb253)); have n9_ := Aside0.mk ((by rw [hg]; exact Nat.ne_of_gt (blk_lt (g := gb243) (o := .cells #[.bool false, .int .i64 0, .int .u32 0, .int .i64 0, .string (⟨#[]⟩ : ByteArray)] 50 (0, 0)) (by (with_reducible repeat (first | refine blk_drewN ?_ _ | refine blk_drew ?_ | refine blk_alloc ?_ _)); exact BK243.out)) : gb253 ≠ gb243)); clear BK242; clear BK243; clear HB; have BK242 := n0_; have BK243 := n1_; have HB := n2_; have BK253 := n3_; have GW253 := n4_; have GE253 := n5_; have NB242_253 := n6_; have NB253_242 := n7_; have NB243_253 := n8_; have NB253_243 := n9_; clear n0_ n1_ n2_ n3_ n4_ n5_ n6_ n7_ n8_ n9_; clear hb hbox hg; have hnb48 := NB253_242.out; have hnc48 := NB242_253.out; have hnb49 := NB253_243.out; have hnc49 := NB243_253.out; have hcz50_0 : w47.cell? ⟨gb253, 0, none⟩ = some (.int .i64 0) := (blk_cell BK253.out 0).trans rfl; have hcz50_1 : w47.cell? ⟨gb253, 1, none⟩ = some (.int .i64 0) := (blk_cell BK253.out 1).trans rfl; have hcz50_2 : w47.cell? ⟨gb253, 2, none⟩ = some (.int .i64 0) := (blk_cell BK253.out 2).trans rfl; have hcz50_3 : w47.cell? ⟨gb253, 3, none⟩ = some (.int .i64 0) := (blk_cell BK253.out 3).trans rfl; have hcz50_4 : w47.cell? ⟨gb253, 4, none⟩ = some (.int .i64 0) := (blk_cell BK253.out 4).trans rfl; have hcz50_5 : w47.cell? ⟨gb253, 5, none⟩ = some (.int .u32 0) := (blk_cell BK253.out 5).trans rfl; have hcz50_6 : w47.cell? ⟨gb253, 6, none⟩ = some (.int .u32 0) := (blk_cell BK253.out 6).trans rfl; have hcz50_7 : w47.cell? ⟨gb253, 7, none⟩ = some (.string (⟨#[]⟩ : ByteArray)) := (blk_cell BK253.out 7).trans rfl; have hfz50_0 := blk_frozen BK253.out 0; have hfz50_1 := blk_frozen BK253.out 1; have hfz50_2 := blk_frozen BK253.out 2; have hfz50_3 := blk_frozen BK253.out 3; have hfz50_4 := blk_frozen BK253.out 4; have hfz50_5 := blk_frozen BK253.out 5; have hfz50_6 := blk_frozen BK253.out 6; have hfz50_7 := blk_frozen BK253.out 7; have hnb51 := NB243_242.out; have hnc51 := NB242_243.out; have hcz52_0 : w47.cell? ⟨gb243, 0, none⟩ = some (.bool false) := (blk_cell BK243.out 0).trans rfl; have hcz52_1 : w47.cell? ⟨gb243, 1, none⟩ = some (.int .i64 0) := (blk_cell BK243.out 1).trans rfl; have hcz52_2 : w47.cell? ⟨gb243, 2, none⟩ = some (.int .u32 0) := (blk_cell BK243.out 2).trans rfl; have hcz52_3 : w47.cell? ⟨gb243, 3, none⟩ = some (.int .i64 0) := (blk_cell BK243.out 3).trans rfl; have hcz52_4 : w47.cell? ⟨gb243, 4, none⟩ = some (.string (⟨#[]⟩ : ByteArray)) := (blk_cell BK243.out 4).trans rfl; have hfz52_0 := blk_frozen BK243.out 0; have hfz52_1 := blk_frozen BK243.out 1; have hfz52_2 := blk_frozen BK243.out 2; have hfz52_3 := blk_frozen BK243.out 3; have hfz52_4 := blk_frozen BK243.out 4))
    refine bodyPost_ret (results_ct rfl _ _ gb243 50 #[.bool false, .int .i64 0, .int .u32 0, .int .i64 0, .string (⟨#[]⟩ : ByteArray)] (0, 0) _ rfl (by (with_reducible repeat (first | refine blk_drewN ?_ _ | refine blk_drew ?_ | refine blk_alloc ?_ _)); refine blk_put (cs := #[.bool false, .int .i64 0, .int .u32 0, .int .i64 0, .string (⟨#[]⟩ : ByteArray)]) ?_ 4 _ rfl; (with_reducible repeat (first | refine blk_drewN ?_ _ | refine blk_drew ?_ | refine blk_alloc ?_ _)); refine blk_put (cs := #[.bool false, .int .i64 0, .int .u32 0, .int .i64 0, .string (⟨#[]⟩ : ByteArray)]) ?_ 3 _ rfl; (with_reducible repeat (first | refine blk_drewN ?_ _ | refine blk_drew ?_ | refine blk_alloc ?_ _)); refine blk_put (cs := #[.bool false, .int .i64 0, .int .u32 0, .int .i64 0, .string (⟨#[]⟩ : ByteArray)]) ?_ 2 _ rfl; (with_reducible repeat (first | refine blk_drewN ?_ _ | refine blk_drew ?_ | refine blk_alloc ?_ _)); refine blk_put (cs := #[.bool false, .int .i64 0, .int .u32 0, .int .i64 0, .string (⟨#[]⟩ : ByteArray)]) ?_ 1 _ rfl; (with_reducible repeat (first | refine blk_drewN ?_ _ | refine blk_drew ?_ | refine blk_alloc ?_ _)); refine blk_put (cs := #[.bool false, .int .i64 0, .int .u32 0, .int .i64 0, .string (⟨#[]⟩ : ByteArray)]) ?_ 0 _ rfl; (with_reducible repeat (first | refine blk_drewN ?_ _ | refine blk_drew ?_ | refine blk_alloc ?_ _)); refine blk_far ?_ NB243_253.out _; (with_reducible repeat (first | refine blk_drewN ?_ _ | refine blk_drew ?_ | refine blk_alloc ?_ _)); refine blk_far ?_ NB243_253.out _; (with_reducible repeat (first | refine blk_drewN ?_ _ | refine blk_drew ?_ | refine blk_alloc ?_ _)); refine blk_far ?_ NB243_253.out _; (with_reducible repeat (first | refine blk_drewN ?_ _ | refine blk_drew ?_ | refine blk_alloc ?_ _)); refine blk_far ?_ NB243_253.out _; (with_reducible repeat (first | refine blk_drewN ?_ _ | refine blk_drew ?_ | refine blk_alloc ?_ _)); refine blk_far ?_ NB243_253.out _; (with_reducible repeat (first | refine blk_drewN ?_ _ | refine blk_drew ?_ | refine blk_alloc ?_ _)); refine blk_far ?_ NB243_253.out _; (with_reducible repeat (first | refine blk_drewN ?_ _ | refine blk_drew ?_ | refine blk_alloc ?_ _)); refine blk_far ?_ NB243_253.out _; (with_reducible repeat (first | refine blk_drewN ?_ _ | refine blk_drew ?_ | refine blk_alloc ?_ _)); refine blk_far ?_ NB243_253.out _; (with_reducible repeat (first | refine blk_drewN ?_ _ | refine blk_drew ?_ | refine blk_alloc ?_ _)); exact BK243.out) Try.underlying50 rfl (by kernel_rfl)) rfl ?_
    exact ⟨by first | rfl | (simp [errW_none, errW_some] <;> rfl) | (simp [*, errW_none, errW_some] <;> rfl), by repeat (first | (with_reducible first | exact HB.out | apply below_alloc | apply pw_below_drewN | apply below_drew1 | refine below_set ?_ GE242.out | refine below_set ?_ GE243.out | refine below_set ?_ GE253.out) | exact HB.out)⟩
def tunnel_Tunnel_Up.f (k : Nat) (a0_0 : Bool) (a0_1 : Int) (a0_2 : Int) (a0_3 : Int) (a0_4 : Int) (l0_5 : List (S40)) (a1 : ByteArray) : Option (Bool × Int × Int × Int × ByteArray × Int) := if (a1.size : Int) > 1000 then (some (false, 0, 0, 0, (⟨#[]⟩ : ByteArray), 8)) else (if a0_0 = true then ((tunnel_Tunnel_packet.f k a0_0 a0_1 a0_2 a0_3 a0_4 l0_5 a1).bind fun bt262 => (some (bt262.1, bt262.2.1, bt262.2.2.1, bt262.2.2.2.1, bt262.2.2.2.2.1, bt262.2.2.2.2.2))) else ((tunnel_Tunnel_Open.f k a0_0 a0_1 a0_2 a0_3 a0_4 l0_5).bind fun t268 => (if t268 = 0 then (some (false, a0_4, a0_1, a0_2, a1, 0)) else (some (false, 0, 0, 0, (⟨#[]⟩ : ByteArray), t268)))))
set_option maxHeartbeats 8000000 in
set_option maxRecDepth 100000 in
theorem tunnel_Tunnel_Up.calls (k : Nat) (a0_0 : Bool) (a0_1 : Int) (a0_2 : Int) (a0_3 : Int) (a0_4 : Int) (A0_5 : Option Addr) (c0_5 : Nat) (l0_5 : List (S40)) (a1 : ByteArray) (r1 : Bool) (r2 : Int) (r3 : Int) (r4 : Int) (r5 : ByteArray) (r6 : Int) (w : World) (hr0_5 : Kd.C k40 w A0_5 l0_5.length l0_5) (hc0_5 : l0_5.length ≤ c0_5) (h : tunnel_Tunnel_Up.f k a0_0 a0_1 a0_2 a0_3 a0_4 l0_5 a1 = some (r1, r2, r3, r4, r5, r6)) :
    Calls Try.prog 17 #[.agg #[.bool a0_0, .int .u32 a0_1, .int .i64 a0_2, .int .u32 a0_3, .int .i64 a0_4, .slice A0_5 l0_5.length c0_5], .string a1] w fun e w' => e = .returned (.tuple #[.agg #[.bool r1, .int .i64 r2, .int .u32 r3, .int .i64 r4, .string r5], .int .i64 r6]) ∧ Below w.heap.size w w' := by
  have hu47 := Try.underlying47
  have hu50 := Try.underlying50
  have HR0_5 := Aside0.mk hr0_5
  have HC0_5 := Aside0.mk hc0_5
  clear hr0_5 hc0_5
  have HB := Aside0.mk (Below.refl w.heap.size w)
  have H : (if (a1.size : Int) > 1000 then (some (false, 0, 0, 0, (⟨#[]⟩ : ByteArray), 8)) else (if a0_0 = true then ((tunnel_Tunnel_packet.f k a0_0 a0_1 a0_2 a0_3 a0_4 l0_5 a1).bind fun bt262 => (some (bt262.1, bt262.2.1, bt262.2.2.1, bt262.2.2.2.1, bt262.2.2.2.2.1, bt262.2.2.2.2.2))) else ((tunnel_Tunnel_Open.f k a0_0 a0_1 a0_2 a0_3 a0_4 l0_5).bind fun t268 => (if t268 = 0 then (some (false, a0_4, a0_1, a0_2, a1, 0)) else (some (false, 0, 0, 0, (⟨#[]⟩ : ByteArray), t268)))))) = some (r1, r2, r3, r4, r5, r6) := h
  clear h
  by_cases c3 : (a1.size : Int) > 1000
  · rw [if_pos c3] at H
    have c3b0 : decide (1000 < (a1.size : Int)) = true := decide_eq_true c3
    have c3b1 : decide (1000 < a1.size) = true := decide_eq_true (by omega)
    clear c3
    simp only [Option.some.injEq, Prod.mk.injEq] at H
    obtain ⟨rfl, rfl, rfl, rfl, rfl, rfl⟩ := H
    go_enter Try.func17, Try.ntmps17
    go_wp2_with (first | ((with_reducible refine gate_dst (N := 2) rfl ?_); refine box_event ?hg (N := 2) ?hd (cs := #[.bool a0_0, .int .u32 a0_1, .int .i64 a0_2, .int .u32 a0_3, .int .i64 a0_4, .slice A0_5 l0_5.length c0_5]) (t := 47) ?hr ?_; (case hd => rfl); (case hg => rfl); (case hr => first | (go_simp; done) | (go_simp; rfl)); intro gb260 hg w4 hbox hb; have n0_ := Aside0.mk (below_step (by repeat (first | (with_reducible first | exact HB.out | apply below_alloc | apply pw_below_drewN | apply below_drew1) | exact HB.out)) hb); have n1_ := Aside0.mk (hbox); have n2_ := Aside0.mk ((by rw [hg]; exact (below_size (by repeat (first | (with_reducible first | exact HB.out | apply below_alloc | apply pw_below_drewN | apply below_drew1) | exact HB.out))) : w.heap.size ≤ gb260)); have n3_ := Aside0.mk ((by rw [hg]; exact (below_size (by repeat (first | (with_reducible first | exact HB.out | apply below_alloc | apply pw_below_drewN | apply below_drew1) | exact HB.out))) : w.heap.size ≤ gb260)); clear HB; have HB := n0_; have BK260 := n1_; have GW260 := n2_; have GE260 := n3_; clear n0_ n1_ n2_ n3_; clear hb hbox hg) | ((with_reducible refine gate_dst (N := 4) rfl ?_); refine box_event ?hg (N := 4) ?hd (cs := #[.bool false, .int .i64 0, .int .u32 0, .int .i64 0, .string (⟨#[]⟩ : ByteArray)]) (t := 50) ?hr ?_; (case hd => rfl); (case hg => rfl); (case hr => first | (go_simp; done) | (go_simp; rfl)); intro gb261 hg w5 hbox hb; have n0_ := Aside0.mk (blk_below (g := gb260) (o := .cells #[.bool a0_0, .int .u32 a0_1, .int .i64 a0_2, .int .u32 a0_3, .int .i64 a0_4, .slice A0_5 l0_5.length c0_5] 47 (0, 0)) (by (with_reducible repeat (first | refine blk_drewN ?_ _ | refine blk_drew ?_ | refine blk_alloc ?_ _)); exact BK260.out) hb); have n1_ := Aside0.mk (below_step (by repeat (first | (with_reducible first | exact HB.out | apply below_alloc | apply pw_below_drewN | apply below_drew1 | refine below_set ?_ GE260.out) | exact HB.out)) hb); have n2_ := Aside0.mk (hbox); have n3_ := Aside0.mk ((by rw [hg]; exact (below_size (by repeat (first | (with_reducible first | exact HB.out | apply below_alloc | apply pw_below_drewN | apply below_drew1 | refine below_set ?_ GE260.out) | exact HB.out))) : w.heap.size ≤ gb261)); have n4_ := Aside0.mk ((by rw [hg]; exact (below_size (by repeat (first | (with_reducible first | exact HB.out | apply below_alloc | apply pw_below_drewN | apply below_drew1 | refine below_set ?_ GE260.out) | exact HB.out))) : w.heap.size ≤ gb261)); have n5_ := Aside0.mk ((by rw [hg]; exact Nat.ne_of_lt (blk_lt (g := gb260) (o := .cells #[.bool a0_0, .int .u32 a0_1, .int .i64 a0_2, .int .u32 a0_3, .int .i64 a0_4, .slice A0_5 l0_5.length c0_5] 47 (0, 0)) (by (with_reducible repeat (first | refine blk_drewN ?_ _ | refine blk_drew ?_ | refine blk_alloc ?_ _)); exact BK260.out)) : gb260 ≠ gb261)); have n6_ := Aside0.mk ((by rw [hg]; exact Nat.ne_of_gt (blk_lt (g := gb260) (o := .cells #[.bool a0_0, .int .u32 a0_1, .int .i64 a0_2, .int .u32 a0_3, .int .i64 a0_4, .slice A0_5 l0_5.length c0_5] 47 (0, 0)) (by (with_reducible repeat (first | refine blk_drewN ?_ _ | refine blk_drew ?_ | refine blk_alloc ?_ _)); exact BK260.out)) : gb261 ≠ gb260)); clear BK260; clear HB; have BK260 := n0_; have HB := n1_; have BK261 := n2_; have GW261 := n3_; have GE261 := n4_; have NB260_261 := n5_; have NB261_260 := n6_; clear n0_ n1_ n2_ n3_ n4_ n5_ n6_; clear hb hbox hg; have hnb6 := NB261_260.out; have hnc6 := NB260_261.out; have hcz7_0 : w5.cell? ⟨gb261, 0, none⟩ = some (.bool false) := (blk_cell BK261.out 0).trans rfl; have hcz7_1 : w5.cell? ⟨gb261, 1, none⟩ = some (.int .i64 0) := (blk_cell BK261.out 1).trans rfl; have hcz7_2 : w5.cell? ⟨gb261, 2, none⟩ = some (.int .u32 0) := (blk_cell BK261.out 2).trans rfl; have hcz7_3 : w5.cell? ⟨gb261, 3, none⟩ = some (.int .i64 0) := (blk_cell BK261.out 3).trans rfl; have hcz7_4 : w5.cell? ⟨gb261, 4, none⟩ = some (.string (⟨#[]⟩ : ByteArray)) := (blk_cell BK261.out 4).trans rfl; have hfz7_0 := blk_frozen BK261.out 0; have hfz7_1 := blk_frozen BK261.out 1; have hfz7_2 := blk_frozen BK261.out 2; have hfz7_3 := blk_frozen BK261.out 3; have hfz7_4 := blk_frozen BK261.out 4))
    refine bodyPost_ret (results_ct rfl _ _ gb261 50 #[.bool false, .int .i64 0, .int .u32 0, .int .i64 0, .string (⟨#[]⟩ : ByteArray)] (0, 0) _ rfl (by (with_reducible repeat (first | refine blk_drewN ?_ _ | refine blk_drew ?_ | refine blk_alloc ?_ _)); refine blk_put (cs := #[.bool false, .int .i64 0, .int .u32 0, .int .i64 0, .string (⟨#[]⟩ : ByteArray)]) ?_ 4 _ rfl; (with_reducible repeat (first | refine blk_drewN ?_ _ | refine blk_drew ?_ | refine blk_alloc ?_ _)); refine blk_put (cs := #[.bool false, .int .i64 0, .int .u32 0, .int .i64 0, .string (⟨#[]⟩ : ByteArray)]) ?_ 3 _ rfl; (with_reducible repeat (first | refine blk_drewN ?_ _ | refine blk_drew ?_ | refine blk_alloc ?_ _)); refine blk_put (cs := #[.bool false, .int .i64 0, .int .u32 0, .int .i64 0, .string (⟨#[]⟩ : ByteArray)]) ?_ 2 _ rfl; (with_reducible repeat (first | refine blk_drewN ?_ _ | refine blk_drew ?_ | refine blk_alloc ?_ _)); refine blk_put (cs := #[.bool false, .int .i64 0, .int .u32 0, .int .i64 0, .string (⟨#[]⟩ : ByteArray)]) ?_ 1 _ rfl; (with_reducible repeat (first | refine blk_drewN ?_ _ | refine blk_drew ?_ | refine blk_alloc ?_ _)); refine blk_put (cs := #[.bool false, .int .i64 0, .int .u32 0, .int .i64 0, .string (⟨#[]⟩ : ByteArray)]) ?_ 0 _ rfl; (with_reducible repeat (first | refine blk_drewN ?_ _ | refine blk_drew ?_ | refine blk_alloc ?_ _)); exact BK261.out) Try.underlying50 rfl (by kernel_rfl)) rfl ?_
    exact ⟨by first | rfl | (simp [errW_none, errW_some] <;> rfl) | (simp [*, errW_none, errW_some] <;> rfl), by repeat (first | (with_reducible first | exact HB.out | apply below_alloc | apply pw_below_drewN | apply below_drew1 | refine below_set ?_ GE260.out | refine below_set ?_ GE261.out) | exact HB.out)⟩
  · rw [if_neg c3] at H
    have c3b0 : decide (1000 < (a1.size : Int)) = false := decide_eq_false c3
    have c3b1 : decide (1000 < a1.size) = false := decide_eq_false (by omega)
    clear c3
    by_cases c8 : a0_0 = true
    · subst c8
      have H1 : ((tunnel_Tunnel_packet.f k true a0_1 a0_2 a0_3 a0_4 l0_5 a1).bind fun bt262 => (some (bt262.1, bt262.2.1, bt262.2.2.1, bt262.2.2.2.1, bt262.2.2.2.2.1, bt262.2.2.2.2.2))) = some (r1, r2, r3, r4, r5, r6) := by rw [if_pos rfl] at H; exact H
      clear H
      have H := H1
      clear H1
      replace H := Option.bind_eq_some_iff.mp H
      obtain ⟨⟨t262, t263, t264, t265, t266, t267⟩, A90, H⟩ := H
      replace H : (some (t262, t263, t264, t265, t266, t267)) = some (r1, r2, r3, r4, r5, r6) := H
      have A9 := Aside0.mk A90
      clear A90
      simp only [Option.some.injEq, Prod.mk.injEq] at H
      obtain ⟨rfl, rfl, rfl, rfl, rfl, rfl⟩ := H
      go_enter Try.func17, Try.ntmps17
      go_wp2_with (first | ((with_reducible refine gate_dst (N := 2) rfl ?_); refine box_event ?hg (N := 2) ?hd (cs := #[.bool true, .int .u32 a0_1, .int .i64 a0_2, .int .u32 a0_3, .int .i64 a0_4, .slice A0_5 l0_5.length c0_5]) (t := 47) ?hr ?_; (case hd => rfl); (case hg => rfl); (case hr => first | (go_simp; done) | (go_simp; rfl)); intro gb260 hg w10 hbox hb; have n0_ := Aside0.mk (below_step (by repeat (first | (with_reducible first | exact HB.out | apply below_alloc | apply pw_below_drewN | apply below_drew1) | exact HB.out)) hb); have n1_ := Aside0.mk (hbox); have n2_ := Aside0.mk ((by rw [hg]; exact (below_size (by repeat (first | (with_reducible first | exact HB.out | apply below_alloc | apply pw_below_drewN | apply below_drew1) | exact HB.out))) : w.heap.size ≤ gb260)); have n3_ := Aside0.mk ((by rw [hg]; exact (below_size (by repeat (first | (with_reducible first | exact HB.out | apply below_alloc | apply pw_below_drewN | apply below_drew1) | exact HB.out))) : w.heap.size ≤ gb260)); clear HB; have HB := n0_; have BK260 := n1_; have GW260 := n2_; have GE260 := n3_; clear n0_ n1_ n2_ n3_; clear hb hbox hg) | ((with_reducible refine gate_dst (N := 4) rfl ?_); refine box_event ?hg (N := 4) ?hd (cs := #[.bool false, .int .i64 0, .int .u32 0, .int .i64 0, .string (⟨#[]⟩ : ByteArray)]) (t := 50) ?hr ?_; (case hd => rfl); (case hg => rfl); (case hr => first | (go_simp; done) | (go_simp; rfl)); intro gb261 hg w11 hbox hb; have n0_ := Aside0.mk (blk_below (g := gb260) (o := .cells #[.bool true, .int .u32 a0_1, .int .i64 a0_2, .int .u32 a0_3, .int .i64 a0_4, .slice A0_5 l0_5.length c0_5] 47 (0, 0)) (by (with_reducible repeat (first | refine blk_drewN ?_ _ | refine blk_drew ?_ | refine blk_alloc ?_ _)); exact BK260.out) hb); have n1_ := Aside0.mk (below_step (by repeat (first | (with_reducible first | exact HB.out | apply below_alloc | apply pw_below_drewN | apply below_drew1 | refine below_set ?_ GE260.out) | exact HB.out)) hb); have n2_ := Aside0.mk (hbox); have n3_ := Aside0.mk ((by rw [hg]; exact (below_size (by repeat (first | (with_reducible first | exact HB.out | apply below_alloc | apply pw_below_drewN | apply below_drew1 | refine below_set ?_ GE260.out) | exact HB.out))) : w.heap.size ≤ gb261)); have n4_ := Aside0.mk ((by rw [hg]; exact (below_size (by repeat (first | (with_reducible first | exact HB.out | apply below_alloc | apply pw_below_drewN | apply below_drew1 | refine below_set ?_ GE260.out) | exact HB.out))) : w.heap.size ≤ gb261)); have n5_ := Aside0.mk ((by rw [hg]; exact Nat.ne_of_lt (blk_lt (g := gb260) (o := .cells #[.bool true, .int .u32 a0_1, .int .i64 a0_2, .int .u32 a0_3, .int .i64 a0_4, .slice A0_5 l0_5.length c0_5] 47 (0, 0)) (by (with_reducible repeat (first | refine blk_drewN ?_ _ | refine blk_drew ?_ | refine blk_alloc ?_ _)); exact BK260.out)) : gb260 ≠ gb261)); have n6_ := Aside0.mk ((by rw [hg]; exact Nat.ne_of_gt (blk_lt (g := gb260) (o := .cells #[.bool true, .int .u32 a0_1, .int .i64 a0_2, .int .u32 a0_3, .int .i64 a0_4, .slice A0_5 l0_5.length c0_5] 47 (0, 0)) (by (with_reducible repeat (first | refine blk_drewN ?_ _ | refine blk_drew ?_ | refine blk_alloc ?_ _)); exact BK260.out)) : gb261 ≠ gb260)); clear BK260; clear HB; have BK260 := n0_; have HB := n1_; have BK261 := n2_; have GW261 := n3_; have GE261 := n4_; have NB260_261 := n5_; have NB261_260 := n6_; clear n0_ n1_ n2_ n3_ n4_ n5_ n6_; clear hb hbox hg; have hnb12 := NB260_261.out; have hnc12 := NB261_260.out; have hcz13_0 : w11.cell? ⟨gb260, 0, none⟩ = some (.bool true) := (blk_cell BK260.out 0).trans rfl; have hcz13_1 : w11.cell? ⟨gb260, 1, none⟩ = some (.int .u32 a0_1) := (blk_cell BK260.out 1).trans rfl; have hcz13_2 : w11.cell? ⟨gb260, 2, none⟩ = some (.int .i64 a0_2) := (blk_cell BK260.out 2).trans rfl; have hcz13_3 : w11.cell? ⟨gb260, 3, none⟩ = some (.int .u32 a0_3) := (blk_cell BK260.out 3).trans rfl; have hcz13_4 : w11.cell? ⟨gb260, 4, none⟩ = some (.int .i64 a0_4) := (blk_cell BK260.out 4).trans rfl; have hcz13_5 : w11.cell? ⟨gb260, 5, none⟩ = some (.slice A0_5 l0_5.length c0_5) := (blk_cell BK260.out 5).trans rfl; have hfz13_0 := blk_frozen BK260.out 0; have hfz13_1 := blk_frozen BK260.out 1; have hfz13_2 := blk_frozen BK260.out 2; have hfz13_3 := blk_frozen BK260.out 3; have hfz13_4 := blk_frozen BK260.out 4; have hfz13_5 := blk_frozen BK260.out 5) | ((with_reducible refine gate_callee (f := 36) rfl ?_); refine goesL_ (some 16) rfl rfl Try.func36 (by kernel_rfl) rfl #[.agg #[.bool true, .int .u32 a0_1, .int .i64 a0_2, .int .u32 a0_3, .int .i64 a0_4, .slice A0_5 l0_5.length c0_5], .string a1] rfl (by (try simp only [List.map_toArray, List.map_cons, List.map_nil]); first | done | rfl | (simp only [List.length_drop, List.length_take]; rfl)) ?_; (with_reducible refine (tunnel_Tunnel_packet.calls k true a0_1 a0_2 a0_3 a0_4 _ _ l0_5 a1 t262 t263 t264 t265 t266 t267 _ ?side1 ?side2 A9.out).mono ?_); (case side1 => repeat (first | exact (Kd.C_below HR0_5.out HB.out) | (with_reducible refine Kd.C_alloc ?_ _) | (with_reducible refine Kd.C_drewN ?_ _) | (with_reducible refine Kd.C_drew ?_))); (case side2 => exact HC0_5.out); rintro e w14 ⟨rfl, hb⟩; refine ⟨_, rfl, ?_⟩; have n0_ := Aside0.mk (blk_below (g := gb260) (o := .cells #[.bool true, .int .u32 a0_1, .int .i64 a0_2, .int .u32 a0_3, .int .i64 a0_4, .slice A0_5 l0_5.length c0_5] 47 (0, 0)) (by (with_reducible repeat (first | refine blk_drewN ?_ _ | refine blk_drew ?_ | refine blk_alloc ?_ _)); exact BK260.out) hb); have n1_ := Aside0.mk (blk_below (g := gb261) (o := .cells #[.bool false, .int .i64 0, .int .u32 0, .int .i64 0, .string (⟨#[]⟩ : ByteArray)] 50 (0, 0)) (by (with_reducible repeat (first | refine blk_drewN ?_ _ | refine blk_drew ?_ | refine blk_alloc ?_ _)); exact BK261.out) hb); have n2_ := Aside0.mk (below_step (by repeat (first | (with_reducible first | exact HB.out | apply below_alloc | apply pw_below_drewN | apply below_drew1 | refine below_set ?_ GE260.out | refine below_set ?_ GE261.out) | exact HB.out)) hb); clear BK260; clear BK261; clear HB; have BK260 := n0_; have BK261 := n1_; have HB := n2_; clear n0_ n1_ n2_; (try clear hb); (try clear hb2); (try clear hk); (try clear hi); have hcz15_0 : w14.cell? ⟨gb261, 0, none⟩ = some (.bool false) := (blk_cell BK261.out 0).trans rfl; have hcz15_1 : w14.cell? ⟨gb261, 1, none⟩ = some (.int .i64 0) := (blk_cell BK261.out 1).trans rfl; have hcz15_2 : w14.cell? ⟨gb261, 2, none⟩ = some (.int .u32 0) := (blk_cell BK261.out 2).trans rfl; have hcz15_3 : w14.cell? ⟨gb261, 3, none⟩ = some (.int .i64 0) := (blk_cell BK261.out 3).trans rfl; have hcz15_4 : w14.cell? ⟨gb261, 4, none⟩ = some (.string (⟨#[]⟩ : ByteArray)) := (blk_cell BK261.out 4).trans rfl; have hfz15_0 := blk_frozen BK261.out 0; have hfz15_1 := blk_frozen BK261.out 1; have hfz15_2 := blk_frozen BK261.out 2; have hfz15_3 := blk_frozen BK261.out 3; have hfz15_4 := blk_frozen BK261.out 4))
      refine bodyPost_ret (results_ct rfl _ _ gb261 50 #[.bool t262, .int .i64 t263, .int .u32 t264, .int .i64 t265, .string t266] (0, 0) _ rfl (by (with_reducible repeat (first | refine blk_drewN ?_ _ | refine blk_drew ?_ | refine blk_alloc ?_ _)); refine blk_put (cs := #[.bool t262, .int .i64 t263, .int .u32 t264, .int .i64 t265, .string (⟨#[]⟩ : ByteArray)]) ?_ 4 _ rfl; (with_reducible repeat (first | refine blk_drewN ?_ _ | refine blk_drew ?_ | refine blk_alloc ?_ _)); refine blk_put (cs := #[.bool t262, .int .i64 t263, .int .u32 t264, .int .i64 0, .string (⟨#[]⟩ : ByteArray)]) ?_ 3 _ rfl; (with_reducible repeat (first | refine blk_drewN ?_ _ | refine blk_drew ?_ | refine blk_alloc ?_ _)); refine blk_put (cs := #[.bool t262, .int .i64 t263, .int .u32 0, .int .i64 0, .string (⟨#[]⟩ : ByteArray)]) ?_ 2 _ rfl; (with_reducible repeat (first | refine blk_drewN ?_ _ | refine blk_drew ?_ | refine blk_alloc ?_ _)); refine blk_put (cs := #[.bool t262, .int .i64 0, .int .u32 0, .int .i64 0, .string (⟨#[]⟩ : ByteArray)]) ?_ 1 _ rfl; (with_reducible repeat (first | refine blk_drewN ?_ _ | refine blk_drew ?_ | refine blk_alloc ?_ _)); refine blk_put (cs := #[.bool false, .int .i64 0, .int .u32 0, .int .i64 0, .string (⟨#[]⟩ : ByteArray)]) ?_ 0 _ rfl; (with_reducible repeat (first | refine blk_drewN ?_ _ | refine blk_drew ?_ | refine blk_alloc ?_ _)); exact BK261.out) Try.underlying50 rfl (by kernel_rfl)) rfl ?_
      exact ⟨by first | rfl | (simp [errW_none, errW_some] <;> rfl) | (simp [*, errW_none, errW_some] <;> rfl), by repeat (first | (with_reducible first | exact HB.out | apply below_alloc | apply pw_below_drewN | apply below_drew1 | refine below_set ?_ GE260.out | refine below_set ?_ GE261.out) | exact HB.out)⟩
    · replace c8 := Bool.eq_false_iff.mpr c8
      subst c8
      have H1 : ((tunnel_Tunnel_Open.f k false a0_1 a0_2 a0_3 a0_4 l0_5).bind fun t268 => (if t268 = 0 then (some (false, a0_4, a0_1, a0_2, a1, 0)) else (some (false, 0, 0, 0, (⟨#[]⟩ : ByteArray), t268)))) = some (r1, r2, r3, r4, r5, r6) := by rw [if_neg (show ¬ (false = true) by decide)] at H; exact H
      clear H
      have H := H1
      clear H1
      replace H := Option.bind_eq_some_iff.mp H
      obtain ⟨t268, A160, H⟩ := H
      replace H : (if t268 = 0 then (some (false, a0_4, a0_1, a0_2, a1, 0)) else (some (false, 0, 0, 0, (⟨#[]⟩ : ByteArray), t268))) = some (r1, r2, r3, r4, r5, r6) := H
      have A16 := Aside0.mk A160
      clear A160
      by_cases c17 : t268 = 0
      · rw [if_pos c17] at H
        have c17b0 : (t268 == 0) = true := beq_iff_eq.mpr c17
        have c17b1 : (t268 != 0) = false := bne_eq_false_iff_eq.mpr c17
        clear c17
        simp only [Option.some.injEq, Prod.mk.injEq] at H
        obtain ⟨rfl, rfl, rfl, rfl, rfl, rfl⟩ := H
        go_enter Try.func17, Try.ntmps17
        go_wp2_with (first | ((with_reducible refine gate_dst (N := 2) rfl ?_); refine box_event ?hg (N := 2) ?hd (cs := #[.bool false, .int .u32 a0_1, .int .i64 a0_2, .int .u32 a0_3, .int .i64 a0_4, .slice A0_5 l0_5.length c0_5]) (t := 47) ?hr ?_; (case hd => rfl); (case hg => rfl); (case hr => first | (go_simp; done) | (go_simp; rfl)); intro gb260 hg w18 hbox hb; have n0_ := Aside0.mk (below_step (by repeat (first | (with_reducible first | exact HB.out | apply below_alloc | apply pw_below_drewN | apply below_drew1) | exact HB.out)) hb); have n1_ := Aside0.mk (hbox); have n2_ := Aside0.mk ((by rw [hg]; exact (below_size (by repeat (first | (with_reducible first | exact HB.out | apply below_alloc | apply pw_below_drewN | apply below_drew1) | exact HB.out))) : w.heap.size ≤ gb260)); have n3_ := Aside0.mk ((by rw [hg]; exact (below_size (by repeat (first | (with_reducible first | exact HB.out | apply below_alloc | apply pw_below_drewN | apply below_drew1) | exact HB.out))) : w.heap.size ≤ gb260)); clear HB; have HB := n0_; have BK260 := n1_; have GW260 := n2_; have GE260 := n3_; clear n0_ n1_ n2_ n3_; clear hb hbox hg) | ((with_reducible refine gate_dst (N := 4) rfl ?_); refine box_event ?hg (N := 4) ?hd (cs := #[.bool false, .int .i64 0, .int .u32 0, .int .i64 0, .string (⟨#[]⟩ : ByteArray)]) (t := 50) ?hr ?_; (case hd => rfl); (case hg => rfl); (case hr => first | (go_simp; done) | (go_simp; rfl)); intro gb261 hg w19 hbox hb; have n0_ := Aside0.mk (blk_below (g := gb260) (o := .cells #[.bool false, .int .u32 a0_1, .int .i64 a0_2, .int .u32 a0_3, .int .i64 a0_4, .slice A0_5 l0_5.length c0_5] 47 (0, 0)) (by (with_reducible repeat (first | refine blk_drewN ?_ _ | refine blk_drew ?_ | refine blk_alloc ?_ _)); exact BK260.out) hb); have n1_ := Aside0.mk (below_step (by repeat (first | (with_reducible first | exact HB.out | apply below_alloc | apply pw_below_drewN | apply below_drew1 | refine below_set ?_ GE260.out) | exact HB.out)) hb); have n2_ := Aside0.mk (hbox); have n3_ := Aside0.mk ((by rw [hg]; exact (below_size (by repeat (first | (with_reducible first | exact HB.out | apply below_alloc | apply pw_below_drewN | apply below_drew1 | refine below_set ?_ GE260.out) | exact HB.out))) : w.heap.size ≤ gb261)); have n4_ := Aside0.mk ((by rw [hg]; exact (below_size (by repeat (first | (with_reducible first | exact HB.out | apply below_alloc | apply pw_below_drewN | apply below_drew1 | refine below_set ?_ GE260.out) | exact HB.out))) : w.heap.size ≤ gb261)); have n5_ := Aside0.mk ((by rw [hg]; exact Nat.ne_of_lt (blk_lt (g := gb260) (o := .cells #[.bool false, .int .u32 a0_1, .int .i64 a0_2, .int .u32 a0_3, .int .i64 a0_4, .slice A0_5 l0_5.length c0_5] 47 (0, 0)) (by (with_reducible repeat (first | refine blk_drewN ?_ _ | refine blk_drew ?_ | refine blk_alloc ?_ _)); exact BK260.out)) : gb260 ≠ gb261)); have n6_ := Aside0.mk ((by rw [hg]; exact Nat.ne_of_gt (blk_lt (g := gb260) (o := .cells #[.bool false, .int .u32 a0_1, .int .i64 a0_2, .int .u32 a0_3, .int .i64 a0_4, .slice A0_5 l0_5.length c0_5] 47 (0, 0)) (by (with_reducible repeat (first | refine blk_drewN ?_ _ | refine blk_drew ?_ | refine blk_alloc ?_ _)); exact BK260.out)) : gb261 ≠ gb260)); clear BK260; clear HB; have BK260 := n0_; have HB := n1_; have BK261 := n2_; have GW261 := n3_; have GE261 := n4_; have NB260_261 := n5_; have NB261_260 := n6_; clear n0_ n1_ n2_ n3_ n4_ n5_ n6_; clear hb hbox hg; have hnb20 := NB260_261.out; have hnc20 := NB261_260.out; have hcz21_0 : w19.cell? ⟨gb260, 0, none⟩ = some (.bool false) := (blk_cell BK260.out 0).trans rfl; have hcz21_1 : w19.cell? ⟨gb260, 1, none⟩ = some (.int .u32 a0_1) := (blk_cell BK260.out 1).trans rfl; have hcz21_2 : w19.cell? ⟨gb260, 2, none⟩ = some (.int .i64 a0_2) := (blk_cell BK260.out 2).trans rfl; have hcz21_3 : w19.cell? ⟨gb260, 3, none⟩ = some (.int .u32 a0_3) := (blk_cell BK260.out 3).trans rfl; have hcz21_4 : w19.cell? ⟨gb260, 4, none⟩ = some (.int .i64 a0_4) := (blk_cell BK260.out 4).trans rfl; have hcz21_5 : w19.cell? ⟨gb260, 5, none⟩ = some (.slice A0_5 l0_5.length c0_5) := (blk_cell BK260.out 5).trans rfl; have hfz21_0 := blk_frozen BK260.out 0; have hfz21_1 := blk_frozen BK260.out 1; have hfz21_2 := blk_frozen BK260.out 2; have hfz21_3 := blk_frozen BK260.out 3; have hfz21_4 := blk_frozen BK260.out 4; have hfz21_5 := blk_frozen BK260.out 5) | ((with_reducible refine gate_callee (f := 21) rfl ?_); refine goesL_ (some 20) rfl rfl Try.func21 (by kernel_rfl) rfl #[.agg #[.bool false, .int .u32 a0_1, .int .i64 a0_2, .int .u32 a0_3, .int .i64 a0_4, .slice A0_5 l0_5.length c0_5]] rfl (by (try simp only [List.map_toArray, List.map_cons, List.map_nil]); first | done | rfl | (simp only [List.length_drop, List.length_take]; rfl)) ?_; (with_reducible refine (tunnel_Tunnel_Open.calls k false a0_1 a0_2 a0_3 a0_4 _ _ l0_5 t268 _ ?side1 ?side2 A16.out).mono ?_); (case side1 => repeat (first | exact (Kd.C_below HR0_5.out HB.out) | (with_reducible refine Kd.C_alloc ?_ _) | (with_reducible refine Kd.C_drewN ?_ _) | (with_reducible refine Kd.C_drew ?_))); (case side2 => exact HC0_5.out); rintro e w22 ⟨rfl, hb⟩; refine ⟨_, rfl, ?_⟩; have n0_ := Aside0.mk (blk_below (g := gb260) (o := .cells #[.bool false, .int .u32 a0_1, .int .i64 a0_2, .int .u32 a0_3, .int .i64 a0_4, .slice A0_5 l0_5.length c0_5] 47 (0, 0)) (by (with_reducible repeat (first | refine blk_drewN ?_ _ | refine blk_drew ?_ | refine blk_alloc ?_ _)); exact BK260.out) hb); have n1_ := Aside0.mk (blk_below (g := gb261) (o := .cells #[.bool false, .int .i64 0, .int .u32 0, .int .i64 0, .string (⟨#[]⟩ : ByteArray)] 50 (0, 0)) (by (with_reducible repeat (first | refine blk_drewN ?_ _ | refine blk_drew ?_ | refine blk_alloc ?_ _)); exact BK261.out) hb); have n2_ := Aside0.mk (below_step (by repeat (first | (with_reducible first | exact HB.out | apply below_alloc | apply pw_below_drewN | apply below_drew1 | refine below_set ?_ GE260.out | refine below_set ?_ GE261.out) | exact HB.out)) hb); clear BK260; clear BK261; clear HB; have BK260 := n0_; have BK261 := n1_; have HB := n2_; clear n0_ n1_ n2_; (try clear hb); (try clear hb2); (try clear hk); (try clear hi); have hcz23_0 : w22.cell? ⟨gb260, 0, none⟩ = some (.bool false) := (blk_cell BK260.out 0).trans rfl; have hcz23_1 : w22.cell? ⟨gb260, 1, none⟩ = some (.int .u32 a0_1) := (blk_cell BK260.out 1).trans rfl; have hcz23_2 : w22.cell? ⟨gb260, 2, none⟩ = some (.int .i64 a0_2) := (blk_cell BK260.out 2).trans rfl; have hcz23_3 : w22.cell? ⟨gb260, 3, none⟩ = some (.int .u32 a0_3) := (blk_cell BK260.out 3).trans rfl; have hcz23_4 : w22.cell? ⟨gb260, 4, none⟩ = some (.int .i64 a0_4) := (blk_cell BK260.out 4).trans rfl; have hcz23_5 : w22.cell? ⟨gb260, 5, none⟩ = some (.slice A0_5 l0_5.length c0_5) := (blk_cell BK260.out 5).trans rfl; have hfz23_0 := blk_frozen BK260.out 0; have hfz23_1 := blk_frozen BK260.out 1; have hfz23_2 := blk_frozen BK260.out 2; have hfz23_3 := blk_frozen BK260.out 3; have hfz23_4 := blk_frozen BK260.out 4; have hfz23_5 := blk_frozen BK260.out 5; have hcz24_0 : w22.cell? ⟨gb261, 0, none⟩ = some (.bool false) := (blk_cell BK261.out 0).trans rfl; have hcz24_1 : w22.cell? ⟨gb261, 1, none⟩ = some (.int .i64 0) := (blk_cell BK261.out 1).trans rfl; have hcz24_2 : w22.cell? ⟨gb261, 2, none⟩ = some (.int .u32 0) := (blk_cell BK261.out 2).trans rfl; have hcz24_3 : w22.cell? ⟨gb261, 3, none⟩ = some (.int .i64 0) := (blk_cell BK261.out 3).trans rfl; have hcz24_4 : w22.cell? ⟨gb261, 4, none⟩ = some (.string (⟨#[]⟩ : ByteArray)) := (blk_cell BK261.out 4).trans rfl; have hfz24_0 := blk_frozen BK261.out 0; have hfz24_1 := blk_frozen BK261.out 1; have hfz24_2 := blk_frozen BK261.out 2; have hfz24_3 := blk_frozen BK261.out 3; have hfz24_4 := blk_frozen BK261.out 4))
        refine bodyPost_ret (results_ct rfl _ _ gb261 50 #[.bool false, .int .i64 a0_4, .int .u32 a0_1, .int .i64 a0_2, .string a1] (0, 0) _ rfl (by (with_reducible repeat (first | refine blk_drewN ?_ _ | refine blk_drew ?_ | refine blk_alloc ?_ _)); refine blk_put (cs := #[.bool false, .int .i64 a0_4, .int .u32 a0_1, .int .i64 a0_2, .string (⟨#[]⟩ : ByteArray)]) ?_ 4 _ rfl; (with_reducible repeat (first | refine blk_drewN ?_ _ | refine blk_drew ?_ | refine blk_alloc ?_ _)); refine blk_put (cs := #[.bool false, .int .i64 a0_4, .int .u32 a0_1, .int .i64 0, .string (⟨#[]⟩ : ByteArray)]) ?_ 3 _ rfl; (with_reducible repeat (first | refine blk_drewN ?_ _ | refine blk_drew ?_ | refine blk_alloc ?_ _)); refine blk_put (cs := #[.bool false, .int .i64 a0_4, .int .u32 0, .int .i64 0, .string (⟨#[]⟩ : ByteArray)]) ?_ 2 _ rfl; (with_reducible repeat (first | refine blk_drewN ?_ _ | refine blk_drew ?_ | refine blk_alloc ?_ _)); refine blk_put (cs := #[.bool false, .int .i64 0, .int .u32 0, .int .i64 0, .string (⟨#[]⟩ : ByteArray)]) ?_ 1 _ rfl; (with_reducible repeat (first | refine blk_drewN ?_ _ | refine blk_drew ?_ | refine blk_alloc ?_ _)); refine blk_put (cs := #[.bool false, .int .i64 0, .int .u32 0, .int .i64 0, .string (⟨#[]⟩ : ByteArray)]) ?_ 0 _ rfl; (with_reducible repeat (first | refine blk_drewN ?_ _ | refine blk_drew ?_ | refine blk_alloc ?_ _)); exact BK261.out) Try.underlying50 rfl (by kernel_rfl)) rfl ?_
        exact ⟨by first | rfl | (simp [errW_none, errW_some] <;> rfl) | (simp [*, errW_none, errW_some] <;> rfl), by repeat (first | (with_reducible first | exact HB.out | apply below_alloc | apply pw_below_drewN | apply below_drew1 | refine below_set ?_ GE260.out | refine below_set ?_ GE261.out) | exact HB.out)⟩
      · rw [if_neg c17] at H
        have c17b0 : (t268 == 0) = false := beq_eq_false_iff_ne.mpr c17
        have c17b1 : (t268 != 0) = true := bne_iff_ne.mpr c17
        simp only [Option.some.injEq, Prod.mk.injEq] at H
        obtain ⟨rfl, rfl, rfl, rfl, rfl, rfl⟩ := H
        go_enter Try.func17, Try.ntmps17
        go_wp2_with (first | ((with_reducible refine gate_dst (N := 2) rfl ?_); refine box_event ?hg (N := 2) ?hd (cs := #[.bool false, .int .u32 a0_1, .int .i64 a0_2, .int .u32 a0_3, .int .i64 a0_4, .slice A0_5 l0_5.length c0_5]) (t := 47) ?hr ?_; (case hd => rfl); (case hg => rfl); (case hr => first | (go_simp; done) | (go_simp; rfl)); intro gb260 hg w25 hbox hb; have n0_ := Aside0.mk (below_step (by repeat (first | (with_reducible first | exact HB.out | apply below_alloc | apply pw_below_drewN | apply below_drew1) | exact HB.out)) hb); have n1_ := Aside0.mk (hbox); have n2_ := Aside0.mk ((by rw [hg]; exact (below_size (by repeat (first | (with_reducible first | exact HB.out | apply below_alloc | apply pw_below_drewN | apply below_drew1) | exact HB.out))) : w.heap.size ≤ gb260)); have n3_ := Aside0.mk ((by rw [hg]; exact (below_size (by repeat (first | (with_reducible first | exact HB.out | apply below_alloc | apply pw_below_drewN | apply below_drew1) | exact HB.out))) : w.heap.size ≤ gb260)); clear HB; have HB := n0_; have BK260 := n1_; have GW260 := n2_; have GE260 := n3_; clear n0_ n1_ n2_ n3_; clear hb hbox hg) | ((with_reducible refine gate_dst (N := 4) rfl ?_); refine box_event ?hg (N := 4) ?hd (cs := #[.bool false, .int .i64 0, .int .u32 0, .int .i64 0, .string (⟨#[]⟩ : ByteArray)]) (t := 50) ?hr ?_; (case hd => rfl); (case hg => rfl); (case hr => first | (go_simp; done) | (go_simp; rfl)); intro gb261 hg w26 hbox hb; have n0_ := Aside0.mk (blk_below (g := gb260) (o := .cells #[.bool false, .int .u32 a0_1, .int .i64 a0_2, .int .u32 a0_3, .int .i64 a0_4, .slice A0_5 l0_5.length c0_5] 47 (0, 0)) (by (with_reducible repeat (first | refine blk_drewN ?_ _ | refine blk_drew ?_ | refine blk_alloc ?_ _)); exact BK260.out) hb); have n1_ := Aside0.mk (below_step (by repeat (first | (with_reducible first | exact HB.out | apply below_alloc | apply pw_below_drewN | apply below_drew1 | refine below_set ?_ GE260.out) | exact HB.out)) hb); have n2_ := Aside0.mk (hbox); have n3_ := Aside0.mk ((by rw [hg]; exact (below_size (by repeat (first | (with_reducible first | exact HB.out | apply below_alloc | apply pw_below_drewN | apply below_drew1 | refine below_set ?_ GE260.out) | exact HB.out))) : w.heap.size ≤ gb261)); have n4_ := Aside0.mk ((by rw [hg]; exact (below_size (by repeat (first | (with_reducible first | exact HB.out | apply below_alloc | apply pw_below_drewN | apply below_drew1 | refine below_set ?_ GE260.out) | exact HB.out))) : w.heap.size ≤ gb261)); have n5_ := Aside0.mk ((by rw [hg]; exact Nat.ne_of_lt (blk_lt (g := gb260) (o := .cells #[.bool false, .int .u32 a0_1, .int .i64 a0_2, .int .u32 a0_3, .int .i64 a0_4, .slice A0_5 l0_5.length c0_5] 47 (0, 0)) (by (with_reducible repeat (first | refine blk_drewN ?_ _ | refine blk_drew ?_ | refine blk_alloc ?_ _)); exact BK260.out)) : gb260 ≠ gb261)); have n6_ := Aside0.mk ((by rw [hg]; exact Nat.ne_of_gt (blk_lt (g := gb260) (o := .cells #[.bool false, .int .u32 a0_1, .int .i64 a0_2, .int .u32 a0_3, .int .i64 a0_4, .slice A0_5 l0_5.length c0_5] 47 (0, 0)) (by (with_reducible repeat (first | refine blk_drewN ?_ _ | refine blk_drew ?_ | refine blk_alloc ?_ _)); exact BK260.out)) : gb261 ≠ gb260)); clear BK260; clear HB; have BK260 := n0_; have HB := n1_; have BK261 := n2_; have GW261 := n3_; have GE261 := n4_; have NB260_261 := n5_; have NB261_260 := n6_; clear n0_ n1_ n2_ n3_ n4_ n5_ n6_; clear hb hbox hg; have hnb27 := NB260_261.out; have hnc27 := NB261_260.out; have hcz28_0 : w26.cell? ⟨gb260, 0, none⟩ = some (.bool false) := (blk_cell BK260.out 0).trans rfl; have hcz28_1 : w26.cell? ⟨gb260, 1, none⟩ = some (.int .u32 a0_1) := (blk_cell BK260.out 1).trans rfl; have hcz28_2 : w26.cell? ⟨gb260, 2, none⟩ = some (.int .i64 a0_2) := (blk_cell BK260.out 2).trans rfl; have hcz28_3 : w26.cell? ⟨gb260, 3, none⟩ = some (.int .u32 a0_3) := (blk_cell BK260.out 3).trans rfl; have hcz28_4 : w26.cell? ⟨gb260, 4, none⟩ = some (.int .i64 a0_4) := (blk_cell BK260.out 4).trans rfl; have hcz28_5 : w26.cell? ⟨gb260, 5, none⟩ = some (.slice A0_5 l0_5.length c0_5) := (blk_cell BK260.out 5).trans rfl; have hfz28_0 := blk_frozen BK260.out 0; have hfz28_1 := blk_frozen BK260.out 1; have hfz28_2 := blk_frozen BK260.out 2; have hfz28_3 := blk_frozen BK260.out 3; have hfz28_4 := blk_frozen BK260.out 4; have hfz28_5 := blk_frozen BK260.out 5) | ((with_reducible refine gate_callee (f := 21) rfl ?_); refine goesL_ (some 20) rfl rfl Try.func21 (by kernel_rfl) rfl #[.agg #[.bool false, .int .u32 a0_1, .int .i64 a0_2, .int .u32 a0_3, .int .i64 a0_4, .slice A0_5 l0_5.length c0_5]] rfl (by (try simp only [List.map_toArray, List.map_cons, List.map_nil]); first | done | rfl | (simp only [List.length_drop, List.length_take]; rfl)) ?_; (with_reducible refine (tunnel_Tunnel_Open.calls k false a0_1 a0_2 a0_3 a0_4 _ _ l0_5 t268 _ ?side1 ?side2 A16.out).mono ?_); (case side1 => repeat (first | exact (Kd.C_below HR0_5.out HB.out) | (with_reducible refine Kd.C_alloc ?_ _) | (with_reducible refine Kd.C_drewN ?_ _) | (with_reducible refine Kd.C_drew ?_))); (case side2 => exact HC0_5.out); rintro e w29 ⟨rfl, hb⟩; refine ⟨_, rfl, ?_⟩; have n0_ := Aside0.mk (blk_below (g := gb260) (o := .cells #[.bool false, .int .u32 a0_1, .int .i64 a0_2, .int .u32 a0_3, .int .i64 a0_4, .slice A0_5 l0_5.length c0_5] 47 (0, 0)) (by (with_reducible repeat (first | refine blk_drewN ?_ _ | refine blk_drew ?_ | refine blk_alloc ?_ _)); exact BK260.out) hb); have n1_ := Aside0.mk (blk_below (g := gb261) (o := .cells #[.bool false, .int .i64 0, .int .u32 0, .int .i64 0, .string (⟨#[]⟩ : ByteArray)] 50 (0, 0)) (by (with_reducible repeat (first | refine blk_drewN ?_ _ | refine blk_drew ?_ | refine blk_alloc ?_ _)); exact BK261.out) hb); have n2_ := Aside0.mk (below_step (by repeat (first | (with_reducible first | exact HB.out | apply below_alloc | apply pw_below_drewN | apply below_drew1 | refine below_set ?_ GE260.out | refine below_set ?_ GE261.out) | exact HB.out)) hb); clear BK260; clear BK261; clear HB; have BK260 := n0_; have BK261 := n1_; have HB := n2_; clear n0_ n1_ n2_; (try clear hb); (try clear hb2); (try clear hk); (try clear hi); have hcz30_0 : w29.cell? ⟨gb261, 0, none⟩ = some (.bool false) := (blk_cell BK261.out 0).trans rfl; have hcz30_1 : w29.cell? ⟨gb261, 1, none⟩ = some (.int .i64 0) := (blk_cell BK261.out 1).trans rfl; have hcz30_2 : w29.cell? ⟨gb261, 2, none⟩ = some (.int .u32 0) := (blk_cell BK261.out 2).trans rfl; have hcz30_3 : w29.cell? ⟨gb261, 3, none⟩ = some (.int .i64 0) := (blk_cell BK261.out 3).trans rfl; have hcz30_4 : w29.cell? ⟨gb261, 4, none⟩ = some (.string (⟨#[]⟩ : ByteArray)) := (blk_cell BK261.out 4).trans rfl; have hfz30_0 := blk_frozen BK261.out 0; have hfz30_1 := blk_frozen BK261.out 1; have hfz30_2 := blk_frozen BK261.out 2; have hfz30_3 := blk_frozen BK261.out 3; have hfz30_4 := blk_frozen BK261.out 4))
        refine bodyPost_ret (results_ct rfl _ _ gb261 50 #[.bool false, .int .i64 0, .int .u32 0, .int .i64 0, .string (⟨#[]⟩ : ByteArray)] (0, 0) _ rfl (by (with_reducible repeat (first | refine blk_drewN ?_ _ | refine blk_drew ?_ | refine blk_alloc ?_ _)); refine blk_put (cs := #[.bool false, .int .i64 0, .int .u32 0, .int .i64 0, .string (⟨#[]⟩ : ByteArray)]) ?_ 4 _ rfl; (with_reducible repeat (first | refine blk_drewN ?_ _ | refine blk_drew ?_ | refine blk_alloc ?_ _)); refine blk_put (cs := #[.bool false, .int .i64 0, .int .u32 0, .int .i64 0, .string (⟨#[]⟩ : ByteArray)]) ?_ 3 _ rfl; (with_reducible repeat (first | refine blk_drewN ?_ _ | refine blk_drew ?_ | refine blk_alloc ?_ _)); refine blk_put (cs := #[.bool false, .int .i64 0, .int .u32 0, .int .i64 0, .string (⟨#[]⟩ : ByteArray)]) ?_ 2 _ rfl; (with_reducible repeat (first | refine blk_drewN ?_ _ | refine blk_drew ?_ | refine blk_alloc ?_ _)); refine blk_put (cs := #[.bool false, .int .i64 0, .int .u32 0, .int .i64 0, .string (⟨#[]⟩ : ByteArray)]) ?_ 1 _ rfl; (with_reducible repeat (first | refine blk_drewN ?_ _ | refine blk_drew ?_ | refine blk_alloc ?_ _)); refine blk_put (cs := #[.bool false, .int .i64 0, .int .u32 0, .int .i64 0, .string (⟨#[]⟩ : ByteArray)]) ?_ 0 _ rfl; (with_reducible repeat (first | refine blk_drewN ?_ _ | refine blk_drew ?_ | refine blk_alloc ?_ _)); exact BK261.out) Try.underlying50 rfl (by kernel_rfl)) rfl ?_
        exact ⟨by first | rfl | (simp [errW_none, errW_some] <;> rfl) | (simp [*, errW_none, errW_some] <;> rfl), by repeat (first | (with_reducible first | exact HB.out | apply below_alloc | apply pw_below_drewN | apply below_drew1 | refine below_set ?_ GE260.out | refine below_set ?_ GE261.out) | exact HB.out)⟩
end Go.Proofs.Ytcpneggifmldoaa.T
namespace Go.Proofs.Ytcpneggifmldoaa.T
open Go.RowKit Go.Proofs.YtcpneggifmldoaaW.PrintWords Go.Proofs.YtcpneggifmldoaaW.PrintLast Go.Proofs.YtcpneggifmldoaaW.PrintMore
attribute [local go_sem] max2_int min2_int max_two min_two max_three min_three max_four min_four   -- for this text's walks alone
set_option linter.unusedVariables false
set_option linter.unusedSimpArgs false
def vizardref02_Build.f (a0 a1 a2 a3 a4 a5 a6 : Int) (a7 : ByteArray) : Option (ByteArray × Int) := if 0 ≤ a5 ∧ a5 < 4294967296 ∧ 0 ≤ a6 ∧ a6 < 4294967296 then some (buildV a0 a1 a2 a3 a4 a5 a6 a7) else none
end Go.Proofs.Ytcpneggifmldoaa.T
namespace Go.Proofs.Ytcpneggifmldoaa.T
open Go.RowKit Go.Proofs.YtcpneggifmldoaaW.PrintWords Go.Proofs.YtcpneggifmldoaaW.PrintLast Go.Proofs.YtcpneggifmldoaaW.PrintMore
attribute [local go_sem] max2_int min2_int max_two min_two max_three min_three max_four min_four   -- for this text's walks alone
set_option linter.unusedVariables false
set_option linter.unusedSimpArgs false
def vizardref02_Parse.f (s : ByteArray) : Option (Int × Int × Int × Int × Int × Int × Int × ByteArray × Int) := some (parseV s)
end Go.Proofs.Ytcpneggifmldoaa.T
namespace Go.Proofs.Ytcpneggifmldoaa.T
open Go.RowKit Go.Proofs.YtcpneggifmldoaaW.PrintWords Go.Proofs.YtcpneggifmldoaaW.PrintLast Go.Proofs.YtcpneggifmldoaaW.PrintMore
attribute [local go_sem] max2_int min2_int max_two min_two max_three min_three max_four min_four   -- for this text's walks alone
set_option linter.unusedVariables false
set_option linter.unusedSimpArgs false
def vizardref03_Ports.j0 : Nat → Bool → Int → Int → Int → Int → Int → Int → Int → ByteArray → Option (Int × Int × Bool)
  | 0, _, _, _, _, _, _, _, _, _ => none
  | k + 1, x24, x136000, x136001, x136002, x136003, x136004, x136005, x136006, x136007 => if x24 = true then (some (0, 0, false)) else (if 0 ≤ 2 then (if 2 ≤ (x136007.size : Int) then ((vizardref01_Number.f k (x136007.extract 0 2)).bind fun t136 => (if 2 ≤ 4 then (if 4 ≤ (x136007.size : Int) then ((vizardref01_Number.f k (x136007.extract 2 4)).bind fun t137 => (some (t136, t137, true))) else (none)) else (none))) else (none)) else (none))
def vizardref03_Ports.f (k : Nat) (a0_0 : Int) (a0_1 : Int) (a0_2 : Int) (a0_3 : Int) (a0_4 : Int) (a0_5 : Int) (a0_6 : Int) (a0_7 : ByteArray) : Option (Int × Int × Bool) := if a0_4 = 17 then (if (Int.tmod a0_2 8192) = 0 then (vizardref03_Ports.j0 k (decide ((a0_7.size : Int) < 4)) a0_0 a0_1 a0_2 a0_3 a0_4 a0_5 a0_6 a0_7) else (vizardref03_Ports.j0 k true a0_0 a0_1 a0_2 a0_3 a0_4 a0_5 a0_6 a0_7)) else (if a0_4 = 6 then (if (Int.tmod a0_2 8192) = 0 then (vizardref03_Ports.j0 k (decide ((a0_7.size : Int) < 4)) a0_0 a0_1 a0_2 a0_3 a0_4 a0_5 a0_6 a0_7) else (vizardref03_Ports.j0 k true a0_0 a0_1 a0_2 a0_3 a0_4 a0_5 a0_6 a0_7)) else (vizardref03_Ports.j0 k true a0_0 a0_1 a0_2 a0_3 a0_4 a0_5 a0_6 a0_7))
set_option maxHeartbeats 8000000 in
set_option maxRecDepth 100000 in
theorem vizardref03_Ports.calls (k : Nat) (a0_0 : Int) (a0_1 : Int) (a0_2 : Int) (a0_3 : Int) (a0_4 : Int) (a0_5 : Int) (a0_6 : Int) (a0_7 : ByteArray) (r1 : Int) (r2 : Int) (r3 : Bool) (w : World) (h : vizardref03_Ports.f k a0_0 a0_1 a0_2 a0_3 a0_4 a0_5 a0_6 a0_7 = some (r1, r2, r3)) :
    Calls Try.prog 43 #[.agg #[.int .i64 a0_0, .int .i64 a0_1, .int .i64 a0_2, .int .i64 a0_3, .int .i64 a0_4, .int .u32 a0_5, .int .u32 a0_6, .string a0_7]] w fun e w' => e = .returned (.tuple #[.int .i64 r1, .int .i64 r2, .bool r3]) ∧ Below w.heap.size w w' := by
  have hu58 := Try.underlying58
  have HB := Aside0.mk (Below.refl w.heap.size w)
  have H : (if a0_4 = 17 then (if (Int.tmod a0_2 8192) = 0 then (vizardref03_Ports.j0 k (decide ((a0_7.size : Int) < 4)) a0_0 a0_1 a0_2 a0_3 a0_4 a0_5 a0_6 a0_7) else (vizardref03_Ports.j0 k true a0_0 a0_1 a0_2 a0_3 a0_4 a0_5 a0_6 a0_7)) else (if a0_4 = 6 then (if (Int.tmod a0_2 8192) = 0 then (vizardref03_Ports.j0 k (decide ((a0_7.size : Int) < 4)) a0_0 a0_1 a0_2 a0_3 a0_4 a0_5 a0_6 a0_7) else (vizardref03_Ports.j0 k true a0_0 a0_1 a0_2 a0_3 a0_4 a0_5 a0_6 a0_7)) else (vizardref03_Ports.j0 k true a0_0 a0_1 a0_2 a0_3 a0_4 a0_5 a0_6 a0_7))) = some (r1, r2, r3) := h
  clear h
  have HC2 := Aside0.mk H
  clear H
  go_enter Try.func43, Try.ntmps43
  go_upto_region 1 with (first | ((with_reducible refine gate_dst (N := 1) rfl ?_); (try (refine gate_guard (by rfl) ?_; dsimp only)); refine box_event ?hg (N := 1) ?hd (cs := #[.int .i64 a0_0, .int .i64 a0_1, .int .i64 a0_2, .int .i64 a0_3, .int .i64 a0_4, .int .u32 a0_5, .int .u32 a0_6, .string a0_7]) (t := 58) ?hr ?_; (case hd => rfl); (case hg => rfl); (case hr => first | (go_simp; done) | (go_simp; rfl)); intro gb135 hg w3 hbox hb; have n0_ := Aside0.mk (below_step (by repeat (first | (with_reducible first | exact HB.out | apply below_alloc | apply pw_below_drewN | apply below_drew1) | exact HB.out)) hb); have n1_ := Aside0.mk (hbox); have n2_ := Aside0.mk ((by rw [hg]; exact (below_size (by repeat (first | (with_reducible first | exact HB.out | apply below_alloc | apply pw_below_drewN | apply below_drew1) | exact HB.out))) : w.heap.size ≤ gb135)); have n3_ := Aside0.mk ((by rw [hg]; exact (below_size (by repeat (first | (with_reducible first | exact HB.out | apply below_alloc | apply pw_below_drewN | apply below_drew1) | exact HB.out))) : w.heap.size ≤ gb135)); clear HB; have HB := n0_; have BK135 := n1_; have GW135 := n2_; have GE135 := n3_; clear n0_ n1_ n2_ n3_; clear hb hbox hg))
  repeat (go_quiet (first | ((with_reducible refine gate_dst (N := 1) rfl ?_); (try (refine gate_guard (by rfl) ?_; dsimp only)); refine box_event ?hg (N := 1) ?hd (cs := #[.int .i64 a0_0, .int .i64 a0_1, .int .i64 a0_2, .int .i64 a0_3, .int .i64 a0_4, .int .u32 a0_5, .int .u32 a0_6, .string a0_7]) (t := 58) ?hr ?_; (case hd => rfl); (case hg => rfl); (case hr => first | (go_simp; done) | (go_simp; rfl)); intro gb135 hg w3 hbox hb; have n0_ := Aside0.mk (below_step (by repeat (first | (with_reducible first | exact HB.out | apply below_alloc | apply pw_below_drewN | apply below_drew1) | exact HB.out)) hb); have n1_ := Aside0.mk (hbox); have n2_ := Aside0.mk ((by rw [hg]; exact (below_size (by repeat (first | (with_reducible first | exact HB.out | apply below_alloc | apply pw_below_drewN | apply below_drew1) | exact HB.out))) : w.heap.size ≤ gb135)); have n3_ := Aside0.mk ((by rw [hg]; exact (below_size (by repeat (first | (with_reducible first | exact HB.out | apply below_alloc | apply pw_below_drewN | apply below_drew1) | exact HB.out))) : w.heap.size ≤ gb135)); clear HB; have HB := n0_; have BK135 := n1_; have GW135 := n2_; have GE135 := n3_; clear n0_ n1_ n2_ n3_; clear hb hbox hg)); go_upto_region 1 with (first | ((with_reducible refine gate_dst (N := 1) rfl ?_); (try (refine gate_guard (by rfl) ?_; dsimp only)); refine box_event ?hg (N := 1) ?hd (cs := #[.int .i64 a0_0, .int .i64 a0_1, .int .i64 a0_2, .int .i64 a0_3, .int .i64 a0_4, .int .u32 a0_5, .int .u32 a0_6, .string a0_7]) (t := 58) ?hr ?_; (case hd => rfl); (case hg => rfl); (case hr => first | (go_simp; done) | (go_simp; rfl)); intro gb135 hg w3 hbox hb; have n0_ := Aside0.mk (below_step (by repeat (first | (with_reducible first | exact HB.out | apply below_alloc | apply pw_below_drewN | apply below_drew1) | exact HB.out)) hb); have n1_ := Aside0.mk (hbox); have n2_ := Aside0.mk ((by rw [hg]; exact (below_size (by repeat (first | (with_reducible first | exact HB.out | apply below_alloc | apply pw_below_drewN | apply below_drew1) | exact HB.out))) : w.heap.size ≤ gb135)); have n3_ := Aside0.mk ((by rw [hg]; exact (below_size (by repeat (first | (with_reducible first | exact HB.out | apply below_alloc | apply pw_below_drewN | apply below_drew1) | exact HB.out))) : w.heap.size ≤ gb135)); clear HB; have HB := n0_; have BK135 := n1_; have GW135 := n2_; have GE135 := n3_; clear n0_ n1_ n2_ n3_; clear hb hbox hg)))
  (try simp only [Act.put, List.setIfInBounds_toArray, List.set_cons_zero, List.set_cons_succ])
  go_cut [24] (fun v24 wc => ∃ (kq : Nat) (x24_1 : Bool), v24 = .bool x24_1 ∧ Aside0 (vizardref03_Ports.j0 kq x24_1 a0_0 a0_1 a0_2 a0_3 a0_4 a0_5 a0_6 a0_7 = some (r1, r2, r3)) ∧ Aside0 (kq ≤ k) ∧ Aside0 (wc.heap[gb135]? = some (.cells #[.int .i64 a0_0, .int .i64 a0_1, .int .i64 a0_2, .int .i64 a0_3, .int .i64 a0_4, .int .u32 a0_5, .int .u32 a0_6, .string a0_7] 58 (0, 0))) ∧ Aside0 (Below w.heap.size w wc))
  case first =>
    have H := HC2.out
    clear HC2
    by_cases c4 : a0_4 = 17
    · rw [if_pos c4] at H
      have c4b0 : (a0_4 == 17) = true := beq_iff_eq.mpr c4
      have c4b1 : (a0_4 != 17) = false := bne_eq_false_iff_eq.mpr c4
      clear c4
      (first | rw [c4b0] | (simp only [i64_w, i32_w]; rw [c4b0]) | skip)
      by_cases c5 : (Int.tmod a0_2 8192) = 0
      · rw [if_pos c5] at H
        have c5b0 : ((Int.tmod a0_2 8192) == 0) = true := beq_iff_eq.mpr c5
        have c5b1 : ((Int.tmod a0_2 8192) != 0) = false := bne_eq_false_iff_eq.mpr c5
        clear c5
        have H' := Aside0.mk H
        clear H
        have hcz6_0 : w3.cell? ⟨gb135, 0, none⟩ = some (.int .i64 a0_0) := (blk_cell BK135.out 0).trans rfl
        have hcz6_1 : w3.cell? ⟨gb135, 1, none⟩ = some (.int .i64 a0_1) := (blk_cell BK135.out 1).trans rfl
        have hcz6_2 : w3.cell? ⟨gb135, 2, none⟩ = some (.int .i64 a0_2) := (blk_cell BK135.out 2).trans rfl
        have hcz6_3 : w3.cell? ⟨gb135, 3, none⟩ = some (.int .i64 a0_3) := (blk_cell BK135.out 3).trans rfl
        have hcz6_4 : w3.cell? ⟨gb135, 4, none⟩ = some (.int .i64 a0_4) := (blk_cell BK135.out 4).trans rfl
        have hcz6_5 : w3.cell? ⟨gb135, 5, none⟩ = some (.int .u32 a0_5) := (blk_cell BK135.out 5).trans rfl
        have hcz6_6 : w3.cell? ⟨gb135, 6, none⟩ = some (.int .u32 a0_6) := (blk_cell BK135.out 6).trans rfl
        have hcz6_7 : w3.cell? ⟨gb135, 7, none⟩ = some (.string a0_7) := (blk_cell BK135.out 7).trans rfl
        have hfz6_0 := blk_frozen BK135.out 0
        have hfz6_1 := blk_frozen BK135.out 1
        have hfz6_2 := blk_frozen BK135.out 2
        have hfz6_3 := blk_frozen BK135.out 3
        have hfz6_4 := blk_frozen BK135.out 4
        have hfz6_5 := blk_frozen BK135.out 5
        have hfz6_6 := blk_frozen BK135.out 6
        have hfz6_7 := blk_frozen BK135.out 7
        go_wp2
        repeat (go_quiet (fail); try go_wp2)
        go_meet
        case rel => exact ⟨_, (decide ((a0_7.size : Int) < 4)), (by first | rfl | (simp; done) | (simp [*]; done)), H', ⟨by first | omega | exact Nat.le_refl _⟩, ⟨by (with_reducible repeat (first | refine blk_drewN ?_ _ | refine blk_drew ?_ | refine blk_alloc ?_ _)); exact BK135.out⟩, ⟨by repeat (first | (with_reducible first | exact HB.out | apply below_alloc | apply pw_below_drewN | apply below_drew1 | refine below_set ?_ GE135.out) | exact HB.out)⟩⟩
      · rw [if_neg c5] at H
        have c5b0 : ((Int.tmod a0_2 8192) == 0) = false := beq_eq_false_iff_ne.mpr c5
        have c5b1 : ((Int.tmod a0_2 8192) != 0) = true := bne_iff_ne.mpr c5
        have H' := Aside0.mk H
        clear H
        have hcz7_0 : w3.cell? ⟨gb135, 0, none⟩ = some (.int .i64 a0_0) := (blk_cell BK135.out 0).trans rfl
        have hcz7_1 : w3.cell? ⟨gb135, 1, none⟩ = some (.int .i64 a0_1) := (blk_cell BK135.out 1).trans rfl
        have hcz7_2 : w3.cell? ⟨gb135, 2, none⟩ = some (.int .i64 a0_2) := (blk_cell BK135.out 2).trans rfl
        have hcz7_3 : w3.cell? ⟨gb135, 3, none⟩ = some (.int .i64 a0_3) := (blk_cell BK135.out 3).trans rfl
        have hcz7_4 : w3.cell? ⟨gb135, 4, none⟩ = some (.int .i64 a0_4) := (blk_cell BK135.out 4).trans rfl
        have hcz7_5 : w3.cell? ⟨gb135, 5, none⟩ = some (.int .u32 a0_5) := (blk_cell BK135.out 5).trans rfl
        have hcz7_6 : w3.cell? ⟨gb135, 6, none⟩ = some (.int .u32 a0_6) := (blk_cell BK135.out 6).trans rfl
        have hcz7_7 : w3.cell? ⟨gb135, 7, none⟩ = some (.string a0_7) := (blk_cell BK135.out 7).trans rfl
        have hfz7_0 := blk_frozen BK135.out 0
        have hfz7_1 := blk_frozen BK135.out 1
        have hfz7_2 := blk_frozen BK135.out 2
        have hfz7_3 := blk_frozen BK135.out 3
        have hfz7_4 := blk_frozen BK135.out 4
        have hfz7_5 := blk_frozen BK135.out 5
        have hfz7_6 := blk_frozen BK135.out 6
        have hfz7_7 := blk_frozen BK135.out 7
        go_wp2
        repeat (go_quiet (fail); try go_wp2)
        go_meet
        case rel => exact ⟨_, (true), (by first | rfl | (simp; done) | (simp [*]; done)), H', ⟨by first | omega | exact Nat.le_refl _⟩, ⟨by (with_reducible repeat (first | refine blk_drewN ?_ _ | refine blk_drew ?_ | refine blk_alloc ?_ _)); exact BK135.out⟩, ⟨by repeat (first | (with_reducible first | exact HB.out | apply below_alloc | apply pw_below_drewN | apply below_drew1 | refine below_set ?_ GE135.out) | exact HB.out)⟩⟩
    · rw [if_neg c4] at H
      have c4b0 : (a0_4 == 17) = false := beq_eq_false_iff_ne.mpr c4
      have c4b1 : (a0_4 != 17) = true := bne_iff_ne.mpr c4
      (first | rw [c4b0] | (simp only [i64_w, i32_w]; rw [c4b0]) | skip)
      by_cases c8 : a0_4 = 6
      · rw [if_pos c8] at H
        have c8b0 : (a0_4 == 6) = true := beq_iff_eq.mpr c8
        have c8b1 : (a0_4 != 6) = false := bne_eq_false_iff_eq.mpr c8
        clear c8
        by_cases c9 : (Int.tmod a0_2 8192) = 0
        · rw [if_pos c9] at H
          have c9b0 : ((Int.tmod a0_2 8192) == 0) = true := beq_iff_eq.mpr c9
          have c9b1 : ((Int.tmod a0_2 8192) != 0) = false := bne_eq_false_iff_eq.mpr c9
          clear c9
          have H' := Aside0.mk H
          clear H
          have hcz10_0 : w3.cell? ⟨gb135, 0, none⟩ = some (.int .i64 a0_0) := (blk_cell BK135.out 0).trans rfl
          have hcz10_1 : w3.cell? ⟨gb135, 1, none⟩ = some (.int .i64 a0_1) := (blk_cell BK135.out 1).trans rfl
          have hcz10_2 : w3.cell? ⟨gb135, 2, none⟩ = some (.int .i64 a0_2) := (blk_cell BK135.out 2).trans rfl
          have hcz10_3 : w3.cell? ⟨gb135, 3, none⟩ = some (.int .i64 a0_3) := (blk_cell BK135.out 3).trans rfl
          have hcz10_4 : w3.cell? ⟨gb135, 4, none⟩ = some (.int .i64 a0_4) := (blk_cell BK135.out 4).trans rfl
          have hcz10_5 : w3.cell? ⟨gb135, 5, none⟩ = some (.int .u32 a0_5) := (blk_cell BK135.out 5).trans rfl
          have hcz10_6 : w3.cell? ⟨gb135, 6, none⟩ = some (.int .u32 a0_6) := (blk_cell BK135.out 6).trans rfl
          have hcz10_7 : w3.cell? ⟨gb135, 7, none⟩ = some (.string a0_7) := (blk_cell BK135.out 7).trans rfl
          have hfz10_0 := blk_frozen BK135.out 0
          have hfz10_1 := blk_frozen BK135.out 1
          have hfz10_2 := blk_frozen BK135.out 2
          have hfz10_3 := blk_frozen BK135.out 3
          have hfz10_4 := blk_frozen BK135.out 4
          have hfz10_5 := blk_frozen BK135.out 5
          have hfz10_6 := blk_frozen BK135.out 6
          have hfz10_7 := blk_frozen BK135.out 7
          go_wp2
          repeat (go_quiet (fail); try go_wp2)
          go_meet
          case rel => exact ⟨_, (decide ((a0_7.size : Int) < 4)), (by first | rfl | (simp; done) | (simp [*]; done)), H', ⟨by first | omega | exact Nat.le_refl _⟩, ⟨by (with_reducible repeat (first | refine blk_drewN ?_ _ | refine blk_drew ?_ | refine blk_alloc ?_ _)); exact BK135.out⟩, ⟨by repeat (first | (with_reducible first | exact HB.out | apply below_alloc | apply pw_below_drewN | apply below_drew1 | refine below_set ?_ GE135.out) | exact HB.out)⟩⟩
        · rw [if_neg c9] at H
          have c9b0 : ((Int.tmod a0_2 8192) == 0) = false := beq_eq_false_iff_ne.mpr c9
          have c9b1 : ((Int.tmod a0_2 8192) != 0) = true := bne_iff_ne.mpr c9
          have H' := Aside0.mk H
          clear H
          have hcz11_0 : w3.cell? ⟨gb135, 0, none⟩ = some (.int .i64 a0_0) := (blk_cell BK135.out 0).trans rfl
          have hcz11_1 : w3.cell? ⟨gb135, 1, none⟩ = some (.int .i64 a0_1) := (blk_cell BK135.out 1).trans rfl
          have hcz11_2 : w3.cell? ⟨gb135, 2, none⟩ = some (.int .i64 a0_2) := (blk_cell BK135.out 2).trans rfl
          have hcz11_3 : w3.cell? ⟨gb135, 3, none⟩ = some (.int .i64 a0_3) := (blk_cell BK135.out 3).trans rfl
          have hcz11_4 : w3.cell? ⟨gb135, 4, none⟩ = some (.int .i64 a0_4) := (blk_cell BK135.out 4).trans rfl
          have hcz11_5 : w3.cell? ⟨gb135, 5, none⟩ = some (.int .u32 a0_5) := (blk_cell BK135.out 5).trans rfl
          have hcz11_6 : w3.cell? ⟨gb135, 6, none⟩ = some (.int .u32 a0_6) := (blk_cell BK135.out 6).trans rfl
          have hcz11_7 : w3.cell? ⟨gb135, 7, none⟩ = some (.string a0_7) := (blk_cell BK135.out 7).trans rfl
          have hfz11_0 := blk_frozen BK135.out 0
          have hfz11_1 := blk_frozen BK135.out 1
          have hfz11_2 := blk_frozen BK135.out 2
          have hfz11_3 := blk_frozen BK135.out 3
          have hfz11_4 := blk_frozen BK135.out 4
          have hfz11_5 := blk_frozen BK135.out 5
          have hfz11_6 := blk_frozen BK135.out 6
          have hfz11_7 := blk_frozen BK135.out 7
          go_wp2
          repeat (go_quiet (fail); try go_wp2)
          go_meet
          case rel => exact ⟨_, (true), (by first | rfl | (simp; done) | (simp [*]; done)), H', ⟨by first | omega | exact Nat.le_refl _⟩, ⟨by (with_reducible repeat (first | refine blk_drewN ?_ _ | refine blk_drew ?_ | refine blk_alloc ?_ _)); exact BK135.out⟩, ⟨by repeat (first | (with_reducible first | exact HB.out | apply below_alloc | apply pw_below_drewN | apply below_drew1 | refine below_set ?_ GE135.out) | exact HB.out)⟩⟩
      · rw [if_neg c8] at H
        have c8b0 : (a0_4 == 6) = false := beq_eq_false_iff_ne.mpr c8
        have c8b1 : (a0_4 != 6) = true := bne_iff_ne.mpr c8
        have H' := Aside0.mk H
        clear H
        have hcz12_0 : w3.cell? ⟨gb135, 0, none⟩ = some (.int .i64 a0_0) := (blk_cell BK135.out 0).trans rfl
        have hcz12_1 : w3.cell? ⟨gb135, 1, none⟩ = some (.int .i64 a0_1) := (blk_cell BK135.out 1).trans rfl
        have hcz12_2 : w3.cell? ⟨gb135, 2, none⟩ = some (.int .i64 a0_2) := (blk_cell BK135.out 2).trans rfl
        have hcz12_3 : w3.cell? ⟨gb135, 3, none⟩ = some (.int .i64 a0_3) := (blk_cell BK135.out 3).trans rfl
        have hcz12_4 : w3.cell? ⟨gb135, 4, none⟩ = some (.int .i64 a0_4) := (blk_cell BK135.out 4).trans rfl
        have hcz12_5 : w3.cell? ⟨gb135, 5, none⟩ = some (.int .u32 a0_5) := (blk_cell BK135.out 5).trans rfl
        have hcz12_6 : w3.cell? ⟨gb135, 6, none⟩ = some (.int .u32 a0_6) := (blk_cell BK135.out 6).trans rfl
        have hcz12_7 : w3.cell? ⟨gb135, 7, none⟩ = some (.string a0_7) := (blk_cell BK135.out 7).trans rfl
        have hfz12_0 := blk_frozen BK135.out 0
        have hfz12_1 := blk_frozen BK135.out 1
        have hfz12_2 := blk_frozen BK135.out 2
        have hfz12_3 := blk_frozen BK135.out 3
        have hfz12_4 := blk_frozen BK135.out 4
        have hfz12_5 := blk_frozen BK135.out 5
        have hfz12_6 := blk_frozen BK135.out 6
        have hfz12_7 := blk_frozen BK135.out 7
        go_wp2
        repeat (go_quiet (fail); try go_wp2)
        go_meet
        case rel => exact ⟨_, (true), (by first | rfl | (simp; done) | (simp [*]; done)), H', ⟨by first | omega | exact Nat.le_refl _⟩, ⟨by (with_reducible repeat (first | refine blk_drewN ?_ _ | refine blk_drew ?_ | refine blk_alloc ?_ _)); exact BK135.out⟩, ⟨by repeat (first | (with_reducible first | exact HB.out | apply below_alloc | apply pw_below_drewN | apply below_drew1 | refine below_set ?_ GE135.out) | exact HB.out)⟩⟩
  case rest =>
    clear HC2
    try clear p2
    try clear c4
    try clear c4b0
    try clear c4b1
    try clear c5
    try clear c5b0
    try clear c5b1
    try clear c8
    try clear c8b0
    try clear c8b1
    try clear c9
    try clear c9b0
    try clear c9b1
    try clear hcz10_0
    try clear hcz10_1
    try clear hcz10_2
    try clear hcz10_3
    try clear hcz10_4
    try clear hcz10_5
    try clear hcz10_6
    try clear hcz10_7
    try clear hcz11_0
    try clear hcz11_1
    try clear hcz11_2
    try clear hcz11_3
    try clear hcz11_4
    try clear hcz11_5
    try clear hcz11_6
    try clear hcz11_7
    try clear hcz12_0
    try clear hcz12_1
    try clear hcz12_2
    try clear hcz12_3
    try clear hcz12_4
    try clear hcz12_5
    try clear hcz12_6
    try clear hcz12_7
    try clear hcz6_0
    try clear hcz6_1
    try clear hcz6_2
    try clear hcz6_3
    try clear hcz6_4
    try clear hcz6_5
    try clear hcz6_6
    try clear hcz6_7
    try clear hcz7_0
    try clear hcz7_1
    try clear hcz7_2
    try clear hcz7_3
    try clear hcz7_4
    try clear hcz7_5
    try clear hcz7_6
    try clear hcz7_7
    try clear hfz10_0
    try clear hfz10_1
    try clear hfz10_2
    try clear hfz10_3
    try clear hfz10_4
    try clear hfz10_5
    try clear hfz10_6
    try clear hfz10_7
    try clear hfz11_0
    try clear hfz11_1
    try clear hfz11_2
    try clear hfz11_3
    try clear hfz11_4
    try clear hfz11_5
    try clear hfz11_6
    try clear hfz11_7
    try clear hfz12_0
    try clear hfz12_1
    try clear hfz12_2
    try clear hfz12_3
    try clear hfz12_4
    try clear hfz12_5
    try clear hfz12_6
    try clear hfz12_7
    try clear hfz6_0
    try clear hfz6_1
    try clear hfz6_2
    try clear hfz6_3
    try clear hfz6_4
    try clear hfz6_5
    try clear hfz6_6
    try clear hfz6_7
    try clear hfz7_0
    try clear hfz7_1
    try clear hfz7_2
    try clear hfz7_3
    try clear hfz7_4
    try clear hfz7_5
    try clear hfz7_6
    try clear hfz7_7
    obtain ⟨kq, x24_1, rfl, HA, HJ1, BK135, HB⟩ := hcut
    cases kq with
    | zero => exact absurd HA.out (by simp [vizardref03_Ports.j0])
    | succ kj1 =>
      have H := HA.out
      clear HA
      simp only [vizardref03_Ports.j0] at H
      by_cases c13 : x24_1 = true
      · subst c13
        have H1 : (some (0, 0, false)) = some (r1, r2, r3) := by rw [if_pos rfl] at H; exact H
        clear H
        have H := H1
        clear H1
        simp only [Option.some.injEq, Prod.mk.injEq] at H
        obtain ⟨rfl, rfl, rfl⟩ := H
        go_wp2
        repeat (go_quiet (fail); try go_wp2)
        go_ret3
        exact ⟨by first | rfl | (simp [errW_none, errW_some] <;> rfl) | (simp [*, errW_none, errW_some] <;> rfl), by repeat (first | (with_reducible first | exact HB.out | apply below_alloc | apply pw_below_drewN | apply below_drew1 | refine below_set ?_ GE135.out) | exact HB.out)⟩
      · replace c13 := Bool.eq_false_iff.mpr c13
        subst c13
        have H1 : (if 0 ≤ 2 then (if 2 ≤ (a0_7.size : Int) then ((vizardref01_Number.f kj1 (a0_7.extract 0 2)).bind fun t136 => (if 2 ≤ 4 then (if 4 ≤ (a0_7.size : Int) then ((vizardref01_Number.f kj1 (a0_7.extract 2 4)).bind fun t137 => (some (t136, t137, true))) else (none)) else (none))) else (none)) else (none)) = some (r1, r2, r3) := by rw [if_neg (show ¬ (false = true) by decide)] at H; exact H
        clear H
        have H := H1
        clear H1
        by_cases c14 : 0 ≤ 2
        · rw [if_pos c14] at H
          have c14b0 := eq_true c14
          have c14b1 : decide (0 ≤ 2) = true := decide_eq_true c14
          clear c14
          by_cases c15 : 2 ≤ (a0_7.size : Int)
          · rw [if_pos c15] at H
            have c15b0 := eq_true c15
            have c15b1 : decide (2 ≤ (a0_7.size : Int)) = true := decide_eq_true c15
            clear c15
            replace H := Option.bind_eq_some_iff.mp H
            obtain ⟨t136, A160, H⟩ := H
            replace H : (if 2 ≤ 4 then (if 4 ≤ (a0_7.size : Int) then ((vizardref01_Number.f kj1 (a0_7.extract 2 4)).bind fun t137 => (some (t136, t137, true))) else (none)) else (none)) = some (r1, r2, r3) := H
            have A16 := Aside0.mk A160
            clear A160
            by_cases c17 : 2 ≤ 4
            · rw [if_pos c17] at H
              have c17b0 := eq_true c17
              have c17b1 : decide (2 ≤ 4) = true := decide_eq_true c17
              clear c17
              by_cases c18 : 4 ≤ (a0_7.size : Int)
              · rw [if_pos c18] at H
                have c18b0 := eq_true c18
                have c18b1 : decide (4 ≤ (a0_7.size : Int)) = true := decide_eq_true c18
                clear c18
                replace H := Option.bind_eq_some_iff.mp H
                obtain ⟨t137, A190, H⟩ := H
                replace H : (some (t136, t137, true)) = some (r1, r2, r3) := H
                have A19 := Aside0.mk A190
                clear A190
                simp only [Option.some.injEq, Prod.mk.injEq] at H
                obtain ⟨rfl, rfl, rfl⟩ := H
                have hcz20_0 : wc.cell? ⟨gb135, 0, none⟩ = some (.int .i64 a0_0) := (blk_cell BK135.out 0).trans rfl
                have hcz20_1 : wc.cell? ⟨gb135, 1, none⟩ = some (.int .i64 a0_1) := (blk_cell BK135.out 1).trans rfl
                have hcz20_2 : wc.cell? ⟨gb135, 2, none⟩ = some (.int .i64 a0_2) := (blk_cell BK135.out 2).trans rfl
                have hcz20_3 : wc.cell? ⟨gb135, 3, none⟩ = some (.int .i64 a0_3) := (blk_cell BK135.out 3).trans rfl
                have hcz20_4 : wc.cell? ⟨gb135, 4, none⟩ = some (.int .i64 a0_4) := (blk_cell BK135.out 4).trans rfl
                have hcz20_5 : wc.cell? ⟨gb135, 5, none⟩ = some (.int .u32 a0_5) := (blk_cell BK135.out 5).trans rfl
                have hcz20_6 : wc.cell? ⟨gb135, 6, none⟩ = some (.int .u32 a0_6) := (blk_cell BK135.out 6).trans rfl
                have hcz20_7 : wc.cell? ⟨gb135, 7, none⟩ = some (.string a0_7) := (blk_cell BK135.out 7).trans rfl
                have hfz20_0 := blk_frozen BK135.out 0
                have hfz20_1 := blk_frozen BK135.out 1
                have hfz20_2 := blk_frozen BK135.out 2
                have hfz20_3 := blk_frozen BK135.out 3
                have hfz20_4 := blk_frozen BK135.out 4
                have hfz20_5 := blk_frozen BK135.out 5
                have hfz20_6 := blk_frozen BK135.out 6
                have hfz20_7 := blk_frozen BK135.out 7
                go_wp2_with (first | (go_at_call 41; (with_reducible refine (vizardref01_Number.calls kj1 (a0_7.extract 0 2) t136 _ A16.out).mono ?_); rintro e w' ⟨rfl, ⟨nd, rfl⟩⟩; (try first | exact ⟨rfl, _, World.drewN_drewN _ _ _⟩ | exact ⟨rfl, _, Eq.trans (World.drewN_drewN _ _ _) (congrArg (World.drewN _) (Nat.add_assoc _ _ _))⟩)) | (go_at_call 41; (with_reducible refine (vizardref01_Number.calls kj1 (a0_7.extract 2 4) t137 _ A19.out).mono ?_); rintro e w' ⟨rfl, ⟨nd, rfl⟩⟩; (try first | exact ⟨rfl, _, World.drewN_drewN _ _ _⟩ | exact ⟨rfl, _, Eq.trans (World.drewN_drewN _ _ _) (congrArg (World.drewN _) (Nat.add_assoc _ _ _))⟩)))
                repeat (go_quiet (first | (go_at_call 41; (with_reducible refine (vizardref01_Number.calls kj1 (a0_7.extract 0 2) t136 _ A16.out).mono ?_); rintro e w' ⟨rfl, ⟨nd, rfl⟩⟩; (try first | exact ⟨rfl, _, World.drewN_drewN _ _ _⟩ | exact ⟨rfl, _, Eq.trans (World.drewN_drewN _ _ _) (congrArg (World.drewN _) (Nat.add_assoc _ _ _))⟩)) | (go_at_call 41; (with_reducible refine (vizardref01_Number.calls kj1 (a0_7.extract 2 4) t137 _ A19.out).mono ?_); rintro e w' ⟨rfl, ⟨nd, rfl⟩⟩; (try first | exact ⟨rfl, _, World.drewN_drewN _ _ _⟩ | exact ⟨rfl, _, Eq.trans (World.drewN_drewN _ _ _) (congrArg (World.drewN _) (Nat.add_assoc _ _ _))⟩))); try go_wp2_with (first | (go_at_call 41; (with_reducible refine (vizardref01_Number.calls kj1 (a0_7.extract 0 2) t136 _ A16.out).mono ?_); rintro e w' ⟨rfl, ⟨nd, rfl⟩⟩; (try first | exact ⟨rfl, _, World.drewN_drewN _ _ _⟩ | exact ⟨rfl, _, Eq.trans (World.drewN_drewN _ _ _) (congrArg (World.drewN _) (Nat.add_assoc _ _ _))⟩)) | (go_at_call 41; (with_reducible refine (vizardref01_Number.calls kj1 (a0_7.extract 2 4) t137 _ A19.out).mono ?_); rintro e w' ⟨rfl, ⟨nd, rfl⟩⟩; (try first | exact ⟨rfl, _, World.drewN_drewN _ _ _⟩ | exact ⟨rfl, _, Eq.trans (World.drewN_drewN _ _ _) (congrArg (World.drewN _) (Nat.add_assoc _ _ _))⟩))))
                go_ret3
                exact ⟨by first | rfl | (simp [errW_none, errW_some] <;> rfl) | (simp [*, errW_none, errW_some] <;> rfl), by repeat (first | (with_reducible first | exact HB.out | apply below_alloc | apply pw_below_drewN | apply below_drew1 | refine below_set ?_ GE135.out) | exact HB.out)⟩
              · rw [if_neg c18] at H
                exact absurd H (by simp)
            · rw [if_neg c17] at H
              exact absurd H (by simp)
          · rw [if_neg c15] at H
            exact absurd H (by simp)
        · rw [if_neg c14] at H
          exact absurd H (by simp)
def vizardref22_Port.f (k : Nat) (a0_0 : Int) (a0_1 : Int) (a0_2 : Int) (a0_3 : Int) (a0_4 : Int) (a0_5 : Int) (a0_6 : Int) (a0_7 : ByteArray) : Option (Int) := (vizardref03_Ports.f k a0_0 a0_1 a0_2 a0_3 a0_4 a0_5 a0_6 a0_7).bind fun bt139 => (some bt139.2.1)
set_option maxHeartbeats 8000000 in
set_option maxRecDepth 100000 in
theorem vizardref22_Port.calls (k : Nat) (a0_0 : Int) (a0_1 : Int) (a0_2 : Int) (a0_3 : Int) (a0_4 : Int) (a0_5 : Int) (a0_6 : Int) (a0_7 : ByteArray) (r : Int) (w : World) (h : vizardref22_Port.f k a0_0 a0_1 a0_2 a0_3 a0_4 a0_5 a0_6 a0_7 = some r) :
    Calls Try.prog 26 #[.agg #[.int .i64 a0_0, .int .i64 a0_1, .int .i64 a0_2, .int .i64 a0_3, .int .i64 a0_4, .int .u32 a0_5, .int .u32 a0_6, .string a0_7]] w fun e w' => e = .returned (.int .i64 r) ∧ Below w.heap.size w w' := by
  have hu58 := Try.underlying58
  have HB := Aside0.mk (Below.refl w.heap.size w)
  have H : ((vizardref03_Ports.f k a0_0 a0_1 a0_2 a0_3 a0_4 a0_5 a0_6 a0_7).bind fun bt139 => (some bt139.2.1)) = some r := h
  clear h
  replace H := Option.bind_eq_some_iff.mp H
  obtain ⟨⟨t139, t140, t141⟩, A20, H⟩ := H
  replace H : (some t140) = some r := H
  have A2 := Aside0.mk A20
  clear A20
  obtain rfl := Option.some.inj H
  go_enter Try.func26, Try.ntmps26
  go_wp2_with (first | ((with_reducible refine gate_dst (N := 1) rfl ?_); refine box_event ?hg (N := 1) ?hd (cs := #[.int .i64 a0_0, .int .i64 a0_1, .int .i64 a0_2, .int .i64 a0_3, .int .i64 a0_4, .int .u32 a0_5, .int .u32 a0_6, .string a0_7]) (t := 58) ?hr ?_; (case hd => rfl); (case hg => rfl); (case hr => first | (go_simp; done) | (go_simp; rfl)); intro gb138 hg w3 hbox hb; have n0_ := Aside0.mk (below_step (by repeat (first | (with_reducible first | exact HB.out | apply below_alloc | apply pw_below_drewN | apply below_drew1) | exact HB.out)) hb); have n1_ := Aside0.mk (hbox); have n2_ := Aside0.mk ((by rw [hg]; exact (below_size (by repeat (first | (with_reducible first | exact HB.out | apply below_alloc | apply pw_below_drewN | apply below_drew1) | exact HB.out))) : w.heap.size ≤ gb138)); have n3_ := Aside0.mk ((by rw [hg]; exact (below_size (by repeat (first | (with_reducible first | exact HB.out | apply below_alloc | apply pw_below_drewN | apply below_drew1) | exact HB.out))) : w.heap.size ≤ gb138)); clear HB; have HB := n0_; have BK138 := n1_; have GW138 := n2_; have GE138 := n3_; clear n0_ n1_ n2_ n3_; clear hb hbox hg; have hcz4_0 : w3.cell? ⟨gb138, 0, none⟩ = some (.int .i64 a0_0) := (blk_cell BK138.out 0).trans rfl; have hcz4_1 : w3.cell? ⟨gb138, 1, none⟩ = some (.int .i64 a0_1) := (blk_cell BK138.out 1).trans rfl; have hcz4_2 : w3.cell? ⟨gb138, 2, none⟩ = some (.int .i64 a0_2) := (blk_cell BK138.out 2).trans rfl; have hcz4_3 : w3.cell? ⟨gb138, 3, none⟩ = some (.int .i64 a0_3) := (blk_cell BK138.out 3).trans rfl; have hcz4_4 : w3.cell? ⟨gb138, 4, none⟩ = some (.int .i64 a0_4) := (blk_cell BK138.out 4).trans rfl; have hcz4_5 : w3.cell? ⟨gb138, 5, none⟩ = some (.int .u32 a0_5) := (blk_cell BK138.out 5).trans rfl; have hcz4_6 : w3.cell? ⟨gb138, 6, none⟩ = some (.int .u32 a0_6) := (blk_cell BK138.out 6).trans rfl; have hcz4_7 : w3.cell? ⟨gb138, 7, none⟩ = some (.string a0_7) := (blk_cell BK138.out 7).trans rfl; have hfz4_0 := blk_frozen BK138.out 0; have hfz4_1 := blk_frozen BK138.out 1; have hfz4_2 := blk_frozen BK138.out 2; have hfz4_3 := blk_frozen BK138.out 3; have hfz4_4 := blk_frozen BK138.out 4; have hfz4_5 := blk_frozen BK138.out 5; have hfz4_6 := blk_frozen BK138.out 6; have hfz4_7 := blk_frozen BK138.out 7) | ((with_reducible refine gate_callee (f := 43) rfl ?_); refine goesL_ (some 8) rfl rfl Try.func43 (by kernel_rfl) rfl #[.agg #[.int .i64 a0_0, .int .i64 a0_1, .int .i64 a0_2, .int .i64 a0_3, .int .i64 a0_4, .int .u32 a0_5, .int .u32 a0_6, .string a0_7]] rfl (by (try simp only [List.map_toArray, List.map_cons, List.map_nil]); first | done | rfl | (simp only [List.length_drop, List.length_take]; rfl)) ?_; (with_reducible refine (vizardref03_Ports.calls k a0_0 a0_1 a0_2 a0_3 a0_4 a0_5 a0_6 a0_7 t139 t140 t141 _ A2.out).mono ?_); rintro e w5 ⟨rfl, hb⟩; refine ⟨_, rfl, ?_⟩; have n0_ := Aside0.mk (blk_below (g := gb138) (o := .cells #[.int .i64 a0_0, .int .i64 a0_1, .int .i64 a0_2, .int .i64 a0_3, .int .i64 a0_4, .int .u32 a0_5, .int .u32 a0_6, .string a0_7] 58 (0, 0)) (by (with_reducible repeat (first | refine blk_drewN ?_ _ | refine blk_drew ?_ | refine blk_alloc ?_ _)); exact BK138.out) hb); have n1_ := Aside0.mk (below_step (by repeat (first | (with_reducible first | exact HB.out | apply below_alloc | apply pw_below_drewN | apply below_drew1 | refine below_set ?_ GE138.out) | exact HB.out)) hb); clear BK138; clear HB; have BK138 := n0_; have HB := n1_; clear n0_ n1_; (try clear hb); (try clear hb2); (try clear hk); (try clear hi)))
  go_ret
  exact ⟨by first | rfl | (simp [errW_none, errW_some] <;> rfl) | (simp [*, errW_none, errW_some] <;> rfl), by repeat (first | (with_reducible first | exact HB.out | apply below_alloc | apply pw_below_drewN | apply below_drew1 | refine below_set ?_ GE138.out) | exact HB.out)⟩
def vizardref02_Hop.f (a0 : ByteArray) : Option (ByteArray × Int) := some (hopV a0)
end Go.Proofs.Ytcpneggifmldoaa.T
set_option linter.unusedVariables false
set_option linter.unusedSimpArgs false
namespace Go.Proofs.Ytcpneggifmldoaa.T
open Go.RowKit Go.Proofs.YtcpneggifmldoaaW.PrintWords Go.Proofs.YtcpneggifmldoaaW.PrintLast Go.Proofs.YtcpneggifmldoaaW.PrintMore Go
def portsV (a2 a4 : Int) (d : ByteArray) : Int × Int × Bool := if (a4 = 17 ∨ a4 = 6) ∧ a2 % 8192 = 0 ∧ 4 ≤ d.size then (n2 d 0, n2 d 2, true) else (0, 0, false)
theorem or_word {v b : Int} (v0 : 0 ≤ v) (v1 : v ≤ 255) (b0 : 0 ≤ b) (b1 : b ≤ 255) : Go.bits .or .i64 (wrap64 (wrap64 v * 256)) (wrap64 b) = v * 256 + b := by
  rw [show wrap64 v = v by unfold wrap64; omega, show wrap64 (v * 256) = v * 256 by unfold wrap64; omega, show wrap64 b = b by unfold wrap64; omega]
  have e8 : (2 : Int) ^ 8 = 256 := rfl
  have e63 : (2 : Int) ^ 63 = 9223372036854775808 := rfl
  exact bits_join .i64 63 (by decide) wraps_i64 8 (v * 256) b (by omega) (by omega) (by omega) b0 (by omega) (by omega)
theorem and_frag {n : Int} (h0 : 0 ≤ n) (h1 : n ≤ 65535) : Go.bits .and .i64 n 8191 = n % 8192 := by
  have := bits_mask .i64 63 (by decide) wraps_i64 13 (by decide) n h0 (by have : (2 : Int) ^ 63 = 9223372036854775808 := rfl; omega)
  simpa using this
theorem word_f (s : ByteArray) (h : 2 ≤ s.size) : udp_word.f s = some (n2 s 0) := by
  have b0 := bt_range s 0
  have b1 := bt_range s 1
  unfold udp_word.f n2
  rw [if_pos (by omega), if_pos (by omega), or_word b0.1 b0.2 b1.1 b1.2]
  rfl
theorem n2_extract (s : ByteArray) (a b : Nat) (hb : b ≤ s.size) (h : a + 2 ≤ b) : n2 (s.extract a b) 0 = n2 s a := by
  unfold n2
  have h0 := bt_extract s a b 0 hb (by omega)
  have h1 := bt_extract s a b 1 hb (by omega)
  rw [h0, show (((0 : Nat) + 1 : Nat) : Int) = ((1 : Nat) : Int) from rfl, h1]
  rfl
theorem ports_j {a0 a1 a2 a3 a4 a5 a6 : Int} {d : ByteArray} (k : Nat) (b : Bool) (hb : b = false → 4 ≤ d.size) : udp_Ports.j0 (k + 1) b a0 a1 a2 a3 a4 a5 a6 d = some (if b = true then (0, 0, false) else (n2 d 0, n2 d 2, true)) := by
  rw [udp_Ports.j0]
  cases b
  · have h4 := hb rfl
    rw [if_neg (by decide), if_neg (by decide), word_f d (by omega), Option.bind_some, if_pos (by omega), word_f _ (by rw [size_extract' d 2 d.size (Nat.le_refl _)]; omega), Option.bind_some, n2_extract d 2 d.size (Nat.le_refl _) (by omega)]
  · rw [if_pos rfl, if_pos rfl]
theorem ports_f (a0 a1 a2 a3 a4 a5 a6 : Int) (d : ByteArray) (h0 : 0 ≤ a2) (h1 : a2 ≤ 65535) (k : Nat) : udp_Ports.f (k + 1) a0 a1 a2 a3 a4 a5 a6 d = some (portsV a2 a4 d) := by
  unfold udp_Ports.f portsV
  rw [and_frag h0 h1]
  rcases Decidable.em (a4 = 17) with e | e
  · rw [if_pos e]
    rcases Decidable.em (a2 % 8192 = 0) with f | f
    · rw [if_pos f]
      rcases Decidable.em ((d.size : Int) < 4) with g | g
      · rw [decide_eq_true g, ports_j k _ (fun h => by cases h), if_pos rfl, if_neg (by omega)]
      · rw [decide_eq_false g, ports_j k _ (fun _ => by omega), if_neg (by decide), if_pos ⟨Or.inl e, f, by omega⟩]
    · rw [if_neg f, ports_j k _ (fun h => by cases h), if_pos rfl, if_neg (fun h => f h.2.1)]
  · rw [if_neg e]
    rcases Decidable.em (a4 = 6) with e' | e'
    · rw [if_pos e']
      rcases Decidable.em (a2 % 8192 = 0) with f | f
      · rw [if_pos f]
        rcases Decidable.em ((d.size : Int) < 4) with g | g
        · rw [decide_eq_true g, ports_j k _ (fun h => by cases h), if_pos rfl, if_neg (by omega)]
        · rw [decide_eq_false g, ports_j k _ (fun _ => by omega), if_neg (by decide), if_pos ⟨Or.inr e', f, by omega⟩]
      · rw [if_neg f, ports_j k _ (fun h => by cases h), if_pos rfl, if_neg (fun h => f h.2.1)]
    · rw [if_neg e', ports_j k _ (fun h => by cases h), if_pos rfl, if_neg (fun h => h.1.elim e e')]
theorem num_f (s : ByteArray) (a : Nat) (h : a + 2 ≤ s.size) (k : Nat) : vizardref01_Number.f (k + 3) (s.extract a (a + 2)) = some (n2 s a) := by
  have hz := size_extract' s a (a + 2) h
  have := number_l0 (s.extract a (a + 2)) (by omega) 2 0 0 k (by omega) (by omega) (by omega) (by simp)
  rw [← numV2 s a h]
  unfold vizardref01_Number.f numV
  rw [hz, show a + 2 - a = 2 by omega]
  exact this
theorem rports_j {a0 a1 a2 a3 a4 a5 a6 : Int} {d : ByteArray} (k : Nat) (b : Bool) (hb : b = false → 4 ≤ d.size) : vizardref03_Ports.j0 (k + 3 + 1) b a0 a1 a2 a3 a4 a5 a6 d = some (if b = true then (0, 0, false) else (n2 d 0, n2 d 2, true)) := by
  rw [vizardref03_Ports.j0]
  cases b
  · have h4 := hb rfl
    rw [if_neg (show ¬ (false = true) by decide), if_neg (show ¬ (false = true) by decide), if_pos (show (0 : Nat) ≤ 2 by decide), if_pos (by omega)]
    refine (congrArg (fun o => Option.bind o _) (num_f d 0 (by omega) k)).trans ?_
    rw [Option.bind_some, if_pos (show (2 : Nat) ≤ 4 by decide), if_pos (by omega)]
    refine (congrArg (fun o => Option.bind o _) (num_f d 2 (by omega) k)).trans ?_
    rw [Option.bind_some]
  · rw [if_pos rfl, if_pos rfl]
theorem rports_f (a0 a1 a2 a3 a4 a5 a6 : Int) (d : ByteArray) (h0 : 0 ≤ a2) (h1 : a2 ≤ 65535) (k : Nat) : vizardref03_Ports.f (k + 4) a0 a1 a2 a3 a4 a5 a6 d = some (portsV a2 a4 d) := by
  unfold vizardref03_Ports.f portsV
  rw [Int.tmod_eq_emod_of_nonneg h0]
  rcases Decidable.em (a4 = 17) with e | e
  · rw [if_pos e]
    rcases Decidable.em (a2 % 8192 = 0) with f | f
    · rw [if_pos f]
      rcases Decidable.em ((d.size : Int) < 4) with g | g
      · rw [decide_eq_true g, rports_j k _ (fun h => by cases h), if_pos rfl, if_neg (by omega)]
      · rw [decide_eq_false g, rports_j k _ (fun _ => by omega), if_neg (by decide), if_pos ⟨Or.inl e, f, by omega⟩]
    · rw [if_neg f, rports_j k _ (fun h => by cases h), if_pos rfl, if_neg (fun h => f h.2.1)]
  · rw [if_neg e]
    rcases Decidable.em (a4 = 6) with e' | e'
    · rw [if_pos e']
      rcases Decidable.em (a2 % 8192 = 0) with f | f
      · rw [if_pos f]
        rcases Decidable.em ((d.size : Int) < 4) with g | g
        · rw [decide_eq_true g, rports_j k _ (fun h => by cases h), if_pos rfl, if_neg (by omega)]
        · rw [decide_eq_false g, rports_j k _ (fun _ => by omega), if_neg (by decide), if_pos ⟨Or.inr e', f, by omega⟩]
      · rw [if_neg f, rports_j k _ (fun h => by cases h), if_pos rfl, if_neg (fun h => f h.2.1)]
    · rw [if_neg e', rports_j k _ (fun h => by cases h), if_pos rfl, if_neg (fun h => h.1.elim e e')]
theorem rport_f (a0 a1 a2 a3 a4 a5 a6 : Int) (d : ByteArray) (h0 : 0 ≤ a2) (h1 : a2 ≤ 65535) (k : Nat) : vizardref22_Port.f (k + 4) a0 a1 a2 a3 a4 a5 a6 d = some (portsV a2 a4 d).2.1 := by
  unfold vizardref22_Port.f
  rw [rports_f a0 a1 a2 a3 a4 a5 a6 d h0 h1 k, Option.bind_some]
end Go.Proofs.Ytcpneggifmldoaa.T
namespace Go.Proofs.Ytcpneggifmldoaa.T
open Go.RowKit Go.Proofs.YtcpneggifmldoaaW.PrintWords Go.Proofs.YtcpneggifmldoaaW.PrintLast Go.Proofs.YtcpneggifmldoaaW.PrintMore
def sz (b : Int) : Int := 2 ^ (32 - b).toNat
theorem sz_nat (n : Nat) (h : n ≤ 32) : sz (32 - n) = 2 ^ n := by
  unfold sz
  rw [show ((32 : Int) - (32 - n)).toNat = n by omega]
theorem bits_nat_of {b : Int} (h0 : 0 ≤ b) (h1 : b ≤ 32) : ∃ n : Nat, n ≤ 32 ∧ b = 32 - n := ⟨(32 - b).toNat, by omega, by omega⟩
theorem rest_nat : ∀ n : Nat, n ≤ 32 → prefix_rest.f (32 - n) = some (2 ^ n - 1) := by decide +kernel
theorem rest_f {b : Int} (h0 : 0 ≤ b) (h1 : b ≤ 32) : prefix_rest.f b = some (sz b - 1) := by
  obtain ⟨n, hn, rfl⟩ := bits_nat_of h0 h1
  rw [rest_nat n hn, sz_nat n hn]
theorem sz_pos (b : Int) : 0 < sz b := by unfold sz; exact Int.pow_pos (by decide)
theorem pow_dvd_32 (n : Nat) (h : n ≤ 32) : ∃ m : Int, 0 < m ∧ (2 : Int) ^ n * m = 4294967296 := by
  refine ⟨2 ^ (32 - n), Int.pow_pos (by decide), ?_⟩
  rw [← Int.pow_add, show n + (32 - n) = 32 by omega]
  rfl
theorem sz_dvd {b : Int} (h0 : 0 ≤ b) (h1 : b ≤ 32) : ∃ m : Int, 0 < m ∧ sz b * m = 4294967296 := by
  obtain ⟨n, hn, rfl⟩ := bits_nat_of h0 h1
  rw [sz_nat n hn]
  exact pow_dvd_32 n hn
theorem le_mul_one_le {a m : Int} (ha : 0 ≤ a) (hm : 1 ≤ m) : a ≤ a * m := by
  have := Int.mul_le_mul_of_nonneg_left hm ha
  omega
theorem sz_le {b : Int} (h0 : 0 ≤ b) (h1 : b ≤ 32) : sz b ≤ 4294967296 := by
  obtain ⟨m, hm, e⟩ := sz_dvd h0 h1
  have := sz_pos b
  rw [← e]
  exact le_mul_one_le (by omega) (by omega)
theorem and_sz {a b : Int} (ha : 0 ≤ a) (ha2 : a < 4294967296) (h0 : 0 ≤ b) (h1 : b ≤ 32) : Go.bits .and .u32 a (sz b - 1) = a % sz b := by
  obtain ⟨n, hn, rfl⟩ := bits_nat_of h0 h1
  rw [sz_nat n hn]
  exact bits_mask .u32 32 (by decide) wraps_u32 n hn a ha ha2
def okP (a b : Int) : Prop := 0 ≤ b ∧ b ≤ 32 ∧ a % sz b = 0
instance (a b : Int) : Decidable (okP a b) := inferInstanceAs (Decidable (_ ∧ _ ∧ _))
def hasP (a b x : Int) : Prop := okP a b ∧ a ≤ x ∧ x < a + sz b
instance (a b x : Int) : Decidable (hasP a b x) := inferInstanceAs (Decidable (_ ∧ _ ∧ _))
theorem check_f {a : Int} (ha : 0 ≤ a) (ha2 : a < 4294967296) (b : Int) : prefix_Check.f a b = some (decide (okP a b)) := by
  unfold prefix_Check.f okP
  by_cases h0 : 0 ≤ b
  · by_cases h1 : b ≤ 32
    · rw [if_pos h0, if_pos h1, rest_f h0 h1]
      simp only [Option.bind_some, and_sz ha ha2 h0 h1, h0, h1, true_and]
      rfl
    · rw [if_pos h0, if_neg h1]
      simp [h1]
  · rw [if_neg h0]
    simp [h0]
theorem andNot_sz {a b : Int} (ha : 0 ≤ a) (ha2 : a < 4294967296) (h0 : 0 ≤ b) (h1 : b ≤ 32) : Go.bits .andNot .u32 a (sz b - 1) = a - a % sz b := by
  obtain ⟨n, hn, rfl⟩ := bits_nat_of h0 h1
  rw [sz_nat n hn]
  obtain ⟨x, rfl⟩ := Int.eq_ofNat_of_zero_le ha
  have hx : x < 2 ^ 32 := by omega
  have hpos : 0 < 2 ^ n := Nat.two_pow_pos n
  have hc : ((2 : Int) ^ n - 1) = ((2 ^ n - 1 : Nat) : Int) := by
    rw [Int.natCast_sub hpos]; simp
  have key : (BitVec.ofNat 32 x &&& ~~~(BitVec.ofNat 32 (2 ^ n - 1))).toNat = 2 ^ n * (x / 2 ^ n) := by
    apply Nat.eq_of_testBit_eq
    intro i
    rw [BitVec.testBit_toNat, BitVec.getLsbD_and, BitVec.getLsbD_not, BitVec.getLsbD_ofNat, BitVec.getLsbD_ofNat, Nat.testBit_two_pow_sub_one, Nat.testBit_two_pow_mul, Nat.testBit_div_two_pow]
    by_cases hi : i < 32
    · by_cases hin : n ≤ i
      · have e : i - n + n = i := by omega
        simp [hi, hin, e]
      · simp [hi, hin]
        intro _
        omega
    · by_cases hin : n ≤ i
      · have e : i - n + n = i := by omega
        have : x.testBit i = false := Nat.testBit_lt_two_pow (Nat.lt_of_lt_of_le hx (Nat.pow_le_pow_right (by decide) (by omega)))
        simp [hi, hin, e, this]
      · simp [hi, hin]
  have hd := Nat.div_add_mod x (2 ^ n)
  show IntKind.u32.wrap _ = _
  rw [hc, BitVec.ofInt_natCast, BitVec.ofInt_natCast]
  show IntKind.u32.wrap ((BitVec.ofNat 32 x &&& ~~~(BitVec.ofNat 32 (2 ^ n - 1))).toNat : Int) = _
  rw [key, wraps_u32 _ (Int.natCast_nonneg _) (by exact_mod_cast (by omega : 2 ^ n * (x / 2 ^ n) < 2 ^ 32))]
  have : ((x : Int) % 2 ^ n) = ((x % 2 ^ n : Nat) : Int) := by simp
  rw [this]
  omega
theorem has_f {a x : Int} (ha : 0 ≤ a) (ha2 : a < 4294967296) (hx : 0 ≤ x) (hx2 : x < 4294967296) (b : Int) : prefix_Has.f a b x = some (decide (hasP a b x)) := by
  unfold prefix_Has.f
  rw [check_f ha ha2]
  simp only [Option.bind_some]
  by_cases h : okP a b
  · obtain ⟨h0, h1, hm⟩ := h
    rw [if_pos (decide_eq_true ⟨h0, h1, hm⟩), rest_f h0 h1]
    simp only [Option.bind_some, andNot_sz hx hx2 h0 h1, Option.some.injEq]
    have hp := sz_pos b
    have hmod := Int.emod_lt_of_pos x hp
    have hmod0 := Int.emod_nonneg x (Int.ne_of_gt hp)
    have hdx := Int.emod_add_mul_ediv x (sz b)
    have hda := Int.emod_add_mul_ediv a (sz b)
    rw [Bool.eq_iff_iff, beq_iff_eq, decide_eq_true_eq]
    constructor
    · intro e
      exact ⟨⟨h0, h1, hm⟩, by omega, by omega⟩
    · rintro ⟨_, e1, e2⟩
      have hq : x / sz b = a / sz b := by
        have e3 : a / sz b ≤ x / sz b := Int.ediv_le_ediv hp e1
        have e4 : x / sz b < a / sz b + 1 := Int.ediv_lt_of_lt_mul hp (by
          have : (a / sz b + 1) * sz b = sz b * (a / sz b) + sz b := by rw [Int.add_mul, Int.mul_comm]; omega
          omega)
        omega
      rw [hq] at hdx
      omega
  · rw [if_neg (by simp [h])]
    have : ¬ hasP a b x := fun e => h e.1
    simp [this]
theorem sum_lt {a b : Int} (ha : 0 ≤ a) (ha2 : a < 4294967296) (h : okP a b) : a + sz b ≤ 4294967296 := by
  obtain ⟨h0, h1, hm⟩ := h
  obtain ⟨m, hm0, e⟩ := sz_dvd h0 h1
  have hp := sz_pos b
  have hda := Int.emod_add_mul_ediv a (sz b)
  have hlt : a / sz b < m := Int.ediv_lt_of_lt_mul hp (by rw [Int.mul_comm]; omega)
  have : sz b * (a / sz b + 1) ≤ sz b * m := Int.mul_le_mul_of_nonneg_left (by omega) (by omega)
  rw [Int.mul_add] at this
  omega
end Go.Proofs.Ytcpneggifmldoaa.T

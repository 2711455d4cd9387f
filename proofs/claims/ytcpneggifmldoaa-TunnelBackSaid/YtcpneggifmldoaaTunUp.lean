/-
  vizard/tunnel's Up where a tunnel carries no packets of its own.
-/
import Derived.Test.YtcpneggifmldoaaTun
import Derived.Test.YtcpneggifmldoaaTx19
set_option linter.unusedVariables false
set_option linter.unusedSimpArgs false
namespace Go.Proofs.Ytcpneggifmldoaa.T
open Go.RowKit Go.Proofs.YtcpneggifmldoaaW.PrintWords Go.Proofs.YtcpneggifmldoaaW.PrintLast Go.Proofs.YtcpneggifmldoaaW.PrintMore Go
attribute [local go_sem high] eqA58
set_option maxRecDepth 100000 in
set_option maxHeartbeats 1000000 in
theorem up_yes (addr port own prt : Int) (A : Option Addr) (c : Nat) (l : List S40) (s : ByteArray) (w : World) (hr : Kd.C k40 w A l.length l) (hc : l.length ≤ c) (hs : s.size ≤ 1000) (k : Nat) (hO : tunnel_Tunnel_Open.f k false addr port own prt l = some 0) :
    Calls Try.prog 17 #[.agg #[.bool false, .int .u32 addr, .int .i64 port, .int .u32 own, .int .i64 prt, .slice A l.length c], .string s] w fun e w' => e = .returned (.tuple #[.agg #[.bool false, .int .i64 prt, .int .u32 addr, .int .i64 port, .string s], .int .i64 0]) ∧ Below w.heap.size w w' := by
  have hu47 := Try.underlying47
  have hu50 := Try.underlying50
  have d0 : decide (1000 < (s.size : Int)) = false := decide_eq_false (by omega)
  have d1 : decide (1000 < s.size) = false := decide_eq_false (by omega)
  clear hs
  have O : Hid (∀ W, Below w.heap.size w W → Calls Try.prog 21 #[.agg #[.bool false, .int .u32 addr, .int .i64 port, .int .u32 own, .int .i64 prt, .slice A l.length c]] W fun e w' => e = .returned (.int .i64 0) ∧ Below W.heap.size W w') := fun W hb => tunnel_Tunnel_Open.calls k false addr port own prt A c l 0 W (Kd.C_below hr hb) hc hO
  clear hr hc hO
  have Z0 : Hid _ := (((Below.refl _ w).alloc (Nat.le_refl _) (.cells #[.bool false, .int .u32 addr, .int .i64 port, .int .u32 own, .int .i64 prt, .slice A l.length c] 47)).alloc (by rw [World.size_alloc]; omega) (.cells #[.bool false, .int .i64 0, .int .u32 0, .int .i64 0, .string ⟨#[]⟩] 50))
  go_enter Try.func17, Try.ntmps17
  go_wp2_with (first
    | (go_at_call 21; (with_reducible refine (O.out _ Z0.out).mono ?_); rintro e w1 ⟨rfl, hb⟩; have A0 := blk_below (blk_alloc (blk_new w (.cells #[.bool false, .int .u32 addr, .int .i64 port, .int .u32 own, .int .i64 prt, .slice A l.length c] 47)) _) hb; have A1 : w1.heap[w.heap.size + 1]? = some (.cells #[.bool false, .int .i64 0, .int .u32 0, .int .i64 0, .string ⟨#[]⟩] 50 (0, 0)) := (by have := blk_below (blk_new _ _) hb; rw [World.size_alloc] at this; exact this); have k1 : w1.cell? ⟨w.heap.size, 1, none⟩ = some (.int .u32 addr) := (blk_cell A0 1).trans rfl; have k2 : w1.cell? ⟨w.heap.size, 2, none⟩ = some (.int .i64 port) := (blk_cell A0 2).trans rfl; have k4 : w1.cell? ⟨w.heap.size, 4, none⟩ = some (.int .i64 prt) := (blk_cell A0 4).trans rfl; have B1 : Hid _ := A1; have Z : Hid (Below w.heap.size w w1) := Z0.out.trans (hb.mono (Z0.out.size)); clear hb A0 A1)
    | (refine wpList_store_row rfl 50 _ _ rfl (w.heap.size + 1) #[.bool false, .int .i64 prt, .int .u32 addr, .int .i64 port, .string s] rfl rfl 50 _ B1.out (by kernel_rfl) rfl (by simp [Value.oneCell']) ?_))
  have f1 := setRow_heap w1 (w.heap.size + 1) _ #[.bool false, .int .i64 prt, .int .u32 addr, .int .i64 port, .string s] 50 (0, 0) B1.out
  refine bodyPost_ret (results_ct rfl _ _ (w.heap.size + 1) 50 #[.bool false, .int .i64 prt, .int .u32 addr, .int .i64 port, .string s] (0, 0) _ rfl f1 Try.underlying50 rfl (by kernel_rfl)) rfl ?_
  exact ⟨rfl, below_setRow Z.out (by omega) _⟩
end Go.Proofs.Ytcpneggifmldoaa.T

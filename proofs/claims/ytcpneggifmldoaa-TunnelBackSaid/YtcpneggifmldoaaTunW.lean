/-
  The tunnel that vizardlaw22 asks for works.
-/
import Derived.Test.YtcpneggifmldoaaTunUp
set_option linter.unusedVariables false
set_option linter.unusedSimpArgs false
namespace Go.Proofs.Ytcpneggifmldoaa.T
open Go.RowKit Go.Proofs.YtcpneggifmldoaaW.PrintWords Go.Proofs.YtcpneggifmldoaaW.PrintLast Go.Proofs.YtcpneggifmldoaaW.PrintMore Go
attribute [local go_sem high] eqA58
def allRule : S40 := ⟨true, 0, ⟨0, 0⟩, 0, 65535⟩
theorem rule_row (w : World) : Kd.C k40 (w.alloc (.cells #[.bool true, .int .i64 0, .int .u32 0, .int .i64 0, .int .i64 0, .int .i64 65535] 40)) (some ⟨w.heap.size, 0, none⟩) [allRule].length [allRule] := by
  refine ⟨rfl, by decide, fun _ => ⟨_, rfl, fun j p hj => ?_⟩⟩
  cases j with
  | zero =>
    obtain rfl := Option.some.inj hj
    refine ⟨_, rfl, k40_mk _ _, fun i u hu => ?_⟩
    have h := blk_cell (blk_new w (.cells #[.bool true, .int .i64 0, .int .u32 0, .int .i64 0, .int .i64 0, .int .i64 65535] 40)) i
    rw [show (⟨w.heap.size, 0, none⟩ : Addr).add (0 * k40.sz + i) = ⟨w.heap.size, i, none⟩ by simp [Addr.add]; exact Eq.symm, h, List.getElem?_toArray]
    exact hu
  | succ j => simp at hj
theorem open_all : tunnel_Tunnel_Open.f 10 false 167772162 53 0 40000 [allRule] = some 0 := by kernel_rfl
def oneV (w : World) : Value := .slice (some ⟨w.heap.size, 0, none⟩) 1 1
def tunV (w : World) : Array Value := #[.bool false, .int .u32 167772162, .int .i64 53, .int .u32 0, .int .i64 40000, .slice (some ⟨w.heap.size, 0, none⟩) 1 1]
set_option maxRecDepth 100000 in
set_option maxHeartbeats 1000000 in
theorem works_calls (w : World) : Calls Try.prog 23 #[] w fun e w' => e = .returned (.bool true) ∧ Below w.heap.size w w' := by
  have hu47 := Try.underlying47
  have hu50 := Try.underlying50
  have hu22 := Try.underlying22
  have U : Hid (∀ W, Below (w.heap.size + 1) (w.alloc (.cells #[.bool true, .int .i64 0, .int .u32 0, .int .i64 0, .int .i64 0, .int .i64 65535] 40)) W → Calls Try.prog 17 #[.agg #[.bool false, .int .u32 167772162, .int .i64 53, .int .u32 0, .int .i64 40000, .slice (some ⟨w.heap.size, 0, none⟩) 1 1], .string ⟨#[113]⟩] W fun e w' => e = .returned (.tuple #[.agg #[.bool false, .int .i64 40000, .int .u32 167772162, .int .i64 53, .string ⟨#[113]⟩], .int .i64 0]) ∧ Below W.heap.size W w') := fun W hb => up_yes 167772162 53 0 40000 _ 1 [allRule] ⟨#[113]⟩ W (Kd.C_below (rule_row w) (by rw [World.size_alloc]; exact hb)) (Nat.le_refl _) (by decide) 10 open_all
  have D : Hid (∀ W, Calls Try.prog 19 #[.agg #[.bool false, .int .u32 167772162, .int .i64 53, .int .u32 0, .int .i64 40000, .slice (some ⟨w.heap.size, 0, none⟩) 1 1], .int .u32 167772162, .int .i64 53, .string ⟨#[97]⟩] W fun e w' => e = .returned (.tuple #[.string ⟨#[97]⟩, .int .i64 0]) ∧ Below W.heap.size W w') := fun W => by
    have h := down_calls false 167772162 53 0 40000 (some ⟨w.heap.size, 0, none⟩) 1 1 167772162 53 ⟨#[97]⟩ W
    rw [show downV false 167772162 53 0 167772162 53 ⟨#[97]⟩ = (⟨#[97]⟩, 0) from by unfold downV; rw [if_neg (by decide), if_neg (by decide), if_pos (by decide)]] at h
    exact h
  have F : Hid (∀ W, Calls Try.prog 19 #[.agg #[.bool false, .int .u32 167772162, .int .i64 53, .int .u32 0, .int .i64 40000, .slice (some ⟨w.heap.size, 0, none⟩) 1 1], .int .u32 167772163, .int .i64 53, .string ⟨#[97]⟩] W fun e w' => e = .returned (.tuple #[.string ⟨#[]⟩, .int .i64 15]) ∧ Below W.heap.size W w') := fun W => by
    have h := down_calls false 167772162 53 0 40000 (some ⟨w.heap.size, 0, none⟩) 1 1 167772163 53 ⟨#[97]⟩ W
    rw [show downV false 167772162 53 0 167772163 53 ⟨#[97]⟩ = (⟨#[]⟩, 15) from by unfold downV; rw [if_neg (by decide), if_neg (by decide), if_neg (by decide)]] at h
    exact h
  go_enter Try.func23, Try.ntmps23
  go_wp2_with (first
    | (refine wpList_buildSlice rfl 22 40 1 _ rfl #[.bool true, .int .i64 0, .int .u32 0, .int .i64 0, .int .i64 0, .int .i64 65535] _ _ Try.underlying22 (by kernel_rfl) (by kernel_rfl) (by decide) (by decide) (by kernel_rfl) ?_)
    | (refine wpList_store_row rfl 47 _ _ rfl _ _ rfl rfl 47 _ (blk_new _ _) (by kernel_rfl) rfl (by simp [Value.oneCell']) ?_; rw [World.setRow_alloc_new])
    | (refine wpList_store_row rfl 50 _ _ rfl _ _ rfl rfl 50 _ (blk_new _ _) (by kernel_rfl) rfl (by simp [Value.oneCell']) ?_; rw [World.setRow_alloc_new])
    | (refine wpList_load_row rfl 50 _ rfl _ rfl 50 _ (0, 0) _ P4.out Try.underlying50 rfl (by kernel_rfl) ?_)
    | (refine wpList_load_row rfl 47 _ rfl _ rfl 47 _ (0, 0) _ T3.out Try.underlying47 rfl (by kernel_rfl) ?_)
    | (refine wpList_load_row rfl 47 _ rfl _ rfl 47 _ (0, 0) _ T2.out Try.underlying47 rfl (by kernel_rfl) ?_)
    | (go_at_call 17; (with_reducible refine (U.out _ ?_).mono ?_); exact ((Below.refl _ _).alloc (by rw [World.size_alloc]; omega) _); rintro e w1 ⟨rfl, hb⟩; have T1 : w1.heap[w.heap.size + 1]? = some (.cells #[.bool false, .int .u32 167772162, .int .i64 53, .int .u32 0, .int .i64 40000, .slice (some ⟨w.heap.size, 0, none⟩) 1 1] 47 (0, 0)) := (by have := blk_below (blk_new _ _) hb; rw [World.size_alloc] at this; exact this); have T2 : Hid _ := blk_alloc T1 (.cells #[.bool false, .int .i64 40000, .int .u32 167772162, .int .i64 53, .string ⟨#[113]⟩] 50); have Z1 : Hid (Below w.heap.size w w1) := ((Below.refl _ w).alloc (Nat.le_refl _) _).alloc (by rw [World.size_alloc]; omega) _ |>.trans (hb.mono (by rw [World.size_alloc, World.size_alloc]; omega)); clear hb T1)
    | (go_at_call 19; (with_reducible refine (D.out _).mono ?_); rintro e w2 ⟨rfl, hb⟩; have T3 : Hid _ := blk_below T2.out hb; have P3 : Hid _ := blk_below (blk_new w1 (.cells #[.bool false, .int .i64 40000, .int .u32 167772162, .int .i64 53, .string ⟨#[113]⟩] 50)) hb; have Z2 : Hid (Below w.heap.size w w2) := (Z1.out.alloc Z1.out.size _).trans (hb.mono (by rw [World.size_alloc]; have := Z1.out.size; omega)); clear hb)
    | (go_at_call 19; (with_reducible refine (F.out _).mono ?_); rintro e w3 ⟨rfl, hb⟩; have P4 : Hid _ := blk_below P3.out hb; have Z3 : Hid (Below w.heap.size w w3) := Z2.out.trans (hb.mono Z2.out.size); clear hb))
  go_ret
  exact ⟨rfl, Z3.out⟩
end Go.Proofs.Ytcpneggifmldoaa.T

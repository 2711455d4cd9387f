/-
  vizard/ipv4.Hop, walked: it tells hopV.
-/
import Derived.Test.YtcpneggifmldoaaIpB
import Derived.Test.YtcpneggifmldoaaIpL
set_option linter.unusedVariables false
set_option linter.unusedSimpArgs false
namespace Go.Proofs.Ytcpneggifmldoaa.T
open Go.RowKit Go.Proofs.YtcpneggifmldoaaW.PrintWords Go.Proofs.YtcpneggifmldoaaW.PrintLast Go.Proofs.YtcpneggifmldoaaW.PrintMore Go
set_option maxRecDepth 100000 in
set_option maxHeartbeats 1000000 in
theorem hop60_no (s : ByteArray) (w : World) (a0 a1 a2 a3 a4 a5 a6 u : Int) (d : ByteArray) (hp : parseV s = (a0, a1, a2, a3, a4, a5, a6, d, u)) (h0 : (u == 0) = false) (h1 : (u != 0) = true) :
    Calls Try.prog 60 #[.string s] w fun e w' => e = .returned (.tuple #[.string ⟨#[]⟩, .int .i64 u]) ∧ Below w.heap.size w w' := by
  have hu58 := Try.underlying58
  have K : Hid (∀ w, Calls Try.prog 38 #[.string s] w fun e w' => e = .returned (.tuple #[.agg #[.int .i64 a0, .int .i64 a1, .int .i64 a2, .int .i64 a3, .int .i64 a4, .int .u32 a5, .int .u32 a6, .string d], .int .i64 u]) ∧ Below w.heap.size w w') := fun w => by have := parse38_calls s w; rw [hp] at this; exact this
  clear hp
  go_enter Try.func60, Try.ntmps60
  go_wp2_with (first | (go_at_call 38; (with_reducible refine (K.out _).mono ?_); rintro e w1 ⟨rfl, hb⟩; have Z : Hid _ := hb; clear hb) | (refine wpList_store_row rfl 58 _ _ rfl _ _ rfl rfl 58 _ (blk_new _ _) (by kernel_rfl) rfl (by simp [Value.oneCell']) ?_; rw [World.setRow_alloc_new]))
  go_ret2
  exact ⟨rfl, ((Z.out).alloc Z.out.size _)⟩
set_option maxRecDepth 100000 in
set_option maxHeartbeats 1000000 in
theorem hop60_dead (s : ByteArray) (w : World) (a0 a1 a2 a3 a4 a5 a6 u : Int) (d : ByteArray) (hp : parseV s = (a0, a1, a2, a3, a4, a5, a6, d, u)) (h0 : (u == 0) = true) (h1 : (u != 0) = false) (ht : decide (a3 < 2) = true) :
    Calls Try.prog 60 #[.string s] w fun e w' => e = .returned (.tuple #[.string ⟨#[]⟩, .int .i64 2]) ∧ Below w.heap.size w w' := by
  have hu58 := Try.underlying58
  have K : Hid (∀ w, Calls Try.prog 38 #[.string s] w fun e w' => e = .returned (.tuple #[.agg #[.int .i64 a0, .int .i64 a1, .int .i64 a2, .int .i64 a3, .int .i64 a4, .int .u32 a5, .int .u32 a6, .string d], .int .i64 u]) ∧ Below w.heap.size w w') := fun w => by have := parse38_calls s w; rw [hp] at this; exact this
  clear hp
  go_enter Try.func60, Try.ntmps60
  go_wp2_with (first | (go_at_call 38; (with_reducible refine (K.out _).mono ?_); rintro e w1 ⟨rfl, hb⟩; have Z : Hid _ := hb; clear hb) | (refine wpList_store_row rfl 58 _ _ rfl _ _ rfl rfl 58 _ (blk_new _ _) (by kernel_rfl) rfl (by simp [Value.oneCell']) ?_; rw [World.setRow_alloc_new]))
  go_ret2
  exact ⟨rfl, ((Z.out).alloc Z.out.size _)⟩
set_option maxRecDepth 100000 in
set_option maxHeartbeats 1000000 in
theorem hop60_yes (s : ByteArray) (w : World) (a0 a1 a2 a3 a4 a5 a6 u : Int) (d : ByteArray) (hp : parseV s = (a0, a1, a2, a3, a4, a5, a6, d, u)) (h0 : (u == 0) = true) (h1 : (u != 0) = false) (ht : decide (a3 < 2) = false) (x : Int) (hx : wrap64 (a3 - 1) = x)
    (T : ByteArray) (c : Int) (hB : ∀ w, Calls Try.prog 78 #[.agg #[.int .i64 a0, .int .i64 a1, .int .i64 a2, .int .i64 x, .int .i64 a4, .int .u32 a5, .int .u32 a6, .string d]] w fun e w' => e = .returned (.tuple #[.string T, .int .i64 c]) ∧ Below w.heap.size w w') :
    Calls Try.prog 60 #[.string s] w fun e w' => e = .returned (.tuple #[.string T, .int .i64 c]) ∧ Below w.heap.size w w' := by
  have hu58 := Try.underlying58
  have K : Hid (∀ w, Calls Try.prog 38 #[.string s] w fun e w' => e = .returned (.tuple #[.agg #[.int .i64 a0, .int .i64 a1, .int .i64 a2, .int .i64 a3, .int .i64 a4, .int .u32 a5, .int .u32 a6, .string d], .int .i64 u]) ∧ Below w.heap.size w w') := fun w => by have := parse38_calls s w; rw [hp] at this; exact this
  have B : Hid _ := hB
  clear hp hB
  go_enter Try.func60, Try.ntmps60
  go_wp2_with (first | (go_at_call 38; (with_reducible refine (K.out _).mono ?_); rintro e w1 ⟨rfl, hb⟩; have Z : Hid _ := hb; clear hb) | (refine wpList_store_row rfl 58 _ _ rfl _ _ rfl rfl 58 _ (blk_new _ _) (by kernel_rfl) rfl (by simp [Value.oneCell']) ?_; rw [World.setRow_alloc_new]) | (go_at_call 78; (with_reducible refine (B.out _).mono ?_); rintro e w2 ⟨rfl, hb⟩; have Y : Hid _ := hb; clear hb))
  go_ret2
  exact ⟨rfl, (Z.out.alloc Z.out.size _).trans (Y.out.mono (by rw [World.size_alloc]; have := Z.out.size; omega))⟩
theorem hop60_calls (s : ByteArray) (w : World) : Calls Try.prog 60 #[.string s] w fun e w' => e = .returned (.tuple #[.string (hopV s).1, .int .i64 (hopV s).2]) ∧ Below w.heap.size w w' := by
  obtain ⟨a0, a1, a2, a3, a4, a5, a6, d, u, hp⟩ : ∃ a0 a1 a2 a3 a4 a5 a6 d u, parseV s = (a0, a1, a2, a3, a4, a5, a6, d, u) := ⟨_, _, _, _, _, _, _, _, _, rfl⟩
  unfold hopV
  rw [hp]
  simp only
  by_cases hu : u = 0
  · rw [if_pos hu]
    have h0 : (u == 0) = true := beq_iff_eq.2 hu
    have h1 : (u != 0) = false := by rw [bne, h0]; rfl
    by_cases ht : a3 < 2
    · rw [if_pos ht]
      exact hop60_dead s w _ _ _ _ _ _ _ _ _ hp h0 h1 (decide_eq_true ht)
    · rw [if_neg ht]
      rw [hu] at hp
      obtain ⟨ho, q5, q5', q6, q6', hd, -⟩ := parse_ok hp
      have ho' : okH a0 a1 a2 (a3 - 1) a4 := by unfold okH at *; omega
      refine hop60_yes s w _ _ _ _ _ _ _ 0 _ hp rfl rfl (decide_eq_false ht) (a3 - 1) (by unfold okH at ho; unfold wrap64; omega) _ 0 (fun w => ?_)
      have := build78_calls a0 a1 a2 (a3 - 1) a4 a5 a6 d w q5 q5' q6 q6'
      unfold buildV at this
      rw [if_pos ho', if_pos hd] at this
      exact this
  · rw [if_neg hu]
    have h0 : (u == 0) = false := beq_eq_false_iff_ne.2 hu
    exact hop60_no s w _ _ _ _ _ _ _ _ _ hp h0 (by rw [bne, h0]; rfl)
end Go.Proofs.Ytcpneggifmldoaa.T

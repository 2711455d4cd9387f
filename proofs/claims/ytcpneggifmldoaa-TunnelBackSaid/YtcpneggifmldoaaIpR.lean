/-
  The reference's header, Build and Parse, walked: they tell what the program's tell.
-/
import Derived.Test.YtcpneggifmldoaaSame
import Derived.Deep.RegionHeld3
import Derived.Deep.WholeRow
import Derived.Laws.CopyOwn
import Derived.WalkLawsBesides
import Derived.Outline
set_option linter.unusedVariables false
set_option linter.unusedSimpArgs false
namespace Go.Proofs.Ytcpneggifmldoaa.T
open Go.RowKit Go.Proofs.YtcpneggifmldoaaW.PrintWords Go.Proofs.YtcpneggifmldoaaW.PrintLast Go.Proofs.YtcpneggifmldoaaW.PrintMore Go
theorem b1_calls (n : Int) (h0 : 0 ≤ n) (h1 : n < 9223372036854775808) (w : World) : Calls Try.prog 79 #[.int .i64 n, .int .i64 1] w fun e w' => e = .returned (.string ⟨#[u8 n]⟩) ∧ Below w.heap.size w w' := vizardref02_b.calls 2 n 1 _ w (b1_f 0 n h0 h1)
theorem b2_calls (n : Int) (h0 : 0 ≤ n) (h1 : n < 9223372036854775808) (w : World) : Calls Try.prog 79 #[.int .i64 n, .int .i64 2] w fun e w' => e = .returned (.string ⟨#[u8 (n / 256), u8 n]⟩) ∧ Below w.heap.size w w' := vizardref02_b.calls 3 n 2 _ w (b2_f 0 n h0 h1)
theorem b4_calls (n : Int) (h0 : 0 ≤ n) (h1 : n < 9223372036854775808) (w : World) : Calls Try.prog 79 #[.int .i64 n, .int .i64 4] w fun e w' => e = .returned (.string ⟨#[u8 (n / 16777216), u8 (n / 65536), u8 (n / 256), u8 n]⟩) ∧ Below w.heap.size w w' := vizardref02_b.calls 5 n 4 _ w (b4_f 0 n h0 h1)
theorem box_block (w : World) (a : Array Value) (t : TypeId) : (w.alloc (.cells a t)).heap[w.heap.size]? = some (.cells a t (0, 0)) ∧ Below w.heap.size w (w.alloc (.cells a t)) := ⟨blk_new w _, (Below.refl _ w).alloc (Nat.le_refl _) _⟩
theorem cat_hdr (x : ByteArray) (s0 s1 s2 s3 s4 s5 s6 s7 s8 : ByteArray) (len a0 a1 a2 a3 a4 m a5 a6 : Int) (e0 : s0 = ⟨#[u8 a0]⟩) (e1 : s1 = ⟨#[u8 (len / 256), u8 len]⟩) (e2 : s2 = ⟨#[u8 (a1 / 256), u8 a1]⟩) (e3 : s3 = ⟨#[u8 (a2 / 256), u8 a2]⟩) (e4 : s4 = ⟨#[u8 a3]⟩) (e5 : s5 = ⟨#[u8 a4]⟩) (e6 : s6 = ⟨#[u8 (m / 256), u8 m]⟩)
    (e7 : s7 = ⟨#[u8 (a5 / 16777216), u8 (a5 / 65536), u8 (a5 / 256), u8 a5]⟩) (e8 : s8 = ⟨#[u8 (a6 / 16777216), u8 (a6 / 65536), u8 (a6 / 256), u8 a6]⟩) (hx : x = ⟨#[69]⟩ ++ s0 ++ s1 ++ s2 ++ s3 ++ s4 ++ s5 ++ s6 ++ s7 ++ s8) : x = hdrV len a0 a1 a2 a3 a4 m a5 a6 := by
  subst e0 e1 e2 e3 e4 e5 e6 e7 e8
  rw [hx]
  apply ByteArray.ext
  simp [hdrV, ByteArray.data_append]
set_option maxRecDepth 100000 in
set_option maxHeartbeats 20000000 in
theorem header64_calls (a0 a1 a2 a3 a4 a5 a6 : Int) (a7 : ByteArray) (m : Int) (w : World) (h : okH a0 a1 a2 a3 a4) (h5 : 0 ≤ a5) (h5' : a5 < 4294967296) (h6 : 0 ≤ a6) (h6' : a6 < 4294967296) (hs : a7.size ≤ 65515) (hm : 0 ≤ m) (hm' : m ≤ 65535) :
    Calls Try.prog 64 #[.agg #[.int .i64 a0, .int .i64 a1, .int .i64 a2, .int .i64 a3, .int .i64 a4, .int .u32 a5, .int .u32 a6, .string a7], .int .i64 m] w fun e w' => e = .returned (.string (hdrV (20 + a7.size) a0 a1 a2 a3 a4 m a5 a6)) ∧ Below w.heap.size w w' := by
  obtain ⟨⟨g0, g1⟩, ⟨g2, g3⟩, ⟨g4, g5⟩, ⟨g6, g7⟩, g8, g9⟩ := h
  have hu58 := Try.underlying58
  have wl : wrap64 (20 + (a7.size : Int)) = 20 + a7.size := by unfold wrap64; omega
  have wi : IntKind.i64.wrap (20 + (a7.size : Int)) = 20 + a7.size := by rw [IntKind.wrap_i64]; omega
  have v5 : wrap64 a5 = a5 := by unfold wrap64; omega
  have v6 : wrap64 a6 = a6 := by unfold wrap64; omega
  obtain ⟨s0, E0⟩ : ∃ s : ByteArray, s = ⟨#[u8 a0]⟩ := ⟨_, rfl⟩
  obtain ⟨s1, E1⟩ : ∃ s : ByteArray, s = ⟨#[u8 ((20 + (a7.size : Int)) / 256), u8 (20 + (a7.size : Int))]⟩ := ⟨_, rfl⟩
  obtain ⟨s2, E2⟩ : ∃ s : ByteArray, s = ⟨#[u8 (a1 / 256), u8 a1]⟩ := ⟨_, rfl⟩
  obtain ⟨s3, E3⟩ : ∃ s : ByteArray, s = ⟨#[u8 (a2 / 256), u8 a2]⟩ := ⟨_, rfl⟩
  obtain ⟨s4, E4⟩ : ∃ s : ByteArray, s = ⟨#[u8 a3]⟩ := ⟨_, rfl⟩
  obtain ⟨s5, E5⟩ : ∃ s : ByteArray, s = ⟨#[u8 a4]⟩ := ⟨_, rfl⟩
  obtain ⟨s6, E6⟩ : ∃ s : ByteArray, s = ⟨#[u8 (m / 256), u8 m]⟩ := ⟨_, rfl⟩
  obtain ⟨s7, E7⟩ : ∃ s : ByteArray, s = ⟨#[u8 (a5 / 16777216), u8 (a5 / 65536), u8 (a5 / 256), u8 a5]⟩ := ⟨_, rfl⟩
  obtain ⟨s8, E8⟩ : ∃ s : ByteArray, s = ⟨#[u8 (a6 / 16777216), u8 (a6 / 65536), u8 (a6 / 256), u8 a6]⟩ := ⟨_, rfl⟩
  have z0 : s0.size = 1 := by rw [E0]; rfl
  have z1 : s1.size = 2 := by rw [E1]; rfl
  have z2 : s2.size = 2 := by rw [E2]; rfl
  have z3 : s3.size = 2 := by rw [E3]; rfl
  have z4 : s4.size = 1 := by rw [E4]; rfl
  have z5 : s5.size = 1 := by rw [E5]; rfl
  have z6 : s6.size = 2 := by rw [E6]; rfl
  have z7 : s7.size = 4 := by rw [E7]; rfl
  have z8 : s8.size = 4 := by rw [E8]; rfl
  have C0 : Hid (∀ w : World, _) := fun w => b1_calls a0 (by omega) (by omega) w
  have C1 : Hid (∀ w : World, _) := fun w => b2_calls (20 + (a7.size : Int)) (by omega) (by omega) w
  have C2 : Hid (∀ w : World, _) := fun w => b2_calls a1 (by omega) (by omega) w
  have C3 : Hid (∀ w : World, _) := fun w => b2_calls a2 (by omega) (by omega) w
  have C4 : Hid (∀ w : World, _) := fun w => b1_calls a3 (by omega) (by omega) w
  have C5 : Hid (∀ w : World, _) := fun w => b1_calls a4 (by omega) (by omega) w
  have C6 : Hid (∀ w : World, _) := fun w => b2_calls m (by omega) (by omega) w
  have C7 : Hid (∀ w : World, Calls Try.prog 79 #[.int .i64 (wrap64 a5), .int .i64 4] w fun e w' => e = .returned (.string s7) ∧ Below w.heap.size w w') := fun w => by rw [v5, E7]; exact b4_calls a5 (by omega) (by omega) w
  have C8 : Hid (∀ w : World, Calls Try.prog 79 #[.int .i64 (wrap64 a6), .int .i64 4] w fun e w' => e = .returned (.string s8) ∧ Below w.heap.size w w') := fun w => by rw [v6, E8]; exact b4_calls a6 (by omega) (by omega) w
  rw [← E0] at C0
  rw [← E1] at C1
  rw [← E2] at C2
  rw [← E3] at C3
  rw [← E4] at C4
  rw [← E5] at C5
  rw [← E6] at C6
  have HX : Hid (∀ x : ByteArray, x = ⟨#[69]⟩ ++ s0 ++ s1 ++ s2 ++ s3 ++ s4 ++ s5 ++ s6 ++ s7 ++ s8 → x = hdrV (20 + (a7.size : Int)) a0 a1 a2 a3 a4 m a5 a6) := fun x hx => cat_hdr x s0 s1 s2 s3 s4 s5 s6 s7 s8 _ _ _ _ _ _ _ _ _ E0 E1 E2 E3 E4 E5 E6 E7 E8 hx
  clear E0 E1 E2 E3 E4 E5 E6 E7 E8 g0 g1 g2 g3 g4 g5 g6 g7 g8 g9 hs hm hm' h5 h5' h6 h6'
  go_enter Try.func64, Try.ntmps64
  go_wp2
  obtain ⟨A, Z⟩ := box_block w #[.int .i64 a0, .int .i64 a1, .int .i64 a2, .int .i64 a3, .int .i64 a4, .int .u32 a5, .int .u32 a6, .string a7] 58
  replace A := blk_drew A
  replace Z := below_drew1 Z
  try clear hHeld
  refine start_ (n := 40) (S := fun w' => w'.cell? ⟨w.heap.size, 0, none⟩ = some (.int .i64 a0) ∧ w'.cell? ⟨w.heap.size, 1, none⟩ = some (.int .i64 a1) ∧ w'.cell? ⟨w.heap.size, 2, none⟩ = some (.int .i64 a2) ∧ w'.cell? ⟨w.heap.size, 3, none⟩ = some (.int .i64 a3) ∧ w'.cell? ⟨w.heap.size, 4, none⟩ = some (.int .i64 a4) ∧ w'.cell? ⟨w.heap.size, 5, none⟩ = some (.int .u32 a5) ∧ w'.cell? ⟨w.heap.size, 6, none⟩ = some (.int .u32 a6) ∧ w'.cell? ⟨w.heap.size, 7, none⟩ = some (.string a7)) (ds := []) #[false, false, false, false, false, false, false, false, false, false, false, false, false, false, false, false, false, false, false, false, false, false, false, false, false, false, false, false, false, false, false, false, false, false, false, false, false, false, false, false] (by kernel_rfl) rfl rfl (by exact ⟨(blk_cell A 0).trans rfl, (blk_cell A 1).trans rfl, (blk_cell A 2).trans rfl, (blk_cell A 3).trans rfl, (blk_cell A 4).trans rfl, (blk_cell A 5).trans rfl, (blk_cell A 6).trans rfl, (blk_cell A 7).trans rfl⟩) (fun hHeld => ?_)
  generalize (w.alloc (.cells #[.int .i64 a0, .int .i64 a1, .int .i64 a2, .int .i64 a3, .int .i64 a4, .int .u32 a5, .int .u32 a6, .string a7] 58)).drew = W at A Z hHeld ⊢
  refine pure_ (i := 0) (N := some 5) (v := ?_) (a' := ?_) #[true, false, false, false, false, false, false, false, false, false, false, false, false, false, false, false, false, false, false, false, false, false, false, false, false, false, false, false, false, false, false, false, false, false, false, false, false, false, false, false] rfl rfl (by kernel_rfl) (fun _ _ _ h => h) (Or.inl ⟨by rfl, ?_⟩) ?_ ?_
  rotate_left
  · intro w'; go_simp; try with_reducible rfl
  rotate_left
  · simp only [Act.put, List.setIfInBounds_toArray, List.set_cons_zero, List.set_cons_succ, i64_w, i32_w]; rfl
  refine take_ (i := 1) (N := some 6) (v := ?_) (a' := ?_) #[true, true, false, false, false, false, false, false, false, false, false, false, false, false, false, false, false, false, false, false, false, false, false, false, false, false, false, false, false, false, false, false, false, false, false, false, false, false, false, false] rfl rfl (by kernel_rfl) (fun _ _ _ h => h) (Or.inl ⟨by rfl, ?_⟩) hHeld ?_ ?_
  rotate_left
  · intro w' hS_; (try dsimp only at hS_); go_split_ands; go_simp; try with_reducible rfl
  rotate_left
  · simp only [Act.put, List.setIfInBounds_toArray, List.set_cons_zero, List.set_cons_succ, i64_w, i32_w]; rfl
  refine pure_ (i := 4) (N := some 9) (v := ?_) (a' := ?_) #[true, true, false, false, true, false, false, false, false, false, false, false, false, false, false, false, false, false, false, false, false, false, false, false, false, false, false, false, false, false, false, false, false, false, false, false, false, false, false, false] rfl rfl (by kernel_rfl) (fun _ _ _ h => h) (Or.inl ⟨by rfl, ?_⟩) ?_ ?_
  rotate_left
  · intro w'; go_simp; try with_reducible rfl
  rotate_left
  · simp only [Act.put, List.setIfInBounds_toArray, List.set_cons_zero, List.set_cons_succ, i64_w, i32_w]; rfl
  refine take_ (i := 5) (N := some 10) (v := ?_) (a' := ?_) #[true, true, false, false, true, true, false, false, false, false, false, false, false, false, false, false, false, false, false, false, false, false, false, false, false, false, false, false, false, false, false, false, false, false, false, false, false, false, false, false] rfl rfl (by kernel_rfl) (fun _ _ _ h => h) (Or.inl ⟨by rfl, ?_⟩) hHeld ?_ ?_
  rotate_left
  · intro w' hS_; (try dsimp only at hS_); go_split_ands; go_simp; try with_reducible rfl
  rotate_left
  · simp only [Act.put, List.setIfInBounds_toArray, List.set_cons_zero, List.set_cons_succ, i64_w, i32_w]; rfl
  refine pure_ (i := 6) (N := some 11) (v := ?_) (a' := ?_) #[true, true, false, false, true, true, true, false, false, false, false, false, false, false, false, false, false, false, false, false, false, false, false, false, false, false, false, false, false, false, false, false, false, false, false, false, false, false, false, false] rfl rfl (by kernel_rfl) (fun _ _ _ h => h) (Or.inl ⟨by rfl, ?_⟩) ?_ ?_
  rotate_left
  · intro w'; go_simp; try with_reducible rfl
  rotate_left
  · simp only [Act.put, List.setIfInBounds_toArray, List.set_cons_zero, List.set_cons_succ, i64_w, i32_w]; rfl
  refine pure_ (i := 7) (N := some 12) (v := ?_) (a' := ?_) #[true, true, false, false, true, true, true, true, false, false, false, false, false, false, false, false, false, false, false, false, false, false, false, false, false, false, false, false, false, false, false, false, false, false, false, false, false, false, false, false] rfl rfl (by kernel_rfl) (fun _ _ _ h => h) (Or.inl ⟨by rfl, ?_⟩) ?_ ?_
  rotate_left
  · intro w'; go_simp; try with_reducible rfl
  rotate_left
  · simp only [Act.put, List.setIfInBounds_toArray, List.set_cons_zero, List.set_cons_succ, i64_w, i32_w]; rfl
  refine pure_ (i := 10) (N := some 15) (v := ?_) (a' := ?_) #[true, true, false, false, true, true, true, true, false, false, true, false, false, false, false, false, false, false, false, false, false, false, false, false, false, false, false, false, false, false, false, false, false, false, false, false, false, false, false, false] rfl rfl (by kernel_rfl) (fun _ _ _ h => h) (Or.inl ⟨by rfl, ?_⟩) ?_ ?_
  rotate_left
  · intro w'; go_simp; try with_reducible rfl
  rotate_left
  · simp only [Act.put, List.setIfInBounds_toArray, List.set_cons_zero, List.set_cons_succ, i64_w, i32_w]; rfl
  refine take_ (i := 11) (N := some 16) (v := ?_) (a' := ?_) #[true, true, false, false, true, true, true, true, false, false, true, true, false, false, false, false, false, false, false, false, false, false, false, false, false, false, false, false, false, false, false, false, false, false, false, false, false, false, false, false] rfl rfl (by kernel_rfl) (fun _ _ _ h => h) (Or.inl ⟨by rfl, ?_⟩) hHeld ?_ ?_
  rotate_left
  · intro w' hS_; (try dsimp only at hS_); go_split_ands; go_simp; try with_reducible rfl
  rotate_left
  · simp only [Act.put, List.setIfInBounds_toArray, List.set_cons_zero, List.set_cons_succ, i64_w, i32_w]; rfl
  refine pure_ (i := 14) (N := some 19) (v := ?_) (a' := ?_) #[true, true, false, false, true, true, true, true, false, false, true, true, false, false, true, false, false, false, false, false, false, false, false, false, false, false, false, false, false, false, false, false, false, false, false, false, false, false, false, false] rfl rfl (by kernel_rfl) (fun _ _ _ h => h) (Or.inl ⟨by rfl, ?_⟩) ?_ ?_
  rotate_left
  · intro w'; go_simp; try with_reducible rfl
  rotate_left
  · simp only [Act.put, List.setIfInBounds_toArray, List.set_cons_zero, List.set_cons_succ, i64_w, i32_w]; rfl
  refine take_ (i := 15) (N := some 20) (v := ?_) (a' := ?_) #[true, true, false, false, true, true, true, true, false, false, true, true, false, false, true, true, false, false, false, false, false, false, false, false, false, false, false, false, false, false, false, false, false, false, false, false, false, false, false, false] rfl rfl (by kernel_rfl) (fun _ _ _ h => h) (Or.inl ⟨by rfl, ?_⟩) hHeld ?_ ?_
  rotate_left
  · intro w' hS_; (try dsimp only at hS_); go_split_ands; go_simp; try with_reducible rfl
  rotate_left
  · simp only [Act.put, List.setIfInBounds_toArray, List.set_cons_zero, List.set_cons_succ, i64_w, i32_w]; rfl
  refine pure_ (i := 18) (N := some 23) (v := ?_) (a' := ?_) #[true, true, false, false, true, true, true, true, false, false, true, true, false, false, true, true, false, false, true, false, false, false, false, false, false, false, false, false, false, false, false, false, false, false, false, false, false, false, false, false] rfl rfl (by kernel_rfl) (fun _ _ _ h => h) (Or.inl ⟨by rfl, ?_⟩) ?_ ?_
  rotate_left
  · intro w'; go_simp; try with_reducible rfl
  rotate_left
  · simp only [Act.put, List.setIfInBounds_toArray, List.set_cons_zero, List.set_cons_succ, i64_w, i32_w]; rfl
  refine take_ (i := 19) (N := some 24) (v := ?_) (a' := ?_) #[true, true, false, false, true, true, true, true, false, false, true, true, false, false, true, true, false, false, true, true, false, false, false, false, false, false, false, false, false, false, false, false, false, false, false, false, false, false, false, false] rfl rfl (by kernel_rfl) (fun _ _ _ h => h) (Or.inl ⟨by rfl, ?_⟩) hHeld ?_ ?_
  rotate_left
  · intro w' hS_; (try dsimp only at hS_); go_split_ands; go_simp; try with_reducible rfl
  rotate_left
  · simp only [Act.put, List.setIfInBounds_toArray, List.set_cons_zero, List.set_cons_succ, i64_w, i32_w]; rfl
  refine pure_ (i := 22) (N := some 27) (v := ?_) (a' := ?_) #[true, true, false, false, true, true, true, true, false, false, true, true, false, false, true, true, false, false, true, true, false, false, true, false, false, false, false, false, false, false, false, false, false, false, false, false, false, false, false, false] rfl rfl (by kernel_rfl) (fun _ _ _ h => h) (Or.inl ⟨by rfl, ?_⟩) ?_ ?_
  rotate_left
  · intro w'; go_simp; try with_reducible rfl
  rotate_left
  · simp only [Act.put, List.setIfInBounds_toArray, List.set_cons_zero, List.set_cons_succ, i64_w, i32_w]; rfl
  refine take_ (i := 23) (N := some 28) (v := ?_) (a' := ?_) #[true, true, false, false, true, true, true, true, false, false, true, true, false, false, true, true, false, false, true, true, false, false, true, true, false, false, false, false, false, false, false, false, false, false, false, false, false, false, false, false] rfl rfl (by kernel_rfl) (fun _ _ _ h => h) (Or.inl ⟨by rfl, ?_⟩) hHeld ?_ ?_
  rotate_left
  · intro w' hS_; (try dsimp only at hS_); go_split_ands; go_simp; try with_reducible rfl
  rotate_left
  · simp only [Act.put, List.setIfInBounds_toArray, List.set_cons_zero, List.set_cons_succ, i64_w, i32_w]; rfl
  refine pure_ (i := 26) (N := some 31) (v := ?_) (a' := ?_) #[true, true, false, false, true, true, true, true, false, false, true, true, false, false, true, true, false, false, true, true, false, false, true, true, false, false, true, false, false, false, false, false, false, false, false, false, false, false, false, false] rfl rfl (by kernel_rfl) (fun _ _ _ h => h) (Or.inl ⟨by rfl, ?_⟩) ?_ ?_
  rotate_left
  · intro w'; go_simp; try with_reducible rfl
  rotate_left
  · simp only [Act.put, List.setIfInBounds_toArray, List.set_cons_zero, List.set_cons_succ, i64_w, i32_w]; rfl
  refine pure_ (i := 29) (N := some 34) (v := ?_) (a' := ?_) #[true, true, false, false, true, true, true, true, false, false, true, true, false, false, true, true, false, false, true, true, false, false, true, true, false, false, true, false, false, true, false, false, false, false, false, false, false, false, false, false] rfl rfl (by kernel_rfl) (fun _ _ _ h => h) (Or.inl ⟨by rfl, ?_⟩) ?_ ?_
  rotate_left
  · intro w'; go_simp; try with_reducible rfl
  rotate_left
  · simp only [Act.put, List.setIfInBounds_toArray, List.set_cons_zero, List.set_cons_succ, i64_w, i32_w]; rfl
  refine take_ (i := 30) (N := some 35) (v := ?_) (a' := ?_) #[true, true, false, false, true, true, true, true, false, false, true, true, false, false, true, true, false, false, true, true, false, false, true, true, false, false, true, false, false, true, true, false, false, false, false, false, false, false, false, false] rfl rfl (by kernel_rfl) (fun _ _ _ h => h) (Or.inl ⟨by rfl, ?_⟩) hHeld ?_ ?_
  rotate_left
  · intro w' hS_; (try dsimp only at hS_); go_split_ands; go_simp; try with_reducible rfl
  rotate_left
  · simp only [Act.put, List.setIfInBounds_toArray, List.set_cons_zero, List.set_cons_succ, i64_w, i32_w]; rfl
  refine pure_ (i := 31) (N := some 36) (v := ?_) (a' := ?_) #[true, true, false, false, true, true, true, true, false, false, true, true, false, false, true, true, false, false, true, true, false, false, true, true, false, false, true, false, false, true, true, true, false, false, false, false, false, false, false, false] rfl rfl (by kernel_rfl) (fun _ _ _ h => h) (Or.inl ⟨by rfl, ?_⟩) ?_ ?_
  rotate_left
  · intro w'; go_simp; try with_reducible rfl
  rotate_left
  · simp only [Act.put, List.setIfInBounds_toArray, List.set_cons_zero, List.set_cons_succ, i64_w, i32_w]; rfl
  refine pure_ (i := 34) (N := some 39) (v := ?_) (a' := ?_) #[true, true, false, false, true, true, true, true, false, false, true, true, false, false, true, true, false, false, true, true, false, false, true, true, false, false, true, false, false, true, true, true, false, false, true, false, false, false, false, false] rfl rfl (by kernel_rfl) (fun _ _ _ h => h) (Or.inl ⟨by rfl, ?_⟩) ?_ ?_
  rotate_left
  · intro w'; go_simp; try with_reducible rfl
  rotate_left
  · simp only [Act.put, List.setIfInBounds_toArray, List.set_cons_zero, List.set_cons_succ, i64_w, i32_w]; rfl
  refine take_ (i := 35) (N := some 40) (v := ?_) (a' := ?_) #[true, true, false, false, true, true, true, true, false, false, true, true, false, false, true, true, false, false, true, true, false, false, true, true, false, false, true, false, false, true, true, true, false, false, true, true, false, false, false, false] rfl rfl (by kernel_rfl) (fun _ _ _ h => h) (Or.inl ⟨by rfl, ?_⟩) hHeld ?_ ?_
  rotate_left
  · intro w' hS_; (try dsimp only at hS_); go_split_ands; go_simp; try with_reducible rfl
  rotate_left
  · simp only [Act.put, List.setIfInBounds_toArray, List.set_cons_zero, List.set_cons_succ, i64_w, i32_w]; rfl
  refine pure_ (i := 36) (N := some 41) (v := ?_) (a' := ?_) #[true, true, false, false, true, true, true, true, false, false, true, true, false, false, true, true, false, false, true, true, false, false, true, true, false, false, true, false, false, true, true, true, false, false, true, true, true, false, false, false] rfl rfl (by kernel_rfl) (fun _ _ _ h => h) (Or.inl ⟨by rfl, ?_⟩) ?_ ?_
  rotate_left
  · intro w'; go_simp; try with_reducible rfl
  rotate_left
  · simp only [Act.put, List.setIfInBounds_toArray, List.set_cons_zero, List.set_cons_succ, i64_w, i32_w]; rfl
  refine one_ (i := 2) (N := some 7) #[true, true, true, false, true, true, true, true, false, false, true, true, false, false, true, true, false, false, true, true, false, false, true, true, false, false, true, false, false, true, true, true, false, false, true, true, true, false, false, false] rfl rfl (by kernel_rfl) (by decide) (fun K hK => ?_)
  refine goes_ Try.func79 (by kernel_rfl) rfl #[.int .i64 a0, .int .i64 1] (by rfl) rfl rfl (by (try simp only [List.map_toArray, List.map_cons, List.map_nil]); first | done | rfl) ?_
  with_reducible refine (C0.out _).mono ?_
  rintro e V1 ⟨rfl, hb⟩
  refine ⟨_, rfl, ?_⟩
  replace A := blk_below A hb
  replace Z := Z.trans (hb.mono Z.size)
  clear hb
  try clear hHeld
  refine hK.out _ _ (by exact ⟨(blk_cell A 0).trans rfl, (blk_cell A 1).trans rfl, (blk_cell A 2).trans rfl, (blk_cell A 3).trans rfl, (blk_cell A 4).trans rfl, (blk_cell A 5).trans rfl, (blk_cell A 6).trans rfl, (blk_cell A 7).trans rfl⟩) (fun hHeld => ?_)
  clear hK K
  refine norm_ (a' := ?_) ?_ ?_
  rotate_left
  · show Act.put _ (some 7) _ = _; simp only [Act.put, List.setIfInBounds_toArray, List.set_cons_zero, List.set_cons_succ, i64_w, i32_w]; rfl
  refine pure_ (i := 3) (N := some 8) (v := ?_) (a' := ?_) #[true, true, true, true, true, true, true, true, false, false, true, true, false, false, true, true, false, false, true, true, false, false, true, true, false, false, true, false, false, true, true, true, false, false, true, true, true, false, false, false] rfl rfl (by kernel_rfl) (fun _ _ _ h => h) (Or.inl ⟨by rfl, ?_⟩) ?_ ?_
  rotate_left
  · intro w'; go_simp; try with_reducible rfl
  rotate_left
  · simp only [Act.put, List.setIfInBounds_toArray, List.set_cons_zero, List.set_cons_succ, i64_w, i32_w]; rfl
  refine one_ (i := 8) (N := some 13) #[true, true, true, true, true, true, true, true, true, false, true, true, false, false, true, true, false, false, true, true, false, false, true, true, false, false, true, false, false, true, true, true, false, false, true, true, true, false, false, false] rfl rfl (by kernel_rfl) (by decide) (fun K hK => ?_)
  refine goes_ Try.func79 (by kernel_rfl) rfl #[.int .i64 (20 + (a7.size : Int)), .int .i64 2] (by rfl) rfl rfl (by (try simp only [List.map_toArray, List.map_cons, List.map_nil]); first | done | rfl) ?_
  with_reducible refine (C1.out _).mono ?_
  rintro e V2 ⟨rfl, hb⟩
  refine ⟨_, rfl, ?_⟩
  replace A := blk_below A hb
  replace Z := Z.trans (hb.mono Z.size)
  clear hb
  try clear hHeld
  refine hK.out _ _ (by exact ⟨(blk_cell A 0).trans rfl, (blk_cell A 1).trans rfl, (blk_cell A 2).trans rfl, (blk_cell A 3).trans rfl, (blk_cell A 4).trans rfl, (blk_cell A 5).trans rfl, (blk_cell A 6).trans rfl, (blk_cell A 7).trans rfl⟩) (fun hHeld => ?_)
  clear hK K
  refine norm_ (a' := ?_) ?_ ?_
  rotate_left
  · show Act.put _ (some 13) _ = _; simp only [Act.put, List.setIfInBounds_toArray, List.set_cons_zero, List.set_cons_succ, i64_w, i32_w]; rfl
  refine pure_ (i := 9) (N := some 14) (v := ?_) (a' := ?_) #[true, true, true, true, true, true, true, true, true, true, true, true, false, false, true, true, false, false, true, true, false, false, true, true, false, false, true, false, false, true, true, true, false, false, true, true, true, false, false, false] rfl rfl (by kernel_rfl) (fun _ _ _ h => h) (Or.inl ⟨by rfl, ?_⟩) ?_ ?_
  rotate_left
  · intro w'; go_simp; try with_reducible rfl
  rotate_left
  · simp only [Act.put, List.setIfInBounds_toArray, List.set_cons_zero, List.set_cons_succ, i64_w, i32_w]; rfl
  refine one_ (i := 12) (N := some 17) #[true, true, true, true, true, true, true, true, true, true, true, true, true, false, true, true, false, false, true, true, false, false, true, true, false, false, true, false, false, true, true, true, false, false, true, true, true, false, false, false] rfl rfl (by kernel_rfl) (by decide) (fun K hK => ?_)
  refine goes_ Try.func79 (by kernel_rfl) rfl #[.int .i64 a1, .int .i64 2] (by rfl) rfl rfl (by (try simp only [List.map_toArray, List.map_cons, List.map_nil]); first | done | rfl) ?_
  with_reducible refine (C2.out _).mono ?_
  rintro e V3 ⟨rfl, hb⟩
  refine ⟨_, rfl, ?_⟩
  replace A := blk_below A hb
  replace Z := Z.trans (hb.mono Z.size)
  clear hb
  try clear hHeld
  refine hK.out _ _ (by exact ⟨(blk_cell A 0).trans rfl, (blk_cell A 1).trans rfl, (blk_cell A 2).trans rfl, (blk_cell A 3).trans rfl, (blk_cell A 4).trans rfl, (blk_cell A 5).trans rfl, (blk_cell A 6).trans rfl, (blk_cell A 7).trans rfl⟩) (fun hHeld => ?_)
  clear hK K
  refine norm_ (a' := ?_) ?_ ?_
  rotate_left
  · show Act.put _ (some 17) _ = _; simp only [Act.put, List.setIfInBounds_toArray, List.set_cons_zero, List.set_cons_succ, i64_w, i32_w]; rfl
  refine pure_ (i := 13) (N := some 18) (v := ?_) (a' := ?_) #[true, true, true, true, true, true, true, true, true, true, true, true, true, true, true, true, false, false, true, true, false, false, true, true, false, false, true, false, false, true, true, true, false, false, true, true, true, false, false, false] rfl rfl (by kernel_rfl) (fun _ _ _ h => h) (Or.inl ⟨by rfl, ?_⟩) ?_ ?_
  rotate_left
  · intro w'; go_simp; try with_reducible rfl
  rotate_left
  · simp only [Act.put, List.setIfInBounds_toArray, List.set_cons_zero, List.set_cons_succ, i64_w, i32_w]; rfl
  refine one_ (i := 16) (N := some 21) #[true, true, true, true, true, true, true, true, true, true, true, true, true, true, true, true, true, false, true, true, false, false, true, true, false, false, true, false, false, true, true, true, false, false, true, true, true, false, false, false] rfl rfl (by kernel_rfl) (by decide) (fun K hK => ?_)
  refine goes_ Try.func79 (by kernel_rfl) rfl #[.int .i64 a2, .int .i64 2] (by rfl) rfl rfl (by (try simp only [List.map_toArray, List.map_cons, List.map_nil]); first | done | rfl) ?_
  with_reducible refine (C3.out _).mono ?_
  rintro e V4 ⟨rfl, hb⟩
  refine ⟨_, rfl, ?_⟩
  replace A := blk_below A hb
  replace Z := Z.trans (hb.mono Z.size)
  clear hb
  try clear hHeld
  refine hK.out _ _ (by exact ⟨(blk_cell A 0).trans rfl, (blk_cell A 1).trans rfl, (blk_cell A 2).trans rfl, (blk_cell A 3).trans rfl, (blk_cell A 4).trans rfl, (blk_cell A 5).trans rfl, (blk_cell A 6).trans rfl, (blk_cell A 7).trans rfl⟩) (fun hHeld => ?_)
  clear hK K
  refine norm_ (a' := ?_) ?_ ?_
  rotate_left
  · show Act.put _ (some 21) _ = _; simp only [Act.put, List.setIfInBounds_toArray, List.set_cons_zero, List.set_cons_succ, i64_w, i32_w]; rfl
  refine pure_ (i := 17) (N := some 22) (v := ?_) (a' := ?_) #[true, true, true, true, true, true, true, true, true, true, true, true, true, true, true, true, true, true, true, true, false, false, true, true, false, false, true, false, false, true, true, true, false, false, true, true, true, false, false, false] rfl rfl (by kernel_rfl) (fun _ _ _ h => h) (Or.inl ⟨by rfl, ?_⟩) ?_ ?_
  rotate_left
  · intro w'; go_simp; try with_reducible rfl
  rotate_left
  · simp only [Act.put, List.setIfInBounds_toArray, List.set_cons_zero, List.set_cons_succ, i64_w, i32_w]; rfl
  refine one_ (i := 20) (N := some 25) #[true, true, true, true, true, true, true, true, true, true, true, true, true, true, true, true, true, true, true, true, true, false, true, true, false, false, true, false, false, true, true, true, false, false, true, true, true, false, false, false] rfl rfl (by kernel_rfl) (by decide) (fun K hK => ?_)
  refine goes_ Try.func79 (by kernel_rfl) rfl #[.int .i64 a3, .int .i64 1] (by rfl) rfl rfl (by (try simp only [List.map_toArray, List.map_cons, List.map_nil]); first | done | rfl) ?_
  with_reducible refine (C4.out _).mono ?_
  rintro e V5 ⟨rfl, hb⟩
  refine ⟨_, rfl, ?_⟩
  replace A := blk_below A hb
  replace Z := Z.trans (hb.mono Z.size)
  clear hb
  try clear hHeld
  refine hK.out _ _ (by exact ⟨(blk_cell A 0).trans rfl, (blk_cell A 1).trans rfl, (blk_cell A 2).trans rfl, (blk_cell A 3).trans rfl, (blk_cell A 4).trans rfl, (blk_cell A 5).trans rfl, (blk_cell A 6).trans rfl, (blk_cell A 7).trans rfl⟩) (fun hHeld => ?_)
  clear hK K
  refine norm_ (a' := ?_) ?_ ?_
  rotate_left
  · show Act.put _ (some 25) _ = _; simp only [Act.put, List.setIfInBounds_toArray, List.set_cons_zero, List.set_cons_succ, i64_w, i32_w]; rfl
  refine pure_ (i := 21) (N := some 26) (v := ?_) (a' := ?_) #[true, true, true, true, true, true, true, true, true, true, true, true, true, true, true, true, true, true, true, true, true, true, true, true, false, false, true, false, false, true, true, true, false, false, true, true, true, false, false, false] rfl rfl (by kernel_rfl) (fun _ _ _ h => h) (Or.inl ⟨by rfl, ?_⟩) ?_ ?_
  rotate_left
  · intro w'; go_simp; try with_reducible rfl
  rotate_left
  · simp only [Act.put, List.setIfInBounds_toArray, List.set_cons_zero, List.set_cons_succ, i64_w, i32_w]; rfl
  refine one_ (i := 24) (N := some 29) #[true, true, true, true, true, true, true, true, true, true, true, true, true, true, true, true, true, true, true, true, true, true, true, true, true, false, true, false, false, true, true, true, false, false, true, true, true, false, false, false] rfl rfl (by kernel_rfl) (by decide) (fun K hK => ?_)
  refine goes_ Try.func79 (by kernel_rfl) rfl #[.int .i64 a4, .int .i64 1] (by rfl) rfl rfl (by (try simp only [List.map_toArray, List.map_cons, List.map_nil]); first | done | rfl) ?_
  with_reducible refine (C5.out _).mono ?_
  rintro e V6 ⟨rfl, hb⟩
  refine ⟨_, rfl, ?_⟩
  replace A := blk_below A hb
  replace Z := Z.trans (hb.mono Z.size)
  clear hb
  try clear hHeld
  refine hK.out _ _ (by exact ⟨(blk_cell A 0).trans rfl, (blk_cell A 1).trans rfl, (blk_cell A 2).trans rfl, (blk_cell A 3).trans rfl, (blk_cell A 4).trans rfl, (blk_cell A 5).trans rfl, (blk_cell A 6).trans rfl, (blk_cell A 7).trans rfl⟩) (fun hHeld => ?_)
  clear hK K
  refine norm_ (a' := ?_) ?_ ?_
  rotate_left
  · show Act.put _ (some 29) _ = _; simp only [Act.put, List.setIfInBounds_toArray, List.set_cons_zero, List.set_cons_succ, i64_w, i32_w]; rfl
  refine pure_ (i := 25) (N := some 30) (v := ?_) (a' := ?_) #[true, true, true, true, true, true, true, true, true, true, true, true, true, true, true, true, true, true, true, true, true, true, true, true, true, true, true, false, false, true, true, true, false, false, true, true, true, false, false, false] rfl rfl (by kernel_rfl) (fun _ _ _ h => h) (Or.inl ⟨by rfl, ?_⟩) ?_ ?_
  rotate_left
  · intro w'; go_simp; try with_reducible rfl
  rotate_left
  · simp only [Act.put, List.setIfInBounds_toArray, List.set_cons_zero, List.set_cons_succ, i64_w, i32_w]; rfl
  refine one_ (i := 27) (N := some 32) #[true, true, true, true, true, true, true, true, true, true, true, true, true, true, true, true, true, true, true, true, true, true, true, true, true, true, true, true, false, true, true, true, false, false, true, true, true, false, false, false] rfl rfl (by kernel_rfl) (by decide) (fun K hK => ?_)
  refine goes_ Try.func79 (by kernel_rfl) rfl #[.int .i64 m, .int .i64 2] (by rfl) rfl rfl (by (try simp only [List.map_toArray, List.map_cons, List.map_nil]); first | done | rfl) ?_
  with_reducible refine (C6.out _).mono ?_
  rintro e V7 ⟨rfl, hb⟩
  refine ⟨_, rfl, ?_⟩
  replace A := blk_below A hb
  replace Z := Z.trans (hb.mono Z.size)
  clear hb
  try clear hHeld
  refine hK.out _ _ (by exact ⟨(blk_cell A 0).trans rfl, (blk_cell A 1).trans rfl, (blk_cell A 2).trans rfl, (blk_cell A 3).trans rfl, (blk_cell A 4).trans rfl, (blk_cell A 5).trans rfl, (blk_cell A 6).trans rfl, (blk_cell A 7).trans rfl⟩) (fun hHeld => ?_)
  clear hK K
  refine norm_ (a' := ?_) ?_ ?_
  rotate_left
  · show Act.put _ (some 32) _ = _; simp only [Act.put, List.setIfInBounds_toArray, List.set_cons_zero, List.set_cons_succ, i64_w, i32_w]; rfl
  refine pure_ (i := 28) (N := some 33) (v := ?_) (a' := ?_) #[true, true, true, true, true, true, true, true, true, true, true, true, true, true, true, true, true, true, true, true, true, true, true, true, true, true, true, true, true, true, true, true, false, false, true, true, true, false, false, false] rfl rfl (by kernel_rfl) (fun _ _ _ h => h) (Or.inl ⟨by rfl, ?_⟩) ?_ ?_
  rotate_left
  · intro w'; go_simp; try with_reducible rfl
  rotate_left
  · simp only [Act.put, List.setIfInBounds_toArray, List.set_cons_zero, List.set_cons_succ, i64_w, i32_w]; rfl
  refine one_ (i := 32) (N := some 37) #[true, true, true, true, true, true, true, true, true, true, true, true, true, true, true, true, true, true, true, true, true, true, true, true, true, true, true, true, true, true, true, true, true, false, true, true, true, false, false, false] rfl rfl (by kernel_rfl) (by decide) (fun K hK => ?_)
  refine goes_ Try.func79 (by kernel_rfl) rfl #[.int .i64 (wrap64 a5), .int .i64 4] (by rfl) rfl rfl (by (try simp only [List.map_toArray, List.map_cons, List.map_nil]); first | done | rfl) ?_
  with_reducible refine (C7.out _).mono ?_
  rintro e V8 ⟨rfl, hb⟩
  refine ⟨_, rfl, ?_⟩
  replace A := blk_below A hb
  replace Z := Z.trans (hb.mono Z.size)
  clear hb
  try clear hHeld
  refine hK.out _ _ (by exact ⟨(blk_cell A 0).trans rfl, (blk_cell A 1).trans rfl, (blk_cell A 2).trans rfl, (blk_cell A 3).trans rfl, (blk_cell A 4).trans rfl, (blk_cell A 5).trans rfl, (blk_cell A 6).trans rfl, (blk_cell A 7).trans rfl⟩) (fun hHeld => ?_)
  clear hK K
  refine norm_ (a' := ?_) ?_ ?_
  rotate_left
  · show Act.put _ (some 37) _ = _; simp only [Act.put, List.setIfInBounds_toArray, List.set_cons_zero, List.set_cons_succ, i64_w, i32_w]; rfl
  refine pure_ (i := 33) (N := some 38) (v := ?_) (a' := ?_) #[true, true, true, true, true, true, true, true, true, true, true, true, true, true, true, true, true, true, true, true, true, true, true, true, true, true, true, true, true, true, true, true, true, true, true, true, true, false, false, false] rfl rfl (by kernel_rfl) (fun _ _ _ h => h) (Or.inl ⟨by rfl, ?_⟩) ?_ ?_
  rotate_left
  · intro w'; go_simp; try with_reducible rfl
  rotate_left
  · simp only [Act.put, List.setIfInBounds_toArray, List.set_cons_zero, List.set_cons_succ, i64_w, i32_w]; rfl
  refine one_ (i := 37) (N := some 42) #[true, true, true, true, true, true, true, true, true, true, true, true, true, true, true, true, true, true, true, true, true, true, true, true, true, true, true, true, true, true, true, true, true, true, true, true, true, true, false, false] rfl rfl (by kernel_rfl) (by decide) (fun K hK => ?_)
  refine goes_ Try.func79 (by kernel_rfl) rfl #[.int .i64 (wrap64 a6), .int .i64 4] (by rfl) rfl rfl (by (try simp only [List.map_toArray, List.map_cons, List.map_nil]); first | done | rfl) ?_
  with_reducible refine (C8.out _).mono ?_
  rintro e V9 ⟨rfl, hb⟩
  refine ⟨_, rfl, ?_⟩
  replace A := blk_below A hb
  replace Z := Z.trans (hb.mono Z.size)
  clear hb
  try clear hHeld
  refine hK.out _ _ (by exact ⟨(blk_cell A 0).trans rfl, (blk_cell A 1).trans rfl, (blk_cell A 2).trans rfl, (blk_cell A 3).trans rfl, (blk_cell A 4).trans rfl, (blk_cell A 5).trans rfl, (blk_cell A 6).trans rfl, (blk_cell A 7).trans rfl⟩) (fun hHeld => ?_)
  clear hK K
  refine norm_ (a' := ?_) ?_ ?_
  rotate_left
  · show Act.put _ (some 42) _ = _; simp only [Act.put, List.setIfInBounds_toArray, List.set_cons_zero, List.set_cons_succ, i64_w, i32_w]; rfl
  refine pure_ (i := 38) (N := some 43) (v := ?_) (a' := ?_) #[true, true, true, true, true, true, true, true, true, true, true, true, true, true, true, true, true, true, true, true, true, true, true, true, true, true, true, true, true, true, true, true, true, true, true, true, true, true, true, false] rfl rfl (by kernel_rfl) (fun _ _ _ h => h) (Or.inl ⟨by rfl, ?_⟩) ?_ ?_
  rotate_left
  · intro w'; go_simp; try with_reducible rfl
  rotate_left
  · simp only [Act.put, List.setIfInBounds_toArray, List.set_cons_zero, List.set_cons_succ, i64_w, i32_w]; rfl
  refine pure_ (i := 39) (N := some 4) (v := ?_) (a' := ?_) #[true, true, true, true, true, true, true, true, true, true, true, true, true, true, true, true, true, true, true, true, true, true, true, true, true, true, true, true, true, true, true, true, true, true, true, true, true, true, true, true] rfl rfl (by kernel_rfl) (fun _ _ _ h => h) (Or.inl ⟨by rfl, ?_⟩) ?_ ?_
  rotate_left
  · intro w'; go_simp; try with_reducible rfl
  rotate_left
  · simp only [Act.put, List.setIfInBounds_toArray, List.set_cons_zero, List.set_cons_succ, i64_w, i32_w]; rfl
  refine done_ (by kernel_rfl) ?_
  go_wp2
  go_ret
  exact ⟨congrArg (fun x => Ending.returned (.string x)) (HX.out _ rfl), Z⟩
theorem byteOf_yes (n : Int) (h0 : 0 ≤ n) (h1 : n ≤ 255) (w : World) : Calls Try.prog 62 #[.int .i64 n] w fun e w' => e = .returned (.bool true) ∧ w = w' := by
  have d0 : decide (0 ≤ n) = true := decide_eq_true h0
  have d1 : decide (n ≤ 255) = true := decide_eq_true h1
  clear h0 h1
  go_enter Try.func62, Try.ntmps62
  go_wp2
  go_ret
  exact ⟨rfl, rfl⟩
theorem byteOf_no (n : Int) (h : ¬ (0 ≤ n ∧ n ≤ 255)) (w : World) : Calls Try.prog 62 #[.int .i64 n] w fun e w' => e = .returned (.bool false) ∧ w = w' := by
  by_cases h0 : 0 ≤ n
  · have d0 : decide (0 ≤ n) = true := decide_eq_true h0
    have d1 : decide (n ≤ 255) = false := decide_eq_false (fun h1 => h ⟨h0, h1⟩)
    clear h0 h
    go_enter Try.func62, Try.ntmps62
    go_wp2
    go_ret
    exact ⟨rfl, rfl⟩
  · have d0 : decide (0 ≤ n) = false := decide_eq_false h0
    clear h0 h
    go_enter Try.func62, Try.ntmps62
    go_wp2
    go_ret
    exact ⟨rfl, rfl⟩
theorem wordOf_yes (n : Int) (h0 : 0 ≤ n) (h1 : n ≤ 65535) (w : World) : Calls Try.prog 63 #[.int .i64 n] w fun e w' => e = .returned (.bool true) ∧ w = w' := by
  have d0 : decide (0 ≤ n) = true := decide_eq_true h0
  have d1 : decide (n ≤ 65535) = true := decide_eq_true h1
  clear h0 h1
  go_enter Try.func63, Try.ntmps63
  go_wp2
  go_ret
  exact ⟨rfl, rfl⟩
theorem wordOf_no (n : Int) (h : ¬ (0 ≤ n ∧ n ≤ 65535)) (w : World) : Calls Try.prog 63 #[.int .i64 n] w fun e w' => e = .returned (.bool false) ∧ w = w' := by
  by_cases h0 : 0 ≤ n
  · have d0 : decide (0 ≤ n) = true := decide_eq_true h0
    have d1 : decide (n ≤ 65535) = false := decide_eq_false (fun h1 => h ⟨h0, h1⟩)
    clear h0 h
    go_enter Try.func63, Try.ntmps63
    go_wp2
    go_ret
    exact ⟨rfl, rfl⟩
  · have d0 : decide (0 ≤ n) = false := decide_eq_false h0
    clear h0 h
    go_enter Try.func63, Try.ntmps63
    go_wp2
    go_ret
    exact ⟨rfl, rfl⟩
set_option maxRecDepth 100000 in
set_option maxHeartbeats 2000000 in
theorem build42_bad (a0 a1 a2 a3 a4 a5 a6 : Int) (a7 : ByteArray) (w : World) (h : ¬ okH a0 a1 a2 a3 a4) :
    Calls Try.prog 42 #[.agg #[.int .i64 a0, .int .i64 a1, .int .i64 a2, .int .i64 a3, .int .i64 a4, .int .u32 a5, .int .u32 a6, .string a7]] w fun e w' => e = .returned (.tuple #[.string ⟨#[]⟩, .int .i64 2]) ∧ Below w.heap.size w w' := by
  have hu58 := Try.underlying58
  by_cases p0 : 0 ≤ a0 ∧ a0 ≤ 255
  · have Y0 : Hid (∀ w, _) := fun w => byteOf_yes a0 p0.1 p0.2 w
    by_cases p1 : 0 ≤ a3 ∧ a3 ≤ 255
    · have Y1 : Hid (∀ w, _) := fun w => byteOf_yes a3 p1.1 p1.2 w
      by_cases p2 : 0 ≤ a4 ∧ a4 ≤ 255
      · have Y2 : Hid (∀ w, _) := fun w => byteOf_yes a4 p2.1 p2.2 w
        by_cases p3 : 0 ≤ a1 ∧ a1 ≤ 65535
        · have Y3 : Hid (∀ w, _) := fun w => wordOf_yes a1 p3.1 p3.2 w
          by_cases p4 : 0 ≤ a2 ∧ a2 ≤ 65535
          · have Y4 : Hid (∀ w, _) := fun w => wordOf_yes a2 p4.1 p4.2 w
            exact absurd ⟨p0, p1, p2, p3, p4⟩ h
          · have Y4 : Hid (∀ w, _) := fun w => wordOf_no a2 p4 w
            clear h p0 p1 p2 p3 p4
            go_enter Try.func42, Try.ntmps42
            go_wp2_with (first | (go_at_call 62; (with_reducible refine (Y0.out _).mono ?_); rintro e w' ⟨rfl, rfl⟩) | (go_at_call 62; (with_reducible refine (Y1.out _).mono ?_); rintro e w' ⟨rfl, rfl⟩) | (go_at_call 62; (with_reducible refine (Y2.out _).mono ?_); rintro e w' ⟨rfl, rfl⟩) | (go_at_call 63; (with_reducible refine (Y3.out _).mono ?_); rintro e w' ⟨rfl, rfl⟩) | (go_at_call 63; (with_reducible refine (Y4.out _).mono ?_); rintro e w' ⟨rfl, rfl⟩))
            go_ret2
            exact ⟨rfl, (Below.refl _ _).alloc (Nat.le_refl _) _⟩
        · have Y3 : Hid (∀ w, _) := fun w => wordOf_no a1 p3 w
          clear h p0 p1 p2 p3
          go_enter Try.func42, Try.ntmps42
          go_wp2_with (first | (go_at_call 62; (with_reducible refine (Y0.out _).mono ?_); rintro e w' ⟨rfl, rfl⟩) | (go_at_call 62; (with_reducible refine (Y1.out _).mono ?_); rintro e w' ⟨rfl, rfl⟩) | (go_at_call 62; (with_reducible refine (Y2.out _).mono ?_); rintro e w' ⟨rfl, rfl⟩) | (go_at_call 63; (with_reducible refine (Y3.out _).mono ?_); rintro e w' ⟨rfl, rfl⟩))
          go_ret2
          exact ⟨rfl, (Below.refl _ _).alloc (Nat.le_refl _) _⟩
      · have Y2 : Hid (∀ w, _) := fun w => byteOf_no a4 p2 w
        clear h p0 p1 p2
        go_enter Try.func42, Try.ntmps42
        go_wp2_with (first | (go_at_call 62; (with_reducible refine (Y0.out _).mono ?_); rintro e w' ⟨rfl, rfl⟩) | (go_at_call 62; (with_reducible refine (Y1.out _).mono ?_); rintro e w' ⟨rfl, rfl⟩) | (go_at_call 62; (with_reducible refine (Y2.out _).mono ?_); rintro e w' ⟨rfl, rfl⟩))
        go_ret2
        exact ⟨rfl, (Below.refl _ _).alloc (Nat.le_refl _) _⟩
    · have Y1 : Hid (∀ w, _) := fun w => byteOf_no a3 p1 w
      clear h p0 p1
      go_enter Try.func42, Try.ntmps42
      go_wp2_with (first | (go_at_call 62; (with_reducible refine (Y0.out _).mono ?_); rintro e w' ⟨rfl, rfl⟩) | (go_at_call 62; (with_reducible refine (Y1.out _).mono ?_); rintro e w' ⟨rfl, rfl⟩))
      go_ret2
      exact ⟨rfl, (Below.refl _ _).alloc (Nat.le_refl _) _⟩
  · have Y0 : Hid (∀ w, _) := fun w => byteOf_no a0 p0 w
    clear h p0
    go_enter Try.func42, Try.ntmps42
    go_wp2_with (first | (go_at_call 62; (with_reducible refine (Y0.out _).mono ?_); rintro e w' ⟨rfl, rfl⟩))
    go_ret2
    exact ⟨rfl, (Below.refl _ _).alloc (Nat.le_refl _) _⟩
set_option maxRecDepth 100000 in
set_option maxHeartbeats 2000000 in
theorem build42_long (a0 a1 a2 a3 a4 a5 a6 : Int) (a7 : ByteArray) (w : World) (h : okH a0 a1 a2 a3 a4) (hs : 65515 < a7.size) :
    Calls Try.prog 42 #[.agg #[.int .i64 a0, .int .i64 a1, .int .i64 a2, .int .i64 a3, .int .i64 a4, .int .u32 a5, .int .u32 a6, .string a7]] w fun e w' => e = .returned (.tuple #[.string ⟨#[]⟩, .int .i64 8]) ∧ Below w.heap.size w w' := by
  have hu58 := Try.underlying58
  obtain ⟨p0, p1, p2, p3, p4⟩ := h
  have Y0 : Hid (∀ w, _) := fun w => byteOf_yes a0 p0.1 p0.2 w
  have Y1 : Hid (∀ w, _) := fun w => byteOf_yes a3 p1.1 p1.2 w
  have Y2 : Hid (∀ w, _) := fun w => byteOf_yes a4 p2.1 p2.2 w
  have Y3 : Hid (∀ w, _) := fun w => wordOf_yes a1 p3.1 p3.2 w
  have Y4 : Hid (∀ w, _) := fun w => wordOf_yes a2 p4.1 p4.2 w
  have dl : decide (65515 < (a7.size : Int)) = true := decide_eq_true (by omega)
  have dl2 : decide (65515 < a7.size) = true := decide_eq_true (by omega)
  clear hs p0 p1 p2 p3 p4
  go_enter Try.func42, Try.ntmps42
  go_wp2_with (first | (go_at_call 62; (with_reducible refine (Y0.out _).mono ?_); rintro e w' ⟨rfl, rfl⟩) | (go_at_call 62; (with_reducible refine (Y1.out _).mono ?_); rintro e w' ⟨rfl, rfl⟩) | (go_at_call 62; (with_reducible refine (Y2.out _).mono ?_); rintro e w' ⟨rfl, rfl⟩) | (go_at_call 63; (with_reducible refine (Y3.out _).mono ?_); rintro e w' ⟨rfl, rfl⟩) | (go_at_call 63; (with_reducible refine (Y4.out _).mono ?_); rintro e w' ⟨rfl, rfl⟩))
  go_ret2
  exact ⟨rfl, (Below.refl _ _).alloc (Nat.le_refl _) _⟩
set_option maxRecDepth 100000 in
set_option maxHeartbeats 20000000 in
theorem build42_good (a0 a1 a2 a3 a4 a5 a6 : Int) (a7 : ByteArray) (w : World) (h : okH a0 a1 a2 a3 a4) (h5 : 0 ≤ a5) (h5' : a5 < 4294967296) (h6 : 0 ≤ a6) (h6' : a6 < 4294967296) (hs : a7.size ≤ 65515) :
    Calls Try.prog 42 #[.agg #[.int .i64 a0, .int .i64 a1, .int .i64 a2, .int .i64 a3, .int .i64 a4, .int .u32 a5, .int .u32 a6, .string a7]] w fun e w' => e = .returned (.tuple #[.string (packV a0 a1 a2 a3 a4 a5 a6 a7), .int .i64 0]) ∧ Below w.heap.size w w' := by
  have hu58 := Try.underlying58
  have C0 : Hid (∀ w : World, _) := fun w => header64_calls a0 a1 a2 a3 a4 a5 a6 a7 0 w h h5 h5' h6 h6' hs (by omega) (by omega)
  have C2 : Hid (∀ w : World, _) := fun w => header64_calls a0 a1 a2 a3 a4 a5 a6 a7 (sumV (hdrV (20 + a7.size) a0 a1 a2 a3 a4 0 a5 a6)) w h h5 h5' h6 h6' hs (sumV_range _).1 (sumV_range _).2
  have C1 : Hid (∀ w : World, Calls Try.prog 65 #[.string (hdrV (20 + a7.size) a0 a1 a2 a3 a4 0 a5 a6)] w fun e w' => e = .returned (.int .i64 (sumV (hdrV (20 + a7.size) a0 a1 a2 a3 a4 0 a5 a6))) ∧ Below w.heap.size w w') := fun w => (rsum_calls _ rfl w).mono fun e w' ⟨he, hw⟩ => ⟨he, hw ▸ Below.refl _ _⟩
  have HP : Hid (hdrV (20 + a7.size) a0 a1 a2 a3 a4 (sumV (hdrV (20 + a7.size) a0 a1 a2 a3 a4 0 a5 a6)) a5 a6 ++ a7 = packV a0 a1 a2 a3 a4 a5 a6 a7) := rfl
  have hz : (9223372036854775807 < (hdrV (20 + a7.size) a0 a1 a2 a3 a4 (sumV (hdrV (20 + a7.size) a0 a1 a2 a3 a4 0 a5 a6)) a5 a6).size + a7.size) = False := by
    rw [show (hdrV (20 + a7.size) a0 a1 a2 a3 a4 (sumV (hdrV (20 + a7.size) a0 a1 a2 a3 a4 0 a5 a6)) a5 a6).size = 20 from rfl]
    exact eq_false (by omega)
  obtain ⟨p0, p1, p2, p3, p4⟩ := h
  have Y0 : Hid (∀ w, _) := fun w => byteOf_yes a0 p0.1 p0.2 w
  have Y1 : Hid (∀ w, _) := fun w => byteOf_yes a3 p1.1 p1.2 w
  have Y2 : Hid (∀ w, _) := fun w => byteOf_yes a4 p2.1 p2.2 w
  have Y3 : Hid (∀ w, _) := fun w => wordOf_yes a1 p3.1 p3.2 w
  have Y4 : Hid (∀ w, _) := fun w => wordOf_yes a2 p4.1 p4.2 w
  have dl : decide (65515 < (a7.size : Int)) = false := decide_eq_false (by omega)
  have dl2 : decide (65515 < a7.size) = false := decide_eq_false (by omega)
  clear hs p0 p1 p2 p3 p4 h5 h5' h6 h6'
  generalize sumV (hdrV (20 + a7.size) a0 a1 a2 a3 a4 0 a5 a6) = m at *
  generalize hdrV (20 + a7.size) a0 a1 a2 a3 a4 0 a5 a6 = H0 at *
  generalize hdrV (20 + a7.size) a0 a1 a2 a3 a4 m a5 a6 = H1 at *
  go_enter Try.func42, Try.ntmps42
  go_wp2_with (first | (go_at_call 62; (with_reducible refine (Y0.out _).mono ?_); rintro e w' ⟨rfl, rfl⟩) | (go_at_call 62; (with_reducible refine (Y1.out _).mono ?_); rintro e w' ⟨rfl, rfl⟩) | (go_at_call 62; (with_reducible refine (Y2.out _).mono ?_); rintro e w' ⟨rfl, rfl⟩) | (go_at_call 63; (with_reducible refine (Y3.out _).mono ?_); rintro e w' ⟨rfl, rfl⟩) | (go_at_call 63; (with_reducible refine (Y4.out _).mono ?_); rintro e w' ⟨rfl, rfl⟩))
  obtain ⟨A, Z⟩ := box_block w #[.int .i64 a0, .int .i64 a1, .int .i64 a2, .int .i64 a3, .int .i64 a4, .int .u32 a5, .int .u32 a6, .string a7] 58
  replace A := blk_drew A
  replace Z := below_drew1 Z
  try clear hHeld
  refine start_ (n := 10) (S := fun w' => w'.cell? ⟨w.heap.size, 0, none⟩ = some (.int .i64 a0) ∧ w'.cell? ⟨w.heap.size, 1, none⟩ = some (.int .i64 a1) ∧ w'.cell? ⟨w.heap.size, 2, none⟩ = some (.int .i64 a2) ∧ w'.cell? ⟨w.heap.size, 3, none⟩ = some (.int .i64 a3) ∧ w'.cell? ⟨w.heap.size, 4, none⟩ = some (.int .i64 a4) ∧ w'.cell? ⟨w.heap.size, 5, none⟩ = some (.int .u32 a5) ∧ w'.cell? ⟨w.heap.size, 6, none⟩ = some (.int .u32 a6) ∧ w'.cell? ⟨w.heap.size, 7, none⟩ = some (.string a7)) (ds := []) #[false, false, false, false, false, false, false, false, false, false] (by kernel_rfl) rfl rfl (by exact ⟨(blk_cell A 0).trans rfl, (blk_cell A 1).trans rfl, (blk_cell A 2).trans rfl, (blk_cell A 3).trans rfl, (blk_cell A 4).trans rfl, (blk_cell A 5).trans rfl, (blk_cell A 6).trans rfl, (blk_cell A 7).trans rfl⟩) (fun hHeld => ?_)
  generalize (w.alloc (.cells #[.int .i64 a0, .int .i64 a1, .int .i64 a2, .int .i64 a3, .int .i64 a4, .int .u32 a5, .int .u32 a6, .string a7] 58)).drew = W at A Z hHeld ⊢
  refine take_ (i := 0) (N := some 36) (v := ?_) (a' := ?_) #[true, false, false, false, false, false, false, false, false, false] rfl rfl (by kernel_rfl) (fun _ _ _ h => h) (Or.inl ⟨by rfl, ?_⟩) hHeld ?_ ?_
  rotate_left
  · intro w' hS_; (try dsimp only at hS_); go_split_ands; go_simp; try with_reducible rfl
  rotate_left
  · simp only [Act.put, List.setIfInBounds_toArray, List.set_cons_zero, List.set_cons_succ, i64_w, i32_w]; rfl
  refine take_ (i := 1) (N := some 37) (v := ?_) (a' := ?_) #[true, true, false, false, false, false, false, false, false, false] rfl rfl (by kernel_rfl) (fun _ _ _ h => h) (Or.inl ⟨by rfl, ?_⟩) hHeld ?_ ?_
  rotate_left
  · intro w' hS_; (try dsimp only at hS_); go_split_ands; go_simp; try with_reducible rfl
  rotate_left
  · simp only [Act.put, List.setIfInBounds_toArray, List.set_cons_zero, List.set_cons_succ, i64_w, i32_w]; rfl
  refine pure_ (i := 5) (N := some 41) (v := ?_) (a' := ?_) #[true, true, false, false, false, true, false, false, false, false] rfl rfl (by kernel_rfl) (fun _ _ _ h => h) (Or.inl ⟨by rfl, ?_⟩) ?_ ?_
  rotate_left
  · intro w'; go_simp; try with_reducible rfl
  rotate_left
  · simp only [Act.put, List.setIfInBounds_toArray, List.set_cons_zero, List.set_cons_succ, i64_w, i32_w]; rfl
  refine take_ (i := 6) (N := some 42) (v := ?_) (a' := ?_) #[true, true, false, false, false, true, true, false, false, false] rfl rfl (by kernel_rfl) (fun _ _ _ h => h) (Or.inl ⟨by rfl, ?_⟩) hHeld ?_ ?_
  rotate_left
  · intro w' hS_; (try dsimp only at hS_); go_split_ands; go_simp; try with_reducible rfl
  rotate_left
  · simp only [Act.put, List.setIfInBounds_toArray, List.set_cons_zero, List.set_cons_succ, i64_w, i32_w]; rfl
  refine one_ (i := 2) (N := some 38) #[true, true, true, false, false, true, true, false, false, false] rfl rfl (by kernel_rfl) (by decide) (fun K hK => ?_)
  refine goes_ Try.func64 (by kernel_rfl) rfl #[.agg #[.int .i64 a0, .int .i64 a1, .int .i64 a2, .int .i64 a3, .int .i64 a4, .int .u32 a5, .int .u32 a6, .string a7], .int .i64 0] (by rfl) rfl rfl (by (try simp only [List.map_toArray, List.map_cons, List.map_nil]); first | done | rfl) ?_
  with_reducible refine (C0.out _).mono ?_
  rintro e V10 ⟨rfl, hb⟩
  refine ⟨_, rfl, ?_⟩
  replace A := blk_below A hb
  replace Z := Z.trans (hb.mono Z.size)
  clear hb
  try clear hHeld
  refine hK.out _ _ (by exact ⟨(blk_cell A 0).trans rfl, (blk_cell A 1).trans rfl, (blk_cell A 2).trans rfl, (blk_cell A 3).trans rfl, (blk_cell A 4).trans rfl, (blk_cell A 5).trans rfl, (blk_cell A 6).trans rfl, (blk_cell A 7).trans rfl⟩) (fun hHeld => ?_)
  clear hK K
  refine norm_ (a' := ?_) ?_ ?_
  rotate_left
  · show Act.put _ (some 38) _ = _; simp only [Act.put, List.setIfInBounds_toArray, List.set_cons_zero, List.set_cons_succ, i64_w, i32_w]; rfl
  refine one_ (i := 3) (N := some 39) #[true, true, true, true, false, true, true, false, false, false] rfl rfl (by kernel_rfl) (by decide) (fun K hK => ?_)
  refine goes_ Try.func65 (by kernel_rfl) rfl #[.string H0] (by rfl) rfl rfl (by (try simp only [List.map_toArray, List.map_cons, List.map_nil]); first | done | rfl) ?_
  with_reducible refine (C1.out _).mono ?_
  rintro e V11 ⟨rfl, hb⟩
  refine ⟨_, rfl, ?_⟩
  replace A := blk_below A hb
  replace Z := Z.trans (hb.mono Z.size)
  clear hb
  try clear hHeld
  refine hK.out _ _ (by exact ⟨(blk_cell A 0).trans rfl, (blk_cell A 1).trans rfl, (blk_cell A 2).trans rfl, (blk_cell A 3).trans rfl, (blk_cell A 4).trans rfl, (blk_cell A 5).trans rfl, (blk_cell A 6).trans rfl, (blk_cell A 7).trans rfl⟩) (fun hHeld => ?_)
  clear hK K
  refine norm_ (a' := ?_) ?_ ?_
  rotate_left
  · show Act.put _ (some 39) _ = _; simp only [Act.put, List.setIfInBounds_toArray, List.set_cons_zero, List.set_cons_succ, i64_w, i32_w]; rfl
  refine one_ (i := 4) (N := some 40) #[true, true, true, true, true, true, true, false, false, false] rfl rfl (by kernel_rfl) (by decide) (fun K hK => ?_)
  refine goes_ Try.func64 (by kernel_rfl) rfl #[.agg #[.int .i64 a0, .int .i64 a1, .int .i64 a2, .int .i64 a3, .int .i64 a4, .int .u32 a5, .int .u32 a6, .string a7], .int .i64 m] (by rfl) rfl rfl (by (try simp only [List.map_toArray, List.map_cons, List.map_nil]); first | done | rfl) ?_
  with_reducible refine (C2.out _).mono ?_
  rintro e V12 ⟨rfl, hb⟩
  refine ⟨_, rfl, ?_⟩
  replace A := blk_below A hb
  replace Z := Z.trans (hb.mono Z.size)
  clear hb
  try clear hHeld
  refine hK.out _ _ (by exact ⟨(blk_cell A 0).trans rfl, (blk_cell A 1).trans rfl, (blk_cell A 2).trans rfl, (blk_cell A 3).trans rfl, (blk_cell A 4).trans rfl, (blk_cell A 5).trans rfl, (blk_cell A 6).trans rfl, (blk_cell A 7).trans rfl⟩) (fun hHeld => ?_)
  clear hK K
  refine norm_ (a' := ?_) ?_ ?_
  rotate_left
  · show Act.put _ (some 40) _ = _; simp only [Act.put, List.setIfInBounds_toArray, List.set_cons_zero, List.set_cons_succ, i64_w, i32_w]; rfl
  refine pure_ (i := 7) (N := some 43) (v := ?_) (a' := ?_) #[true, true, true, true, true, true, true, true, false, false] rfl rfl (by kernel_rfl) (fun _ _ _ h => h) (Or.inl ⟨by rfl, ?_⟩) ?_ ?_
  rotate_left
  · intro w'; go_simp; try with_reducible rfl
  rotate_left
  · simp only [Act.put, List.setIfInBounds_toArray, List.set_cons_zero, List.set_cons_succ, i64_w, i32_w]; rfl
  refine pure_ (i := 8) (N := some 2) (v := ?_) (a' := ?_) #[true, true, true, true, true, true, true, true, true, false] rfl rfl (by kernel_rfl) (fun _ _ _ h => h) (Or.inl ⟨by rfl, ?_⟩) ?_ ?_
  rotate_left
  · intro w'; go_simp; try with_reducible rfl
  rotate_left
  · simp only [Act.put, List.setIfInBounds_toArray, List.set_cons_zero, List.set_cons_succ, i64_w, i32_w]; rfl
  refine pure_ (i := 9) (N := some 3) (v := ?_) (a' := ?_) #[true, true, true, true, true, true, true, true, true, true] rfl rfl (by kernel_rfl) (fun _ _ _ h => h) (Or.inl ⟨by rfl, ?_⟩) ?_ ?_
  rotate_left
  · intro w'; go_simp; try with_reducible rfl
  rotate_left
  · simp only [Act.put, List.setIfInBounds_toArray, List.set_cons_zero, List.set_cons_succ, i64_w, i32_w]; rfl
  refine done_ (by kernel_rfl) ?_
  go_wp2
  go_ret2
  exact ⟨congrArg (fun x => Ending.returned (.tuple #[.string x, .int .i64 0])) HP.out, Z⟩
theorem build42_calls (a0 a1 a2 a3 a4 a5 a6 : Int) (a7 : ByteArray) (w : World) (h5 : 0 ≤ a5) (h5' : a5 < 4294967296) (h6 : 0 ≤ a6) (h6' : a6 < 4294967296) :
    Calls Try.prog 42 #[.agg #[.int .i64 a0, .int .i64 a1, .int .i64 a2, .int .i64 a3, .int .i64 a4, .int .u32 a5, .int .u32 a6, .string a7]] w fun e w' => e = .returned (.tuple #[.string (buildV a0 a1 a2 a3 a4 a5 a6 a7).1, .int .i64 (buildV a0 a1 a2 a3 a4 a5 a6 a7).2]) ∧ Below w.heap.size w w' := by
  unfold buildV
  by_cases h : okH a0 a1 a2 a3 a4
  · rw [if_pos h]
    by_cases hs : a7.size ≤ 65515
    · rw [if_pos hs]
      exact build42_good a0 a1 a2 a3 a4 a5 a6 a7 w h h5 h5' h6 h6' hs
    · rw [if_neg hs]
      exact build42_long a0 a1 a2 a3 a4 a5 a6 a7 w h (by omega)
  · rw [if_neg h]
    exact build42_bad a0 a1 a2 a3 a4 a5 a6 a7 w h
theorem ret25 (w W : World) (tmps : Array Value) (cs : Array Value) (c : Int) (hp : tmps.getD 2 undef = .pointer (some ⟨w.heap.size, 0, none⟩)) (hu : tmps.getD 3 undef = .int .i64 c) (hg : W.heap[w.heap.size]? = some (.cells cs 58 (0, 0))) (h8 : cs.size = 8) (hb : Below w.heap.size w W) {R : Ending → World → Prop}
    (hR : R (.returned (.tuple #[.agg cs, .int .i64 c])) W) : bodyPost Try.prog Try.f25 R Exit.ret { tmps := tmps, defers := [] } W := by
  have hs : (Try.prog.info? 58).map (·.size) = some cs.size := by rw [h8]; kernel_rfl
  have := results_ct (P := Try.prog) (fn := Try.f25) rfl tmps W w.heap.size 58 cs (0, 0) _ hp hg Try.underlying58 rfl hs
  rw [hu] at this
  exact bodyPost_ret this rfl hR
set_option maxRecDepth 100000 in
set_option maxHeartbeats 1000000 in
theorem rparse_short (s : ByteArray) (w : World) (h : decide ((s.size : Int) < 20) = true) (h' : decide (s.size < 20) = true) :
    Calls Try.prog 25 #[.string s] w fun e w' => e = .returned (hdV (badH 1)) ∧ Below w.heap.size w w' := by
  have hu58 := Try.underlying58
  obtain ⟨A, Z⟩ := box_block w #[.int .i64 0, .int .i64 0, .int .i64 0, .int .i64 0, .int .i64 0, .int .u32 0, .int .u32 0, .string ⟨#[]⟩] 58
  go_enter Try.func25, Try.ntmps25
  go_wp2_with (refine wpList_store_row rfl 58 _ _ rfl w.heap.size _ rfl rfl 58 _ A (by kernel_rfl) rfl (by simp [Value.oneCell']) ?_)
  exact ret25 w _ _ _ 1 rfl rfl (setRow_heap _ _ _ _ _ _ A) rfl (below_setRow Z (Nat.le_refl _) _) ⟨rfl, below_setRow Z (Nat.le_refl _) _⟩
set_option maxRecDepth 100000 in
set_option maxHeartbeats 1000000 in
theorem rparse_kind (s : ByteArray) (w : World) (h : 20 ≤ s.size) (h0 : (bt s 0 == 69) = false) (h0' : (bt s 0 != 69) = true) :
    Calls Try.prog 25 #[.string s] w fun e w' => e = .returned (hdV (badH 3)) ∧ Below w.heap.size w w' := by
  have hu58 := Try.underlying58
  have c1 : decide ((s.size : Int) < 20) = false := decide_eq_false (by omega)
  have c1' : decide (s.size < 20) = false := decide_eq_false (by omega)
  have q0 : (0 < s.size) = True := eq_true (by omega)
  have x0 : ∀ h : 0 < s.size, ((s[0]'h).toNat : Int) = bt s 0 := bt_at s 0
  have i0 : (0 < (s.size : Int)) = True := eq_true (by omega)
  clear h
  obtain ⟨A, Z⟩ := box_block w #[.int .i64 0, .int .i64 0, .int .i64 0, .int .i64 0, .int .i64 0, .int .u32 0, .int .u32 0, .string ⟨#[]⟩] 58
  go_enter Try.func25, Try.ntmps25
  go_wp2_with (refine wpList_store_row rfl 58 _ _ rfl w.heap.size _ rfl rfl 58 _ A (by kernel_rfl) rfl (by simp [Value.oneCell']) ?_)
  exact ret25 w _ _ _ 3 rfl rfl (setRow_heap _ _ _ _ _ _ A) rfl (below_setRow Z (Nat.le_refl _) _) ⟨rfl, below_setRow Z (Nat.le_refl _) _⟩
set_option maxRecDepth 100000 in
set_option maxHeartbeats 1000000 in
theorem rparse_less (s : ByteArray) (w : World) (h : 20 ≤ s.size) (h0 : (bt s 0 == 69) = true) (h0' : (bt s 0 != 69) = false) (n : Int) (hn : numV (s.extract 2 4) = n) (hl : decide (n < 20) = true) :
    Calls Try.prog 25 #[.string s] w fun e w' => e = .returned (hdV (badH 1)) ∧ Below w.heap.size w w' := by
  have hu58 := Try.underlying58
  have c1 : decide ((s.size : Int) < 20) = false := decide_eq_false (by omega)
  have c1' : decide (s.size < 20) = false := decide_eq_false (by omega)
  have q0 : (0 < s.size) = True := eq_true (by omega)
  have x0 : ∀ h : 0 < s.size, ((s[0]'h).toNat : Int) = bt s 0 := bt_at s 0
  have i0 : (0 < (s.size : Int)) = True := eq_true (by omega)
  have i4 : (4 ≤ (s.size : Int)) = True := eq_true (by omega)
  have G : Hid (∀ w, _) := fun w => number_at s 2 4 (by omega) (by omega) w hn
  clear h hn
  obtain ⟨A, Z⟩ := box_block w #[.int .i64 0, .int .i64 0, .int .i64 0, .int .i64 0, .int .i64 0, .int .u32 0, .int .u32 0, .string ⟨#[]⟩] 58
  go_enter Try.func25, Try.ntmps25
  go_wp2_with (first | (go_at_call 41; (with_reducible refine (G.out _).mono ?_); rintro e w' ⟨rfl, rfl⟩) | (refine wpList_store_row rfl 58 _ _ rfl w.heap.size _ rfl rfl 58 _ A (by kernel_rfl) rfl (by simp [Value.oneCell']) ?_))
  exact ret25 w _ _ _ 1 rfl rfl (setRow_heap _ _ _ _ _ _ A) rfl (below_setRow Z (Nat.le_refl _) _) ⟨rfl, below_setRow Z (Nat.le_refl _) _⟩
set_option maxRecDepth 100000 in
set_option maxHeartbeats 1000000 in
theorem rparse_len (s : ByteArray) (w : World) (h : 20 ≤ s.size) (h0 : (bt s 0 == 69) = true) (h0' : (bt s 0 != 69) = false) (n : Int) (hn : numV (s.extract 2 4) = n) (hl : decide (n < 20) = false) (b : Bool) (hs : decide ((s.size : Int) < n) = b) (he : b = false → decide (n < (s.size : Int)) = true) :
    Calls Try.prog 25 #[.string s] w fun e w' => e = .returned (hdV (badH (if b then 1 else 6))) ∧ Below w.heap.size w w' := by
  have hu58 := Try.underlying58
  have c1 : decide ((s.size : Int) < 20) = false := decide_eq_false (by omega)
  have c1' : decide (s.size < 20) = false := decide_eq_false (by omega)
  have q0 : (0 < s.size) = True := eq_true (by omega)
  have x0 : ∀ h : 0 < s.size, ((s[0]'h).toNat : Int) = bt s 0 := bt_at s 0
  have i0 : (0 < (s.size : Int)) = True := eq_true (by omega)
  have i4 : (4 ≤ (s.size : Int)) = True := eq_true (by omega)
  have G : Hid (∀ w, _) := fun w => number_at s 2 4 (by omega) (by omega) w hn
  clear h hn
  obtain ⟨A, Z⟩ := box_block w #[.int .i64 0, .int .i64 0, .int .i64 0, .int .i64 0, .int .i64 0, .int .u32 0, .int .u32 0, .string ⟨#[]⟩] 58
  cases b
  · replace he := he rfl
    go_enter Try.func25, Try.ntmps25
    go_wp2_with (first | (go_at_call 41; (with_reducible refine (G.out _).mono ?_); rintro e w' ⟨rfl, rfl⟩) | (refine wpList_store_row rfl 58 _ _ rfl w.heap.size _ rfl rfl 58 _ A (by kernel_rfl) rfl (by simp [Value.oneCell']) ?_))
    exact ret25 w _ _ _ 6 rfl rfl (setRow_heap _ _ _ _ _ _ A) rfl (below_setRow Z (Nat.le_refl _) _) ⟨rfl, below_setRow Z (Nat.le_refl _) _⟩
  · clear he
    go_enter Try.func25, Try.ntmps25
    go_wp2_with (first | (go_at_call 41; (with_reducible refine (G.out _).mono ?_); rintro e w' ⟨rfl, rfl⟩) | (refine wpList_store_row rfl 58 _ _ rfl w.heap.size _ rfl rfl 58 _ A (by kernel_rfl) rfl (by simp [Value.oneCell']) ?_))
    exact ret25 w _ _ _ 1 rfl rfl (setRow_heap _ _ _ _ _ _ A) rfl (below_setRow Z (Nat.le_refl _) _) ⟨rfl, below_setRow Z (Nat.le_refl _) _⟩
end Go.Proofs.Ytcpneggifmldoaa.T

/-
  Part 7 of the texts of this claim: IpR, IpQ, Tx21, Tx22, Tx23, Tx24.
-/
import Derived.Test.YtcpneggifmldoaaTPpf
import Derived.Deep.RegionHeld3
import Derived.Deep.WholeRow
import Derived.Laws.CopyOwn
import Derived.WalkLawsBesides
import Derived.Outline
set_option linter.unusedVariables false
set_option linter.unusedSimpArgs false
namespace Go.Proofs.Ytcpneggifmldoaa.T
open Go.RowKit Go.Proofs.YtcpneggifmldoaaW.PrintWords Go.Proofs.YtcpneggifmldoaaW.PrintLast Go.Proofs.YtcpneggifmldoaaW.PrintMore Go
theorem b1_calls (n : Int) (h0 : 0 ≤ n) (h1 : n < 9223372036854775808) (w : World) : Calls Try.prog 79 #[.int .i64 n, .int .i64 1] w fun e w' => e = .returned (.string ⟨#[u8 n]⟩) ∧ Below w.heap.size w w' := vizardref02_b.calls 2 n 1 _ w (b1_f 0 n h0 h1)
theorem b2_calls (n : Int) (h0 : 0 ≤ n) (h1 : n < 9223372036854775808) (w : World) : Calls Try.prog 79 #[.int .i64 n, .int .i64 2] w fun e w' => e = .returned (.string ⟨#[u8 (n / 256), u8 n]⟩) ∧ Below w.heap.size w w' := vizardref02_b.calls 3 n 2 _ w (b2_f 0 n h0 h1)
theorem b4_calls (n : Int) (h0 : 0 ≤ n) (h1 : n < 9223372036854775808) (w : World) : Calls Try.prog 79 #[.int .i64 n, .int .i64 4] w fun e w' => e = .returned (.string ⟨#[u8 (n / 16777216), u8 (n / 65536), u8 (n / 256), u8 n]⟩) ∧ Below w.heap.size w w' := vizardref02_b.calls 5 n 4 _ w (b4_f 0 n h0 h1)
theorem box_block (w : World) (a : Array Value) (t : TypeId) : (w.alloc (.cells a t)).heap[w.heap.size]? = some (.cells a t (0, 0)) ∧ Below w.heap.size w (w.alloc (.cells a t)) := ⟨blk_new w _, (Below.refl _ w).alloc (Nat.le_refl _) _⟩
theorem cat_hdr (x : ByteArray) (s0 s1 s2 s3 s4 s5 s6 s7 s8 : ByteArray) (len a0 a1 a2 a3 a4 m a5 a6 : Int) (e0 : s0 = ⟨#[u8 a0]⟩) (e1 : s1 = ⟨#[u8 (len / 256), u8 len]⟩) (e2 : s2 = ⟨#[u8 (a1 / 256), u8 a1]⟩) (e3 : s3 = ⟨#[u8 (a2 / 256), u8 a2]⟩) (e4 : s4 = ⟨#[u8 a3]⟩) (e5 : s5 = ⟨#[u8 a4]⟩) (e6 : s6 = ⟨#[u8 (m / 256), u8 m]⟩)
    (e7 : s7 = ⟨#[u8 (a5 / 16777216), u8 (a5 / 65536), u8 (a5 / 256), u8 a5]⟩) (e8 : s8 = ⟨#[u8 (a6 / 16777216), u8 (a6 / 65536), u8 (a6 / 256), u8 a6]⟩) (hx : x = ⟨#[69]⟩ ++ s0 ++ s1 ++ s2 ++ s3 ++ s4 ++ s5 ++ s6 ++ s7 ++ s8) : x = hdrV len a0 a1 a2 a3 a4 m a5 a6 := by
  subst e0 e1 e2 e3 e4 e5 e6 e7 e8
  rw [hx]
  apply ByteArray.ext
  simp [hdrV, ByteArray.data_append]
set_option maxRecDepth 100000 in
set_option maxHeartbeats 20000000 in
theorem header64_calls (a0 a1 a2 a3 a4 a5 a6 : Int) (a7 : ByteArray) (m : Int) (w : World) (h : okH a0 a1 a2 a3 a4) (h5 : 0 ≤ a5) (h5' : a5 < 4294967296) (h6 : 0 ≤ a6) (h6' : a6 < 4294967296) (hs : a7.size ≤ 65515) (hm : 0 ≤ m) (hm' : m ≤ 65535) :
    Calls Try.prog 64 #[.agg #[.int .i64 a0, .int .i64 a1, .int .i64 a2, .int .i64 a3, .int .i64 a4, .int .u32 a5, .int .u32 a6, .string a7], .int .i64 m] w fun e w' => e = .returned (.string (hdrV (20 + a7.size) a0 a1 a2 a3 a4 m a5 a6)) ∧ Below w.heap.size w w' := by
  obtain ⟨⟨g0, g1⟩, ⟨g2, g3⟩, ⟨g4, g5⟩, ⟨g6, g7⟩, g8, g9⟩ := h
  have hu58 := Try.underlying58
  have wl : wrap64 (20 + (a7.size : Int)) = 20 + a7.size := by unfold wrap64; omega
  have wi : IntKind.i64.wrap (20 + (a7.size : Int)) = 20 + a7.size := by rw [IntKind.wrap_i64]; omega
  have v5 : wrap64 a5 = a5 := by unfold wrap64; omega
  have v6 : wrap64 a6 = a6 := by unfold wrap64; omega
  obtain ⟨s0, E0⟩ : ∃ s : ByteArray, s = ⟨#[u8 a0]⟩ := ⟨_, rfl⟩
  obtain ⟨s1, E1⟩ : ∃ s : ByteArray, s = ⟨#[u8 ((20 + (a7.size : Int)) / 256), u8 (20 + (a7.size : Int))]⟩ := ⟨_, rfl⟩
  obtain ⟨s2, E2⟩ : ∃ s : ByteArray, s = ⟨#[u8 (a1 / 256), u8 a1]⟩ := ⟨_, rfl⟩
  obtain ⟨s3, E3⟩ : ∃ s : ByteArray, s = ⟨#[u8 (a2 / 256), u8 a2]⟩ := ⟨_, rfl⟩
  obtain ⟨s4, E4⟩ : ∃ s : ByteArray, s = ⟨#[u8 a3]⟩ := ⟨_, rfl⟩
  obtain ⟨s5, E5⟩ : ∃ s : ByteArray, s = ⟨#[u8 a4]⟩ := ⟨_, rfl⟩
  obtain ⟨s6, E6⟩ : ∃ s : ByteArray, s = ⟨#[u8 (m / 256), u8 m]⟩ := ⟨_, rfl⟩
  obtain ⟨s7, E7⟩ : ∃ s : ByteArray, s = ⟨#[u8 (a5 / 16777216), u8 (a5 / 65536), u8 (a5 / 256), u8 a5]⟩ := ⟨_, rfl⟩
  obtain ⟨s8, E8⟩ : ∃ s : ByteArray, s = ⟨#[u8 (a6 / 16777216), u8 (a6 / 65536), u8 (a6 / 256), u8 a6]⟩ := ⟨_, rfl⟩
  have z0 : s0.size = 1 := by rw [E0]; rfl
  have z1 : s1.size = 2 := by rw [E1]; rfl
  have z2 : s2.size = 2 := by rw [E2]; rfl
  have z3 : s3.size = 2 := by rw [E3]; rfl
  have z4 : s4.size = 1 := by rw [E4]; rfl
  have z5 : s5.size = 1 := by rw [E5]; rfl
  have z6 : s6.size = 2 := by rw [E6]; rfl
  have z7 : s7.size = 4 := by rw [E7]; rfl
  have z8 : s8.size = 4 := by rw [E8]; rfl
  have C0 : Hid (∀ w : World, _) := fun w => b1_calls a0 (by omega) (by omega) w
  have C1 : Hid (∀ w : World, _) := fun w => b2_calls (20 + (a7.size : Int)) (by omega) (by omega) w
  have C2 : Hid (∀ w : World, _) := fun w => b2_calls a1 (by omega) (by omega) w
  have C3 : Hid (∀ w : World, _) := fun w => b2_calls a2 (by omega) (by omega) w
  have C4 : Hid (∀ w : World, _) := fun w => b1_calls a3 (by omega) (by omega) w
  have C5 : Hid (∀ w : World, _) := fun w => b1_calls a4 (by omega) (by omega) w
  have C6 : Hid (∀ w : World, _) := fun w => b2_calls m (by omega) (by omega) w
  have C7 : Hid (∀ w : World, Calls Try.prog 79 #[.int .i64 (wrap64 a5), .int .i64 4] w fun e w' => e = .returned (.string s7) ∧ Below w.heap.size w w') := fun w => by rw [v5, E7]; exact b4_calls a5 (by omega) (by omega) w
  have C8 : Hid (∀ w : World, Calls Try.prog 79 #[.int .i64 (wrap64 a6), .int .i64 4] w fun e w' => e = .returned (.string s8) ∧ Below w.heap.size w w') := fun w => by rw [v6, E8]; exact b4_calls a6 (by omega) (by omega) w
  rw [← E0] at C0
  rw [← E1] at C1
  rw [← E2] at C2
  rw [← E3] at C3
  rw [← E4] at C4
  rw [← E5] at C5
  rw [← E6] at C6
  have HX : Hid (∀ x : ByteArray, x = ⟨#[69]⟩ ++ s0 ++ s1 ++ s2 ++ s3 ++ s4 ++ s5 ++ s6 ++ s7 ++ s8 → x = hdrV (20 + (a7.size : Int)) a0 a1 a2 a3 a4 m a5 a6) := fun x hx => cat_hdr x s0 s1 s2 s3 s4 s5 s6 s7 s8 _ _ _ _ _ _ _ _ _ E0 E1 E2 E3 E4 E5 E6 E7 E8 hx
  clear E0 E1 E2 E3 E4 E5 E6 E7 E8 g0 g1 g2 g3 g4 g5 g6 g7 g8 g9 hs hm hm' h5 h5' h6 h6'
  go_enter Try.func64, Try.ntmps64
  go_wp2
  obtain ⟨A, Z⟩ := box_block w #[.int .i64 a0, .int .i64 a1, .int .i64 a2, .int .i64 a3, .int .i64 a4, .int .u32 a5, .int .u32 a6, .string a7] 58
  replace A := blk_drew A
  replace Z := below_drew1 Z
  try clear hHeld
  refine start_ (n := 40) (S := fun w' => w'.cell? ⟨w.heap.size, 0, none⟩ = some (.int .i64 a0) ∧ w'.cell? ⟨w.heap.size, 1, none⟩ = some (.int .i64 a1) ∧ w'.cell? ⟨w.heap.size, 2, none⟩ = some (.int .i64 a2) ∧ w'.cell? ⟨w.heap.size, 3, none⟩ = some (.int .i64 a3) ∧ w'.cell? ⟨w.heap.size, 4, none⟩ = some (.int .i64 a4) ∧ w'.cell? ⟨w.heap.size, 5, none⟩ = some (.int .u32 a5) ∧ w'.cell? ⟨w.heap.size, 6, none⟩ = some (.int .u32 a6) ∧ w'.cell? ⟨w.heap.size, 7, none⟩ = some (.string a7)) (ds := []) #[false, false, false, false, false, false, false, false, false, false, false, false, false, false, false, false, false, false, false, false, false, false, false, false, false, false, false, false, false, false, false, false, false, false, false, false, false, false, false, false] (by kernel_rfl) rfl rfl (by exact ⟨(blk_cell A 0).trans rfl, (blk_cell A 1).trans rfl, (blk_cell A 2).trans rfl, (blk_cell A 3).trans rfl, (blk_cell A 4).trans rfl, (blk_cell A 5).trans rfl, (blk_cell A 6).trans rfl, (blk_cell A 7).trans rfl⟩) (fun hHeld => ?_)
  generalize (w.alloc (.cells #[.int .i64 a0, .int .i64 a1, .int .i64 a2, .int .i64 a3, .int .i64 a4, .int .u32 a5, .int .u32 a6, .string a7] 58)).drew = W at A Z hHeld ⊢
  refine pure_ (i := 0) (N := some 5) (v := ?_) (a' := ?_) #[true, false, false, false, false, false, false, false, false, false, false, false, false, false, false, false, false, false, false, false, false, false, false, false, false, false, false, false, false, false, false, false, false, false, false, false, false, false, false, false] rfl rfl (by kernel_rfl) (fun _ _ _ h => h) (Or.inl ⟨by rfl, ?_⟩) ?_ ?_
  rotate_left
  · intro w'; go_simp; try with_reducible rfl
  rotate_left
  · simp only [Act.put, List.setIfInBounds_toArray, List.set_cons_zero, List.set_cons_succ, i64_w, i32_w]; rfl
  refine take_ (i := 1) (N := some 6) (v := ?_) (a' := ?_) #[true, true, false, false, false, false, false, false, false, false, false, false, false, false, false, false, false, false, false, false, false, false, false, false, false, false, false, false, false, false, false, false, false, false, false, false, false, false, false, false] rfl rfl (by kernel_rfl) (fun _ _ _ h => h) (Or.inl ⟨by rfl, ?_⟩) hHeld ?_ ?_
  rotate_left
  · intro w' hS_; (try dsimp only at hS_); go_split_ands; go_simp; try with_reducible rfl
  rotate_left
  · simp only [Act.put, List.setIfInBounds_toArray, List.set_cons_zero, List.set_cons_succ, i64_w, i32_w]; rfl
  refine pure_ (i := 4) (N := some 9) (v := ?_) (a' := ?_) #[true, true, false, false, true, false, false, false, false, false, false, false, false, false, false, false, false, false, false, false, false, false, false, false, false, false, false, false, false, false, false, false, false, false, false, false, false, false, false, false] rfl rfl (by kernel_rfl) (fun _ _ _ h => h) (Or.inl ⟨by rfl, ?_⟩) ?_ ?_
  rotate_left
  · intro w'; go_simp; try with_reducible rfl
  rotate_left
  · simp only [Act.put, List.setIfInBounds_toArray, List.set_cons_zero, List.set_cons_succ, i64_w, i32_w]; rfl
  refine take_ (i := 5) (N := some 10) (v := ?_) (a' := ?_) #[true, true, false, false, true, true, false, false, false, false, false, false, false, false, false, false, false, false, false, false, false, false, false, false, false, false, false, false, false, false, false, false, false, false, false, false, false, false, false, false] rfl rfl (by kernel_rfl) (fun _ _ _ h => h) (Or.inl ⟨by rfl, ?_⟩) hHeld ?_ ?_
  rotate_left
  · intro w' hS_; (try dsimp only at hS_); go_split_ands; go_simp; try with_reducible rfl
  rotate_left
  · simp only [Act.put, List.setIfInBounds_toArray, List.set_cons_zero, List.set_cons_succ, i64_w, i32_w]; rfl
  refine pure_ (i := 6) (N := some 11) (v := ?_) (a' := ?_) #[true, true, false, false, true, true, true, false, false, false, false, false, false, false, false, false, false, false, false, false, false, false, false, false, false, false, false, false, false, false, false, false, false, false, false, false, false, false, false, false] rfl rfl (by kernel_rfl) (fun _ _ _ h => h) (Or.inl ⟨by rfl, ?_⟩) ?_ ?_
  rotate_left
  · intro w'; go_simp; try with_reducible rfl
  rotate_left
  · simp only [Act.put, List.setIfInBounds_toArray, List.set_cons_zero, List.set_cons_succ, i64_w, i32_w]; rfl
  refine pure_ (i := 7) (N := some 12) (v := ?_) (a' := ?_) #[true, true, false, false, true, true, true, true, false, false, false, false, false, false, false, false, false, false, false, false, false, false, false, false, false, false, false, false, false, false, false, false, false, false, false, false, false, false, false, false] rfl rfl (by kernel_rfl) (fun _ _ _ h => h) (Or.inl ⟨by rfl, ?_⟩) ?_ ?_
  rotate_left
  · intro w'; go_simp; try with_reducible rfl
  rotate_left
  · simp only [Act.put, List.setIfInBounds_toArray, List.set_cons_zero, List.set_cons_succ, i64_w, i32_w]; rfl
  refine pure_ (i := 10) (N := some 15) (v := ?_) (a' := ?_) #[true, true, false, false, true, true, true, true, false, false, true, false, false, false, false, false, false, false, false, false, false, false, false, false, false, false, false, false, false, false, false, false, false, false, false, false, false, false, false, false] rfl rfl (by kernel_rfl) (fun _ _ _ h => h) (Or.inl ⟨by rfl, ?_⟩) ?_ ?_
  rotate_left
  · intro w'; go_simp; try with_reducible rfl
  rotate_left
  · simp only [Act.put, List.setIfInBounds_toArray, List.set_cons_zero, List.set_cons_succ, i64_w, i32_w]; rfl
  refine take_ (i := 11) (N := some 16) (v := ?_) (a' := ?_) #[true, true, false, false, true, true, true, true, false, false, true, true, false, false, false, false, false, false, false, false, false, false, false, false, false, false, false, false, false, false, false, false, false, false, false, false, false, false, false, false] rfl rfl (by kernel_rfl) (fun _ _ _ h => h) (Or.inl ⟨by rfl, ?_⟩) hHeld ?_ ?_
  rotate_left
  · intro w' hS_; (try dsimp only at hS_); go_split_ands; go_simp; try with_reducible rfl
  rotate_left
  · simp only [Act.put, List.setIfInBounds_toArray, List.set_cons_zero, List.set_cons_succ, i64_w, i32_w]; rfl
  refine pure_ (i := 14) (N := some 19) (v := ?_) (a' := ?_) #[true, true, false, false, true, true, true, true, false, false, true, true, false, false, true, false, false, false, false, false, false, false, false, false, false, false, false, false, false, false, false, false, false, false, false, false, false, false, false, false] rfl rfl (by kernel_rfl) (fun _ _ _ h => h) (Or.inl ⟨by rfl, ?_⟩) ?_ ?_
  rotate_left
  · intro w'; go_simp; try with_reducible rfl
  rotate_left
  · simp only [Act.put, List.setIfInBounds_toArray, List.set_cons_zero, List.set_cons_succ, i64_w, i32_w]; rfl
  refine take_ (i := 15) (N := some 20) (v := ?_) (a' := ?_) #[true, true, false, false, true, true, true, true, false, false, true, true, false, false, true, true, false, false, false, false, false, false, false, false, false, false, false, false, false, false, false, false, false, false, false, false, false, false, false, false] rfl rfl (by kernel_rfl) (fun _ _ _ h => h) (Or.inl ⟨by rfl, ?_⟩) hHeld ?_ ?_
  rotate_left
  · intro w' hS_; (try dsimp only at hS_); go_split_ands; go_simp; try with_reducible rfl
  rotate_left
  · simp only [Act.put, List.setIfInBounds_toArray, List.set_cons_zero, List.set_cons_succ, i64_w, i32_w]; rfl
  refine pure_ (i := 18) (N := some 23) (v := ?_) (a' := ?_) #[true, true, false, false, true, true, true, true, false, false, true, true, false, false, true, true, false, false, true, false, false, false, false, false, false, false, false, false, false, false, false, false, false, false, false, false, false, false, false, false] rfl rfl (by kernel_rfl) (fun _ _ _ h => h) (Or.inl ⟨by rfl, ?_⟩) ?_ ?_
  rotate_left
  · intro w'; go_simp; try with_reducible rfl
  rotate_left
  · simp only [Act.put, List.setIfInBounds_toArray, List.set_cons_zero, List.set_cons_succ, i64_w, i32_w]; rfl
  refine take_ (i := 19) (N := some 24) (v := ?_) (a' := ?_) #[true, true, false, false, true, true, true, true, false, false, true, true, false, false, true, true, false, false, true, true, false, false, false, false, false, false, false, false, false, false, false, false, false, false, false, false, false, false, false, false] rfl rfl (by kernel_rfl) (fun _ _ _ h => h) (Or.inl ⟨by rfl, ?_⟩) hHeld ?_ ?_
  rotate_left
  · intro w' hS_; (try dsimp only at hS_); go_split_ands; go_simp; try with_reducible rfl
  rotate_left
  · simp only [Act.put, List.setIfInBounds_toArray, List.set_cons_zero, List.set_cons_succ, i64_w, i32_w]; rfl
  refine pure_ (i := 22) (N := some 27) (v := ?_) (a' := ?_) #[true, true, false, false, true, true, true, true, false, false, true, true, false, false, true, true, false, false, true, true, false, false, true, false, false, false, false, false, false, false, false, false, false, false, false, false, false, false, false, false] rfl rfl (by kernel_rfl) (fun _ _ _ h => h) (Or.inl ⟨by rfl, ?_⟩) ?_ ?_
  rotate_left
  · intro w'; go_simp; try with_reducible rfl
  rotate_left
  · simp only [Act.put, List.setIfInBounds_toArray, List.set_cons_zero, List.set_cons_succ, i64_w, i32_w]; rfl
  refine take_ (i := 23) (N := some 28) (v := ?_) (a' := ?_) #[true, true, false, false, true, true, true, true, false, false, true, true, false, false, true, true, false, false, true, true, false, false, true, true, false, false, false, false, false, false, false, false, false, false, false, false, false, false, false, false] rfl rfl (by kernel_rfl) (fun _ _ _ h => h) (Or.inl ⟨by rfl, ?_⟩) hHeld ?_ ?_
  rotate_left
  · intro w' hS_; (try dsimp only at hS_); go_split_ands; go_simp; try with_reducible rfl
  rotate_left
  · simp only [Act.put, List.setIfInBounds_toArray, List.set_cons_zero, List.set_cons_succ, i64_w, i32_w]; rfl
  refine pure_ (i := 26) (N := some 31) (v := ?_) (a' := ?_) #[true, true, false, false, true, true, true, true, false, false, true, true, false, false, true, true, false, false, true, true, false, false, true, true, false, false, true, false, false, false, false, false, false, false, false, false, false, false, false, false] rfl rfl (by kernel_rfl) (fun _ _ _ h => h) (Or.inl ⟨by rfl, ?_⟩) ?_ ?_
  rotate_left
  · intro w'; go_simp; try with_reducible rfl
  rotate_left
  · simp only [Act.put, List.setIfInBounds_toArray, List.set_cons_zero, List.set_cons_succ, i64_w, i32_w]; rfl
  refine pure_ (i := 29) (N := some 34) (v := ?_) (a' := ?_) #[true, true, false, false, true, true, true, true, false, false, true, true, false, false, true, true, false, false, true, true, false, false, true, true, false, false, true, false, false, true, false, false, false, false, false, false, false, false, false, false] rfl rfl (by kernel_rfl) (fun _ _ _ h => h) (Or.inl ⟨by rfl, ?_⟩) ?_ ?_
  rotate_left
  · intro w'; go_simp; try with_reducible rfl
  rotate_left
  · simp only [Act.put, List.setIfInBounds_toArray, List.set_cons_zero, List.set_cons_succ, i64_w, i32_w]; rfl
  refine take_ (i := 30) (N := some 35) (v := ?_) (a' := ?_) #[true, true, false, false, true, true, true, true, false, false, true, true, false, false, true, true, false, false, true, true, false, false, true, true, false, false, true, false, false, true, true, false, false, false, false, false, false, false, false, false] rfl rfl (by kernel_rfl) (fun _ _ _ h => h) (Or.inl ⟨by rfl, ?_⟩) hHeld ?_ ?_
  rotate_left
  · intro w' hS_; (try dsimp only at hS_); go_split_ands; go_simp; try with_reducible rfl
  rotate_left
  · simp only [Act.put, List.setIfInBounds_toArray, List.set_cons_zero, List.set_cons_succ, i64_w, i32_w]; rfl
  refine pure_ (i := 31) (N := some 36) (v := ?_) (a' := ?_) #[true, true, false, false, true, true, true, true, false, false, true, true, false, false, true, true, false, false, true, true, false, false, true, true, false, false, true, false, false, true, true, true, false, false, false, false, false, false, false, false] rfl rfl (by kernel_rfl) (fun _ _ _ h => h) (Or.inl ⟨by rfl, ?_⟩) ?_ ?_
  rotate_left
  · intro w'; go_simp; try with_reducible rfl
  rotate_left
  · simp only [Act.put, List.setIfInBounds_toArray, List.set_cons_zero, List.set_cons_succ, i64_w, i32_w]; rfl
  refine pure_ (i := 34) (N := some 39) (v := ?_) (a' := ?_) #[true, true, false, false, true, true, true, true, false, false, true, true, false, false, true, true, false, false, true, true, false, false, true, true, false, false, true, false, false, true, true, true, false, false, true, false, false, false, false, false] rfl rfl (by kernel_rfl) (fun _ _ _ h => h) (Or.inl ⟨by rfl, ?_⟩) ?_ ?_
  rotate_left
  · intro w'; go_simp; try with_reducible rfl
  rotate_left
  · simp only [Act.put, List.setIfInBounds_toArray, List.set_cons_zero, List.set_cons_succ, i64_w, i32_w]; rfl
  refine take_ (i := 35) (N := some 40) (v := ?_) (a' := ?_) #[true, true, false, false, true, true, true, true, false, false, true, true, false, false, true, true, false, false, true, true, false, false, true, true, false, false, true, false, false, true, true, true, false, false, true, true, false, false, false, false] rfl rfl (by kernel_rfl) (fun _ _ _ h => h) (Or.inl ⟨by rfl, ?_⟩) hHeld ?_ ?_
  rotate_left
  · intro w' hS_; (try dsimp only at hS_); go_split_ands; go_simp; try with_reducible rfl
  rotate_left
  · simp only [Act.put, List.setIfInBounds_toArray, List.set_cons_zero, List.set_cons_succ, i64_w, i32_w]; rfl
  refine pure_ (i := 36) (N := some 41) (v := ?_) (a' := ?_) #[true, true, false, false, true, true, true, true, false, false, true, true, false, false, true, true, false, false, true, true, false, false, true, true, false, false, true, false, false, true, true, true, false, false, true, true, true, false, false, false] rfl rfl (by kernel_rfl) (fun _ _ _ h => h) (Or.inl ⟨by rfl, ?_⟩) ?_ ?_
  rotate_left
  · intro w'; go_simp; try with_reducible rfl
  rotate_left
  · simp only [Act.put, List.setIfInBounds_toArray, List.set_cons_zero, List.set_cons_succ, i64_w, i32_w]; rfl
  refine one_ (i := 2) (N := some 7) #[true, true, true, false, true, true, true, true, false, false, true, true, false, false, true, true, false, false, true, true, false, false, true, true, false, false, true, false, false, true, true, true, false, false, true, true, true, false, false, false] rfl rfl (by kernel_rfl) (by decide) (fun K hK => ?_)
  refine goes_ Try.func79 (by kernel_rfl) rfl #[.int .i64 a0, .int .i64 1] (by rfl) rfl rfl (by (try simp only [List.map_toArray, List.map_cons, List.map_nil]); first | done | rfl) ?_
  with_reducible refine (C0.out _).mono ?_
  rintro e V1 ⟨rfl, hb⟩
  refine ⟨_, rfl, ?_⟩
  replace A := blk_below A hb
  replace Z := Z.trans (hb.mono Z.size)
  clear hb
  try clear hHeld
  refine hK.out _ _ (by exact ⟨(blk_cell A 0).trans rfl, (blk_cell A 1).trans rfl, (blk_cell A 2).trans rfl, (blk_cell A 3).trans rfl, (blk_cell A 4).trans rfl, (blk_cell A 5).trans rfl, (blk_cell A 6).trans rfl, (blk_cell A 7).trans rfl⟩) (fun hHeld => ?_)
  clear hK K
  refine norm_ (a' := ?_) ?_ ?_
  rotate_left
  · show Act.put _ (some 7) _ = _; simp only [Act.put, List.setIfInBounds_toArray, List.set_cons_zero, List.set_cons_succ, i64_w, i32_w]; rfl
  refine pure_ (i := 3) (N := some 8) (v := ?_) (a' := ?_) #[true, true, true, true, true, true, true, true, false, false, true, true, false, false, true, true, false, false, true, true, false, false, true, true, false, false, true, false, false, true, true, true, false, false, true, true, true, false, false, false] rfl rfl (by kernel_rfl) (fun _ _ _ h => h) (Or.inl ⟨by rfl, ?_⟩) ?_ ?_
  rotate_left
  · intro w'; go_simp; try with_reducible rfl
  rotate_left
  · simp only [Act.put, List.setIfInBounds_toArray, List.set_cons_zero, List.set_cons_succ, i64_w, i32_w]; rfl
  refine one_ (i := 8) (N := some 13) #[true, true, true, true, true, true, true, true, true, false, true, true, false, false, true, true, false, false, true, true, false, false, true, true, false, false, true, false, false, true, true, true, false, false, true, true, true, false, false, false] rfl rfl (by kernel_rfl) (by decide) (fun K hK => ?_)
  refine goes_ Try.func79 (by kernel_rfl) rfl #[.int .i64 (20 + (a7.size : Int)), .int .i64 2] (by rfl) rfl rfl (by (try simp only [List.map_toArray, List.map_cons, List.map_nil]); first | done | rfl) ?_
  with_reducible refine (C1.out _).mono ?_
  rintro e V2 ⟨rfl, hb⟩
  refine ⟨_, rfl, ?_⟩
  replace A := blk_below A hb
  replace Z := Z.trans (hb.mono Z.size)
  clear hb
  try clear hHeld
  refine hK.out _ _ (by exact ⟨(blk_cell A 0).trans rfl, (blk_cell A 1).trans rfl, (blk_cell A 2).trans rfl, (blk_cell A 3).trans rfl, (blk_cell A 4).trans rfl, (blk_cell A 5).trans rfl, (blk_cell A 6).trans rfl, (blk_cell A 7).trans rfl⟩) (fun hHeld => ?_)
  clear hK K
  refine norm_ (a' := ?_) ?_ ?_
  rotate_left
  · show Act.put _ (some 13) _ = _; simp only [Act.put, List.setIfInBounds_toArray, List.set_cons_zero, List.set_cons_succ, i64_w, i32_w]; rfl
  refine pure_ (i := 9) (N := some 14) (v := ?_) (a' := ?_) #[true, true, true, true, true, true, true, true, true, true, true, true, false, false, true, true, false, false, true, true, false, false, true, true, false, false, true, false, false, true, true, true, false, false, true, true, true, false, false, false] rfl rfl (by kernel_rfl) (fun _ _ _ h => h) (Or.inl ⟨by rfl, ?_⟩) ?_ ?_
  rotate_left
  · intro w'; go_simp; try with_reducible rfl
  rotate_left
  · simp only [Act.put, List.setIfInBounds_toArray, List.set_cons_zero, List.set_cons_succ, i64_w, i32_w]; rfl
  refine one_ (i := 12) (N := some 17) #[true, true, true, true, true, true, true, true, true, true, true, true, true, false, true, true, false, false, true, true, false, false, true, true, false, false, true, false, false, true, true, true, false, false, true, true, true, false, false, false] rfl rfl (by kernel_rfl) (by decide) (fun K hK => ?_)
  refine goes_ Try.func79 (by kernel_rfl) rfl #[.int .i64 a1, .int .i64 2] (by rfl) rfl rfl (by (try simp only [List.map_toArray, List.map_cons, List.map_nil]); first | done | rfl) ?_
  with_reducible refine (C2.out _).mono ?_
  rintro e V3 ⟨rfl, hb⟩
  refine ⟨_, rfl, ?_⟩
  replace A := blk_below A hb
  replace Z := Z.trans (hb.mono Z.size)
  clear hb
  try clear hHeld
  refine hK.out _ _ (by exact ⟨(blk_cell A 0).trans rfl, (blk_cell A 1).trans rfl, (blk_cell A 2).trans rfl, (blk_cell A 3).trans rfl, (blk_cell A 4).trans rfl, (blk_cell A 5).trans rfl, (blk_cell A 6).trans rfl, (blk_cell A 7).trans rfl⟩) (fun hHeld => ?_)
  clear hK K
  refine norm_ (a' := ?_) ?_ ?_
  rotate_left
  · show Act.put _ (some 17) _ = _; simp only [Act.put, List.setIfInBounds_toArray, List.set_cons_zero, List.set_cons_succ, i64_w, i32_w]; rfl
  refine pure_ (i := 13) (N := some 18) (v := ?_) (a' := ?_) #[true, true, true, true, true, true, true, true, true, true, true, true, true, true, true, true, false, false, true, true, false, false, true, true, false, false, true, false, false, true, true, true, false, false, true, true, true, false, false, false] rfl rfl (by kernel_rfl) (fun _ _ _ h => h) (Or.inl ⟨by rfl, ?_⟩) ?_ ?_
  rotate_left
  · intro w'; go_simp; try with_reducible rfl
  rotate_left
  · simp only [Act.put, List.setIfInBounds_toArray, List.set_cons_zero, List.set_cons_succ, i64_w, i32_w]; rfl
  refine one_ (i := 16) (N := some 21) #[true, true, true, true, true, true, true, true, true, true, true, true, true, true, true, true, true, false, true, true, false, false, true, true, false, false, true, false, false, true, true, true, false, false, true, true, true, false, false, false] rfl rfl (by kernel_rfl) (by decide) (fun K hK => ?_)
  refine goes_ Try.func79 (by kernel_rfl) rfl #[.int .i64 a2, .int .i64 2] (by rfl) rfl rfl (by (try simp only [List.map_toArray, List.map_cons, List.map_nil]); first | done | rfl) ?_
  with_reducible refine (C3.out _).mono ?_
  rintro e V4 ⟨rfl, hb⟩
  refine ⟨_, rfl, ?_⟩
  replace A := blk_below A hb
  replace Z := Z.trans (hb.mono Z.size)
  clear hb
  try clear hHeld
  refine hK.out _ _ (by exact ⟨(blk_cell A 0).trans rfl, (blk_cell A 1).trans rfl, (blk_cell A 2).trans rfl, (blk_cell A 3).trans rfl, (blk_cell A 4).trans rfl, (blk_cell A 5).trans rfl, (blk_cell A 6).trans rfl, (blk_cell A 7).trans rfl⟩) (fun hHeld => ?_)
  clear hK K
  refine norm_ (a' := ?_) ?_ ?_
  rotate_left
  · show Act.put _ (some 21) _ = _; simp only [Act.put, List.setIfInBounds_toArray, List.set_cons_zero, List.set_cons_succ, i64_w, i32_w]; rfl
  refine pure_ (i := 17) (N := some 22) (v := ?_) (a' := ?_) #[true, true, true, true, true, true, true, true, true, true, true, true, true, true, true, true, true, true, true, true, false, false, true, true, false, false, true, false, false, true, true, true, false, false, true, true, true, false, false, false] rfl rfl (by kernel_rfl) (fun _ _ _ h => h) (Or.inl ⟨by rfl, ?_⟩) ?_ ?_
  rotate_left
  · intro w'; go_simp; try with_reducible rfl
  rotate_left
  · simp only [Act.put, List.setIfInBounds_toArray, List.set_cons_zero, List.set_cons_succ, i64_w, i32_w]; rfl
  refine one_ (i := 20) (N := some 25) #[true, true, true, true, true, true, true, true, true, true, true, true, true, true, true, true, true, true, true, true, true, false, true, true, false, false, true, false, false, true, true, true, false, false, true, true, true, false, false, false] rfl rfl (by kernel_rfl) (by decide) (fun K hK => ?_)
  refine goes_ Try.func79 (by kernel_rfl) rfl #[.int .i64 a3, .int .i64 1] (by rfl) rfl rfl (by (try simp only [List.map_toArray, List.map_cons, List.map_nil]); first | done | rfl) ?_
  with_reducible refine (C4.out _).mono ?_
  rintro e V5 ⟨rfl, hb⟩
  refine ⟨_, rfl, ?_⟩
  replace A := blk_below A hb
  replace Z := Z.trans (hb.mono Z.size)
  clear hb
  try clear hHeld
  refine hK.out _ _ (by exact ⟨(blk_cell A 0).trans rfl, (blk_cell A 1).trans rfl, (blk_cell A 2).trans rfl, (blk_cell A 3).trans rfl, (blk_cell A 4).trans rfl, (blk_cell A 5).trans rfl, (blk_cell A 6).trans rfl, (blk_cell A 7).trans rfl⟩) (fun hHeld => ?_)
  clear hK K
  refine norm_ (a' := ?_) ?_ ?_
  rotate_left
  · show Act.put _ (some 25) _ = _; simp only [Act.put, List.setIfInBounds_toArray, List.set_cons_zero, List.set_cons_succ, i64_w, i32_w]; rfl
  refine pure_ (i := 21) (N := some 26) (v := ?_) (a' := ?_) #[true, true, true, true, true, true, true, true, true, true, true, true, true, true, true, true, true, true, true, true, true, true, true, true, false, false, true, false, false, true, true, true, false, false, true, true, true, false, false, false] rfl rfl (by kernel_rfl) (fun _ _ _ h => h) (Or.inl ⟨by rfl, ?_⟩) ?_ ?_
  rotate_left
  · intro w'; go_simp; try with_reducible rfl
  rotate_left
  · simp only [Act.put, List.setIfInBounds_toArray, List.set_cons_zero, List.set_cons_succ, i64_w, i32_w]; rfl
  refine one_ (i := 24) (N := some 29) #[true, true, true, true, true, true, true, true, true, true, true, true, true, true, true, true, true, true, true, true, true, true, true, true, true, false, true, false, false, true, true, true, false, false, true, true, true, false, false, false] rfl rfl (by kernel_rfl) (by decide) (fun K hK => ?_)
  refine goes_ Try.func79 (by kernel_rfl) rfl #[.int .i64 a4, .int .i64 1] (by rfl) rfl rfl (by (try simp only [List.map_toArray, List.map_cons, List.map_nil]); first | done | rfl) ?_
  with_reducible refine (C5.out _).mono ?_
  rintro e V6 ⟨rfl, hb⟩
  refine ⟨_, rfl, ?_⟩
  replace A := blk_below A hb
  replace Z := Z.trans (hb.mono Z.size)
  clear hb
  try clear hHeld
  refine hK.out _ _ (by exact ⟨(blk_cell A 0).trans rfl, (blk_cell A 1).trans rfl, (blk_cell A 2).trans rfl, (blk_cell A 3).trans rfl, (blk_cell A 4).trans rfl, (blk_cell A 5).trans rfl, (blk_cell A 6).trans rfl, (blk_cell A 7).trans rfl⟩) (fun hHeld => ?_)
  clear hK K
  refine norm_ (a' := ?_) ?_ ?_
  rotate_left
  · show Act.put _ (some 29) _ = _; simp only [Act.put, List.setIfInBounds_toArray, List.set_cons_zero, List.set_cons_succ, i64_w, i32_w]; rfl
  refine pure_ (i := 25) (N := some 30) (v := ?_) (a' := ?_) #[true, true, true, true, true, true, true, true, true, true, true, true, true, true, true, true, true, true, true, true, true, true, true, true, true, true, true, false, false, true, true, true, false, false, true, true, true, false, false, false] rfl rfl (by kernel_rfl) (fun _ _ _ h => h) (Or.inl ⟨by rfl, ?_⟩) ?_ ?_
  rotate_left
  · intro w'; go_simp; try with_reducible rfl
  rotate_left
  · simp only [Act.put, List.setIfInBounds_toArray, List.set_cons_zero, List.set_cons_succ, i64_w, i32_w]; rfl
  refine one_ (i := 27) (N := some 32) #[true, true, true, true, true, true, true, true, true, true, true, true, true, true, true, true, true, true, true, true, true, true, true, true, true, true, true, true, false, true, true, true, false, false, true, true, true, false, false, false] rfl rfl (by kernel_rfl) (by decide) (fun K hK => ?_)
  refine goes_ Try.func79 (by kernel_rfl) rfl #[.int .i64 m, .int .i64 2] (by rfl) rfl rfl (by (try simp only [List.map_toArray, List.map_cons, List.map_nil]); first | done | rfl) ?_
  with_reducible refine (C6.out _).mono ?_
  rintro e V7 ⟨rfl, hb⟩
  refine ⟨_, rfl, ?_⟩
  replace A := blk_below A hb
  replace Z := Z.trans (hb.mono Z.size)
  clear hb
  try clear hHeld
  refine hK.out _ _ (by exact ⟨(blk_cell A 0).trans rfl, (blk_cell A 1).trans rfl, (blk_cell A 2).trans rfl, (blk_cell A 3).trans rfl, (blk_cell A 4).trans rfl, (blk_cell A 5).trans rfl, (blk_cell A 6).trans rfl, (blk_cell A 7).trans rfl⟩) (fun hHeld => ?_)
  clear hK K
  refine norm_ (a' := ?_) ?_ ?_
  rotate_left
  · show Act.put _ (some 32) _ = _; simp only [Act.put, List.setIfInBounds_toArray, List.set_cons_zero, List.set_cons_succ, i64_w, i32_w]; rfl
  refine pure_ (i := 28) (N := some 33) (v := ?_) (a' := ?_) #[true, true, true, true, true, true, true, true, true, true, true, true, true, true, true, true, true, true, true, true, true, true, true, true, true, true, true, true, true, true, true, true, false, false, true, true, true, false, false, false] rfl rfl (by kernel_rfl) (fun _ _ _ h => h) (Or.inl ⟨by rfl, ?_⟩) ?_ ?_
  rotate_left
  · intro w'; go_simp; try with_reducible rfl
  rotate_left
  · simp only [Act.put, List.setIfInBounds_toArray, List.set_cons_zero, List.set_cons_succ, i64_w, i32_w]; rfl
  refine one_ (i := 32) (N := some 37) #[true, true, true, true, true, true, true, true, true, true, true, true, true, true, true, true, true, true, true, true, true, true, true, true, true, true, true, true, true, true, true, true, true, false, true, true, true, false, false, false] rfl rfl (by kernel_rfl) (by decide) (fun K hK => ?_)
  refine goes_ Try.func79 (by kernel_rfl) rfl #[.int .i64 (wrap64 a5), .int .i64 4] (by rfl) rfl rfl (by (try simp only [List.map_toArray, List.map_cons, List.map_nil]); first | done | rfl) ?_
  with_reducible refine (C7.out _).mono ?_
  rintro e V8 ⟨rfl, hb⟩
  refine ⟨_, rfl, ?_⟩
  replace A := blk_below A hb
  replace Z := Z.trans (hb.mono Z.size)
  clear hb
  try clear hHeld
  refine hK.out _ _ (by exact ⟨(blk_cell A 0).trans rfl, (blk_cell A 1).trans rfl, (blk_cell A 2).trans rfl, (blk_cell A 3).trans rfl, (blk_cell A 4).trans rfl, (blk_cell A 5).trans rfl, (blk_cell A 6).trans rfl, (blk_cell A 7).trans rfl⟩) (fun hHeld => ?_)
  clear hK K
  refine norm_ (a' := ?_) ?_ ?_
  rotate_left
  · show Act.put _ (some 37) _ = _; simp only [Act.put, List.setIfInBounds_toArray, List.set_cons_zero, List.set_cons_succ, i64_w, i32_w]; rfl
  refine pure_ (i := 33) (N := some 38) (v := ?_) (a' := ?_) #[true, true, true, true, true, true, true, true, true, true, true, true, true, true, true, true, true, true, true, true, true, true, true, true, true, true, true, true, true, true, true, true, true, true, true, true, true, false, false, false] rfl rfl (by kernel_rfl) (fun _ _ _ h => h) (Or.inl ⟨by rfl, ?_⟩) ?_ ?_
  rotate_left
  · intro w'; go_simp; try with_reducible rfl
  rotate_left
  · simp only [Act.put, List.setIfInBounds_toArray, List.set_cons_zero, List.set_cons_succ, i64_w, i32_w]; rfl
  refine one_ (i := 37) (N := some 42) #[true, true, true, true, true, true, true, true, true, true, true, true, true, true, true, true, true, true, true, true, true, true, true, true, true, true, true, true, true, true, true, true, true, true, true, true, true, true, false, false] rfl rfl (by kernel_rfl) (by decide) (fun K hK => ?_)
  refine goes_ Try.func79 (by kernel_rfl) rfl #[.int .i64 (wrap64 a6), .int .i64 4] (by rfl) rfl rfl (by (try simp only [List.map_toArray, List.map_cons, List.map_nil]); first | done | rfl) ?_
  with_reducible refine (C8.out _).mono ?_
  rintro e V9 ⟨rfl, hb⟩
  refine ⟨_, rfl, ?_⟩
  replace A := blk_below A hb
  replace Z := Z.trans (hb.mono Z.size)
  clear hb
  try clear hHeld
  refine hK.out _ _ (by exact ⟨(blk_cell A 0).trans rfl, (blk_cell A 1).trans rfl, (blk_cell A 2).trans rfl, (blk_cell A 3).trans rfl, (blk_cell A 4).trans rfl, (blk_cell A 5).trans rfl, (blk_cell A 6).trans rfl, (blk_cell A 7).trans rfl⟩) (fun hHeld => ?_)
  clear hK K
  refine norm_ (a' := ?_) ?_ ?_
  rotate_left
  · show Act.put _ (some 42) _ = _; simp only [Act.put, List.setIfInBounds_toArray, List.set_cons_zero, List.set_cons_succ, i64_w, i32_w]; rfl
  refine pure_ (i := 38) (N := some 43) (v := ?_) (a' := ?_) #[true, true, true, true, true, true, true, true, true, true, true, true, true, true, true, true, true, true, true, true, true, true, true, true, true, true, true, true, true, true, true, true, true, true, true, true, true, true, true, false] rfl rfl (by kernel_rfl) (fun _ _ _ h => h) (Or.inl ⟨by rfl, ?_⟩) ?_ ?_
  rotate_left
  · intro w'; go_simp; try with_reducible rfl
  rotate_left
  · simp only [Act.put, List.setIfInBounds_toArray, List.set_cons_zero, List.set_cons_succ, i64_w, i32_w]; rfl
  refine pure_ (i := 39) (N := some 4) (v := ?_) (a' := ?_) #[true, true, true, true, true, true, true, true, true, true, true, true, true, true, true, true, true, true, true, true, true, true, true, true, true, true, true, true, true, true, true, true, true, true, true, true, true, true, true, true] rfl rfl (by kernel_rfl) (fun _ _ _ h => h) (Or.inl ⟨by rfl, ?_⟩) ?_ ?_
  rotate_left
  · intro w'; go_simp; try with_reducible rfl
  rotate_left
  · simp only [Act.put, List.setIfInBounds_toArray, List.set_cons_zero, List.set_cons_succ, i64_w, i32_w]; rfl
  refine done_ (by kernel_rfl) ?_
  go_wp2
  go_ret
  exact ⟨congrArg (fun x => Ending.returned (.string x)) (HX.out _ rfl), Z⟩
theorem byteOf_yes (n : Int) (h0 : 0 ≤ n) (h1 : n ≤ 255) (w : World) : Calls Try.prog 62 #[.int .i64 n] w fun e w' => e = .returned (.bool true) ∧ w = w' := by
  have d0 : decide (0 ≤ n) = true := decide_eq_true h0
  have d1 : decide (n ≤ 255) = true := decide_eq_true h1
  clear h0 h1
  go_enter Try.func62, Try.ntmps62
  go_wp2
  go_ret
  exact ⟨rfl, rfl⟩
theorem byteOf_no (n : Int) (h : ¬ (0 ≤ n ∧ n ≤ 255)) (w : World) : Calls Try.prog 62 #[.int .i64 n] w fun e w' => e = .returned (.bool false) ∧ w = w' := by
  by_cases h0 : 0 ≤ n
  · have d0 : decide (0 ≤ n) = true := decide_eq_true h0
    have d1 : decide (n ≤ 255) = false := decide_eq_false (fun h1 => h ⟨h0, h1⟩)
    clear h0 h
    go_enter Try.func62, Try.ntmps62
    go_wp2
    go_ret
    exact ⟨rfl, rfl⟩
  · have d0 : decide (0 ≤ n) = false := decide_eq_false h0
    clear h0 h
    go_enter Try.func62, Try.ntmps62
    go_wp2
    go_ret
    exact ⟨rfl, rfl⟩
theorem wordOf_yes (n : Int) (h0 : 0 ≤ n) (h1 : n ≤ 65535) (w : World) : Calls Try.prog 63 #[.int .i64 n] w fun e w' => e = .returned (.bool true) ∧ w = w' := by
  have d0 : decide (0 ≤ n) = true := decide_eq_true h0
  have d1 : decide (n ≤ 65535) = true := decide_eq_true h1
  clear h0 h1
  go_enter Try.func63, Try.ntmps63
  go_wp2
  go_ret
  exact ⟨rfl, rfl⟩
theorem wordOf_no (n : Int) (h : ¬ (0 ≤ n ∧ n ≤ 65535)) (w : World) : Calls Try.prog 63 #[.int .i64 n] w fun e w' => e = .returned (.bool false) ∧ w = w' := by
  by_cases h0 : 0 ≤ n
  · have d0 : decide (0 ≤ n) = true := decide_eq_true h0
    have d1 : decide (n ≤ 65535) = false := decide_eq_false (fun h1 => h ⟨h0, h1⟩)
    clear h0 h
    go_enter Try.func63, Try.ntmps63
    go_wp2
    go_ret
    exact ⟨rfl, rfl⟩
  · have d0 : decide (0 ≤ n) = false := decide_eq_false h0
    clear h0 h
    go_enter Try.func63, Try.ntmps63
    go_wp2
    go_ret
    exact ⟨rfl, rfl⟩
set_option maxRecDepth 100000 in
set_option maxHeartbeats 2000000 in
theorem build42_bad (a0 a1 a2 a3 a4 a5 a6 : Int) (a7 : ByteArray) (w : World) (h : ¬ okH a0 a1 a2 a3 a4) :
    Calls Try.prog 42 #[.agg #[.int .i64 a0, .int .i64 a1, .int .i64 a2, .int .i64 a3, .int .i64 a4, .int .u32 a5, .int .u32 a6, .string a7]] w fun e w' => e = .returned (.tuple #[.string ⟨#[]⟩, .int .i64 2]) ∧ Below w.heap.size w w' := by
  have hu58 := Try.underlying58
  by_cases p0 : 0 ≤ a0 ∧ a0 ≤ 255
  · have Y0 : Hid (∀ w, _) := fun w => byteOf_yes a0 p0.1 p0.2 w
    by_cases p1 : 0 ≤ a3 ∧ a3 ≤ 255
    · have Y1 : Hid (∀ w, _) := fun w => byteOf_yes a3 p1.1 p1.2 w
      by_cases p2 : 0 ≤ a4 ∧ a4 ≤ 255
      · have Y2 : Hid (∀ w, _) := fun w => byteOf_yes a4 p2.1 p2.2 w
        by_cases p3 : 0 ≤ a1 ∧ a1 ≤ 65535
        · have Y3 : Hid (∀ w, _) := fun w => wordOf_yes a1 p3.1 p3.2 w
          by_cases p4 : 0 ≤ a2 ∧ a2 ≤ 65535
          · have Y4 : Hid (∀ w, _) := fun w => wordOf_yes a2 p4.1 p4.2 w
            exact absurd ⟨p0, p1, p2, p3, p4⟩ h
          · have Y4 : Hid (∀ w, _) := fun w => wordOf_no a2 p4 w
            clear h p0 p1 p2 p3 p4
            go_enter Try.func42, Try.ntmps42
            go_wp2_with (first | (go_at_call 62; (with_reducible refine (Y0.out _).mono ?_); rintro e w' ⟨rfl, rfl⟩) | (go_at_call 62; (with_reducible refine (Y1.out _).mono ?_); rintro e w' ⟨rfl, rfl⟩) | (go_at_call 62; (with_reducible refine (Y2.out _).mono ?_); rintro e w' ⟨rfl, rfl⟩) | (go_at_call 63; (with_reducible refine (Y3.out _).mono ?_); rintro e w' ⟨rfl, rfl⟩) | (go_at_call 63; (with_reducible refine (Y4.out _).mono ?_); rintro e w' ⟨rfl, rfl⟩))
            go_ret2
            exact ⟨rfl, (Below.refl _ _).alloc (Nat.le_refl _) _⟩
        · have Y3 : Hid (∀ w, _) := fun w => wordOf_no a1 p3 w
          clear h p0 p1 p2 p3
          go_enter Try.func42, Try.ntmps42
          go_wp2_with (first | (go_at_call 62; (with_reducible refine (Y0.out _).mono ?_); rintro e w' ⟨rfl, rfl⟩) | (go_at_call 62; (with_reducible refine (Y1.out _).mono ?_); rintro e w' ⟨rfl, rfl⟩) | (go_at_call 62; (with_reducible refine (Y2.out _).mono ?_); rintro e w' ⟨rfl, rfl⟩) | (go_at_call 63; (with_reducible refine (Y3.out _).mono ?_); rintro e w' ⟨rfl, rfl⟩))
          go_ret2
          exact ⟨rfl, (Below.refl _ _).alloc (Nat.le_refl _) _⟩
      · have Y2 : Hid (∀ w, _) := fun w => byteOf_no a4 p2 w
        clear h p0 p1 p2
        go_enter Try.func42, Try.ntmps42
        go_wp2_with (first | (go_at_call 62; (with_reducible refine (Y0.out _).mono ?_); rintro e w' ⟨rfl, rfl⟩) | (go_at_call 62; (with_reducible refine (Y1.out _).mono ?_); rintro e w' ⟨rfl, rfl⟩) | (go_at_call 62; (with_reducible refine (Y2.out _).mono ?_); rintro e w' ⟨rfl, rfl⟩))
        go_ret2
        exact ⟨rfl, (Below.refl _ _).alloc (Nat.le_refl _) _⟩
    · have Y1 : Hid (∀ w, _) := fun w => byteOf_no a3 p1 w
      clear h p0 p1
      go_enter Try.func42, Try.ntmps42
      go_wp2_with (first | (go_at_call 62; (with_reducible refine (Y0.out _).mono ?_); rintro e w' ⟨rfl, rfl⟩) | (go_at_call 62; (with_reducible refine (Y1.out _).mono ?_); rintro e w' ⟨rfl, rfl⟩))
      go_ret2
      exact ⟨rfl, (Below.refl _ _).alloc (Nat.le_refl _) _⟩
  · have Y0 : Hid (∀ w, _) := fun w => byteOf_no a0 p0 w
    clear h p0
    go_enter Try.func42, Try.ntmps42
    go_wp2_with (first | (go_at_call 62; (with_reducible refine (Y0.out _).mono ?_); rintro e w' ⟨rfl, rfl⟩))
    go_ret2
    exact ⟨rfl, (Below.refl _ _).alloc (Nat.le_refl _) _⟩
set_option maxRecDepth 100000 in
set_option maxHeartbeats 2000000 in
theorem build42_long (a0 a1 a2 a3 a4 a5 a6 : Int) (a7 : ByteArray) (w : World) (h : okH a0 a1 a2 a3 a4) (hs : 65515 < a7.size) :
    Calls Try.prog 42 #[.agg #[.int .i64 a0, .int .i64 a1, .int .i64 a2, .int .i64 a3, .int .i64 a4, .int .u32 a5, .int .u32 a6, .string a7]] w fun e w' => e = .returned (.tuple #[.string ⟨#[]⟩, .int .i64 8]) ∧ Below w.heap.size w w' := by
  have hu58 := Try.underlying58
  obtain ⟨p0, p1, p2, p3, p4⟩ := h
  have Y0 : Hid (∀ w, _) := fun w => byteOf_yes a0 p0.1 p0.2 w
  have Y1 : Hid (∀ w, _) := fun w => byteOf_yes a3 p1.1 p1.2 w
  have Y2 : Hid (∀ w, _) := fun w => byteOf_yes a4 p2.1 p2.2 w
  have Y3 : Hid (∀ w, _) := fun w => wordOf_yes a1 p3.1 p3.2 w
  have Y4 : Hid (∀ w, _) := fun w => wordOf_yes a2 p4.1 p4.2 w
  have dl : decide (65515 < (a7.size : Int)) = true := decide_eq_true (by omega)
  have dl2 : decide (65515 < a7.size) = true := decide_eq_true (by omega)
  clear hs p0 p1 p2 p3 p4
  go_enter Try.func42, Try.ntmps42
  go_wp2_with (first | (go_at_call 62; (with_reducible refine (Y0.out _).mono ?_); rintro e w' ⟨rfl, rfl⟩) | (go_at_call 62; (with_reducible refine (Y1.out _).mono ?_); rintro e w' ⟨rfl, rfl⟩) | (go_at_call 62; (with_reducible refine (Y2.out _).mono ?_); rintro e w' ⟨rfl, rfl⟩) | (go_at_call 63; (with_reducible refine (Y3.out _).mono ?_); rintro e w' ⟨rfl, rfl⟩) | (go_at_call 63; (with_reducible refine (Y4.out _).mono ?_); rintro e w' ⟨rfl, rfl⟩))
  go_ret2
  exact ⟨rfl, (Below.refl _ _).alloc (Nat.le_refl _) _⟩
set_option maxRecDepth 100000 in
set_option maxHeartbeats 20000000 in
theorem build42_good (a0 a1 a2 a3 a4 a5 a6 : Int) (a7 : ByteArray) (w : World) (h : okH a0 a1 a2 a3 a4) (h5 : 0 ≤ a5) (h5' : a5 < 4294967296) (h6 : 0 ≤ a6) (h6' : a6 < 4294967296) (hs : a7.size ≤ 65515) :
    Calls Try.prog 42 #[.agg #[.int .i64 a0, .int .i64 a1, .int .i64 a2, .int .i64 a3, .int .i64 a4, .int .u32 a5, .int .u32 a6, .string a7]] w fun e w' => e = .returned (.tuple #[.string (packV a0 a1 a2 a3 a4 a5 a6 a7), .int .i64 0]) ∧ Below w.heap.size w w' := by
  have hu58 := Try.underlying58
  have C0 : Hid (∀ w : World, _) := fun w => header64_calls a0 a1 a2 a3 a4 a5 a6 a7 0 w h h5 h5' h6 h6' hs (by omega) (by omega)
  have C2 : Hid (∀ w : World, _) := fun w => header64_calls a0 a1 a2 a3 a4 a5 a6 a7 (sumV (hdrV (20 + a7.size) a0 a1 a2 a3 a4 0 a5 a6)) w h h5 h5' h6 h6' hs (sumV_range _).1 (sumV_range _).2
  have C1 : Hid (∀ w : World, Calls Try.prog 65 #[.string (hdrV (20 + a7.size) a0 a1 a2 a3 a4 0 a5 a6)] w fun e w' => e = .returned (.int .i64 (sumV (hdrV (20 + a7.size) a0 a1 a2 a3 a4 0 a5 a6))) ∧ Below w.heap.size w w') := fun w => (rsum_calls _ rfl w).mono fun e w' ⟨he, hw⟩ => ⟨he, hw ▸ Below.refl _ _⟩
  have HP : Hid (hdrV (20 + a7.size) a0 a1 a2 a3 a4 (sumV (hdrV (20 + a7.size) a0 a1 a2 a3 a4 0 a5 a6)) a5 a6 ++ a7 = packV a0 a1 a2 a3 a4 a5 a6 a7) := rfl
  have hz : (9223372036854775807 < (hdrV (20 + a7.size) a0 a1 a2 a3 a4 (sumV (hdrV (20 + a7.size) a0 a1 a2 a3 a4 0 a5 a6)) a5 a6).size + a7.size) = False := by
    rw [show (hdrV (20 + a7.size) a0 a1 a2 a3 a4 (sumV (hdrV (20 + a7.size) a0 a1 a2 a3 a4 0 a5 a6)) a5 a6).size = 20 from rfl]
    exact eq_false (by omega)
  obtain ⟨p0, p1, p2, p3, p4⟩ := h
  have Y0 : Hid (∀ w, _) := fun w => byteOf_yes a0 p0.1 p0.2 w
  have Y1 : Hid (∀ w, _) := fun w => byteOf_yes a3 p1.1 p1.2 w
  have Y2 : Hid (∀ w, _) := fun w => byteOf_yes a4 p2.1 p2.2 w
  have Y3 : Hid (∀ w, _) := fun w => wordOf_yes a1 p3.1 p3.2 w
  have Y4 : Hid (∀ w, _) := fun w => wordOf_yes a2 p4.1 p4.2 w
  have dl : decide (65515 < (a7.size : Int)) = false := decide_eq_false (by omega)
  have dl2 : decide (65515 < a7.size) = false := decide_eq_false (by omega)
  clear hs p0 p1 p2 p3 p4 h5 h5' h6 h6'
  generalize sumV (hdrV (20 + a7.size) a0 a1 a2 a3 a4 0 a5 a6) = m at *
  generalize hdrV (20 + a7.size) a0 a1 a2 a3 a4 0 a5 a6 = H0 at *
  generalize hdrV (20 + a7.size) a0 a1 a2 a3 a4 m a5 a6 = H1 at *
  go_enter Try.func42, Try.ntmps42
  go_wp2_with (first | (go_at_call 62; (with_reducible refine (Y0.out _).mono ?_); rintro e w' ⟨rfl, rfl⟩) | (go_at_call 62; (with_reducible refine (Y1.out _).mono ?_); rintro e w' ⟨rfl, rfl⟩) | (go_at_call 62; (with_reducible refine (Y2.out _).mono ?_); rintro e w' ⟨rfl, rfl⟩) | (go_at_call 63; (with_reducible refine (Y3.out _).mono ?_); rintro e w' ⟨rfl, rfl⟩) | (go_at_call 63; (with_reducible refine (Y4.out _).mono ?_); rintro e w' ⟨rfl, rfl⟩))
  obtain ⟨A, Z⟩ := box_block w #[.int .i64 a0, .int .i64 a1, .int .i64 a2, .int .i64 a3, .int .i64 a4, .int .u32 a5, .int .u32 a6, .string a7] 58
  replace A := blk_drew A
  replace Z := below_drew1 Z
  try clear hHeld
  refine start_ (n := 10) (S := fun w' => w'.cell? ⟨w.heap.size, 0, none⟩ = some (.int .i64 a0) ∧ w'.cell? ⟨w.heap.size, 1, none⟩ = some (.int .i64 a1) ∧ w'.cell? ⟨w.heap.size, 2, none⟩ = some (.int .i64 a2) ∧ w'.cell? ⟨w.heap.size, 3, none⟩ = some (.int .i64 a3) ∧ w'.cell? ⟨w.heap.size, 4, none⟩ = some (.int .i64 a4) ∧ w'.cell? ⟨w.heap.size, 5, none⟩ = some (.int .u32 a5) ∧ w'.cell? ⟨w.heap.size, 6, none⟩ = some (.int .u32 a6) ∧ w'.cell? ⟨w.heap.size, 7, none⟩ = some (.string a7)) (ds := []) #[false, false, false, false, false, false, false, false, false, false] (by kernel_rfl) rfl rfl (by exact ⟨(blk_cell A 0).trans rfl, (blk_cell A 1).trans rfl, (blk_cell A 2).trans rfl, (blk_cell A 3).trans rfl, (blk_cell A 4).trans rfl, (blk_cell A 5).trans rfl, (blk_cell A 6).trans rfl, (blk_cell A 7).trans rfl⟩) (fun hHeld => ?_)
  generalize (w.alloc (.cells #[.int .i64 a0, .int .i64 a1, .int .i64 a2, .int .i64 a3, .int .i64 a4, .int .u32 a5, .int .u32 a6, .string a7] 58)).drew = W at A Z hHeld ⊢
  refine take_ (i := 0) (N := some 36) (v := ?_) (a' := ?_) #[true, false, false, false, false, false, false, false, false, false] rfl rfl (by kernel_rfl) (fun _ _ _ h => h) (Or.inl ⟨by rfl, ?_⟩) hHeld ?_ ?_
  rotate_left
  · intro w' hS_; (try dsimp only at hS_); go_split_ands; go_simp; try with_reducible rfl
  rotate_left
  · simp only [Act.put, List.setIfInBounds_toArray, List.set_cons_zero, List.set_cons_succ, i64_w, i32_w]; rfl
  refine take_ (i := 1) (N := some 37) (v := ?_) (a' := ?_) #[true, true, false, false, false, false, false, false, false, false] rfl rfl (by kernel_rfl) (fun _ _ _ h => h) (Or.inl ⟨by rfl, ?_⟩) hHeld ?_ ?_
  rotate_left
  · intro w' hS_; (try dsimp only at hS_); go_split_ands; go_simp; try with_reducible rfl
  rotate_left
  · simp only [Act.put, List.setIfInBounds_toArray, List.set_cons_zero, List.set_cons_succ, i64_w, i32_w]; rfl
  refine pure_ (i := 5) (N := some 41) (v := ?_) (a' := ?_) #[true, true, false, false, false, true, false, false, false, false] rfl rfl (by kernel_rfl) (fun _ _ _ h => h) (Or.inl ⟨by rfl, ?_⟩) ?_ ?_
  rotate_left
  · intro w'; go_simp; try with_reducible rfl
  rotate_left
  · simp only [Act.put, List.setIfInBounds_toArray, List.set_cons_zero, List.set_cons_succ, i64_w, i32_w]; rfl
  refine take_ (i := 6) (N := some 42) (v := ?_) (a' := ?_) #[true, true, false, false, false, true, true, false, false, false] rfl rfl (by kernel_rfl) (fun _ _ _ h => h) (Or.inl ⟨by rfl, ?_⟩) hHeld ?_ ?_
  rotate_left
  · intro w' hS_; (try dsimp only at hS_); go_split_ands; go_simp; try with_reducible rfl
  rotate_left
  · simp only [Act.put, List.setIfInBounds_toArray, List.set_cons_zero, List.set_cons_succ, i64_w, i32_w]; rfl
  refine one_ (i := 2) (N := some 38) #[true, true, true, false, false, true, true, false, false, false] rfl rfl (by kernel_rfl) (by decide) (fun K hK => ?_)
  refine goes_ Try.func64 (by kernel_rfl) rfl #[.agg #[.int .i64 a0, .int .i64 a1, .int .i64 a2, .int .i64 a3, .int .i64 a4, .int .u32 a5, .int .u32 a6, .string a7], .int .i64 0] (by rfl) rfl rfl (by (try simp only [List.map_toArray, List.map_cons, List.map_nil]); first | done | rfl) ?_
  with_reducible refine (C0.out _).mono ?_
  rintro e V10 ⟨rfl, hb⟩
  refine ⟨_, rfl, ?_⟩
  replace A := blk_below A hb
  replace Z := Z.trans (hb.mono Z.size)
  clear hb
  try clear hHeld
  refine hK.out _ _ (by exact ⟨(blk_cell A 0).trans rfl, (blk_cell A 1).trans rfl, (blk_cell A 2).trans rfl, (blk_cell A 3).trans rfl, (blk_cell A 4).trans rfl, (blk_cell A 5).trans rfl, (blk_cell A 6).trans rfl, (blk_cell A 7).trans rfl⟩) (fun hHeld => ?_)
  clear hK K
  refine norm_ (a' := ?_) ?_ ?_
  rotate_left
  · show Act.put _ (some 38) _ = _; simp only [Act.put, List.setIfInBounds_toArray, List.set_cons_zero, List.set_cons_succ, i64_w, i32_w]; rfl
  refine one_ (i := 3) (N := some 39) #[true, true, true, true, false, true, true, false, false, false] rfl rfl (by kernel_rfl) (by decide) (fun K hK => ?_)
  refine goes_ Try.func65 (by kernel_rfl) rfl #[.string H0] (by rfl) rfl rfl (by (try simp only [List.map_toArray, List.map_cons, List.map_nil]); first | done | rfl) ?_
  with_reducible refine (C1.out _).mono ?_
  rintro e V11 ⟨rfl, hb⟩
  refine ⟨_, rfl, ?_⟩
  replace A := blk_below A hb
  replace Z := Z.trans (hb.mono Z.size)
  clear hb
  try clear hHeld
  refine hK.out _ _ (by exact ⟨(blk_cell A 0).trans rfl, (blk_cell A 1).trans rfl, (blk_cell A 2).trans rfl, (blk_cell A 3).trans rfl, (blk_cell A 4).trans rfl, (blk_cell A 5).trans rfl, (blk_cell A 6).trans rfl, (blk_cell A 7).trans rfl⟩) (fun hHeld => ?_)
  clear hK K
  refine norm_ (a' := ?_) ?_ ?_
  rotate_left
  · show Act.put _ (some 39) _ = _; simp only [Act.put, List.setIfInBounds_toArray, List.set_cons_zero, List.set_cons_succ, i64_w, i32_w]; rfl
  refine one_ (i := 4) (N := some 40) #[true, true, true, true, true, true, true, false, false, false] rfl rfl (by kernel_rfl) (by decide) (fun K hK => ?_)
  refine goes_ Try.func64 (by kernel_rfl) rfl #[.agg #[.int .i64 a0, .int .i64 a1, .int .i64 a2, .int .i64 a3, .int .i64 a4, .int .u32 a5, .int .u32 a6, .string a7], .int .i64 m] (by rfl) rfl rfl (by (try simp only [List.map_toArray, List.map_cons, List.map_nil]); first | done | rfl) ?_
  with_reducible refine (C2.out _).mono ?_
  rintro e V12 ⟨rfl, hb⟩
  refine ⟨_, rfl, ?_⟩
  replace A := blk_below A hb
  replace Z := Z.trans (hb.mono Z.size)
  clear hb
  try clear hHeld
  refine hK.out _ _ (by exact ⟨(blk_cell A 0).trans rfl, (blk_cell A 1).trans rfl, (blk_cell A 2).trans rfl, (blk_cell A 3).trans rfl, (blk_cell A 4).trans rfl, (blk_cell A 5).trans rfl, (blk_cell A 6).trans rfl, (blk_cell A 7).trans rfl⟩) (fun hHeld => ?_)
  clear hK K
  refine norm_ (a' := ?_) ?_ ?_
  rotate_left
  · show Act.put _ (some 40) _ = _; simp only [Act.put, List.setIfInBounds_toArray, List.set_cons_zero, List.set_cons_succ, i64_w, i32_w]; rfl
  refine pure_ (i := 7) (N := some 43) (v := ?_) (a' := ?_) #[true, true, true, true, true, true, true, true, false, false] rfl rfl (by kernel_rfl) (fun _ _ _ h => h) (Or.inl ⟨by rfl, ?_⟩) ?_ ?_
  rotate_left
  · intro w'; go_simp; try with_reducible rfl
  rotate_left
  · simp only [Act.put, List.setIfInBounds_toArray, List.set_cons_zero, List.set_cons_succ, i64_w, i32_w]; rfl
  refine pure_ (i := 8) (N := some 2) (v := ?_) (a' := ?_) #[true, true, true, true, true, true, true, true, true, false] rfl rfl (by kernel_rfl) (fun _ _ _ h => h) (Or.inl ⟨by rfl, ?_⟩) ?_ ?_
  rotate_left
  · intro w'; go_simp; try with_reducible rfl
  rotate_left
  · simp only [Act.put, List.setIfInBounds_toArray, List.set_cons_zero, List.set_cons_succ, i64_w, i32_w]; rfl
  refine pure_ (i := 9) (N := some 3) (v := ?_) (a' := ?_) #[true, true, true, true, true, true, true, true, true, true] rfl rfl (by kernel_rfl) (fun _ _ _ h => h) (Or.inl ⟨by rfl, ?_⟩) ?_ ?_
  rotate_left
  · intro w'; go_simp; try with_reducible rfl
  rotate_left
  · simp only [Act.put, List.setIfInBounds_toArray, List.set_cons_zero, List.set_cons_succ, i64_w, i32_w]; rfl
  refine done_ (by kernel_rfl) ?_
  go_wp2
  go_ret2
  exact ⟨congrArg (fun x => Ending.returned (.tuple #[.string x, .int .i64 0])) HP.out, Z⟩
theorem build42_calls (a0 a1 a2 a3 a4 a5 a6 : Int) (a7 : ByteArray) (w : World) (h5 : 0 ≤ a5) (h5' : a5 < 4294967296) (h6 : 0 ≤ a6) (h6' : a6 < 4294967296) :
    Calls Try.prog 42 #[.agg #[.int .i64 a0, .int .i64 a1, .int .i64 a2, .int .i64 a3, .int .i64 a4, .int .u32 a5, .int .u32 a6, .string a7]] w fun e w' => e = .returned (.tuple #[.string (buildV a0 a1 a2 a3 a4 a5 a6 a7).1, .int .i64 (buildV a0 a1 a2 a3 a4 a5 a6 a7).2]) ∧ Below w.heap.size w w' := by
  unfold buildV
  by_cases h : okH a0 a1 a2 a3 a4
  · rw [if_pos h]
    by_cases hs : a7.size ≤ 65515
    · rw [if_pos hs]
      exact build42_good a0 a1 a2 a3 a4 a5 a6 a7 w h h5 h5' h6 h6' hs
    · rw [if_neg hs]
      exact build42_long a0 a1 a2 a3 a4 a5 a6 a7 w h (by omega)
  · rw [if_neg h]
    exact build42_bad a0 a1 a2 a3 a4 a5 a6 a7 w h
theorem ret25 (w W : World) (tmps : Array Value) (cs : Array Value) (c : Int) (hp : tmps.getD 2 undef = .pointer (some ⟨w.heap.size, 0, none⟩)) (hu : tmps.getD 3 undef = .int .i64 c) (hg : W.heap[w.heap.size]? = some (.cells cs 58 (0, 0))) (h8 : cs.size = 8) (hb : Below w.heap.size w W) {R : Ending → World → Prop}
    (hR : R (.returned (.tuple #[.agg cs, .int .i64 c])) W) : bodyPost Try.prog Try.f25 R Exit.ret { tmps := tmps, defers := [] } W := by
  have hs : (Try.prog.info? 58).map (·.size) = some cs.size := by rw [h8]; kernel_rfl
  have := results_ct (P := Try.prog) (fn := Try.f25) rfl tmps W w.heap.size 58 cs (0, 0) _ hp hg Try.underlying58 rfl hs
  rw [hu] at this
  exact bodyPost_ret this rfl hR
set_option maxRecDepth 100000 in
set_option maxHeartbeats 1000000 in
theorem rparse_short (s : ByteArray) (w : World) (h : decide ((s.size : Int) < 20) = true) (h' : decide (s.size < 20) = true) :
    Calls Try.prog 25 #[.string s] w fun e w' => e = .returned (hdV (badH 1)) ∧ Below w.heap.size w w' := by
  have hu58 := Try.underlying58
  obtain ⟨A, Z⟩ := box_block w #[.int .i64 0, .int .i64 0, .int .i64 0, .int .i64 0, .int .i64 0, .int .u32 0, .int .u32 0, .string ⟨#[]⟩] 58
  go_enter Try.func25, Try.ntmps25
  go_wp2_with (refine wpList_store_row rfl 58 _ _ rfl w.heap.size _ rfl rfl 58 _ A (by kernel_rfl) rfl (by simp [Value.oneCell']) ?_)
  exact ret25 w _ _ _ 1 rfl rfl (setRow_heap _ _ _ _ _ _ A) rfl (below_setRow Z (Nat.le_refl _) _) ⟨rfl, below_setRow Z (Nat.le_refl _) _⟩
set_option maxRecDepth 100000 in
set_option maxHeartbeats 1000000 in
theorem rparse_kind (s : ByteArray) (w : World) (h : 20 ≤ s.size) (h0 : (bt s 0 == 69) = false) (h0' : (bt s 0 != 69) = true) :
    Calls Try.prog 25 #[.string s] w fun e w' => e = .returned (hdV (badH 3)) ∧ Below w.heap.size w w' := by
  have hu58 := Try.underlying58
  have c1 : decide ((s.size : Int) < 20) = false := decide_eq_false (by omega)
  have c1' : decide (s.size < 20) = false := decide_eq_false (by omega)
  have q0 : (0 < s.size) = True := eq_true (by omega)
  have x0 : ∀ h : 0 < s.size, ((s[0]'h).toNat : Int) = bt s 0 := bt_at s 0
  have i0 : (0 < (s.size : Int)) = True := eq_true (by omega)
  clear h
  obtain ⟨A, Z⟩ := box_block w #[.int .i64 0, .int .i64 0, .int .i64 0, .int .i64 0, .int .i64 0, .int .u32 0, .int .u32 0, .string ⟨#[]⟩] 58
  go_enter Try.func25, Try.ntmps25
  go_wp2_with (refine wpList_store_row rfl 58 _ _ rfl w.heap.size _ rfl rfl 58 _ A (by kernel_rfl) rfl (by simp [Value.oneCell']) ?_)
  exact ret25 w _ _ _ 3 rfl rfl (setRow_heap _ _ _ _ _ _ A) rfl (below_setRow Z (Nat.le_refl _) _) ⟨rfl, below_setRow Z (Nat.le_refl _) _⟩
set_option maxRecDepth 100000 in
set_option maxHeartbeats 1000000 in
theorem rparse_less (s : ByteArray) (w : World) (h : 20 ≤ s.size) (h0 : (bt s 0 == 69) = true) (h0' : (bt s 0 != 69) = false) (n : Int) (hn : numV (s.extract 2 4) = n) (hl : decide (n < 20) = true) :
    Calls Try.prog 25 #[.string s] w fun e w' => e = .returned (hdV (badH 1)) ∧ Below w.heap.size w w' := by
  have hu58 := Try.underlying58
  have c1 : decide ((s.size : Int) < 20) = false := decide_eq_false (by omega)
  have c1' : decide (s.size < 20) = false := decide_eq_false (by omega)
  have q0 : (0 < s.size) = True := eq_true (by omega)
  have x0 : ∀ h : 0 < s.size, ((s[0]'h).toNat : Int) = bt s 0 := bt_at s 0
  have i0 : (0 < (s.size : Int)) = True := eq_true (by omega)
  have i4 : (4 ≤ (s.size : Int)) = True := eq_true (by omega)
  have G : Hid (∀ w, _) := fun w => number_at s 2 4 (by omega) (by omega) w hn
  clear h hn
  obtain ⟨A, Z⟩ := box_block w #[.int .i64 0, .int .i64 0, .int .i64 0, .int .i64 0, .int .i64 0, .int .u32 0, .int .u32 0, .string ⟨#[]⟩] 58
  go_enter Try.func25, Try.ntmps25
  go_wp2_with (first | (go_at_call 41; (with_reducible refine (G.out _).mono ?_); rintro e w' ⟨rfl, rfl⟩) | (refine wpList_store_row rfl 58 _ _ rfl w.heap.size _ rfl rfl 58 _ A (by kernel_rfl) rfl (by simp [Value.oneCell']) ?_))
  exact ret25 w _ _ _ 1 rfl rfl (setRow_heap _ _ _ _ _ _ A) rfl (below_setRow Z (Nat.le_refl _) _) ⟨rfl, below_setRow Z (Nat.le_refl _) _⟩
set_option maxRecDepth 100000 in
set_option maxHeartbeats 1000000 in
theorem rparse_len (s : ByteArray) (w : World) (h : 20 ≤ s.size) (h0 : (bt s 0 == 69) = true) (h0' : (bt s 0 != 69) = false) (n : Int) (hn : numV (s.extract 2 4) = n) (hl : decide (n < 20) = false) (b : Bool) (hs : decide ((s.size : Int) < n) = b) (he : b = false → decide (n < (s.size : Int)) = true) :
    Calls Try.prog 25 #[.string s] w fun e w' => e = .returned (hdV (badH (if b then 1 else 6))) ∧ Below w.heap.size w w' := by
  have hu58 := Try.underlying58
  have c1 : decide ((s.size : Int) < 20) = false := decide_eq_false (by omega)
  have c1' : decide (s.size < 20) = false := decide_eq_false (by omega)
  have q0 : (0 < s.size) = True := eq_true (by omega)
  have x0 : ∀ h : 0 < s.size, ((s[0]'h).toNat : Int) = bt s 0 := bt_at s 0
  have i0 : (0 < (s.size : Int)) = True := eq_true (by omega)
  have i4 : (4 ≤ (s.size : Int)) = True := eq_true (by omega)
  have G : Hid (∀ w, _) := fun w => number_at s 2 4 (by omega) (by omega) w hn
  clear h hn
  obtain ⟨A, Z⟩ := box_block w #[.int .i64 0, .int .i64 0, .int .i64 0, .int .i64 0, .int .i64 0, .int .u32 0, .int .u32 0, .string ⟨#[]⟩] 58
  cases b
  · replace he := he rfl
    go_enter Try.func25, Try.ntmps25
    go_wp2_with (first | (go_at_call 41; (with_reducible refine (G.out _).mono ?_); rintro e w' ⟨rfl, rfl⟩) | (refine wpList_store_row rfl 58 _ _ rfl w.heap.size _ rfl rfl 58 _ A (by kernel_rfl) rfl (by simp [Value.oneCell']) ?_))
    exact ret25 w _ _ _ 6 rfl rfl (setRow_heap _ _ _ _ _ _ A) rfl (below_setRow Z (Nat.le_refl _) _) ⟨rfl, below_setRow Z (Nat.le_refl _) _⟩
  · clear he
    go_enter Try.func25, Try.ntmps25
    go_wp2_with (first | (go_at_call 41; (with_reducible refine (G.out _).mono ?_); rintro e w' ⟨rfl, rfl⟩) | (refine wpList_store_row rfl 58 _ _ rfl w.heap.size _ rfl rfl 58 _ A (by kernel_rfl) rfl (by simp [Value.oneCell']) ?_))
    exact ret25 w _ _ _ 1 rfl rfl (setRow_heap _ _ _ _ _ _ A) rfl (below_setRow Z (Nat.le_refl _) _) ⟨rfl, below_setRow Z (Nat.le_refl _) _⟩
end Go.Proofs.Ytcpneggifmldoaa.T
set_option linter.unusedVariables false
set_option linter.unusedSimpArgs false
namespace Go.Proofs.Ytcpneggifmldoaa.T
open Go.RowKit Go.Proofs.YtcpneggifmldoaaW.PrintWords Go.Proofs.YtcpneggifmldoaaW.PrintLast Go.Proofs.YtcpneggifmldoaaW.PrintMore Go
set_option maxRecDepth 100000 in
set_option maxHeartbeats 20000000 in
theorem rparse_right (s : ByteArray) (w : World) (h : 20 ≤ s.size) (h0 : (bt s 0 == 69) = true) (h0' : (bt s 0 != 69) = false) (n : Int) (hn : numV (s.extract 2 4) = n) (hl : decide (n < 20) = false) (hs : decide ((s.size : Int) < n) = false) (he : decide (n < (s.size : Int)) = false) (b : Bool) (T : ByteArray) (u : Int)
    (hB : buildV (bt s 1) (n2 s 4) (n2 s 6) (bt s 8) (bt s 9) (n4 s 12) (n4 s 16) (s.extract 20 s.size) = (T, u)) (hb : (T.toList == s.toList) = b) (hb' : (T.toList != s.toList) = !b) :
    Calls Try.prog 25 #[.string s] w fun e w' => e = .returned (hdV (if b then hdO s else badH 9)) ∧ Below w.heap.size w w' := by
  have hu58 := Try.underlying58
  have c1 : decide ((s.size : Int) < 20) = false := decide_eq_false (by omega)
  have c1' : decide (s.size < 20) = false := decide_eq_false (by omega)
  have q0 : (0 < s.size) = True := eq_true (by omega)
  have x0 : ∀ h : 0 < s.size, ((s[0]'h).toNat : Int) = bt s 0 := bt_at s 0
  have i0 : (0 < (s.size : Int)) = True := eq_true (by omega)
  have i4 : (4 ≤ (s.size : Int)) = True := eq_true (by omega)
  have q1 : (1 < s.size) = True := eq_true (by omega)
  have x1 : ∀ h : 1 < s.size, ((s[1]'h).toNat : Int) = bt s 1 := bt_at s 1
  have j1 : (1 < (s.size : Int)) = True := eq_true (by omega)
  have q8 : (8 < s.size) = True := eq_true (by omega)
  have x8 : ∀ h : 8 < s.size, ((s[8]'h).toNat : Int) = bt s 8 := bt_at s 8
  have j8 : (8 < (s.size : Int)) = True := eq_true (by omega)
  have q9 : (9 < s.size) = True := eq_true (by omega)
  have x9 : ∀ h : 9 < s.size, ((s[9]'h).toNat : Int) = bt s 9 := bt_at s 9
  have j9 : (9 < (s.size : Int)) = True := eq_true (by omega)
  have i6 : (6 ≤ (s.size : Int)) = True := eq_true (by omega)
  have i8 : (8 ≤ (s.size : Int)) = True := eq_true (by omega)
  have i16 : (16 ≤ (s.size : Int)) = True := eq_true (by omega)
  have i20 : (20 ≤ (s.size : Int)) = True := eq_true (by omega)
  have i12 : (12 ≤ (s.size : Int)) = True := eq_true (by omega)
  have i10 : (10 ≤ (s.size : Int)) = True := eq_true (by omega)
  have w1 : wrap64 (bt s 1) = bt s 1 := wrap_n (bt_range s 1).1 (by have := (bt_range s 1).2; omega)
  have w8 : wrap64 (bt s 8) = bt s 8 := wrap_n (bt_range s 8).1 (by have := (bt_range s 8).2; omega)
  have w9 : wrap64 (bt s 9) = bt s 9 := wrap_n (bt_range s 9).1 (by have := (bt_range s 9).2; omega)
  have ua : IntKind.u32.wrap (n4 s 12) = n4 s 12 := wraps_u32 _ (n4_range s 12).1 (by have := (n4_range s 12).2; have e : (2 : Int) ^ 32 = 4294967296 := rfl; omega)
  have ub : IntKind.u32.wrap (n4 s 16) = n4 s 16 := wraps_u32 _ (n4_range s 16).1 (by have := (n4_range s 16).2; have e : (2 : Int) ^ 32 = 4294967296 := rfl; omega)
  have G : Hid (∀ w, _) := fun w => number_at s 2 4 (by omega) (by omega) w hn
  have G4 : Hid (∀ w, _) := fun w => number_at s 4 6 (by omega) (by omega) w (numV2 s 4 (by omega))
  have G6 : Hid (∀ w, _) := fun w => number_at s 6 8 (by omega) (by omega) w (numV2 s 6 (by omega))
  have G12 : Hid (∀ w, _) := fun w => number_at s 12 16 (by omega) (by omega) w (numV4 s 12 (by omega))
  have G16 : Hid (∀ w, _) := fun w => number_at s 16 20 (by omega) (by omega) w (numV4 s 16 (by omega))
  have GB : Hid (∀ w, Calls Try.prog 42 #[.agg #[.int .i64 (bt s 1), .int .i64 (n2 s 4), .int .i64 (n2 s 6), .int .i64 (bt s 8), .int .i64 (bt s 9), .int .u32 (n4 s 12), .int .u32 (n4 s 16), .string (s.extract 20 s.size)]] w fun e w' => e = .returned (.tuple #[.string T, .int .i64 u]) ∧ Below w.heap.size w w') := fun w => by
    have := build42_calls (bt s 1) (n2 s 4) (n2 s 6) (bt s 8) (bt s 9) (n4 s 12) (n4 s 16) (s.extract 20 s.size) w (n4_range s 12).1 (by have := (n4_range s 12).2; omega) (n4_range s 16).1 (by have := (n4_range s 16).2; omega)
    rw [hB] at this
    exact this
  clear h hn hB
  obtain ⟨A, Z⟩ := box_block w #[.int .i64 0, .int .i64 0, .int .i64 0, .int .i64 0, .int .i64 0, .int .u32 0, .int .u32 0, .string ⟨#[]⟩] 58
  replace A := blk_drew A
  replace Z := below_drew1 Z
  go_enter Try.func25, Try.ntmps25
  go_wp2_with (first | (go_at_call 41; (with_reducible refine (G.out _).mono ?_); rintro e w' ⟨rfl, rfl⟩))
  try clear hHeld
  refine start_ (n := 28) (S := fun w' => True) (ds := []) #[false, false, false, false, false, false, false, false, false, false, false, false, false, false, false, false, false, false, false, false, false, false, false, false, false, false, false, false] (by kernel_rfl) rfl rfl trivial (fun hHeld => ?_)
  generalize (w.alloc (.cells #[.int .i64 0, .int .i64 0, .int .i64 0, .int .i64 0, .int .i64 0, .int .u32 0, .int .u32 0, .string ⟨#[]⟩] 58)).drew = W at A Z ⊢
  refine pure_ (i := 0) (N := some 35) (v := ?_) (a' := ?_) #[true, false, false, false, false, false, false, false, false, false, false, false, false, false, false, false, false, false, false, false, false, false, false, false, false, false, false, false] rfl rfl (by kernel_rfl) (fun _ _ _ h => h) (Or.inl ⟨by rfl, ?_⟩) ?_ ?_
  rotate_left
  · intro w'; go_simp; try with_reducible rfl
  rotate_left
  · simp only [Act.put, List.setIfInBounds_toArray, List.set_cons_zero, List.set_cons_succ, i64_w, i32_w]; rfl
  refine pure_ (i := 1) (N := some 36) (v := ?_) (a' := ?_) #[true, true, false, false, false, false, false, false, false, false, false, false, false, false, false, false, false, false, false, false, false, false, false, false, false, false, false, false] rfl rfl (by kernel_rfl) (fun _ _ _ h => h) (Or.inl ⟨by rfl, ?_⟩) ?_ ?_
  rotate_left
  · intro w'; go_simp; try with_reducible rfl
  rotate_left
  · simp only [Act.put, List.setIfInBounds_toArray, List.set_cons_zero, List.set_cons_succ, i64_w, i32_w]; rfl
  refine pure_ (i := 2) (N := some 37) (v := ?_) (a' := ?_) #[true, true, true, false, false, false, false, false, false, false, false, false, false, false, false, false, false, false, false, false, false, false, false, false, false, false, false, false] rfl rfl (by kernel_rfl) (fun _ _ _ h => h) (Or.inl ⟨by rfl, ?_⟩) ?_ ?_
  rotate_left
  · intro w'; go_simp; try with_reducible rfl
  rotate_left
  · simp only [Act.put, List.setIfInBounds_toArray, List.set_cons_zero, List.set_cons_succ, i64_w, i32_w]; rfl
  refine pure_ (i := 3) (N := some 38) (v := ?_) (a' := ?_) #[true, true, true, true, false, false, false, false, false, false, false, false, false, false, false, false, false, false, false, false, false, false, false, false, false, false, false, false] rfl rfl (by kernel_rfl) (fun _ _ _ h => h) (Or.inl ⟨by rfl, ?_⟩) ?_ ?_
  rotate_left
  · intro w'; go_simp; try with_reducible rfl
  rotate_left
  · simp only [Act.put, List.setIfInBounds_toArray, List.set_cons_zero, List.set_cons_succ, i64_w, i32_w]; rfl
  refine pure_ (i := 4) (N := some 39) (v := ?_) (a' := ?_) #[true, true, true, true, true, false, false, false, false, false, false, false, false, false, false, false, false, false, false, false, false, false, false, false, false, false, false, false] rfl rfl (by kernel_rfl) (fun _ _ _ h => h) (Or.inl ⟨by rfl, ?_⟩) ?_ ?_
  rotate_left
  · intro w'; go_simp; try with_reducible rfl
  rotate_left
  · simp only [Act.put, List.setIfInBounds_toArray, List.set_cons_zero, List.set_cons_succ, i64_w, i32_w]; rfl
  refine pure_ (i := 6) (N := some 41) (v := ?_) (a' := ?_) #[true, true, true, true, true, false, true, false, false, false, false, false, false, false, false, false, false, false, false, false, false, false, false, false, false, false, false, false] rfl rfl (by kernel_rfl) (fun _ _ _ h => h) (Or.inl ⟨by rfl, ?_⟩) ?_ ?_
  rotate_left
  · intro w'; go_simp; try with_reducible rfl
  rotate_left
  · simp only [Act.put, List.setIfInBounds_toArray, List.set_cons_zero, List.set_cons_succ, i64_w, i32_w]; rfl
  refine pure_ (i := 7) (N := some 42) (v := ?_) (a' := ?_) #[true, true, true, true, true, false, true, true, false, false, false, false, false, false, false, false, false, false, false, false, false, false, false, false, false, false, false, false] rfl rfl (by kernel_rfl) (fun _ _ _ h => h) (Or.inl ⟨by rfl, ?_⟩) ?_ ?_
  rotate_left
  · intro w'; go_simp; try with_reducible rfl
  rotate_left
  · simp only [Act.put, List.setIfInBounds_toArray, List.set_cons_zero, List.set_cons_succ, i64_w, i32_w]; rfl
  refine pure_ (i := 9) (N := some 44) (v := ?_) (a' := ?_) #[true, true, true, true, true, false, true, true, false, true, false, false, false, false, false, false, false, false, false, false, false, false, false, false, false, false, false, false] rfl rfl (by kernel_rfl) (fun _ _ _ h => h) (Or.inl ⟨by rfl, ?_⟩) ?_ ?_
  rotate_left
  · intro w'; go_simp; try with_reducible rfl
  rotate_left
  · simp only [Act.put, List.setIfInBounds_toArray, List.set_cons_zero, List.set_cons_succ, i64_w, i32_w]; rfl
  refine pure_ (i := 10) (N := some 45) (v := ?_) (a' := ?_) #[true, true, true, true, true, false, true, true, false, true, true, false, false, false, false, false, false, false, false, false, false, false, false, false, false, false, false, false] rfl rfl (by kernel_rfl) (fun _ _ _ h => h) (Or.inl ⟨by rfl, ?_⟩) ?_ ?_
  rotate_left
  · intro w'; go_simp; try with_reducible rfl
  rotate_left
  · simp only [Act.put, List.setIfInBounds_toArray, List.set_cons_zero, List.set_cons_succ, i64_w, i32_w]; rfl
  refine pure_ (i := 11) (N := some 46) (v := ?_) (a' := ?_) #[true, true, true, true, true, false, true, true, false, true, true, true, false, false, false, false, false, false, false, false, false, false, false, false, false, false, false, false] rfl rfl (by kernel_rfl) (fun _ _ _ h => h) (Or.inl ⟨by rfl, ?_⟩) ?_ ?_
  rotate_left
  · intro w'; go_simp; try with_reducible rfl
  rotate_left
  · simp only [Act.put, List.setIfInBounds_toArray, List.set_cons_zero, List.set_cons_succ, i64_w, i32_w]; rfl
  refine pure_ (i := 12) (N := some 47) (v := ?_) (a' := ?_) #[true, true, true, true, true, false, true, true, false, true, true, true, true, false, false, false, false, false, false, false, false, false, false, false, false, false, false, false] rfl rfl (by kernel_rfl) (fun _ _ _ h => h) (Or.inl ⟨by rfl, ?_⟩) ?_ ?_
  rotate_left
  · intro w'; go_simp; try with_reducible rfl
  rotate_left
  · simp only [Act.put, List.setIfInBounds_toArray, List.set_cons_zero, List.set_cons_succ, i64_w, i32_w]; rfl
  refine pure_ (i := 13) (N := some 48) (v := ?_) (a' := ?_) #[true, true, true, true, true, false, true, true, false, true, true, true, true, true, false, false, false, false, false, false, false, false, false, false, false, false, false, false] rfl rfl (by kernel_rfl) (fun _ _ _ h => h) (Or.inl ⟨by rfl, ?_⟩) ?_ ?_
  rotate_left
  · intro w'; go_simp; try with_reducible rfl
  rotate_left
  · simp only [Act.put, List.setIfInBounds_toArray, List.set_cons_zero, List.set_cons_succ, i64_w, i32_w]; rfl
  refine pure_ (i := 14) (N := some 49) (v := ?_) (a' := ?_) #[true, true, true, true, true, false, true, true, false, true, true, true, true, true, true, false, false, false, false, false, false, false, false, false, false, false, false, false] rfl rfl (by kernel_rfl) (fun _ _ _ h => h) (Or.inl ⟨by rfl, ?_⟩) ?_ ?_
  rotate_left
  · intro w'; go_simp; try with_reducible rfl
  rotate_left
  · simp only [Act.put, List.setIfInBounds_toArray, List.set_cons_zero, List.set_cons_succ, i64_w, i32_w]; rfl
  refine pure_ (i := 15) (N := some 50) (v := ?_) (a' := ?_) #[true, true, true, true, true, false, true, true, false, true, true, true, true, true, true, true, false, false, false, false, false, false, false, false, false, false, false, false] rfl rfl (by kernel_rfl) (fun _ _ _ h => h) (Or.inl ⟨by rfl, ?_⟩) ?_ ?_
  rotate_left
  · intro w'; go_simp; try with_reducible rfl
  rotate_left
  · simp only [Act.put, List.setIfInBounds_toArray, List.set_cons_zero, List.set_cons_succ, i64_w, i32_w]; rfl
  refine pure_ (i := 16) (N := some 51) (v := ?_) (a' := ?_) #[true, true, true, true, true, false, true, true, false, true, true, true, true, true, true, true, true, false, false, false, false, false, false, false, false, false, false, false] rfl rfl (by kernel_rfl) (fun _ _ _ h => h) (Or.inl ⟨by rfl, ?_⟩) ?_ ?_
  rotate_left
  · intro w'; go_simp; try with_reducible rfl
  rotate_left
  · simp only [Act.put, List.setIfInBounds_toArray, List.set_cons_zero, List.set_cons_succ, i64_w, i32_w]; rfl
  refine pure_ (i := 19) (N := some 54) (v := ?_) (a' := ?_) #[true, true, true, true, true, false, true, true, false, true, true, true, true, true, true, true, true, false, false, true, false, false, false, false, false, false, false, false] rfl rfl (by kernel_rfl) (fun _ _ _ h => h) (Or.inl ⟨by rfl, ?_⟩) ?_ ?_
  rotate_left
  · intro w'; go_simp; try with_reducible rfl
  rotate_left
  · simp only [Act.put, List.setIfInBounds_toArray, List.set_cons_zero, List.set_cons_succ, i64_w, i32_w]; rfl
  refine pure_ (i := 20) (N := some 55) (v := ?_) (a' := ?_) #[true, true, true, true, true, false, true, true, false, true, true, true, true, true, true, true, true, false, false, true, true, false, false, false, false, false, false, false] rfl rfl (by kernel_rfl) (fun _ _ _ h => h) (Or.inl ⟨by rfl, ?_⟩) ?_ ?_
  rotate_left
  · intro w'; go_simp; try with_reducible rfl
  rotate_left
  · simp only [Act.put, List.setIfInBounds_toArray, List.set_cons_zero, List.set_cons_succ, i64_w, i32_w]; rfl
  refine pure_ (i := 23) (N := some 58) (v := ?_) (a' := ?_) #[true, true, true, true, true, false, true, true, false, true, true, true, true, true, true, true, true, false, false, true, true, false, false, true, false, false, false, false] rfl rfl (by kernel_rfl) (fun _ _ _ h => h) (Or.inl ⟨by rfl, ?_⟩) ?_ ?_
  rotate_left
  · intro w'; go_simp; try with_reducible rfl
  rotate_left
  · simp only [Act.put, List.setIfInBounds_toArray, List.set_cons_zero, List.set_cons_succ, i64_w, i32_w]; rfl
  refine pure_ (i := 24) (N := some 59) (v := ?_) (a' := ?_) #[true, true, true, true, true, false, true, true, false, true, true, true, true, true, true, true, true, false, false, true, true, false, false, true, true, false, false, false] rfl rfl (by kernel_rfl) (fun _ _ _ h => h) (Or.inl ⟨by rfl, ?_⟩) ?_ ?_
  rotate_left
  · intro w'; go_simp; try with_reducible rfl
  rotate_left
  · simp only [Act.put, List.setIfInBounds_toArray, List.set_cons_zero, List.set_cons_succ, i64_w, i32_w]; rfl
  refine two_ (i := 5) (j := 26) (Ni := some 40) (Nj := some 5) #[true, true, true, true, true, true, true, true, false, true, true, true, true, true, true, true, true, false, false, true, true, false, false, true, true, false, false, false] #[true, true, true, true, true, false, true, true, false, true, true, true, true, true, true, true, true, false, false, true, true, false, false, true, true, false, true, false] rfl rfl rfl rfl (by kernel_rfl) (by decide) (by decide) (fun K hK => ?_) (fun K hK => ?_)
  refine goes_ Try.func41 (by kernel_rfl) rfl #[.string (s.extract 4 6)] (by rfl) rfl rfl (by (try simp only [List.map_toArray, List.map_cons, List.map_nil]); first | done | rfl) ?_
  with_reducible refine (G4.out _).mono ?_
  rintro e w' ⟨rfl, rfl⟩
  refine ⟨_, rfl, ?_⟩
  try clear hHeld
  refine hK.out _ _ (by trivial) (fun hHeld => ?_)
  clear hK K
  refine norm_ (a' := ?_) ?_ ?_
  rotate_left
  · show Act.put _ (some 40) _ = _; simp only [Act.put, List.setIfInBounds_toArray, List.set_cons_zero, List.set_cons_succ, i64_w, i32_w]; rfl
  refine two_ (i := 8) (j := 26) (Ni := some 43) (Nj := some 5) #[true, true, true, true, true, true, true, true, true, true, true, true, true, true, true, true, true, false, false, true, true, false, false, true, true, false, false, false] #[true, true, true, true, true, true, true, true, false, true, true, true, true, true, true, true, true, false, false, true, true, false, false, true, true, false, true, false] rfl rfl rfl rfl (by kernel_rfl) (by decide) (by decide) (fun K hK => ?_) (fun K hK => ?_)
  refine goes_ Try.func41 (by kernel_rfl) rfl #[.string (s.extract 6 8)] (by rfl) rfl rfl (by (try simp only [List.map_toArray, List.map_cons, List.map_nil]); first | done | rfl) ?_
  with_reducible refine (G6.out _).mono ?_
  rintro e w' ⟨rfl, rfl⟩
  refine ⟨_, rfl, ?_⟩
  try clear hHeld
  refine hK.out _ _ (by trivial) (fun hHeld => ?_)
  clear hK K
  refine norm_ (a' := ?_) ?_ ?_
  rotate_left
  · show Act.put _ (some 43) _ = _; simp only [Act.put, List.setIfInBounds_toArray, List.set_cons_zero, List.set_cons_succ, i64_w, i32_w]; rfl
  refine two_ (i := 17) (j := 26) (Ni := some 52) (Nj := some 5) #[true, true, true, true, true, true, true, true, true, true, true, true, true, true, true, true, true, true, false, true, true, false, false, true, true, false, false, false] #[true, true, true, true, true, true, true, true, true, true, true, true, true, true, true, true, true, false, false, true, true, false, false, true, true, false, true, false] rfl rfl rfl rfl (by kernel_rfl) (by decide) (by decide) (fun K hK => ?_) (fun K hK => ?_)
  refine goes_ Try.func41 (by kernel_rfl) rfl #[.string (s.extract 12 16)] (by rfl) rfl rfl (by (try simp only [List.map_toArray, List.map_cons, List.map_nil]); first | done | rfl) ?_
  with_reducible refine (G12.out _).mono ?_
  rintro e w' ⟨rfl, rfl⟩
  refine ⟨_, rfl, ?_⟩
  try clear hHeld
  refine hK.out _ _ (by trivial) (fun hHeld => ?_)
  clear hK K
  refine norm_ (a' := ?_) ?_ ?_
  rotate_left
  · show Act.put _ (some 52) _ = _; simp only [Act.put, List.setIfInBounds_toArray, List.set_cons_zero, List.set_cons_succ, i64_w, i32_w]; rfl
  refine pure_ (i := 18) (N := some 53) (v := ?_) (a' := ?_) #[true, true, true, true, true, true, true, true, true, true, true, true, true, true, true, true, true, true, true, true, true, false, false, true, true, false, false, false] rfl rfl (by kernel_rfl) (fun _ _ _ h => h) (Or.inl ⟨by rfl, ?_⟩) ?_ ?_
  rotate_left
  · intro w'; go_simp; try with_reducible rfl
  rotate_left
  · simp only [Act.put, List.setIfInBounds_toArray, List.set_cons_zero, List.set_cons_succ, i64_w, i32_w]; rfl
  refine two_ (i := 21) (j := 26) (Ni := some 56) (Nj := some 5) #[true, true, true, true, true, true, true, true, true, true, true, true, true, true, true, true, true, true, true, true, true, true, false, true, true, false, false, false] #[true, true, true, true, true, true, true, true, true, true, true, true, true, true, true, true, true, true, true, true, true, false, false, true, true, false, true, false] rfl rfl rfl rfl (by kernel_rfl) (by decide) (by decide) (fun K hK => ?_) (fun K hK => ?_)
  refine goes_ Try.func41 (by kernel_rfl) rfl #[.string (s.extract 16 20)] (by rfl) rfl rfl (by (try simp only [List.map_toArray, List.map_cons, List.map_nil]); first | done | rfl) ?_
  with_reducible refine (G16.out _).mono ?_
  rintro e w' ⟨rfl, rfl⟩
  refine ⟨_, rfl, ?_⟩
  try clear hHeld
  refine hK.out _ _ (by trivial) (fun hHeld => ?_)
  clear hK K
  refine norm_ (a' := ?_) ?_ ?_
  rotate_left
  · show Act.put _ (some 56) _ = _; simp only [Act.put, List.setIfInBounds_toArray, List.set_cons_zero, List.set_cons_succ, i64_w, i32_w]; rfl
  refine pure_ (i := 22) (N := some 57) (v := ?_) (a' := ?_) #[true, true, true, true, true, true, true, true, true, true, true, true, true, true, true, true, true, true, true, true, true, true, true, true, true, false, false, false] rfl rfl (by kernel_rfl) (fun _ _ _ h => h) (Or.inl ⟨by rfl, ?_⟩) ?_ ?_
  rotate_left
  · intro w'; go_simp; try with_reducible rfl
  rotate_left
  · simp only [Act.put, List.setIfInBounds_toArray, List.set_cons_zero, List.set_cons_succ, i64_w, i32_w]; rfl
  refine pure_ (i := 25) (N := some 60) (v := ?_) (a' := ?_) #[true, true, true, true, true, true, true, true, true, true, true, true, true, true, true, true, true, true, true, true, true, true, true, true, true, true, false, false] rfl rfl (by kernel_rfl) (fun _ _ _ h => h) (Or.inl ⟨by rfl, ?_⟩) ?_ ?_
  rotate_left
  · intro w'; go_simp; try with_reducible rfl
  rotate_left
  · simp only [Act.put, List.setIfInBounds_toArray, List.set_cons_zero, List.set_cons_succ, i64_w, i32_w]; rfl
  refine one_ (i := 26) (N := some 5) #[true, true, true, true, true, true, true, true, true, true, true, true, true, true, true, true, true, true, true, true, true, true, true, true, true, true, true, false] rfl rfl (by kernel_rfl) (by decide) (fun K hK => ?_)
  refine event_step (by rfl) (v := .pointer (some ⟨W.heap.size, 0, none⟩)) (w1 := W.alloc (.cells #[.int .i64 0, .int .i64 0, .int .i64 0, .int .i64 0, .int .i64 0, .int .u32 0, .int .u32 0, .string ⟨#[]⟩] 58 (0, 0))) (by go_simp) ?_
  try clear hHeld
  refine hK.out _ _ (by trivial) (fun hHeld => ?_)
  clear hK K
  refine norm_ (a' := ?_) ?_ ?_
  rotate_left
  · show Act.put _ (some 5) _ = _; simp only [Act.put, List.setIfInBounds_toArray, List.set_cons_zero, List.set_cons_succ, i64_w, i32_w]; rfl
  refine one_ (i := 27) (N := none) #[true, true, true, true, true, true, true, true, true, true, true, true, true, true, true, true, true, true, true, true, true, true, true, true, true, true, true, true] rfl rfl (by kernel_rfl) (by decide) (fun K hK => ?_)
  rw [if_pos (by rfl)]
  refine wp_store_row 58 _ _ rfl W.heap.size _ rfl rfl 58 #[.int .i64 0, .int .i64 0, .int .i64 0, .int .i64 0, .int .i64 0, .int .u32 0, .int .u32 0, .string ⟨#[]⟩] (blk_new W _) (by kernel_rfl) rfl (by simp [Value.oneCell']) ?_
  rw [World.setRow_alloc_new]
  try clear hHeld
  refine hK.out _ _ (by trivial) (fun hHeld => ?_)
  clear hK K
  refine norm_ (a' := ?_) ?_ ?_
  rotate_left
  · show Act.put _ none _ = _; simp only [Act.put]; rfl
  refine done_ (by kernel_rfl) ?_
  rotate_left
  refine event_step (by rfl) (v := .pointer (some ⟨W.heap.size, 0, none⟩)) (w1 := W.alloc (.cells #[.int .i64 0, .int .i64 0, .int .i64 0, .int .i64 0, .int .i64 0, .int .u32 0, .int .u32 0, .string ⟨#[]⟩] 58 (0, 0))) (by go_simp) ?_
  try clear hHeld
  refine hK.out _ _ (by trivial) (fun hHeld => ?_)
  clear hK K
  refine norm_ (a' := ?_) ?_ ?_
  rotate_left
  · show Act.put _ (some 5) _ = _; simp only [Act.put, List.setIfInBounds_toArray, List.set_cons_zero, List.set_cons_succ, i64_w, i32_w]; rfl
  refine one_ (i := 21) (N := some 56) #[true, true, true, true, true, true, true, true, true, true, true, true, true, true, true, true, true, true, true, true, true, true, false, true, true, false, true, false] rfl rfl (by kernel_rfl) (by decide) (fun K hK => ?_)
  refine goes_ Try.func41 (by kernel_rfl) rfl #[.string (s.extract 16 20)] (by rfl) rfl rfl (by (try simp only [List.map_toArray, List.map_cons, List.map_nil]); first | done | rfl) ?_
  with_reducible refine (G16.out _).mono ?_
  rintro e w' ⟨rfl, rfl⟩
  refine ⟨_, rfl, ?_⟩
  try clear hHeld
  refine hK.out _ _ (by trivial) (fun hHeld => ?_)
  clear hK K
  refine norm_ (a' := ?_) ?_ ?_
  rotate_left
  · show Act.put _ (some 56) _ = _; simp only [Act.put, List.setIfInBounds_toArray, List.set_cons_zero, List.set_cons_succ, i64_w, i32_w]; rfl
  refine pure_ (i := 22) (N := some 57) (v := ?_) (a' := ?_) #[true, true, true, true, true, true, true, true, true, true, true, true, true, true, true, true, true, true, true, true, true, true, true, true, true, false, true, false] rfl rfl (by kernel_rfl) (fun _ _ _ h => h) (Or.inl ⟨by rfl, ?_⟩) ?_ ?_
  rotate_left
  · intro w'; go_simp; try with_reducible rfl
  rotate_left
  · simp only [Act.put, List.setIfInBounds_toArray, List.set_cons_zero, List.set_cons_succ, i64_w, i32_w]; rfl
  refine pure_ (i := 25) (N := some 60) (v := ?_) (a' := ?_) #[true, true, true, true, true, true, true, true, true, true, true, true, true, true, true, true, true, true, true, true, true, true, true, true, true, true, true, false] rfl rfl (by kernel_rfl) (fun _ _ _ h => h) (Or.inl ⟨by rfl, ?_⟩) ?_ ?_
  rotate_left
  · intro w'; go_simp; try with_reducible rfl
  rotate_left
  · simp only [Act.put, List.setIfInBounds_toArray, List.set_cons_zero, List.set_cons_succ, i64_w, i32_w]; rfl
  refine one_ (i := 27) (N := none) #[true, true, true, true, true, true, true, true, true, true, true, true, true, true, true, true, true, true, true, true, true, true, true, true, true, true, true, true] rfl rfl (by kernel_rfl) (by decide) (fun K hK => ?_)
  rw [if_pos (by rfl)]
  refine wp_store_row 58 _ _ rfl W.heap.size _ rfl rfl 58 #[.int .i64 0, .int .i64 0, .int .i64 0, .int .i64 0, .int .i64 0, .int .u32 0, .int .u32 0, .string ⟨#[]⟩] (blk_new W _) (by kernel_rfl) rfl (by simp [Value.oneCell']) ?_
  rw [World.setRow_alloc_new]
  try clear hHeld
  refine hK.out _ _ (by trivial) (fun hHeld => ?_)
  clear hK K
  refine norm_ (a' := ?_) ?_ ?_
  rotate_left
  · show Act.put _ none _ = _; simp only [Act.put]; rfl
  refine done_ (by kernel_rfl) ?_
  rotate_left
  refine event_step (by rfl) (v := .pointer (some ⟨W.heap.size, 0, none⟩)) (w1 := W.alloc (.cells #[.int .i64 0, .int .i64 0, .int .i64 0, .int .i64 0, .int .i64 0, .int .u32 0, .int .u32 0, .string ⟨#[]⟩] 58 (0, 0))) (by go_simp) ?_
  try clear hHeld
  refine hK.out _ _ (by trivial) (fun hHeld => ?_)
  clear hK K
  refine norm_ (a' := ?_) ?_ ?_
  rotate_left
  · show Act.put _ (some 5) _ = _; simp only [Act.put, List.setIfInBounds_toArray, List.set_cons_zero, List.set_cons_succ, i64_w, i32_w]; rfl
  refine one_ (i := 17) (N := some 52) #[true, true, true, true, true, true, true, true, true, true, true, true, true, true, true, true, true, true, false, true, true, false, false, true, true, false, true, false] rfl rfl (by kernel_rfl) (by decide) (fun K hK => ?_)
  refine goes_ Try.func41 (by kernel_rfl) rfl #[.string (s.extract 12 16)] (by rfl) rfl rfl (by (try simp only [List.map_toArray, List.map_cons, List.map_nil]); first | done | rfl) ?_
  with_reducible refine (G12.out _).mono ?_
  rintro e w' ⟨rfl, rfl⟩
  refine ⟨_, rfl, ?_⟩
  try clear hHeld
  refine hK.out _ _ (by trivial) (fun hHeld => ?_)
  clear hK K
  refine norm_ (a' := ?_) ?_ ?_
  rotate_left
  · show Act.put _ (some 52) _ = _; simp only [Act.put, List.setIfInBounds_toArray, List.set_cons_zero, List.set_cons_succ, i64_w, i32_w]; rfl
  refine pure_ (i := 18) (N := some 53) (v := ?_) (a' := ?_) #[true, true, true, true, true, true, true, true, true, true, true, true, true, true, true, true, true, true, true, true, true, false, false, true, true, false, true, false] rfl rfl (by kernel_rfl) (fun _ _ _ h => h) (Or.inl ⟨by rfl, ?_⟩) ?_ ?_
  rotate_left
  · intro w'; go_simp; try with_reducible rfl
  rotate_left
  · simp only [Act.put, List.setIfInBounds_toArray, List.set_cons_zero, List.set_cons_succ, i64_w, i32_w]; rfl
  refine one_ (i := 21) (N := some 56) #[true, true, true, true, true, true, true, true, true, true, true, true, true, true, true, true, true, true, true, true, true, true, false, true, true, false, true, false] rfl rfl (by kernel_rfl) (by decide) (fun K hK => ?_)
  refine goes_ Try.func41 (by kernel_rfl) rfl #[.string (s.extract 16 20)] (by rfl) rfl rfl (by (try simp only [List.map_toArray, List.map_cons, List.map_nil]); first | done | rfl) ?_
  with_reducible refine (G16.out _).mono ?_
  rintro e w' ⟨rfl, rfl⟩
  refine ⟨_, rfl, ?_⟩
  try clear hHeld
  refine hK.out _ _ (by trivial) (fun hHeld => ?_)
  clear hK K
  refine norm_ (a' := ?_) ?_ ?_
  rotate_left
  · show Act.put _ (some 56) _ = _; simp only [Act.put, List.setIfInBounds_toArray, List.set_cons_zero, List.set_cons_succ, i64_w, i32_w]; rfl
  refine pure_ (i := 22) (N := some 57) (v := ?_) (a' := ?_) #[true, true, true, true, true, true, true, true, true, true, true, true, true, true, true, true, true, true, true, true, true, true, true, true, true, false, true, false] rfl rfl (by kernel_rfl) (fun _ _ _ h => h) (Or.inl ⟨by rfl, ?_⟩) ?_ ?_
  rotate_left
  · intro w'; go_simp; try with_reducible rfl
  rotate_left
  · simp only [Act.put, List.setIfInBounds_toArray, List.set_cons_zero, List.set_cons_succ, i64_w, i32_w]; rfl
  refine pure_ (i := 25) (N := some 60) (v := ?_) (a' := ?_) #[true, true, true, true, true, true, true, true, true, true, true, true, true, true, true, true, true, true, true, true, true, true, true, true, true, true, true, false] rfl rfl (by kernel_rfl) (fun _ _ _ h => h) (Or.inl ⟨by rfl, ?_⟩) ?_ ?_
  rotate_left
  · intro w'; go_simp; try with_reducible rfl
  rotate_left
  · simp only [Act.put, List.setIfInBounds_toArray, List.set_cons_zero, List.set_cons_succ, i64_w, i32_w]; rfl
  refine one_ (i := 27) (N := none) #[true, true, true, true, true, true, true, true, true, true, true, true, true, true, true, true, true, true, true, true, true, true, true, true, true, true, true, true] rfl rfl (by kernel_rfl) (by decide) (fun K hK => ?_)
  rw [if_pos (by rfl)]
  refine wp_store_row 58 _ _ rfl W.heap.size _ rfl rfl 58 #[.int .i64 0, .int .i64 0, .int .i64 0, .int .i64 0, .int .i64 0, .int .u32 0, .int .u32 0, .string ⟨#[]⟩] (blk_new W _) (by kernel_rfl) rfl (by simp [Value.oneCell']) ?_
  rw [World.setRow_alloc_new]
  try clear hHeld
  refine hK.out _ _ (by trivial) (fun hHeld => ?_)
  clear hK K
  refine norm_ (a' := ?_) ?_ ?_
  rotate_left
  · show Act.put _ none _ = _; simp only [Act.put]; rfl
  refine done_ (by kernel_rfl) ?_
  rotate_left
  refine event_step (by rfl) (v := .pointer (some ⟨W.heap.size, 0, none⟩)) (w1 := W.alloc (.cells #[.int .i64 0, .int .i64 0, .int .i64 0, .int .i64 0, .int .i64 0, .int .u32 0, .int .u32 0, .string ⟨#[]⟩] 58 (0, 0))) (by go_simp) ?_
  try clear hHeld
  refine hK.out _ _ (by trivial) (fun hHeld => ?_)
  clear hK K
  refine norm_ (a' := ?_) ?_ ?_
  rotate_left
  · show Act.put _ (some 5) _ = _; simp only [Act.put, List.setIfInBounds_toArray, List.set_cons_zero, List.set_cons_succ, i64_w, i32_w]; rfl
  refine one_ (i := 8) (N := some 43) #[true, true, true, true, true, true, true, true, true, true, true, true, true, true, true, true, true, false, false, true, true, false, false, true, true, false, true, false] rfl rfl (by kernel_rfl) (by decide) (fun K hK => ?_)
  refine goes_ Try.func41 (by kernel_rfl) rfl #[.string (s.extract 6 8)] (by rfl) rfl rfl (by (try simp only [List.map_toArray, List.map_cons, List.map_nil]); first | done | rfl) ?_
  with_reducible refine (G6.out _).mono ?_
  rintro e w' ⟨rfl, rfl⟩
  refine ⟨_, rfl, ?_⟩
  try clear hHeld
  refine hK.out _ _ (by trivial) (fun hHeld => ?_)
  clear hK K
  refine norm_ (a' := ?_) ?_ ?_
  rotate_left
  · show Act.put _ (some 43) _ = _; simp only [Act.put, List.setIfInBounds_toArray, List.set_cons_zero, List.set_cons_succ, i64_w, i32_w]; rfl
  refine one_ (i := 17) (N := some 52) #[true, true, true, true, true, true, true, true, true, true, true, true, true, true, true, true, true, true, false, true, true, false, false, true, true, false, true, false] rfl rfl (by kernel_rfl) (by decide) (fun K hK => ?_)
  refine goes_ Try.func41 (by kernel_rfl) rfl #[.string (s.extract 12 16)] (by rfl) rfl rfl (by (try simp only [List.map_toArray, List.map_cons, List.map_nil]); first | done | rfl) ?_
  with_reducible refine (G12.out _).mono ?_
  rintro e w' ⟨rfl, rfl⟩
  refine ⟨_, rfl, ?_⟩
  try clear hHeld
  refine hK.out _ _ (by trivial) (fun hHeld => ?_)
  clear hK K
  refine norm_ (a' := ?_) ?_ ?_
  rotate_left
  · show Act.put _ (some 52) _ = _; simp only [Act.put, List.setIfInBounds_toArray, List.set_cons_zero, List.set_cons_succ, i64_w, i32_w]; rfl
  refine pure_ (i := 18) (N := some 53) (v := ?_) (a' := ?_) #[true, true, true, true, true, true, true, true, true, true, true, true, true, true, true, true, true, true, true, true, true, false, false, true, true, false, true, false] rfl rfl (by kernel_rfl) (fun _ _ _ h => h) (Or.inl ⟨by rfl, ?_⟩) ?_ ?_
  rotate_left
  · intro w'; go_simp; try with_reducible rfl
  rotate_left
  · simp only [Act.put, List.setIfInBounds_toArray, List.set_cons_zero, List.set_cons_succ, i64_w, i32_w]; rfl
  refine one_ (i := 21) (N := some 56) #[true, true, true, true, true, true, true, true, true, true, true, true, true, true, true, true, true, true, true, true, true, true, false, true, true, false, true, false] rfl rfl (by kernel_rfl) (by decide) (fun K hK => ?_)
  refine goes_ Try.func41 (by kernel_rfl) rfl #[.string (s.extract 16 20)] (by rfl) rfl rfl (by (try simp only [List.map_toArray, List.map_cons, List.map_nil]); first | done | rfl) ?_
  with_reducible refine (G16.out _).mono ?_
  rintro e w' ⟨rfl, rfl⟩
  refine ⟨_, rfl, ?_⟩
  try clear hHeld
  refine hK.out _ _ (by trivial) (fun hHeld => ?_)
  clear hK K
  refine norm_ (a' := ?_) ?_ ?_
  rotate_left
  · show Act.put _ (some 56) _ = _; simp only [Act.put, List.setIfInBounds_toArray, List.set_cons_zero, List.set_cons_succ, i64_w, i32_w]; rfl
  refine pure_ (i := 22) (N := some 57) (v := ?_) (a' := ?_) #[true, true, true, true, true, true, true, true, true, true, true, true, true, true, true, true, true, true, true, true, true, true, true, true, true, false, true, false] rfl rfl (by kernel_rfl) (fun _ _ _ h => h) (Or.inl ⟨by rfl, ?_⟩) ?_ ?_
  rotate_left
  · intro w'; go_simp; try with_reducible rfl
  rotate_left
  · simp only [Act.put, List.setIfInBounds_toArray, List.set_cons_zero, List.set_cons_succ, i64_w, i32_w]; rfl
  refine pure_ (i := 25) (N := some 60) (v := ?_) (a' := ?_) #[true, true, true, true, true, true, true, true, true, true, true, true, true, true, true, true, true, true, true, true, true, true, true, true, true, true, true, false] rfl rfl (by kernel_rfl) (fun _ _ _ h => h) (Or.inl ⟨by rfl, ?_⟩) ?_ ?_
  rotate_left
  · intro w'; go_simp; try with_reducible rfl
  rotate_left
  · simp only [Act.put, List.setIfInBounds_toArray, List.set_cons_zero, List.set_cons_succ, i64_w, i32_w]; rfl
  refine one_ (i := 27) (N := none) #[true, true, true, true, true, true, true, true, true, true, true, true, true, true, true, true, true, true, true, true, true, true, true, true, true, true, true, true] rfl rfl (by kernel_rfl) (by decide) (fun K hK => ?_)
  rw [if_pos (by rfl)]
  refine wp_store_row 58 _ _ rfl W.heap.size _ rfl rfl 58 #[.int .i64 0, .int .i64 0, .int .i64 0, .int .i64 0, .int .i64 0, .int .u32 0, .int .u32 0, .string ⟨#[]⟩] (blk_new W _) (by kernel_rfl) rfl (by simp [Value.oneCell']) ?_
  rw [World.setRow_alloc_new]
  try clear hHeld
  refine hK.out _ _ (by trivial) (fun hHeld => ?_)
  clear hK K
  refine norm_ (a' := ?_) ?_ ?_
  rotate_left
  · show Act.put _ none _ = _; simp only [Act.put]; rfl
  refine done_ (by kernel_rfl) ?_
  rotate_left
  refine event_step (by rfl) (v := .pointer (some ⟨W.heap.size, 0, none⟩)) (w1 := W.alloc (.cells #[.int .i64 0, .int .i64 0, .int .i64 0, .int .i64 0, .int .i64 0, .int .u32 0, .int .u32 0, .string ⟨#[]⟩] 58 (0, 0))) (by go_simp) ?_
  try clear hHeld
  refine hK.out _ _ (by trivial) (fun hHeld => ?_)
  clear hK K
  refine norm_ (a' := ?_) ?_ ?_
  rotate_left
  · show Act.put _ (some 5) _ = _; simp only [Act.put, List.setIfInBounds_toArray, List.set_cons_zero, List.set_cons_succ, i64_w, i32_w]; rfl
  refine one_ (i := 5) (N := some 40) #[true, true, true, true, true, true, true, true, false, true, true, true, true, true, true, true, true, false, false, true, true, false, false, true, true, false, true, false] rfl rfl (by kernel_rfl) (by decide) (fun K hK => ?_)
  refine goes_ Try.func41 (by kernel_rfl) rfl #[.string (s.extract 4 6)] (by rfl) rfl rfl (by (try simp only [List.map_toArray, List.map_cons, List.map_nil]); first | done | rfl) ?_
  with_reducible refine (G4.out _).mono ?_
  rintro e w' ⟨rfl, rfl⟩
  refine ⟨_, rfl, ?_⟩
  try clear hHeld
  refine hK.out _ _ (by trivial) (fun hHeld => ?_)
  clear hK K
  refine norm_ (a' := ?_) ?_ ?_
  rotate_left
  · show Act.put _ (some 40) _ = _; simp only [Act.put, List.setIfInBounds_toArray, List.set_cons_zero, List.set_cons_succ, i64_w, i32_w]; rfl
  refine one_ (i := 8) (N := some 43) #[true, true, true, true, true, true, true, true, true, true, true, true, true, true, true, true, true, false, false, true, true, false, false, true, true, false, true, false] rfl rfl (by kernel_rfl) (by decide) (fun K hK => ?_)
  refine goes_ Try.func41 (by kernel_rfl) rfl #[.string (s.extract 6 8)] (by rfl) rfl rfl (by (try simp only [List.map_toArray, List.map_cons, List.map_nil]); first | done | rfl) ?_
  with_reducible refine (G6.out _).mono ?_
  rintro e w' ⟨rfl, rfl⟩
  refine ⟨_, rfl, ?_⟩
  try clear hHeld
  refine hK.out _ _ (by trivial) (fun hHeld => ?_)
  clear hK K
  refine norm_ (a' := ?_) ?_ ?_
  rotate_left
  · show Act.put _ (some 43) _ = _; simp only [Act.put, List.setIfInBounds_toArray, List.set_cons_zero, List.set_cons_succ, i64_w, i32_w]; rfl
  refine one_ (i := 17) (N := some 52) #[true, true, true, true, true, true, true, true, true, true, true, true, true, true, true, true, true, true, false, true, true, false, false, true, true, false, true, false] rfl rfl (by kernel_rfl) (by decide) (fun K hK => ?_)
  refine goes_ Try.func41 (by kernel_rfl) rfl #[.string (s.extract 12 16)] (by rfl) rfl rfl (by (try simp only [List.map_toArray, List.map_cons, List.map_nil]); first | done | rfl) ?_
  with_reducible refine (G12.out _).mono ?_
  rintro e w' ⟨rfl, rfl⟩
  refine ⟨_, rfl, ?_⟩
  try clear hHeld
  refine hK.out _ _ (by trivial) (fun hHeld => ?_)
  clear hK K
  refine norm_ (a' := ?_) ?_ ?_
  rotate_left
  · show Act.put _ (some 52) _ = _; simp only [Act.put, List.setIfInBounds_toArray, List.set_cons_zero, List.set_cons_succ, i64_w, i32_w]; rfl
  refine pure_ (i := 18) (N := some 53) (v := ?_) (a' := ?_) #[true, true, true, true, true, true, true, true, true, true, true, true, true, true, true, true, true, true, true, true, true, false, false, true, true, false, true, false] rfl rfl (by kernel_rfl) (fun _ _ _ h => h) (Or.inl ⟨by rfl, ?_⟩) ?_ ?_
  rotate_left
  · intro w'; go_simp; try with_reducible rfl
  rotate_left
  · simp only [Act.put, List.setIfInBounds_toArray, List.set_cons_zero, List.set_cons_succ, i64_w, i32_w]; rfl
  refine one_ (i := 21) (N := some 56) #[true, true, true, true, true, true, true, true, true, true, true, true, true, true, true, true, true, true, true, true, true, true, false, true, true, false, true, false] rfl rfl (by kernel_rfl) (by decide) (fun K hK => ?_)
  refine goes_ Try.func41 (by kernel_rfl) rfl #[.string (s.extract 16 20)] (by rfl) rfl rfl (by (try simp only [List.map_toArray, List.map_cons, List.map_nil]); first | done | rfl) ?_
  with_reducible refine (G16.out _).mono ?_
  rintro e w' ⟨rfl, rfl⟩
  refine ⟨_, rfl, ?_⟩
  try clear hHeld
  refine hK.out _ _ (by trivial) (fun hHeld => ?_)
  clear hK K
  refine norm_ (a' := ?_) ?_ ?_
  rotate_left
  · show Act.put _ (some 56) _ = _; simp only [Act.put, List.setIfInBounds_toArray, List.set_cons_zero, List.set_cons_succ, i64_w, i32_w]; rfl
  refine pure_ (i := 22) (N := some 57) (v := ?_) (a' := ?_) #[true, true, true, true, true, true, true, true, true, true, true, true, true, true, true, true, true, true, true, true, true, true, true, true, true, false, true, false] rfl rfl (by kernel_rfl) (fun _ _ _ h => h) (Or.inl ⟨by rfl, ?_⟩) ?_ ?_
  rotate_left
  · intro w'; go_simp; try with_reducible rfl
  rotate_left
  · simp only [Act.put, List.setIfInBounds_toArray, List.set_cons_zero, List.set_cons_succ, i64_w, i32_w]; rfl
  refine pure_ (i := 25) (N := some 60) (v := ?_) (a' := ?_) #[true, true, true, true, true, true, true, true, true, true, true, true, true, true, true, true, true, true, true, true, true, true, true, true, true, true, true, false] rfl rfl (by kernel_rfl) (fun _ _ _ h => h) (Or.inl ⟨by rfl, ?_⟩) ?_ ?_
  rotate_left
  · intro w'; go_simp; try with_reducible rfl
  rotate_left
  · simp only [Act.put, List.setIfInBounds_toArray, List.set_cons_zero, List.set_cons_succ, i64_w, i32_w]; rfl
  refine one_ (i := 27) (N := none) #[true, true, true, true, true, true, true, true, true, true, true, true, true, true, true, true, true, true, true, true, true, true, true, true, true, true, true, true] rfl rfl (by kernel_rfl) (by decide) (fun K hK => ?_)
  rw [if_pos (by rfl)]
  refine wp_store_row 58 _ _ rfl W.heap.size _ rfl rfl 58 #[.int .i64 0, .int .i64 0, .int .i64 0, .int .i64 0, .int .i64 0, .int .u32 0, .int .u32 0, .string ⟨#[]⟩] (blk_new W _) (by kernel_rfl) rfl (by simp [Value.oneCell']) ?_
  rw [World.setRow_alloc_new]
  try clear hHeld
  refine hK.out _ _ (by trivial) (fun hHeld => ?_)
  clear hK K
  refine norm_ (a' := ?_) ?_ ?_
  rotate_left
  · show Act.put _ none _ = _; simp only [Act.put]; rfl
  refine done_ (by kernel_rfl) ?_
  rotate_left
  all_goals
    replace A := blk_alloc A (.cells #[.int .i64 (bt s 1), .int .i64 (n2 s 4), .int .i64 (n2 s 6), .int .i64 (bt s 8), .int .i64 (bt s 9), .int .u32 (n4 s 12), .int .u32 (n4 s 16), .string (s.extract 20 s.size)] 58)
    have B := blk_new W (.cells #[.int .i64 (bt s 1), .int .i64 (n2 s 4), .int .i64 (n2 s 6), .int .i64 (bt s 8), .int .i64 (bt s 9), .int .u32 (n4 s 12), .int .u32 (n4 s 16), .string (s.extract 20 s.size)] 58)
    replace Z := Z.alloc Z.size (.cells #[.int .i64 (bt s 1), .int .i64 (n2 s 4), .int .i64 (n2 s 6), .int .i64 (bt s 8), .int .i64 (bt s 9), .int .u32 (n4 s 12), .int .u32 (n4 s 16), .string (s.extract 20 s.size)] 58)
    generalize hW : W.alloc (.cells #[.int .i64 (bt s 1), .int .i64 (n2 s 4), .int .i64 (n2 s 6), .int .i64 (bt s 8), .int .i64 (bt s 9), .int .u32 (n4 s 12), .int .u32 (n4 s 16), .string (s.extract 20 s.size)] 58) = W1 at A B Z ⊢
    clear hW
    generalize W.heap.size = nb at B ⊢
    have A' : Hid _ := A
    have Z' : Hid _ := Z
    have B' : Hid _ := B
    clear A Z B
    cases b
    · simp only [Bool.not_false] at hb'
      go_wp2_with (first
        | (refine wpList_load_row rfl 58 _ rfl nb rfl 58 _ (0, 0) _ B'.out Try.underlying58 rfl (by kernel_rfl) ?_)
        | (go_at_call 42; (with_reducible refine (GB.out _).mono ?_); rintro e W2 ⟨rfl, hb2⟩; have A2 := blk_below A'.out hb2; have Z2 : Hid _ := Z'.out.trans (hb2.mono Z'.out.size))
        | (refine wpList_store_row rfl 58 _ _ rfl w.heap.size _ rfl rfl 58 _ A2 (by kernel_rfl) rfl (by simp [Value.oneCell']) ?_))
      exact ret25 w _ _ _ 9 rfl rfl (setRow_heap _ _ _ _ _ _ A2) rfl (below_setRow Z2.out (Nat.le_refl _) _) ⟨rfl, below_setRow Z2.out (Nat.le_refl _) _⟩
    · simp only [Bool.not_true] at hb'
      go_wp2_with (first
        | (refine wpList_load_row rfl 58 _ rfl nb rfl 58 _ (0, 0) _ B'.out Try.underlying58 rfl (by kernel_rfl) ?_)
        | (refine wpList_load_row rfl 58 _ rfl nb rfl 58 _ (0, 0) _ B2 Try.underlying58 rfl (by kernel_rfl) ?_)
        | (go_at_call 42; (with_reducible refine (GB.out _).mono ?_); rintro e W2 ⟨rfl, hb2⟩; have A2 := blk_below A'.out hb2; have B2 := blk_below B'.out hb2; have Z2 : Hid _ := Z'.out.trans (hb2.mono Z'.out.size))
        | (refine wpList_store_row rfl 58 _ _ rfl w.heap.size _ rfl rfl 58 _ A2 (by kernel_rfl) rfl (by simp [Value.oneCell']) ?_))
      exact ret25 w _ _ _ 0 rfl rfl (setRow_heap _ _ _ _ _ _ A2) rfl (below_setRow Z2.out (Nat.le_refl _) _) ⟨rfl, below_setRow Z2.out (Nat.le_refl _) _⟩
theorem parse25_calls (s : ByteArray) (w : World) : Calls Try.prog 25 #[.string s] w fun e w' => e = .returned (hdV (parseV s)) ∧ Below w.heap.size w w' := by
  by_cases h : 20 ≤ s.size
  · have hn := numV2 s 2 (by omega)
    by_cases h0 : bt s 0 = 69
    · have h0' : (bt s 0 == 69) = true := beq_iff_eq.2 h0
      have h0'' : (bt s 0 != 69) = false := by rw [bne, h0']; rfl
      by_cases hl : n2 s 2 < 20
      · have e : parseV s = badH 1 := by unfold parseV; rw [if_neg (by omega), if_pos h0, if_pos (by omega)]
        rw [e]
        exact rparse_less s w h h0' h0'' _ hn (decide_eq_true hl)
      · have hl' : decide (n2 s 2 < 20) = false := decide_eq_false hl
        by_cases he : (s.size : Int) = n2 s 2
        · obtain ⟨T, hT, hb⟩ := build_back s h h0 he
          have := rparse_right s w h h0' h0'' _ hn hl' (decide_eq_false (by omega)) (decide_eq_false (by omega)) _ T 0 hT hb (bne_not hb)
          have e : parseV s = if (sumV (zeroed s) == n2 s 10) then hdO s else badH 9 := by
            unfold parseV
            rw [if_neg (by omega), if_pos h0, if_neg (by omega), if_pos he]
            by_cases hb : sumV (zeroed s) = n2 s 10
            · rw [if_pos hb, if_pos (beq_iff_eq.2 hb)]; rfl
            · rw [if_neg hb, if_neg (by simpa using hb)]
          rw [e]
          exact this
        · by_cases hs : (s.size : Int) < n2 s 2
          · have e : parseV s = badH 1 := by unfold parseV; rw [if_neg (by omega), if_pos h0, if_pos (by omega)]
            rw [e]
            exact rparse_len s w h h0' h0'' _ hn hl' true (decide_eq_true hs) (fun h => by cases h)
          · have e : parseV s = badH 6 := by unfold parseV; rw [if_neg (by omega), if_pos h0, if_neg (by omega), if_neg he]
            rw [e]
            exact rparse_len s w h h0' h0'' _ hn hl' false (decide_eq_false hs) (fun _ => decide_eq_true (by omega))
    · have e : parseV s = badH 3 := by unfold parseV; rw [if_neg (by omega), if_neg h0]
      rw [e]
      exact rparse_kind s w h (by simpa using h0) (by simpa using h0)
  · have e : parseV s = badH 1 := by unfold parseV; rw [if_pos (by omega)]
    rw [e]
    exact rparse_short s w (decide_eq_true (by omega)) (decide_eq_true (by omega))
end Go.Proofs.Ytcpneggifmldoaa.T
namespace Go.Proofs.Ytcpneggifmldoaa.T
open Go.RowKit Go.Proofs.YtcpneggifmldoaaW.PrintWords Go.Proofs.YtcpneggifmldoaaW.PrintLast Go.Proofs.YtcpneggifmldoaaW.PrintMore
attribute [local go_sem] max2_int min2_int max_two min_two max_three min_three max_four min_four   -- for this text's walks alone
set_option linter.unusedVariables false
set_option linter.unusedSimpArgs false
def ipv4_Parse.f (s : ByteArray) : Option (Int × Int × Int × Int × Int × Int × Int × ByteArray × Int) := some (parseV s)
theorem ipv4_Parse.calls (s : ByteArray) (r1 r2 r3 r4 r5 r6 r7 : Int) (r8 : ByteArray) (r9 : Int) (w : World) (h : ipv4_Parse.f s = some (r1, r2, r3, r4, r5, r6, r7, r8, r9)) :
    Calls Try.prog 38 #[.string s] w fun e w' => e = .returned (.tuple #[.agg #[.int .i64 r1, .int .i64 r2, .int .i64 r3, .int .i64 r4, .int .i64 r5, .int .u32 r6, .int .u32 r7, .string r8], .int .i64 r9]) ∧ Below w.heap.size w w' := by
  have := parse38_calls s w
  rw [Option.some.inj h] at this
  exact this
end Go.Proofs.Ytcpneggifmldoaa.T
namespace Go.Proofs.Ytcpneggifmldoaa.T
open Go.RowKit Go.Proofs.YtcpneggifmldoaaW.PrintWords Go.Proofs.YtcpneggifmldoaaW.PrintLast Go.Proofs.YtcpneggifmldoaaW.PrintMore
attribute [local go_sem] max2_int min2_int max_two min_two max_three min_three max_four min_four   -- for this text's walks alone
set_option linter.unusedVariables false
set_option linter.unusedSimpArgs false
def ipv4_Build.f (a0 a1 a2 a3 a4 a5 a6 : Int) (a7 : ByteArray) : Option (ByteArray × Int) := if 0 ≤ a5 ∧ a5 < 4294967296 ∧ 0 ≤ a6 ∧ a6 < 4294967296 then some (buildV a0 a1 a2 a3 a4 a5 a6 a7) else none
end Go.Proofs.Ytcpneggifmldoaa.T
namespace Go.Proofs.Ytcpneggifmldoaa.T
open Go.RowKit Go.Proofs.YtcpneggifmldoaaW.PrintWords Go.Proofs.YtcpneggifmldoaaW.PrintLast Go.Proofs.YtcpneggifmldoaaW.PrintMore
attribute [local go_sem] max2_int min2_int max_two min_two max_three min_three max_four min_four   -- for this text's walks alone
set_option linter.unusedVariables false
set_option linter.unusedSimpArgs false
attribute [local go_sem high] eqA58
def ipv4_Hop.f (a0 : ByteArray) : Option (ByteArray × Int) := some (hopV a0)
def tunnel_further.f (a0 : ByteArray) : Option (ByteArray × Int) := some (hopV a0)
theorem tunnel_further.calls (a0 : ByteArray) (r1 : ByteArray) (r2 : Int) (w : World) (h : tunnel_further.f a0 = some (r1, r2)) :
    Calls Try.prog 39 #[.string a0] w fun e w' => e = .returned (.tuple #[.string r1, .int .i64 r2]) ∧ Below w.heap.size w w' := by
  have := further_calls a0 w
  rw [Option.some.inj h] at this
  exact this
def udp_word.f (a0 : ByteArray) : Option (Int) := if 0 < (a0.size : Int) then (if 1 < (a0.size : Int) then (some (Go.bits .or .i64 (wrap64 ((wrap64 (bt a0 0)) * 256)) (wrap64 (bt a0 1)))) else (none)) else (none)
set_option maxHeartbeats 8000000 in
set_option maxRecDepth 100000 in
theorem udp_word.calls (a0 : ByteArray) (r : Int) (w : World) (h : udp_word.f a0 = some r) :
    Calls Try.prog 77 #[.string a0] w fun e w' => e = .returned (.int .i64 r) ∧ Drawn0 w w' := by
  have H : (if 0 < (a0.size : Int) then (if 1 < (a0.size : Int) then (some (Go.bits .or .i64 (wrap64 ((wrap64 (bt a0 0)) * 256)) (wrap64 (bt a0 1)))) else (none)) else (none)) = some r := h
  clear h
  by_cases c2 : 0 < (a0.size : Int)
  · rw [if_pos c2] at H
    have c2b0 : decide (0 < (a0.size : Int)) = true := decide_eq_true c2
    have c2b1 : decide (0 < a0.size) = true := decide_eq_true (by omega)
    clear c2
    by_cases c4 : 1 < (a0.size : Int)
    · rw [if_pos c4] at H
      have c4b0 : decide (1 < (a0.size : Int)) = true := decide_eq_true c4
      have c4b1 : decide (1 < a0.size) = true := decide_eq_true (by omega)
      clear c4
      obtain rfl := Option.some.inj H
      have p3 : 0 ≤ (0 : Int) := (by omega)
      have q3 : 0 < a0.size := (by have : (0 : Int) < (a0.size : Int) := of_decide_eq_true (by first | (with_reducible assumption) | assumption); omega)
      have hx3 : ∀ h : 0 < a0.size, ((a0[0]'h).toNat : Int) = bt a0 0 := bt_at a0 0
      clear p3
      have qi3 : (0 < (a0.size : Int)) = True := eq_true (of_decide_eq_true (by first | (with_reducible assumption) | assumption))
      replace q3 := eq_true q3
      have p5 : 0 ≤ (1 : Int) := (by omega)
      have q5 : 1 < a0.size := (by have : (1 : Int) < (a0.size : Int) := of_decide_eq_true (by first | (with_reducible assumption) | assumption); omega)
      have hx5 : ∀ h : 1 < a0.size, ((a0[1]'h).toNat : Int) = bt a0 1 := bt_at a0 1
      clear p5
      have qi5 : (1 < (a0.size : Int)) = True := eq_true (of_decide_eq_true (by first | (with_reducible assumption) | assumption))
      replace q5 := eq_true q5
      go_enter Try.func77, Try.ntmps77
      go_wp2
      repeat (go_quiet (fail); try go_wp2)
      go_ret
      exact ⟨by first | rfl | (simp; done) | (simp [*]; done), by repeat (first | exact Drawn0.refl _ | apply Drawn0.step)⟩
    · rw [if_neg c4] at H
      exact absurd H (by simp)
  · rw [if_neg c2] at H
    exact absurd H (by simp)
end Go.Proofs.Ytcpneggifmldoaa.T
namespace Go.Proofs.Ytcpneggifmldoaa.T
open Go.RowKit Go.Proofs.YtcpneggifmldoaaW.PrintWords Go.Proofs.YtcpneggifmldoaaW.PrintLast Go.Proofs.YtcpneggifmldoaaW.PrintMore
attribute [local go_sem] max2_int min2_int max_two min_two max_three min_three max_four min_four   -- for this text's walks alone
set_option linter.unusedVariables false
set_option linter.unusedSimpArgs false
def udp_Ports.j0 : Nat → Bool → Int → Int → Int → Int → Int → Int → Int → ByteArray → Option (Int × Int × Bool)
  | 0, _, _, _, _, _, _, _, _, _ => none
  | k + 1, x24, x240000, x240001, x240002, x240003, x240004, x240005, x240006, x240007 => if x24 = true then (some (0, 0, false)) else ((udp_word.f x240007).bind fun t240 => (if 2 ≤ (x240007.size : Int) then ((udp_word.f (x240007.extract 2 x240007.size)).bind fun t241 => (some (t240, t241, true))) else (none)))
def udp_Ports.f (k : Nat) (a0_0 : Int) (a0_1 : Int) (a0_2 : Int) (a0_3 : Int) (a0_4 : Int) (a0_5 : Int) (a0_6 : Int) (a0_7 : ByteArray) : Option (Int × Int × Bool) := if a0_4 = 17 then (if (Go.bits .and .i64 a0_2 8191) = 0 then (udp_Ports.j0 k (decide ((a0_7.size : Int) < 4)) a0_0 a0_1 a0_2 a0_3 a0_4 a0_5 a0_6 a0_7) else (udp_Ports.j0 k true a0_0 a0_1 a0_2 a0_3 a0_4 a0_5 a0_6 a0_7)) else (if a0_4 = 6 then (if (Go.bits .and .i64 a0_2 8191) = 0 then (udp_Ports.j0 k (decide ((a0_7.size : Int) < 4)) a0_0 a0_1 a0_2 a0_3 a0_4 a0_5 a0_6 a0_7) else (udp_Ports.j0 k true a0_0 a0_1 a0_2 a0_3 a0_4 a0_5 a0_6 a0_7)) else (udp_Ports.j0 k true a0_0 a0_1 a0_2 a0_3 a0_4 a0_5 a0_6 a0_7))
set_option maxHeartbeats 8000000 in
set_option maxRecDepth 100000 in
theorem udp_Ports.calls (k : Nat) (a0_0 : Int) (a0_1 : Int) (a0_2 : Int) (a0_3 : Int) (a0_4 : Int) (a0_5 : Int) (a0_6 : Int) (a0_7 : ByteArray) (r1 : Int) (r2 : Int) (r3 : Bool) (w : World) (h : udp_Ports.f k a0_0 a0_1 a0_2 a0_3 a0_4 a0_5 a0_6 a0_7 = some (r1, r2, r3)) :
    Calls Try.prog 55 #[.agg #[.int .i64 a0_0, .int .i64 a0_1, .int .i64 a0_2, .int .i64 a0_3, .int .i64 a0_4, .int .u32 a0_5, .int .u32 a0_6, .string a0_7]] w fun e w' => e = .returned (.tuple #[.int .i64 r1, .int .i64 r2, .bool r3]) ∧ Below w.heap.size w w' := by
  have hu58 := Try.underlying58
  have HB := Aside0.mk (Below.refl w.heap.size w)
  have H : (if a0_4 = 17 then (if (Go.bits .and .i64 a0_2 8191) = 0 then (udp_Ports.j0 k (decide ((a0_7.size : Int) < 4)) a0_0 a0_1 a0_2 a0_3 a0_4 a0_5 a0_6 a0_7) else (udp_Ports.j0 k true a0_0 a0_1 a0_2 a0_3 a0_4 a0_5 a0_6 a0_7)) else (if a0_4 = 6 then (if (Go.bits .and .i64 a0_2 8191) = 0 then (udp_Ports.j0 k (decide ((a0_7.size : Int) < 4)) a0_0 a0_1 a0_2 a0_3 a0_4 a0_5 a0_6 a0_7) else (udp_Ports.j0 k true a0_0 a0_1 a0_2 a0_3 a0_4 a0_5 a0_6 a0_7)) else (udp_Ports.j0 k true a0_0 a0_1 a0_2 a0_3 a0_4 a0_5 a0_6 a0_7))) = some (r1, r2, r3) := h
  clear h
  have HC2 := Aside0.mk H
  clear H
  go_enter Try.func55, Try.ntmps55
  go_upto_region 1 with (first | ((with_reducible refine gate_dst (N := 1) rfl ?_); (try (refine gate_guard (by rfl) ?_; dsimp only)); refine box_event ?hg (N := 1) ?hd (cs := #[.int .i64 a0_0, .int .i64 a0_1, .int .i64 a0_2, .int .i64 a0_3, .int .i64 a0_4, .int .u32 a0_5, .int .u32 a0_6, .string a0_7]) (t := 58) ?hr ?_; (case hd => rfl); (case hg => rfl); (case hr => first | (go_simp; done) | (go_simp; rfl)); intro gb239 hg w3 hbox hb; have n0_ := Aside0.mk (below_step (by repeat (first | (with_reducible first | exact HB.out | apply below_alloc | apply pw_below_drewN | apply below_drew1) | exact HB.out)) hb); have n1_ := Aside0.mk (hbox); have n2_ := Aside0.mk ((by rw [hg]; exact (below_size (by repeat (first | (with_reducible first | exact HB.out | apply below_alloc | apply pw_below_drewN | apply below_drew1) | exact HB.out))) : w.heap.size ≤ gb239)); have n3_ := Aside0.mk ((by rw [hg]; exact (below_size (by repeat (first | (with_reducible first | exact HB.out | apply below_alloc | apply pw_below_drewN | apply below_drew1) | exact HB.out))) : w.heap.size ≤ gb239)); clear HB; have HB := n0_; have BK239 := n1_; have GW239 := n2_; have GE239 := n3_; clear n0_ n1_ n2_ n3_; clear hb hbox hg))
  repeat (go_quiet (first | ((with_reducible refine gate_dst (N := 1) rfl ?_); (try (refine gate_guard (by rfl) ?_; dsimp only)); refine box_event ?hg (N := 1) ?hd (cs := #[.int .i64 a0_0, .int .i64 a0_1, .int .i64 a0_2, .int .i64 a0_3, .int .i64 a0_4, .int .u32 a0_5, .int .u32 a0_6, .string a0_7]) (t := 58) ?hr ?_; (case hd => rfl); (case hg => rfl); (case hr => first | (go_simp; done) | (go_simp; rfl)); intro gb239 hg w3 hbox hb; have n0_ := Aside0.mk (below_step (by repeat (first | (with_reducible first | exact HB.out | apply below_alloc | apply pw_below_drewN | apply below_drew1) | exact HB.out)) hb); have n1_ := Aside0.mk (hbox); have n2_ := Aside0.mk ((by rw [hg]; exact (below_size (by repeat (first | (with_reducible first | exact HB.out | apply below_alloc | apply pw_below_drewN | apply below_drew1) | exact HB.out))) : w.heap.size ≤ gb239)); have n3_ := Aside0.mk ((by rw [hg]; exact (below_size (by repeat (first | (with_reducible first | exact HB.out | apply below_alloc | apply pw_below_drewN | apply below_drew1) | exact HB.out))) : w.heap.size ≤ gb239)); clear HB; have HB := n0_; have BK239 := n1_; have GW239 := n2_; have GE239 := n3_; clear n0_ n1_ n2_ n3_; clear hb hbox hg)); go_upto_region 1 with (first | ((with_reducible refine gate_dst (N := 1) rfl ?_); (try (refine gate_guard (by rfl) ?_; dsimp only)); refine box_event ?hg (N := 1) ?hd (cs := #[.int .i64 a0_0, .int .i64 a0_1, .int .i64 a0_2, .int .i64 a0_3, .int .i64 a0_4, .int .u32 a0_5, .int .u32 a0_6, .string a0_7]) (t := 58) ?hr ?_; (case hd => rfl); (case hg => rfl); (case hr => first | (go_simp; done) | (go_simp; rfl)); intro gb239 hg w3 hbox hb; have n0_ := Aside0.mk (below_step (by repeat (first | (with_reducible first | exact HB.out | apply below_alloc | apply pw_below_drewN | apply below_drew1) | exact HB.out)) hb); have n1_ := Aside0.mk (hbox); have n2_ := Aside0.mk ((by rw [hg]; exact (below_size (by repeat (first | (with_reducible first | exact HB.out | apply below_alloc | apply pw_below_drewN | apply below_drew1) | exact HB.out))) : w.heap.size ≤ gb239)); have n3_ := Aside0.mk ((by rw [hg]; exact (below_size (by repeat (first | (with_reducible first | exact HB.out | apply below_alloc | apply pw_below_drewN | apply below_drew1) | exact HB.out))) : w.heap.size ≤ gb239)); clear HB; have HB := n0_; have BK239 := n1_; have GW239 := n2_; have GE239 := n3_; clear n0_ n1_ n2_ n3_; clear hb hbox hg)))
  (try simp only [Act.put, List.setIfInBounds_toArray, List.set_cons_zero, List.set_cons_succ])
  go_cut [24] (fun v24 wc => ∃ (kq : Nat) (x24_1 : Bool), v24 = .bool x24_1 ∧ Aside0 (udp_Ports.j0 kq x24_1 a0_0 a0_1 a0_2 a0_3 a0_4 a0_5 a0_6 a0_7 = some (r1, r2, r3)) ∧ Aside0 (kq ≤ k) ∧ Aside0 (wc.heap[gb239]? = some (.cells #[.int .i64 a0_0, .int .i64 a0_1, .int .i64 a0_2, .int .i64 a0_3, .int .i64 a0_4, .int .u32 a0_5, .int .u32 a0_6, .string a0_7] 58 (0, 0))) ∧ Aside0 (Below w.heap.size w wc))
  case first =>
    have H := HC2.out
    clear HC2
    by_cases c4 : a0_4 = 17
    · rw [if_pos c4] at H
      have c4b0 : (a0_4 == 17) = true := beq_iff_eq.mpr c4
      have c4b1 : (a0_4 != 17) = false := bne_eq_false_iff_eq.mpr c4
      clear c4
      (first | rw [c4b0] | (simp only [i64_w, i32_w]; rw [c4b0]) | skip)
      by_cases c5 : (Go.bits .and .i64 a0_2 8191) = 0
      · rw [if_pos c5] at H
        have c5b0 : ((Go.bits .and .i64 a0_2 8191) == 0) = true := beq_iff_eq.mpr c5
        have c5b1 : ((Go.bits .and .i64 a0_2 8191) != 0) = false := bne_eq_false_iff_eq.mpr c5
        clear c5
        have H' := Aside0.mk H
        clear H
        have hcz6_0 : w3.cell? ⟨gb239, 0, none⟩ = some (.int .i64 a0_0) := (blk_cell BK239.out 0).trans rfl
        have hcz6_1 : w3.cell? ⟨gb239, 1, none⟩ = some (.int .i64 a0_1) := (blk_cell BK239.out 1).trans rfl
        have hcz6_2 : w3.cell? ⟨gb239, 2, none⟩ = some (.int .i64 a0_2) := (blk_cell BK239.out 2).trans rfl
        have hcz6_3 : w3.cell? ⟨gb239, 3, none⟩ = some (.int .i64 a0_3) := (blk_cell BK239.out 3).trans rfl
        have hcz6_4 : w3.cell? ⟨gb239, 4, none⟩ = some (.int .i64 a0_4) := (blk_cell BK239.out 4).trans rfl
        have hcz6_5 : w3.cell? ⟨gb239, 5, none⟩ = some (.int .u32 a0_5) := (blk_cell BK239.out 5).trans rfl
        have hcz6_6 : w3.cell? ⟨gb239, 6, none⟩ = some (.int .u32 a0_6) := (blk_cell BK239.out 6).trans rfl
        have hcz6_7 : w3.cell? ⟨gb239, 7, none⟩ = some (.string a0_7) := (blk_cell BK239.out 7).trans rfl
        have hfz6_0 := blk_frozen BK239.out 0
        have hfz6_1 := blk_frozen BK239.out 1
        have hfz6_2 := blk_frozen BK239.out 2
        have hfz6_3 := blk_frozen BK239.out 3
        have hfz6_4 := blk_frozen BK239.out 4
        have hfz6_5 := blk_frozen BK239.out 5
        have hfz6_6 := blk_frozen BK239.out 6
        have hfz6_7 := blk_frozen BK239.out 7
        go_wp2
        repeat (go_quiet (fail); try go_wp2)
        go_meet
        case rel => exact ⟨_, (decide ((a0_7.size : Int) < 4)), (by first | rfl | (simp; done) | (simp [*]; done)), H', ⟨by first | omega | exact Nat.le_refl _⟩, ⟨by (with_reducible repeat (first | refine blk_drewN ?_ _ | refine blk_drew ?_ | refine blk_alloc ?_ _)); exact BK239.out⟩, ⟨by repeat (first | (with_reducible first | exact HB.out | apply below_alloc | apply pw_below_drewN | apply below_drew1 | refine below_set ?_ GE239.out) | exact HB.out)⟩⟩
      · rw [if_neg c5] at H
        have c5b0 : ((Go.bits .and .i64 a0_2 8191) == 0) = false := beq_eq_false_iff_ne.mpr c5
        have c5b1 : ((Go.bits .and .i64 a0_2 8191) != 0) = true := bne_iff_ne.mpr c5
        have H' := Aside0.mk H
        clear H
        have hcz7_0 : w3.cell? ⟨gb239, 0, none⟩ = some (.int .i64 a0_0) := (blk_cell BK239.out 0).trans rfl
        have hcz7_1 : w3.cell? ⟨gb239, 1, none⟩ = some (.int .i64 a0_1) := (blk_cell BK239.out 1).trans rfl
        have hcz7_2 : w3.cell? ⟨gb239, 2, none⟩ = some (.int .i64 a0_2) := (blk_cell BK239.out 2).trans rfl
        have hcz7_3 : w3.cell? ⟨gb239, 3, none⟩ = some (.int .i64 a0_3) := (blk_cell BK239.out 3).trans rfl
        have hcz7_4 : w3.cell? ⟨gb239, 4, none⟩ = some (.int .i64 a0_4) := (blk_cell BK239.out 4).trans rfl
        have hcz7_5 : w3.cell? ⟨gb239, 5, none⟩ = some (.int .u32 a0_5) := (blk_cell BK239.out 5).trans rfl
        have hcz7_6 : w3.cell? ⟨gb239, 6, none⟩ = some (.int .u32 a0_6) := (blk_cell BK239.out 6).trans rfl
        have hcz7_7 : w3.cell? ⟨gb239, 7, none⟩ = some (.string a0_7) := (blk_cell BK239.out 7).trans rfl
        have hfz7_0 := blk_frozen BK239.out 0
        have hfz7_1 := blk_frozen BK239.out 1
        have hfz7_2 := blk_frozen BK239.out 2
        have hfz7_3 := blk_frozen BK239.out 3
        have hfz7_4 := blk_frozen BK239.out 4
        have hfz7_5 := blk_frozen BK239.out 5
        have hfz7_6 := blk_frozen BK239.out 6
        have hfz7_7 := blk_frozen BK239.out 7
        go_wp2
        repeat (go_quiet (fail); try go_wp2)
        go_meet
        case rel => exact ⟨_, (true), (by first | rfl | (simp; done) | (simp [*]; done)), H', ⟨by first | omega | exact Nat.le_refl _⟩, ⟨by (with_reducible repeat (first | refine blk_drewN ?_ _ | refine blk_drew ?_ | refine blk_alloc ?_ _)); exact BK239.out⟩, ⟨by repeat (first | (with_reducible first | exact HB.out | apply below_alloc | apply pw_below_drewN | apply below_drew1 | refine below_set ?_ GE239.out) | exact HB.out)⟩⟩
    · rw [if_neg c4] at H
      have c4b0 : (a0_4 == 17) = false := beq_eq_false_iff_ne.mpr c4
      have c4b1 : (a0_4 != 17) = true := bne_iff_ne.mpr c4
      (first | rw [c4b0] | (simp only [i64_w, i32_w]; rw [c4b0]) | skip)
      by_cases c8 : a0_4 = 6
      · rw [if_pos c8] at H
        have c8b0 : (a0_4 == 6) = true := beq_iff_eq.mpr c8
        have c8b1 : (a0_4 != 6) = false := bne_eq_false_iff_eq.mpr c8
        clear c8
        by_cases c9 : (Go.bits .and .i64 a0_2 8191) = 0
        · rw [if_pos c9] at H
          have c9b0 : ((Go.bits .and .i64 a0_2 8191) == 0) = true := beq_iff_eq.mpr c9
          have c9b1 : ((Go.bits .and .i64 a0_2 8191) != 0) = false := bne_eq_false_iff_eq.mpr c9
          clear c9
          have H' := Aside0.mk H
          clear H
          have hcz10_0 : w3.cell? ⟨gb239, 0, none⟩ = some (.int .i64 a0_0) := (blk_cell BK239.out 0).trans rfl
          have hcz10_1 : w3.cell? ⟨gb239, 1, none⟩ = some (.int .i64 a0_1) := (blk_cell BK239.out 1).trans rfl
          have hcz10_2 : w3.cell? ⟨gb239, 2, none⟩ = some (.int .i64 a0_2) := (blk_cell BK239.out 2).trans rfl
          have hcz10_3 : w3.cell? ⟨gb239, 3, none⟩ = some (.int .i64 a0_3) := (blk_cell BK239.out 3).trans rfl
          have hcz10_4 : w3.cell? ⟨gb239, 4, none⟩ = some (.int .i64 a0_4) := (blk_cell BK239.out 4).trans rfl
          have hcz10_5 : w3.cell? ⟨gb239, 5, none⟩ = some (.int .u32 a0_5) := (blk_cell BK239.out 5).trans rfl
          have hcz10_6 : w3.cell? ⟨gb239, 6, none⟩ = some (.int .u32 a0_6) := (blk_cell BK239.out 6).trans rfl
          have hcz10_7 : w3.cell? ⟨gb239, 7, none⟩ = some (.string a0_7) := (blk_cell BK239.out 7).trans rfl
          have hfz10_0 := blk_frozen BK239.out 0
          have hfz10_1 := blk_frozen BK239.out 1
          have hfz10_2 := blk_frozen BK239.out 2
          have hfz10_3 := blk_frozen BK239.out 3
          have hfz10_4 := blk_frozen BK239.out 4
          have hfz10_5 := blk_frozen BK239.out 5
          have hfz10_6 := blk_frozen BK239.out 6
          have hfz10_7 := blk_frozen BK239.out 7
          go_wp2
          repeat (go_quiet (fail); try go_wp2)
          go_meet
          case rel => exact ⟨_, (decide ((a0_7.size : Int) < 4)), (by first | rfl | (simp; done) | (simp [*]; done)), H', ⟨by first | omega | exact Nat.le_refl _⟩, ⟨by (with_reducible repeat (first | refine blk_drewN ?_ _ | refine blk_drew ?_ | refine blk_alloc ?_ _)); exact BK239.out⟩, ⟨by repeat (first | (with_reducible first | exact HB.out | apply below_alloc | apply pw_below_drewN | apply below_drew1 | refine below_set ?_ GE239.out) | exact HB.out)⟩⟩
        · rw [if_neg c9] at H
          have c9b0 : ((Go.bits .and .i64 a0_2 8191) == 0) = false := beq_eq_false_iff_ne.mpr c9
          have c9b1 : ((Go.bits .and .i64 a0_2 8191) != 0) = true := bne_iff_ne.mpr c9
          have H' := Aside0.mk H
          clear H
          have hcz11_0 : w3.cell? ⟨gb239, 0, none⟩ = some (.int .i64 a0_0) := (blk_cell BK239.out 0).trans rfl
          have hcz11_1 : w3.cell? ⟨gb239, 1, none⟩ = some (.int .i64 a0_1) := (blk_cell BK239.out 1).trans rfl
          have hcz11_2 : w3.cell? ⟨gb239, 2, none⟩ = some (.int .i64 a0_2) := (blk_cell BK239.out 2).trans rfl
          have hcz11_3 : w3.cell? ⟨gb239, 3, none⟩ = some (.int .i64 a0_3) := (blk_cell BK239.out 3).trans rfl
          have hcz11_4 : w3.cell? ⟨gb239, 4, none⟩ = some (.int .i64 a0_4) := (blk_cell BK239.out 4).trans rfl
          have hcz11_5 : w3.cell? ⟨gb239, 5, none⟩ = some (.int .u32 a0_5) := (blk_cell BK239.out 5).trans rfl
          have hcz11_6 : w3.cell? ⟨gb239, 6, none⟩ = some (.int .u32 a0_6) := (blk_cell BK239.out 6).trans rfl
          have hcz11_7 : w3.cell? ⟨gb239, 7, none⟩ = some (.string a0_7) := (blk_cell BK239.out 7).trans rfl
          have hfz11_0 := blk_frozen BK239.out 0
          have hfz11_1 := blk_frozen BK239.out 1
          have hfz11_2 := blk_frozen BK239.out 2
          have hfz11_3 := blk_frozen BK239.out 3
          have hfz11_4 := blk_frozen BK239.out 4
          have hfz11_5 := blk_frozen BK239.out 5
          have hfz11_6 := blk_frozen BK239.out 6
          have hfz11_7 := blk_frozen BK239.out 7
          go_wp2
          repeat (go_quiet (fail); try go_wp2)
          go_meet
          case rel => exact ⟨_, (true), (by first | rfl | (simp; done) | (simp [*]; done)), H', ⟨by first | omega | exact Nat.le_refl _⟩, ⟨by (with_reducible repeat (first | refine blk_drewN ?_ _ | refine blk_drew ?_ | refine blk_alloc ?_ _)); exact BK239.out⟩, ⟨by repeat (first | (with_reducible first | exact HB.out | apply below_alloc | apply pw_below_drewN | apply below_drew1 | refine below_set ?_ GE239.out) | exact HB.out)⟩⟩
      · rw [if_neg c8] at H
        have c8b0 : (a0_4 == 6) = false := beq_eq_false_iff_ne.mpr c8
        have c8b1 : (a0_4 != 6) = true := bne_iff_ne.mpr c8
        have H' := Aside0.mk H
        clear H
        have hcz12_0 : w3.cell? ⟨gb239, 0, none⟩ = some (.int .i64 a0_0) := (blk_cell BK239.out 0).trans rfl
        have hcz12_1 : w3.cell? ⟨gb239, 1, none⟩ = some (.int .i64 a0_1) := (blk_cell BK239.out 1).trans rfl
        have hcz12_2 : w3.cell? ⟨gb239, 2, none⟩ = some (.int .i64 a0_2) := (blk_cell BK239.out 2).trans rfl
        have hcz12_3 : w3.cell? ⟨gb239, 3, none⟩ = some (.int .i64 a0_3) := (blk_cell BK239.out 3).trans rfl
        have hcz12_4 : w3.cell? ⟨gb239, 4, none⟩ = some (.int .i64 a0_4) := (blk_cell BK239.out 4).trans rfl
        have hcz12_5 : w3.cell? ⟨gb239, 5, none⟩ = some (.int .u32 a0_5) := (blk_cell BK239.out 5).trans rfl
        have hcz12_6 : w3.cell? ⟨gb239, 6, none⟩ = some (.int .u32 a0_6) := (blk_cell BK239.out 6).trans rfl
        have hcz12_7 : w3.cell? ⟨gb239, 7, none⟩ = some (.string a0_7) := (blk_cell BK239.out 7).trans rfl
        have hfz12_0 := blk_frozen BK239.out 0
        have hfz12_1 := blk_frozen BK239.out 1
        have hfz12_2 := blk_frozen BK239.out 2
        have hfz12_3 := blk_frozen BK239.out 3
        have hfz12_4 := blk_frozen BK239.out 4
        have hfz12_5 := blk_frozen BK239.out 5
        have hfz12_6 := blk_frozen BK239.out 6
        have hfz12_7 := blk_frozen BK239.out 7
        go_wp2
        repeat (go_quiet (fail); try go_wp2)
        go_meet
        case rel => exact ⟨_, (true), (by first | rfl | (simp; done) | (simp [*]; done)), H', ⟨by first | omega | exact Nat.le_refl _⟩, ⟨by (with_reducible repeat (first | refine blk_drewN ?_ _ | refine blk_drew ?_ | refine blk_alloc ?_ _)); exact BK239.out⟩, ⟨by repeat (first | (with_reducible first | exact HB.out | apply below_alloc | apply pw_below_drewN | apply below_drew1 | refine below_set ?_ GE239.out) | exact HB.out)⟩⟩
  case rest =>
    clear HC2
    try clear p2
    try clear c4
    try clear c4b0
    try clear c4b1
    try clear c5
    try clear c5b0
    try clear c5b1
    try clear c8
    try clear c8b0
    try clear c8b1
    try clear c9
    try clear c9b0
    try clear c9b1
    try clear hcz10_0
    try clear hcz10_1
    try clear hcz10_2
    try clear hcz10_3
    try clear hcz10_4
    try clear hcz10_5
    try clear hcz10_6
    try clear hcz10_7
    try clear hcz11_0
    try clear hcz11_1
    try clear hcz11_2
    try clear hcz11_3
    try clear hcz11_4
    try clear hcz11_5
    try clear hcz11_6
    try clear hcz11_7
    try clear hcz12_0
    try clear hcz12_1
    try clear hcz12_2
    try clear hcz12_3
    try clear hcz12_4
    try clear hcz12_5
    try clear hcz12_6
    try clear hcz12_7
    try clear hcz6_0
    try clear hcz6_1
    try clear hcz6_2
    try clear hcz6_3
    try clear hcz6_4
    try clear hcz6_5
    try clear hcz6_6
    try clear hcz6_7
    try clear hcz7_0
    try clear hcz7_1
    try clear hcz7_2
    try clear hcz7_3
    try clear hcz7_4
    try clear hcz7_5
    try clear hcz7_6
    try clear hcz7_7
    try clear hfz10_0
    try clear hfz10_1
    try clear hfz10_2
    try clear hfz10_3
    try clear hfz10_4
    try clear hfz10_5
    try clear hfz10_6
    try clear hfz10_7
    try clear hfz11_0
    try clear hfz11_1
    try clear hfz11_2
    try clear hfz11_3
    try clear hfz11_4
    try clear hfz11_5
    try clear hfz11_6
    try clear hfz11_7
    try clear hfz12_0
    try clear hfz12_1
    try clear hfz12_2
    try clear hfz12_3
    try clear hfz12_4
    try clear hfz12_5
    try clear hfz12_6
    try clear hfz12_7
    try clear hfz6_0
    try clear hfz6_1
    try clear hfz6_2
    try clear hfz6_3
    try clear hfz6_4
    try clear hfz6_5
    try clear hfz6_6
    try clear hfz6_7
    try clear hfz7_0
    try clear hfz7_1
    try clear hfz7_2
    try clear hfz7_3
    try clear hfz7_4
    try clear hfz7_5
    try clear hfz7_6
    try clear hfz7_7
    obtain ⟨kq, x24_1, rfl, HA, HJ1, BK239, HB⟩ := hcut
    cases kq with
    | zero => exact absurd HA.out (by simp [udp_Ports.j0])
    | succ kj1 =>
      have H := HA.out
      clear HA
      simp only [udp_Ports.j0] at H
      by_cases c13 : x24_1 = true
      · subst c13
        have H1 : (some (0, 0, false)) = some (r1, r2, r3) := by rw [if_pos rfl] at H; exact H
        clear H
        have H := H1
        clear H1
        simp only [Option.some.injEq, Prod.mk.injEq] at H
        obtain ⟨rfl, rfl, rfl⟩ := H
        go_wp2
        repeat (go_quiet (fail); try go_wp2)
        go_ret3
        exact ⟨by first | rfl | (simp [errW_none, errW_some] <;> rfl) | (simp [*, errW_none, errW_some] <;> rfl), by repeat (first | (with_reducible first | exact HB.out | apply below_alloc | apply pw_below_drewN | apply below_drew1 | refine below_set ?_ GE239.out) | exact HB.out)⟩
      · replace c13 := Bool.eq_false_iff.mpr c13
        subst c13
        have H1 : ((udp_word.f a0_7).bind fun t240 => (if 2 ≤ (a0_7.size : Int) then ((udp_word.f (a0_7.extract 2 a0_7.size)).bind fun t241 => (some (t240, t241, true))) else (none))) = some (r1, r2, r3) := by rw [if_neg (show ¬ (false = true) by decide)] at H; exact H
        clear H
        have H := H1
        clear H1
        replace H := Option.bind_eq_some_iff.mp H
        obtain ⟨t240, A140, H⟩ := H
        replace H : (if 2 ≤ (a0_7.size : Int) then ((udp_word.f (a0_7.extract 2 a0_7.size)).bind fun t241 => (some (t240, t241, true))) else (none)) = some (r1, r2, r3) := H
        have A14 := Aside0.mk A140
        clear A140
        by_cases c15 : 2 ≤ (a0_7.size : Int)
        · rw [if_pos c15] at H
          have c15b0 := eq_true c15
          have c15b1 : decide (2 ≤ (a0_7.size : Int)) = true := decide_eq_true c15
          clear c15
          replace H := Option.bind_eq_some_iff.mp H
          obtain ⟨t241, A160, H⟩ := H
          replace H : (some (t240, t241, true)) = some (r1, r2, r3) := H
          have A16 := Aside0.mk A160
          clear A160
          simp only [Option.some.injEq, Prod.mk.injEq] at H
          obtain ⟨rfl, rfl, rfl⟩ := H
          have hcz17_0 : wc.cell? ⟨gb239, 0, none⟩ = some (.int .i64 a0_0) := (blk_cell BK239.out 0).trans rfl
          have hcz17_1 : wc.cell? ⟨gb239, 1, none⟩ = some (.int .i64 a0_1) := (blk_cell BK239.out 1).trans rfl
          have hcz17_2 : wc.cell? ⟨gb239, 2, none⟩ = some (.int .i64 a0_2) := (blk_cell BK239.out 2).trans rfl
          have hcz17_3 : wc.cell? ⟨gb239, 3, none⟩ = some (.int .i64 a0_3) := (blk_cell BK239.out 3).trans rfl
          have hcz17_4 : wc.cell? ⟨gb239, 4, none⟩ = some (.int .i64 a0_4) := (blk_cell BK239.out 4).trans rfl
          have hcz17_5 : wc.cell? ⟨gb239, 5, none⟩ = some (.int .u32 a0_5) := (blk_cell BK239.out 5).trans rfl
          have hcz17_6 : wc.cell? ⟨gb239, 6, none⟩ = some (.int .u32 a0_6) := (blk_cell BK239.out 6).trans rfl
          have hcz17_7 : wc.cell? ⟨gb239, 7, none⟩ = some (.string a0_7) := (blk_cell BK239.out 7).trans rfl
          have hfz17_0 := blk_frozen BK239.out 0
          have hfz17_1 := blk_frozen BK239.out 1
          have hfz17_2 := blk_frozen BK239.out 2
          have hfz17_3 := blk_frozen BK239.out 3
          have hfz17_4 := blk_frozen BK239.out 4
          have hfz17_5 := blk_frozen BK239.out 5
          have hfz17_6 := blk_frozen BK239.out 6
          have hfz17_7 := blk_frozen BK239.out 7
          go_wp2_with (first | (go_at_call 77; (with_reducible refine (udp_word.calls a0_7 t240 _ A14.out).mono ?_); rintro e w' ⟨rfl, ⟨nd, rfl⟩⟩; (try first | exact ⟨rfl, _, World.drewN_drewN _ _ _⟩ | exact ⟨rfl, _, Eq.trans (World.drewN_drewN _ _ _) (congrArg (World.drewN _) (Nat.add_assoc _ _ _))⟩)) | (go_at_call 77; (with_reducible refine (udp_word.calls (a0_7.extract 2 a0_7.size) t241 _ A16.out).mono ?_); rintro e w' ⟨rfl, ⟨nd, rfl⟩⟩; (try first | exact ⟨rfl, _, World.drewN_drewN _ _ _⟩ | exact ⟨rfl, _, Eq.trans (World.drewN_drewN _ _ _) (congrArg (World.drewN _) (Nat.add_assoc _ _ _))⟩)))
          repeat (go_quiet (first | (go_at_call 77; (with_reducible refine (udp_word.calls a0_7 t240 _ A14.out).mono ?_); rintro e w' ⟨rfl, ⟨nd, rfl⟩⟩; (try first | exact ⟨rfl, _, World.drewN_drewN _ _ _⟩ | exact ⟨rfl, _, Eq.trans (World.drewN_drewN _ _ _) (congrArg (World.drewN _) (Nat.add_assoc _ _ _))⟩)) | (go_at_call 77; (with_reducible refine (udp_word.calls (a0_7.extract 2 a0_7.size) t241 _ A16.out).mono ?_); rintro e w' ⟨rfl, ⟨nd, rfl⟩⟩; (try first | exact ⟨rfl, _, World.drewN_drewN _ _ _⟩ | exact ⟨rfl, _, Eq.trans (World.drewN_drewN _ _ _) (congrArg (World.drewN _) (Nat.add_assoc _ _ _))⟩))); try go_wp2_with (first | (go_at_call 77; (with_reducible refine (udp_word.calls a0_7 t240 _ A14.out).mono ?_); rintro e w' ⟨rfl, ⟨nd, rfl⟩⟩; (try first | exact ⟨rfl, _, World.drewN_drewN _ _ _⟩ | exact ⟨rfl, _, Eq.trans (World.drewN_drewN _ _ _) (congrArg (World.drewN _) (Nat.add_assoc _ _ _))⟩)) | (go_at_call 77; (with_reducible refine (udp_word.calls (a0_7.extract 2 a0_7.size) t241 _ A16.out).mono ?_); rintro e w' ⟨rfl, ⟨nd, rfl⟩⟩; (try first | exact ⟨rfl, _, World.drewN_drewN _ _ _⟩ | exact ⟨rfl, _, Eq.trans (World.drewN_drewN _ _ _) (congrArg (World.drewN _) (Nat.add_assoc _ _ _))⟩))))
          go_ret3
          exact ⟨by first | rfl | (simp [errW_none, errW_some] <;> rfl) | (simp [*, errW_none, errW_some] <;> rfl), by repeat (first | (with_reducible first | exact HB.out | apply below_alloc | apply pw_below_drewN | apply below_drew1 | refine below_set ?_ GE239.out) | exact HB.out)⟩
        · rw [if_neg c15] at H
          exact absurd H (by simp)
end Go.Proofs.Ytcpneggifmldoaa.T

/-
  vizard/ipv4.Build, walked: put, and what it builds of any header.
-/
import Derived.Test.YtcpneggifmldoaaIpP
import Derived.Outline
set_option linter.unusedVariables false
set_option linter.unusedSimpArgs false
namespace Go.Proofs.Ytcpneggifmldoaa.T
open Go.RowKit Go.Proofs.YtcpneggifmldoaaW.PrintWords Go.Proofs.YtcpneggifmldoaaW.PrintLast Go.Proofs.YtcpneggifmldoaaW.PrintMore Go
set_option maxRecDepth 100000 in
set_option maxHeartbeats 2000000 in
theorem put2 (nb off c : Nat) (v : Int) (v0 : 0 ≤ v) (v1 : v < 4294967296) (x0 x1 : Int) (w : World) (cs : Array Value) (hb : w.heap[nb]? = some (.cells cs 5 (0, 0))) (h0 : cs[off]? = some (.int .u8 x0)) (h1 : cs[off + 1]? = some (.int .u8 x1)) :
    Calls Try.prog 86 #[.slice (some ⟨nb, off, none⟩) 2 c, .int .u32 v] w fun e w' => e = .returned (.tuple #[]) ∧ (w.setCell ⟨nb, off, none⟩ (.int .u8 (v / 256 % 256))).setCell ⟨nb, off + 1, none⟩ (.int .u8 (v % 256)) = w' := by
  have c0 : (w).cell? ⟨nb, off, none⟩ = some (.int .u8 x0) := (blk_cell hb (off)).trans (by exact h0)
  have f0 := blk_frozen hb (off)
  have b1 := blk_put hb (off) (.int .u8 (v / 256 % 256)) rfl
  have c1 : (w.setCell ⟨nb, off, none⟩ (.int .u8 (v / 256 % 256))).cell? ⟨nb, off + 1, none⟩ = some (.int .u8 x1) := (blk_cell b1 (off + 1)).trans (by rw [Array.getElem?_setIfInBounds_ne (by omega)]; exact h1)
  have f1 := blk_frozen b1 (off + 1)
  clear hb b1 h0 h1
  go_enter Try.func86, Try.ntmps86
  go_wp2
  go_loopw [4, 7] (fun _ i wr => (i = .int .i64 0 ∧ wr = w) ∨ (i = .int .i64 1 ∧ wr = w.setCell ⟨nb, off, none⟩ (.int .u8 (v / 256 % 256))) ∨ (i = .int .i64 2 ∧ wr = (w.setCell ⟨nb, off, none⟩ (.int .u8 (v / 256 % 256))).setCell ⟨nb, off + 1, none⟩ (.int .u8 (v % 256)))) (fun _ i _ => 2 - (intOf i).toNat)
  case atStart => exact .inl ⟨rfl, rfl⟩
  case round =>
    rcases hrel with ⟨rfl, rfl⟩ | ⟨rfl, rfl⟩ | ⟨rfl, rfl⟩
    · go_wp2
      exact ⟨by simp, by simp [intOf]⟩
    · go_wp2
      exact ⟨by simp, by simp [intOf]⟩
    · go_wp2
      go_end0
      exact ⟨rfl, rfl⟩
set_option maxRecDepth 100000 in
set_option maxHeartbeats 2000000 in
theorem put4 (nb off c : Nat) (v : Int) (v0 : 0 ≤ v) (v1 : v < 4294967296) (x0 x1 x2 x3 : Int) (w : World) (cs : Array Value) (hb : w.heap[nb]? = some (.cells cs 5 (0, 0))) (h0 : cs[off]? = some (.int .u8 x0)) (h1 : cs[off + 1]? = some (.int .u8 x1)) (h2 : cs[off + 2]? = some (.int .u8 x2)) (h3 : cs[off + 3]? = some (.int .u8 x3)) :
    Calls Try.prog 86 #[.slice (some ⟨nb, off, none⟩) 4 c, .int .u32 v] w fun e w' => e = .returned (.tuple #[]) ∧ (((w.setCell ⟨nb, off, none⟩ (.int .u8 (v / 16777216))).setCell ⟨nb, off + 1, none⟩ (.int .u8 (v / 65536 % 256))).setCell ⟨nb, off + 2, none⟩ (.int .u8 (v / 256 % 256))).setCell ⟨nb, off + 3, none⟩ (.int .u8 (v % 256)) = w' := by
  have c0 : (w).cell? ⟨nb, off, none⟩ = some (.int .u8 x0) := (blk_cell hb (off)).trans (by exact h0)
  have f0 := blk_frozen hb (off)
  have b1 := blk_put hb (off) (.int .u8 (v / 16777216)) rfl
  have c1 : (w.setCell ⟨nb, off, none⟩ (.int .u8 (v / 16777216))).cell? ⟨nb, off + 1, none⟩ = some (.int .u8 x1) := (blk_cell b1 (off + 1)).trans (by rw [Array.getElem?_setIfInBounds_ne (by omega)]; exact h1)
  have f1 := blk_frozen b1 (off + 1)
  have b2 := blk_put b1 (off + 1) (.int .u8 (v / 65536 % 256)) rfl
  have c2 : ((w.setCell ⟨nb, off, none⟩ (.int .u8 (v / 16777216))).setCell ⟨nb, off + 1, none⟩ (.int .u8 (v / 65536 % 256))).cell? ⟨nb, off + 2, none⟩ = some (.int .u8 x2) := (blk_cell b2 (off + 2)).trans (by rw [Array.getElem?_setIfInBounds_ne (by omega)]; rw [Array.getElem?_setIfInBounds_ne (by omega)]; exact h2)
  have f2 := blk_frozen b2 (off + 2)
  have b3 := blk_put b2 (off + 2) (.int .u8 (v / 256 % 256)) rfl
  have c3 : (((w.setCell ⟨nb, off, none⟩ (.int .u8 (v / 16777216))).setCell ⟨nb, off + 1, none⟩ (.int .u8 (v / 65536 % 256))).setCell ⟨nb, off + 2, none⟩ (.int .u8 (v / 256 % 256))).cell? ⟨nb, off + 3, none⟩ = some (.int .u8 x3) := (blk_cell b3 (off + 3)).trans (by rw [Array.getElem?_setIfInBounds_ne (by omega)]; rw [Array.getElem?_setIfInBounds_ne (by omega)]; rw [Array.getElem?_setIfInBounds_ne (by omega)]; exact h3)
  have f3 := blk_frozen b3 (off + 3)
  clear hb b1 b2 b3 h0 h1 h2 h3
  go_enter Try.func86, Try.ntmps86
  go_wp2
  go_loopw [4, 7] (fun _ i wr => (i = .int .i64 0 ∧ wr = w) ∨ (i = .int .i64 1 ∧ wr = w.setCell ⟨nb, off, none⟩ (.int .u8 (v / 16777216))) ∨ (i = .int .i64 2 ∧ wr = (w.setCell ⟨nb, off, none⟩ (.int .u8 (v / 16777216))).setCell ⟨nb, off + 1, none⟩ (.int .u8 (v / 65536 % 256))) ∨ (i = .int .i64 3 ∧ wr = ((w.setCell ⟨nb, off, none⟩ (.int .u8 (v / 16777216))).setCell ⟨nb, off + 1, none⟩ (.int .u8 (v / 65536 % 256))).setCell ⟨nb, off + 2, none⟩ (.int .u8 (v / 256 % 256))) ∨ (i = .int .i64 4 ∧ wr = (((w.setCell ⟨nb, off, none⟩ (.int .u8 (v / 16777216))).setCell ⟨nb, off + 1, none⟩ (.int .u8 (v / 65536 % 256))).setCell ⟨nb, off + 2, none⟩ (.int .u8 (v / 256 % 256))).setCell ⟨nb, off + 3, none⟩ (.int .u8 (v % 256)))) (fun _ i _ => 4 - (intOf i).toNat)
  case atStart => exact .inl ⟨rfl, rfl⟩
  case round =>
    rcases hrel with ⟨rfl, rfl⟩ | ⟨rfl, rfl⟩ | ⟨rfl, rfl⟩ | ⟨rfl, rfl⟩ | ⟨rfl, rfl⟩
    · go_wp2
      exact ⟨by simp, by simp [intOf]⟩
    · go_wp2
      exact ⟨by simp, by simp [intOf]⟩
    · go_wp2
      exact ⟨by simp, by simp [intOf]⟩
    · go_wp2
      exact ⟨by simp, by simp [intOf]⟩
    · go_wp2
      go_end0
      exact ⟨rfl, rfl⟩
theorem results_build (tmps : Array Value) (w : World) (g' : Nat) (r : ByteArray) (c : Int)
    (hp : tmps.getD 2 undef = .string r) (hp' : tmps.getD 3 undef = .pointer (some ⟨g', 0, none⟩)) (hg' : w.heap[g']? = some (.cells #[.int .i64 c] 35 (0, 0))) :
    (results Try.f78 tmps).run Try.prog w = .ok (.tuple #[.string r, .int .i64 c]) w := by
  have h1 : tmps[2]?.getD undef = .string r := by simpa using hp
  have h2 : tmps[3]?.getD undef = .pointer (some ⟨g', 0, none⟩) := by simpa using hp'
  have hc : w.cell? ⟨g', 0, none⟩ = some (.int .i64 c) := (blk_cell hg' 0).trans rfl
  have h35 : (loadVar 35 ⟨g', 0, none⟩).run Try.prog w = .ok (.int .i64 c) w := by simp [go_sem, hc]
  simp [results, Try.f78, h1, h2, asAddr, h35]
theorem doorB_panic (n : Nat) (c x : Int) (w W : World) (tmps : Array Value) (r : ByteArray) (hp : tmps.getD 2 undef = .string r) (hp' : tmps.getD 3 undef = .pointer (some ⟨n + 1, 0, none⟩))
    (hg' : W.heap[n + 1]? = some (.cells #[.int .i64 x] 35 (0, 0))) (hb : Below n w W) {R : Ending → World → Prop}
    (hR : ∀ W', Below n w W' → R (.returned (.tuple #[.string r, .int .i64 c])) W') :
    bodyPostD Try.prog Try.f78 R (Exit.panic [{ v := .iface 35 (.int .i64 c), recovered := false }])
      { tmps := tmps, defers := [{ target := Target.fn (Fn.func 56) #[], args := #[.pointer (some ⟨n + 1, 0, none⟩)] }] } W := by
  refine leaves_cons (f := 56) (args := #[.pointer (some ⟨n + 1, 0, none⟩)]) (by simp) (by simp [go_sem]) ?_
  refine (caught_panicking _ x c [] _ ((blk_cell hg' 0).trans rfl) (blk_frozen hg' 0)).mono ?_
  rintro e u' w'' ⟨rfl, rfl, rfl⟩
  exact ⟨_, results_build tmps _ (n + 1) r c hp hp' (blk_put hg' 0 _ rfl), hR _ (hb.setCell (by simp) _)⟩
theorem doorB_ret (n : Nat) (c : Int) (w W : World) (tmps : Array Value) (r : ByteArray) (hp : tmps.getD 2 undef = .string r) (hp' : tmps.getD 3 undef = .pointer (some ⟨n + 1, 0, none⟩))
    (hg' : W.heap[n + 1]? = some (.cells #[.int .i64 c] 35 (0, 0))) (hb : Below n w W) {R : Ending → World → Prop}
    (hR : ∀ W', Below n w W' → R (.returned (.tuple #[.string r, .int .i64 c])) W') :
    bodyPostD Try.prog Try.f78 R Exit.ret
      { tmps := tmps, defers := [{ target := Target.fn (Fn.func 56) #[], args := #[.pointer (some ⟨n + 1, 0, none⟩)] }] } W := by
  refine leaves_cons (f := 56) (args := #[.pointer (some ⟨n + 1, 0, none⟩)]) (by simp) (by simp [go_sem]) ?_
  refine (caught_idle _ _).mono ?_
  rintro e u' w'' ⟨rfl, rfl, rfl⟩
  exact ⟨_, results_build tmps _ (n + 1) r c hp hp' hg', hR _ hb⟩
set_option maxRecDepth 100000 in
set_option maxHeartbeats 1000000 in
theorem build_bad (a0 a1 a2 a3 a4 a5 a6 : Int) (a7 : ByteArray) (w : World) (h : ¬ okH a0 a1 a2 a3 a4) :
    Calls Try.prog 78 #[.agg #[.int .i64 a0, .int .i64 a1, .int .i64 a2, .int .i64 a3, .int .i64 a4, .int .u32 a5, .int .u32 a6, .string a7]] w fun e w' => e = .returned (.tuple #[.string ⟨#[]⟩, .int .i64 2]) ∧ Below w.heap.size w w' := by
  have hu58 := Try.underlying58
  have i0 : ∀ (x0 x1 x2 : Value) (w : World), (Instr.index 115 (.agg #[x0, x1, x2]) (.int .i64 0)).run Try.prog w = .ok x0 w := fun _ _ _ _ => by kernel_rfl
  have i1 : ∀ (x0 x1 x2 : Value) (w : World), (Instr.index 115 (.agg #[x0, x1, x2]) (.int .i64 1)).run Try.prog w = .ok x1 w := fun _ _ _ _ => by kernel_rfl
  have i2 : ∀ (x0 x1 x2 : Value) (w : World), (Instr.index 115 (.agg #[x0, x1, x2]) (.int .i64 2)).run Try.prog w = .ok x2 w := fun _ _ _ _ => by kernel_rfl
  go_enter_defers Try.func78, Try.ntmps78
  go_wp2
  obtain ⟨b1, b2, b3⟩ := start_blocks w #[.int .i64 a0, .int .i64 a1, .int .i64 a2, .int .i64 a3, .int .i64 a4, .int .u32 a5, .int .u32 a6, .string a7] #[.int .i64 0]
  have h0 : World.cell? _ ⟨w.heap.size, 1, none⟩ = some (.int .i64 a1) := (blk_cell b1 1).trans rfl
  have h1 : World.cell? _ ⟨w.heap.size, 2, none⟩ = some (.int .i64 a2) := (blk_cell b1 2).trans rfl
  have hN : Hid (¬ okH a0 a1 a2 a3 a4) := h
  clear h
  generalize (w.alloc (.cells #[.int .i64 a0, .int .i64 a1, .int .i64 a2, .int .i64 a3, .int .i64 a4, .int .u32 a5, .int .u32 a6, .string a7] 58)).alloc (.cells #[.int .i64 0] 35) = W at *
  go_loop [14] (fun i => (i = .int .i64 0) ∨ (i = .int .i64 1 ∧ Hid (0 ≤ a0 ∧ a0 ≤ 255)) ∨ (i = .int .i64 2 ∧ Hid (0 ≤ a0 ∧ a0 ≤ 255) ∧ Hid (0 ≤ a3 ∧ a3 ≤ 255)) ∨ (i = .int .i64 3 ∧ Hid (0 ≤ a0 ∧ a0 ≤ 255) ∧ Hid (0 ≤ a3 ∧ a3 ≤ 255) ∧ Hid (0 ≤ a4 ∧ a4 ≤ 255))) (fun i => 3 - (intOf i).toNat)
  case atStart => exact .inl rfl
  case round =>
    rcases hrel with rfl | ⟨rfl, N0⟩ | ⟨rfl, N0, N1⟩ | ⟨rfl, N0, N1, N2⟩
    · skip
      by_cases p0 : 0 ≤ a0
      · have d0 : decide (0 ≤ a0) = true := decide_eq_true p0
        by_cases p1 : a0 ≤ 255
        · have d1 : decide (a0 ≤ 255) = true := decide_eq_true p1
          have N : Hid (0 ≤ a0 ∧ a0 ≤ 255) := ⟨p0, p1⟩
          clear p0 p1
          go_wp2_with (first | (go_at_call 57; (with_reducible refine (check_yes _ _).mono ?_); rintro e w' ⟨rfl, rfl⟩) | (go_at_call 57; (with_reducible refine (check_no _ _).mono ?_); rintro e w' ⟨rfl, rfl⟩))
          go_round
          case rel => exact .inr (.inl ⟨rfl, N⟩)
          case measure => simp [intOf]
        · have d1 : decide (a0 ≤ 255) = false := decide_eq_false p1
          clear p0 p1
          go_wp2_with (first | (go_at_call 57; (with_reducible refine (check_yes _ _).mono ?_); rintro e w' ⟨rfl, rfl⟩) | (go_at_call 57; (with_reducible refine (check_no _ _).mono ?_); rintro e w' ⟨rfl, rfl⟩))
          exact doorB_panic w.heap.size 2 0 w _ _ _ rfl rfl b2 b3 fun W' hb => ⟨rfl, hb⟩
      · have d0 : decide (0 ≤ a0) = false := decide_eq_false p0
        clear p0
        go_wp2_with (first | (go_at_call 57; (with_reducible refine (check_yes _ _).mono ?_); rintro e w' ⟨rfl, rfl⟩) | (go_at_call 57; (with_reducible refine (check_no _ _).mono ?_); rintro e w' ⟨rfl, rfl⟩))
        exact doorB_panic w.heap.size 2 0 w _ _ _ rfl rfl b2 b3 fun W' hb => ⟨rfl, hb⟩
    · skip
      by_cases p0 : 0 ≤ a3
      · have d0 : decide (0 ≤ a3) = true := decide_eq_true p0
        by_cases p1 : a3 ≤ 255
        · have d1 : decide (a3 ≤ 255) = true := decide_eq_true p1
          have N : Hid (0 ≤ a3 ∧ a3 ≤ 255) := ⟨p0, p1⟩
          clear p0 p1
          go_wp2_with (first | (go_at_call 57; (with_reducible refine (check_yes _ _).mono ?_); rintro e w' ⟨rfl, rfl⟩) | (go_at_call 57; (with_reducible refine (check_no _ _).mono ?_); rintro e w' ⟨rfl, rfl⟩))
          go_round
          case rel => exact .inr (.inr (.inl ⟨rfl, N0, N⟩))
          case measure => simp [intOf]
        · have d1 : decide (a3 ≤ 255) = false := decide_eq_false p1
          clear p0 p1
          go_wp2_with (first | (go_at_call 57; (with_reducible refine (check_yes _ _).mono ?_); rintro e w' ⟨rfl, rfl⟩) | (go_at_call 57; (with_reducible refine (check_no _ _).mono ?_); rintro e w' ⟨rfl, rfl⟩))
          exact doorB_panic w.heap.size 2 0 w _ _ _ rfl rfl b2 b3 fun W' hb => ⟨rfl, hb⟩
      · have d0 : decide (0 ≤ a3) = false := decide_eq_false p0
        clear p0
        go_wp2_with (first | (go_at_call 57; (with_reducible refine (check_yes _ _).mono ?_); rintro e w' ⟨rfl, rfl⟩) | (go_at_call 57; (with_reducible refine (check_no _ _).mono ?_); rintro e w' ⟨rfl, rfl⟩))
        exact doorB_panic w.heap.size 2 0 w _ _ _ rfl rfl b2 b3 fun W' hb => ⟨rfl, hb⟩
    · skip
      by_cases p0 : 0 ≤ a4
      · have d0 : decide (0 ≤ a4) = true := decide_eq_true p0
        by_cases p1 : a4 ≤ 255
        · have d1 : decide (a4 ≤ 255) = true := decide_eq_true p1
          have N : Hid (0 ≤ a4 ∧ a4 ≤ 255) := ⟨p0, p1⟩
          clear p0 p1
          go_wp2_with (first | (go_at_call 57; (with_reducible refine (check_yes _ _).mono ?_); rintro e w' ⟨rfl, rfl⟩) | (go_at_call 57; (with_reducible refine (check_no _ _).mono ?_); rintro e w' ⟨rfl, rfl⟩))
          go_round
          case rel => exact .inr (.inr (.inr ⟨rfl, N0, N1, N⟩))
          case measure => simp [intOf]
        · have d1 : decide (a4 ≤ 255) = false := decide_eq_false p1
          clear p0 p1
          go_wp2_with (first | (go_at_call 57; (with_reducible refine (check_yes _ _).mono ?_); rintro e w' ⟨rfl, rfl⟩) | (go_at_call 57; (with_reducible refine (check_no _ _).mono ?_); rintro e w' ⟨rfl, rfl⟩))
          exact doorB_panic w.heap.size 2 0 w _ _ _ rfl rfl b2 b3 fun W' hb => ⟨rfl, hb⟩
      · have d0 : decide (0 ≤ a4) = false := decide_eq_false p0
        clear p0
        go_wp2_with (first | (go_at_call 57; (with_reducible refine (check_yes _ _).mono ?_); rintro e w' ⟨rfl, rfl⟩) | (go_at_call 57; (with_reducible refine (check_no _ _).mono ?_); rintro e w' ⟨rfl, rfl⟩))
        exact doorB_panic w.heap.size 2 0 w _ _ _ rfl rfl b2 b3 fun W' hb => ⟨rfl, hb⟩
    · by_cases p0 : 0 ≤ a1
      · have d0 : decide (0 ≤ a1) = true := decide_eq_true p0
        by_cases p1 : a1 ≤ 65535
        · have d1 : decide (a1 ≤ 65535) = true := decide_eq_true p1
          by_cases p2 : 0 ≤ a2
          · have d2 : decide (0 ≤ a2) = true := decide_eq_true p2
            by_cases p3 : a2 ≤ 65535
            · exact absurd ⟨N0.out, N1.out, N2.out, ⟨p0, p1⟩, p2, p3⟩ hN.out
            · have d3 : decide (a2 ≤ 65535) = false := decide_eq_false p3
              clear p0 p1 p2 p3
              go_wp2_with (first | (go_at_call 57; (with_reducible refine (check_yes _ _).mono ?_); rintro e w' ⟨rfl, rfl⟩) | (go_at_call 57; (with_reducible refine (check_no _ _).mono ?_); rintro e w' ⟨rfl, rfl⟩))
              exact doorB_panic w.heap.size 2 0 w _ _ _ rfl rfl b2 b3 fun W' hb => ⟨rfl, hb⟩
          · have d2 : decide (0 ≤ a2) = false := decide_eq_false p2
            clear p0 p1 p2
            go_wp2_with (first | (go_at_call 57; (with_reducible refine (check_yes _ _).mono ?_); rintro e w' ⟨rfl, rfl⟩) | (go_at_call 57; (with_reducible refine (check_no _ _).mono ?_); rintro e w' ⟨rfl, rfl⟩))
            exact doorB_panic w.heap.size 2 0 w _ _ _ rfl rfl b2 b3 fun W' hb => ⟨rfl, hb⟩
        · have d1 : decide (a1 ≤ 65535) = false := decide_eq_false p1
          clear p0 p1
          go_wp2_with (first | (go_at_call 57; (with_reducible refine (check_yes _ _).mono ?_); rintro e w' ⟨rfl, rfl⟩) | (go_at_call 57; (with_reducible refine (check_no _ _).mono ?_); rintro e w' ⟨rfl, rfl⟩))
          exact doorB_panic w.heap.size 2 0 w _ _ _ rfl rfl b2 b3 fun W' hb => ⟨rfl, hb⟩
      · have d0 : decide (0 ≤ a1) = false := decide_eq_false p0
        clear p0
        go_wp2_with (first | (go_at_call 57; (with_reducible refine (check_yes _ _).mono ?_); rintro e w' ⟨rfl, rfl⟩) | (go_at_call 57; (with_reducible refine (check_no _ _).mono ?_); rintro e w' ⟨rfl, rfl⟩))
        exact doorB_panic w.heap.size 2 0 w _ _ _ rfl rfl b2 b3 fun W' hb => ⟨rfl, hb⟩
set_option maxRecDepth 100000 in
set_option maxHeartbeats 1000000 in
theorem build_long (a0 a1 a2 a3 a4 a5 a6 : Int) (a7 : ByteArray) (w : World) (h : okH a0 a1 a2 a3 a4) (hs : 65515 < a7.size) :
    Calls Try.prog 78 #[.agg #[.int .i64 a0, .int .i64 a1, .int .i64 a2, .int .i64 a3, .int .i64 a4, .int .u32 a5, .int .u32 a6, .string a7]] w fun e w' => e = .returned (.tuple #[.string ⟨#[]⟩, .int .i64 8]) ∧ Below w.heap.size w w' := by
  have hu58 := Try.underlying58
  have i0 : ∀ (x0 x1 x2 : Value) (w : World), (Instr.index 115 (.agg #[x0, x1, x2]) (.int .i64 0)).run Try.prog w = .ok x0 w := fun _ _ _ _ => by kernel_rfl
  have i1 : ∀ (x0 x1 x2 : Value) (w : World), (Instr.index 115 (.agg #[x0, x1, x2]) (.int .i64 1)).run Try.prog w = .ok x1 w := fun _ _ _ _ => by kernel_rfl
  have i2 : ∀ (x0 x1 x2 : Value) (w : World), (Instr.index 115 (.agg #[x0, x1, x2]) (.int .i64 2)).run Try.prog w = .ok x2 w := fun _ _ _ _ => by kernel_rfl
  obtain ⟨⟨g0, g1⟩, ⟨g2, g3⟩, ⟨g4, g5⟩, ⟨g6, g7⟩, g8, g9⟩ := h
  have d0 : decide (0 ≤ a0) = true := decide_eq_true g0
  have d1 : decide (a0 ≤ 255) = true := decide_eq_true g1
  have d2 : decide (0 ≤ a3) = true := decide_eq_true g2
  have d3 : decide (a3 ≤ 255) = true := decide_eq_true g3
  have d4 : decide (0 ≤ a4) = true := decide_eq_true g4
  have d5 : decide (a4 ≤ 255) = true := decide_eq_true g5
  have d6 : decide (0 ≤ a1) = true := decide_eq_true g6
  have d7 : decide (a1 ≤ 65535) = true := decide_eq_true g7
  have d8 : decide (0 ≤ a2) = true := decide_eq_true g8
  have d9 : decide (a2 ≤ 65535) = true := decide_eq_true g9
  have dl : decide ((a7.size : Int) ≤ 65515) = false := decide_eq_false (by omega)
  clear hs g0 g1 g2 g3 g4 g5 g6 g7 g8 g9
  go_enter_defers Try.func78, Try.ntmps78
  go_wp2
  obtain ⟨b1, b2, b3⟩ := start_blocks w #[.int .i64 a0, .int .i64 a1, .int .i64 a2, .int .i64 a3, .int .i64 a4, .int .u32 a5, .int .u32 a6, .string a7] #[.int .i64 0]
  have h1 : World.cell? _ ⟨w.heap.size, 1, none⟩ = some (.int .i64 a1) := (blk_cell b1 1).trans rfl
  have h2 : World.cell? _ ⟨w.heap.size, 2, none⟩ = some (.int .i64 a2) := (blk_cell b1 2).trans rfl
  have h7 : World.cell? _ ⟨w.heap.size, 7, none⟩ = some (.string a7) := (blk_cell b1 7).trans rfl
  have hsz : Hid (w.heap.size + 2 = ((w.alloc (.cells #[.int .i64 a0, .int .i64 a1, .int .i64 a2, .int .i64 a3, .int .i64 a4, .int .u32 a5, .int .u32 a6, .string a7] 58)).alloc (.cells #[.int .i64 0] 35)).heap.size) := by unfold Hid; simp
  generalize (w.alloc (.cells #[.int .i64 a0, .int .i64 a1, .int .i64 a2, .int .i64 a3, .int .i64 a4, .int .u32 a5, .int .u32 a6, .string a7] 58)).alloc (.cells #[.int .i64 0] 35) = W at *
  go_loop [14] (fun i => (i = .int .i64 0) ∨ (i = .int .i64 1) ∨ (i = .int .i64 2) ∨ (i = .int .i64 3)) (fun i => 3 - (intOf i).toNat)
  case atStart => exact .inl rfl
  case round =>
    rcases hrel with rfl | rfl | rfl | rfl
    · go_wp2_with (first | (go_at_call 57; (with_reducible refine (check_yes _ _).mono ?_); rintro e w' ⟨rfl, rfl⟩) | (go_at_call 57; (with_reducible refine (check_no _ _).mono ?_); rintro e w' ⟨rfl, rfl⟩))
      go_round
      case rel => simp
      case measure => simp [intOf]
    · go_wp2_with (first | (go_at_call 57; (with_reducible refine (check_yes _ _).mono ?_); rintro e w' ⟨rfl, rfl⟩) | (go_at_call 57; (with_reducible refine (check_no _ _).mono ?_); rintro e w' ⟨rfl, rfl⟩))
      go_round
      case rel => simp
      case measure => simp [intOf]
    · go_wp2_with (first | (go_at_call 57; (with_reducible refine (check_yes _ _).mono ?_); rintro e w' ⟨rfl, rfl⟩) | (go_at_call 57; (with_reducible refine (check_no _ _).mono ?_); rintro e w' ⟨rfl, rfl⟩))
      go_round
      case rel => simp
      case measure => simp [intOf]
    · go_wp2_with (first | (go_at_call 57; (with_reducible refine (check_yes _ _).mono ?_); rintro e w' ⟨rfl, rfl⟩) | (go_at_call 57; (with_reducible refine (check_no _ _).mono ?_); rintro e w' ⟨rfl, rfl⟩))
      exact doorB_panic w.heap.size 8 0 w _ _ _ rfl rfl b2 b3 fun W' hb => ⟨rfl, hb⟩
theorem hdr_nums (len a0 a1 a2 a3 a4 m a5 a6 x y : Int) (hx : x = m / 256 % 256) (hy : y = m % 256) (h5 : 0 ≤ a5) (h5' : a5 < 4294967296) (h6 : 0 ≤ a6) (h6' : a6 < 4294967296) :
    strOfNums [69, a0 % 256, len / 256 % 256, len % 256, a1 / 256 % 256, a1 % 256, a2 / 256 % 256, a2 % 256, a3 % 256, a4 % 256, x, y, a5 / 16777216, a5 / 65536 % 256, a5 / 256 % 256, a5 % 256, a6 / 16777216, a6 / 65536 % 256, a6 / 256 % 256, a6 % 256] = hdrV len a0 a1 a2 a3 a4 m a5 a6 := by
  subst hx
  subst hy
  have e5 : a5 / 16777216 % 256 = a5 / 16777216 := by omega
  have e6 : a6 / 16777216 % 256 = a6 / 16777216 := by omega
  unfold hdrV u8
  rw [e5, e6]
  rfl
theorem keep_blk {W : World} {k nb j : Nat} {o : Obj} {v : Value} (h : W.heap[k]? = some o) (hne : k ≠ nb) : (W.setCell ⟨nb, j, none⟩ v).heap[k]? = some o := (heap_setCell_other _ _ _ _ (by simpa using hne)).trans h
theorem conv_row (W : World) (nb c : Nat) (xs : List Int) (hm : xs.length ≤ 1000) (cs : Array Value) (hcs : (xs.map (Value.int .u8)).toArray = cs) (n : Nat) (hn : xs.length = n) (hb : W.heap[nb]? = some (.cells cs 5 (0, 0))) : (convert 116 9 (.slice (some ⟨nb, 0, none⟩) n c)).run Try.prog W = .ok (.string (strOfNums xs)) W := by
  subst hcs
  subst hn
  refine string_of_reads Try.underlying116 Try.underlying5 Try.underlying9 ⟨rfl, by omega, fun h0 => ⟨_, rfl, fun j hj => ?_⟩⟩
  have hadd : (⟨nb, 0, none⟩ : Addr).add j = ⟨nb, j, none⟩ := by unfold Addr.add; split <;> simp_all
  rw [hadd, blk_cell hb j]
  simp [List.getD, hj]
set_option maxRecDepth 100000 in
set_option maxHeartbeats 20000000 in
theorem build_good (a0 a1 a2 a3 a4 a5 a6 : Int) (a7 : ByteArray) (w : World) (h : okH a0 a1 a2 a3 a4) (h5 : 0 ≤ a5) (h5' : a5 < 4294967296) (h6 : 0 ≤ a6) (h6' : a6 < 4294967296) (hs : a7.size ≤ 65515) :
    Calls Try.prog 78 #[.agg #[.int .i64 a0, .int .i64 a1, .int .i64 a2, .int .i64 a3, .int .i64 a4, .int .u32 a5, .int .u32 a6, .string a7]] w fun e w' => e = .returned (.tuple #[.string (packV a0 a1 a2 a3 a4 a5 a6 a7), .int .i64 0]) ∧ Below w.heap.size w w' := by
  have hu58 := Try.underlying58
  have i0 : ∀ (x0 x1 x2 : Value) (w : World), (Instr.index 115 (.agg #[x0, x1, x2]) (.int .i64 0)).run Try.prog w = .ok x0 w := fun _ _ _ _ => by kernel_rfl
  have i1 : ∀ (x0 x1 x2 : Value) (w : World), (Instr.index 115 (.agg #[x0, x1, x2]) (.int .i64 1)).run Try.prog w = .ok x1 w := fun _ _ _ _ => by kernel_rfl
  have i2 : ∀ (x0 x1 x2 : Value) (w : World), (Instr.index 115 (.agg #[x0, x1, x2]) (.int .i64 2)).run Try.prog w = .ok x2 w := fun _ _ _ _ => by kernel_rfl
  obtain ⟨⟨g0, g1⟩, ⟨g2, g3⟩, ⟨g4, g5⟩, ⟨g6, g7⟩, g8, g9⟩ := h
  have d0 : decide (0 ≤ a0) = true := decide_eq_true g0
  have d1 : decide (a0 ≤ 255) = true := decide_eq_true g1
  have d2 : decide (0 ≤ a3) = true := decide_eq_true g2
  have d3 : decide (a3 ≤ 255) = true := decide_eq_true g3
  have d4 : decide (0 ≤ a4) = true := decide_eq_true g4
  have d5 : decide (a4 ≤ 255) = true := decide_eq_true g5
  have d6 : decide (0 ≤ a1) = true := decide_eq_true g6
  have d7 : decide (a1 ≤ 65535) = true := decide_eq_true g7
  have d8 : decide (0 ≤ a2) = true := decide_eq_true g8
  have d9 : decide (a2 ≤ 65535) = true := decide_eq_true g9
  have hmk : ∀ w : World, (Instr.makeSlice 116 (.int .i64 20) (.int .i64 20)).run Try.prog w = .ok (.slice (some ⟨w.heap.size, 0, none⟩) 20 20) (w.alloc (.cells #[.int .u8 0, .int .u8 0, .int .u8 0, .int .u8 0, .int .u8 0, .int .u8 0, .int .u8 0, .int .u8 0, .int .u8 0, .int .u8 0, .int .u8 0, .int .u8 0, .int .u8 0, .int .u8 0, .int .u8 0, .int .u8 0, .int .u8 0, .int .u8 0, .int .u8 0, .int .u8 0] 5)) := fun _ => by kernel_rfl
  have dl : decide ((a7.size : Int) ≤ 65515) = true := decide_eq_true (by omega)
  have wl : wrap64 (20 + (a7.size : Int)) = 20 + a7.size := by unfold wrap64; omega
  have wi : IntKind.i64.wrap (20 + (a7.size : Int)) = 20 + a7.size := by rw [IntKind.wrap_i64]; omega
  have u0 : IntKind.u32.wrap (20 + (a7.size : Int)) = 20 + a7.size := by rw [IntKind.wrap_u32]; omega
  have u1 : IntKind.u32.wrap a1 = a1 := by rw [IntKind.wrap_u32]; omega
  have u2 : IntKind.u32.wrap a2 = a2 := by rw [IntKind.wrap_u32]; omega
  have ml : (20 + (a7.size : Int)) % 4294967296 = 20 + a7.size := by omega
  have m1 : a1 % 4294967296 = a1 := by omega
  have m2 : a2 % 4294967296 = a2 := by omega
  go_enter_defers Try.func78, Try.ntmps78
  go_wp2
  obtain ⟨b1, b2, b3⟩ := start_blocks w #[.int .i64 a0, .int .i64 a1, .int .i64 a2, .int .i64 a3, .int .i64 a4, .int .u32 a5, .int .u32 a6, .string a7] #[.int .i64 0]
  have h1 : World.cell? _ ⟨w.heap.size, 1, none⟩ = some (.int .i64 a1) := (blk_cell b1 1).trans rfl
  have h2 : World.cell? _ ⟨w.heap.size, 2, none⟩ = some (.int .i64 a2) := (blk_cell b1 2).trans rfl
  have h7 : World.cell? _ ⟨w.heap.size, 7, none⟩ = some (.string a7) := (blk_cell b1 7).trans rfl
  have hsz : Hid (w.heap.size + 2 = ((w.alloc (.cells #[.int .i64 a0, .int .i64 a1, .int .i64 a2, .int .i64 a3, .int .i64 a4, .int .u32 a5, .int .u32 a6, .string a7] 58)).alloc (.cells #[.int .i64 0] 35)).heap.size) := by unfold Hid; simp
  have hv2 : Hid (0 ≤ 20 + (a7.size : Int) ∧ 20 + (a7.size : Int) < 4294967296) := ⟨by omega, by omega⟩
  have hv4 : Hid (0 ≤ a1 ∧ a1 < 4294967296) := ⟨by omega, by omega⟩
  have hv6 : Hid (0 ≤ a2 ∧ a2 < 4294967296) := ⟨by omega, by omega⟩
  have hv12 : Hid (0 ≤ a5 ∧ a5 < 4294967296) := ⟨h5, h5'⟩
  have hv16 : Hid (0 ≤ a6 ∧ a6 < 4294967296) := ⟨h6, h6'⟩
  have hs8 : Hid (a7.size ≤ 65515) := hs
  clear hs g0 g1 g2 g3 g4 g5 g6 g7 g8 g9 h5 h5' h6 h6'
  generalize (w.alloc (.cells #[.int .i64 a0, .int .i64 a1, .int .i64 a2, .int .i64 a3, .int .i64 a4, .int .u32 a5, .int .u32 a6, .string a7] 58)).alloc (.cells #[.int .i64 0] 35) = W at *
  go_loop [14] (fun i => (i = .int .i64 0) ∨ (i = .int .i64 1) ∨ (i = .int .i64 2) ∨ (i = .int .i64 3)) (fun i => 3 - (intOf i).toNat)
  case atStart => exact .inl rfl
  case round =>
    rcases hrel with rfl | rfl | rfl | rfl
    · go_wp2_with (first | (go_at_call 57; (with_reducible refine (check_yes _ _).mono ?_); rintro e w' ⟨rfl, rfl⟩) | (go_at_call 57; (with_reducible refine (check_no _ _).mono ?_); rintro e w' ⟨rfl, rfl⟩))
      go_round
      case rel => simp
      case measure => simp [intOf]
    · go_wp2_with (first | (go_at_call 57; (with_reducible refine (check_yes _ _).mono ?_); rintro e w' ⟨rfl, rfl⟩) | (go_at_call 57; (with_reducible refine (check_no _ _).mono ?_); rintro e w' ⟨rfl, rfl⟩))
      go_round
      case rel => simp
      case measure => simp [intOf]
    · go_wp2_with (first | (go_at_call 57; (with_reducible refine (check_yes _ _).mono ?_); rintro e w' ⟨rfl, rfl⟩) | (go_at_call 57; (with_reducible refine (check_no _ _).mono ?_); rintro e w' ⟨rfl, rfl⟩))
      go_round
      case rel => simp
      case measure => simp [intOf]
    · skip
      go_wp2_with (first | (go_at_call 57; (with_reducible refine (check_yes _ _).mono ?_); rintro e w' ⟨rfl, rfl⟩) | (go_at_call 57; (with_reducible refine (check_no _ _).mono ?_); rintro e w' ⟨rfl, rfl⟩))
      have A := blk_alloc b1 (.cells #[.int .u8 0, .int .u8 0, .int .u8 0, .int .u8 0, .int .u8 0, .int .u8 0, .int .u8 0, .int .u8 0, .int .u8 0, .int .u8 0, .int .u8 0, .int .u8 0, .int .u8 0, .int .u8 0, .int .u8 0, .int .u8 0, .int .u8 0, .int .u8 0, .int .u8 0, .int .u8 0] 5)
      have E := blk_alloc b2 (.cells #[.int .u8 0, .int .u8 0, .int .u8 0, .int .u8 0, .int .u8 0, .int .u8 0, .int .u8 0, .int .u8 0, .int .u8 0, .int .u8 0, .int .u8 0, .int .u8 0, .int .u8 0, .int .u8 0, .int .u8 0, .int .u8 0, .int .u8 0, .int .u8 0, .int .u8 0, .int .u8 0] 5)
      have Bb := blk_new W (.cells #[.int .u8 0, .int .u8 0, .int .u8 0, .int .u8 0, .int .u8 0, .int .u8 0, .int .u8 0, .int .u8 0, .int .u8 0, .int .u8 0, .int .u8 0, .int .u8 0, .int .u8 0, .int .u8 0, .int .u8 0, .int .u8 0, .int .u8 0, .int .u8 0, .int .u8 0, .int .u8 0] 5)
      have Z := b3.alloc b3.size (.cells #[.int .u8 0, .int .u8 0, .int .u8 0, .int .u8 0, .int .u8 0, .int .u8 0, .int .u8 0, .int .u8 0, .int .u8 0, .int .u8 0, .int .u8 0, .int .u8 0, .int .u8 0, .int .u8 0, .int .u8 0, .int .u8 0, .int .u8 0, .int .u8 0, .int .u8 0, .int .u8 0] 5)
      have hnb : Hid (w.heap.size + 2 = W.heap.size) := hsz
      generalize hW1 : W.alloc (.cells #[.int .u8 0, .int .u8 0, .int .u8 0, .int .u8 0, .int .u8 0, .int .u8 0, .int .u8 0, .int .u8 0, .int .u8 0, .int .u8 0, .int .u8 0, .int .u8 0, .int .u8 0, .int .u8 0, .int .u8 0, .int .u8 0, .int .u8 0, .int .u8 0, .int .u8 0, .int .u8 0] 5) = W1 at A E Bb Z ⊢
      clear hW1 b1 b2 b3 h1 h2 h7 hsz
      generalize W.heap.size = nb at Bb hnb ⊢
      have hA : Hid (w.heap.size ≠ nb) := by have := hnb.out; unfold Hid; omega
      have hE : Hid (w.heap.size + 1 ≠ nb) := by have := hnb.out; unfold Hid; omega
      have hZ : Hid (w.heap.size ≤ nb) := by have := hnb.out; unfold Hid; omega
      clear hnb
      replace A := blk_drew A
      replace E := blk_drew E
      replace Bb := blk_drew Bb
      replace Z := below_drew1 Z
      refine wp_region_noPanic ?_
      try clear hHeld
      refine start_ (n := 21) (S := fun w' => w'.cell? ⟨w.heap.size, 0, none⟩ = some (.int .i64 a0) ∧ w'.cell? ⟨w.heap.size, 1, none⟩ = some (.int .i64 a1) ∧ w'.cell? ⟨w.heap.size, 2, none⟩ = some (.int .i64 a2) ∧ w'.cell? ⟨w.heap.size, 3, none⟩ = some (.int .i64 a3) ∧ w'.cell? ⟨w.heap.size, 4, none⟩ = some (.int .i64 a4) ∧ w'.cell? ⟨w.heap.size, 5, none⟩ = some (.int .u32 a5) ∧ w'.cell? ⟨w.heap.size, 6, none⟩ = some (.int .u32 a6) ∧ w'.cell? ⟨w.heap.size, 7, none⟩ = some (.string a7)) (ds := []) #[false, false, false, false, false, false, false, false, false, false, false, false, false, false, false, false, false, false, false, false, false] (by kernel_rfl) rfl rfl (by exact ⟨(blk_cell A 0).trans rfl, (blk_cell A 1).trans rfl, (blk_cell A 2).trans rfl, (blk_cell A 3).trans rfl, (blk_cell A 4).trans rfl, (blk_cell A 5).trans rfl, (blk_cell A 6).trans rfl, (blk_cell A 7).trans rfl⟩) (fun hHeld => ?_)
      generalize World.drew W1 = W2 at A E Bb Z hHeld ⊢
      refine pure_ (i := 0) (N := some 50) (v := ?_) (a' := ?_) #[true, false, false, false, false, false, false, false, false, false, false, false, false, false, false, false, false, false, false, false, false] rfl rfl (by kernel_rfl) (fun _ _ _ h => h) (Or.inl ⟨by rfl, ?_⟩) ?_ ?_
      rotate_left
      · intro w'; go_simp; try with_reducible rfl
      rotate_left
      · simp only [Act.put, List.setIfInBounds_toArray, List.set_cons_zero, List.set_cons_succ, i64_w, i32_w]; rfl
      refine pure_ (i := 1) (N := some 51) (v := ?_) (a' := ?_) #[true, true, false, false, false, false, false, false, false, false, false, false, false, false, false, false, false, false, false, false, false] rfl rfl (by kernel_rfl) (fun _ _ _ h => h) (Or.inl ⟨by rfl, ?_⟩) ?_ ?_
      rotate_left
      · intro w'; go_simp; try with_reducible rfl
      rotate_left
      · simp only [Act.put, List.setIfInBounds_toArray, List.set_cons_zero, List.set_cons_succ, i64_w, i32_w]; rfl
      refine pure_ (i := 2) (N := some 52) (v := ?_) (a' := ?_) #[true, true, true, false, false, false, false, false, false, false, false, false, false, false, false, false, false, false, false, false, false] rfl rfl (by kernel_rfl) (fun _ _ _ h => h) (Or.inl ⟨by rfl, ?_⟩) ?_ ?_
      rotate_left
      · intro w'; go_simp; try with_reducible rfl
      rotate_left
      · simp only [Act.put, List.setIfInBounds_toArray, List.set_cons_zero, List.set_cons_succ, i64_w, i32_w]; rfl
      refine pure_ (i := 3) (N := some 53) (v := ?_) (a' := ?_) #[true, true, true, true, false, false, false, false, false, false, false, false, false, false, false, false, false, false, false, false, false] rfl rfl (by kernel_rfl) (fun _ _ _ h => h) (Or.inl ⟨by rfl, ?_⟩) ?_ ?_
      rotate_left
      · intro w'; go_simp; try with_reducible rfl
      rotate_left
      · simp only [Act.put, List.setIfInBounds_toArray, List.set_cons_zero, List.set_cons_succ, i64_w, i32_w]; rfl
      refine pure_ (i := 4) (N := some 54) (v := ?_) (a' := ?_) #[true, true, true, true, true, false, false, false, false, false, false, false, false, false, false, false, false, false, false, false, false] rfl rfl (by kernel_rfl) (fun _ _ _ h => h) (Or.inl ⟨by rfl, ?_⟩) ?_ ?_
      rotate_left
      · intro w'; go_simp; try with_reducible rfl
      rotate_left
      · simp only [Act.put, List.setIfInBounds_toArray, List.set_cons_zero, List.set_cons_succ, i64_w, i32_w]; rfl
      refine take_ (i := 5) (N := some 55) (v := ?_) (a' := ?_) #[true, true, true, true, true, true, false, false, false, false, false, false, false, false, false, false, false, false, false, false, false] rfl rfl (by kernel_rfl) (fun _ _ _ h => h) (Or.inl ⟨by rfl, ?_⟩) hHeld ?_ ?_
      rotate_left
      · intro w' hS_; (try dsimp only at hS_); go_split_ands; go_simp; try with_reducible rfl
      rotate_left
      · simp only [Act.put, List.setIfInBounds_toArray, List.set_cons_zero, List.set_cons_succ, i64_w, i32_w]; rfl
      refine pure_ (i := 6) (N := some 56) (v := ?_) (a' := ?_) #[true, true, true, true, true, true, true, false, false, false, false, false, false, false, false, false, false, false, false, false, false] rfl rfl (by kernel_rfl) (fun _ _ _ h => h) (Or.inl ⟨by rfl, ?_⟩) ?_ ?_
      rotate_left
      · intro w'; go_simp; try with_reducible rfl
      rotate_left
      · simp only [Act.put, List.setIfInBounds_toArray, List.set_cons_zero, List.set_cons_succ, i64_w, i32_w]; rfl
      refine pure_ (i := 7) (N := some 57) (v := ?_) (a' := ?_) #[true, true, true, true, true, true, true, true, false, false, false, false, false, false, false, false, false, false, false, false, false] rfl rfl (by kernel_rfl) (fun _ _ _ h => h) (Or.inl ⟨by rfl, ?_⟩) ?_ ?_
      rotate_left
      · intro w'; go_simp; try with_reducible rfl
      rotate_left
      · simp only [Act.put, List.setIfInBounds_toArray, List.set_cons_zero, List.set_cons_succ, i64_w, i32_w]; rfl
      refine take_ (i := 8) (N := some 58) (v := ?_) (a' := ?_) #[true, true, true, true, true, true, true, true, true, false, false, false, false, false, false, false, false, false, false, false, false] rfl rfl (by kernel_rfl) (fun _ _ _ h => h) (Or.inl ⟨by rfl, ?_⟩) hHeld ?_ ?_
      rotate_left
      · intro w' hS_; (try dsimp only at hS_); go_split_ands; go_simp; try with_reducible rfl
      rotate_left
      · simp only [Act.put, List.setIfInBounds_toArray, List.set_cons_zero, List.set_cons_succ, i64_w, i32_w]; rfl
      refine pure_ (i := 9) (N := some 59) (v := ?_) (a' := ?_) #[true, true, true, true, true, true, true, true, true, true, false, false, false, false, false, false, false, false, false, false, false] rfl rfl (by kernel_rfl) (fun _ _ _ h => h) (Or.inl ⟨by rfl, ?_⟩) ?_ ?_
      rotate_left
      · intro w'; go_simp; try with_reducible rfl
      rotate_left
      · simp only [Act.put, List.setIfInBounds_toArray, List.set_cons_zero, List.set_cons_succ, i64_w, i32_w]; rfl
      refine pure_ (i := 10) (N := some 60) (v := ?_) (a' := ?_) #[true, true, true, true, true, true, true, true, true, true, true, false, false, false, false, false, false, false, false, false, false] rfl rfl (by kernel_rfl) (fun _ _ _ h => h) (Or.inl ⟨by rfl, ?_⟩) ?_ ?_
      rotate_left
      · intro w'; go_simp; try with_reducible rfl
      rotate_left
      · simp only [Act.put, List.setIfInBounds_toArray, List.set_cons_zero, List.set_cons_succ, i64_w, i32_w]; rfl
      refine take_ (i := 11) (N := some 61) (v := ?_) (a' := ?_) #[true, true, true, true, true, true, true, true, true, true, true, true, false, false, false, false, false, false, false, false, false] rfl rfl (by kernel_rfl) (fun _ _ _ h => h) (Or.inl ⟨by rfl, ?_⟩) hHeld ?_ ?_
      rotate_left
      · intro w' hS_; (try dsimp only at hS_); go_split_ands; go_simp; try with_reducible rfl
      rotate_left
      · simp only [Act.put, List.setIfInBounds_toArray, List.set_cons_zero, List.set_cons_succ, i64_w, i32_w]; rfl
      refine pure_ (i := 12) (N := some 62) (v := ?_) (a' := ?_) #[true, true, true, true, true, true, true, true, true, true, true, true, true, false, false, false, false, false, false, false, false] rfl rfl (by kernel_rfl) (fun _ _ _ h => h) (Or.inl ⟨by rfl, ?_⟩) ?_ ?_
      rotate_left
      · intro w'; go_simp; try with_reducible rfl
      rotate_left
      · simp only [Act.put, List.setIfInBounds_toArray, List.set_cons_zero, List.set_cons_succ, i64_w, i32_w]; rfl
      refine pure_ (i := 13) (N := some 63) (v := ?_) (a' := ?_) #[true, true, true, true, true, true, true, true, true, true, true, true, true, true, false, false, false, false, false, false, false] rfl rfl (by kernel_rfl) (fun _ _ _ h => h) (Or.inl ⟨by rfl, ?_⟩) ?_ ?_
      rotate_left
      · intro w'; go_simp; try with_reducible rfl
      rotate_left
      · simp only [Act.put, List.setIfInBounds_toArray, List.set_cons_zero, List.set_cons_succ, i64_w, i32_w]; rfl
      refine one_ (i := 14) (N := none) #[true, true, true, true, true, true, true, true, true, true, true, true, true, true, true, false, false, false, false, false, false] rfl rfl (by kernel_rfl) (by decide) (fun K hK => ?_)
      have cc : World.cell? _ ⟨nb, 0, none⟩ = some (.int .u8 0) := (blk_cell Bb 0).trans rfl
      have ff := blk_frozen Bb 0
      refine skip_ (w1 := World.setCell W2 ⟨nb, 0, none⟩ (.int .u8 (69))) (by rfl) rfl ?_ ?_
      · go_simp; try simp only [IntKind.wrap_u8]
      clear cc ff
      replace A := keep_blk (j := 0) (v := .int .u8 (69)) A hA.out
      replace E := keep_blk (j := 0) (v := .int .u8 (69)) E hE.out
      replace Bb := blk_put (cs' := #[.int .u8 69, .int .u8 0, .int .u8 0, .int .u8 0, .int .u8 0, .int .u8 0, .int .u8 0, .int .u8 0, .int .u8 0, .int .u8 0, .int .u8 0, .int .u8 0, .int .u8 0, .int .u8 0, .int .u8 0, .int .u8 0, .int .u8 0, .int .u8 0, .int .u8 0, .int .u8 0]) Bb 0 (.int .u8 (69)) rfl
      replace Z := Z.setCell (p := ⟨nb, 0, none⟩) hZ.out (.int .u8 (69))
      generalize World.setCell W2 ⟨nb, 0, none⟩ (.int .u8 (69)) = W3 at A E Bb Z ⊢
      try clear hHeld
      refine hK.out _ _ (by exact ⟨(blk_cell A 0).trans rfl, (blk_cell A 1).trans rfl, (blk_cell A 2).trans rfl, (blk_cell A 3).trans rfl, (blk_cell A 4).trans rfl, (blk_cell A 5).trans rfl, (blk_cell A 6).trans rfl, (blk_cell A 7).trans rfl⟩) (fun hHeld => ?_)
      clear hK K
      refine pure_ (i := 15) (N := some 64) (v := ?_) (a' := ?_) #[true, true, true, true, true, true, true, true, true, true, true, true, true, true, true, true, false, false, false, false, false] rfl rfl (by kernel_rfl) (fun _ _ _ h => h) (Or.inl ⟨by rfl, ?_⟩) ?_ ?_
      rotate_left
      · intro w'; go_simp; try with_reducible rfl
      rotate_left
      · simp only [Act.put, List.setIfInBounds_toArray, List.set_cons_zero, List.set_cons_succ, i64_w, i32_w]; rfl
      refine one_ (i := 16) (N := none) #[true, true, true, true, true, true, true, true, true, true, true, true, true, true, true, true, true, false, false, false, false] rfl rfl (by kernel_rfl) (by decide) (fun K hK => ?_)
      have cc : World.cell? _ ⟨nb, 1, none⟩ = some (.int .u8 0) := (blk_cell Bb 1).trans rfl
      have ff := blk_frozen Bb 1
      refine skip_ (w1 := World.setCell W3 ⟨nb, 1, none⟩ (.int .u8 (a0 % 256))) (by rfl) rfl ?_ ?_
      · go_simp; try simp only [IntKind.wrap_u8]
      clear cc ff
      replace A := keep_blk (j := 1) (v := .int .u8 (a0 % 256)) A hA.out
      replace E := keep_blk (j := 1) (v := .int .u8 (a0 % 256)) E hE.out
      replace Bb := blk_put (cs' := #[.int .u8 69, .int .u8 (a0 % 256), .int .u8 0, .int .u8 0, .int .u8 0, .int .u8 0, .int .u8 0, .int .u8 0, .int .u8 0, .int .u8 0, .int .u8 0, .int .u8 0, .int .u8 0, .int .u8 0, .int .u8 0, .int .u8 0, .int .u8 0, .int .u8 0, .int .u8 0, .int .u8 0]) Bb 1 (.int .u8 (a0 % 256)) rfl
      replace Z := Z.setCell (p := ⟨nb, 1, none⟩) hZ.out (.int .u8 (a0 % 256))
      generalize World.setCell W3 ⟨nb, 1, none⟩ (.int .u8 (a0 % 256)) = W4 at A E Bb Z ⊢
      try clear hHeld
      refine hK.out _ _ (by exact ⟨(blk_cell A 0).trans rfl, (blk_cell A 1).trans rfl, (blk_cell A 2).trans rfl, (blk_cell A 3).trans rfl, (blk_cell A 4).trans rfl, (blk_cell A 5).trans rfl, (blk_cell A 6).trans rfl, (blk_cell A 7).trans rfl⟩) (fun hHeld => ?_)
      clear hK K
      refine pure_ (i := 17) (N := some 65) (v := ?_) (a' := ?_) #[true, true, true, true, true, true, true, true, true, true, true, true, true, true, true, true, true, true, false, false, false] rfl rfl (by kernel_rfl) (fun _ _ _ h => h) (Or.inl ⟨by rfl, ?_⟩) ?_ ?_
      rotate_left
      · intro w'; go_simp; try with_reducible rfl
      rotate_left
      · simp only [Act.put, List.setIfInBounds_toArray, List.set_cons_zero, List.set_cons_succ, i64_w, i32_w]; rfl
      refine one_ (i := 18) (N := none) #[true, true, true, true, true, true, true, true, true, true, true, true, true, true, true, true, true, true, true, false, false] rfl rfl (by kernel_rfl) (by decide) (fun K hK => ?_)
      have cc : World.cell? _ ⟨nb, 8, none⟩ = some (.int .u8 0) := (blk_cell Bb 8).trans rfl
      have ff := blk_frozen Bb 8
      refine skip_ (w1 := World.setCell W4 ⟨nb, 8, none⟩ (.int .u8 (a3 % 256))) (by rfl) rfl ?_ ?_
      · go_simp; try simp only [IntKind.wrap_u8]
      clear cc ff
      replace A := keep_blk (j := 8) (v := .int .u8 (a3 % 256)) A hA.out
      replace E := keep_blk (j := 8) (v := .int .u8 (a3 % 256)) E hE.out
      replace Bb := blk_put (cs' := #[.int .u8 69, .int .u8 (a0 % 256), .int .u8 0, .int .u8 0, .int .u8 0, .int .u8 0, .int .u8 0, .int .u8 0, .int .u8 (a3 % 256), .int .u8 0, .int .u8 0, .int .u8 0, .int .u8 0, .int .u8 0, .int .u8 0, .int .u8 0, .int .u8 0, .int .u8 0, .int .u8 0, .int .u8 0]) Bb 8 (.int .u8 (a3 % 256)) rfl
      replace Z := Z.setCell (p := ⟨nb, 8, none⟩) hZ.out (.int .u8 (a3 % 256))
      generalize World.setCell W4 ⟨nb, 8, none⟩ (.int .u8 (a3 % 256)) = W5 at A E Bb Z ⊢
      try clear hHeld
      refine hK.out _ _ (by exact ⟨(blk_cell A 0).trans rfl, (blk_cell A 1).trans rfl, (blk_cell A 2).trans rfl, (blk_cell A 3).trans rfl, (blk_cell A 4).trans rfl, (blk_cell A 5).trans rfl, (blk_cell A 6).trans rfl, (blk_cell A 7).trans rfl⟩) (fun hHeld => ?_)
      clear hK K
      refine pure_ (i := 19) (N := some 66) (v := ?_) (a' := ?_) #[true, true, true, true, true, true, true, true, true, true, true, true, true, true, true, true, true, true, true, true, false] rfl rfl (by kernel_rfl) (fun _ _ _ h => h) (Or.inl ⟨by rfl, ?_⟩) ?_ ?_
      rotate_left
      · intro w'; go_simp; try with_reducible rfl
      rotate_left
      · simp only [Act.put, List.setIfInBounds_toArray, List.set_cons_zero, List.set_cons_succ, i64_w, i32_w]; rfl
      refine one_ (i := 20) (N := none) #[true, true, true, true, true, true, true, true, true, true, true, true, true, true, true, true, true, true, true, true, true] rfl rfl (by kernel_rfl) (by decide) (fun K hK => ?_)
      have cc : World.cell? _ ⟨nb, 9, none⟩ = some (.int .u8 0) := (blk_cell Bb 9).trans rfl
      have ff := blk_frozen Bb 9
      refine skip_ (w1 := World.setCell W5 ⟨nb, 9, none⟩ (.int .u8 (a4 % 256))) (by rfl) rfl ?_ ?_
      · go_simp; try simp only [IntKind.wrap_u8]
      clear cc ff
      replace A := keep_blk (j := 9) (v := .int .u8 (a4 % 256)) A hA.out
      replace E := keep_blk (j := 9) (v := .int .u8 (a4 % 256)) E hE.out
      replace Bb := blk_put (cs' := #[.int .u8 69, .int .u8 (a0 % 256), .int .u8 0, .int .u8 0, .int .u8 0, .int .u8 0, .int .u8 0, .int .u8 0, .int .u8 (a3 % 256), .int .u8 (a4 % 256), .int .u8 0, .int .u8 0, .int .u8 0, .int .u8 0, .int .u8 0, .int .u8 0, .int .u8 0, .int .u8 0, .int .u8 0, .int .u8 0]) Bb 9 (.int .u8 (a4 % 256)) rfl
      replace Z := Z.setCell (p := ⟨nb, 9, none⟩) hZ.out (.int .u8 (a4 % 256))
      generalize World.setCell W5 ⟨nb, 9, none⟩ (.int .u8 (a4 % 256)) = W6 at A E Bb Z ⊢
      try clear hHeld
      refine hK.out _ _ (by exact ⟨(blk_cell A 0).trans rfl, (blk_cell A 1).trans rfl, (blk_cell A 2).trans rfl, (blk_cell A 3).trans rfl, (blk_cell A 4).trans rfl, (blk_cell A 5).trans rfl, (blk_cell A 6).trans rfl, (blk_cell A 7).trans rfl⟩) (fun hHeld => ?_)
      clear hK K
      refine done_ (by kernel_rfl) ?_
      refine NoPanic.normal ?_
      go_wp2
      replace A := blk_drew A
      replace E := blk_drew E
      replace Bb := blk_drew Bb
      replace Z := below_drew1 Z
      refine wp_region_noPanic ?_
      try clear hHeld
      refine start_ (n := 8) (S := fun w' => w'.cell? ⟨w.heap.size, 0, none⟩ = some (.int .i64 a0) ∧ w'.cell? ⟨w.heap.size, 1, none⟩ = some (.int .i64 a1) ∧ w'.cell? ⟨w.heap.size, 2, none⟩ = some (.int .i64 a2) ∧ w'.cell? ⟨w.heap.size, 3, none⟩ = some (.int .i64 a3) ∧ w'.cell? ⟨w.heap.size, 4, none⟩ = some (.int .i64 a4) ∧ w'.cell? ⟨w.heap.size, 5, none⟩ = some (.int .u32 a5) ∧ w'.cell? ⟨w.heap.size, 6, none⟩ = some (.int .u32 a6) ∧ w'.cell? ⟨w.heap.size, 7, none⟩ = some (.string a7)) (ds := []) #[false, false, false, false, false, false, false, false] (by kernel_rfl) rfl rfl (by exact ⟨(blk_cell A 0).trans rfl, (blk_cell A 1).trans rfl, (blk_cell A 2).trans rfl, (blk_cell A 3).trans rfl, (blk_cell A 4).trans rfl, (blk_cell A 5).trans rfl, (blk_cell A 6).trans rfl, (blk_cell A 7).trans rfl⟩) (fun hHeld => ?_)
      generalize World.drew W6 = W7 at A E Bb Z hHeld ⊢
      refine pure_ (i := 0) (N := some 67) (v := ?_) (a' := ?_) #[true, false, false, false, false, false, false, false] rfl rfl (by kernel_rfl) (fun _ _ _ h => h) (Or.inl ⟨by rfl, ?_⟩) ?_ ?_
      rotate_left
      · intro w'; go_simp; try with_reducible rfl
      rotate_left
      · simp only [Act.put, List.setIfInBounds_toArray, List.set_cons_zero, List.set_cons_succ, i64_w, i32_w]; rfl
      refine pure_ (i := 1) (N := some 68) (v := ?_) (a' := ?_) #[true, true, false, false, false, false, false, false] rfl rfl (by kernel_rfl) (fun _ _ _ h => h) (Or.inl ⟨by rfl, ?_⟩) ?_ ?_
      rotate_left
      · intro w'; go_simp; try with_reducible rfl
      rotate_left
      · simp only [Act.put, List.setIfInBounds_toArray, List.set_cons_zero, List.set_cons_succ, i64_w, i32_w]; rfl
      refine pure_ (i := 2) (N := some 69) (v := ?_) (a' := ?_) #[true, true, true, false, false, false, false, false] rfl rfl (by kernel_rfl) (fun _ _ _ h => h) (Or.inl ⟨by rfl, ?_⟩) ?_ ?_
      rotate_left
      · intro w'; go_simp; try with_reducible rfl
      rotate_left
      · simp only [Act.put, List.setIfInBounds_toArray, List.set_cons_zero, List.set_cons_succ, i64_w, i32_w]; rfl
      refine take_ (i := 3) (N := some 70) (v := ?_) (a' := ?_) #[true, true, true, true, false, false, false, false] rfl rfl (by kernel_rfl) (fun _ _ _ h => h) (Or.inl ⟨by rfl, ?_⟩) hHeld ?_ ?_
      rotate_left
      · intro w' hS_; (try dsimp only at hS_); go_split_ands; go_simp; try with_reducible rfl
      rotate_left
      · simp only [Act.put, List.setIfInBounds_toArray, List.set_cons_zero, List.set_cons_succ, i64_w, i32_w]; rfl
      refine pure_ (i := 4) (N := some 71) (v := ?_) (a' := ?_) #[true, true, true, true, true, false, false, false] rfl rfl (by kernel_rfl) (fun _ _ _ h => h) (Or.inl ⟨by rfl, ?_⟩) ?_ ?_
      rotate_left
      · intro w'; go_simp; try with_reducible rfl
      rotate_left
      · simp only [Act.put, List.setIfInBounds_toArray, List.set_cons_zero, List.set_cons_succ, i64_w, i32_w]; rfl
      refine pure_ (i := 5) (N := some 72) (v := ?_) (a' := ?_) #[true, true, true, true, true, true, false, false] rfl rfl (by kernel_rfl) (fun _ _ _ h => h) (Or.inl ⟨by rfl, ?_⟩) ?_ ?_
      rotate_left
      · intro w'; go_simp; try with_reducible rfl
      rotate_left
      · simp only [Act.put, List.setIfInBounds_toArray, List.set_cons_zero, List.set_cons_succ, i64_w, i32_w]; rfl
      refine pure_ (i := 6) (N := some 73) (v := ?_) (a' := ?_) #[true, true, true, true, true, true, true, false] rfl rfl (by kernel_rfl) (fun _ _ _ h => h) (Or.inl ⟨by rfl, ?_⟩) ?_ ?_
      rotate_left
      · intro w'; go_simp; try with_reducible rfl
      rotate_left
      · simp only [Act.put, List.setIfInBounds_toArray, List.set_cons_zero, List.set_cons_succ, i64_w, i32_w]; rfl
      refine one_ (i := 7) (N := some 74) #[true, true, true, true, true, true, true, true] rfl rfl (by kernel_rfl) (by decide) (fun K hK => ?_)
      refine goes_ Try.func86 (by kernel_rfl) rfl #[.slice (some ⟨nb, 2, none⟩) 2 18, .int .u32 (20 + (a7.size : Int))] (by rfl) rfl rfl (by (try simp only [List.map_toArray, List.map_cons, List.map_nil]); first | done | rfl) ?_
      refine (put2 nb 2 18 (20 + (a7.size : Int)) hv2.out.1 hv2.out.2 0 0 _ _ Bb rfl rfl).mono ?_
      rintro e w' ⟨rfl, rfl⟩
      refine ⟨_, rfl, ?_⟩
      replace A := keep_blk (j := 2) (v := .int .u8 ((20 + (a7.size : Int)) / 256 % 256)) A hA.out
      replace E := keep_blk (j := 2) (v := .int .u8 ((20 + (a7.size : Int)) / 256 % 256)) E hE.out
      replace Bb := blk_put (cs' := #[.int .u8 69, .int .u8 (a0 % 256), .int .u8 ((20 + (a7.size : Int)) / 256 % 256), .int .u8 0, .int .u8 0, .int .u8 0, .int .u8 0, .int .u8 0, .int .u8 (a3 % 256), .int .u8 (a4 % 256), .int .u8 0, .int .u8 0, .int .u8 0, .int .u8 0, .int .u8 0, .int .u8 0, .int .u8 0, .int .u8 0, .int .u8 0, .int .u8 0]) Bb 2 (.int .u8 ((20 + (a7.size : Int)) / 256 % 256)) rfl
      replace Z := Z.setCell (p := ⟨nb, 2, none⟩) hZ.out (.int .u8 ((20 + (a7.size : Int)) / 256 % 256))
      generalize World.setCell W7 ⟨nb, 2, none⟩ (.int .u8 ((20 + (a7.size : Int)) / 256 % 256)) = W8 at A E Bb Z ⊢
      replace A := keep_blk (j := 3) (v := .int .u8 ((20 + (a7.size : Int)) % 256)) A hA.out
      replace E := keep_blk (j := 3) (v := .int .u8 ((20 + (a7.size : Int)) % 256)) E hE.out
      replace Bb := blk_put (cs' := #[.int .u8 69, .int .u8 (a0 % 256), .int .u8 ((20 + (a7.size : Int)) / 256 % 256), .int .u8 ((20 + (a7.size : Int)) % 256), .int .u8 0, .int .u8 0, .int .u8 0, .int .u8 0, .int .u8 (a3 % 256), .int .u8 (a4 % 256), .int .u8 0, .int .u8 0, .int .u8 0, .int .u8 0, .int .u8 0, .int .u8 0, .int .u8 0, .int .u8 0, .int .u8 0, .int .u8 0]) Bb 3 (.int .u8 ((20 + (a7.size : Int)) % 256)) rfl
      replace Z := Z.setCell (p := ⟨nb, 3, none⟩) hZ.out (.int .u8 ((20 + (a7.size : Int)) % 256))
      generalize World.setCell W8 ⟨nb, 3, none⟩ (.int .u8 ((20 + (a7.size : Int)) % 256)) = W9 at A E Bb Z ⊢
      try clear hHeld
      refine hK.out _ _ (by exact ⟨(blk_cell A 0).trans rfl, (blk_cell A 1).trans rfl, (blk_cell A 2).trans rfl, (blk_cell A 3).trans rfl, (blk_cell A 4).trans rfl, (blk_cell A 5).trans rfl, (blk_cell A 6).trans rfl, (blk_cell A 7).trans rfl⟩) (fun hHeld => ?_)
      clear hK K
      refine norm_ (a' := ?_) ?_ ?_
      rotate_left
      · show Act.put _ (some 74) _ = _; simp only [Act.put, List.setIfInBounds_toArray, List.set_cons_zero, List.set_cons_succ, i64_w, i32_w]; rfl
      refine done_ (by kernel_rfl) ?_
      refine NoPanic.normal ?_
      go_wp2
      replace A := blk_drew A
      replace E := blk_drew E
      replace Bb := blk_drew Bb
      replace Z := below_drew1 Z
      refine wp_region_noPanic ?_
      try clear hHeld
      refine start_ (n := 6) (S := fun w' => w'.cell? ⟨w.heap.size, 0, none⟩ = some (.int .i64 a0) ∧ w'.cell? ⟨w.heap.size, 1, none⟩ = some (.int .i64 a1) ∧ w'.cell? ⟨w.heap.size, 2, none⟩ = some (.int .i64 a2) ∧ w'.cell? ⟨w.heap.size, 3, none⟩ = some (.int .i64 a3) ∧ w'.cell? ⟨w.heap.size, 4, none⟩ = some (.int .i64 a4) ∧ w'.cell? ⟨w.heap.size, 5, none⟩ = some (.int .u32 a5) ∧ w'.cell? ⟨w.heap.size, 6, none⟩ = some (.int .u32 a6) ∧ w'.cell? ⟨w.heap.size, 7, none⟩ = some (.string a7)) (ds := []) #[false, false, false, false, false, false] (by kernel_rfl) rfl rfl (by exact ⟨(blk_cell A 0).trans rfl, (blk_cell A 1).trans rfl, (blk_cell A 2).trans rfl, (blk_cell A 3).trans rfl, (blk_cell A 4).trans rfl, (blk_cell A 5).trans rfl, (blk_cell A 6).trans rfl, (blk_cell A 7).trans rfl⟩) (fun hHeld => ?_)
      generalize World.drew W9 = W10 at A E Bb Z hHeld ⊢
      refine pure_ (i := 0) (N := some 75) (v := ?_) (a' := ?_) #[true, false, false, false, false, false] rfl rfl (by kernel_rfl) (fun _ _ _ h => h) (Or.inl ⟨by rfl, ?_⟩) ?_ ?_
      rotate_left
      · intro w'; go_simp; try with_reducible rfl
      rotate_left
      · simp only [Act.put, List.setIfInBounds_toArray, List.set_cons_zero, List.set_cons_succ, i64_w, i32_w]; rfl
      refine pure_ (i := 1) (N := some 76) (v := ?_) (a' := ?_) #[true, true, false, false, false, false] rfl rfl (by kernel_rfl) (fun _ _ _ h => h) (Or.inl ⟨by rfl, ?_⟩) ?_ ?_
      rotate_left
      · intro w'; go_simp; try with_reducible rfl
      rotate_left
      · simp only [Act.put, List.setIfInBounds_toArray, List.set_cons_zero, List.set_cons_succ, i64_w, i32_w]; rfl
      refine pure_ (i := 2) (N := some 77) (v := ?_) (a' := ?_) #[true, true, true, false, false, false] rfl rfl (by kernel_rfl) (fun _ _ _ h => h) (Or.inl ⟨by rfl, ?_⟩) ?_ ?_
      rotate_left
      · intro w'; go_simp; try with_reducible rfl
      rotate_left
      · simp only [Act.put, List.setIfInBounds_toArray, List.set_cons_zero, List.set_cons_succ, i64_w, i32_w]; rfl
      refine take_ (i := 3) (N := some 78) (v := ?_) (a' := ?_) #[true, true, true, true, false, false] rfl rfl (by kernel_rfl) (fun _ _ _ h => h) (Or.inl ⟨by rfl, ?_⟩) hHeld ?_ ?_
      rotate_left
      · intro w' hS_; (try dsimp only at hS_); go_split_ands; go_simp; try with_reducible rfl
      rotate_left
      · simp only [Act.put, List.setIfInBounds_toArray, List.set_cons_zero, List.set_cons_succ, i64_w, i32_w]; rfl
      refine pure_ (i := 4) (N := some 79) (v := ?_) (a' := ?_) #[true, true, true, true, true, false] rfl rfl (by kernel_rfl) (fun _ _ _ h => h) (Or.inl ⟨by rfl, ?_⟩) ?_ ?_
      rotate_left
      · intro w'; go_simp; try with_reducible rfl
      rotate_left
      · simp only [Act.put, List.setIfInBounds_toArray, List.set_cons_zero, List.set_cons_succ, i64_w, i32_w]; rfl
      refine one_ (i := 5) (N := some 80) #[true, true, true, true, true, true] rfl rfl (by kernel_rfl) (by decide) (fun K hK => ?_)
      refine goes_ Try.func86 (by kernel_rfl) rfl #[.slice (some ⟨nb, 4, none⟩) 2 16, .int .u32 (a1)] (by rfl) rfl rfl (by (try simp only [List.map_toArray, List.map_cons, List.map_nil]); first | done | rfl) ?_
      refine (put2 nb 4 16 (a1) hv4.out.1 hv4.out.2 0 0 _ _ Bb rfl rfl).mono ?_
      rintro e w' ⟨rfl, rfl⟩
      refine ⟨_, rfl, ?_⟩
      replace A := keep_blk (j := 4) (v := .int .u8 (a1 / 256 % 256)) A hA.out
      replace E := keep_blk (j := 4) (v := .int .u8 (a1 / 256 % 256)) E hE.out
      replace Bb := blk_put (cs' := #[.int .u8 69, .int .u8 (a0 % 256), .int .u8 ((20 + (a7.size : Int)) / 256 % 256), .int .u8 ((20 + (a7.size : Int)) % 256), .int .u8 (a1 / 256 % 256), .int .u8 0, .int .u8 0, .int .u8 0, .int .u8 (a3 % 256), .int .u8 (a4 % 256), .int .u8 0, .int .u8 0, .int .u8 0, .int .u8 0, .int .u8 0, .int .u8 0, .int .u8 0, .int .u8 0, .int .u8 0, .int .u8 0]) Bb 4 (.int .u8 (a1 / 256 % 256)) rfl
      replace Z := Z.setCell (p := ⟨nb, 4, none⟩) hZ.out (.int .u8 (a1 / 256 % 256))
      generalize World.setCell W10 ⟨nb, 4, none⟩ (.int .u8 (a1 / 256 % 256)) = W11 at A E Bb Z ⊢
      replace A := keep_blk (j := 5) (v := .int .u8 (a1 % 256)) A hA.out
      replace E := keep_blk (j := 5) (v := .int .u8 (a1 % 256)) E hE.out
      replace Bb := blk_put (cs' := #[.int .u8 69, .int .u8 (a0 % 256), .int .u8 ((20 + (a7.size : Int)) / 256 % 256), .int .u8 ((20 + (a7.size : Int)) % 256), .int .u8 (a1 / 256 % 256), .int .u8 (a1 % 256), .int .u8 0, .int .u8 0, .int .u8 (a3 % 256), .int .u8 (a4 % 256), .int .u8 0, .int .u8 0, .int .u8 0, .int .u8 0, .int .u8 0, .int .u8 0, .int .u8 0, .int .u8 0, .int .u8 0, .int .u8 0]) Bb 5 (.int .u8 (a1 % 256)) rfl
      replace Z := Z.setCell (p := ⟨nb, 5, none⟩) hZ.out (.int .u8 (a1 % 256))
      generalize World.setCell W11 ⟨nb, 5, none⟩ (.int .u8 (a1 % 256)) = W12 at A E Bb Z ⊢
      try clear hHeld
      refine hK.out _ _ (by exact ⟨(blk_cell A 0).trans rfl, (blk_cell A 1).trans rfl, (blk_cell A 2).trans rfl, (blk_cell A 3).trans rfl, (blk_cell A 4).trans rfl, (blk_cell A 5).trans rfl, (blk_cell A 6).trans rfl, (blk_cell A 7).trans rfl⟩) (fun hHeld => ?_)
      clear hK K
      refine norm_ (a' := ?_) ?_ ?_
      rotate_left
      · show Act.put _ (some 80) _ = _; simp only [Act.put, List.setIfInBounds_toArray, List.set_cons_zero, List.set_cons_succ, i64_w, i32_w]; rfl
      refine done_ (by kernel_rfl) ?_
      refine NoPanic.normal ?_
      go_wp2
      replace A := blk_drew A
      replace E := blk_drew E
      replace Bb := blk_drew Bb
      replace Z := below_drew1 Z
      refine wp_region_noPanic ?_
      try clear hHeld
      refine start_ (n := 6) (S := fun w' => w'.cell? ⟨w.heap.size, 0, none⟩ = some (.int .i64 a0) ∧ w'.cell? ⟨w.heap.size, 1, none⟩ = some (.int .i64 a1) ∧ w'.cell? ⟨w.heap.size, 2, none⟩ = some (.int .i64 a2) ∧ w'.cell? ⟨w.heap.size, 3, none⟩ = some (.int .i64 a3) ∧ w'.cell? ⟨w.heap.size, 4, none⟩ = some (.int .i64 a4) ∧ w'.cell? ⟨w.heap.size, 5, none⟩ = some (.int .u32 a5) ∧ w'.cell? ⟨w.heap.size, 6, none⟩ = some (.int .u32 a6) ∧ w'.cell? ⟨w.heap.size, 7, none⟩ = some (.string a7)) (ds := []) #[false, false, false, false, false, false] (by kernel_rfl) rfl rfl (by exact ⟨(blk_cell A 0).trans rfl, (blk_cell A 1).trans rfl, (blk_cell A 2).trans rfl, (blk_cell A 3).trans rfl, (blk_cell A 4).trans rfl, (blk_cell A 5).trans rfl, (blk_cell A 6).trans rfl, (blk_cell A 7).trans rfl⟩) (fun hHeld => ?_)
      generalize World.drew W12 = W13 at A E Bb Z hHeld ⊢
      refine pure_ (i := 0) (N := some 81) (v := ?_) (a' := ?_) #[true, false, false, false, false, false] rfl rfl (by kernel_rfl) (fun _ _ _ h => h) (Or.inl ⟨by rfl, ?_⟩) ?_ ?_
      rotate_left
      · intro w'; go_simp; try with_reducible rfl
      rotate_left
      · simp only [Act.put, List.setIfInBounds_toArray, List.set_cons_zero, List.set_cons_succ, i64_w, i32_w]; rfl
      refine pure_ (i := 1) (N := some 82) (v := ?_) (a' := ?_) #[true, true, false, false, false, false] rfl rfl (by kernel_rfl) (fun _ _ _ h => h) (Or.inl ⟨by rfl, ?_⟩) ?_ ?_
      rotate_left
      · intro w'; go_simp; try with_reducible rfl
      rotate_left
      · simp only [Act.put, List.setIfInBounds_toArray, List.set_cons_zero, List.set_cons_succ, i64_w, i32_w]; rfl
      refine pure_ (i := 2) (N := some 83) (v := ?_) (a' := ?_) #[true, true, true, false, false, false] rfl rfl (by kernel_rfl) (fun _ _ _ h => h) (Or.inl ⟨by rfl, ?_⟩) ?_ ?_
      rotate_left
      · intro w'; go_simp; try with_reducible rfl
      rotate_left
      · simp only [Act.put, List.setIfInBounds_toArray, List.set_cons_zero, List.set_cons_succ, i64_w, i32_w]; rfl
      refine take_ (i := 3) (N := some 84) (v := ?_) (a' := ?_) #[true, true, true, true, false, false] rfl rfl (by kernel_rfl) (fun _ _ _ h => h) (Or.inl ⟨by rfl, ?_⟩) hHeld ?_ ?_
      rotate_left
      · intro w' hS_; (try dsimp only at hS_); go_split_ands; go_simp; try with_reducible rfl
      rotate_left
      · simp only [Act.put, List.setIfInBounds_toArray, List.set_cons_zero, List.set_cons_succ, i64_w, i32_w]; rfl
      refine pure_ (i := 4) (N := some 85) (v := ?_) (a' := ?_) #[true, true, true, true, true, false] rfl rfl (by kernel_rfl) (fun _ _ _ h => h) (Or.inl ⟨by rfl, ?_⟩) ?_ ?_
      rotate_left
      · intro w'; go_simp; try with_reducible rfl
      rotate_left
      · simp only [Act.put, List.setIfInBounds_toArray, List.set_cons_zero, List.set_cons_succ, i64_w, i32_w]; rfl
      refine one_ (i := 5) (N := some 86) #[true, true, true, true, true, true] rfl rfl (by kernel_rfl) (by decide) (fun K hK => ?_)
      refine goes_ Try.func86 (by kernel_rfl) rfl #[.slice (some ⟨nb, 6, none⟩) 2 14, .int .u32 (a2)] (by rfl) rfl rfl (by (try simp only [List.map_toArray, List.map_cons, List.map_nil]); first | done | rfl) ?_
      refine (put2 nb 6 14 (a2) hv6.out.1 hv6.out.2 0 0 _ _ Bb rfl rfl).mono ?_
      rintro e w' ⟨rfl, rfl⟩
      refine ⟨_, rfl, ?_⟩
      replace A := keep_blk (j := 6) (v := .int .u8 (a2 / 256 % 256)) A hA.out
      replace E := keep_blk (j := 6) (v := .int .u8 (a2 / 256 % 256)) E hE.out
      replace Bb := blk_put (cs' := #[.int .u8 69, .int .u8 (a0 % 256), .int .u8 ((20 + (a7.size : Int)) / 256 % 256), .int .u8 ((20 + (a7.size : Int)) % 256), .int .u8 (a1 / 256 % 256), .int .u8 (a1 % 256), .int .u8 (a2 / 256 % 256), .int .u8 0, .int .u8 (a3 % 256), .int .u8 (a4 % 256), .int .u8 0, .int .u8 0, .int .u8 0, .int .u8 0, .int .u8 0, .int .u8 0, .int .u8 0, .int .u8 0, .int .u8 0, .int .u8 0]) Bb 6 (.int .u8 (a2 / 256 % 256)) rfl
      replace Z := Z.setCell (p := ⟨nb, 6, none⟩) hZ.out (.int .u8 (a2 / 256 % 256))
      generalize World.setCell W13 ⟨nb, 6, none⟩ (.int .u8 (a2 / 256 % 256)) = W14 at A E Bb Z ⊢
      replace A := keep_blk (j := 7) (v := .int .u8 (a2 % 256)) A hA.out
      replace E := keep_blk (j := 7) (v := .int .u8 (a2 % 256)) E hE.out
      replace Bb := blk_put (cs' := #[.int .u8 69, .int .u8 (a0 % 256), .int .u8 ((20 + (a7.size : Int)) / 256 % 256), .int .u8 ((20 + (a7.size : Int)) % 256), .int .u8 (a1 / 256 % 256), .int .u8 (a1 % 256), .int .u8 (a2 / 256 % 256), .int .u8 (a2 % 256), .int .u8 (a3 % 256), .int .u8 (a4 % 256), .int .u8 0, .int .u8 0, .int .u8 0, .int .u8 0, .int .u8 0, .int .u8 0, .int .u8 0, .int .u8 0, .int .u8 0, .int .u8 0]) Bb 7 (.int .u8 (a2 % 256)) rfl
      replace Z := Z.setCell (p := ⟨nb, 7, none⟩) hZ.out (.int .u8 (a2 % 256))
      generalize World.setCell W14 ⟨nb, 7, none⟩ (.int .u8 (a2 % 256)) = W15 at A E Bb Z ⊢
      try clear hHeld
      refine hK.out _ _ (by exact ⟨(blk_cell A 0).trans rfl, (blk_cell A 1).trans rfl, (blk_cell A 2).trans rfl, (blk_cell A 3).trans rfl, (blk_cell A 4).trans rfl, (blk_cell A 5).trans rfl, (blk_cell A 6).trans rfl, (blk_cell A 7).trans rfl⟩) (fun hHeld => ?_)
      clear hK K
      refine norm_ (a' := ?_) ?_ ?_
      rotate_left
      · show Act.put _ (some 86) _ = _; simp only [Act.put, List.setIfInBounds_toArray, List.set_cons_zero, List.set_cons_succ, i64_w, i32_w]; rfl
      refine done_ (by kernel_rfl) ?_
      refine NoPanic.normal ?_
      go_wp2
      replace A := blk_drew A
      replace E := blk_drew E
      replace Bb := blk_drew Bb
      replace Z := below_drew1 Z
      refine wp_region_noPanic ?_
      try clear hHeld
      refine start_ (n := 5) (S := fun w' => w'.cell? ⟨w.heap.size, 0, none⟩ = some (.int .i64 a0) ∧ w'.cell? ⟨w.heap.size, 1, none⟩ = some (.int .i64 a1) ∧ w'.cell? ⟨w.heap.size, 2, none⟩ = some (.int .i64 a2) ∧ w'.cell? ⟨w.heap.size, 3, none⟩ = some (.int .i64 a3) ∧ w'.cell? ⟨w.heap.size, 4, none⟩ = some (.int .i64 a4) ∧ w'.cell? ⟨w.heap.size, 5, none⟩ = some (.int .u32 a5) ∧ w'.cell? ⟨w.heap.size, 6, none⟩ = some (.int .u32 a6) ∧ w'.cell? ⟨w.heap.size, 7, none⟩ = some (.string a7)) (ds := []) #[false, false, false, false, false] (by kernel_rfl) rfl rfl (by exact ⟨(blk_cell A 0).trans rfl, (blk_cell A 1).trans rfl, (blk_cell A 2).trans rfl, (blk_cell A 3).trans rfl, (blk_cell A 4).trans rfl, (blk_cell A 5).trans rfl, (blk_cell A 6).trans rfl, (blk_cell A 7).trans rfl⟩) (fun hHeld => ?_)
      generalize World.drew W15 = W16 at A E Bb Z hHeld ⊢
      refine pure_ (i := 0) (N := some 87) (v := ?_) (a' := ?_) #[true, false, false, false, false] rfl rfl (by kernel_rfl) (fun _ _ _ h => h) (Or.inl ⟨by rfl, ?_⟩) ?_ ?_
      rotate_left
      · intro w'; go_simp; try with_reducible rfl
      rotate_left
      · simp only [Act.put, List.setIfInBounds_toArray, List.set_cons_zero, List.set_cons_succ, i64_w, i32_w]; rfl
      refine pure_ (i := 1) (N := some 88) (v := ?_) (a' := ?_) #[true, true, false, false, false] rfl rfl (by kernel_rfl) (fun _ _ _ h => h) (Or.inl ⟨by rfl, ?_⟩) ?_ ?_
      rotate_left
      · intro w'; go_simp; try with_reducible rfl
      rotate_left
      · simp only [Act.put, List.setIfInBounds_toArray, List.set_cons_zero, List.set_cons_succ, i64_w, i32_w]; rfl
      refine pure_ (i := 2) (N := some 89) (v := ?_) (a' := ?_) #[true, true, true, false, false] rfl rfl (by kernel_rfl) (fun _ _ _ h => h) (Or.inl ⟨by rfl, ?_⟩) ?_ ?_
      rotate_left
      · intro w'; go_simp; try with_reducible rfl
      rotate_left
      · simp only [Act.put, List.setIfInBounds_toArray, List.set_cons_zero, List.set_cons_succ, i64_w, i32_w]; rfl
      refine take_ (i := 3) (N := some 90) (v := ?_) (a' := ?_) #[true, true, true, true, false] rfl rfl (by kernel_rfl) (fun _ _ _ h => h) (Or.inl ⟨by rfl, ?_⟩) hHeld ?_ ?_
      rotate_left
      · intro w' hS_; (try dsimp only at hS_); go_split_ands; go_simp; try with_reducible rfl
      rotate_left
      · simp only [Act.put, List.setIfInBounds_toArray, List.set_cons_zero, List.set_cons_succ, i64_w, i32_w]; rfl
      refine one_ (i := 4) (N := some 91) #[true, true, true, true, true] rfl rfl (by kernel_rfl) (by decide) (fun K hK => ?_)
      refine goes_ Try.func86 (by kernel_rfl) rfl #[.slice (some ⟨nb, 12, none⟩) 4 8, .int .u32 (a5)] (by rfl) rfl rfl (by (try simp only [List.map_toArray, List.map_cons, List.map_nil]); first | done | rfl) ?_
      refine (put4 nb 12 8 (a5) hv12.out.1 hv12.out.2 0 0 0 0 _ _ Bb rfl rfl rfl rfl).mono ?_
      rintro e w' ⟨rfl, rfl⟩
      refine ⟨_, rfl, ?_⟩
      replace A := keep_blk (j := 12) (v := .int .u8 (a5 / 16777216)) A hA.out
      replace E := keep_blk (j := 12) (v := .int .u8 (a5 / 16777216)) E hE.out
      replace Bb := blk_put (cs' := #[.int .u8 69, .int .u8 (a0 % 256), .int .u8 ((20 + (a7.size : Int)) / 256 % 256), .int .u8 ((20 + (a7.size : Int)) % 256), .int .u8 (a1 / 256 % 256), .int .u8 (a1 % 256), .int .u8 (a2 / 256 % 256), .int .u8 (a2 % 256), .int .u8 (a3 % 256), .int .u8 (a4 % 256), .int .u8 0, .int .u8 0, .int .u8 (a5 / 16777216), .int .u8 0, .int .u8 0, .int .u8 0, .int .u8 0, .int .u8 0, .int .u8 0, .int .u8 0]) Bb 12 (.int .u8 (a5 / 16777216)) rfl
      replace Z := Z.setCell (p := ⟨nb, 12, none⟩) hZ.out (.int .u8 (a5 / 16777216))
      generalize World.setCell W16 ⟨nb, 12, none⟩ (.int .u8 (a5 / 16777216)) = W17 at A E Bb Z ⊢
      replace A := keep_blk (j := 13) (v := .int .u8 (a5 / 65536 % 256)) A hA.out
      replace E := keep_blk (j := 13) (v := .int .u8 (a5 / 65536 % 256)) E hE.out
      replace Bb := blk_put (cs' := #[.int .u8 69, .int .u8 (a0 % 256), .int .u8 ((20 + (a7.size : Int)) / 256 % 256), .int .u8 ((20 + (a7.size : Int)) % 256), .int .u8 (a1 / 256 % 256), .int .u8 (a1 % 256), .int .u8 (a2 / 256 % 256), .int .u8 (a2 % 256), .int .u8 (a3 % 256), .int .u8 (a4 % 256), .int .u8 0, .int .u8 0, .int .u8 (a5 / 16777216), .int .u8 (a5 / 65536 % 256), .int .u8 0, .int .u8 0, .int .u8 0, .int .u8 0, .int .u8 0, .int .u8 0]) Bb 13 (.int .u8 (a5 / 65536 % 256)) rfl
      replace Z := Z.setCell (p := ⟨nb, 13, none⟩) hZ.out (.int .u8 (a5 / 65536 % 256))
      generalize World.setCell W17 ⟨nb, 13, none⟩ (.int .u8 (a5 / 65536 % 256)) = W18 at A E Bb Z ⊢
      replace A := keep_blk (j := 14) (v := .int .u8 (a5 / 256 % 256)) A hA.out
      replace E := keep_blk (j := 14) (v := .int .u8 (a5 / 256 % 256)) E hE.out
      replace Bb := blk_put (cs' := #[.int .u8 69, .int .u8 (a0 % 256), .int .u8 ((20 + (a7.size : Int)) / 256 % 256), .int .u8 ((20 + (a7.size : Int)) % 256), .int .u8 (a1 / 256 % 256), .int .u8 (a1 % 256), .int .u8 (a2 / 256 % 256), .int .u8 (a2 % 256), .int .u8 (a3 % 256), .int .u8 (a4 % 256), .int .u8 0, .int .u8 0, .int .u8 (a5 / 16777216), .int .u8 (a5 / 65536 % 256), .int .u8 (a5 / 256 % 256), .int .u8 0, .int .u8 0, .int .u8 0, .int .u8 0, .int .u8 0]) Bb 14 (.int .u8 (a5 / 256 % 256)) rfl
      replace Z := Z.setCell (p := ⟨nb, 14, none⟩) hZ.out (.int .u8 (a5 / 256 % 256))
      generalize World.setCell W18 ⟨nb, 14, none⟩ (.int .u8 (a5 / 256 % 256)) = W19 at A E Bb Z ⊢
      replace A := keep_blk (j := 15) (v := .int .u8 (a5 % 256)) A hA.out
      replace E := keep_blk (j := 15) (v := .int .u8 (a5 % 256)) E hE.out
      replace Bb := blk_put (cs' := #[.int .u8 69, .int .u8 (a0 % 256), .int .u8 ((20 + (a7.size : Int)) / 256 % 256), .int .u8 ((20 + (a7.size : Int)) % 256), .int .u8 (a1 / 256 % 256), .int .u8 (a1 % 256), .int .u8 (a2 / 256 % 256), .int .u8 (a2 % 256), .int .u8 (a3 % 256), .int .u8 (a4 % 256), .int .u8 0, .int .u8 0, .int .u8 (a5 / 16777216), .int .u8 (a5 / 65536 % 256), .int .u8 (a5 / 256 % 256), .int .u8 (a5 % 256), .int .u8 0, .int .u8 0, .int .u8 0, .int .u8 0]) Bb 15 (.int .u8 (a5 % 256)) rfl
      replace Z := Z.setCell (p := ⟨nb, 15, none⟩) hZ.out (.int .u8 (a5 % 256))
      generalize World.setCell W19 ⟨nb, 15, none⟩ (.int .u8 (a5 % 256)) = W20 at A E Bb Z ⊢
      try clear hHeld
      refine hK.out _ _ (by exact ⟨(blk_cell A 0).trans rfl, (blk_cell A 1).trans rfl, (blk_cell A 2).trans rfl, (blk_cell A 3).trans rfl, (blk_cell A 4).trans rfl, (blk_cell A 5).trans rfl, (blk_cell A 6).trans rfl, (blk_cell A 7).trans rfl⟩) (fun hHeld => ?_)
      clear hK K
      refine norm_ (a' := ?_) ?_ ?_
      rotate_left
      · show Act.put _ (some 91) _ = _; simp only [Act.put, List.setIfInBounds_toArray, List.set_cons_zero, List.set_cons_succ, i64_w, i32_w]; rfl
      refine done_ (by kernel_rfl) ?_
      refine NoPanic.normal ?_
      go_wp2
      replace A := blk_drew A
      replace E := blk_drew E
      replace Bb := blk_drew Bb
      replace Z := below_drew1 Z
      refine wp_region_noPanic ?_
      try clear hHeld
      refine start_ (n := 5) (S := fun w' => w'.cell? ⟨w.heap.size, 0, none⟩ = some (.int .i64 a0) ∧ w'.cell? ⟨w.heap.size, 1, none⟩ = some (.int .i64 a1) ∧ w'.cell? ⟨w.heap.size, 2, none⟩ = some (.int .i64 a2) ∧ w'.cell? ⟨w.heap.size, 3, none⟩ = some (.int .i64 a3) ∧ w'.cell? ⟨w.heap.size, 4, none⟩ = some (.int .i64 a4) ∧ w'.cell? ⟨w.heap.size, 5, none⟩ = some (.int .u32 a5) ∧ w'.cell? ⟨w.heap.size, 6, none⟩ = some (.int .u32 a6) ∧ w'.cell? ⟨w.heap.size, 7, none⟩ = some (.string a7)) (ds := []) #[false, false, false, false, false] (by kernel_rfl) rfl rfl (by exact ⟨(blk_cell A 0).trans rfl, (blk_cell A 1).trans rfl, (blk_cell A 2).trans rfl, (blk_cell A 3).trans rfl, (blk_cell A 4).trans rfl, (blk_cell A 5).trans rfl, (blk_cell A 6).trans rfl, (blk_cell A 7).trans rfl⟩) (fun hHeld => ?_)
      generalize World.drew W20 = W21 at A E Bb Z hHeld ⊢
      refine pure_ (i := 0) (N := some 92) (v := ?_) (a' := ?_) #[true, false, false, false, false] rfl rfl (by kernel_rfl) (fun _ _ _ h => h) (Or.inl ⟨by rfl, ?_⟩) ?_ ?_
      rotate_left
      · intro w'; go_simp; try with_reducible rfl
      rotate_left
      · simp only [Act.put, List.setIfInBounds_toArray, List.set_cons_zero, List.set_cons_succ, i64_w, i32_w]; rfl
      refine pure_ (i := 1) (N := some 93) (v := ?_) (a' := ?_) #[true, true, false, false, false] rfl rfl (by kernel_rfl) (fun _ _ _ h => h) (Or.inl ⟨by rfl, ?_⟩) ?_ ?_
      rotate_left
      · intro w'; go_simp; try with_reducible rfl
      rotate_left
      · simp only [Act.put, List.setIfInBounds_toArray, List.set_cons_zero, List.set_cons_succ, i64_w, i32_w]; rfl
      refine pure_ (i := 2) (N := some 94) (v := ?_) (a' := ?_) #[true, true, true, false, false] rfl rfl (by kernel_rfl) (fun _ _ _ h => h) (Or.inl ⟨by rfl, ?_⟩) ?_ ?_
      rotate_left
      · intro w'; go_simp; try with_reducible rfl
      rotate_left
      · simp only [Act.put, List.setIfInBounds_toArray, List.set_cons_zero, List.set_cons_succ, i64_w, i32_w]; rfl
      refine take_ (i := 3) (N := some 95) (v := ?_) (a' := ?_) #[true, true, true, true, false] rfl rfl (by kernel_rfl) (fun _ _ _ h => h) (Or.inl ⟨by rfl, ?_⟩) hHeld ?_ ?_
      rotate_left
      · intro w' hS_; (try dsimp only at hS_); go_split_ands; go_simp; try with_reducible rfl
      rotate_left
      · simp only [Act.put, List.setIfInBounds_toArray, List.set_cons_zero, List.set_cons_succ, i64_w, i32_w]; rfl
      refine one_ (i := 4) (N := some 96) #[true, true, true, true, true] rfl rfl (by kernel_rfl) (by decide) (fun K hK => ?_)
      refine goes_ Try.func86 (by kernel_rfl) rfl #[.slice (some ⟨nb, 16, none⟩) 4 4, .int .u32 (a6)] (by rfl) rfl rfl (by (try simp only [List.map_toArray, List.map_cons, List.map_nil]); first | done | rfl) ?_
      refine (put4 nb 16 4 (a6) hv16.out.1 hv16.out.2 0 0 0 0 _ _ Bb rfl rfl rfl rfl).mono ?_
      rintro e w' ⟨rfl, rfl⟩
      refine ⟨_, rfl, ?_⟩
      replace A := keep_blk (j := 16) (v := .int .u8 (a6 / 16777216)) A hA.out
      replace E := keep_blk (j := 16) (v := .int .u8 (a6 / 16777216)) E hE.out
      replace Bb := blk_put (cs' := #[.int .u8 69, .int .u8 (a0 % 256), .int .u8 ((20 + (a7.size : Int)) / 256 % 256), .int .u8 ((20 + (a7.size : Int)) % 256), .int .u8 (a1 / 256 % 256), .int .u8 (a1 % 256), .int .u8 (a2 / 256 % 256), .int .u8 (a2 % 256), .int .u8 (a3 % 256), .int .u8 (a4 % 256), .int .u8 0, .int .u8 0, .int .u8 (a5 / 16777216), .int .u8 (a5 / 65536 % 256), .int .u8 (a5 / 256 % 256), .int .u8 (a5 % 256), .int .u8 (a6 / 16777216), .int .u8 0, .int .u8 0, .int .u8 0]) Bb 16 (.int .u8 (a6 / 16777216)) rfl
      replace Z := Z.setCell (p := ⟨nb, 16, none⟩) hZ.out (.int .u8 (a6 / 16777216))
      generalize World.setCell W21 ⟨nb, 16, none⟩ (.int .u8 (a6 / 16777216)) = W22 at A E Bb Z ⊢
      replace A := keep_blk (j := 17) (v := .int .u8 (a6 / 65536 % 256)) A hA.out
      replace E := keep_blk (j := 17) (v := .int .u8 (a6 / 65536 % 256)) E hE.out
      replace Bb := blk_put (cs' := #[.int .u8 69, .int .u8 (a0 % 256), .int .u8 ((20 + (a7.size : Int)) / 256 % 256), .int .u8 ((20 + (a7.size : Int)) % 256), .int .u8 (a1 / 256 % 256), .int .u8 (a1 % 256), .int .u8 (a2 / 256 % 256), .int .u8 (a2 % 256), .int .u8 (a3 % 256), .int .u8 (a4 % 256), .int .u8 0, .int .u8 0, .int .u8 (a5 / 16777216), .int .u8 (a5 / 65536 % 256), .int .u8 (a5 / 256 % 256), .int .u8 (a5 % 256), .int .u8 (a6 / 16777216), .int .u8 (a6 / 65536 % 256), .int .u8 0, .int .u8 0]) Bb 17 (.int .u8 (a6 / 65536 % 256)) rfl
      replace Z := Z.setCell (p := ⟨nb, 17, none⟩) hZ.out (.int .u8 (a6 / 65536 % 256))
      generalize World.setCell W22 ⟨nb, 17, none⟩ (.int .u8 (a6 / 65536 % 256)) = W23 at A E Bb Z ⊢
      replace A := keep_blk (j := 18) (v := .int .u8 (a6 / 256 % 256)) A hA.out
      replace E := keep_blk (j := 18) (v := .int .u8 (a6 / 256 % 256)) E hE.out
      replace Bb := blk_put (cs' := #[.int .u8 69, .int .u8 (a0 % 256), .int .u8 ((20 + (a7.size : Int)) / 256 % 256), .int .u8 ((20 + (a7.size : Int)) % 256), .int .u8 (a1 / 256 % 256), .int .u8 (a1 % 256), .int .u8 (a2 / 256 % 256), .int .u8 (a2 % 256), .int .u8 (a3 % 256), .int .u8 (a4 % 256), .int .u8 0, .int .u8 0, .int .u8 (a5 / 16777216), .int .u8 (a5 / 65536 % 256), .int .u8 (a5 / 256 % 256), .int .u8 (a5 % 256), .int .u8 (a6 / 16777216), .int .u8 (a6 / 65536 % 256), .int .u8 (a6 / 256 % 256), .int .u8 0]) Bb 18 (.int .u8 (a6 / 256 % 256)) rfl
      replace Z := Z.setCell (p := ⟨nb, 18, none⟩) hZ.out (.int .u8 (a6 / 256 % 256))
      generalize World.setCell W23 ⟨nb, 18, none⟩ (.int .u8 (a6 / 256 % 256)) = W24 at A E Bb Z ⊢
      replace A := keep_blk (j := 19) (v := .int .u8 (a6 % 256)) A hA.out
      replace E := keep_blk (j := 19) (v := .int .u8 (a6 % 256)) E hE.out
      replace Bb := blk_put (cs' := #[.int .u8 69, .int .u8 (a0 % 256), .int .u8 ((20 + (a7.size : Int)) / 256 % 256), .int .u8 ((20 + (a7.size : Int)) % 256), .int .u8 (a1 / 256 % 256), .int .u8 (a1 % 256), .int .u8 (a2 / 256 % 256), .int .u8 (a2 % 256), .int .u8 (a3 % 256), .int .u8 (a4 % 256), .int .u8 0, .int .u8 0, .int .u8 (a5 / 16777216), .int .u8 (a5 / 65536 % 256), .int .u8 (a5 / 256 % 256), .int .u8 (a5 % 256), .int .u8 (a6 / 16777216), .int .u8 (a6 / 65536 % 256), .int .u8 (a6 / 256 % 256), .int .u8 (a6 % 256)]) Bb 19 (.int .u8 (a6 % 256)) rfl
      replace Z := Z.setCell (p := ⟨nb, 19, none⟩) hZ.out (.int .u8 (a6 % 256))
      generalize World.setCell W24 ⟨nb, 19, none⟩ (.int .u8 (a6 % 256)) = W25 at A E Bb Z ⊢
      try clear hHeld
      refine hK.out _ _ (by exact ⟨(blk_cell A 0).trans rfl, (blk_cell A 1).trans rfl, (blk_cell A 2).trans rfl, (blk_cell A 3).trans rfl, (blk_cell A 4).trans rfl, (blk_cell A 5).trans rfl, (blk_cell A 6).trans rfl, (blk_cell A 7).trans rfl⟩) (fun hHeld => ?_)
      clear hK K
      refine norm_ (a' := ?_) ?_ ?_
      rotate_left
      · show Act.put _ (some 96) _ = _; simp only [Act.put, List.setIfInBounds_toArray, List.set_cons_zero, List.set_cons_succ, i64_w, i32_w]; rfl
      refine done_ (by kernel_rfl) ?_
      refine NoPanic.normal ?_
      go_wp2
      obtain ⟨m_, hm_⟩ : ∃ m_, sumV (hdrV (20 + (a7.size : Int)) a0 a1 a2 a3 a4 0 a5 a6) = m_ := ⟨_, rfl⟩
      have hv10 : Hid (0 ≤ m_ ∧ m_ < 4294967296) := by have := sumV_range (hdrV (20 + (a7.size : Int)) a0 a1 a2 a3 a4 0 a5 a6); rw [hm_] at this; exact ⟨this.1, by omega⟩
      have um : IntKind.u32.wrap m_ = m_ := by have := hv10.out; rw [IntKind.wrap_u32]; omega
      have SM : Hid (∀ w, Calls Try.prog 59 #[.string (hdrV (20 + (a7.size : Int)) a0 a1 a2 a3 a4 0 a5 a6)] w fun e w' => e = .returned (.int .i64 m_) ∧ w = w') := fun w => by rw [← hm_]; exact sum_calls _ rfl w
      have HM : Hid (sumV (hdrV (20 + (a7.size : Int)) a0 a1 a2 a3 a4 0 a5 a6) = m_) := hm_
      clear hm_
      replace A := blk_drew A
      replace E := blk_drew E
      replace Bb := blk_drew Bb
      replace Z := below_drew1 Z
      refine wp_region_noPanic ?_
      try clear hHeld
      refine start_ (n := 7) (S := fun w' => w'.cell? ⟨w.heap.size, 0, none⟩ = some (.int .i64 a0) ∧ w'.cell? ⟨w.heap.size, 1, none⟩ = some (.int .i64 a1) ∧ w'.cell? ⟨w.heap.size, 2, none⟩ = some (.int .i64 a2) ∧ w'.cell? ⟨w.heap.size, 3, none⟩ = some (.int .i64 a3) ∧ w'.cell? ⟨w.heap.size, 4, none⟩ = some (.int .i64 a4) ∧ w'.cell? ⟨w.heap.size, 5, none⟩ = some (.int .u32 a5) ∧ w'.cell? ⟨w.heap.size, 6, none⟩ = some (.int .u32 a6) ∧ w'.cell? ⟨w.heap.size, 7, none⟩ = some (.string a7)) (ds := []) #[false, false, false, false, false, false, false] (by kernel_rfl) rfl rfl (by exact ⟨(blk_cell A 0).trans rfl, (blk_cell A 1).trans rfl, (blk_cell A 2).trans rfl, (blk_cell A 3).trans rfl, (blk_cell A 4).trans rfl, (blk_cell A 5).trans rfl, (blk_cell A 6).trans rfl, (blk_cell A 7).trans rfl⟩) (fun hHeld => ?_)
      generalize World.drew W25 = W26 at A E Bb Z hHeld ⊢
      refine pure_ (i := 0) (N := some 97) (v := ?_) (a' := ?_) #[true, false, false, false, false, false, false] rfl rfl (by kernel_rfl) (fun _ _ _ h => h) (Or.inl ⟨by rfl, ?_⟩) ?_ ?_
      rotate_left
      · intro w'; go_simp; try with_reducible rfl
      rotate_left
      · simp only [Act.put, List.setIfInBounds_toArray, List.set_cons_zero, List.set_cons_succ, i64_w, i32_w]; rfl
      refine pure_ (i := 1) (N := some 98) (v := ?_) (a' := ?_) #[true, true, false, false, false, false, false] rfl rfl (by kernel_rfl) (fun _ _ _ h => h) (Or.inl ⟨by rfl, ?_⟩) ?_ ?_
      rotate_left
      · intro w'; go_simp; try with_reducible rfl
      rotate_left
      · simp only [Act.put, List.setIfInBounds_toArray, List.set_cons_zero, List.set_cons_succ, i64_w, i32_w]; rfl
      refine pure_ (i := 2) (N := some 99) (v := ?_) (a' := ?_) #[true, true, true, false, false, false, false] rfl rfl (by kernel_rfl) (fun _ _ _ h => h) (Or.inl ⟨by rfl, ?_⟩) ?_ ?_
      rotate_left
      · intro w'; go_simp; try with_reducible rfl
      rotate_left
      · simp only [Act.put, List.setIfInBounds_toArray, List.set_cons_zero, List.set_cons_succ, i64_w, i32_w]; rfl
      refine one_ (i := 3) (N := some 100) #[true, true, true, true, false, false, false] rfl rfl (by kernel_rfl) (by decide) (fun K hK => ?_)
      have hc := conv_row W26 nb 20 [69, a0 % 256, (20 + (a7.size : Int)) / 256 % 256, (20 + (a7.size : Int)) % 256, a1 / 256 % 256, a1 % 256, a2 / 256 % 256, a2 % 256, a3 % 256, a4 % 256, 0, 0, a5 / 16777216, a5 / 65536 % 256, a5 / 256 % 256, a5 % 256, a6 / 16777216, a6 / 65536 % 256, a6 / 256 % 256, a6 % 256] (by simp) _ rfl 20 rfl Bb
      rw [hdr_nums (20 + (a7.size : Int)) a0 a1 a2 a3 a4 0 a5 a6 0 0 rfl rfl hv12.out.1 hv12.out.2 hv16.out.1 hv16.out.2] at hc
      refine event_step (by rfl) (v := .string (hdrV (20 + (a7.size : Int)) a0 a1 a2 a3 a4 0 a5 a6)) (w1 := W26) (by go_simp) ?_
      clear hc
      try clear hHeld
      refine hK.out _ _ (by exact ⟨(blk_cell A 0).trans rfl, (blk_cell A 1).trans rfl, (blk_cell A 2).trans rfl, (blk_cell A 3).trans rfl, (blk_cell A 4).trans rfl, (blk_cell A 5).trans rfl, (blk_cell A 6).trans rfl, (blk_cell A 7).trans rfl⟩) (fun hHeld => ?_)
      clear hK K
      refine norm_ (a' := ?_) ?_ ?_
      rotate_left
      · show Act.put _ (some 100) _ = _; simp only [Act.put, List.setIfInBounds_toArray, List.set_cons_zero, List.set_cons_succ, i64_w, i32_w]; rfl
      refine one_ (i := 4) (N := some 101) #[true, true, true, true, true, false, false] rfl rfl (by kernel_rfl) (by decide) (fun K hK => ?_)
      refine goes_ Try.func59 (by kernel_rfl) rfl #[.string (hdrV (20 + (a7.size : Int)) a0 a1 a2 a3 a4 0 a5 a6)] (by rfl) rfl rfl (by (try simp only [List.map_toArray, List.map_cons, List.map_nil]); first | done | rfl) ?_
      with_reducible refine (SM.out _).mono ?_
      rintro e w' ⟨rfl, rfl⟩
      refine ⟨_, rfl, ?_⟩
      try clear hHeld
      refine hK.out _ _ (by exact ⟨(blk_cell A 0).trans rfl, (blk_cell A 1).trans rfl, (blk_cell A 2).trans rfl, (blk_cell A 3).trans rfl, (blk_cell A 4).trans rfl, (blk_cell A 5).trans rfl, (blk_cell A 6).trans rfl, (blk_cell A 7).trans rfl⟩) (fun hHeld => ?_)
      clear hK K
      refine norm_ (a' := ?_) ?_ ?_
      rotate_left
      · show Act.put _ (some 101) _ = _; simp only [Act.put, List.setIfInBounds_toArray, List.set_cons_zero, List.set_cons_succ, i64_w, i32_w]; rfl
      refine pure_ (i := 5) (N := some 102) (v := ?_) (a' := ?_) #[true, true, true, true, true, true, false] rfl rfl (by kernel_rfl) (fun _ _ _ h => h) (Or.inl ⟨by rfl, ?_⟩) ?_ ?_
      rotate_left
      · intro w'; go_simp; try with_reducible rfl
      rotate_left
      · simp only [Act.put, List.setIfInBounds_toArray, List.set_cons_zero, List.set_cons_succ, i64_w, i32_w]; rfl
      refine one_ (i := 6) (N := some 103) #[true, true, true, true, true, true, true] rfl rfl (by kernel_rfl) (by decide) (fun K hK => ?_)
      refine goes_ Try.func86 (by kernel_rfl) rfl #[.slice (some ⟨nb, 10, none⟩) 2 10, .int .u32 (m_)] (by rfl) rfl rfl (by (try simp only [List.map_toArray, List.map_cons, List.map_nil]); first | done | rfl) ?_
      refine (put2 nb 10 10 (m_) hv10.out.1 hv10.out.2 0 0 _ _ Bb rfl rfl).mono ?_
      rintro e w' ⟨rfl, rfl⟩
      refine ⟨_, rfl, ?_⟩
      replace A := keep_blk (j := 10) (v := .int .u8 (m_ / 256 % 256)) A hA.out
      replace E := keep_blk (j := 10) (v := .int .u8 (m_ / 256 % 256)) E hE.out
      replace Bb := blk_put (cs' := #[.int .u8 69, .int .u8 (a0 % 256), .int .u8 ((20 + (a7.size : Int)) / 256 % 256), .int .u8 ((20 + (a7.size : Int)) % 256), .int .u8 (a1 / 256 % 256), .int .u8 (a1 % 256), .int .u8 (a2 / 256 % 256), .int .u8 (a2 % 256), .int .u8 (a3 % 256), .int .u8 (a4 % 256), .int .u8 (m_ / 256 % 256), .int .u8 0, .int .u8 (a5 / 16777216), .int .u8 (a5 / 65536 % 256), .int .u8 (a5 / 256 % 256), .int .u8 (a5 % 256), .int .u8 (a6 / 16777216), .int .u8 (a6 / 65536 % 256), .int .u8 (a6 / 256 % 256), .int .u8 (a6 % 256)]) Bb 10 (.int .u8 (m_ / 256 % 256)) rfl
      replace Z := Z.setCell (p := ⟨nb, 10, none⟩) hZ.out (.int .u8 (m_ / 256 % 256))
      generalize World.setCell W26 ⟨nb, 10, none⟩ (.int .u8 (m_ / 256 % 256)) = W27 at A E Bb Z ⊢
      replace A := keep_blk (j := 11) (v := .int .u8 (m_ % 256)) A hA.out
      replace E := keep_blk (j := 11) (v := .int .u8 (m_ % 256)) E hE.out
      replace Bb := blk_put (cs' := #[.int .u8 69, .int .u8 (a0 % 256), .int .u8 ((20 + (a7.size : Int)) / 256 % 256), .int .u8 ((20 + (a7.size : Int)) % 256), .int .u8 (a1 / 256 % 256), .int .u8 (a1 % 256), .int .u8 (a2 / 256 % 256), .int .u8 (a2 % 256), .int .u8 (a3 % 256), .int .u8 (a4 % 256), .int .u8 (m_ / 256 % 256), .int .u8 (m_ % 256), .int .u8 (a5 / 16777216), .int .u8 (a5 / 65536 % 256), .int .u8 (a5 / 256 % 256), .int .u8 (a5 % 256), .int .u8 (a6 / 16777216), .int .u8 (a6 / 65536 % 256), .int .u8 (a6 / 256 % 256), .int .u8 (a6 % 256)]) Bb 11 (.int .u8 (m_ % 256)) rfl
      replace Z := Z.setCell (p := ⟨nb, 11, none⟩) hZ.out (.int .u8 (m_ % 256))
      generalize World.setCell W27 ⟨nb, 11, none⟩ (.int .u8 (m_ % 256)) = W28 at A E Bb Z ⊢
      try clear hHeld
      refine hK.out _ _ (by exact ⟨(blk_cell A 0).trans rfl, (blk_cell A 1).trans rfl, (blk_cell A 2).trans rfl, (blk_cell A 3).trans rfl, (blk_cell A 4).trans rfl, (blk_cell A 5).trans rfl, (blk_cell A 6).trans rfl, (blk_cell A 7).trans rfl⟩) (fun hHeld => ?_)
      clear hK K
      refine norm_ (a' := ?_) ?_ ?_
      rotate_left
      · show Act.put _ (some 103) _ = _; simp only [Act.put, List.setIfInBounds_toArray, List.set_cons_zero, List.set_cons_succ, i64_w, i32_w]; rfl
      refine done_ (by kernel_rfl) ?_
      refine NoPanic.normal ?_
      have hc := conv_row W28 nb 20 [69, a0 % 256, (20 + (a7.size : Int)) / 256 % 256, (20 + (a7.size : Int)) % 256, a1 / 256 % 256, a1 % 256, a2 / 256 % 256, a2 % 256, a3 % 256, a4 % 256, m_ / 256 % 256, m_ % 256, a5 / 16777216, a5 / 65536 % 256, a5 / 256 % 256, a5 % 256, a6 / 16777216, a6 / 65536 % 256, a6 / 256 % 256, a6 % 256] (by simp) _ rfl 20 rfl Bb
      rw [hdr_nums (20 + (a7.size : Int)) a0 a1 a2 a3 a4 m_ a5 a6 _ _ rfl rfl hv12.out.1 hv12.out.2 hv16.out.1 hv16.out.2] at hc
      have hH : Hid (hdrV (20 + (a7.size : Int)) a0 a1 a2 a3 a4 m_ a5 a6 ++ a7 = packV a0 a1 a2 a3 a4 a5 a6 a7) := by unfold Hid packV; rw [HM.out]
      have hz : (hdrV (20 + (a7.size : Int)) a0 a1 a2 a3 a4 m_ a5 a6).size = 20 := rfl
      have hz2 : (9223372036854775807 < (hdrV (20 + (a7.size : Int)) a0 a1 a2 a3 a4 m_ a5 a6).size + a7.size) = False := by have := hs8.out; rw [hz]; exact eq_false (by omega)
      clear hz
      generalize hdrV (20 + (a7.size : Int)) a0 a1 a2 a3 a4 m_ a5 a6 = HH at hc hH hz2
      have h7 : World.cell? _ ⟨w.heap.size, 7, none⟩ = some (.string a7) := (blk_cell A 7).trans rfl
      have hE0 : World.cell? _ ⟨w.heap.size + 1, 0, none⟩ = some (.int .i64 0) := (blk_cell E 0).trans rfl
      have hE1 := blk_frozen E 0
      go_wp2
      exact doorB_ret w.heap.size 0 w _ _ _ rfl rfl (blk_put E 0 _ rfl) (Z.setCell (by simp) _) fun W' hb => ⟨by rw [hH.out], hb⟩
/-- Build, at every header. -/
theorem build78_calls (a0 a1 a2 a3 a4 a5 a6 : Int) (a7 : ByteArray) (w : World) (h5 : 0 ≤ a5) (h5' : a5 < 4294967296) (h6 : 0 ≤ a6) (h6' : a6 < 4294967296) :
    Calls Try.prog 78 #[.agg #[.int .i64 a0, .int .i64 a1, .int .i64 a2, .int .i64 a3, .int .i64 a4, .int .u32 a5, .int .u32 a6, .string a7]] w fun e w' => e = .returned (.tuple #[.string (buildV a0 a1 a2 a3 a4 a5 a6 a7).1, .int .i64 (buildV a0 a1 a2 a3 a4 a5 a6 a7).2]) ∧ Below w.heap.size w w' := by
  unfold buildV
  by_cases h : okH a0 a1 a2 a3 a4
  · rw [if_pos h]
    by_cases hs : a7.size ≤ 65515
    · rw [if_pos hs]
      exact build_good a0 a1 a2 a3 a4 a5 a6 a7 w h h5 h5' h6 h6' hs
    · rw [if_neg hs]
      exact build_long a0 a1 a2 a3 a4 a5 a6 a7 w h (by omega)
  · rw [if_neg h]
    exact build_bad a0 a1 a2 a3 a4 a5 a6 a7 w h
end Go.Proofs.Ytcpneggifmldoaa.T

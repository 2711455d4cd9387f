/-
  Part 4 of the texts of this claim: IpB, IpL, HopP, Tx1, Tun, Tx15.
-/
import Derived.Test.YtcpneggifmldoaaTPpc
import Derived.Outline
import Derived.Lib.Strings
set_option linter.unusedVariables false
set_option linter.unusedSimpArgs false
namespace Go.Proofs.Ytcpneggifmldoaa.T
open Go.RowKit Go.Proofs.YtcpneggifmldoaaW.PrintWords Go.Proofs.YtcpneggifmldoaaW.PrintLast Go.Proofs.YtcpneggifmldoaaW.PrintMore Go
set_option maxRecDepth 100000 in
set_option maxHeartbeats 2000000 in
theorem put2 (nb off c : Nat) (v : Int) (v0 : 0 ≤ v) (v1 : v < 4294967296) (x0 x1 : Int) (w : World) (cs : Array Value) (hb : w.heap[nb]? = some (.cells cs 5 (0, 0))) (h0 : cs[off]? = some (.int .u8 x0)) (h1 : cs[off + 1]? = some (.int .u8 x1)) :
    Calls Try.prog 86 #[.slice (some ⟨nb, off, none⟩) 2 c, .int .u32 v] w fun e w' => e = .returned (.tuple #[]) ∧ (w.setCell ⟨nb, off, none⟩ (.int .u8 (v / 256 % 256))).setCell ⟨nb, off + 1, none⟩ (.int .u8 (v % 256)) = w' := by
  have c0 : (w).cell? ⟨nb, off, none⟩ = some (.int .u8 x0) := (blk_cell hb (off)).trans (by exact h0)
  have f0 := blk_frozen hb (off)
  have b1 := blk_put hb (off) (.int .u8 (v / 256 % 256)) rfl
  have c1 : (w.setCell ⟨nb, off, none⟩ (.int .u8 (v / 256 % 256))).cell? ⟨nb, off + 1, none⟩ = some (.int .u8 x1) := (blk_cell b1 (off + 1)).trans (by rw [Array.getElem?_setIfInBounds_ne (by omega)]; exact h1)
  have f1 := blk_frozen b1 (off + 1)
  clear hb b1 h0 h1
  go_enter Try.func86, Try.ntmps86
  go_wp2
  go_loopw [4, 7] (fun _ i wr => (i = .int .i64 0 ∧ wr = w) ∨ (i = .int .i64 1 ∧ wr = w.setCell ⟨nb, off, none⟩ (.int .u8 (v / 256 % 256))) ∨ (i = .int .i64 2 ∧ wr = (w.setCell ⟨nb, off, none⟩ (.int .u8 (v / 256 % 256))).setCell ⟨nb, off + 1, none⟩ (.int .u8 (v % 256)))) (fun _ i _ => 2 - (intOf i).toNat)
  case atStart => exact .inl ⟨rfl, rfl⟩
  case round =>
    rcases hrel with ⟨rfl, rfl⟩ | ⟨rfl, rfl⟩ | ⟨rfl, rfl⟩
    · go_wp2
      exact ⟨by simp, by simp [intOf]⟩
    · go_wp2
      exact ⟨by simp, by simp [intOf]⟩
    · go_wp2
      go_end0
      exact ⟨rfl, rfl⟩
set_option maxRecDepth 100000 in
set_option maxHeartbeats 2000000 in
theorem put4 (nb off c : Nat) (v : Int) (v0 : 0 ≤ v) (v1 : v < 4294967296) (x0 x1 x2 x3 : Int) (w : World) (cs : Array Value) (hb : w.heap[nb]? = some (.cells cs 5 (0, 0))) (h0 : cs[off]? = some (.int .u8 x0)) (h1 : cs[off + 1]? = some (.int .u8 x1)) (h2 : cs[off + 2]? = some (.int .u8 x2)) (h3 : cs[off + 3]? = some (.int .u8 x3)) :
    Calls Try.prog 86 #[.slice (some ⟨nb, off, none⟩) 4 c, .int .u32 v] w fun e w' => e = .returned (.tuple #[]) ∧ (((w.setCell ⟨nb, off, none⟩ (.int .u8 (v / 16777216))).setCell ⟨nb, off + 1, none⟩ (.int .u8 (v / 65536 % 256))).setCell ⟨nb, off + 2, none⟩ (.int .u8 (v / 256 % 256))).setCell ⟨nb, off + 3, none⟩ (.int .u8 (v % 256)) = w' := by
  have c0 : (w).cell? ⟨nb, off, none⟩ = some (.int .u8 x0) := (blk_cell hb (off)).trans (by exact h0)
  have f0 := blk_frozen hb (off)
  have b1 := blk_put hb (off) (.int .u8 (v / 16777216)) rfl
  have c1 : (w.setCell ⟨nb, off, none⟩ (.int .u8 (v / 16777216))).cell? ⟨nb, off + 1, none⟩ = some (.int .u8 x1) := (blk_cell b1 (off + 1)).trans (by rw [Array.getElem?_setIfInBounds_ne (by omega)]; exact h1)
  have f1 := blk_frozen b1 (off + 1)
  have b2 := blk_put b1 (off + 1) (.int .u8 (v / 65536 % 256)) rfl
  have c2 : ((w.setCell ⟨nb, off, none⟩ (.int .u8 (v / 16777216))).setCell ⟨nb, off + 1, none⟩ (.int .u8 (v / 65536 % 256))).cell? ⟨nb, off + 2, none⟩ = some (.int .u8 x2) := (blk_cell b2 (off + 2)).trans (by rw [Array.getElem?_setIfInBounds_ne (by omega)]; rw [Array.getElem?_setIfInBounds_ne (by omega)]; exact h2)
  have f2 := blk_frozen b2 (off + 2)
  have b3 := blk_put b2 (off + 2) (.int .u8 (v / 256 % 256)) rfl
  have c3 : (((w.setCell ⟨nb, off, none⟩ (.int .u8 (v / 16777216))).setCell ⟨nb, off + 1, none⟩ (.int .u8 (v / 65536 % 256))).setCell ⟨nb, off + 2, none⟩ (.int .u8 (v / 256 % 256))).cell? ⟨nb, off + 3, none⟩ = some (.int .u8 x3) := (blk_cell b3 (off + 3)).trans (by rw [Array.getElem?_setIfInBounds_ne (by omega)]; rw [Array.getElem?_setIfInBounds_ne (by omega)]; rw [Array.getElem?_setIfInBounds_ne (by omega)]; exact h3)
  have f3 := blk_frozen b3 (off + 3)
  clear hb b1 b2 b3 h0 h1 h2 h3
  go_enter Try.func86, Try.ntmps86
  go_wp2
  go_loopw [4, 7] (fun _ i wr => (i = .int .i64 0 ∧ wr = w) ∨ (i = .int .i64 1 ∧ wr = w.setCell ⟨nb, off, none⟩ (.int .u8 (v / 16777216))) ∨ (i = .int .i64 2 ∧ wr = (w.setCell ⟨nb, off, none⟩ (.int .u8 (v / 16777216))).setCell ⟨nb, off + 1, none⟩ (.int .u8 (v / 65536 % 256))) ∨ (i = .int .i64 3 ∧ wr = ((w.setCell ⟨nb, off, none⟩ (.int .u8 (v / 16777216))).setCell ⟨nb, off + 1, none⟩ (.int .u8 (v / 65536 % 256))).setCell ⟨nb, off + 2, none⟩ (.int .u8 (v / 256 % 256))) ∨ (i = .int .i64 4 ∧ wr = (((w.setCell ⟨nb, off, none⟩ (.int .u8 (v / 16777216))).setCell ⟨nb, off + 1, none⟩ (.int .u8 (v / 65536 % 256))).setCell ⟨nb, off + 2, none⟩ (.int .u8 (v / 256 % 256))).setCell ⟨nb, off + 3, none⟩ (.int .u8 (v % 256)))) (fun _ i _ => 4 - (intOf i).toNat)
  case atStart => exact .inl ⟨rfl, rfl⟩
  case round =>
    rcases hrel with ⟨rfl, rfl⟩ | ⟨rfl, rfl⟩ | ⟨rfl, rfl⟩ | ⟨rfl, rfl⟩ | ⟨rfl, rfl⟩
    · go_wp2
      exact ⟨by simp, by simp [intOf]⟩
    · go_wp2
      exact ⟨by simp, by simp [intOf]⟩
    · go_wp2
      exact ⟨by simp, by simp [intOf]⟩
    · go_wp2
      exact ⟨by simp, by simp [intOf]⟩
    · go_wp2
      go_end0
      exact ⟨rfl, rfl⟩
theorem results_build (tmps : Array Value) (w : World) (g' : Nat) (r : ByteArray) (c : Int)
    (hp : tmps.getD 2 undef = .string r) (hp' : tmps.getD 3 undef = .pointer (some ⟨g', 0, none⟩)) (hg' : w.heap[g']? = some (.cells #[.int .i64 c] 35 (0, 0))) :
    (results Try.f78 tmps).run Try.prog w = .ok (.tuple #[.string r, .int .i64 c]) w := by
  have h1 : tmps[2]?.getD undef = .string r := by simpa using hp
  have h2 : tmps[3]?.getD undef = .pointer (some ⟨g', 0, none⟩) := by simpa using hp'
  have hc : w.cell? ⟨g', 0, none⟩ = some (.int .i64 c) := (blk_cell hg' 0).trans rfl
  have h35 : (loadVar 35 ⟨g', 0, none⟩).run Try.prog w = .ok (.int .i64 c) w := by simp [go_sem, hc]
  simp [results, Try.f78, h1, h2, asAddr, h35]
theorem doorB_panic (n : Nat) (c x : Int) (w W : World) (tmps : Array Value) (r : ByteArray) (hp : tmps.getD 2 undef = .string r) (hp' : tmps.getD 3 undef = .pointer (some ⟨n + 1, 0, none⟩))
    (hg' : W.heap[n + 1]? = some (.cells #[.int .i64 x] 35 (0, 0))) (hb : Below n w W) {R : Ending → World → Prop}
    (hR : ∀ W', Below n w W' → R (.returned (.tuple #[.string r, .int .i64 c])) W') :
    bodyPostD Try.prog Try.f78 R (Exit.panic [{ v := .iface 35 (.int .i64 c), recovered := false }])
      { tmps := tmps, defers := [{ target := Target.fn (Fn.func 56) #[], args := #[.pointer (some ⟨n + 1, 0, none⟩)] }] } W := by
  refine leaves_cons (f := 56) (args := #[.pointer (some ⟨n + 1, 0, none⟩)]) (by simp) (by simp [go_sem]) ?_
  refine (caught_panicking _ x c [] _ ((blk_cell hg' 0).trans rfl) (blk_frozen hg' 0)).mono ?_
  rintro e u' w'' ⟨rfl, rfl, rfl⟩
  exact ⟨_, results_build tmps _ (n + 1) r c hp hp' (blk_put hg' 0 _ rfl), hR _ (hb.setCell (by simp) _)⟩
theorem doorB_ret (n : Nat) (c : Int) (w W : World) (tmps : Array Value) (r : ByteArray) (hp : tmps.getD 2 undef = .string r) (hp' : tmps.getD 3 undef = .pointer (some ⟨n + 1, 0, none⟩))
    (hg' : W.heap[n + 1]? = some (.cells #[.int .i64 c] 35 (0, 0))) (hb : Below n w W) {R : Ending → World → Prop}
    (hR : ∀ W', Below n w W' → R (.returned (.tuple #[.string r, .int .i64 c])) W') :
    bodyPostD Try.prog Try.f78 R Exit.ret
      { tmps := tmps, defers := [{ target := Target.fn (Fn.func 56) #[], args := #[.pointer (some ⟨n + 1, 0, none⟩)] }] } W := by
  refine leaves_cons (f := 56) (args := #[.pointer (some ⟨n + 1, 0, none⟩)]) (by simp) (by simp [go_sem]) ?_
  refine (caught_idle _ _).mono ?_
  rintro e u' w'' ⟨rfl, rfl, rfl⟩
  exact ⟨_, results_build tmps _ (n + 1) r c hp hp' hg', hR _ hb⟩
set_option maxRecDepth 100000 in
set_option maxHeartbeats 1000000 in
theorem build_bad (a0 a1 a2 a3 a4 a5 a6 : Int) (a7 : ByteArray) (w : World) (h : ¬ okH a0 a1 a2 a3 a4) :
    Calls Try.prog 78 #[.agg #[.int .i64 a0, .int .i64 a1, .int .i64 a2, .int .i64 a3, .int .i64 a4, .int .u32 a5, .int .u32 a6, .string a7]] w fun e w' => e = .returned (.tuple #[.string ⟨#[]⟩, .int .i64 2]) ∧ Below w.heap.size w w' := by
  have hu58 := Try.underlying58
  have i0 : ∀ (x0 x1 x2 : Value) (w : World), (Instr.index 115 (.agg #[x0, x1, x2]) (.int .i64 0)).run Try.prog w = .ok x0 w := fun _ _ _ _ => by kernel_rfl
  have i1 : ∀ (x0 x1 x2 : Value) (w : World), (Instr.index 115 (.agg #[x0, x1, x2]) (.int .i64 1)).run Try.prog w = .ok x1 w := fun _ _ _ _ => by kernel_rfl
  have i2 : ∀ (x0 x1 x2 : Value) (w : World), (Instr.index 115 (.agg #[x0, x1, x2]) (.int .i64 2)).run Try.prog w = .ok x2 w := fun _ _ _ _ => by kernel_rfl
  go_enter_defers Try.func78, Try.ntmps78
  go_wp2
  obtain ⟨b1, b2, b3⟩ := start_blocks w #[.int .i64 a0, .int .i64 a1, .int .i64 a2, .int .i64 a3, .int .i64 a4, .int .u32 a5, .int .u32 a6, .string a7] #[.int .i64 0]
  have h0 : World.cell? _ ⟨w.heap.size, 1, none⟩ = some (.int .i64 a1) := (blk_cell b1 1).trans rfl
  have h1 : World.cell? _ ⟨w.heap.size, 2, none⟩ = some (.int .i64 a2) := (blk_cell b1 2).trans rfl
  have hN : Hid (¬ okH a0 a1 a2 a3 a4) := h
  clear h
  generalize (w.alloc (.cells #[.int .i64 a0, .int .i64 a1, .int .i64 a2, .int .i64 a3, .int .i64 a4, .int .u32 a5, .int .u32 a6, .string a7] 58)).alloc (.cells #[.int .i64 0] 35) = W at *
  go_loop [14] (fun i => (i = .int .i64 0) ∨ (i = .int .i64 1 ∧ Hid (0 ≤ a0 ∧ a0 ≤ 255)) ∨ (i = .int .i64 2 ∧ Hid (0 ≤ a0 ∧ a0 ≤ 255) ∧ Hid (0 ≤ a3 ∧ a3 ≤ 255)) ∨ (i = .int .i64 3 ∧ Hid (0 ≤ a0 ∧ a0 ≤ 255) ∧ Hid (0 ≤ a3 ∧ a3 ≤ 255) ∧ Hid (0 ≤ a4 ∧ a4 ≤ 255))) (fun i => 3 - (intOf i).toNat)
  case atStart => exact .inl rfl
  case round =>
    rcases hrel with rfl | ⟨rfl, N0⟩ | ⟨rfl, N0, N1⟩ | ⟨rfl, N0, N1, N2⟩
    · skip
      by_cases p0 : 0 ≤ a0
      · have d0 : decide (0 ≤ a0) = true := decide_eq_true p0
        by_cases p1 : a0 ≤ 255
        · have d1 : decide (a0 ≤ 255) = true := decide_eq_true p1
          have N : Hid (0 ≤ a0 ∧ a0 ≤ 255) := ⟨p0, p1⟩
          clear p0 p1
          go_wp2_with (first | (go_at_call 57; (with_reducible refine (check_yes _ _).mono ?_); rintro e w' ⟨rfl, rfl⟩) | (go_at_call 57; (with_reducible refine (check_no _ _).mono ?_); rintro e w' ⟨rfl, rfl⟩))
          go_round
          case rel => exact .inr (.inl ⟨rfl, N⟩)
          case measure => simp [intOf]
        · have d1 : decide (a0 ≤ 255) = false := decide_eq_false p1
          clear p0 p1
          go_wp2_with (first | (go_at_call 57; (with_reducible refine (check_yes _ _).mono ?_); rintro e w' ⟨rfl, rfl⟩) | (go_at_call 57; (with_reducible refine (check_no _ _).mono ?_); rintro e w' ⟨rfl, rfl⟩))
          exact doorB_panic w.heap.size 2 0 w _ _ _ rfl rfl b2 b3 fun W' hb => ⟨rfl, hb⟩
      · have d0 : decide (0 ≤ a0) = false := decide_eq_false p0
        clear p0
        go_wp2_with (first | (go_at_call 57; (with_reducible refine (check_yes _ _).mono ?_); rintro e w' ⟨rfl, rfl⟩) | (go_at_call 57; (with_reducible refine (check_no _ _).mono ?_); rintro e w' ⟨rfl, rfl⟩))
        exact doorB_panic w.heap.size 2 0 w _ _ _ rfl rfl b2 b3 fun W' hb => ⟨rfl, hb⟩
    · skip
      by_cases p0 : 0 ≤ a3
      · have d0 : decide (0 ≤ a3) = true := decide_eq_true p0
        by_cases p1 : a3 ≤ 255
        · have d1 : decide (a3 ≤ 255) = true := decide_eq_true p1
          have N : Hid (0 ≤ a3 ∧ a3 ≤ 255) := ⟨p0, p1⟩
          clear p0 p1
          go_wp2_with (first | (go_at_call 57; (with_reducible refine (check_yes _ _).mono ?_); rintro e w' ⟨rfl, rfl⟩) | (go_at_call 57; (with_reducible refine (check_no _ _).mono ?_); rintro e w' ⟨rfl, rfl⟩))
          go_round
          case rel => exact .inr (.inr (.inl ⟨rfl, N0, N⟩))
          case measure => simp [intOf]
        · have d1 : decide (a3 ≤ 255) = false := decide_eq_false p1
          clear p0 p1
          go_wp2_with (first | (go_at_call 57; (with_reducible refine (check_yes _ _).mono ?_); rintro e w' ⟨rfl, rfl⟩) | (go_at_call 57; (with_reducible refine (check_no _ _).mono ?_); rintro e w' ⟨rfl, rfl⟩))
          exact doorB_panic w.heap.size 2 0 w _ _ _ rfl rfl b2 b3 fun W' hb => ⟨rfl, hb⟩
      · have d0 : decide (0 ≤ a3) = false := decide_eq_false p0
        clear p0
        go_wp2_with (first | (go_at_call 57; (with_reducible refine (check_yes _ _).mono ?_); rintro e w' ⟨rfl, rfl⟩) | (go_at_call 57; (with_reducible refine (check_no _ _).mono ?_); rintro e w' ⟨rfl, rfl⟩))
        exact doorB_panic w.heap.size 2 0 w _ _ _ rfl rfl b2 b3 fun W' hb => ⟨rfl, hb⟩
    · skip
      by_cases p0 : 0 ≤ a4
      · have d0 : decide (0 ≤ a4) = true := decide_eq_true p0
        by_cases p1 : a4 ≤ 255
        · have d1 : decide (a4 ≤ 255) = true := decide_eq_true p1
          have N : Hid (0 ≤ a4 ∧ a4 ≤ 255) := ⟨p0, p1⟩
          clear p0 p1
          go_wp2_with (first | (go_at_call 57; (with_reducible refine (check_yes _ _).mono ?_); rintro e w' ⟨rfl, rfl⟩) | (go_at_call 57; (with_reducible refine (check_no _ _).mono ?_); rintro e w' ⟨rfl, rfl⟩))
          go_round
          case rel => exact .inr (.inr (.inr ⟨rfl, N0, N1, N⟩))
          case measure => simp [intOf]
        · have d1 : decide (a4 ≤ 255) = false := decide_eq_false p1
          clear p0 p1
          go_wp2_with (first | (go_at_call 57; (with_reducible refine (check_yes _ _).mono ?_); rintro e w' ⟨rfl, rfl⟩) | (go_at_call 57; (with_reducible refine (check_no _ _).mono ?_); rintro e w' ⟨rfl, rfl⟩))
          exact doorB_panic w.heap.size 2 0 w _ _ _ rfl rfl b2 b3 fun W' hb => ⟨rfl, hb⟩
      · have d0 : decide (0 ≤ a4) = false := decide_eq_false p0
        clear p0
        go_wp2_with (first | (go_at_call 57; (with_reducible refine (check_yes _ _).mono ?_); rintro e w' ⟨rfl, rfl⟩) | (go_at_call 57; (with_reducible refine (check_no _ _).mono ?_); rintro e w' ⟨rfl, rfl⟩))
        exact doorB_panic w.heap.size 2 0 w _ _ _ rfl rfl b2 b3 fun W' hb => ⟨rfl, hb⟩
    · by_cases p0 : 0 ≤ a1
      · have d0 : decide (0 ≤ a1) = true := decide_eq_true p0
        by_cases p1 : a1 ≤ 65535
        · have d1 : decide (a1 ≤ 65535) = true := decide_eq_true p1
          by_cases p2 : 0 ≤ a2
          · have d2 : decide (0 ≤ a2) = true := decide_eq_true p2
            by_cases p3 : a2 ≤ 65535
            · exact absurd ⟨N0.out, N1.out, N2.out, ⟨p0, p1⟩, p2, p3⟩ hN.out
            · have d3 : decide (a2 ≤ 65535) = false := decide_eq_false p3
              clear p0 p1 p2 p3
              go_wp2_with (first | (go_at_call 57; (with_reducible refine (check_yes _ _).mono ?_); rintro e w' ⟨rfl, rfl⟩) | (go_at_call 57; (with_reducible refine (check_no _ _).mono ?_); rintro e w' ⟨rfl, rfl⟩))
              exact doorB_panic w.heap.size 2 0 w _ _ _ rfl rfl b2 b3 fun W' hb => ⟨rfl, hb⟩
          · have d2 : decide (0 ≤ a2) = false := decide_eq_false p2
            clear p0 p1 p2
            go_wp2_with (first | (go_at_call 57; (with_reducible refine (check_yes _ _).mono ?_); rintro e w' ⟨rfl, rfl⟩) | (go_at_call 57; (with_reducible refine (check_no _ _).mono ?_); rintro e w' ⟨rfl, rfl⟩))
            exact doorB_panic w.heap.size 2 0 w _ _ _ rfl rfl b2 b3 fun W' hb => ⟨rfl, hb⟩
        · have d1 : decide (a1 ≤ 65535) = false := decide_eq_false p1
          clear p0 p1
          go_wp2_with (first | (go_at_call 57; (with_reducible refine (check_yes _ _).mono ?_); rintro e w' ⟨rfl, rfl⟩) | (go_at_call 57; (with_reducible refine (check_no _ _).mono ?_); rintro e w' ⟨rfl, rfl⟩))
          exact doorB_panic w.heap.size 2 0 w _ _ _ rfl rfl b2 b3 fun W' hb => ⟨rfl, hb⟩
      · have d0 : decide (0 ≤ a1) = false := decide_eq_false p0
        clear p0
        go_wp2_with (first | (go_at_call 57; (with_reducible refine (check_yes _ _).mono ?_); rintro e w' ⟨rfl, rfl⟩) | (go_at_call 57; (with_reducible refine (check_no _ _).mono ?_); rintro e w' ⟨rfl, rfl⟩))
        exact doorB_panic w.heap.size 2 0 w _ _ _ rfl rfl b2 b3 fun W' hb => ⟨rfl, hb⟩
set_option maxRecDepth 100000 in
set_option maxHeartbeats 1000000 in
theorem build_long (a0 a1 a2 a3 a4 a5 a6 : Int) (a7 : ByteArray) (w : World) (h : okH a0 a1 a2 a3 a4) (hs : 65515 < a7.size) :
    Calls Try.prog 78 #[.agg #[.int .i64 a0, .int .i64 a1, .int .i64 a2, .int .i64 a3, .int .i64 a4, .int .u32 a5, .int .u32 a6, .string a7]] w fun e w' => e = .returned (.tuple #[.string ⟨#[]⟩, .int .i64 8]) ∧ Below w.heap.size w w' := by
  have hu58 := Try.underlying58
  have i0 : ∀ (x0 x1 x2 : Value) (w : World), (Instr.index 115 (.agg #[x0, x1, x2]) (.int .i64 0)).run Try.prog w = .ok x0 w := fun _ _ _ _ => by kernel_rfl
  have i1 : ∀ (x0 x1 x2 : Value) (w : World), (Instr.index 115 (.agg #[x0, x1, x2]) (.int .i64 1)).run Try.prog w = .ok x1 w := fun _ _ _ _ => by kernel_rfl
  have i2 : ∀ (x0 x1 x2 : Value) (w : World), (Instr.index 115 (.agg #[x0, x1, x2]) (.int .i64 2)).run Try.prog w = .ok x2 w := fun _ _ _ _ => by kernel_rfl
  obtain ⟨⟨g0, g1⟩, ⟨g2, g3⟩, ⟨g4, g5⟩, ⟨g6, g7⟩, g8, g9⟩ := h
  have d0 : decide (0 ≤ a0) = true := decide_eq_true g0
  have d1 : decide (a0 ≤ 255) = true := decide_eq_true g1
  have d2 : decide (0 ≤ a3) = true := decide_eq_true g2
  have d3 : decide (a3 ≤ 255) = true := decide_eq_true g3
  have d4 : decide (0 ≤ a4) = true := decide_eq_true g4
  have d5 : decide (a4 ≤ 255) = true := decide_eq_true g5
  have d6 : decide (0 ≤ a1) = true := decide_eq_true g6
  have d7 : decide (a1 ≤ 65535) = true := decide_eq_true g7
  have d8 : decide (0 ≤ a2) = true := decide_eq_true g8
  have d9 : decide (a2 ≤ 65535) = true := decide_eq_true g9
  have dl : decide ((a7.size : Int) ≤ 65515) = false := decide_eq_false (by omega)
  clear hs g0 g1 g2 g3 g4 g5 g6 g7 g8 g9
  go_enter_defers Try.func78, Try.ntmps78
  go_wp2
  obtain ⟨b1, b2, b3⟩ := start_blocks w #[.int .i64 a0, .int .i64 a1, .int .i64 a2, .int .i64 a3, .int .i64 a4, .int .u32 a5, .int .u32 a6, .string a7] #[.int .i64 0]
  have h1 : World.cell? _ ⟨w.heap.size, 1, none⟩ = some (.int .i64 a1) := (blk_cell b1 1).trans rfl
  have h2 : World.cell? _ ⟨w.heap.size, 2, none⟩ = some (.int .i64 a2) := (blk_cell b1 2).trans rfl
  have h7 : World.cell? _ ⟨w.heap.size, 7, none⟩ = some (.string a7) := (blk_cell b1 7).trans rfl
  have hsz : Hid (w.heap.size + 2 = ((w.alloc (.cells #[.int .i64 a0, .int .i64 a1, .int .i64 a2, .int .i64 a3, .int .i64 a4, .int .u32 a5, .int .u32 a6, .string a7] 58)).alloc (.cells #[.int .i64 0] 35)).heap.size) := by unfold Hid; simp
  generalize (w.alloc (.cells #[.int .i64 a0, .int .i64 a1, .int .i64 a2, .int .i64 a3, .int .i64 a4, .int .u32 a5, .int .u32 a6, .string a7] 58)).alloc (.cells #[.int .i64 0] 35) = W at *
  go_loop [14] (fun i => (i = .int .i64 0) ∨ (i = .int .i64 1) ∨ (i = .int .i64 2) ∨ (i = .int .i64 3)) (fun i => 3 - (intOf i).toNat)
  case atStart => exact .inl rfl
  case round =>
    rcases hrel with rfl | rfl | rfl | rfl
    · go_wp2_with (first | (go_at_call 57; (with_reducible refine (check_yes _ _).mono ?_); rintro e w' ⟨rfl, rfl⟩) | (go_at_call 57; (with_reducible refine (check_no _ _).mono ?_); rintro e w' ⟨rfl, rfl⟩))
      go_round
      case rel => simp
      case measure => simp [intOf]
    · go_wp2_with (first | (go_at_call 57; (with_reducible refine (check_yes _ _).mono ?_); rintro e w' ⟨rfl, rfl⟩) | (go_at_call 57; (with_reducible refine (check_no _ _).mono ?_); rintro e w' ⟨rfl, rfl⟩))
      go_round
      case rel => simp
      case measure => simp [intOf]
    · go_wp2_with (first | (go_at_call 57; (with_reducible refine (check_yes _ _).mono ?_); rintro e w' ⟨rfl, rfl⟩) | (go_at_call 57; (with_reducible refine (check_no _ _).mono ?_); rintro e w' ⟨rfl, rfl⟩))
      go_round
      case rel => simp
      case measure => simp [intOf]
    · go_wp2_with (first | (go_at_call 57; (with_reducible refine (check_yes _ _).mono ?_); rintro e w' ⟨rfl, rfl⟩) | (go_at_call 57; (with_reducible refine (check_no _ _).mono ?_); rintro e w' ⟨rfl, rfl⟩))
      exact doorB_panic w.heap.size 8 0 w _ _ _ rfl rfl b2 b3 fun W' hb => ⟨rfl, hb⟩
theorem hdr_nums (len a0 a1 a2 a3 a4 m a5 a6 x y : Int) (hx : x = m / 256 % 256) (hy : y = m % 256) (h5 : 0 ≤ a5) (h5' : a5 < 4294967296) (h6 : 0 ≤ a6) (h6' : a6 < 4294967296) :
    strOfNums [69, a0 % 256, len / 256 % 256, len % 256, a1 / 256 % 256, a1 % 256, a2 / 256 % 256, a2 % 256, a3 % 256, a4 % 256, x, y, a5 / 16777216, a5 / 65536 % 256, a5 / 256 % 256, a5 % 256, a6 / 16777216, a6 / 65536 % 256, a6 / 256 % 256, a6 % 256] = hdrV len a0 a1 a2 a3 a4 m a5 a6 := by
  subst hx
  subst hy
  have e5 : a5 / 16777216 % 256 = a5 / 16777216 := by omega
  have e6 : a6 / 16777216 % 256 = a6 / 16777216 := by omega
  unfold hdrV u8
  rw [e5, e6]
  rfl
theorem keep_blk {W : World} {k nb j : Nat} {o : Obj} {v : Value} (h : W.heap[k]? = some o) (hne : k ≠ nb) : (W.setCell ⟨nb, j, none⟩ v).heap[k]? = some o := (heap_setCell_other _ _ _ _ (by simpa using hne)).trans h
theorem conv_row (W : World) (nb c : Nat) (xs : List Int) (hm : xs.length ≤ 1000) (cs : Array Value) (hcs : (xs.map (Value.int .u8)).toArray = cs) (n : Nat) (hn : xs.length = n) (hb : W.heap[nb]? = some (.cells cs 5 (0, 0))) : (convert 116 9 (.slice (some ⟨nb, 0, none⟩) n c)).run Try.prog W = .ok (.string (strOfNums xs)) W := by
  subst hcs
  subst hn
  refine string_of_reads Try.underlying116 Try.underlying5 Try.underlying9 ⟨rfl, by omega, fun h0 => ⟨_, rfl, fun j hj => ?_⟩⟩
  have hadd : (⟨nb, 0, none⟩ : Addr).add j = ⟨nb, j, none⟩ := by unfold Addr.add; split <;> simp_all
  rw [hadd, blk_cell hb j]
  simp [List.getD, hj]
set_option maxRecDepth 100000 in
set_option maxHeartbeats 20000000 in
theorem build_good (a0 a1 a2 a3 a4 a5 a6 : Int) (a7 : ByteArray) (w : World) (h : okH a0 a1 a2 a3 a4) (h5 : 0 ≤ a5) (h5' : a5 < 4294967296) (h6 : 0 ≤ a6) (h6' : a6 < 4294967296) (hs : a7.size ≤ 65515) :
    Calls Try.prog 78 #[.agg #[.int .i64 a0, .int .i64 a1, .int .i64 a2, .int .i64 a3, .int .i64 a4, .int .u32 a5, .int .u32 a6, .string a7]] w fun e w' => e = .returned (.tuple #[.string (packV a0 a1 a2 a3 a4 a5 a6 a7), .int .i64 0]) ∧ Below w.heap.size w w' := by
  have hu58 := Try.underlying58
  have i0 : ∀ (x0 x1 x2 : Value) (w : World), (Instr.index 115 (.agg #[x0, x1, x2]) (.int .i64 0)).run Try.prog w = .ok x0 w := fun _ _ _ _ => by kernel_rfl
  have i1 : ∀ (x0 x1 x2 : Value) (w : World), (Instr.index 115 (.agg #[x0, x1, x2]) (.int .i64 1)).run Try.prog w = .ok x1 w := fun _ _ _ _ => by kernel_rfl
  have i2 : ∀ (x0 x1 x2 : Value) (w : World), (Instr.index 115 (.agg #[x0, x1, x2]) (.int .i64 2)).run Try.prog w = .ok x2 w := fun _ _ _ _ => by kernel_rfl
  obtain ⟨⟨g0, g1⟩, ⟨g2, g3⟩, ⟨g4, g5⟩, ⟨g6, g7⟩, g8, g9⟩ := h
  have d0 : decide (0 ≤ a0) = true := decide_eq_true g0
  have d1 : decide (a0 ≤ 255) = true := decide_eq_true g1
  have d2 : decide (0 ≤ a3) = true := decide_eq_true g2
  have d3 : decide (a3 ≤ 255) = true := decide_eq_true g3
  have d4 : decide (0 ≤ a4) = true := decide_eq_true g4
  have d5 : decide (a4 ≤ 255) = true := decide_eq_true g5
  have d6 : decide (0 ≤ a1) = true := decide_eq_true g6
  have d7 : decide (a1 ≤ 65535) = true := decide_eq_true g7
  have d8 : decide (0 ≤ a2) = true := decide_eq_true g8
  have d9 : decide (a2 ≤ 65535) = true := decide_eq_true g9
  have hmk : ∀ w : World, (Instr.makeSlice 116 (.int .i64 20) (.int .i64 20)).run Try.prog w = .ok (.slice (some ⟨w.heap.size, 0, none⟩) 20 20) (w.alloc (.cells #[.int .u8 0, .int .u8 0, .int .u8 0, .int .u8 0, .int .u8 0, .int .u8 0, .int .u8 0, .int .u8 0, .int .u8 0, .int .u8 0, .int .u8 0, .int .u8 0, .int .u8 0, .int .u8 0, .int .u8 0, .int .u8 0, .int .u8 0, .int .u8 0, .int .u8 0, .int .u8 0] 5)) := fun _ => by kernel_rfl
  have dl : decide ((a7.size : Int) ≤ 65515) = true := decide_eq_true (by omega)
  have wl : wrap64 (20 + (a7.size : Int)) = 20 + a7.size := by unfold wrap64; omega
  have wi : IntKind.i64.wrap (20 + (a7.size : Int)) = 20 + a7.size := by rw [IntKind.wrap_i64]; omega
  have u0 : IntKind.u32.wrap (20 + (a7.size : Int)) = 20 + a7.size := by rw [IntKind.wrap_u32]; omega
  have u1 : IntKind.u32.wrap a1 = a1 := by rw [IntKind.wrap_u32]; omega
  have u2 : IntKind.u32.wrap a2 = a2 := by rw [IntKind.wrap_u32]; omega
  have ml : (20 + (a7.size : Int)) % 4294967296 = 20 + a7.size := by omega
  have m1 : a1 % 4294967296 = a1 := by omega
  have m2 : a2 % 4294967296 = a2 := by omega
  go_enter_defers Try.func78, Try.ntmps78
  go_wp2
  obtain ⟨b1, b2, b3⟩ := start_blocks w #[.int .i64 a0, .int .i64 a1, .int .i64 a2, .int .i64 a3, .int .i64 a4, .int .u32 a5, .int .u32 a6, .string a7] #[.int .i64 0]
  have h1 : World.cell? _ ⟨w.heap.size, 1, none⟩ = some (.int .i64 a1) := (blk_cell b1 1).trans rfl
  have h2 : World.cell? _ ⟨w.heap.size, 2, none⟩ = some (.int .i64 a2) := (blk_cell b1 2).trans rfl
  have h7 : World.cell? _ ⟨w.heap.size, 7, none⟩ = some (.string a7) := (blk_cell b1 7).trans rfl
  have hsz : Hid (w.heap.size + 2 = ((w.alloc (.cells #[.int .i64 a0, .int .i64 a1, .int .i64 a2, .int .i64 a3, .int .i64 a4, .int .u32 a5, .int .u32 a6, .string a7] 58)).alloc (.cells #[.int .i64 0] 35)).heap.size) := by unfold Hid; simp
  have hv2 : Hid (0 ≤ 20 + (a7.size : Int) ∧ 20 + (a7.size : Int) < 4294967296) := ⟨by omega, by omega⟩
  have hv4 : Hid (0 ≤ a1 ∧ a1 < 4294967296) := ⟨by omega, by omega⟩
  have hv6 : Hid (0 ≤ a2 ∧ a2 < 4294967296) := ⟨by omega, by omega⟩
  have hv12 : Hid (0 ≤ a5 ∧ a5 < 4294967296) := ⟨h5, h5'⟩
  have hv16 : Hid (0 ≤ a6 ∧ a6 < 4294967296) := ⟨h6, h6'⟩
  have hs8 : Hid (a7.size ≤ 65515) := hs
  clear hs g0 g1 g2 g3 g4 g5 g6 g7 g8 g9 h5 h5' h6 h6'
  generalize (w.alloc (.cells #[.int .i64 a0, .int .i64 a1, .int .i64 a2, .int .i64 a3, .int .i64 a4, .int .u32 a5, .int .u32 a6, .string a7] 58)).alloc (.cells #[.int .i64 0] 35) = W at *
  go_loop [14] (fun i => (i = .int .i64 0) ∨ (i = .int .i64 1) ∨ (i = .int .i64 2) ∨ (i = .int .i64 3)) (fun i => 3 - (intOf i).toNat)
  case atStart => exact .inl rfl
  case round =>
    rcases hrel with rfl | rfl | rfl | rfl
    · go_wp2_with (first | (go_at_call 57; (with_reducible refine (check_yes _ _).mono ?_); rintro e w' ⟨rfl, rfl⟩) | (go_at_call 57; (with_reducible refine (check_no _ _).mono ?_); rintro e w' ⟨rfl, rfl⟩))
      go_round
      case rel => simp
      case measure => simp [intOf]
    · go_wp2_with (first | (go_at_call 57; (with_reducible refine (check_yes _ _).mono ?_); rintro e w' ⟨rfl, rfl⟩) | (go_at_call 57; (with_reducible refine (check_no _ _).mono ?_); rintro e w' ⟨rfl, rfl⟩))
      go_round
      case rel => simp
      case measure => simp [intOf]
    · go_wp2_with (first | (go_at_call 57; (with_reducible refine (check_yes _ _).mono ?_); rintro e w' ⟨rfl, rfl⟩) | (go_at_call 57; (with_reducible refine (check_no _ _).mono ?_); rintro e w' ⟨rfl, rfl⟩))
      go_round
      case rel => simp
      case measure => simp [intOf]
    · skip
      go_wp2_with (first | (go_at_call 57; (with_reducible refine (check_yes _ _).mono ?_); rintro e w' ⟨rfl, rfl⟩) | (go_at_call 57; (with_reducible refine (check_no _ _).mono ?_); rintro e w' ⟨rfl, rfl⟩))
      have A := blk_alloc b1 (.cells #[.int .u8 0, .int .u8 0, .int .u8 0, .int .u8 0, .int .u8 0, .int .u8 0, .int .u8 0, .int .u8 0, .int .u8 0, .int .u8 0, .int .u8 0, .int .u8 0, .int .u8 0, .int .u8 0, .int .u8 0, .int .u8 0, .int .u8 0, .int .u8 0, .int .u8 0, .int .u8 0] 5)
      have E := blk_alloc b2 (.cells #[.int .u8 0, .int .u8 0, .int .u8 0, .int .u8 0, .int .u8 0, .int .u8 0, .int .u8 0, .int .u8 0, .int .u8 0, .int .u8 0, .int .u8 0, .int .u8 0, .int .u8 0, .int .u8 0, .int .u8 0, .int .u8 0, .int .u8 0, .int .u8 0, .int .u8 0, .int .u8 0] 5)
      have Bb := blk_new W (.cells #[.int .u8 0, .int .u8 0, .int .u8 0, .int .u8 0, .int .u8 0, .int .u8 0, .int .u8 0, .int .u8 0, .int .u8 0, .int .u8 0, .int .u8 0, .int .u8 0, .int .u8 0, .int .u8 0, .int .u8 0, .int .u8 0, .int .u8 0, .int .u8 0, .int .u8 0, .int .u8 0] 5)
      have Z := b3.alloc b3.size (.cells #[.int .u8 0, .int .u8 0, .int .u8 0, .int .u8 0, .int .u8 0, .int .u8 0, .int .u8 0, .int .u8 0, .int .u8 0, .int .u8 0, .int .u8 0, .int .u8 0, .int .u8 0, .int .u8 0, .int .u8 0, .int .u8 0, .int .u8 0, .int .u8 0, .int .u8 0, .int .u8 0] 5)
      have hnb : Hid (w.heap.size + 2 = W.heap.size) := hsz
      generalize hW1 : W.alloc (.cells #[.int .u8 0, .int .u8 0, .int .u8 0, .int .u8 0, .int .u8 0, .int .u8 0, .int .u8 0, .int .u8 0, .int .u8 0, .int .u8 0, .int .u8 0, .int .u8 0, .int .u8 0, .int .u8 0, .int .u8 0, .int .u8 0, .int .u8 0, .int .u8 0, .int .u8 0, .int .u8 0] 5) = W1 at A E Bb Z ⊢
      clear hW1 b1 b2 b3 h1 h2 h7 hsz
      generalize W.heap.size = nb at Bb hnb ⊢
      have hA : Hid (w.heap.size ≠ nb) := by have := hnb.out; unfold Hid; omega
      have hE : Hid (w.heap.size + 1 ≠ nb) := by have := hnb.out; unfold Hid; omega
      have hZ : Hid (w.heap.size ≤ nb) := by have := hnb.out; unfold Hid; omega
      clear hnb
      replace A := blk_drew A
      replace E := blk_drew E
      replace Bb := blk_drew Bb
      replace Z := below_drew1 Z
      refine wp_region_noPanic ?_
      try clear hHeld
      refine start_ (n := 21) (S := fun w' => w'.cell? ⟨w.heap.size, 0, none⟩ = some (.int .i64 a0) ∧ w'.cell? ⟨w.heap.size, 1, none⟩ = some (.int .i64 a1) ∧ w'.cell? ⟨w.heap.size, 2, none⟩ = some (.int .i64 a2) ∧ w'.cell? ⟨w.heap.size, 3, none⟩ = some (.int .i64 a3) ∧ w'.cell? ⟨w.heap.size, 4, none⟩ = some (.int .i64 a4) ∧ w'.cell? ⟨w.heap.size, 5, none⟩ = some (.int .u32 a5) ∧ w'.cell? ⟨w.heap.size, 6, none⟩ = some (.int .u32 a6) ∧ w'.cell? ⟨w.heap.size, 7, none⟩ = some (.string a7)) (ds := []) #[false, false, false, false, false, false, false, false, false, false, false, false, false, false, false, false, false, false, false, false, false] (by kernel_rfl) rfl rfl (by exact ⟨(blk_cell A 0).trans rfl, (blk_cell A 1).trans rfl, (blk_cell A 2).trans rfl, (blk_cell A 3).trans rfl, (blk_cell A 4).trans rfl, (blk_cell A 5).trans rfl, (blk_cell A 6).trans rfl, (blk_cell A 7).trans rfl⟩) (fun hHeld => ?_)
      generalize World.drew W1 = W2 at A E Bb Z hHeld ⊢
      refine pure_ (i := 0) (N := some 50) (v := ?_) (a' := ?_) #[true, false, false, false, false, false, false, false, false, false, false, false, false, false, false, false, false, false, false, false, false] rfl rfl (by kernel_rfl) (fun _ _ _ h => h) (Or.inl ⟨by rfl, ?_⟩) ?_ ?_
      rotate_left
      · intro w'; go_simp; try with_reducible rfl
      rotate_left
      · simp only [Act.put, List.setIfInBounds_toArray, List.set_cons_zero, List.set_cons_succ, i64_w, i32_w]; rfl
      refine pure_ (i := 1) (N := some 51) (v := ?_) (a' := ?_) #[true, true, false, false, false, false, false, false, false, false, false, false, false, false, false, false, false, false, false, false, false] rfl rfl (by kernel_rfl) (fun _ _ _ h => h) (Or.inl ⟨by rfl, ?_⟩) ?_ ?_
      rotate_left
      · intro w'; go_simp; try with_reducible rfl
      rotate_left
      · simp only [Act.put, List.setIfInBounds_toArray, List.set_cons_zero, List.set_cons_succ, i64_w, i32_w]; rfl
      refine pure_ (i := 2) (N := some 52) (v := ?_) (a' := ?_) #[true, true, true, false, false, false, false, false, false, false, false, false, false, false, false, false, false, false, false, false, false] rfl rfl (by kernel_rfl) (fun _ _ _ h => h) (Or.inl ⟨by rfl, ?_⟩) ?_ ?_
      rotate_left
      · intro w'; go_simp; try with_reducible rfl
      rotate_left
      · simp only [Act.put, List.setIfInBounds_toArray, List.set_cons_zero, List.set_cons_succ, i64_w, i32_w]; rfl
      refine pure_ (i := 3) (N := some 53) (v := ?_) (a' := ?_) #[true, true, true, true, false, false, false, false, false, false, false, false, false, false, false, false, false, false, false, false, false] rfl rfl (by kernel_rfl) (fun _ _ _ h => h) (Or.inl ⟨by rfl, ?_⟩) ?_ ?_
      rotate_left
      · intro w'; go_simp; try with_reducible rfl
      rotate_left
      · simp only [Act.put, List.setIfInBounds_toArray, List.set_cons_zero, List.set_cons_succ, i64_w, i32_w]; rfl
      refine pure_ (i := 4) (N := some 54) (v := ?_) (a' := ?_) #[true, true, true, true, true, false, false, false, false, false, false, false, false, false, false, false, false, false, false, false, false] rfl rfl (by kernel_rfl) (fun _ _ _ h => h) (Or.inl ⟨by rfl, ?_⟩) ?_ ?_
      rotate_left
      · intro w'; go_simp; try with_reducible rfl
      rotate_left
      · simp only [Act.put, List.setIfInBounds_toArray, List.set_cons_zero, List.set_cons_succ, i64_w, i32_w]; rfl
      refine take_ (i := 5) (N := some 55) (v := ?_) (a' := ?_) #[true, true, true, true, true, true, false, false, false, false, false, false, false, false, false, false, false, false, false, false, false] rfl rfl (by kernel_rfl) (fun _ _ _ h => h) (Or.inl ⟨by rfl, ?_⟩) hHeld ?_ ?_
      rotate_left
      · intro w' hS_; (try dsimp only at hS_); go_split_ands; go_simp; try with_reducible rfl
      rotate_left
      · simp only [Act.put, List.setIfInBounds_toArray, List.set_cons_zero, List.set_cons_succ, i64_w, i32_w]; rfl
      refine pure_ (i := 6) (N := some 56) (v := ?_) (a' := ?_) #[true, true, true, true, true, true, true, false, false, false, false, false, false, false, false, false, false, false, false, false, false] rfl rfl (by kernel_rfl) (fun _ _ _ h => h) (Or.inl ⟨by rfl, ?_⟩) ?_ ?_
      rotate_left
      · intro w'; go_simp; try with_reducible rfl
      rotate_left
      · simp only [Act.put, List.setIfInBounds_toArray, List.set_cons_zero, List.set_cons_succ, i64_w, i32_w]; rfl
      refine pure_ (i := 7) (N := some 57) (v := ?_) (a' := ?_) #[true, true, true, true, true, true, true, true, false, false, false, false, false, false, false, false, false, false, false, false, false] rfl rfl (by kernel_rfl) (fun _ _ _ h => h) (Or.inl ⟨by rfl, ?_⟩) ?_ ?_
      rotate_left
      · intro w'; go_simp; try with_reducible rfl
      rotate_left
      · simp only [Act.put, List.setIfInBounds_toArray, List.set_cons_zero, List.set_cons_succ, i64_w, i32_w]; rfl
      refine take_ (i := 8) (N := some 58) (v := ?_) (a' := ?_) #[true, true, true, true, true, true, true, true, true, false, false, false, false, false, false, false, false, false, false, false, false] rfl rfl (by kernel_rfl) (fun _ _ _ h => h) (Or.inl ⟨by rfl, ?_⟩) hHeld ?_ ?_
      rotate_left
      · intro w' hS_; (try dsimp only at hS_); go_split_ands; go_simp; try with_reducible rfl
      rotate_left
      · simp only [Act.put, List.setIfInBounds_toArray, List.set_cons_zero, List.set_cons_succ, i64_w, i32_w]; rfl
      refine pure_ (i := 9) (N := some 59) (v := ?_) (a' := ?_) #[true, true, true, true, true, true, true, true, true, true, false, false, false, false, false, false, false, false, false, false, false] rfl rfl (by kernel_rfl) (fun _ _ _ h => h) (Or.inl ⟨by rfl, ?_⟩) ?_ ?_
      rotate_left
      · intro w'; go_simp; try with_reducible rfl
      rotate_left
      · simp only [Act.put, List.setIfInBounds_toArray, List.set_cons_zero, List.set_cons_succ, i64_w, i32_w]; rfl
      refine pure_ (i := 10) (N := some 60) (v := ?_) (a' := ?_) #[true, true, true, true, true, true, true, true, true, true, true, false, false, false, false, false, false, false, false, false, false] rfl rfl (by kernel_rfl) (fun _ _ _ h => h) (Or.inl ⟨by rfl, ?_⟩) ?_ ?_
      rotate_left
      · intro w'; go_simp; try with_reducible rfl
      rotate_left
      · simp only [Act.put, List.setIfInBounds_toArray, List.set_cons_zero, List.set_cons_succ, i64_w, i32_w]; rfl
      refine take_ (i := 11) (N := some 61) (v := ?_) (a' := ?_) #[true, true, true, true, true, true, true, true, true, true, true, true, false, false, false, false, false, false, false, false, false] rfl rfl (by kernel_rfl) (fun _ _ _ h => h) (Or.inl ⟨by rfl, ?_⟩) hHeld ?_ ?_
      rotate_left
      · intro w' hS_; (try dsimp only at hS_); go_split_ands; go_simp; try with_reducible rfl
      rotate_left
      · simp only [Act.put, List.setIfInBounds_toArray, List.set_cons_zero, List.set_cons_succ, i64_w, i32_w]; rfl
      refine pure_ (i := 12) (N := some 62) (v := ?_) (a' := ?_) #[true, true, true, true, true, true, true, true, true, true, true, true, true, false, false, false, false, false, false, false, false] rfl rfl (by kernel_rfl) (fun _ _ _ h => h) (Or.inl ⟨by rfl, ?_⟩) ?_ ?_
      rotate_left
      · intro w'; go_simp; try with_reducible rfl
      rotate_left
      · simp only [Act.put, List.setIfInBounds_toArray, List.set_cons_zero, List.set_cons_succ, i64_w, i32_w]; rfl
      refine pure_ (i := 13) (N := some 63) (v := ?_) (a' := ?_) #[true, true, true, true, true, true, true, true, true, true, true, true, true, true, false, false, false, false, false, false, false] rfl rfl (by kernel_rfl) (fun _ _ _ h => h) (Or.inl ⟨by rfl, ?_⟩) ?_ ?_
      rotate_left
      · intro w'; go_simp; try with_reducible rfl
      rotate_left
      · simp only [Act.put, List.setIfInBounds_toArray, List.set_cons_zero, List.set_cons_succ, i64_w, i32_w]; rfl
      refine one_ (i := 14) (N := none) #[true, true, true, true, true, true, true, true, true, true, true, true, true, true, true, false, false, false, false, false, false] rfl rfl (by kernel_rfl) (by decide) (fun K hK => ?_)
      have cc : World.cell? _ ⟨nb, 0, none⟩ = some (.int .u8 0) := (blk_cell Bb 0).trans rfl
      have ff := blk_frozen Bb 0
      refine skip_ (w1 := World.setCell W2 ⟨nb, 0, none⟩ (.int .u8 (69))) (by rfl) rfl ?_ ?_
      · go_simp; try simp only [IntKind.wrap_u8]
      clear cc ff
      replace A := keep_blk (j := 0) (v := .int .u8 (69)) A hA.out
      replace E := keep_blk (j := 0) (v := .int .u8 (69)) E hE.out
      replace Bb := blk_put (cs' := #[.int .u8 69, .int .u8 0, .int .u8 0, .int .u8 0, .int .u8 0, .int .u8 0, .int .u8 0, .int .u8 0, .int .u8 0, .int .u8 0, .int .u8 0, .int .u8 0, .int .u8 0, .int .u8 0, .int .u8 0, .int .u8 0, .int .u8 0, .int .u8 0, .int .u8 0, .int .u8 0]) Bb 0 (.int .u8 (69)) rfl
      replace Z := Z.setCell (p := ⟨nb, 0, none⟩) hZ.out (.int .u8 (69))
      generalize World.setCell W2 ⟨nb, 0, none⟩ (.int .u8 (69)) = W3 at A E Bb Z ⊢
      try clear hHeld
      refine hK.out _ _ (by exact ⟨(blk_cell A 0).trans rfl, (blk_cell A 1).trans rfl, (blk_cell A 2).trans rfl, (blk_cell A 3).trans rfl, (blk_cell A 4).trans rfl, (blk_cell A 5).trans rfl, (blk_cell A 6).trans rfl, (blk_cell A 7).trans rfl⟩) (fun hHeld => ?_)
      clear hK K
      refine pure_ (i := 15) (N := some 64) (v := ?_) (a' := ?_) #[true, true, true, true, true, true, true, true, true, true, true, true, true, true, true, true, false, false, false, false, false] rfl rfl (by kernel_rfl) (fun _ _ _ h => h) (Or.inl ⟨by rfl, ?_⟩) ?_ ?_
      rotate_left
      · intro w'; go_simp; try with_reducible rfl
      rotate_left
      · simp only [Act.put, List.setIfInBounds_toArray, List.set_cons_zero, List.set_cons_succ, i64_w, i32_w]; rfl
      refine one_ (i := 16) (N := none) #[true, true, true, true, true, true, true, true, true, true, true, true, true, true, true, true, true, false, false, false, false] rfl rfl (by kernel_rfl) (by decide) (fun K hK => ?_)
      have cc : World.cell? _ ⟨nb, 1, none⟩ = some (.int .u8 0) := (blk_cell Bb 1).trans rfl
      have ff := blk_frozen Bb 1
      refine skip_ (w1 := World.setCell W3 ⟨nb, 1, none⟩ (.int .u8 (a0 % 256))) (by rfl) rfl ?_ ?_
      · go_simp; try simp only [IntKind.wrap_u8]
      clear cc ff
      replace A := keep_blk (j := 1) (v := .int .u8 (a0 % 256)) A hA.out
      replace E := keep_blk (j := 1) (v := .int .u8 (a0 % 256)) E hE.out
      replace Bb := blk_put (cs' := #[.int .u8 69, .int .u8 (a0 % 256), .int .u8 0, .int .u8 0, .int .u8 0, .int .u8 0, .int .u8 0, .int .u8 0, .int .u8 0, .int .u8 0, .int .u8 0, .int .u8 0, .int .u8 0, .int .u8 0, .int .u8 0, .int .u8 0, .int .u8 0, .int .u8 0, .int .u8 0, .int .u8 0]) Bb 1 (.int .u8 (a0 % 256)) rfl
      replace Z := Z.setCell (p := ⟨nb, 1, none⟩) hZ.out (.int .u8 (a0 % 256))
      generalize World.setCell W3 ⟨nb, 1, none⟩ (.int .u8 (a0 % 256)) = W4 at A E Bb Z ⊢
      try clear hHeld
      refine hK.out _ _ (by exact ⟨(blk_cell A 0).trans rfl, (blk_cell A 1).trans rfl, (blk_cell A 2).trans rfl, (blk_cell A 3).trans rfl, (blk_cell A 4).trans rfl, (blk_cell A 5).trans rfl, (blk_cell A 6).trans rfl, (blk_cell A 7).trans rfl⟩) (fun hHeld => ?_)
      clear hK K
      refine pure_ (i := 17) (N := some 65) (v := ?_) (a' := ?_) #[true, true, true, true, true, true, true, true, true, true, true, true, true, true, true, true, true, true, false, false, false] rfl rfl (by kernel_rfl) (fun _ _ _ h => h) (Or.inl ⟨by rfl, ?_⟩) ?_ ?_
      rotate_left
      · intro w'; go_simp; try with_reducible rfl
      rotate_left
      · simp only [Act.put, List.setIfInBounds_toArray, List.set_cons_zero, List.set_cons_succ, i64_w, i32_w]; rfl
      refine one_ (i := 18) (N := none) #[true, true, true, true, true, true, true, true, true, true, true, true, true, true, true, true, true, true, true, false, false] rfl rfl (by kernel_rfl) (by decide) (fun K hK => ?_)
      have cc : World.cell? _ ⟨nb, 8, none⟩ = some (.int .u8 0) := (blk_cell Bb 8).trans rfl
      have ff := blk_frozen Bb 8
      refine skip_ (w1 := World.setCell W4 ⟨nb, 8, none⟩ (.int .u8 (a3 % 256))) (by rfl) rfl ?_ ?_
      · go_simp; try simp only [IntKind.wrap_u8]
      clear cc ff
      replace A := keep_blk (j := 8) (v := .int .u8 (a3 % 256)) A hA.out
      replace E := keep_blk (j := 8) (v := .int .u8 (a3 % 256)) E hE.out
      replace Bb := blk_put (cs' := #[.int .u8 69, .int .u8 (a0 % 256), .int .u8 0, .int .u8 0, .int .u8 0, .int .u8 0, .int .u8 0, .int .u8 0, .int .u8 (a3 % 256), .int .u8 0, .int .u8 0, .int .u8 0, .int .u8 0, .int .u8 0, .int .u8 0, .int .u8 0, .int .u8 0, .int .u8 0, .int .u8 0, .int .u8 0]) Bb 8 (.int .u8 (a3 % 256)) rfl
      replace Z := Z.setCell (p := ⟨nb, 8, none⟩) hZ.out (.int .u8 (a3 % 256))
      generalize World.setCell W4 ⟨nb, 8, none⟩ (.int .u8 (a3 % 256)) = W5 at A E Bb Z ⊢
      try clear hHeld
      refine hK.out _ _ (by exact ⟨(blk_cell A 0).trans rfl, (blk_cell A 1).trans rfl, (blk_cell A 2).trans rfl, (blk_cell A 3).trans rfl, (blk_cell A 4).trans rfl, (blk_cell A 5).trans rfl, (blk_cell A 6).trans rfl, (blk_cell A 7).trans rfl⟩) (fun hHeld => ?_)
      clear hK K
      refine pure_ (i := 19) (N := some 66) (v := ?_) (a' := ?_) #[true, true, true, true, true, true, true, true, true, true, true, true, true, true, true, true, true, true, true, true, false] rfl rfl (by kernel_rfl) (fun _ _ _ h => h) (Or.inl ⟨by rfl, ?_⟩) ?_ ?_
      rotate_left
      · intro w'; go_simp; try with_reducible rfl
      rotate_left
      · simp only [Act.put, List.setIfInBounds_toArray, List.set_cons_zero, List.set_cons_succ, i64_w, i32_w]; rfl
      refine one_ (i := 20) (N := none) #[true, true, true, true, true, true, true, true, true, true, true, true, true, true, true, true, true, true, true, true, true] rfl rfl (by kernel_rfl) (by decide) (fun K hK => ?_)
      have cc : World.cell? _ ⟨nb, 9, none⟩ = some (.int .u8 0) := (blk_cell Bb 9).trans rfl
      have ff := blk_frozen Bb 9
      refine skip_ (w1 := World.setCell W5 ⟨nb, 9, none⟩ (.int .u8 (a4 % 256))) (by rfl) rfl ?_ ?_
      · go_simp; try simp only [IntKind.wrap_u8]
      clear cc ff
      replace A := keep_blk (j := 9) (v := .int .u8 (a4 % 256)) A hA.out
      replace E := keep_blk (j := 9) (v := .int .u8 (a4 % 256)) E hE.out
      replace Bb := blk_put (cs' := #[.int .u8 69, .int .u8 (a0 % 256), .int .u8 0, .int .u8 0, .int .u8 0, .int .u8 0, .int .u8 0, .int .u8 0, .int .u8 (a3 % 256), .int .u8 (a4 % 256), .int .u8 0, .int .u8 0, .int .u8 0, .int .u8 0, .int .u8 0, .int .u8 0, .int .u8 0, .int .u8 0, .int .u8 0, .int .u8 0]) Bb 9 (.int .u8 (a4 % 256)) rfl
      replace Z := Z.setCell (p := ⟨nb, 9, none⟩) hZ.out (.int .u8 (a4 % 256))
      generalize World.setCell W5 ⟨nb, 9, none⟩ (.int .u8 (a4 % 256)) = W6 at A E Bb Z ⊢
      try clear hHeld
      refine hK.out _ _ (by exact ⟨(blk_cell A 0).trans rfl, (blk_cell A 1).trans rfl, (blk_cell A 2).trans rfl, (blk_cell A 3).trans rfl, (blk_cell A 4).trans rfl, (blk_cell A 5).trans rfl, (blk_cell A 6).trans rfl, (blk_cell A 7).trans rfl⟩) (fun hHeld => ?_)
      clear hK K
      refine done_ (by kernel_rfl) ?_
      refine NoPanic.normal ?_
      go_wp2
      replace A := blk_drew A
      replace E := blk_drew E
      replace Bb := blk_drew Bb
      replace Z := below_drew1 Z
      refine wp_region_noPanic ?_
      try clear hHeld
      refine start_ (n := 8) (S := fun w' => w'.cell? ⟨w.heap.size, 0, none⟩ = some (.int .i64 a0) ∧ w'.cell? ⟨w.heap.size, 1, none⟩ = some (.int .i64 a1) ∧ w'.cell? ⟨w.heap.size, 2, none⟩ = some (.int .i64 a2) ∧ w'.cell? ⟨w.heap.size, 3, none⟩ = some (.int .i64 a3) ∧ w'.cell? ⟨w.heap.size, 4, none⟩ = some (.int .i64 a4) ∧ w'.cell? ⟨w.heap.size, 5, none⟩ = some (.int .u32 a5) ∧ w'.cell? ⟨w.heap.size, 6, none⟩ = some (.int .u32 a6) ∧ w'.cell? ⟨w.heap.size, 7, none⟩ = some (.string a7)) (ds := []) #[false, false, false, false, false, false, false, false] (by kernel_rfl) rfl rfl (by exact ⟨(blk_cell A 0).trans rfl, (blk_cell A 1).trans rfl, (blk_cell A 2).trans rfl, (blk_cell A 3).trans rfl, (blk_cell A 4).trans rfl, (blk_cell A 5).trans rfl, (blk_cell A 6).trans rfl, (blk_cell A 7).trans rfl⟩) (fun hHeld => ?_)
      generalize World.drew W6 = W7 at A E Bb Z hHeld ⊢
      refine pure_ (i := 0) (N := some 67) (v := ?_) (a' := ?_) #[true, false, false, false, false, false, false, false] rfl rfl (by kernel_rfl) (fun _ _ _ h => h) (Or.inl ⟨by rfl, ?_⟩) ?_ ?_
      rotate_left
      · intro w'; go_simp; try with_reducible rfl
      rotate_left
      · simp only [Act.put, List.setIfInBounds_toArray, List.set_cons_zero, List.set_cons_succ, i64_w, i32_w]; rfl
      refine pure_ (i := 1) (N := some 68) (v := ?_) (a' := ?_) #[true, true, false, false, false, false, false, false] rfl rfl (by kernel_rfl) (fun _ _ _ h => h) (Or.inl ⟨by rfl, ?_⟩) ?_ ?_
      rotate_left
      · intro w'; go_simp; try with_reducible rfl
      rotate_left
      · simp only [Act.put, List.setIfInBounds_toArray, List.set_cons_zero, List.set_cons_succ, i64_w, i32_w]; rfl
      refine pure_ (i := 2) (N := some 69) (v := ?_) (a' := ?_) #[true, true, true, false, false, false, false, false] rfl rfl (by kernel_rfl) (fun _ _ _ h => h) (Or.inl ⟨by rfl, ?_⟩) ?_ ?_
      rotate_left
      · intro w'; go_simp; try with_reducible rfl
      rotate_left
      · simp only [Act.put, List.setIfInBounds_toArray, List.set_cons_zero, List.set_cons_succ, i64_w, i32_w]; rfl
      refine take_ (i := 3) (N := some 70) (v := ?_) (a' := ?_) #[true, true, true, true, false, false, false, false] rfl rfl (by kernel_rfl) (fun _ _ _ h => h) (Or.inl ⟨by rfl, ?_⟩) hHeld ?_ ?_
      rotate_left
      · intro w' hS_; (try dsimp only at hS_); go_split_ands; go_simp; try with_reducible rfl
      rotate_left
      · simp only [Act.put, List.setIfInBounds_toArray, List.set_cons_zero, List.set_cons_succ, i64_w, i32_w]; rfl
      refine pure_ (i := 4) (N := some 71) (v := ?_) (a' := ?_) #[true, true, true, true, true, false, false, false] rfl rfl (by kernel_rfl) (fun _ _ _ h => h) (Or.inl ⟨by rfl, ?_⟩) ?_ ?_
      rotate_left
      · intro w'; go_simp; try with_reducible rfl
      rotate_left
      · simp only [Act.put, List.setIfInBounds_toArray, List.set_cons_zero, List.set_cons_succ, i64_w, i32_w]; rfl
      refine pure_ (i := 5) (N := some 72) (v := ?_) (a' := ?_) #[true, true, true, true, true, true, false, false] rfl rfl (by kernel_rfl) (fun _ _ _ h => h) (Or.inl ⟨by rfl, ?_⟩) ?_ ?_
      rotate_left
      · intro w'; go_simp; try with_reducible rfl
      rotate_left
      · simp only [Act.put, List.setIfInBounds_toArray, List.set_cons_zero, List.set_cons_succ, i64_w, i32_w]; rfl
      refine pure_ (i := 6) (N := some 73) (v := ?_) (a' := ?_) #[true, true, true, true, true, true, true, false] rfl rfl (by kernel_rfl) (fun _ _ _ h => h) (Or.inl ⟨by rfl, ?_⟩) ?_ ?_
      rotate_left
      · intro w'; go_simp; try with_reducible rfl
      rotate_left
      · simp only [Act.put, List.setIfInBounds_toArray, List.set_cons_zero, List.set_cons_succ, i64_w, i32_w]; rfl
      refine one_ (i := 7) (N := some 74) #[true, true, true, true, true, true, true, true] rfl rfl (by kernel_rfl) (by decide) (fun K hK => ?_)
      refine goes_ Try.func86 (by kernel_rfl) rfl #[.slice (some ⟨nb, 2, none⟩) 2 18, .int .u32 (20 + (a7.size : Int))] (by rfl) rfl rfl (by (try simp only [List.map_toArray, List.map_cons, List.map_nil]); first | done | rfl) ?_
      refine (put2 nb 2 18 (20 + (a7.size : Int)) hv2.out.1 hv2.out.2 0 0 _ _ Bb rfl rfl).mono ?_
      rintro e w' ⟨rfl, rfl⟩
      refine ⟨_, rfl, ?_⟩
      replace A := keep_blk (j := 2) (v := .int .u8 ((20 + (a7.size : Int)) / 256 % 256)) A hA.out
      replace E := keep_blk (j := 2) (v := .int .u8 ((20 + (a7.size : Int)) / 256 % 256)) E hE.out
      replace Bb := blk_put (cs' := #[.int .u8 69, .int .u8 (a0 % 256), .int .u8 ((20 + (a7.size : Int)) / 256 % 256), .int .u8 0, .int .u8 0, .int .u8 0, .int .u8 0, .int .u8 0, .int .u8 (a3 % 256), .int .u8 (a4 % 256), .int .u8 0, .int .u8 0, .int .u8 0, .int .u8 0, .int .u8 0, .int .u8 0, .int .u8 0, .int .u8 0, .int .u8 0, .int .u8 0]) Bb 2 (.int .u8 ((20 + (a7.size : Int)) / 256 % 256)) rfl
      replace Z := Z.setCell (p := ⟨nb, 2, none⟩) hZ.out (.int .u8 ((20 + (a7.size : Int)) / 256 % 256))
      generalize World.setCell W7 ⟨nb, 2, none⟩ (.int .u8 ((20 + (a7.size : Int)) / 256 % 256)) = W8 at A E Bb Z ⊢
      replace A := keep_blk (j := 3) (v := .int .u8 ((20 + (a7.size : Int)) % 256)) A hA.out
      replace E := keep_blk (j := 3) (v := .int .u8 ((20 + (a7.size : Int)) % 256)) E hE.out
      replace Bb := blk_put (cs' := #[.int .u8 69, .int .u8 (a0 % 256), .int .u8 ((20 + (a7.size : Int)) / 256 % 256), .int .u8 ((20 + (a7.size : Int)) % 256), .int .u8 0, .int .u8 0, .int .u8 0, .int .u8 0, .int .u8 (a3 % 256), .int .u8 (a4 % 256), .int .u8 0, .int .u8 0, .int .u8 0, .int .u8 0, .int .u8 0, .int .u8 0, .int .u8 0, .int .u8 0, .int .u8 0, .int .u8 0]) Bb 3 (.int .u8 ((20 + (a7.size : Int)) % 256)) rfl
      replace Z := Z.setCell (p := ⟨nb, 3, none⟩) hZ.out (.int .u8 ((20 + (a7.size : Int)) % 256))
      generalize World.setCell W8 ⟨nb, 3, none⟩ (.int .u8 ((20 + (a7.size : Int)) % 256)) = W9 at A E Bb Z ⊢
      try clear hHeld
      refine hK.out _ _ (by exact ⟨(blk_cell A 0).trans rfl, (blk_cell A 1).trans rfl, (blk_cell A 2).trans rfl, (blk_cell A 3).trans rfl, (blk_cell A 4).trans rfl, (blk_cell A 5).trans rfl, (blk_cell A 6).trans rfl, (blk_cell A 7).trans rfl⟩) (fun hHeld => ?_)
      clear hK K
      refine norm_ (a' := ?_) ?_ ?_
      rotate_left
      · show Act.put _ (some 74) _ = _; simp only [Act.put, List.setIfInBounds_toArray, List.set_cons_zero, List.set_cons_succ, i64_w, i32_w]; rfl
      refine done_ (by kernel_rfl) ?_
      refine NoPanic.normal ?_
      go_wp2
      replace A := blk_drew A
      replace E := blk_drew E
      replace Bb := blk_drew Bb
      replace Z := below_drew1 Z
      refine wp_region_noPanic ?_
      try clear hHeld
      refine start_ (n := 6) (S := fun w' => w'.cell? ⟨w.heap.size, 0, none⟩ = some (.int .i64 a0) ∧ w'.cell? ⟨w.heap.size, 1, none⟩ = some (.int .i64 a1) ∧ w'.cell? ⟨w.heap.size, 2, none⟩ = some (.int .i64 a2) ∧ w'.cell? ⟨w.heap.size, 3, none⟩ = some (.int .i64 a3) ∧ w'.cell? ⟨w.heap.size, 4, none⟩ = some (.int .i64 a4) ∧ w'.cell? ⟨w.heap.size, 5, none⟩ = some (.int .u32 a5) ∧ w'.cell? ⟨w.heap.size, 6, none⟩ = some (.int .u32 a6) ∧ w'.cell? ⟨w.heap.size, 7, none⟩ = some (.string a7)) (ds := []) #[false, false, false, false, false, false] (by kernel_rfl) rfl rfl (by exact ⟨(blk_cell A 0).trans rfl, (blk_cell A 1).trans rfl, (blk_cell A 2).trans rfl, (blk_cell A 3).trans rfl, (blk_cell A 4).trans rfl, (blk_cell A 5).trans rfl, (blk_cell A 6).trans rfl, (blk_cell A 7).trans rfl⟩) (fun hHeld => ?_)
      generalize World.drew W9 = W10 at A E Bb Z hHeld ⊢
      refine pure_ (i := 0) (N := some 75) (v := ?_) (a' := ?_) #[true, false, false, false, false, false] rfl rfl (by kernel_rfl) (fun _ _ _ h => h) (Or.inl ⟨by rfl, ?_⟩) ?_ ?_
      rotate_left
      · intro w'; go_simp; try with_reducible rfl
      rotate_left
      · simp only [Act.put, List.setIfInBounds_toArray, List.set_cons_zero, List.set_cons_succ, i64_w, i32_w]; rfl
      refine pure_ (i := 1) (N := some 76) (v := ?_) (a' := ?_) #[true, true, false, false, false, false] rfl rfl (by kernel_rfl) (fun _ _ _ h => h) (Or.inl ⟨by rfl, ?_⟩) ?_ ?_
      rotate_left
      · intro w'; go_simp; try with_reducible rfl
      rotate_left
      · simp only [Act.put, List.setIfInBounds_toArray, List.set_cons_zero, List.set_cons_succ, i64_w, i32_w]; rfl
      refine pure_ (i := 2) (N := some 77) (v := ?_) (a' := ?_) #[true, true, true, false, false, false] rfl rfl (by kernel_rfl) (fun _ _ _ h => h) (Or.inl ⟨by rfl, ?_⟩) ?_ ?_
      rotate_left
      · intro w'; go_simp; try with_reducible rfl
      rotate_left
      · simp only [Act.put, List.setIfInBounds_toArray, List.set_cons_zero, List.set_cons_succ, i64_w, i32_w]; rfl
      refine take_ (i := 3) (N := some 78) (v := ?_) (a' := ?_) #[true, true, true, true, false, false] rfl rfl (by kernel_rfl) (fun _ _ _ h => h) (Or.inl ⟨by rfl, ?_⟩) hHeld ?_ ?_
      rotate_left
      · intro w' hS_; (try dsimp only at hS_); go_split_ands; go_simp; try with_reducible rfl
      rotate_left
      · simp only [Act.put, List.setIfInBounds_toArray, List.set_cons_zero, List.set_cons_succ, i64_w, i32_w]; rfl
      refine pure_ (i := 4) (N := some 79) (v := ?_) (a' := ?_) #[true, true, true, true, true, false] rfl rfl (by kernel_rfl) (fun _ _ _ h => h) (Or.inl ⟨by rfl, ?_⟩) ?_ ?_
      rotate_left
      · intro w'; go_simp; try with_reducible rfl
      rotate_left
      · simp only [Act.put, List.setIfInBounds_toArray, List.set_cons_zero, List.set_cons_succ, i64_w, i32_w]; rfl
      refine one_ (i := 5) (N := some 80) #[true, true, true, true, true, true] rfl rfl (by kernel_rfl) (by decide) (fun K hK => ?_)
      refine goes_ Try.func86 (by kernel_rfl) rfl #[.slice (some ⟨nb, 4, none⟩) 2 16, .int .u32 (a1)] (by rfl) rfl rfl (by (try simp only [List.map_toArray, List.map_cons, List.map_nil]); first | done | rfl) ?_
      refine (put2 nb 4 16 (a1) hv4.out.1 hv4.out.2 0 0 _ _ Bb rfl rfl).mono ?_
      rintro e w' ⟨rfl, rfl⟩
      refine ⟨_, rfl, ?_⟩
      replace A := keep_blk (j := 4) (v := .int .u8 (a1 / 256 % 256)) A hA.out
      replace E := keep_blk (j := 4) (v := .int .u8 (a1 / 256 % 256)) E hE.out
      replace Bb := blk_put (cs' := #[.int .u8 69, .int .u8 (a0 % 256), .int .u8 ((20 + (a7.size : Int)) / 256 % 256), .int .u8 ((20 + (a7.size : Int)) % 256), .int .u8 (a1 / 256 % 256), .int .u8 0, .int .u8 0, .int .u8 0, .int .u8 (a3 % 256), .int .u8 (a4 % 256), .int .u8 0, .int .u8 0, .int .u8 0, .int .u8 0, .int .u8 0, .int .u8 0, .int .u8 0, .int .u8 0, .int .u8 0, .int .u8 0]) Bb 4 (.int .u8 (a1 / 256 % 256)) rfl
      replace Z := Z.setCell (p := ⟨nb, 4, none⟩) hZ.out (.int .u8 (a1 / 256 % 256))
      generalize World.setCell W10 ⟨nb, 4, none⟩ (.int .u8 (a1 / 256 % 256)) = W11 at A E Bb Z ⊢
      replace A := keep_blk (j := 5) (v := .int .u8 (a1 % 256)) A hA.out
      replace E := keep_blk (j := 5) (v := .int .u8 (a1 % 256)) E hE.out
      replace Bb := blk_put (cs' := #[.int .u8 69, .int .u8 (a0 % 256), .int .u8 ((20 + (a7.size : Int)) / 256 % 256), .int .u8 ((20 + (a7.size : Int)) % 256), .int .u8 (a1 / 256 % 256), .int .u8 (a1 % 256), .int .u8 0, .int .u8 0, .int .u8 (a3 % 256), .int .u8 (a4 % 256), .int .u8 0, .int .u8 0, .int .u8 0, .int .u8 0, .int .u8 0, .int .u8 0, .int .u8 0, .int .u8 0, .int .u8 0, .int .u8 0]) Bb 5 (.int .u8 (a1 % 256)) rfl
      replace Z := Z.setCell (p := ⟨nb, 5, none⟩) hZ.out (.int .u8 (a1 % 256))
      generalize World.setCell W11 ⟨nb, 5, none⟩ (.int .u8 (a1 % 256)) = W12 at A E Bb Z ⊢
      try clear hHeld
      refine hK.out _ _ (by exact ⟨(blk_cell A 0).trans rfl, (blk_cell A 1).trans rfl, (blk_cell A 2).trans rfl, (blk_cell A 3).trans rfl, (blk_cell A 4).trans rfl, (blk_cell A 5).trans rfl, (blk_cell A 6).trans rfl, (blk_cell A 7).trans rfl⟩) (fun hHeld => ?_)
      clear hK K
      refine norm_ (a' := ?_) ?_ ?_
      rotate_left
      · show Act.put _ (some 80) _ = _; simp only [Act.put, List.setIfInBounds_toArray, List.set_cons_zero, List.set_cons_succ, i64_w, i32_w]; rfl
      refine done_ (by kernel_rfl) ?_
      refine NoPanic.normal ?_
      go_wp2
      replace A := blk_drew A
      replace E := blk_drew E
      replace Bb := blk_drew Bb
      replace Z := below_drew1 Z
      refine wp_region_noPanic ?_
      try clear hHeld
      refine start_ (n := 6) (S := fun w' => w'.cell? ⟨w.heap.size, 0, none⟩ = some (.int .i64 a0) ∧ w'.cell? ⟨w.heap.size, 1, none⟩ = some (.int .i64 a1) ∧ w'.cell? ⟨w.heap.size, 2, none⟩ = some (.int .i64 a2) ∧ w'.cell? ⟨w.heap.size, 3, none⟩ = some (.int .i64 a3) ∧ w'.cell? ⟨w.heap.size, 4, none⟩ = some (.int .i64 a4) ∧ w'.cell? ⟨w.heap.size, 5, none⟩ = some (.int .u32 a5) ∧ w'.cell? ⟨w.heap.size, 6, none⟩ = some (.int .u32 a6) ∧ w'.cell? ⟨w.heap.size, 7, none⟩ = some (.string a7)) (ds := []) #[false, false, false, false, false, false] (by kernel_rfl) rfl rfl (by exact ⟨(blk_cell A 0).trans rfl, (blk_cell A 1).trans rfl, (blk_cell A 2).trans rfl, (blk_cell A 3).trans rfl, (blk_cell A 4).trans rfl, (blk_cell A 5).trans rfl, (blk_cell A 6).trans rfl, (blk_cell A 7).trans rfl⟩) (fun hHeld => ?_)
      generalize World.drew W12 = W13 at A E Bb Z hHeld ⊢
      refine pure_ (i := 0) (N := some 81) (v := ?_) (a' := ?_) #[true, false, false, false, false, false] rfl rfl (by kernel_rfl) (fun _ _ _ h => h) (Or.inl ⟨by rfl, ?_⟩) ?_ ?_
      rotate_left
      · intro w'; go_simp; try with_reducible rfl
      rotate_left
      · simp only [Act.put, List.setIfInBounds_toArray, List.set_cons_zero, List.set_cons_succ, i64_w, i32_w]; rfl
      refine pure_ (i := 1) (N := some 82) (v := ?_) (a' := ?_) #[true, true, false, false, false, false] rfl rfl (by kernel_rfl) (fun _ _ _ h => h) (Or.inl ⟨by rfl, ?_⟩) ?_ ?_
      rotate_left
      · intro w'; go_simp; try with_reducible rfl
      rotate_left
      · simp only [Act.put, List.setIfInBounds_toArray, List.set_cons_zero, List.set_cons_succ, i64_w, i32_w]; rfl
      refine pure_ (i := 2) (N := some 83) (v := ?_) (a' := ?_) #[true, true, true, false, false, false] rfl rfl (by kernel_rfl) (fun _ _ _ h => h) (Or.inl ⟨by rfl, ?_⟩) ?_ ?_
      rotate_left
      · intro w'; go_simp; try with_reducible rfl
      rotate_left
      · simp only [Act.put, List.setIfInBounds_toArray, List.set_cons_zero, List.set_cons_succ, i64_w, i32_w]; rfl
      refine take_ (i := 3) (N := some 84) (v := ?_) (a' := ?_) #[true, true, true, true, false, false] rfl rfl (by kernel_rfl) (fun _ _ _ h => h) (Or.inl ⟨by rfl, ?_⟩) hHeld ?_ ?_
      rotate_left
      · intro w' hS_; (try dsimp only at hS_); go_split_ands; go_simp; try with_reducible rfl
      rotate_left
      · simp only [Act.put, List.setIfInBounds_toArray, List.set_cons_zero, List.set_cons_succ, i64_w, i32_w]; rfl
      refine pure_ (i := 4) (N := some 85) (v := ?_) (a' := ?_) #[true, true, true, true, true, false] rfl rfl (by kernel_rfl) (fun _ _ _ h => h) (Or.inl ⟨by rfl, ?_⟩) ?_ ?_
      rotate_left
      · intro w'; go_simp; try with_reducible rfl
      rotate_left
      · simp only [Act.put, List.setIfInBounds_toArray, List.set_cons_zero, List.set_cons_succ, i64_w, i32_w]; rfl
      refine one_ (i := 5) (N := some 86) #[true, true, true, true, true, true] rfl rfl (by kernel_rfl) (by decide) (fun K hK => ?_)
      refine goes_ Try.func86 (by kernel_rfl) rfl #[.slice (some ⟨nb, 6, none⟩) 2 14, .int .u32 (a2)] (by rfl) rfl rfl (by (try simp only [List.map_toArray, List.map_cons, List.map_nil]); first | done | rfl) ?_
      refine (put2 nb 6 14 (a2) hv6.out.1 hv6.out.2 0 0 _ _ Bb rfl rfl).mono ?_
      rintro e w' ⟨rfl, rfl⟩
      refine ⟨_, rfl, ?_⟩
      replace A := keep_blk (j := 6) (v := .int .u8 (a2 / 256 % 256)) A hA.out
      replace E := keep_blk (j := 6) (v := .int .u8 (a2 / 256 % 256)) E hE.out
      replace Bb := blk_put (cs' := #[.int .u8 69, .int .u8 (a0 % 256), .int .u8 ((20 + (a7.size : Int)) / 256 % 256), .int .u8 ((20 + (a7.size : Int)) % 256), .int .u8 (a1 / 256 % 256), .int .u8 (a1 % 256), .int .u8 (a2 / 256 % 256), .int .u8 0, .int .u8 (a3 % 256), .int .u8 (a4 % 256), .int .u8 0, .int .u8 0, .int .u8 0, .int .u8 0, .int .u8 0, .int .u8 0, .int .u8 0, .int .u8 0, .int .u8 0, .int .u8 0]) Bb 6 (.int .u8 (a2 / 256 % 256)) rfl
      replace Z := Z.setCell (p := ⟨nb, 6, none⟩) hZ.out (.int .u8 (a2 / 256 % 256))
      generalize World.setCell W13 ⟨nb, 6, none⟩ (.int .u8 (a2 / 256 % 256)) = W14 at A E Bb Z ⊢
      replace A := keep_blk (j := 7) (v := .int .u8 (a2 % 256)) A hA.out
      replace E := keep_blk (j := 7) (v := .int .u8 (a2 % 256)) E hE.out
      replace Bb := blk_put (cs' := #[.int .u8 69, .int .u8 (a0 % 256), .int .u8 ((20 + (a7.size : Int)) / 256 % 256), .int .u8 ((20 + (a7.size : Int)) % 256), .int .u8 (a1 / 256 % 256), .int .u8 (a1 % 256), .int .u8 (a2 / 256 % 256), .int .u8 (a2 % 256), .int .u8 (a3 % 256), .int .u8 (a4 % 256), .int .u8 0, .int .u8 0, .int .u8 0, .int .u8 0, .int .u8 0, .int .u8 0, .int .u8 0, .int .u8 0, .int .u8 0, .int .u8 0]) Bb 7 (.int .u8 (a2 % 256)) rfl
      replace Z := Z.setCell (p := ⟨nb, 7, none⟩) hZ.out (.int .u8 (a2 % 256))
      generalize World.setCell W14 ⟨nb, 7, none⟩ (.int .u8 (a2 % 256)) = W15 at A E Bb Z ⊢
      try clear hHeld
      refine hK.out _ _ (by exact ⟨(blk_cell A 0).trans rfl, (blk_cell A 1).trans rfl, (blk_cell A 2).trans rfl, (blk_cell A 3).trans rfl, (blk_cell A 4).trans rfl, (blk_cell A 5).trans rfl, (blk_cell A 6).trans rfl, (blk_cell A 7).trans rfl⟩) (fun hHeld => ?_)
      clear hK K
      refine norm_ (a' := ?_) ?_ ?_
      rotate_left
      · show Act.put _ (some 86) _ = _; simp only [Act.put, List.setIfInBounds_toArray, List.set_cons_zero, List.set_cons_succ, i64_w, i32_w]; rfl
      refine done_ (by kernel_rfl) ?_
      refine NoPanic.normal ?_
      go_wp2
      replace A := blk_drew A
      replace E := blk_drew E
      replace Bb := blk_drew Bb
      replace Z := below_drew1 Z
      refine wp_region_noPanic ?_
      try clear hHeld
      refine start_ (n := 5) (S := fun w' => w'.cell? ⟨w.heap.size, 0, none⟩ = some (.int .i64 a0) ∧ w'.cell? ⟨w.heap.size, 1, none⟩ = some (.int .i64 a1) ∧ w'.cell? ⟨w.heap.size, 2, none⟩ = some (.int .i64 a2) ∧ w'.cell? ⟨w.heap.size, 3, none⟩ = some (.int .i64 a3) ∧ w'.cell? ⟨w.heap.size, 4, none⟩ = some (.int .i64 a4) ∧ w'.cell? ⟨w.heap.size, 5, none⟩ = some (.int .u32 a5) ∧ w'.cell? ⟨w.heap.size, 6, none⟩ = some (.int .u32 a6) ∧ w'.cell? ⟨w.heap.size, 7, none⟩ = some (.string a7)) (ds := []) #[false, false, false, false, false] (by kernel_rfl) rfl rfl (by exact ⟨(blk_cell A 0).trans rfl, (blk_cell A 1).trans rfl, (blk_cell A 2).trans rfl, (blk_cell A 3).trans rfl, (blk_cell A 4).trans rfl, (blk_cell A 5).trans rfl, (blk_cell A 6).trans rfl, (blk_cell A 7).trans rfl⟩) (fun hHeld => ?_)
      generalize World.drew W15 = W16 at A E Bb Z hHeld ⊢
      refine pure_ (i := 0) (N := some 87) (v := ?_) (a' := ?_) #[true, false, false, false, false] rfl rfl (by kernel_rfl) (fun _ _ _ h => h) (Or.inl ⟨by rfl, ?_⟩) ?_ ?_
      rotate_left
      · intro w'; go_simp; try with_reducible rfl
      rotate_left
      · simp only [Act.put, List.setIfInBounds_toArray, List.set_cons_zero, List.set_cons_succ, i64_w, i32_w]; rfl
      refine pure_ (i := 1) (N := some 88) (v := ?_) (a' := ?_) #[true, true, false, false, false] rfl rfl (by kernel_rfl) (fun _ _ _ h => h) (Or.inl ⟨by rfl, ?_⟩) ?_ ?_
      rotate_left
      · intro w'; go_simp; try with_reducible rfl
      rotate_left
      · simp only [Act.put, List.setIfInBounds_toArray, List.set_cons_zero, List.set_cons_succ, i64_w, i32_w]; rfl
      refine pure_ (i := 2) (N := some 89) (v := ?_) (a' := ?_) #[true, true, true, false, false] rfl rfl (by kernel_rfl) (fun _ _ _ h => h) (Or.inl ⟨by rfl, ?_⟩) ?_ ?_
      rotate_left
      · intro w'; go_simp; try with_reducible rfl
      rotate_left
      · simp only [Act.put, List.setIfInBounds_toArray, List.set_cons_zero, List.set_cons_succ, i64_w, i32_w]; rfl
      refine take_ (i := 3) (N := some 90) (v := ?_) (a' := ?_) #[true, true, true, true, false] rfl rfl (by kernel_rfl) (fun _ _ _ h => h) (Or.inl ⟨by rfl, ?_⟩) hHeld ?_ ?_
      rotate_left
      · intro w' hS_; (try dsimp only at hS_); go_split_ands; go_simp; try with_reducible rfl
      rotate_left
      · simp only [Act.put, List.setIfInBounds_toArray, List.set_cons_zero, List.set_cons_succ, i64_w, i32_w]; rfl
      refine one_ (i := 4) (N := some 91) #[true, true, true, true, true] rfl rfl (by kernel_rfl) (by decide) (fun K hK => ?_)
      refine goes_ Try.func86 (by kernel_rfl) rfl #[.slice (some ⟨nb, 12, none⟩) 4 8, .int .u32 (a5)] (by rfl) rfl rfl (by (try simp only [List.map_toArray, List.map_cons, List.map_nil]); first | done | rfl) ?_
      refine (put4 nb 12 8 (a5) hv12.out.1 hv12.out.2 0 0 0 0 _ _ Bb rfl rfl rfl rfl).mono ?_
      rintro e w' ⟨rfl, rfl⟩
      refine ⟨_, rfl, ?_⟩
      replace A := keep_blk (j := 12) (v := .int .u8 (a5 / 16777216)) A hA.out
      replace E := keep_blk (j := 12) (v := .int .u8 (a5 / 16777216)) E hE.out
      replace Bb := blk_put (cs' := #[.int .u8 69, .int .u8 (a0 % 256), .int .u8 ((20 + (a7.size : Int)) / 256 % 256), .int .u8 ((20 + (a7.size : Int)) % 256), .int .u8 (a1 / 256 % 256), .int .u8 (a1 % 256), .int .u8 (a2 / 256 % 256), .int .u8 (a2 % 256), .int .u8 (a3 % 256), .int .u8 (a4 % 256), .int .u8 0, .int .u8 0, .int .u8 (a5 / 16777216), .int .u8 0, .int .u8 0, .int .u8 0, .int .u8 0, .int .u8 0, .int .u8 0, .int .u8 0]) Bb 12 (.int .u8 (a5 / 16777216)) rfl
      replace Z := Z.setCell (p := ⟨nb, 12, none⟩) hZ.out (.int .u8 (a5 / 16777216))
      generalize World.setCell W16 ⟨nb, 12, none⟩ (.int .u8 (a5 / 16777216)) = W17 at A E Bb Z ⊢
      replace A := keep_blk (j := 13) (v := .int .u8 (a5 / 65536 % 256)) A hA.out
      replace E := keep_blk (j := 13) (v := .int .u8 (a5 / 65536 % 256)) E hE.out
      replace Bb := blk_put (cs' := #[.int .u8 69, .int .u8 (a0 % 256), .int .u8 ((20 + (a7.size : Int)) / 256 % 256), .int .u8 ((20 + (a7.size : Int)) % 256), .int .u8 (a1 / 256 % 256), .int .u8 (a1 % 256), .int .u8 (a2 / 256 % 256), .int .u8 (a2 % 256), .int .u8 (a3 % 256), .int .u8 (a4 % 256), .int .u8 0, .int .u8 0, .int .u8 (a5 / 16777216), .int .u8 (a5 / 65536 % 256), .int .u8 0, .int .u8 0, .int .u8 0, .int .u8 0, .int .u8 0, .int .u8 0]) Bb 13 (.int .u8 (a5 / 65536 % 256)) rfl
      replace Z := Z.setCell (p := ⟨nb, 13, none⟩) hZ.out (.int .u8 (a5 / 65536 % 256))
      generalize World.setCell W17 ⟨nb, 13, none⟩ (.int .u8 (a5 / 65536 % 256)) = W18 at A E Bb Z ⊢
      replace A := keep_blk (j := 14) (v := .int .u8 (a5 / 256 % 256)) A hA.out
      replace E := keep_blk (j := 14) (v := .int .u8 (a5 / 256 % 256)) E hE.out
      replace Bb := blk_put (cs' := #[.int .u8 69, .int .u8 (a0 % 256), .int .u8 ((20 + (a7.size : Int)) / 256 % 256), .int .u8 ((20 + (a7.size : Int)) % 256), .int .u8 (a1 / 256 % 256), .int .u8 (a1 % 256), .int .u8 (a2 / 256 % 256), .int .u8 (a2 % 256), .int .u8 (a3 % 256), .int .u8 (a4 % 256), .int .u8 0, .int .u8 0, .int .u8 (a5 / 16777216), .int .u8 (a5 / 65536 % 256), .int .u8 (a5 / 256 % 256), .int .u8 0, .int .u8 0, .int .u8 0, .int .u8 0, .int .u8 0]) Bb 14 (.int .u8 (a5 / 256 % 256)) rfl
      replace Z := Z.setCell (p := ⟨nb, 14, none⟩) hZ.out (.int .u8 (a5 / 256 % 256))
      generalize World.setCell W18 ⟨nb, 14, none⟩ (.int .u8 (a5 / 256 % 256)) = W19 at A E Bb Z ⊢
      replace A := keep_blk (j := 15) (v := .int .u8 (a5 % 256)) A hA.out
      replace E := keep_blk (j := 15) (v := .int .u8 (a5 % 256)) E hE.out
      replace Bb := blk_put (cs' := #[.int .u8 69, .int .u8 (a0 % 256), .int .u8 ((20 + (a7.size : Int)) / 256 % 256), .int .u8 ((20 + (a7.size : Int)) % 256), .int .u8 (a1 / 256 % 256), .int .u8 (a1 % 256), .int .u8 (a2 / 256 % 256), .int .u8 (a2 % 256), .int .u8 (a3 % 256), .int .u8 (a4 % 256), .int .u8 0, .int .u8 0, .int .u8 (a5 / 16777216), .int .u8 (a5 / 65536 % 256), .int .u8 (a5 / 256 % 256), .int .u8 (a5 % 256), .int .u8 0, .int .u8 0, .int .u8 0, .int .u8 0]) Bb 15 (.int .u8 (a5 % 256)) rfl
      replace Z := Z.setCell (p := ⟨nb, 15, none⟩) hZ.out (.int .u8 (a5 % 256))
      generalize World.setCell W19 ⟨nb, 15, none⟩ (.int .u8 (a5 % 256)) = W20 at A E Bb Z ⊢
      try clear hHeld
      refine hK.out _ _ (by exact ⟨(blk_cell A 0).trans rfl, (blk_cell A 1).trans rfl, (blk_cell A 2).trans rfl, (blk_cell A 3).trans rfl, (blk_cell A 4).trans rfl, (blk_cell A 5).trans rfl, (blk_cell A 6).trans rfl, (blk_cell A 7).trans rfl⟩) (fun hHeld => ?_)
      clear hK K
      refine norm_ (a' := ?_) ?_ ?_
      rotate_left
      · show Act.put _ (some 91) _ = _; simp only [Act.put, List.setIfInBounds_toArray, List.set_cons_zero, List.set_cons_succ, i64_w, i32_w]; rfl
      refine done_ (by kernel_rfl) ?_
      refine NoPanic.normal ?_
      go_wp2
      replace A := blk_drew A
      replace E := blk_drew E
      replace Bb := blk_drew Bb
      replace Z := below_drew1 Z
      refine wp_region_noPanic ?_
      try clear hHeld
      refine start_ (n := 5) (S := fun w' => w'.cell? ⟨w.heap.size, 0, none⟩ = some (.int .i64 a0) ∧ w'.cell? ⟨w.heap.size, 1, none⟩ = some (.int .i64 a1) ∧ w'.cell? ⟨w.heap.size, 2, none⟩ = some (.int .i64 a2) ∧ w'.cell? ⟨w.heap.size, 3, none⟩ = some (.int .i64 a3) ∧ w'.cell? ⟨w.heap.size, 4, none⟩ = some (.int .i64 a4) ∧ w'.cell? ⟨w.heap.size, 5, none⟩ = some (.int .u32 a5) ∧ w'.cell? ⟨w.heap.size, 6, none⟩ = some (.int .u32 a6) ∧ w'.cell? ⟨w.heap.size, 7, none⟩ = some (.string a7)) (ds := []) #[false, false, false, false, false] (by kernel_rfl) rfl rfl (by exact ⟨(blk_cell A 0).trans rfl, (blk_cell A 1).trans rfl, (blk_cell A 2).trans rfl, (blk_cell A 3).trans rfl, (blk_cell A 4).trans rfl, (blk_cell A 5).trans rfl, (blk_cell A 6).trans rfl, (blk_cell A 7).trans rfl⟩) (fun hHeld => ?_)
      generalize World.drew W20 = W21 at A E Bb Z hHeld ⊢
      refine pure_ (i := 0) (N := some 92) (v := ?_) (a' := ?_) #[true, false, false, false, false] rfl rfl (by kernel_rfl) (fun _ _ _ h => h) (Or.inl ⟨by rfl, ?_⟩) ?_ ?_
      rotate_left
      · intro w'; go_simp; try with_reducible rfl
      rotate_left
      · simp only [Act.put, List.setIfInBounds_toArray, List.set_cons_zero, List.set_cons_succ, i64_w, i32_w]; rfl
      refine pure_ (i := 1) (N := some 93) (v := ?_) (a' := ?_) #[true, true, false, false, false] rfl rfl (by kernel_rfl) (fun _ _ _ h => h) (Or.inl ⟨by rfl, ?_⟩) ?_ ?_
      rotate_left
      · intro w'; go_simp; try with_reducible rfl
      rotate_left
      · simp only [Act.put, List.setIfInBounds_toArray, List.set_cons_zero, List.set_cons_succ, i64_w, i32_w]; rfl
      refine pure_ (i := 2) (N := some 94) (v := ?_) (a' := ?_) #[true, true, true, false, false] rfl rfl (by kernel_rfl) (fun _ _ _ h => h) (Or.inl ⟨by rfl, ?_⟩) ?_ ?_
      rotate_left
      · intro w'; go_simp; try with_reducible rfl
      rotate_left
      · simp only [Act.put, List.setIfInBounds_toArray, List.set_cons_zero, List.set_cons_succ, i64_w, i32_w]; rfl
      refine take_ (i := 3) (N := some 95) (v := ?_) (a' := ?_) #[true, true, true, true, false] rfl rfl (by kernel_rfl) (fun _ _ _ h => h) (Or.inl ⟨by rfl, ?_⟩) hHeld ?_ ?_
      rotate_left
      · intro w' hS_; (try dsimp only at hS_); go_split_ands; go_simp; try with_reducible rfl
      rotate_left
      · simp only [Act.put, List.setIfInBounds_toArray, List.set_cons_zero, List.set_cons_succ, i64_w, i32_w]; rfl
      refine one_ (i := 4) (N := some 96) #[true, true, true, true, true] rfl rfl (by kernel_rfl) (by decide) (fun K hK => ?_)
      refine goes_ Try.func86 (by kernel_rfl) rfl #[.slice (some ⟨nb, 16, none⟩) 4 4, .int .u32 (a6)] (by rfl) rfl rfl (by (try simp only [List.map_toArray, List.map_cons, List.map_nil]); first | done | rfl) ?_
      refine (put4 nb 16 4 (a6) hv16.out.1 hv16.out.2 0 0 0 0 _ _ Bb rfl rfl rfl rfl).mono ?_
      rintro e w' ⟨rfl, rfl⟩
      refine ⟨_, rfl, ?_⟩
      replace A := keep_blk (j := 16) (v := .int .u8 (a6 / 16777216)) A hA.out
      replace E := keep_blk (j := 16) (v := .int .u8 (a6 / 16777216)) E hE.out
      replace Bb := blk_put (cs' := #[.int .u8 69, .int .u8 (a0 % 256), .int .u8 ((20 + (a7.size : Int)) / 256 % 256), .int .u8 ((20 + (a7.size : Int)) % 256), .int .u8 (a1 / 256 % 256), .int .u8 (a1 % 256), .int .u8 (a2 / 256 % 256), .int .u8 (a2 % 256), .int .u8 (a3 % 256), .int .u8 (a4 % 256), .int .u8 0, .int .u8 0, .int .u8 (a5 / 16777216), .int .u8 (a5 / 65536 % 256), .int .u8 (a5 / 256 % 256), .int .u8 (a5 % 256), .int .u8 (a6 / 16777216), .int .u8 0, .int .u8 0, .int .u8 0]) Bb 16 (.int .u8 (a6 / 16777216)) rfl
      replace Z := Z.setCell (p := ⟨nb, 16, none⟩) hZ.out (.int .u8 (a6 / 16777216))
      generalize World.setCell W21 ⟨nb, 16, none⟩ (.int .u8 (a6 / 16777216)) = W22 at A E Bb Z ⊢
      replace A := keep_blk (j := 17) (v := .int .u8 (a6 / 65536 % 256)) A hA.out
      replace E := keep_blk (j := 17) (v := .int .u8 (a6 / 65536 % 256)) E hE.out
      replace Bb := blk_put (cs' := #[.int .u8 69, .int .u8 (a0 % 256), .int .u8 ((20 + (a7.size : Int)) / 256 % 256), .int .u8 ((20 + (a7.size : Int)) % 256), .int .u8 (a1 / 256 % 256), .int .u8 (a1 % 256), .int .u8 (a2 / 256 % 256), .int .u8 (a2 % 256), .int .u8 (a3 % 256), .int .u8 (a4 % 256), .int .u8 0, .int .u8 0, .int .u8 (a5 / 16777216), .int .u8 (a5 / 65536 % 256), .int .u8 (a5 / 256 % 256), .int .u8 (a5 % 256), .int .u8 (a6 / 16777216), .int .u8 (a6 / 65536 % 256), .int .u8 0, .int .u8 0]) Bb 17 (.int .u8 (a6 / 65536 % 256)) rfl
      replace Z := Z.setCell (p := ⟨nb, 17, none⟩) hZ.out (.int .u8 (a6 / 65536 % 256))
      generalize World.setCell W22 ⟨nb, 17, none⟩ (.int .u8 (a6 / 65536 % 256)) = W23 at A E Bb Z ⊢
      replace A := keep_blk (j := 18) (v := .int .u8 (a6 / 256 % 256)) A hA.out
      replace E := keep_blk (j := 18) (v := .int .u8 (a6 / 256 % 256)) E hE.out
      replace Bb := blk_put (cs' := #[.int .u8 69, .int .u8 (a0 % 256), .int .u8 ((20 + (a7.size : Int)) / 256 % 256), .int .u8 ((20 + (a7.size : Int)) % 256), .int .u8 (a1 / 256 % 256), .int .u8 (a1 % 256), .int .u8 (a2 / 256 % 256), .int .u8 (a2 % 256), .int .u8 (a3 % 256), .int .u8 (a4 % 256), .int .u8 0, .int .u8 0, .int .u8 (a5 / 16777216), .int .u8 (a5 / 65536 % 256), .int .u8 (a5 / 256 % 256), .int .u8 (a5 % 256), .int .u8 (a6 / 16777216), .int .u8 (a6 / 65536 % 256), .int .u8 (a6 / 256 % 256), .int .u8 0]) Bb 18 (.int .u8 (a6 / 256 % 256)) rfl
      replace Z := Z.setCell (p := ⟨nb, 18, none⟩) hZ.out (.int .u8 (a6 / 256 % 256))
      generalize World.setCell W23 ⟨nb, 18, none⟩ (.int .u8 (a6 / 256 % 256)) = W24 at A E Bb Z ⊢
      replace A := keep_blk (j := 19) (v := .int .u8 (a6 % 256)) A hA.out
      replace E := keep_blk (j := 19) (v := .int .u8 (a6 % 256)) E hE.out
      replace Bb := blk_put (cs' := #[.int .u8 69, .int .u8 (a0 % 256), .int .u8 ((20 + (a7.size : Int)) / 256 % 256), .int .u8 ((20 + (a7.size : Int)) % 256), .int .u8 (a1 / 256 % 256), .int .u8 (a1 % 256), .int .u8 (a2 / 256 % 256), .int .u8 (a2 % 256), .int .u8 (a3 % 256), .int .u8 (a4 % 256), .int .u8 0, .int .u8 0, .int .u8 (a5 / 16777216), .int .u8 (a5 / 65536 % 256), .int .u8 (a5 / 256 % 256), .int .u8 (a5 % 256), .int .u8 (a6 / 16777216), .int .u8 (a6 / 65536 % 256), .int .u8 (a6 / 256 % 256), .int .u8 (a6 % 256)]) Bb 19 (.int .u8 (a6 % 256)) rfl
      replace Z := Z.setCell (p := ⟨nb, 19, none⟩) hZ.out (.int .u8 (a6 % 256))
      generalize World.setCell W24 ⟨nb, 19, none⟩ (.int .u8 (a6 % 256)) = W25 at A E Bb Z ⊢
      try clear hHeld
      refine hK.out _ _ (by exact ⟨(blk_cell A 0).trans rfl, (blk_cell A 1).trans rfl, (blk_cell A 2).trans rfl, (blk_cell A 3).trans rfl, (blk_cell A 4).trans rfl, (blk_cell A 5).trans rfl, (blk_cell A 6).trans rfl, (blk_cell A 7).trans rfl⟩) (fun hHeld => ?_)
      clear hK K
      refine norm_ (a' := ?_) ?_ ?_
      rotate_left
      · show Act.put _ (some 96) _ = _; simp only [Act.put, List.setIfInBounds_toArray, List.set_cons_zero, List.set_cons_succ, i64_w, i32_w]; rfl
      refine done_ (by kernel_rfl) ?_
      refine NoPanic.normal ?_
      go_wp2
      obtain ⟨m_, hm_⟩ : ∃ m_, sumV (hdrV (20 + (a7.size : Int)) a0 a1 a2 a3 a4 0 a5 a6) = m_ := ⟨_, rfl⟩
      have hv10 : Hid (0 ≤ m_ ∧ m_ < 4294967296) := by have := sumV_range (hdrV (20 + (a7.size : Int)) a0 a1 a2 a3 a4 0 a5 a6); rw [hm_] at this; exact ⟨this.1, by omega⟩
      have um : IntKind.u32.wrap m_ = m_ := by have := hv10.out; rw [IntKind.wrap_u32]; omega
      have SM : Hid (∀ w, Calls Try.prog 59 #[.string (hdrV (20 + (a7.size : Int)) a0 a1 a2 a3 a4 0 a5 a6)] w fun e w' => e = .returned (.int .i64 m_) ∧ w = w') := fun w => by rw [← hm_]; exact sum_calls _ rfl w
      have HM : Hid (sumV (hdrV (20 + (a7.size : Int)) a0 a1 a2 a3 a4 0 a5 a6) = m_) := hm_
      clear hm_
      replace A := blk_drew A
      replace E := blk_drew E
      replace Bb := blk_drew Bb
      replace Z := below_drew1 Z
      refine wp_region_noPanic ?_
      try clear hHeld
      refine start_ (n := 7) (S := fun w' => w'.cell? ⟨w.heap.size, 0, none⟩ = some (.int .i64 a0) ∧ w'.cell? ⟨w.heap.size, 1, none⟩ = some (.int .i64 a1) ∧ w'.cell? ⟨w.heap.size, 2, none⟩ = some (.int .i64 a2) ∧ w'.cell? ⟨w.heap.size, 3, none⟩ = some (.int .i64 a3) ∧ w'.cell? ⟨w.heap.size, 4, none⟩ = some (.int .i64 a4) ∧ w'.cell? ⟨w.heap.size, 5, none⟩ = some (.int .u32 a5) ∧ w'.cell? ⟨w.heap.size, 6, none⟩ = some (.int .u32 a6) ∧ w'.cell? ⟨w.heap.size, 7, none⟩ = some (.string a7)) (ds := []) #[false, false, false, false, false, false, false] (by kernel_rfl) rfl rfl (by exact ⟨(blk_cell A 0).trans rfl, (blk_cell A 1).trans rfl, (blk_cell A 2).trans rfl, (blk_cell A 3).trans rfl, (blk_cell A 4).trans rfl, (blk_cell A 5).trans rfl, (blk_cell A 6).trans rfl, (blk_cell A 7).trans rfl⟩) (fun hHeld => ?_)
      generalize World.drew W25 = W26 at A E Bb Z hHeld ⊢
      refine pure_ (i := 0) (N := some 97) (v := ?_) (a' := ?_) #[true, false, false, false, false, false, false] rfl rfl (by kernel_rfl) (fun _ _ _ h => h) (Or.inl ⟨by rfl, ?_⟩) ?_ ?_
      rotate_left
      · intro w'; go_simp; try with_reducible rfl
      rotate_left
      · simp only [Act.put, List.setIfInBounds_toArray, List.set_cons_zero, List.set_cons_succ, i64_w, i32_w]; rfl
      refine pure_ (i := 1) (N := some 98) (v := ?_) (a' := ?_) #[true, true, false, false, false, false, false] rfl rfl (by kernel_rfl) (fun _ _ _ h => h) (Or.inl ⟨by rfl, ?_⟩) ?_ ?_
      rotate_left
      · intro w'; go_simp; try with_reducible rfl
      rotate_left
      · simp only [Act.put, List.setIfInBounds_toArray, List.set_cons_zero, List.set_cons_succ, i64_w, i32_w]; rfl
      refine pure_ (i := 2) (N := some 99) (v := ?_) (a' := ?_) #[true, true, true, false, false, false, false] rfl rfl (by kernel_rfl) (fun _ _ _ h => h) (Or.inl ⟨by rfl, ?_⟩) ?_ ?_
      rotate_left
      · intro w'; go_simp; try with_reducible rfl
      rotate_left
      · simp only [Act.put, List.setIfInBounds_toArray, List.set_cons_zero, List.set_cons_succ, i64_w, i32_w]; rfl
      refine one_ (i := 3) (N := some 100) #[true, true, true, true, false, false, false] rfl rfl (by kernel_rfl) (by decide) (fun K hK => ?_)
      have hc := conv_row W26 nb 20 [69, a0 % 256, (20 + (a7.size : Int)) / 256 % 256, (20 + (a7.size : Int)) % 256, a1 / 256 % 256, a1 % 256, a2 / 256 % 256, a2 % 256, a3 % 256, a4 % 256, 0, 0, a5 / 16777216, a5 / 65536 % 256, a5 / 256 % 256, a5 % 256, a6 / 16777216, a6 / 65536 % 256, a6 / 256 % 256, a6 % 256] (by simp) _ rfl 20 rfl Bb
      rw [hdr_nums (20 + (a7.size : Int)) a0 a1 a2 a3 a4 0 a5 a6 0 0 rfl rfl hv12.out.1 hv12.out.2 hv16.out.1 hv16.out.2] at hc
      refine event_step (by rfl) (v := .string (hdrV (20 + (a7.size : Int)) a0 a1 a2 a3 a4 0 a5 a6)) (w1 := W26) (by go_simp) ?_
      clear hc
      try clear hHeld
      refine hK.out _ _ (by exact ⟨(blk_cell A 0).trans rfl, (blk_cell A 1).trans rfl, (blk_cell A 2).trans rfl, (blk_cell A 3).trans rfl, (blk_cell A 4).trans rfl, (blk_cell A 5).trans rfl, (blk_cell A 6).trans rfl, (blk_cell A 7).trans rfl⟩) (fun hHeld => ?_)
      clear hK K
      refine norm_ (a' := ?_) ?_ ?_
      rotate_left
      · show Act.put _ (some 100) _ = _; simp only [Act.put, List.setIfInBounds_toArray, List.set_cons_zero, List.set_cons_succ, i64_w, i32_w]; rfl
      refine one_ (i := 4) (N := some 101) #[true, true, true, true, true, false, false] rfl rfl (by kernel_rfl) (by decide) (fun K hK => ?_)
      refine goes_ Try.func59 (by kernel_rfl) rfl #[.string (hdrV (20 + (a7.size : Int)) a0 a1 a2 a3 a4 0 a5 a6)] (by rfl) rfl rfl (by (try simp only [List.map_toArray, List.map_cons, List.map_nil]); first | done | rfl) ?_
      with_reducible refine (SM.out _).mono ?_
      rintro e w' ⟨rfl, rfl⟩
      refine ⟨_, rfl, ?_⟩
      try clear hHeld
      refine hK.out _ _ (by exact ⟨(blk_cell A 0).trans rfl, (blk_cell A 1).trans rfl, (blk_cell A 2).trans rfl, (blk_cell A 3).trans rfl, (blk_cell A 4).trans rfl, (blk_cell A 5).trans rfl, (blk_cell A 6).trans rfl, (blk_cell A 7).trans rfl⟩) (fun hHeld => ?_)
      clear hK K
      refine norm_ (a' := ?_) ?_ ?_
      rotate_left
      · show Act.put _ (some 101) _ = _; simp only [Act.put, List.setIfInBounds_toArray, List.set_cons_zero, List.set_cons_succ, i64_w, i32_w]; rfl
      refine pure_ (i := 5) (N := some 102) (v := ?_) (a' := ?_) #[true, true, true, true, true, true, false] rfl rfl (by kernel_rfl) (fun _ _ _ h => h) (Or.inl ⟨by rfl, ?_⟩) ?_ ?_
      rotate_left
      · intro w'; go_simp; try with_reducible rfl
      rotate_left
      · simp only [Act.put, List.setIfInBounds_toArray, List.set_cons_zero, List.set_cons_succ, i64_w, i32_w]; rfl
      refine one_ (i := 6) (N := some 103) #[true, true, true, true, true, true, true] rfl rfl (by kernel_rfl) (by decide) (fun K hK => ?_)
      refine goes_ Try.func86 (by kernel_rfl) rfl #[.slice (some ⟨nb, 10, none⟩) 2 10, .int .u32 (m_)] (by rfl) rfl rfl (by (try simp only [List.map_toArray, List.map_cons, List.map_nil]); first | done | rfl) ?_
      refine (put2 nb 10 10 (m_) hv10.out.1 hv10.out.2 0 0 _ _ Bb rfl rfl).mono ?_
      rintro e w' ⟨rfl, rfl⟩
      refine ⟨_, rfl, ?_⟩
      replace A := keep_blk (j := 10) (v := .int .u8 (m_ / 256 % 256)) A hA.out
      replace E := keep_blk (j := 10) (v := .int .u8 (m_ / 256 % 256)) E hE.out
      replace Bb := blk_put (cs' := #[.int .u8 69, .int .u8 (a0 % 256), .int .u8 ((20 + (a7.size : Int)) / 256 % 256), .int .u8 ((20 + (a7.size : Int)) % 256), .int .u8 (a1 / 256 % 256), .int .u8 (a1 % 256), .int .u8 (a2 / 256 % 256), .int .u8 (a2 % 256), .int .u8 (a3 % 256), .int .u8 (a4 % 256), .int .u8 (m_ / 256 % 256), .int .u8 0, .int .u8 (a5 / 16777216), .int .u8 (a5 / 65536 % 256), .int .u8 (a5 / 256 % 256), .int .u8 (a5 % 256), .int .u8 (a6 / 16777216), .int .u8 (a6 / 65536 % 256), .int .u8 (a6 / 256 % 256), .int .u8 (a6 % 256)]) Bb 10 (.int .u8 (m_ / 256 % 256)) rfl
      replace Z := Z.setCell (p := ⟨nb, 10, none⟩) hZ.out (.int .u8 (m_ / 256 % 256))
      generalize World.setCell W26 ⟨nb, 10, none⟩ (.int .u8 (m_ / 256 % 256)) = W27 at A E Bb Z ⊢
      replace A := keep_blk (j := 11) (v := .int .u8 (m_ % 256)) A hA.out
      replace E := keep_blk (j := 11) (v := .int .u8 (m_ % 256)) E hE.out
      replace Bb := blk_put (cs' := #[.int .u8 69, .int .u8 (a0 % 256), .int .u8 ((20 + (a7.size : Int)) / 256 % 256), .int .u8 ((20 + (a7.size : Int)) % 256), .int .u8 (a1 / 256 % 256), .int .u8 (a1 % 256), .int .u8 (a2 / 256 % 256), .int .u8 (a2 % 256), .int .u8 (a3 % 256), .int .u8 (a4 % 256), .int .u8 (m_ / 256 % 256), .int .u8 (m_ % 256), .int .u8 (a5 / 16777216), .int .u8 (a5 / 65536 % 256), .int .u8 (a5 / 256 % 256), .int .u8 (a5 % 256), .int .u8 (a6 / 16777216), .int .u8 (a6 / 65536 % 256), .int .u8 (a6 / 256 % 256), .int .u8 (a6 % 256)]) Bb 11 (.int .u8 (m_ % 256)) rfl
      replace Z := Z.setCell (p := ⟨nb, 11, none⟩) hZ.out (.int .u8 (m_ % 256))
      generalize World.setCell W27 ⟨nb, 11, none⟩ (.int .u8 (m_ % 256)) = W28 at A E Bb Z ⊢
      try clear hHeld
      refine hK.out _ _ (by exact ⟨(blk_cell A 0).trans rfl, (blk_cell A 1).trans rfl, (blk_cell A 2).trans rfl, (blk_cell A 3).trans rfl, (blk_cell A 4).trans rfl, (blk_cell A 5).trans rfl, (blk_cell A 6).trans rfl, (blk_cell A 7).trans rfl⟩) (fun hHeld => ?_)
      clear hK K
      refine norm_ (a' := ?_) ?_ ?_
      rotate_left
      · show Act.put _ (some 103) _ = _; simp only [Act.put, List.setIfInBounds_toArray, List.set_cons_zero, List.set_cons_succ, i64_w, i32_w]; rfl
      refine done_ (by kernel_rfl) ?_
      refine NoPanic.normal ?_
      have hc := conv_row W28 nb 20 [69, a0 % 256, (20 + (a7.size : Int)) / 256 % 256, (20 + (a7.size : Int)) % 256, a1 / 256 % 256, a1 % 256, a2 / 256 % 256, a2 % 256, a3 % 256, a4 % 256, m_ / 256 % 256, m_ % 256, a5 / 16777216, a5 / 65536 % 256, a5 / 256 % 256, a5 % 256, a6 / 16777216, a6 / 65536 % 256, a6 / 256 % 256, a6 % 256] (by simp) _ rfl 20 rfl Bb
      rw [hdr_nums (20 + (a7.size : Int)) a0 a1 a2 a3 a4 m_ a5 a6 _ _ rfl rfl hv12.out.1 hv12.out.2 hv16.out.1 hv16.out.2] at hc
      have hH : Hid (hdrV (20 + (a7.size : Int)) a0 a1 a2 a3 a4 m_ a5 a6 ++ a7 = packV a0 a1 a2 a3 a4 a5 a6 a7) := by unfold Hid packV; rw [HM.out]
      have hz : (hdrV (20 + (a7.size : Int)) a0 a1 a2 a3 a4 m_ a5 a6).size = 20 := rfl
      have hz2 : (9223372036854775807 < (hdrV (20 + (a7.size : Int)) a0 a1 a2 a3 a4 m_ a5 a6).size + a7.size) = False := by have := hs8.out; rw [hz]; exact eq_false (by omega)
      clear hz
      generalize hdrV (20 + (a7.size : Int)) a0 a1 a2 a3 a4 m_ a5 a6 = HH at hc hH hz2
      have h7 : World.cell? _ ⟨w.heap.size, 7, none⟩ = some (.string a7) := (blk_cell A 7).trans rfl
      have hE0 : World.cell? _ ⟨w.heap.size + 1, 0, none⟩ = some (.int .i64 0) := (blk_cell E 0).trans rfl
      have hE1 := blk_frozen E 0
      go_wp2
      exact doorB_ret w.heap.size 0 w _ _ _ rfl rfl (blk_put E 0 _ rfl) (Z.setCell (by simp) _) fun W' hb => ⟨by rw [hH.out], hb⟩
theorem build78_calls (a0 a1 a2 a3 a4 a5 a6 : Int) (a7 : ByteArray) (w : World) (h5 : 0 ≤ a5) (h5' : a5 < 4294967296) (h6 : 0 ≤ a6) (h6' : a6 < 4294967296) :
    Calls Try.prog 78 #[.agg #[.int .i64 a0, .int .i64 a1, .int .i64 a2, .int .i64 a3, .int .i64 a4, .int .u32 a5, .int .u32 a6, .string a7]] w fun e w' => e = .returned (.tuple #[.string (buildV a0 a1 a2 a3 a4 a5 a6 a7).1, .int .i64 (buildV a0 a1 a2 a3 a4 a5 a6 a7).2]) ∧ Below w.heap.size w w' := by
  unfold buildV
  by_cases h : okH a0 a1 a2 a3 a4
  · rw [if_pos h]
    by_cases hs : a7.size ≤ 65515
    · rw [if_pos hs]
      exact build_good a0 a1 a2 a3 a4 a5 a6 a7 w h h5 h5' h6 h6' hs
    · rw [if_neg hs]
      exact build_long a0 a1 a2 a3 a4 a5 a6 a7 w h (by omega)
  · rw [if_neg h]
    exact build_bad a0 a1 a2 a3 a4 a5 a6 a7 w h
end Go.Proofs.Ytcpneggifmldoaa.T
set_option linter.unusedVariables false
set_option linter.unusedSimpArgs false
namespace Go.Proofs.Ytcpneggifmldoaa.T
open Go.RowKit Go.Proofs.YtcpneggifmldoaaW.PrintWords Go
def by20 (b0 b1 b2 b3 b4 b5 b6 b7 b8 b9 b10 b11 b12 b13 b14 b15 b16 b17 b18 b19 : UInt8) (r : List UInt8) : ByteArray := ⟨(b0 :: b1 :: b2 :: b3 :: b4 :: b5 :: b6 :: b7 :: b8 :: b9 :: b10 :: b11 :: b12 :: b13 :: b14 :: b15 :: b16 :: b17 :: b18 :: b19 :: r).toArray⟩
theorem cons_of {n : Nat} {l : List UInt8} (h : n + 1 ≤ l.length) : ∃ b t, l = b :: t ∧ n ≤ t.length := by
  cases l with
  | nil => simp at h
  | cons b t => exact ⟨b, t, rfl, by simp at h; omega⟩
theorem by20_of {s : ByteArray} (h : 20 ≤ s.size) : ∃ b0 b1 b2 b3 b4 b5 b6 b7 b8 b9 b10 b11 b12 b13 b14 b15 b16 b17 b18 b19 r, s = by20 b0 b1 b2 b3 b4 b5 b6 b7 b8 b9 b10 b11 b12 b13 b14 b15 b16 b17 b18 b19 r := by
  obtain ⟨⟨l⟩⟩ := s
  have h : 20 ≤ l.length := h
  obtain ⟨b0, l0, e0, h0⟩ := cons_of h
  obtain ⟨b1, l1, e1, h1⟩ := cons_of h0
  obtain ⟨b2, l2, e2, h2⟩ := cons_of h1
  obtain ⟨b3, l3, e3, h3⟩ := cons_of h2
  obtain ⟨b4, l4, e4, h4⟩ := cons_of h3
  obtain ⟨b5, l5, e5, h5⟩ := cons_of h4
  obtain ⟨b6, l6, e6, h6⟩ := cons_of h5
  obtain ⟨b7, l7, e7, h7⟩ := cons_of h6
  obtain ⟨b8, l8, e8, h8⟩ := cons_of h7
  obtain ⟨b9, l9, e9, h9⟩ := cons_of h8
  obtain ⟨b10, l10, e10, h10⟩ := cons_of h9
  obtain ⟨b11, l11, e11, h11⟩ := cons_of h10
  obtain ⟨b12, l12, e12, h12⟩ := cons_of h11
  obtain ⟨b13, l13, e13, h13⟩ := cons_of h12
  obtain ⟨b14, l14, e14, h14⟩ := cons_of h13
  obtain ⟨b15, l15, e15, h15⟩ := cons_of h14
  obtain ⟨b16, l16, e16, h16⟩ := cons_of h15
  obtain ⟨b17, l17, e17, h17⟩ := cons_of h16
  obtain ⟨b18, l18, e18, h18⟩ := cons_of h17
  obtain ⟨b19, l19, e19, h19⟩ := cons_of h18
  refine ⟨b0, b1, b2, b3, b4, b5, b6, b7, b8, b9, b10, b11, b12, b13, b14, b15, b16, b17, b18, b19, l19, ?_⟩
  rw [e0, e1, e2, e3, e4, e5, e6, e7, e8, e9, e10, e11, e12, e13, e14, e15, e16, e17, e18, e19]
  rfl
section
variable (b0 b1 b2 b3 b4 b5 b6 b7 b8 b9 b10 b11 b12 b13 b14 b15 b16 b17 b18 b19 : UInt8) (r : List UInt8)
theorem by20_size : (by20 b0 b1 b2 b3 b4 b5 b6 b7 b8 b9 b10 b11 b12 b13 b14 b15 b16 b17 b18 b19 r).size = r.length + 20 := by simp [by20, ByteArray.size]
theorem by20_rest : (by20 b0 b1 b2 b3 b4 b5 b6 b7 b8 b9 b10 b11 b12 b13 b14 b15 b16 b17 b18 b19 r).extract 20 (by20 b0 b1 b2 b3 b4 b5 b6 b7 b8 b9 b10 b11 b12 b13 b14 b15 b16 b17 b18 b19 r).size = ⟨r.toArray⟩ := by
  apply ByteArray.ext
  rw [by20_size]
  simp [by20, ByteArray.data_extract, List.take_of_length_le]
theorem by20_zeroed : zeroed (by20 b0 b1 b2 b3 b4 b5 b6 b7 b8 b9 b10 b11 b12 b13 b14 b15 b16 b17 b18 b19 r) = ⟨#[b0, b1, b2, b3, b4, b5, b6, b7, b8, b9, 0, 0, b12, b13, b14, b15, b16, b17, b18, b19]⟩ := by
  unfold zeroed
  apply ByteArray.ext
  simp [by20, ByteArray.data_extract, ByteArray.data_append]
theorem bt_of (l : List UInt8) (i : Nat) (b : UInt8) (h : l[i]? = some b) : bt ⟨l.toArray⟩ (i : Int) = b.toNat := by
  obtain ⟨hi, hb⟩ := List.getElem?_eq_some_iff.1 h
  rw [bt_nat _ i (by simpa [ByteArray.size] using hi)]
  have : (⟨l.toArray⟩ : ByteArray)[i]'(by simpa [ByteArray.size] using hi) = l[i] := by simp [ByteArray.getElem_eq_getElem_data]
  rw [this, hb]
theorem bt0 : bt (by20 b0 b1 b2 b3 b4 b5 b6 b7 b8 b9 b10 b11 b12 b13 b14 b15 b16 b17 b18 b19 r) ((0 : Nat) : Int) = b0.toNat := bt_of _ 0 _ rfl
theorem bt1 : bt (by20 b0 b1 b2 b3 b4 b5 b6 b7 b8 b9 b10 b11 b12 b13 b14 b15 b16 b17 b18 b19 r) ((1 : Nat) : Int) = b1.toNat := bt_of _ 1 _ rfl
theorem bt8 : bt (by20 b0 b1 b2 b3 b4 b5 b6 b7 b8 b9 b10 b11 b12 b13 b14 b15 b16 b17 b18 b19 r) ((8 : Nat) : Int) = b8.toNat := bt_of _ 8 _ rfl
theorem bt9 : bt (by20 b0 b1 b2 b3 b4 b5 b6 b7 b8 b9 b10 b11 b12 b13 b14 b15 b16 b17 b18 b19 r) ((9 : Nat) : Int) = b9.toNat := bt_of _ 9 _ rfl
theorem n2_2 : n2 (by20 b0 b1 b2 b3 b4 b5 b6 b7 b8 b9 b10 b11 b12 b13 b14 b15 b16 b17 b18 b19 r) 2 = b2.toNat * 256 + b3.toNat := by unfold n2 by20; rw [bt_of _ 2 _ rfl, bt_of _ (2 + 1) _ rfl]
theorem n2_4 : n2 (by20 b0 b1 b2 b3 b4 b5 b6 b7 b8 b9 b10 b11 b12 b13 b14 b15 b16 b17 b18 b19 r) 4 = b4.toNat * 256 + b5.toNat := by unfold n2 by20; rw [bt_of _ 4 _ rfl, bt_of _ (4 + 1) _ rfl]
theorem n2_6 : n2 (by20 b0 b1 b2 b3 b4 b5 b6 b7 b8 b9 b10 b11 b12 b13 b14 b15 b16 b17 b18 b19 r) 6 = b6.toNat * 256 + b7.toNat := by unfold n2 by20; rw [bt_of _ 6 _ rfl, bt_of _ (6 + 1) _ rfl]
theorem n2_10 : n2 (by20 b0 b1 b2 b3 b4 b5 b6 b7 b8 b9 b10 b11 b12 b13 b14 b15 b16 b17 b18 b19 r) 10 = b10.toNat * 256 + b11.toNat := by unfold n2 by20; rw [bt_of _ 10 _ rfl, bt_of _ (10 + 1) _ rfl]
theorem n4_12 : n4 (by20 b0 b1 b2 b3 b4 b5 b6 b7 b8 b9 b10 b11 b12 b13 b14 b15 b16 b17 b18 b19 r) 12 = ((b12.toNat * 256 + b13.toNat) * 256 + b14.toNat) * 256 + b15.toNat := by unfold n4 by20; rw [bt_of _ 12 _ rfl, bt_of _ (12 + 1) _ rfl, bt_of _ (12 + 2) _ rfl, bt_of _ (12 + 3) _ rfl]
theorem n4_16 : n4 (by20 b0 b1 b2 b3 b4 b5 b6 b7 b8 b9 b10 b11 b12 b13 b14 b15 b16 b17 b18 b19 r) 16 = ((b16.toNat * 256 + b17.toNat) * 256 + b18.toNat) * 256 + b19.toNat := by unfold n4 by20; rw [bt_of _ 16 _ rfl, bt_of _ (16 + 1) _ rfl, bt_of _ (16 + 2) _ rfl, bt_of _ (16 + 3) _ rfl]
end
theorem u8_lo (a b : UInt8) : u8 ((a.toNat : Int) * 256 + b.toNat) = b := u8_ext (by rw [u8_nat]; have := b.toNat_lt; omega)
theorem u8_hi (a b : UInt8) : u8 (((a.toNat : Int) * 256 + b.toNat) / 256) = a := u8_ext (by rw [u8_nat]; have := b.toNat_lt; have := a.toNat_lt; omega)
theorem u8_4 (a b c d : UInt8) : u8 ((((a.toNat : Int) * 256 + b.toNat) * 256 + c.toNat) * 256 + d.toNat) = d ∧ u8 (((((a.toNat : Int) * 256 + b.toNat) * 256 + c.toNat) * 256 + d.toNat) / 256) = c ∧ u8 (((((a.toNat : Int) * 256 + b.toNat) * 256 + c.toNat) * 256 + d.toNat) / 65536) = b ∧ u8 (((((a.toNat : Int) * 256 + b.toNat) * 256 + c.toNat) * 256 + d.toNat) / 16777216) = a := by
  have ha := a.toNat_lt
  have hb := b.toNat_lt
  have hc := c.toNat_lt
  have hd := d.toNat_lt
  refine ⟨u8_ext ?_, u8_ext ?_, u8_ext ?_, u8_ext ?_⟩ <;> rw [u8_nat] <;> omega
theorem hdr_of (b0 b1 b2 b3 b4 b5 b6 b7 b8 b9 b10 b11 b12 b13 b14 b15 b16 b17 b18 b19 : UInt8) (r : List UInt8) (m : Int) (h2 : (r.length : Int) + 20 = b2.toNat * 256 + b3.toNat) :
    hdrV (20 + ((⟨r.toArray⟩ : ByteArray).size : Int)) b1.toNat (b4.toNat * 256 + b5.toNat) (b6.toNat * 256 + b7.toNat) b8.toNat b9.toNat m (((b12.toNat * 256 + b13.toNat) * 256 + b14.toNat) * 256 + b15.toNat) (((b16.toNat * 256 + b17.toNat) * 256 + b18.toNat) * 256 + b19.toNat)
      = ⟨#[69, b1, b2, b3, b4, b5, b6, b7, b8, b9, u8 (m / 256), u8 m, b12, b13, b14, b15, b16, b17, b18, b19]⟩ := by
  have hz : ((⟨r.toArray⟩ : ByteArray).size : Int) = r.length := by simp [ByteArray.size]
  have e : 20 + ((⟨r.toArray⟩ : ByteArray).size : Int) = b2.toNat * 256 + b3.toNat := by omega
  obtain ⟨p0, p1, p2, p3⟩ := u8_4 b12 b13 b14 b15
  obtain ⟨q0, q1, q2, q3⟩ := u8_4 b16 b17 b18 b19
  unfold hdrV
  rw [e, u8_lo, u8_hi, u8_lo, u8_hi, u8_lo, u8_hi, u8_back, u8_back, u8_back, p0, p1, p2, p3, q0, q1, q2, q3]
theorem ok_of (b1 b4 b5 b6 b7 b8 b9 : UInt8) : okH b1.toNat (b4.toNat * 256 + b5.toNat) (b6.toNat * 256 + b7.toNat) b8.toNat b9.toNat := by
  have h1 := b1.toNat_lt
  have h4 := b4.toNat_lt
  have h5 := b5.toNat_lt
  have h6 := b6.toNat_lt
  have h7 := b7.toNat_lt
  have h8 := b8.toNat_lt
  have h9 := b9.toNat_lt
  unfold okH
  omega
theorem build_back (s : ByteArray) (h : 20 ≤ s.size) (h0 : bt s 0 = 69) (hl : (s.size : Int) = n2 s 2) :
    ∃ T, buildV (bt s 1) (n2 s 4) (n2 s 6) (bt s 8) (bt s 9) (n4 s 12) (n4 s 16) (s.extract 20 s.size) = (T, 0) ∧ (T.toList == s.toList) = (sumV (zeroed s) == n2 s 10) := by
  obtain ⟨b0, b1, b2, b3, b4, b5, b6, b7, b8, b9, b10, b11, b12, b13, b14, b15, b16, b17, b18, b19, r, rfl⟩ := by20_of h
  have e0 := bt0 b0 b1 b2 b3 b4 b5 b6 b7 b8 b9 b10 b11 b12 b13 b14 b15 b16 b17 b18 b19 r
  have e1 := bt1 b0 b1 b2 b3 b4 b5 b6 b7 b8 b9 b10 b11 b12 b13 b14 b15 b16 b17 b18 b19 r
  have e8 := bt8 b0 b1 b2 b3 b4 b5 b6 b7 b8 b9 b10 b11 b12 b13 b14 b15 b16 b17 b18 b19 r
  have e9 := bt9 b0 b1 b2 b3 b4 b5 b6 b7 b8 b9 b10 b11 b12 b13 b14 b15 b16 b17 b18 b19 r
  rw [show ((0 : Nat) : Int) = 0 from rfl] at e0
  rw [show ((1 : Nat) : Int) = 1 from rfl] at e1
  rw [show ((8 : Nat) : Int) = 8 from rfl] at e8
  rw [show ((9 : Nat) : Int) = 9 from rfl] at e9
  rw [n2_2, by20_size] at hl
  have hlen : (r.length : Int) + 20 = b2.toNat * 256 + b3.toNat := by rw [← hl]; omega
  have hb0 : b0 = 69 := by
    rw [e0] at h0
    exact UInt8.toNat_inj.1 (by have : (69 : UInt8).toNat = 69 := rfl; omega)
  have h2 := b2.toNat_lt
  have h3 := b3.toNat_lt
  have hz : (⟨r.toArray⟩ : ByteArray).size = r.length := by simp [ByteArray.size]
  rw [e1, e8, e9, n2_4, n2_6, n2_10, n4_12, n4_16, by20_rest, by20_zeroed]
  unfold buildV
  rw [if_pos (ok_of b1 b4 b5 b6 b7 b8 b9), if_pos (by rw [hz]; omega)]
  refine ⟨_, rfl, ?_⟩
  unfold packV
  rw [hdr_of b0 b1 b2 b3 b4 b5 b6 b7 b8 b9 b10 b11 b12 b13 b14 b15 b16 b17 b18 b19 r 0 hlen, hdr_of b0 b1 b2 b3 b4 b5 b6 b7 b8 b9 b10 b11 b12 b13 b14 b15 b16 b17 b18 b19 r _ hlen]
  have z1 : u8 (0 / 256) = 0 := by decide
  have z2 : u8 0 = 0 := by decide
  rw [z1, z2, hb0]
  have hS := sumV_range ⟨#[69, b1, b2, b3, b4, b5, b6, b7, b8, b9, 0, 0, b12, b13, b14, b15, b16, b17, b18, b19]⟩
  generalize sumV ⟨#[69, b1, b2, b3, b4, b5, b6, b7, b8, b9, 0, 0, b12, b13, b14, b15, b16, b17, b18, b19]⟩ = S at hS ⊢
  rw [Lib.toList_data, Lib.toList_data, Bool.eq_iff_iff, beq_iff_eq, beq_iff_eq]
  simp only [by20, ByteArray.data_append, Array.toList_append, List.cons_append, List.nil_append, List.cons.injEq, true_and, and_true]
  have hb10 := b10.toNat_lt
  have hb11 := b11.toNat_lt
  constructor
  · rintro ⟨p, q⟩
    have p' := congrArg (fun x : UInt8 => (x.toNat : Int)) p
    have q' := congrArg (fun x : UInt8 => (x.toNat : Int)) q
    simp only [u8_nat] at p' q'
    omega
  · rintro rfl
    exact ⟨u8_hi b10 b11, u8_lo b10 b11⟩
theorem bne_not {x y : List UInt8} {b : Bool} (h : (x == y) = b) : (x != y) = !b := by rw [bne, h]
theorem two_back {n : Int} (h0 : 0 ≤ n) (h1 : n ≤ 65535) : ((u8 (n / 256)).toNat : Int) * 256 + ((u8 n).toNat : Int) = n := by rw [u8_nat, u8_nat]; omega
theorem one_back {n : Int} (h0 : 0 ≤ n) (h1 : n ≤ 255) : ((u8 n).toNat : Int) = n := by rw [u8_nat]; omega
theorem four_back {n : Int} (h0 : 0 ≤ n) (h1 : n < 4294967296) : ((((u8 (n / 16777216)).toNat : Int) * 256 + ((u8 (n / 65536)).toNat : Int)) * 256 + ((u8 (n / 256)).toNat : Int)) * 256 + ((u8 n).toNat : Int) = n := by rw [u8_nat, u8_nat, u8_nat, u8_nat]; omega
theorem pack_by20 (len a0 a1 a2 a3 a4 m a5 a6 : Int) (d : ByteArray) : hdrV len a0 a1 a2 a3 a4 m a5 a6 ++ d = by20 69 (u8 a0) (u8 (len / 256)) (u8 len) (u8 (a1 / 256)) (u8 a1) (u8 (a2 / 256)) (u8 a2) (u8 a3) (u8 a4) (u8 (m / 256)) (u8 m)
    (u8 (a5 / 16777216)) (u8 (a5 / 65536)) (u8 (a5 / 256)) (u8 a5) (u8 (a6 / 16777216)) (u8 (a6 / 65536)) (u8 (a6 / 256)) (u8 a6) d.data.toList := by
  apply ByteArray.ext
  apply Array.ext'
  simp [by20, hdrV, ByteArray.data_append]
theorem parse_pack {a0 a1 a2 a3 a4 a5 a6 : Int} {d : ByteArray} (h : okH a0 a1 a2 a3 a4) (h5 : 0 ≤ a5) (h5' : a5 < 4294967296) (h6 : 0 ≤ a6) (h6' : a6 < 4294967296) (hs : d.size ≤ 65515) :
    parseV (packV a0 a1 a2 a3 a4 a5 a6 d) = (a0, a1, a2, a3, a4, a5, a6, d, 0) := by
  obtain ⟨⟨g0, g0'⟩, ⟨g3, g3'⟩, ⟨g4, g4'⟩, ⟨g1, g1'⟩, g2, g2'⟩ := h
  unfold packV
  rw [pack_by20]
  have hS := sumV_range (hdrV (20 + (d.size : Int)) a0 a1 a2 a3 a4 0 a5 a6)
  obtain ⟨S, hSe⟩ : ∃ S, sumV (hdrV (20 + (d.size : Int)) a0 a1 a2 a3 a4 0 a5 a6) = S := ⟨_, rfl⟩
  rw [hSe] at hS ⊢
  have hd : d.data.toList.length = d.size := Array.length_toList
  have hdd : (⟨d.data.toList.toArray⟩ : ByteArray) = d := by
    obtain ⟨a⟩ := d
    show (⟨a.toList.toArray⟩ : ByteArray) = ⟨a⟩
    rw [Array.toArray_toList]
  unfold parseV
  rw [by20_size, n2_2, n2_4, n2_6, n2_10, n4_12, n4_16, ← by20_size, by20_rest, by20_size, by20_zeroed]
  rw [show (0 : Int) = ((0 : Nat) : Int) from rfl, show (1 : Int) = ((1 : Nat) : Int) from rfl, show (8 : Int) = ((8 : Nat) : Int) from rfl, show (9 : Int) = ((9 : Nat) : Int) from rfl, bt0, bt1, bt8, bt9]
  have hz : (⟨#[69, u8 a0, u8 ((20 + (d.size : Int)) / 256), u8 (20 + (d.size : Int)), u8 (a1 / 256), u8 a1, u8 (a2 / 256), u8 a2, u8 a3, u8 a4, 0, 0, u8 (a5 / 16777216), u8 (a5 / 65536), u8 (a5 / 256), u8 a5, u8 (a6 / 16777216), u8 (a6 / 65536), u8 (a6 / 256), u8 a6]⟩ : ByteArray) = hdrV (20 + (d.size : Int)) a0 a1 a2 a3 a4 0 a5 a6 := rfl
  rw [hz, hSe, two_back (by omega) (by omega), two_back g1 g1', two_back g2 g2', two_back hS.1 hS.2, four_back h5 h5', four_back h6 h6', one_back g0 g0', one_back g3 g3', one_back g4 g4', hdd, hd]
  rw [if_neg (by omega), if_pos (by decide), if_neg (by omega), if_pos (by omega), if_pos rfl]
theorem parse_ok {s : ByteArray} {a0 a1 a2 a3 a4 a5 a6 : Int} {d : ByteArray} (h : parseV s = (a0, a1, a2, a3, a4, a5, a6, d, 0)) :
    okH a0 a1 a2 a3 a4 ∧ 0 ≤ a5 ∧ a5 < 4294967296 ∧ 0 ≤ a6 ∧ a6 < 4294967296 ∧ d.size ≤ 65515 ∧ s.size = d.size + 20 := by
  unfold parseV at h
  by_cases c1 : s.size < 20
  · rw [if_pos c1] at h; simp [badH] at h
  rw [if_neg c1] at h
  by_cases c2 : bt s 0 = 69
  · rw [if_pos c2] at h
    by_cases c3 : n2 s 2 < 20 ∨ (s.size : Int) < n2 s 2
    · rw [if_pos c3] at h; simp [badH] at h
    rw [if_neg c3] at h
    by_cases c4 : (s.size : Int) = n2 s 2
    · rw [if_pos c4] at h
      by_cases c5 : sumV (zeroed s) = n2 s 10
      · rw [if_pos c5] at h
        simp only [Prod.mk.injEq] at h
        obtain ⟨rfl, rfl, rfl, rfl, rfl, rfl, rfl, rfl, -⟩ := h
        have r1 := bt_range s 1
        have r8 := bt_range s 8
        have r9 := bt_range s 9
        have r2 := n2_range s 2
        have r4 := n2_range s 4
        have r6 := n2_range s 6
        have r12 := n4_range s 12
        have r16 := n4_range s 16
        have e := size_extract' s 20 s.size (Nat.le_refl _)
        unfold okH
        omega
      · rw [if_neg c5] at h; simp [badH] at h
    · rw [if_neg c4] at h; simp [badH] at h
  · rw [if_neg c2] at h; simp [badH] at h
def hopV (s : ByteArray) : ByteArray × Int :=
  if (parseV s).2.2.2.2.2.2.2.2 = 0 then if (parseV s).2.2.2.1 < 2 then (⟨#[]⟩, 2) else
    (packV (parseV s).1 (parseV s).2.1 (parseV s).2.2.1 ((parseV s).2.2.2.1 - 1) (parseV s).2.2.2.2.1 (parseV s).2.2.2.2.2.1 (parseV s).2.2.2.2.2.2.1 (parseV s).2.2.2.2.2.2.2.1, 0)
  else (⟨#[]⟩, (parseV s).2.2.2.2.2.2.2.2)
def downV (ip : Bool) (addr port own src frm : Int) (s : ByteArray) : ByteArray × Int :=
  if 1000 < s.size then (⟨#[]⟩, 8) else if ip = true then
    if (parseV s).2.2.2.2.2.2.2.2 = 0 then if (parseV s).2.2.2.2.2.2.1 = own then hopV s else (⟨#[]⟩, 15) else (⟨#[]⟩, (parseV s).2.2.2.2.2.2.2.2)
  else if src = addr ∧ frm = port then (s, 0) else (⟨#[]⟩, 15)
end Go.Proofs.Ytcpneggifmldoaa.T
set_option linter.unusedVariables false
set_option linter.unusedSimpArgs false
namespace Go.Proofs.Ytcpneggifmldoaa.T
open Go.RowKit Go.Proofs.YtcpneggifmldoaaW.PrintWords Go.Proofs.YtcpneggifmldoaaW.PrintLast Go.Proofs.YtcpneggifmldoaaW.PrintMore Go
set_option maxRecDepth 100000 in
set_option maxHeartbeats 1000000 in
theorem hop60_no (s : ByteArray) (w : World) (a0 a1 a2 a3 a4 a5 a6 u : Int) (d : ByteArray) (hp : parseV s = (a0, a1, a2, a3, a4, a5, a6, d, u)) (h0 : (u == 0) = false) (h1 : (u != 0) = true) :
    Calls Try.prog 60 #[.string s] w fun e w' => e = .returned (.tuple #[.string ⟨#[]⟩, .int .i64 u]) ∧ Below w.heap.size w w' := by
  have hu58 := Try.underlying58
  have K : Hid (∀ w, Calls Try.prog 38 #[.string s] w fun e w' => e = .returned (.tuple #[.agg #[.int .i64 a0, .int .i64 a1, .int .i64 a2, .int .i64 a3, .int .i64 a4, .int .u32 a5, .int .u32 a6, .string d], .int .i64 u]) ∧ Below w.heap.size w w') := fun w => by have := parse38_calls s w; rw [hp] at this; exact this
  clear hp
  go_enter Try.func60, Try.ntmps60
  go_wp2_with (first | (go_at_call 38; (with_reducible refine (K.out _).mono ?_); rintro e w1 ⟨rfl, hb⟩; have Z : Hid _ := hb; clear hb) | (refine wpList_store_row rfl 58 _ _ rfl _ _ rfl rfl 58 _ (blk_new _ _) (by kernel_rfl) rfl (by simp [Value.oneCell']) ?_; rw [World.setRow_alloc_new]))
  go_ret2
  exact ⟨rfl, ((Z.out).alloc Z.out.size _)⟩
set_option maxRecDepth 100000 in
set_option maxHeartbeats 1000000 in
theorem hop60_dead (s : ByteArray) (w : World) (a0 a1 a2 a3 a4 a5 a6 u : Int) (d : ByteArray) (hp : parseV s = (a0, a1, a2, a3, a4, a5, a6, d, u)) (h0 : (u == 0) = true) (h1 : (u != 0) = false) (ht : decide (a3 < 2) = true) :
    Calls Try.prog 60 #[.string s] w fun e w' => e = .returned (.tuple #[.string ⟨#[]⟩, .int .i64 2]) ∧ Below w.heap.size w w' := by
  have hu58 := Try.underlying58
  have K : Hid (∀ w, Calls Try.prog 38 #[.string s] w fun e w' => e = .returned (.tuple #[.agg #[.int .i64 a0, .int .i64 a1, .int .i64 a2, .int .i64 a3, .int .i64 a4, .int .u32 a5, .int .u32 a6, .string d], .int .i64 u]) ∧ Below w.heap.size w w') := fun w => by have := parse38_calls s w; rw [hp] at this; exact this
  clear hp
  go_enter Try.func60, Try.ntmps60
  go_wp2_with (first | (go_at_call 38; (with_reducible refine (K.out _).mono ?_); rintro e w1 ⟨rfl, hb⟩; have Z : Hid _ := hb; clear hb) | (refine wpList_store_row rfl 58 _ _ rfl _ _ rfl rfl 58 _ (blk_new _ _) (by kernel_rfl) rfl (by simp [Value.oneCell']) ?_; rw [World.setRow_alloc_new]))
  go_ret2
  exact ⟨rfl, ((Z.out).alloc Z.out.size _)⟩
set_option maxRecDepth 100000 in
set_option maxHeartbeats 1000000 in
theorem hop60_yes (s : ByteArray) (w : World) (a0 a1 a2 a3 a4 a5 a6 u : Int) (d : ByteArray) (hp : parseV s = (a0, a1, a2, a3, a4, a5, a6, d, u)) (h0 : (u == 0) = true) (h1 : (u != 0) = false) (ht : decide (a3 < 2) = false) (x : Int) (hx : wrap64 (a3 - 1) = x)
    (T : ByteArray) (c : Int) (hB : ∀ w, Calls Try.prog 78 #[.agg #[.int .i64 a0, .int .i64 a1, .int .i64 a2, .int .i64 x, .int .i64 a4, .int .u32 a5, .int .u32 a6, .string d]] w fun e w' => e = .returned (.tuple #[.string T, .int .i64 c]) ∧ Below w.heap.size w w') :
    Calls Try.prog 60 #[.string s] w fun e w' => e = .returned (.tuple #[.string T, .int .i64 c]) ∧ Below w.heap.size w w' := by
  have hu58 := Try.underlying58
  have K : Hid (∀ w, Calls Try.prog 38 #[.string s] w fun e w' => e = .returned (.tuple #[.agg #[.int .i64 a0, .int .i64 a1, .int .i64 a2, .int .i64 a3, .int .i64 a4, .int .u32 a5, .int .u32 a6, .string d], .int .i64 u]) ∧ Below w.heap.size w w') := fun w => by have := parse38_calls s w; rw [hp] at this; exact this
  have B : Hid _ := hB
  clear hp hB
  go_enter Try.func60, Try.ntmps60
  go_wp2_with (first | (go_at_call 38; (with_reducible refine (K.out _).mono ?_); rintro e w1 ⟨rfl, hb⟩; have Z : Hid _ := hb; clear hb) | (refine wpList_store_row rfl 58 _ _ rfl _ _ rfl rfl 58 _ (blk_new _ _) (by kernel_rfl) rfl (by simp [Value.oneCell']) ?_; rw [World.setRow_alloc_new]) | (go_at_call 78; (with_reducible refine (B.out _).mono ?_); rintro e w2 ⟨rfl, hb⟩; have Y : Hid _ := hb; clear hb))
  go_ret2
  exact ⟨rfl, (Z.out.alloc Z.out.size _).trans (Y.out.mono (by rw [World.size_alloc]; have := Z.out.size; omega))⟩
theorem hop60_calls (s : ByteArray) (w : World) : Calls Try.prog 60 #[.string s] w fun e w' => e = .returned (.tuple #[.string (hopV s).1, .int .i64 (hopV s).2]) ∧ Below w.heap.size w w' := by
  obtain ⟨a0, a1, a2, a3, a4, a5, a6, d, u, hp⟩ : ∃ a0 a1 a2 a3 a4 a5 a6 d u, parseV s = (a0, a1, a2, a3, a4, a5, a6, d, u) := ⟨_, _, _, _, _, _, _, _, _, rfl⟩
  unfold hopV
  rw [hp]
  simp only
  by_cases hu : u = 0
  · rw [if_pos hu]
    have h0 : (u == 0) = true := beq_iff_eq.2 hu
    have h1 : (u != 0) = false := by rw [bne, h0]; rfl
    by_cases ht : a3 < 2
    · rw [if_pos ht]
      exact hop60_dead s w _ _ _ _ _ _ _ _ _ hp h0 h1 (decide_eq_true ht)
    · rw [if_neg ht]
      rw [hu] at hp
      obtain ⟨ho, q5, q5', q6, q6', hd, -⟩ := parse_ok hp
      have ho' : okH a0 a1 a2 (a3 - 1) a4 := by unfold okH at *; omega
      refine hop60_yes s w _ _ _ _ _ _ _ 0 _ hp rfl rfl (decide_eq_false ht) (a3 - 1) (by unfold okH at ho; unfold wrap64; omega) _ 0 (fun w => ?_)
      have := build78_calls a0 a1 a2 (a3 - 1) a4 a5 a6 d w q5 q5' q6 q6'
      unfold buildV at this
      rw [if_pos ho', if_pos hd] at this
      exact this
  · rw [if_neg hu]
    have h0 : (u == 0) = false := beq_eq_false_iff_ne.2 hu
    exact hop60_no s w _ _ _ _ _ _ _ _ _ hp h0 (by rw [bne, h0]; rfl)
end Go.Proofs.Ytcpneggifmldoaa.T
namespace Go.Proofs.Ytcpneggifmldoaa.T
open Go.RowKit Go.Proofs.YtcpneggifmldoaaW.PrintWords Go.Proofs.YtcpneggifmldoaaW.PrintLast Go.Proofs.YtcpneggifmldoaaW.PrintMore
attribute [local go_sem] max2_int min2_int max_two min_two max_three min_three max_four min_four   -- for this text's walks alone
set_option linter.unusedVariables false
set_option linter.unusedSimpArgs false
theorem eqA58 (d : Nat) (w : World) (x0 y0 : Int) (x1 y1 : Int) (x2 y2 : Int) (x3 y3 : Int) (x4 y4 : Int) (x5 y5 : Int) (x6 y6 : Int) (x7 y7 : ByteArray) :
    (Op.equalIn (d + 2) 58 (.agg #[.int .i64 x0, .int .i64 x1, .int .i64 x2, .int .i64 x3, .int .i64 x4, .int .u32 x5, .int .u32 x6, .string x7]) (.agg #[.int .i64 y0, .int .i64 y1, .int .i64 y2, .int .i64 y3, .int .i64 y4, .int .u32 y5, .int .u32 y6, .string y7])).run Try.prog w = .ok (x0 == y0 && (x1 == y1 && (x2 == y2 && (x3 == y3 && (x4 == y4 && (x5 == y5 && (x6 == y6 && (x7.toList == y7.toList)))))))) w := by
  refine eqA_of Try.underlying58 (by kernel_rfl) ?_
  refine eqf_cons (by rfl) (by go_simp; rfl) (by go_simp; rfl) (by go_simp) ?_
  refine eqf_cons (by rfl) (by go_simp; rfl) (by go_simp; rfl) (by go_simp) ?_
  refine eqf_cons (by rfl) (by go_simp; rfl) (by go_simp; rfl) (by go_simp) ?_
  refine eqf_cons (by rfl) (by go_simp; rfl) (by go_simp; rfl) (by go_simp) ?_
  refine eqf_cons (by rfl) (by go_simp; rfl) (by go_simp; rfl) (by go_simp) ?_
  refine eqf_cons (by rfl) (by go_simp; rfl) (by go_simp; rfl) (by go_simp) ?_
  refine eqf_cons (by rfl) (by go_simp; rfl) (by go_simp; rfl) (by go_simp) ?_
  exact eqf_last (by rfl) (by go_simp; rfl) (by go_simp; rfl) (by go_simp)
end Go.Proofs.Ytcpneggifmldoaa.T
set_option linter.unusedVariables false
set_option linter.unusedSimpArgs false
namespace Go.Proofs.Ytcpneggifmldoaa.T
open Go.RowKit Go.Proofs.YtcpneggifmldoaaW.PrintWords Go.Proofs.YtcpneggifmldoaaW.PrintLast Go.Proofs.YtcpneggifmldoaaW.PrintMore Go
attribute [local go_sem high] eqA58
set_option maxRecDepth 100000 in
set_option maxHeartbeats 2000000 in
theorem further_no (s : ByteArray) (w : World) (T : ByteArray) (u : Int) (hh : hopV s = (T, u)) (h0 : (u == 0) = false) (h1 : (u != 0) = true) :
    Calls Try.prog 39 #[.string s] w fun e w' => e = .returned (.tuple #[.string ⟨#[]⟩, .int .i64 u]) ∧ Below w.heap.size w w' := by
  have K : Hid (∀ w, Calls Try.prog 60 #[.string s] w fun e w' => e = .returned (.tuple #[.string T, .int .i64 u]) ∧ Below w.heap.size w w') := fun w => by have := hop60_calls s w; rw [hh] at this; exact this
  clear hh
  go_enter Try.func39, Try.ntmps39
  go_wp2_with (go_at_call 60; (with_reducible refine (K.out _).mono ?_); rintro e w1 ⟨rfl, hb⟩; have Z : Hid _ := hb; clear hb)
  go_ret2
  exact ⟨rfl, Z.out⟩
set_option maxRecDepth 100000 in
set_option maxHeartbeats 2000000 in
theorem further_yes (s : ByteArray) (w : World) (T : ByteArray) (hh : hopV s = (T, 0)) (a0 a1 a2 a3 a4 a5 a6 : Int) (d : ByteArray) (hp : parseV s = (a0, a1, a2, a3, a4, a5, a6, d, 0)) (x : Int) (hx : wrap64 (a3 - 1) = x) (hT : parseV T = (a0, a1, a2, x, a4, a5, a6, d, 0)) :
    Calls Try.prog 39 #[.string s] w fun e w' => e = .returned (.tuple #[.string T, .int .i64 0]) ∧ Below w.heap.size w w' := by
  have hu58 := Try.underlying58
  have K : Hid (∀ w, Calls Try.prog 60 #[.string s] w fun e w' => e = .returned (.tuple #[.string T, .int .i64 0]) ∧ Below w.heap.size w w') := fun w => by have := hop60_calls s w; rw [hh] at this; exact this
  have P : Hid (∀ w, Calls Try.prog 38 #[.string s] w fun e w' => e = .returned (.tuple #[.agg #[.int .i64 a0, .int .i64 a1, .int .i64 a2, .int .i64 a3, .int .i64 a4, .int .u32 a5, .int .u32 a6, .string d], .int .i64 0]) ∧ Below w.heap.size w w') := fun w => by have := parse38_calls s w; rw [hp] at this; exact this
  have Q : Hid (∀ w, Calls Try.prog 38 #[.string T] w fun e w' => e = .returned (.tuple #[.agg #[.int .i64 a0, .int .i64 a1, .int .i64 a2, .int .i64 x, .int .i64 a4, .int .u32 a5, .int .u32 a6, .string d], .int .i64 0]) ∧ Below w.heap.size w w') := fun w => by have := parse38_calls T w; rw [hT] at this; exact this
  clear hh hp hT
  go_enter Try.func39, Try.ntmps39
  go_wp2_with (first
    | (go_at_call 60; (with_reducible refine (K.out _).mono ?_); rintro e w1 ⟨rfl, hb⟩; have Z1 : Hid _ := hb; clear hb)
    | (go_at_call 38; (with_reducible refine (P.out _).mono ?_); rintro e w2 ⟨rfl, hb⟩; have Z2 : Hid _ := hb; clear hb)
    | (go_at_call 38; (with_reducible refine (Q.out _).mono ?_); rintro e w3 ⟨rfl, hb⟩; have Bx := blk_below (blk_new w2 (.cells #[.int .i64 a0, .int .i64 a1, .int .i64 a2, .int .i64 a3, .int .i64 a4, .int .u32 a5, .int .u32 a6, .string d] 58)) hb; have hz := blk_lt Bx; have c3 : w3.cell? ⟨w2.heap.size, 3, none⟩ = some (.int .i64 a3) := (blk_cell Bx 3).trans rfl; have f3 := blk_frozen Bx 3; have F6 : Hid _ := blk_alloc (blk_put Bx 3 (.int .i64 x) rfl) (.cells #[.int .i64 a0, .int .i64 a1, .int .i64 a2, .int .i64 x, .int .i64 a4, .int .u32 a5, .int .u32 a6, .string d] 58); have F8 : Hid (((w3.setCell ⟨w2.heap.size, 3, none⟩ (.int .i64 x)).alloc (.cells #[.int .i64 a0, .int .i64 a1, .int .i64 a2, .int .i64 x, .int .i64 a4, .int .u32 a5, .int .u32 a6, .string d] 58)).heap[w3.heap.size]? = some (.cells #[.int .i64 a0, .int .i64 a1, .int .i64 a2, .int .i64 x, .int .i64 a4, .int .u32 a5, .int .u32 a6, .string d] 58 (0, 0))) := (by have := blk_new (w3.setCell ⟨w2.heap.size, 3, none⟩ (.int .i64 x)) (.cells #[.int .i64 a0, .int .i64 a1, .int .i64 a2, .int .i64 x, .int .i64 a4, .int .u32 a5, .int .u32 a6, .string d] 58); rw [World.size_setCell] at this; exact this); have Z3 : Hid _ := hb; clear hb Bx)
    | (refine wpList_store_row rfl 58 _ _ rfl _ _ rfl rfl 58 _ (blk_new _ _) (by kernel_rfl) rfl (by simp [Value.oneCell']) ?_; rw [World.setRow_alloc_new])
    | (refine wpList_load_row rfl 58 _ rfl _ rfl 58 _ (0, 0) _ F8.out Try.underlying58 rfl (by kernel_rfl) ?_)
    | (refine wpList_load_row rfl 58 _ rfl _ rfl 58 _ (0, 0) _ F6.out Try.underlying58 rfl (by kernel_rfl) ?_))
  go_ret2
  have y2 := Z1.out.trans (Z2.out.mono Z1.out.size)
  have y3 := (y2.alloc y2.size (.cells #[.int .i64 a0, .int .i64 a1, .int .i64 a2, .int .i64 a3, .int .i64 a4, .int .u32 a5, .int .u32 a6, .string d] 58)).trans (Z3.out.mono (by rw [World.size_alloc]; have := y2.size; omega))
  exact ⟨rfl, (y3.setCell (by simpa using y2.size) _).alloc (by rw [World.size_setCell]; exact y3.size) _⟩
theorem further_calls (s : ByteArray) (w : World) : Calls Try.prog 39 #[.string s] w fun e w' => e = .returned (.tuple #[.string (hopV s).1, .int .i64 (hopV s).2]) ∧ Below w.heap.size w w' := by
  obtain ⟨a0, a1, a2, a3, a4, a5, a6, d, u, hp⟩ : ∃ a0 a1 a2 a3 a4 a5 a6 d u, parseV s = (a0, a1, a2, a3, a4, a5, a6, d, u) := ⟨_, _, _, _, _, _, _, _, _, rfl⟩
  by_cases hu : u = 0
  · subst hu
    by_cases ht : a3 < 2
    · have hh : hopV s = (⟨#[]⟩, 2) := by unfold hopV; rw [hp]; simp only; rw [if_pos trivial, if_pos ht]
      rw [hh]
      exact further_no s w _ 2 hh rfl rfl
    · obtain ⟨ho, q5, q5', q6, q6', hd, -⟩ := parse_ok hp
      have ho' : okH a0 a1 a2 (a3 - 1) a4 := by unfold okH at *; omega
      have hh : hopV s = (packV a0 a1 a2 (a3 - 1) a4 a5 a6 d, 0) := by unfold hopV; rw [hp]; simp only; rw [if_pos trivial, if_neg ht]
      rw [hh]
      exact further_yes s w _ hh _ _ _ _ _ _ _ _ hp (a3 - 1) (by unfold okH at ho; unfold wrap64; omega) (parse_pack ho' q5 q5' q6 q6' hd)
  · have hh : hopV s = (⟨#[]⟩, u) := by unfold hopV; rw [hp]; simp only; rw [if_neg hu]
    rw [hh]
    have h0 : (u == 0) = false := beq_eq_false_iff_ne.2 hu
    exact further_no s w _ u hh h0 (by rw [bne, h0]; rfl)
set_option maxRecDepth 100000 in
set_option maxHeartbeats 2000000 in
theorem down_long (ip : Bool) (addr port own prt : Int) (V : Option Addr) (n c : Nat) (src frm : Int) (s : ByteArray) (w : World) (hs : 1000 < s.size) :
    Calls Try.prog 19 #[.agg #[.bool ip, .int .u32 addr, .int .i64 port, .int .u32 own, .int .i64 prt, .slice V n c], .int .u32 src, .int .i64 frm, .string s] w fun e w' => e = .returned (.tuple #[.string ⟨#[]⟩, .int .i64 8]) ∧ Below w.heap.size w w' := by
  have hu47 := Try.underlying47
  have d0 : decide (1000 < (s.size : Int)) = true := decide_eq_true (by omega)
  have d1 : decide (1000 < s.size) = true := decide_eq_true (by omega)
  clear hs
  go_enter Try.func19, Try.ntmps19
  go_wp2
  go_ret2
  exact ⟨rfl, (Below.refl _ w).alloc (Nat.le_refl _) _⟩
set_option maxRecDepth 100000 in
set_option maxHeartbeats 2000000 in
theorem down_other (addr port own prt : Int) (V : Option Addr) (n c : Nat) (src frm : Int) (s : ByteArray) (w : World) (hs : s.size ≤ 1000) (h : ¬ (src = addr ∧ frm = port)) :
    Calls Try.prog 19 #[.agg #[.bool false, .int .u32 addr, .int .i64 port, .int .u32 own, .int .i64 prt, .slice V n c], .int .u32 src, .int .i64 frm, .string s] w fun e w' => e = .returned (.tuple #[.string ⟨#[]⟩, .int .i64 15]) ∧ Below w.heap.size w w' := by
  have hu47 := Try.underlying47
  have d0 : decide (1000 < (s.size : Int)) = false := decide_eq_false (by omega)
  have d1 : decide (1000 < s.size) = false := decide_eq_false (by omega)
  clear hs
  by_cases h1 : src = addr
  · have e1 : (src == addr) = true := beq_iff_eq.2 h1
    have e1' : (src != addr) = false := by rw [bne, e1]; rfl
    have e2 : (frm == port) = false := beq_eq_false_iff_ne.2 (fun h2 => h ⟨h1, h2⟩)
    have e2' : (frm != port) = true := by rw [bne, e2]; rfl
    clear h h1
    go_enter Try.func19, Try.ntmps19
    go_wp2
    go_ret2
    exact ⟨rfl, (Below.refl _ w).alloc (Nat.le_refl _) _⟩
  · have e1 : (src == addr) = false := beq_eq_false_iff_ne.2 h1
    have e1' : (src != addr) = true := by rw [bne, e1]; rfl
    clear h h1
    go_enter Try.func19, Try.ntmps19
    go_wp2
    go_ret2
    exact ⟨rfl, (Below.refl _ w).alloc (Nat.le_refl _) _⟩
set_option maxRecDepth 100000 in
set_option maxHeartbeats 2000000 in
theorem down_same (addr port own prt : Int) (V : Option Addr) (n c : Nat) (src frm : Int) (s : ByteArray) (w : World) (hs : s.size ≤ 1000) (h1 : src = addr) (h2 : frm = port) :
    Calls Try.prog 19 #[.agg #[.bool false, .int .u32 addr, .int .i64 port, .int .u32 own, .int .i64 prt, .slice V n c], .int .u32 src, .int .i64 frm, .string s] w fun e w' => e = .returned (.tuple #[.string s, .int .i64 0]) ∧ Below w.heap.size w w' := by
  have hu47 := Try.underlying47
  have d0 : decide (1000 < (s.size : Int)) = false := decide_eq_false (by omega)
  have d1 : decide (1000 < s.size) = false := decide_eq_false (by omega)
  clear hs
  have e1 : (src == addr) = true := beq_iff_eq.2 h1
  have e1' : (src != addr) = false := by rw [bne, e1]; rfl
  have e2 : (frm == port) = true := beq_iff_eq.2 h2
  have e2' : (frm != port) = false := by rw [bne, e2]; rfl
  clear h1 h2
  go_enter Try.func19, Try.ntmps19
  go_wp2
  go_ret2
  exact ⟨rfl, (Below.refl _ w).alloc (Nat.le_refl _) _⟩
set_option maxRecDepth 100000 in
set_option maxHeartbeats 2000000 in
theorem down_bad (addr port own prt : Int) (V : Option Addr) (n c : Nat) (src frm : Int) (s : ByteArray) (w : World) (hs : s.size ≤ 1000) (a0 a1 a2 a3 a4 a5 a6 u : Int) (d : ByteArray) (hp : parseV s = (a0, a1, a2, a3, a4, a5, a6, d, u)) (h0 : (u == 0) = false) (h1 : (u != 0) = true) :
    Calls Try.prog 19 #[.agg #[.bool true, .int .u32 addr, .int .i64 port, .int .u32 own, .int .i64 prt, .slice V n c], .int .u32 src, .int .i64 frm, .string s] w fun e w' => e = .returned (.tuple #[.string ⟨#[]⟩, .int .i64 u]) ∧ Below w.heap.size w w' := by
  have hu47 := Try.underlying47
  have hu58 := Try.underlying58
  have P : Hid (∀ w, Calls Try.prog 38 #[.string s] w fun e w' => e = .returned (.tuple #[.agg #[.int .i64 a0, .int .i64 a1, .int .i64 a2, .int .i64 a3, .int .i64 a4, .int .u32 a5, .int .u32 a6, .string d], .int .i64 u]) ∧ Below w.heap.size w w') := fun w => by have := parse38_calls s w; rw [hp] at this; exact this
  have d0 : decide (1000 < (s.size : Int)) = false := decide_eq_false (by omega)
  have d1 : decide (1000 < s.size) = false := decide_eq_false (by omega)
  clear hs
  clear hp
  go_enter Try.func19, Try.ntmps19
  go_wp2_with (first | (go_at_call 38; (with_reducible refine (P.out _).mono ?_); rintro e w1 ⟨rfl, hb⟩; have A1 := blk_below (blk_new w (.cells #[.bool true, .int .u32 addr, .int .i64 port, .int .u32 own, .int .i64 prt, .slice V n c] 47)) hb; have k3 : w1.cell? ⟨w.heap.size, 3, none⟩ = some (.int .u32 own) := (blk_cell A1 3).trans rfl; have kz : w.heap.size < w1.heap.size := blk_lt A1; have Z : Hid (Below w.heap.size w w1) := ((Below.refl _ w).alloc (Nat.le_refl _) _).trans (hb.mono (by rw [World.size_alloc]; omega)); clear hb A1) | (refine wpList_store_row rfl 58 _ _ rfl _ _ rfl rfl 58 _ (blk_new _ _) (by kernel_rfl) rfl (by simp [Value.oneCell']) ?_; rw [World.setRow_alloc_new]))
  go_ret2
  exact ⟨rfl, Z.out.alloc Z.out.size _⟩
set_option maxRecDepth 100000 in
set_option maxHeartbeats 2000000 in
theorem down_foreign (addr port own prt : Int) (V : Option Addr) (n c : Nat) (src frm : Int) (s : ByteArray) (w : World) (hs : s.size ≤ 1000) (a0 a1 a2 a3 a4 a5 a6 u : Int) (d : ByteArray) (hp : parseV s = (a0, a1, a2, a3, a4, a5, a6, d, u)) (h0 : (u == 0) = true) (h1 : (u != 0) = false) (h2 : (a6 == own) = false) (h3 : (a6 != own) = true) :
    Calls Try.prog 19 #[.agg #[.bool true, .int .u32 addr, .int .i64 port, .int .u32 own, .int .i64 prt, .slice V n c], .int .u32 src, .int .i64 frm, .string s] w fun e w' => e = .returned (.tuple #[.string ⟨#[]⟩, .int .i64 15]) ∧ Below w.heap.size w w' := by
  have hu47 := Try.underlying47
  have hu58 := Try.underlying58
  have P : Hid (∀ w, Calls Try.prog 38 #[.string s] w fun e w' => e = .returned (.tuple #[.agg #[.int .i64 a0, .int .i64 a1, .int .i64 a2, .int .i64 a3, .int .i64 a4, .int .u32 a5, .int .u32 a6, .string d], .int .i64 u]) ∧ Below w.heap.size w w') := fun w => by have := parse38_calls s w; rw [hp] at this; exact this
  have d0 : decide (1000 < (s.size : Int)) = false := decide_eq_false (by omega)
  have d1 : decide (1000 < s.size) = false := decide_eq_false (by omega)
  clear hs
  clear hp
  go_enter Try.func19, Try.ntmps19
  go_wp2_with (first | (go_at_call 38; (with_reducible refine (P.out _).mono ?_); rintro e w1 ⟨rfl, hb⟩; have A1 := blk_below (blk_new w (.cells #[.bool true, .int .u32 addr, .int .i64 port, .int .u32 own, .int .i64 prt, .slice V n c] 47)) hb; have k3 : w1.cell? ⟨w.heap.size, 3, none⟩ = some (.int .u32 own) := (blk_cell A1 3).trans rfl; have kz : w.heap.size < w1.heap.size := blk_lt A1; have Z : Hid (Below w.heap.size w w1) := ((Below.refl _ w).alloc (Nat.le_refl _) _).trans (hb.mono (by rw [World.size_alloc]; omega)); clear hb A1) | (refine wpList_store_row rfl 58 _ _ rfl _ _ rfl rfl 58 _ (blk_new _ _) (by kernel_rfl) rfl (by simp [Value.oneCell']) ?_; rw [World.setRow_alloc_new]))
  go_ret2
  exact ⟨rfl, Z.out.alloc Z.out.size _⟩
set_option maxRecDepth 100000 in
set_option maxHeartbeats 2000000 in
theorem down_mine (addr port own prt : Int) (V : Option Addr) (n c : Nat) (src frm : Int) (s : ByteArray) (w : World) (hs : s.size ≤ 1000) (a0 a1 a2 a3 a4 a5 a6 u : Int) (d : ByteArray) (hp : parseV s = (a0, a1, a2, a3, a4, a5, a6, d, u)) (h0 : (u == 0) = true) (h1 : (u != 0) = false) (h2 : (a6 == own) = true) (h3 : (a6 != own) = false) :
    Calls Try.prog 19 #[.agg #[.bool true, .int .u32 addr, .int .i64 port, .int .u32 own, .int .i64 prt, .slice V n c], .int .u32 src, .int .i64 frm, .string s] w fun e w' => e = .returned (.tuple #[.string (hopV s).1, .int .i64 (hopV s).2]) ∧ Below w.heap.size w w' := by
  have hu47 := Try.underlying47
  have hu58 := Try.underlying58
  have P : Hid (∀ w, Calls Try.prog 38 #[.string s] w fun e w' => e = .returned (.tuple #[.agg #[.int .i64 a0, .int .i64 a1, .int .i64 a2, .int .i64 a3, .int .i64 a4, .int .u32 a5, .int .u32 a6, .string d], .int .i64 u]) ∧ Below w.heap.size w w') := fun w => by have := parse38_calls s w; rw [hp] at this; exact this
  have F : Hid (∀ w, _) := fun w => further_calls s w
  have d0 : decide (1000 < (s.size : Int)) = false := decide_eq_false (by omega)
  have d1 : decide (1000 < s.size) = false := decide_eq_false (by omega)
  clear hs
  clear hp
  go_enter Try.func19, Try.ntmps19
  go_wp2_with (first | (go_at_call 38; (with_reducible refine (P.out _).mono ?_); rintro e w1 ⟨rfl, hb⟩; have A1 := blk_below (blk_new w (.cells #[.bool true, .int .u32 addr, .int .i64 port, .int .u32 own, .int .i64 prt, .slice V n c] 47)) hb; have k3 : w1.cell? ⟨w.heap.size, 3, none⟩ = some (.int .u32 own) := (blk_cell A1 3).trans rfl; have kz : w.heap.size < w1.heap.size := blk_lt A1; have Z : Hid (Below w.heap.size w w1) := ((Below.refl _ w).alloc (Nat.le_refl _) _).trans (hb.mono (by rw [World.size_alloc]; omega)); clear hb A1) | (go_at_call 39; (with_reducible refine (F.out _).mono ?_); rintro e w2 ⟨rfl, hb⟩; have Y : Hid _ := hb; clear hb) | (refine wpList_store_row rfl 58 _ _ rfl _ _ rfl rfl 58 _ (blk_new _ _) (by kernel_rfl) rfl (by simp [Value.oneCell']) ?_; rw [World.setRow_alloc_new]))
  go_ret2
  exact ⟨rfl, (Z.out.alloc Z.out.size _).trans (Y.out.mono (by rw [World.size_alloc]; have := Z.out.size; omega))⟩
theorem down_calls (ip : Bool) (addr port own prt : Int) (V : Option Addr) (n c : Nat) (src frm : Int) (s : ByteArray) (w : World) :
    Calls Try.prog 19 #[.agg #[.bool ip, .int .u32 addr, .int .i64 port, .int .u32 own, .int .i64 prt, .slice V n c], .int .u32 src, .int .i64 frm, .string s] w fun e w' => e = .returned (.tuple #[.string (downV ip addr port own src frm s).1, .int .i64 (downV ip addr port own src frm s).2]) ∧ Below w.heap.size w w' := by
  unfold downV
  by_cases hs : 1000 < s.size
  · rw [if_pos hs]
    exact down_long ip addr port own prt V n c src frm s w hs
  · rw [if_neg hs]
    cases ip
    · rw [if_neg (by decide)]
      by_cases h : src = addr ∧ frm = port
      · rw [if_pos h]
        exact down_same addr port own prt V n c src frm s w (by omega) h.1 h.2
      · rw [if_neg h]
        exact down_other addr port own prt V n c src frm s w (by omega) h
    · rw [if_pos rfl]
      obtain ⟨a0, a1, a2, a3, a4, a5, a6, d, u, hp⟩ : ∃ a0 a1 a2 a3 a4 a5 a6 d u, parseV s = (a0, a1, a2, a3, a4, a5, a6, d, u) := ⟨_, _, _, _, _, _, _, _, _, rfl⟩
      rw [hp]
      simp only
      by_cases hu : u = 0
      · rw [if_pos hu]
        have h0 : (u == 0) = true := beq_iff_eq.2 hu
        have h1 : (u != 0) = false := by rw [bne, h0]; rfl
        by_cases ho : a6 = own
        · rw [if_pos ho]
          have h2 : (a6 == own) = true := beq_iff_eq.2 ho
          exact down_mine addr port own prt V n c src frm s w (by omega) _ _ _ _ _ _ _ _ _ hp h0 h1 h2 (by rw [bne, h2]; rfl)
        · rw [if_neg ho]
          have h2 : (a6 == own) = false := beq_eq_false_iff_ne.2 ho
          exact down_foreign addr port own prt V n c src frm s w (by omega) _ _ _ _ _ _ _ _ _ hp h0 h1 h2 (by rw [bne, h2]; rfl)
      · rw [if_neg hu]
        have h0 : (u == 0) = false := beq_eq_false_iff_ne.2 hu
        exact down_bad addr port own prt V n c src frm s w (by omega) _ _ _ _ _ _ _ _ _ hp h0 (by rw [bne, h0]; rfl)
end Go.Proofs.Ytcpneggifmldoaa.T
namespace Go.Proofs.Ytcpneggifmldoaa.T
open Go.RowKit Go.Proofs.YtcpneggifmldoaaW.PrintWords Go.Proofs.YtcpneggifmldoaaW.PrintLast Go.Proofs.YtcpneggifmldoaaW.PrintMore
attribute [local go_sem] max2_int min2_int max_two min_two max_three min_three max_four min_four   -- for this text's walks alone
set_option linter.unusedVariables false
set_option linter.unusedSimpArgs false
def policy_Routes.f (k : Nat) (l0 : List (S40)) : Option (List (S30)) := none
theorem policy_Routes.calls (k : Nat) (A0 : Option Addr) (c0 : Nat) (l0 : List (S40)) (r : List (S30)) (w : World) (hr0 : Kd.C k40 w A0 l0.length l0) (hc0 : l0.length ≤ c0) (h : policy_Routes.f k l0 = some r) :
    Calls Try.prog 10 #[.slice A0 l0.length c0] w fun e w' => ∃ v0_ : Value, e = .returned (v0_) ∧ Kd.R k30 30 w' w.heap.size (fun _ => True) v0_ r ∧ Below w.heap.size w w' := by cases h
end Go.Proofs.Ytcpneggifmldoaa.T

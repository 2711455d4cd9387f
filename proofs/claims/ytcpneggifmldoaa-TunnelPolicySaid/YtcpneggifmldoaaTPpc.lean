/-
  Part 3 of the texts of this claim: IpP.
-/
import Derived.Test.YtcpneggifmldoaaTPpb
import Derived.Recover
import Derived.WalkLawsBesides
import Derived.Deep.RegionHeld3
import Derived.Deep.WholeRow
import Derived.Laws.CopyOwn
set_option linter.unusedVariables false
set_option linter.unusedSimpArgs false
namespace Go.Proofs.Ytcpneggifmldoaa.T
open Go.RowKit Go.Proofs.YtcpneggifmldoaaW.PrintWords Go.Proofs.YtcpneggifmldoaaW.PrintLast Go.Proofs.YtcpneggifmldoaaW.PrintMore Go
theorem check_yes (c : Int) (w : World) : Calls Try.prog 57 #[.bool true, .int .i64 c] w fun e w' => e = .returned (.tuple #[]) ∧ w = w' := by
  go_enter Try.func57, Try.ntmps57
  go_wp2
  go_end0
  exact ⟨rfl, rfl⟩
theorem check_no (c : Int) (w : World) : Calls Try.prog 57 #[.bool false, .int .i64 c] w fun e w' => e = .panicked [{ v := .iface 35 (.int .i64 c), recovered := false }] ∧ w = w' := by
  go_enter Try.func57, Try.ntmps57
  go_wp2
  exact ⟨rfl, rfl, rfl⟩
theorem errno_is (c : Int) (w : World) : (Instr.typeAssert (.iface 35 (.int .i64 c)) 20 35 true).run Try.prog w = .ok (.tuple #[.int .i64 c, .bool true]) w := by kernel_rfl
set_option maxRecDepth 100000 in
theorem caught_panicking (p : Addr) (x c : Int) (older : List PanicEntry) (w : World) (hc : w.cell? p = some (.int .i64 x)) (hz : w.frozen? p = false) :
    CallsD Try.prog 56 #[.pointer (some p)] (.panicking ({ v := .iface 35 (.int .i64 c), recovered := false } :: older)) w fun e u' w' =>
      e = .returned (.tuple #[]) ∧ u' = .panicking ({ v := .iface 35 (.int .i64 c), recovered := true } :: older) ∧ w' = w.setCell p (.int .i64 c) := by
  have hta := errno_is
  refine callsD_of_wpS Try.func56 rfl fun c₀ cs hu => ?_
  apply wpS_seq
  apply wpS_region
  simp [wpOpsS, go_sem, recoverD, hu, Try.ntmps56, Exit.thenS]
  simp only [Array.replicate_succ, Array.replicate_zero, List.push_toArray, List.append_toArray, List.nil_append, List.cons_append, List.setIfInBounds_toArray, List.set_cons_zero, List.set_cons_succ]
  refine wpS_of_wp ?_
  go_wp2
  exact ⟨rfl, _, rfl, .tuple #[], by simp [results, Try.f56, go_sem], rfl, rfl, rfl⟩
theorem caught_idle (p : Addr) (w : World) :
    CallsD Try.prog 56 #[.pointer (some p)] .returning w fun e u' w' => e = .returned (.tuple #[]) ∧ u' = .returning ∧ w' = w := by
  refine callsD_of_wpS Try.func56 rfl fun c₀ cs hu => ?_
  apply wpS_seq
  apply wpS_region
  simp [wpOpsS, go_sem, recoverD, hu, Try.ntmps56, Exit.thenS]
  simp only [Array.replicate_succ, Array.replicate_zero, List.push_toArray, List.append_toArray, List.nil_append, List.cons_append, List.setIfInBounds_toArray, List.set_cons_zero, List.set_cons_succ]
  refine wpS_of_wp ?_
  go_wp2
  exact ⟨rfl, .returning, by cases c₀; simp_all, .tuple #[], by simp [results, Try.f56, go_sem], rfl, rfl, rfl⟩
theorem results_parse (tmps : Array Value) (w : World) (g g' : Nat) (cs : Array Value) (c : Int)
    (hp : tmps.getD 2 undef = .pointer (some ⟨g, 0, none⟩)) (hg : w.heap[g]? = some (.cells cs 58 (0, 0))) (h8 : cs.size = 8)
    (hp' : tmps.getD 3 undef = .pointer (some ⟨g', 0, none⟩)) (hg' : w.heap[g']? = some (.cells #[.int .i64 c] 35 (0, 0))) :
    (results Try.f38 tmps).run Try.prog w = .ok (.tuple #[.agg cs, .int .i64 c]) w := by
  have h1 : tmps[2]?.getD undef = .pointer (some ⟨g, 0, none⟩) := by simpa using hp
  have h2 : tmps[3]?.getD undef = .pointer (some ⟨g', 0, none⟩) := by simpa using hp'
  have hc : w.cell? ⟨g', 0, none⟩ = some (.int .i64 c) := (blk_cell hg' 0).trans rfl
  have hs : (Try.prog.info? 58).map (·.size) = some cs.size := by rw [h8]; kernel_rfl
  have h35 : (loadVar 35 ⟨g', 0, none⟩).run Try.prog w = .ok (.int .i64 c) w := by simp [go_sem, hc]
  simp [results, Try.f38, h1, h2, asAddr, run_loadVar_row w g 58 58 cs (0, 0) _ hg Try.underlying58 rfl hs, h35]
theorem door_panic (n : Nat) (c x : Int) (w W : World) (tmps : Array Value) (cs : Array Value) (hp : tmps.getD 2 undef = .pointer (some ⟨n, 0, none⟩)) (hp' : tmps.getD 3 undef = .pointer (some ⟨n + 1, 0, none⟩))
    (hg : W.heap[n]? = some (.cells cs 58 (0, 0))) (h8 : cs.size = 8) (hg' : W.heap[n + 1]? = some (.cells #[.int .i64 x] 35 (0, 0))) (hb : Below n w W) {R : Ending → World → Prop}
    (hR : ∀ W', Below n w W' → R (.returned (.tuple #[.agg cs, .int .i64 c])) W') :
    bodyPostD Try.prog Try.f38 R (Exit.panic [{ v := .iface 35 (.int .i64 c), recovered := false }])
      { tmps := tmps, defers := [{ target := Target.fn (Fn.func 56) #[], args := #[.pointer (some ⟨n + 1, 0, none⟩)] }] } W := by
  refine leaves_cons (f := 56) (args := #[.pointer (some ⟨n + 1, 0, none⟩)]) (by simp) (by simp [go_sem]) ?_
  refine (caught_panicking _ x c [] _ ((blk_cell hg' 0).trans rfl) (blk_frozen hg' 0)).mono ?_
  rintro e u' w'' ⟨rfl, rfl, rfl⟩
  refine ⟨_, results_parse tmps _ n (n + 1) cs c hp ?_ h8 hp' (blk_put hg' 0 _ rfl), hR _ (hb.setCell (by simp) _)⟩
  exact (heap_setCell_other _ _ _ _ (by simp)).trans hg
theorem door_ret (n : Nat) (c : Int) (w W : World) (tmps : Array Value) (cs : Array Value) (hp : tmps.getD 2 undef = .pointer (some ⟨n, 0, none⟩)) (hp' : tmps.getD 3 undef = .pointer (some ⟨n + 1, 0, none⟩))
    (hg : W.heap[n]? = some (.cells cs 58 (0, 0))) (h8 : cs.size = 8) (hg' : W.heap[n + 1]? = some (.cells #[.int .i64 c] 35 (0, 0))) (hb : Below n w W) {R : Ending → World → Prop}
    (hR : ∀ W', Below n w W' → R (.returned (.tuple #[.agg cs, .int .i64 c])) W') :
    bodyPostD Try.prog Try.f38 R Exit.ret
      { tmps := tmps, defers := [{ target := Target.fn (Fn.func 56) #[], args := #[.pointer (some ⟨n + 1, 0, none⟩)] }] } W := by
  refine leaves_cons (f := 56) (args := #[.pointer (some ⟨n + 1, 0, none⟩)]) (by simp) (by simp [go_sem]) ?_
  refine (caught_idle _ _).mono ?_
  rintro e u' w'' ⟨rfl, rfl, rfl⟩
  exact ⟨_, results_parse tmps _ n (n + 1) cs c hp hg h8 hp' hg', hR _ hb⟩
theorem start_blocks (w : World) (a b : Array Value) : ((w.alloc (.cells a 58)).alloc (.cells b 35)).heap[w.heap.size]? = some (.cells a 58 (0, 0)) ∧ ((w.alloc (.cells a 58)).alloc (.cells b 35)).heap[w.heap.size + 1]? = some (.cells b 35 (0, 0)) ∧ Below w.heap.size w ((w.alloc (.cells a 58)).alloc (.cells b 35)) := by
  refine ⟨(Below.heap_alloc _ _ _ (by simp)).trans (blk_new w _), ?_, ((Below.refl _ w).alloc (Nat.le_refl _) _).alloc (by simp) _⟩
  have := blk_new (w.alloc (.cells a 58)) (.cells b 35)
  rw [World.size_alloc] at this
  exact this
set_option maxRecDepth 100000 in
set_option maxHeartbeats 1000000 in
theorem parse_short (s : ByteArray) (w : World) (h : decide (20 ≤ (s.size : Int)) = false) :
    Calls Try.prog 38 #[.string s] w fun e w' => e = .returned (hdV (badH 1)) ∧ Below w.heap.size w w' := by
  have hu58 := Try.underlying58
  go_enter_defers Try.func38, Try.ntmps38
  go_wp2_with (go_at_call 57; refine (check_no 1 _).mono ?_; rintro e w' ⟨rfl, rfl⟩)
  obtain ⟨b1, b2, b3⟩ := start_blocks w _ _
  exact door_panic w.heap.size 1 0 w _ _ _ rfl rfl b1 rfl b2 b3 fun W' hb => ⟨rfl, hb⟩
set_option maxRecDepth 100000 in
set_option maxHeartbeats 1000000 in
theorem parse_kind (s : ByteArray) (w : World) (h : 20 ≤ s.size) (h0 : (bt s 0 == 69) = false) :
    Calls Try.prog 38 #[.string s] w fun e w' => e = .returned (hdV (badH 3)) ∧ Below w.heap.size w w' := by
  have hu58 := Try.underlying58
  have c1 : decide (20 ≤ (s.size : Int)) = true := decide_eq_true (by omega)
  have q0 : (0 < s.size) = True := eq_true (by omega)
  have x0 : ∀ h : 0 < s.size, ((s[0]'h).toNat : Int) = bt s 0 := bt_at s 0
  have i0 : (0 < (s.size : Int)) = True := eq_true (by omega)
  clear h
  go_enter_defers Try.func38, Try.ntmps38
  go_wp2_with (first | (go_at_call 57; (with_reducible refine (check_yes _ _).mono ?_); rintro e w' ⟨rfl, rfl⟩) | (go_at_call 57; (with_reducible refine (check_no _ _).mono ?_); rintro e w' ⟨rfl, rfl⟩))
  obtain ⟨b1, b2, b3⟩ := start_blocks w _ _
  exact door_panic w.heap.size 3 0 w _ _ _ rfl rfl b1 rfl b2 b3 fun W' hb => ⟨rfl, hb⟩
set_option maxRecDepth 100000 in
set_option maxHeartbeats 1000000 in
theorem parse_less (s : ByteArray) (w : World) (h : 20 ≤ s.size) (h0 : (bt s 0 == 69) = true) (n : Int) (hn : numV (s.extract 2 4) = n) (hn0 : 0 ≤ n) (hn1 : n ≤ 65535) (hl : decide (20 ≤ n) = false) :
    Calls Try.prog 38 #[.string s] w fun e w' => e = .returned (hdV (badH 1)) ∧ Below w.heap.size w w' := by
  have hu58 := Try.underlying58
  have c1 : decide (20 ≤ (s.size : Int)) = true := decide_eq_true (by omega)
  have q0 : (0 < s.size) = True := eq_true (by omega)
  have x0 : ∀ h : 0 < s.size, ((s[0]'h).toNat : Int) = bt s 0 := bt_at s 0
  have i0 : (0 < (s.size : Int)) = True := eq_true (by omega)
  have i4 : (4 ≤ (s.size : Int)) = True := eq_true (by omega)
  have hz : (s.extract 2 4).size ≤ 4 := by rw [size_extract' s 2 4 (by omega)]; omega
  have hg := get_calls (s.extract 2 4) hz
  rw [hn] at hg
  have G : Hid _ := hg
  have hw := wrap_n hn0 (by omega)
  clear h hg hn hz hn0 hn1
  go_enter_defers Try.func38, Try.ntmps38
  go_wp2_with (first | (go_at_call 57; (with_reducible refine (check_yes _ _).mono ?_); rintro e w' ⟨rfl, rfl⟩) | (go_at_call 57; (with_reducible refine (check_no _ _).mono ?_); rintro e w' ⟨rfl, rfl⟩) | (go_at_call 58; (with_reducible refine (G.out _).mono ?_); rintro e w' ⟨rfl, rfl⟩))
  obtain ⟨b1, b2, b3⟩ := start_blocks w _ _
  exact door_panic w.heap.size 1 0 w _ _ _ rfl rfl b1 rfl b2 b3 fun W' hb => ⟨rfl, hb⟩
set_option maxRecDepth 100000 in
set_option maxHeartbeats 1000000 in
theorem parse_cut (s : ByteArray) (w : World) (h : 20 ≤ s.size) (h0 : (bt s 0 == 69) = true) (n : Int) (hn : numV (s.extract 2 4) = n) (hn0 : 0 ≤ n) (hn1 : n ≤ 65535) (hl : decide (20 ≤ n) = true) (hs : decide (n ≤ (s.size : Int)) = false) :
    Calls Try.prog 38 #[.string s] w fun e w' => e = .returned (hdV (badH 1)) ∧ Below w.heap.size w w' := by
  have hu58 := Try.underlying58
  have c1 : decide (20 ≤ (s.size : Int)) = true := decide_eq_true (by omega)
  have q0 : (0 < s.size) = True := eq_true (by omega)
  have x0 : ∀ h : 0 < s.size, ((s[0]'h).toNat : Int) = bt s 0 := bt_at s 0
  have i0 : (0 < (s.size : Int)) = True := eq_true (by omega)
  have i4 : (4 ≤ (s.size : Int)) = True := eq_true (by omega)
  have hz : (s.extract 2 4).size ≤ 4 := by rw [size_extract' s 2 4 (by omega)]; omega
  have hg := get_calls (s.extract 2 4) hz
  rw [hn] at hg
  have G : Hid _ := hg
  have hw := wrap_n hn0 (by omega)
  clear h hg hn hz hn0 hn1
  go_enter_defers Try.func38, Try.ntmps38
  go_wp2_with (first | (go_at_call 57; (with_reducible refine (check_yes _ _).mono ?_); rintro e w' ⟨rfl, rfl⟩) | (go_at_call 57; (with_reducible refine (check_no _ _).mono ?_); rintro e w' ⟨rfl, rfl⟩) | (go_at_call 58; (with_reducible refine (G.out _).mono ?_); rintro e w' ⟨rfl, rfl⟩))
  obtain ⟨b1, b2, b3⟩ := start_blocks w _ _
  exact door_panic w.heap.size 1 0 w _ _ _ rfl rfl b1 rfl b2 b3 fun W' hb => ⟨rfl, hb⟩
set_option maxRecDepth 100000 in
set_option maxHeartbeats 1000000 in
theorem parse_more (s : ByteArray) (w : World) (h : 20 ≤ s.size) (h0 : (bt s 0 == 69) = true) (n : Int) (hn : numV (s.extract 2 4) = n) (hn0 : 0 ≤ n) (hn1 : n ≤ 65535) (hl : decide (20 ≤ n) = true) (hs : decide (n ≤ (s.size : Int)) = true) (he : ((s.size : Int) == n) = false) :
    Calls Try.prog 38 #[.string s] w fun e w' => e = .returned (hdV (badH 6)) ∧ Below w.heap.size w w' := by
  have hu58 := Try.underlying58
  have c1 : decide (20 ≤ (s.size : Int)) = true := decide_eq_true (by omega)
  have q0 : (0 < s.size) = True := eq_true (by omega)
  have x0 : ∀ h : 0 < s.size, ((s[0]'h).toNat : Int) = bt s 0 := bt_at s 0
  have i0 : (0 < (s.size : Int)) = True := eq_true (by omega)
  have i4 : (4 ≤ (s.size : Int)) = True := eq_true (by omega)
  have hz : (s.extract 2 4).size ≤ 4 := by rw [size_extract' s 2 4 (by omega)]; omega
  have hg := get_calls (s.extract 2 4) hz
  rw [hn] at hg
  have G : Hid _ := hg
  have hw := wrap_n hn0 (by omega)
  clear h hg hn hz hn0 hn1
  go_enter_defers Try.func38, Try.ntmps38
  go_wp2_with (first | (go_at_call 57; (with_reducible refine (check_yes _ _).mono ?_); rintro e w' ⟨rfl, rfl⟩) | (go_at_call 57; (with_reducible refine (check_no _ _).mono ?_); rintro e w' ⟨rfl, rfl⟩) | (go_at_call 58; (with_reducible refine (G.out _).mono ?_); rintro e w' ⟨rfl, rfl⟩))
  obtain ⟨b1, b2, b3⟩ := start_blocks w _ _
  exact door_panic w.heap.size 6 0 w _ _ _ rfl rfl b1 rfl b2 b3 fun W' hb => ⟨rfl, hb⟩
theorem panics_ {P : Program} {ops : Array Oper} {Q : Exit → Act → World → Prop} {oi : Oper} {N : Option Tmp} {a : Act} {w : World} {K : Act → World → Prop} {f : FuncId} {fn : Func} {asr : Array Operand} {ts : Array TypeId} (hf : P.funcs[f]? = some fn) (hname : (fn.name == "runtime.NumGoroutine") = false) (hb : fn.body.isSome = true) (args : Array Value)
    (hw : Region.wanted oi (yielded ops a.tmps) = true) (hop : oi.op = .call { callee := .value (.func f), args := asr, argTypes := ts }) (hargs : asr.map a.eval = args)
    (h : Calls P f args w fun e w' => ∃ c, e = .panicked c ∧ Q (.panic c) a w') : if Region.wanted oi (yielded ops a.tmps) = true then Oper.wp P oi a w K Q else K (a.put N undef) w := by
  rw [if_pos hw]
  have he := enters_ hf hname hb args w
  have hrun : (execOp a.eval oi).run P w = .ok (.enter f args) w := by
    unfold execOp
    simp [hop, resolve, Deferred.ofValue, invoke, Act.eval, hargs, he]
  unfold Oper.wp
  rw [hrun, Oper.upon_enter]
  refine h.mono fun e w'' hh => ?_
  obtain ⟨c, rfl, hk⟩ := hh
  exact hk
def PanicTo (n : Nat) (w : World) (c : Int) (Q : Exit → Act → World → Prop) : Exit → Act → World → Prop
  | .panic ch, a, W => ch = [{ v := .iface 35 (.int .i64 c), recovered := false }] ∧ a.tmps.getD 2 undef = .pointer (some ⟨n, 0, none⟩) ∧ a.tmps.getD 3 undef = .pointer (some ⟨n + 1, 0, none⟩) ∧
      a.defers = [{ target := Target.fn (Fn.func 56) #[], args := #[.pointer (some ⟨n + 1, 0, none⟩)] }] ∧ W.heap[n]? = some (.cells #[.int .i64 0, .int .i64 0, .int .i64 0, .int .i64 0, .int .i64 0, .int .u32 0, .int .u32 0, .string ⟨#[]⟩] 58 (0, 0)) ∧ W.heap[n + 1]? = some (.cells #[.int .i64 0] 35 (0, 0)) ∧ Below n w W
  | e, a, W => Q e a W
theorem PanicTo.put {n : Nat} {w : World} {c : Int} {Q : Exit → Act → World → Prop} {ch : List PanicEntry} {a : Act} {W : World} {t : Option Tmp} {v : Value} (h2 : t ≠ some 2) (h3 : t ≠ some 3) (h : PanicTo n w c Q (.panic ch) (a.put t v) W) : PanicTo n w c Q (.panic ch) a W := by
  obtain ⟨p1, p2, p3, p4, p5, p6, p7⟩ := h
  cases t with
  | none => exact ⟨p1, p2, p3, p4, p5, p6, p7⟩
  | some t =>
    have n2 : t ≠ 2 := fun e => h2 (by rw [e])
    have n3 : t ≠ 3 := fun e => h3 (by rw [e])
    refine ⟨p1, ?_, ?_, p4, p5, p6, p7⟩
    · simpa [Act.put, Array.getD_eq_getD_getElem?, Array.getElem?_setIfInBounds, n2] using p2
    · simpa [Act.put, Array.getD_eq_getD_getElem?, Array.getElem?_setIfInBounds, n3] using p3
theorem PanicTo.imp {n : Nat} {w : World} {c : Int} {Q : Exit → Act → World → Prop} {R : Ending → World → Prop} (hQ : ∀ ch a W, bodyPostD Try.prog Try.f38 R (.panic ch) a W → Q (.panic ch) a W) (hR : ∀ W', Below n w W' → R (.returned (hdV (badH c))) W') (e : Exit) (a : Act) (W : World) (h : PanicTo n w c Q e a W) : Q e a W := by
  cases e with
  | panic ch =>
    obtain ⟨rfl, p2, p3, p4, p5, p6, p7⟩ := h
    obtain ⟨tmps, defers⟩ := a
    obtain rfl : defers = _ := p4
    exact hQ _ _ _ (door_panic n c 0 w W tmps _ p2 p3 p5 rfl p6 p7 hR)
  | _ => exact h
set_option maxRecDepth 100000 in
set_option maxHeartbeats 4000000 in
theorem parse_right (s : ByteArray) (w : World) (h : 20 ≤ s.size) (h0 : (bt s 0 == 69) = true) (n : Int) (hn : numV (s.extract 2 4) = n) (hn0 : 0 ≤ n) (hn1 : n ≤ 65535) (hl : decide (20 ≤ n) = true) (hs : decide (n ≤ (s.size : Int)) = true) (he : ((s.size : Int) == n) = true) (b : Bool) (hb : (sumV (zeroed s) == n2 s 10) = b) :
    Calls Try.prog 38 #[.string s] w fun e w' => e = .returned (hdV (if b then hdO s else badH 9)) ∧ Below w.heap.size w w' := by
  have hu58 := Try.underlying58
  have c1 : decide (20 ≤ (s.size : Int)) = true := decide_eq_true (by omega)
  have q0 : (0 < s.size) = True := eq_true (by omega)
  have x0 : ∀ h : 0 < s.size, ((s[0]'h).toNat : Int) = bt s 0 := bt_at s 0
  have i0 : (0 < (s.size : Int)) = True := eq_true (by omega)
  have i4 : (4 ≤ (s.size : Int)) = True := eq_true (by omega)
  have q1 : (1 < s.size) = True := eq_true (by omega)
  have x1 : ∀ h : 1 < s.size, ((s[1]'h).toNat : Int) = bt s 1 := bt_at s 1
  have j1 : (1 < (s.size : Int)) = True := eq_true (by omega)
  have q8 : (8 < s.size) = True := eq_true (by omega)
  have x8 : ∀ h : 8 < s.size, ((s[8]'h).toNat : Int) = bt s 8 := bt_at s 8
  have j8 : (8 < (s.size : Int)) = True := eq_true (by omega)
  have q9 : (9 < s.size) = True := eq_true (by omega)
  have x9 : ∀ h : 9 < s.size, ((s[9]'h).toNat : Int) = bt s 9 := bt_at s 9
  have j9 : (9 < (s.size : Int)) = True := eq_true (by omega)
  have i6 : (6 ≤ (s.size : Int)) = True := eq_true (by omega)
  have i8 : (8 ≤ (s.size : Int)) = True := eq_true (by omega)
  have i16 : (16 ≤ (s.size : Int)) = True := eq_true (by omega)
  have i20 : (20 ≤ (s.size : Int)) = True := eq_true (by omega)
  have i12 : (12 ≤ (s.size : Int)) = True := eq_true (by omega)
  have i10 : (10 ≤ (s.size : Int)) = True := eq_true (by omega)
  have w1 : wrap64 (bt s 1) = bt s 1 := wrap_n (bt_range s 1).1 (by have := (bt_range s 1).2; omega)
  have w8 : wrap64 (bt s 8) = bt s 8 := wrap_n (bt_range s 8).1 (by have := (bt_range s 8).2; omega)
  have w9 : wrap64 (bt s 9) = bt s 9 := wrap_n (bt_range s 9).1 (by have := (bt_range s 9).2; omega)
  have wa : wrap64 (n2 s 4) = n2 s 4 := wrap_n (n2_range s 4).1 (by have := (n2_range s 4).2; omega)
  have wb : wrap64 (n2 s 6) = n2 s 6 := wrap_n (n2_range s 6).1 (by have := (n2_range s 6).2; omega)
  have wc : wrap64 (n2 s 10) = n2 s 10 := wrap_n (n2_range s 10).1 (by have := (n2_range s 10).2; omega)
  have G : Hid (∀ w, _) := fun w => get_at s 2 4 (by omega) (by omega) w hn
  have G4 : Hid (∀ w, _) := fun w => get_at s 4 6 (by omega) (by omega) w (numV2 s 4 (by omega))
  have G6 : Hid (∀ w, _) := fun w => get_at s 6 8 (by omega) (by omega) w (numV2 s 6 (by omega))
  have G10 : Hid (∀ w, _) := fun w => get_at s 10 12 (by omega) (by omega) w (numV2 s 10 (by omega))
  have G12 : Hid (∀ w, _) := fun w => get_at s 12 16 (by omega) (by omega) w (numV4 s 12 (by omega))
  have G16 : Hid (∀ w, _) := fun w => get_at s 16 20 (by omega) (by omega) w (numV4 s 16 (by omega))
  have z10 : (s.extract 0 10).size = 10 := size_extract' s 0 10 (by omega)
  have z20 : (s.extract 12 20).size = 8 := size_extract' s 12 20 (by omega)
  have GS : Hid (∀ w, Calls Try.prog 59 #[.string (s.extract 0 10 ++ ⟨#[0, 0]⟩ ++ s.extract 12 20)] w fun e w' => e = .returned (.int .i64 (sumV (zeroed s))) ∧ w = w') := fun w => sum_calls (zeroed s) (by unfold zeroed; rw [ByteArray.size_append, ByteArray.size_append, z10, z20]; rfl) w
  have CY : Hid (∀ w, _) := fun w => check_yes 9 w
  have CN : Hid (∀ w, _) := fun w => check_no 9 w
  have hw := wrap_n hn0 (by omega)
  clear h hn hn0 hn1
  go_enter_defers Try.func38, Try.ntmps38
  go_wp2_with (first | (go_at_call 57; (with_reducible refine (check_yes _ _).mono ?_); rintro e w' ⟨rfl, rfl⟩) | (go_at_call 58; (with_reducible refine (G.out _).mono ?_); rintro e w' ⟨rfl, rfl⟩))
  obtain ⟨b1, b2, b3⟩ := start_blocks w #[.int .i64 0, .int .i64 0, .int .i64 0, .int .i64 0, .int .i64 0, .int .u32 0, .int .u32 0, .string ⟨#[]⟩] #[.int .i64 0]
  replace b1 := blk_drew b1
  replace b2 := blk_drew b2
  replace b3 := below_drew1 b3
  refine wp_region_noPanic ?_
  try clear hHeld
  refine start_ (n := 28) (S := fun w' => True) (ds := []) #[false, false, false, false, false, false, false, false, false, false, false, false, false, false, false, false, false, false, false, false, false, false, false, false, false, false, false, false] (by kernel_rfl) rfl rfl trivial (fun hHeld => ?_)
  generalize ((w.alloc (.cells #[.int .i64 0, .int .i64 0, .int .i64 0, .int .i64 0, .int .i64 0, .int .u32 0, .int .u32 0, .string ⟨#[]⟩] 58)).alloc (.cells #[.int .i64 0] 35)).drew = W at b1 b2 b3 ⊢
  refine pure_ (i := 0) (N := some 32) (v := ?_) (a' := ?_) #[true, false, false, false, false, false, false, false, false, false, false, false, false, false, false, false, false, false, false, false, false, false, false, false, false, false, false, false] rfl rfl (by kernel_rfl) (fun _ _ _ h => h) (Or.inl ⟨by rfl, ?_⟩) ?_ ?_
  rotate_left
  · intro w'; go_simp; try with_reducible rfl
  rotate_left
  · simp only [Act.put, List.setIfInBounds_toArray, List.set_cons_zero, List.set_cons_succ, i64_w, i32_w]; rfl
  refine pure_ (i := 1) (N := some 33) (v := ?_) (a' := ?_) #[true, true, false, false, false, false, false, false, false, false, false, false, false, false, false, false, false, false, false, false, false, false, false, false, false, false, false, false] rfl rfl (by kernel_rfl) (fun _ _ _ h => h) (Or.inl ⟨by rfl, ?_⟩) ?_ ?_
  rotate_left
  · intro w'; go_simp; try with_reducible rfl
  rotate_left
  · simp only [Act.put, List.setIfInBounds_toArray, List.set_cons_zero, List.set_cons_succ, i64_w, i32_w]; rfl
  refine pure_ (i := 2) (N := some 34) (v := ?_) (a' := ?_) #[true, true, true, false, false, false, false, false, false, false, false, false, false, false, false, false, false, false, false, false, false, false, false, false, false, false, false, false] rfl rfl (by kernel_rfl) (fun _ _ _ h => h) (Or.inl ⟨by rfl, ?_⟩) ?_ ?_
  rotate_left
  · intro w'; go_simp; try with_reducible rfl
  rotate_left
  · simp only [Act.put, List.setIfInBounds_toArray, List.set_cons_zero, List.set_cons_succ, i64_w, i32_w]; rfl
  refine pure_ (i := 3) (N := some 35) (v := ?_) (a' := ?_) #[true, true, true, true, false, false, false, false, false, false, false, false, false, false, false, false, false, false, false, false, false, false, false, false, false, false, false, false] rfl rfl (by kernel_rfl) (fun _ _ _ h => h) (Or.inl ⟨by rfl, ?_⟩) ?_ ?_
  rotate_left
  · intro w'; go_simp; try with_reducible rfl
  rotate_left
  · simp only [Act.put, List.setIfInBounds_toArray, List.set_cons_zero, List.set_cons_succ, i64_w, i32_w]; rfl
  refine pure_ (i := 4) (N := some 36) (v := ?_) (a' := ?_) #[true, true, true, true, true, false, false, false, false, false, false, false, false, false, false, false, false, false, false, false, false, false, false, false, false, false, false, false] rfl rfl (by kernel_rfl) (fun _ _ _ h => h) (Or.inl ⟨by rfl, ?_⟩) ?_ ?_
  rotate_left
  · intro w'; go_simp; try with_reducible rfl
  rotate_left
  · simp only [Act.put, List.setIfInBounds_toArray, List.set_cons_zero, List.set_cons_succ, i64_w, i32_w]; rfl
  refine pure_ (i := 7) (N := some 39) (v := ?_) (a' := ?_) #[true, true, true, true, true, false, false, true, false, false, false, false, false, false, false, false, false, false, false, false, false, false, false, false, false, false, false, false] rfl rfl (by kernel_rfl) (fun _ _ _ h => h) (Or.inl ⟨by rfl, ?_⟩) ?_ ?_
  rotate_left
  · intro w'; go_simp; try with_reducible rfl
  rotate_left
  · simp only [Act.put, List.setIfInBounds_toArray, List.set_cons_zero, List.set_cons_succ, i64_w, i32_w]; rfl
  refine pure_ (i := 8) (N := some 40) (v := ?_) (a' := ?_) #[true, true, true, true, true, false, false, true, true, false, false, false, false, false, false, false, false, false, false, false, false, false, false, false, false, false, false, false] rfl rfl (by kernel_rfl) (fun _ _ _ h => h) (Or.inl ⟨by rfl, ?_⟩) ?_ ?_
  rotate_left
  · intro w'; go_simp; try with_reducible rfl
  rotate_left
  · simp only [Act.put, List.setIfInBounds_toArray, List.set_cons_zero, List.set_cons_succ, i64_w, i32_w]; rfl
  refine pure_ (i := 11) (N := some 43) (v := ?_) (a' := ?_) #[true, true, true, true, true, false, false, true, true, false, false, true, false, false, false, false, false, false, false, false, false, false, false, false, false, false, false, false] rfl rfl (by kernel_rfl) (fun _ _ _ h => h) (Or.inl ⟨by rfl, ?_⟩) ?_ ?_
  rotate_left
  · intro w'; go_simp; try with_reducible rfl
  rotate_left
  · simp only [Act.put, List.setIfInBounds_toArray, List.set_cons_zero, List.set_cons_succ, i64_w, i32_w]; rfl
  refine pure_ (i := 12) (N := some 44) (v := ?_) (a' := ?_) #[true, true, true, true, true, false, false, true, true, false, false, true, true, false, false, false, false, false, false, false, false, false, false, false, false, false, false, false] rfl rfl (by kernel_rfl) (fun _ _ _ h => h) (Or.inl ⟨by rfl, ?_⟩) ?_ ?_
  rotate_left
  · intro w'; go_simp; try with_reducible rfl
  rotate_left
  · simp only [Act.put, List.setIfInBounds_toArray, List.set_cons_zero, List.set_cons_succ, i64_w, i32_w]; rfl
  refine pure_ (i := 13) (N := some 45) (v := ?_) (a' := ?_) #[true, true, true, true, true, false, false, true, true, false, false, true, true, true, false, false, false, false, false, false, false, false, false, false, false, false, false, false] rfl rfl (by kernel_rfl) (fun _ _ _ h => h) (Or.inl ⟨by rfl, ?_⟩) ?_ ?_
  rotate_left
  · intro w'; go_simp; try with_reducible rfl
  rotate_left
  · simp only [Act.put, List.setIfInBounds_toArray, List.set_cons_zero, List.set_cons_succ, i64_w, i32_w]; rfl
  refine pure_ (i := 14) (N := some 46) (v := ?_) (a' := ?_) #[true, true, true, true, true, false, false, true, true, false, false, true, true, true, true, false, false, false, false, false, false, false, false, false, false, false, false, false] rfl rfl (by kernel_rfl) (fun _ _ _ h => h) (Or.inl ⟨by rfl, ?_⟩) ?_ ?_
  rotate_left
  · intro w'; go_simp; try with_reducible rfl
  rotate_left
  · simp only [Act.put, List.setIfInBounds_toArray, List.set_cons_zero, List.set_cons_succ, i64_w, i32_w]; rfl
  refine pure_ (i := 15) (N := some 47) (v := ?_) (a' := ?_) #[true, true, true, true, true, false, false, true, true, false, false, true, true, true, true, true, false, false, false, false, false, false, false, false, false, false, false, false] rfl rfl (by kernel_rfl) (fun _ _ _ h => h) (Or.inl ⟨by rfl, ?_⟩) ?_ ?_
  rotate_left
  · intro w'; go_simp; try with_reducible rfl
  rotate_left
  · simp only [Act.put, List.setIfInBounds_toArray, List.set_cons_zero, List.set_cons_succ, i64_w, i32_w]; rfl
  refine pure_ (i := 16) (N := some 48) (v := ?_) (a' := ?_) #[true, true, true, true, true, false, false, true, true, false, false, true, true, true, true, true, true, false, false, false, false, false, false, false, false, false, false, false] rfl rfl (by kernel_rfl) (fun _ _ _ h => h) (Or.inl ⟨by rfl, ?_⟩) ?_ ?_
  rotate_left
  · intro w'; go_simp; try with_reducible rfl
  rotate_left
  · simp only [Act.put, List.setIfInBounds_toArray, List.set_cons_zero, List.set_cons_succ, i64_w, i32_w]; rfl
  refine pure_ (i := 17) (N := some 49) (v := ?_) (a' := ?_) #[true, true, true, true, true, false, false, true, true, false, false, true, true, true, true, true, true, true, false, false, false, false, false, false, false, false, false, false] rfl rfl (by kernel_rfl) (fun _ _ _ h => h) (Or.inl ⟨by rfl, ?_⟩) ?_ ?_
  rotate_left
  · intro w'; go_simp; try with_reducible rfl
  rotate_left
  · simp only [Act.put, List.setIfInBounds_toArray, List.set_cons_zero, List.set_cons_succ, i64_w, i32_w]; rfl
  refine pure_ (i := 18) (N := some 50) (v := ?_) (a' := ?_) #[true, true, true, true, true, false, false, true, true, false, false, true, true, true, true, true, true, true, true, false, false, false, false, false, false, false, false, false] rfl rfl (by kernel_rfl) (fun _ _ _ h => h) (Or.inl ⟨by rfl, ?_⟩) ?_ ?_
  rotate_left
  · intro w'; go_simp; try with_reducible rfl
  rotate_left
  · simp only [Act.put, List.setIfInBounds_toArray, List.set_cons_zero, List.set_cons_succ, i64_w, i32_w]; rfl
  refine pure_ (i := 20) (N := some 52) (v := ?_) (a' := ?_) #[true, true, true, true, true, false, false, true, true, false, false, true, true, true, true, true, true, true, true, false, true, false, false, false, false, false, false, false] rfl rfl (by kernel_rfl) (fun _ _ _ h => h) (Or.inl ⟨by rfl, ?_⟩) ?_ ?_
  rotate_left
  · intro w'; go_simp; try with_reducible rfl
  rotate_left
  · simp only [Act.put, List.setIfInBounds_toArray, List.set_cons_zero, List.set_cons_succ, i64_w, i32_w]; rfl
  refine pure_ (i := 21) (N := some 53) (v := ?_) (a' := ?_) #[true, true, true, true, true, false, false, true, true, false, false, true, true, true, true, true, true, true, true, false, true, true, false, false, false, false, false, false] rfl rfl (by kernel_rfl) (fun _ _ _ h => h) (Or.inl ⟨by rfl, ?_⟩) ?_ ?_
  rotate_left
  · intro w'; go_simp; try with_reducible rfl
  rotate_left
  · simp only [Act.put, List.setIfInBounds_toArray, List.set_cons_zero, List.set_cons_succ, i64_w, i32_w]; rfl
  refine pure_ (i := 23) (N := some 55) (v := ?_) (a' := ?_) #[true, true, true, true, true, false, false, true, true, false, false, true, true, true, true, true, true, true, true, false, true, true, false, true, false, false, false, false] rfl rfl (by kernel_rfl) (fun _ _ _ h => h) (Or.inl ⟨by rfl, ?_⟩) ?_ ?_
  rotate_left
  · intro w'; go_simp; try with_reducible rfl
  rotate_left
  · simp only [Act.put, List.setIfInBounds_toArray, List.set_cons_zero, List.set_cons_succ, i64_w, i32_w]; rfl
  refine pure_ (i := 24) (N := some 56) (v := ?_) (a' := ?_) #[true, true, true, true, true, false, false, true, true, false, false, true, true, true, true, true, true, true, true, false, true, true, false, true, true, false, false, false] rfl rfl (by kernel_rfl) (fun _ _ _ h => h) (Or.inl ⟨by rfl, ?_⟩) ?_ ?_
  rotate_left
  · intro w'; go_simp; try with_reducible rfl
  rotate_left
  · simp only [Act.put, List.setIfInBounds_toArray, List.set_cons_zero, List.set_cons_succ, i64_w, i32_w]; rfl
  refine two_ (i := 5) (j := 26) (Ni := some 37) (Nj := some 5) #[true, true, true, true, true, true, false, true, true, false, false, true, true, true, true, true, true, true, true, false, true, true, false, true, true, false, false, false] #[true, true, true, true, true, false, false, true, true, false, false, true, true, true, true, true, true, true, true, false, true, true, false, true, true, false, true, false] rfl rfl rfl rfl (by kernel_rfl) (by decide) (by decide) (fun K hK => ?_) (fun K hK => ?_)
  refine goes_ Try.func58 (by kernel_rfl) rfl #[.string (s.extract 4 6)] (by rfl) rfl rfl (by (try simp only [List.map_toArray, List.map_cons, List.map_nil]); first | done | rfl) ?_
  with_reducible refine (G4.out _).mono ?_
  rintro e w' ⟨rfl, rfl⟩
  refine ⟨_, rfl, ?_⟩
  try clear hHeld
  refine hK.out _ _ (by trivial) (fun hHeld => ?_)
  clear hK K
  refine norm_ (a' := ?_) ?_ ?_
  rotate_left
  · show Act.put _ (some 37) _ = _; simp only [Act.put, List.setIfInBounds_toArray, List.set_cons_zero, List.set_cons_succ, i64_w, i32_w]; rfl
  refine pure_ (i := 6) (N := some 38) (v := ?_) (a' := ?_) #[true, true, true, true, true, true, true, true, true, false, false, true, true, true, true, true, true, true, true, false, true, true, false, true, true, false, false, false] rfl rfl (by kernel_rfl) (fun _ _ _ h => h) (Or.inl ⟨by rfl, ?_⟩) ?_ ?_
  rotate_left
  · intro w'; go_simp; try with_reducible rfl
  rotate_left
  · simp only [Act.put, List.setIfInBounds_toArray, List.set_cons_zero, List.set_cons_succ, i64_w, i32_w]; rfl
  refine two_ (i := 9) (j := 26) (Ni := some 41) (Nj := some 5) #[true, true, true, true, true, true, true, true, true, true, false, true, true, true, true, true, true, true, true, false, true, true, false, true, true, false, false, false] #[true, true, true, true, true, true, true, true, true, false, false, true, true, true, true, true, true, true, true, false, true, true, false, true, true, false, true, false] rfl rfl rfl rfl (by kernel_rfl) (by decide) (by decide) (fun K hK => ?_) (fun K hK => ?_)
  refine goes_ Try.func58 (by kernel_rfl) rfl #[.string (s.extract 6 8)] (by rfl) rfl rfl (by (try simp only [List.map_toArray, List.map_cons, List.map_nil]); first | done | rfl) ?_
  with_reducible refine (G6.out _).mono ?_
  rintro e w' ⟨rfl, rfl⟩
  refine ⟨_, rfl, ?_⟩
  try clear hHeld
  refine hK.out _ _ (by trivial) (fun hHeld => ?_)
  clear hK K
  refine norm_ (a' := ?_) ?_ ?_
  rotate_left
  · show Act.put _ (some 41) _ = _; simp only [Act.put, List.setIfInBounds_toArray, List.set_cons_zero, List.set_cons_succ, i64_w, i32_w]; rfl
  refine pure_ (i := 10) (N := some 42) (v := ?_) (a' := ?_) #[true, true, true, true, true, true, true, true, true, true, true, true, true, true, true, true, true, true, true, false, true, true, false, true, true, false, false, false] rfl rfl (by kernel_rfl) (fun _ _ _ h => h) (Or.inl ⟨by rfl, ?_⟩) ?_ ?_
  rotate_left
  · intro w'; go_simp; try with_reducible rfl
  rotate_left
  · simp only [Act.put, List.setIfInBounds_toArray, List.set_cons_zero, List.set_cons_succ, i64_w, i32_w]; rfl
  refine two_ (i := 19) (j := 26) (Ni := some 51) (Nj := some 5) #[true, true, true, true, true, true, true, true, true, true, true, true, true, true, true, true, true, true, true, true, true, true, false, true, true, false, false, false] #[true, true, true, true, true, true, true, true, true, true, true, true, true, true, true, true, true, true, true, false, true, true, false, true, true, false, true, false] rfl rfl rfl rfl (by kernel_rfl) (by decide) (by decide) (fun K hK => ?_) (fun K hK => ?_)
  refine goes_ Try.func58 (by kernel_rfl) rfl #[.string (s.extract 12 16)] (by rfl) rfl rfl (by (try simp only [List.map_toArray, List.map_cons, List.map_nil]); first | done | rfl) ?_
  with_reducible refine (G12.out _).mono ?_
  rintro e w' ⟨rfl, rfl⟩
  refine ⟨_, rfl, ?_⟩
  try clear hHeld
  refine hK.out _ _ (by trivial) (fun hHeld => ?_)
  clear hK K
  refine norm_ (a' := ?_) ?_ ?_
  rotate_left
  · show Act.put _ (some 51) _ = _; simp only [Act.put, List.setIfInBounds_toArray, List.set_cons_zero, List.set_cons_succ, i64_w, i32_w]; rfl
  refine two_ (i := 22) (j := 26) (Ni := some 54) (Nj := some 5) #[true, true, true, true, true, true, true, true, true, true, true, true, true, true, true, true, true, true, true, true, true, true, true, true, true, false, false, false] #[true, true, true, true, true, true, true, true, true, true, true, true, true, true, true, true, true, true, true, true, true, true, false, true, true, false, true, false] rfl rfl rfl rfl (by kernel_rfl) (by decide) (by decide) (fun K hK => ?_) (fun K hK => ?_)
  refine goes_ Try.func58 (by kernel_rfl) rfl #[.string (s.extract 16 20)] (by rfl) rfl rfl (by (try simp only [List.map_toArray, List.map_cons, List.map_nil]); first | done | rfl) ?_
  with_reducible refine (G16.out _).mono ?_
  rintro e w' ⟨rfl, rfl⟩
  refine ⟨_, rfl, ?_⟩
  try clear hHeld
  refine hK.out _ _ (by trivial) (fun hHeld => ?_)
  clear hK K
  refine norm_ (a' := ?_) ?_ ?_
  rotate_left
  · show Act.put _ (some 54) _ = _; simp only [Act.put, List.setIfInBounds_toArray, List.set_cons_zero, List.set_cons_succ, i64_w, i32_w]; rfl
  refine pure_ (i := 25) (N := some 57) (v := ?_) (a' := ?_) #[true, true, true, true, true, true, true, true, true, true, true, true, true, true, true, true, true, true, true, true, true, true, true, true, true, true, false, false] rfl rfl (by kernel_rfl) (fun _ _ _ h => h) (Or.inl ⟨by rfl, ?_⟩) ?_ ?_
  rotate_left
  · intro w'; go_simp; try with_reducible rfl
  rotate_left
  · simp only [Act.put, List.setIfInBounds_toArray, List.set_cons_zero, List.set_cons_succ, i64_w, i32_w]; rfl
  refine one_ (i := 26) (N := some 5) #[true, true, true, true, true, true, true, true, true, true, true, true, true, true, true, true, true, true, true, true, true, true, true, true, true, true, true, false] rfl rfl (by kernel_rfl) (by decide) (fun K hK => ?_)
  refine event_step (by rfl) (v := .pointer (some ⟨W.heap.size, 0, none⟩)) (w1 := W.alloc (.cells #[.int .i64 0, .int .i64 0, .int .i64 0, .int .i64 0, .int .i64 0, .int .u32 0, .int .u32 0, .string ⟨#[]⟩] 58 (0, 0))) (by go_simp) ?_
  try clear hHeld
  refine hK.out _ _ (by trivial) (fun hHeld => ?_)
  clear hK K
  refine norm_ (a' := ?_) ?_ ?_
  rotate_left
  · show Act.put _ (some 5) _ = _; simp only [Act.put, List.setIfInBounds_toArray, List.set_cons_zero, List.set_cons_succ, i64_w, i32_w]; rfl
  refine one_ (i := 27) (N := none) #[true, true, true, true, true, true, true, true, true, true, true, true, true, true, true, true, true, true, true, true, true, true, true, true, true, true, true, true] rfl rfl (by kernel_rfl) (by decide) (fun K hK => ?_)
  rw [if_pos (by rfl)]
  refine wp_store_row 58 _ _ rfl W.heap.size _ rfl rfl 58 #[.int .i64 0, .int .i64 0, .int .i64 0, .int .i64 0, .int .i64 0, .int .u32 0, .int .u32 0, .string ⟨#[]⟩] (blk_new W _) (by kernel_rfl) rfl (by simp [Value.oneCell']) ?_
  rw [World.setRow_alloc_new]
  try clear hHeld
  refine hK.out _ _ (by trivial) (fun hHeld => ?_)
  clear hK K
  refine norm_ (a' := ?_) ?_ ?_
  rotate_left
  · show Act.put _ none _ = _; simp only [Act.put]; rfl
  refine done_ (by kernel_rfl) ?_
  rotate_left
  refine event_step (by rfl) (v := .pointer (some ⟨W.heap.size, 0, none⟩)) (w1 := W.alloc (.cells #[.int .i64 0, .int .i64 0, .int .i64 0, .int .i64 0, .int .i64 0, .int .u32 0, .int .u32 0, .string ⟨#[]⟩] 58 (0, 0))) (by go_simp) ?_
  try clear hHeld
  refine hK.out _ _ (by trivial) (fun hHeld => ?_)
  clear hK K
  refine norm_ (a' := ?_) ?_ ?_
  rotate_left
  · show Act.put _ (some 5) _ = _; simp only [Act.put, List.setIfInBounds_toArray, List.set_cons_zero, List.set_cons_succ, i64_w, i32_w]; rfl
  refine one_ (i := 22) (N := some 54) #[true, true, true, true, true, true, true, true, true, true, true, true, true, true, true, true, true, true, true, true, true, true, true, true, true, false, true, false] rfl rfl (by kernel_rfl) (by decide) (fun K hK => ?_)
  refine goes_ Try.func58 (by kernel_rfl) rfl #[.string (s.extract 16 20)] (by rfl) rfl rfl (by (try simp only [List.map_toArray, List.map_cons, List.map_nil]); first | done | rfl) ?_
  with_reducible refine (G16.out _).mono ?_
  rintro e w' ⟨rfl, rfl⟩
  refine ⟨_, rfl, ?_⟩
  try clear hHeld
  refine hK.out _ _ (by trivial) (fun hHeld => ?_)
  clear hK K
  refine norm_ (a' := ?_) ?_ ?_
  rotate_left
  · show Act.put _ (some 54) _ = _; simp only [Act.put, List.setIfInBounds_toArray, List.set_cons_zero, List.set_cons_succ, i64_w, i32_w]; rfl
  refine pure_ (i := 25) (N := some 57) (v := ?_) (a' := ?_) #[true, true, true, true, true, true, true, true, true, true, true, true, true, true, true, true, true, true, true, true, true, true, true, true, true, true, true, false] rfl rfl (by kernel_rfl) (fun _ _ _ h => h) (Or.inl ⟨by rfl, ?_⟩) ?_ ?_
  rotate_left
  · intro w'; go_simp; try with_reducible rfl
  rotate_left
  · simp only [Act.put, List.setIfInBounds_toArray, List.set_cons_zero, List.set_cons_succ, i64_w, i32_w]; rfl
  refine one_ (i := 27) (N := none) #[true, true, true, true, true, true, true, true, true, true, true, true, true, true, true, true, true, true, true, true, true, true, true, true, true, true, true, true] rfl rfl (by kernel_rfl) (by decide) (fun K hK => ?_)
  rw [if_pos (by rfl)]
  refine wp_store_row 58 _ _ rfl W.heap.size _ rfl rfl 58 #[.int .i64 0, .int .i64 0, .int .i64 0, .int .i64 0, .int .i64 0, .int .u32 0, .int .u32 0, .string ⟨#[]⟩] (blk_new W _) (by kernel_rfl) rfl (by simp [Value.oneCell']) ?_
  rw [World.setRow_alloc_new]
  try clear hHeld
  refine hK.out _ _ (by trivial) (fun hHeld => ?_)
  clear hK K
  refine norm_ (a' := ?_) ?_ ?_
  rotate_left
  · show Act.put _ none _ = _; simp only [Act.put]; rfl
  refine done_ (by kernel_rfl) ?_
  rotate_left
  refine event_step (by rfl) (v := .pointer (some ⟨W.heap.size, 0, none⟩)) (w1 := W.alloc (.cells #[.int .i64 0, .int .i64 0, .int .i64 0, .int .i64 0, .int .i64 0, .int .u32 0, .int .u32 0, .string ⟨#[]⟩] 58 (0, 0))) (by go_simp) ?_
  try clear hHeld
  refine hK.out _ _ (by trivial) (fun hHeld => ?_)
  clear hK K
  refine norm_ (a' := ?_) ?_ ?_
  rotate_left
  · show Act.put _ (some 5) _ = _; simp only [Act.put, List.setIfInBounds_toArray, List.set_cons_zero, List.set_cons_succ, i64_w, i32_w]; rfl
  refine one_ (i := 19) (N := some 51) #[true, true, true, true, true, true, true, true, true, true, true, true, true, true, true, true, true, true, true, true, true, true, false, true, true, false, true, false] rfl rfl (by kernel_rfl) (by decide) (fun K hK => ?_)
  refine goes_ Try.func58 (by kernel_rfl) rfl #[.string (s.extract 12 16)] (by rfl) rfl rfl (by (try simp only [List.map_toArray, List.map_cons, List.map_nil]); first | done | rfl) ?_
  with_reducible refine (G12.out _).mono ?_
  rintro e w' ⟨rfl, rfl⟩
  refine ⟨_, rfl, ?_⟩
  try clear hHeld
  refine hK.out _ _ (by trivial) (fun hHeld => ?_)
  clear hK K
  refine norm_ (a' := ?_) ?_ ?_
  rotate_left
  · show Act.put _ (some 51) _ = _; simp only [Act.put, List.setIfInBounds_toArray, List.set_cons_zero, List.set_cons_succ, i64_w, i32_w]; rfl
  refine one_ (i := 22) (N := some 54) #[true, true, true, true, true, true, true, true, true, true, true, true, true, true, true, true, true, true, true, true, true, true, true, true, true, false, true, false] rfl rfl (by kernel_rfl) (by decide) (fun K hK => ?_)
  refine goes_ Try.func58 (by kernel_rfl) rfl #[.string (s.extract 16 20)] (by rfl) rfl rfl (by (try simp only [List.map_toArray, List.map_cons, List.map_nil]); first | done | rfl) ?_
  with_reducible refine (G16.out _).mono ?_
  rintro e w' ⟨rfl, rfl⟩
  refine ⟨_, rfl, ?_⟩
  try clear hHeld
  refine hK.out _ _ (by trivial) (fun hHeld => ?_)
  clear hK K
  refine norm_ (a' := ?_) ?_ ?_
  rotate_left
  · show Act.put _ (some 54) _ = _; simp only [Act.put, List.setIfInBounds_toArray, List.set_cons_zero, List.set_cons_succ, i64_w, i32_w]; rfl
  refine pure_ (i := 25) (N := some 57) (v := ?_) (a' := ?_) #[true, true, true, true, true, true, true, true, true, true, true, true, true, true, true, true, true, true, true, true, true, true, true, true, true, true, true, false] rfl rfl (by kernel_rfl) (fun _ _ _ h => h) (Or.inl ⟨by rfl, ?_⟩) ?_ ?_
  rotate_left
  · intro w'; go_simp; try with_reducible rfl
  rotate_left
  · simp only [Act.put, List.setIfInBounds_toArray, List.set_cons_zero, List.set_cons_succ, i64_w, i32_w]; rfl
  refine one_ (i := 27) (N := none) #[true, true, true, true, true, true, true, true, true, true, true, true, true, true, true, true, true, true, true, true, true, true, true, true, true, true, true, true] rfl rfl (by kernel_rfl) (by decide) (fun K hK => ?_)
  rw [if_pos (by rfl)]
  refine wp_store_row 58 _ _ rfl W.heap.size _ rfl rfl 58 #[.int .i64 0, .int .i64 0, .int .i64 0, .int .i64 0, .int .i64 0, .int .u32 0, .int .u32 0, .string ⟨#[]⟩] (blk_new W _) (by kernel_rfl) rfl (by simp [Value.oneCell']) ?_
  rw [World.setRow_alloc_new]
  try clear hHeld
  refine hK.out _ _ (by trivial) (fun hHeld => ?_)
  clear hK K
  refine norm_ (a' := ?_) ?_ ?_
  rotate_left
  · show Act.put _ none _ = _; simp only [Act.put]; rfl
  refine done_ (by kernel_rfl) ?_
  rotate_left
  refine event_step (by rfl) (v := .pointer (some ⟨W.heap.size, 0, none⟩)) (w1 := W.alloc (.cells #[.int .i64 0, .int .i64 0, .int .i64 0, .int .i64 0, .int .i64 0, .int .u32 0, .int .u32 0, .string ⟨#[]⟩] 58 (0, 0))) (by go_simp) ?_
  try clear hHeld
  refine hK.out _ _ (by trivial) (fun hHeld => ?_)
  clear hK K
  refine norm_ (a' := ?_) ?_ ?_
  rotate_left
  · show Act.put _ (some 5) _ = _; simp only [Act.put, List.setIfInBounds_toArray, List.set_cons_zero, List.set_cons_succ, i64_w, i32_w]; rfl
  refine one_ (i := 9) (N := some 41) #[true, true, true, true, true, true, true, true, true, true, false, true, true, true, true, true, true, true, true, false, true, true, false, true, true, false, true, false] rfl rfl (by kernel_rfl) (by decide) (fun K hK => ?_)
  refine goes_ Try.func58 (by kernel_rfl) rfl #[.string (s.extract 6 8)] (by rfl) rfl rfl (by (try simp only [List.map_toArray, List.map_cons, List.map_nil]); first | done | rfl) ?_
  with_reducible refine (G6.out _).mono ?_
  rintro e w' ⟨rfl, rfl⟩
  refine ⟨_, rfl, ?_⟩
  try clear hHeld
  refine hK.out _ _ (by trivial) (fun hHeld => ?_)
  clear hK K
  refine norm_ (a' := ?_) ?_ ?_
  rotate_left
  · show Act.put _ (some 41) _ = _; simp only [Act.put, List.setIfInBounds_toArray, List.set_cons_zero, List.set_cons_succ, i64_w, i32_w]; rfl
  refine pure_ (i := 10) (N := some 42) (v := ?_) (a' := ?_) #[true, true, true, true, true, true, true, true, true, true, true, true, true, true, true, true, true, true, true, false, true, true, false, true, true, false, true, false] rfl rfl (by kernel_rfl) (fun _ _ _ h => h) (Or.inl ⟨by rfl, ?_⟩) ?_ ?_
  rotate_left
  · intro w'; go_simp; try with_reducible rfl
  rotate_left
  · simp only [Act.put, List.setIfInBounds_toArray, List.set_cons_zero, List.set_cons_succ, i64_w, i32_w]; rfl
  refine one_ (i := 19) (N := some 51) #[true, true, true, true, true, true, true, true, true, true, true, true, true, true, true, true, true, true, true, true, true, true, false, true, true, false, true, false] rfl rfl (by kernel_rfl) (by decide) (fun K hK => ?_)
  refine goes_ Try.func58 (by kernel_rfl) rfl #[.string (s.extract 12 16)] (by rfl) rfl rfl (by (try simp only [List.map_toArray, List.map_cons, List.map_nil]); first | done | rfl) ?_
  with_reducible refine (G12.out _).mono ?_
  rintro e w' ⟨rfl, rfl⟩
  refine ⟨_, rfl, ?_⟩
  try clear hHeld
  refine hK.out _ _ (by trivial) (fun hHeld => ?_)
  clear hK K
  refine norm_ (a' := ?_) ?_ ?_
  rotate_left
  · show Act.put _ (some 51) _ = _; simp only [Act.put, List.setIfInBounds_toArray, List.set_cons_zero, List.set_cons_succ, i64_w, i32_w]; rfl
  refine one_ (i := 22) (N := some 54) #[true, true, true, true, true, true, true, true, true, true, true, true, true, true, true, true, true, true, true, true, true, true, true, true, true, false, true, false] rfl rfl (by kernel_rfl) (by decide) (fun K hK => ?_)
  refine goes_ Try.func58 (by kernel_rfl) rfl #[.string (s.extract 16 20)] (by rfl) rfl rfl (by (try simp only [List.map_toArray, List.map_cons, List.map_nil]); first | done | rfl) ?_
  with_reducible refine (G16.out _).mono ?_
  rintro e w' ⟨rfl, rfl⟩
  refine ⟨_, rfl, ?_⟩
  try clear hHeld
  refine hK.out _ _ (by trivial) (fun hHeld => ?_)
  clear hK K
  refine norm_ (a' := ?_) ?_ ?_
  rotate_left
  · show Act.put _ (some 54) _ = _; simp only [Act.put, List.setIfInBounds_toArray, List.set_cons_zero, List.set_cons_succ, i64_w, i32_w]; rfl
  refine pure_ (i := 25) (N := some 57) (v := ?_) (a' := ?_) #[true, true, true, true, true, true, true, true, true, true, true, true, true, true, true, true, true, true, true, true, true, true, true, true, true, true, true, false] rfl rfl (by kernel_rfl) (fun _ _ _ h => h) (Or.inl ⟨by rfl, ?_⟩) ?_ ?_
  rotate_left
  · intro w'; go_simp; try with_reducible rfl
  rotate_left
  · simp only [Act.put, List.setIfInBounds_toArray, List.set_cons_zero, List.set_cons_succ, i64_w, i32_w]; rfl
  refine one_ (i := 27) (N := none) #[true, true, true, true, true, true, true, true, true, true, true, true, true, true, true, true, true, true, true, true, true, true, true, true, true, true, true, true] rfl rfl (by kernel_rfl) (by decide) (fun K hK => ?_)
  rw [if_pos (by rfl)]
  refine wp_store_row 58 _ _ rfl W.heap.size _ rfl rfl 58 #[.int .i64 0, .int .i64 0, .int .i64 0, .int .i64 0, .int .i64 0, .int .u32 0, .int .u32 0, .string ⟨#[]⟩] (blk_new W _) (by kernel_rfl) rfl (by simp [Value.oneCell']) ?_
  rw [World.setRow_alloc_new]
  try clear hHeld
  refine hK.out _ _ (by trivial) (fun hHeld => ?_)
  clear hK K
  refine norm_ (a' := ?_) ?_ ?_
  rotate_left
  · show Act.put _ none _ = _; simp only [Act.put]; rfl
  refine done_ (by kernel_rfl) ?_
  rotate_left
  refine event_step (by rfl) (v := .pointer (some ⟨W.heap.size, 0, none⟩)) (w1 := W.alloc (.cells #[.int .i64 0, .int .i64 0, .int .i64 0, .int .i64 0, .int .i64 0, .int .u32 0, .int .u32 0, .string ⟨#[]⟩] 58 (0, 0))) (by go_simp) ?_
  try clear hHeld
  refine hK.out _ _ (by trivial) (fun hHeld => ?_)
  clear hK K
  refine norm_ (a' := ?_) ?_ ?_
  rotate_left
  · show Act.put _ (some 5) _ = _; simp only [Act.put, List.setIfInBounds_toArray, List.set_cons_zero, List.set_cons_succ, i64_w, i32_w]; rfl
  refine one_ (i := 5) (N := some 37) #[true, true, true, true, true, true, false, true, true, false, false, true, true, true, true, true, true, true, true, false, true, true, false, true, true, false, true, false] rfl rfl (by kernel_rfl) (by decide) (fun K hK => ?_)
  refine goes_ Try.func58 (by kernel_rfl) rfl #[.string (s.extract 4 6)] (by rfl) rfl rfl (by (try simp only [List.map_toArray, List.map_cons, List.map_nil]); first | done | rfl) ?_
  with_reducible refine (G4.out _).mono ?_
  rintro e w' ⟨rfl, rfl⟩
  refine ⟨_, rfl, ?_⟩
  try clear hHeld
  refine hK.out _ _ (by trivial) (fun hHeld => ?_)
  clear hK K
  refine norm_ (a' := ?_) ?_ ?_
  rotate_left
  · show Act.put _ (some 37) _ = _; simp only [Act.put, List.setIfInBounds_toArray, List.set_cons_zero, List.set_cons_succ, i64_w, i32_w]; rfl
  refine pure_ (i := 6) (N := some 38) (v := ?_) (a' := ?_) #[true, true, true, true, true, true, true, true, true, false, false, true, true, true, true, true, true, true, true, false, true, true, false, true, true, false, true, false] rfl rfl (by kernel_rfl) (fun _ _ _ h => h) (Or.inl ⟨by rfl, ?_⟩) ?_ ?_
  rotate_left
  · intro w'; go_simp; try with_reducible rfl
  rotate_left
  · simp only [Act.put, List.setIfInBounds_toArray, List.set_cons_zero, List.set_cons_succ, i64_w, i32_w]; rfl
  refine one_ (i := 9) (N := some 41) #[true, true, true, true, true, true, true, true, true, true, false, true, true, true, true, true, true, true, true, false, true, true, false, true, true, false, true, false] rfl rfl (by kernel_rfl) (by decide) (fun K hK => ?_)
  refine goes_ Try.func58 (by kernel_rfl) rfl #[.string (s.extract 6 8)] (by rfl) rfl rfl (by (try simp only [List.map_toArray, List.map_cons, List.map_nil]); first | done | rfl) ?_
  with_reducible refine (G6.out _).mono ?_
  rintro e w' ⟨rfl, rfl⟩
  refine ⟨_, rfl, ?_⟩
  try clear hHeld
  refine hK.out _ _ (by trivial) (fun hHeld => ?_)
  clear hK K
  refine norm_ (a' := ?_) ?_ ?_
  rotate_left
  · show Act.put _ (some 41) _ = _; simp only [Act.put, List.setIfInBounds_toArray, List.set_cons_zero, List.set_cons_succ, i64_w, i32_w]; rfl
  refine pure_ (i := 10) (N := some 42) (v := ?_) (a' := ?_) #[true, true, true, true, true, true, true, true, true, true, true, true, true, true, true, true, true, true, true, false, true, true, false, true, true, false, true, false] rfl rfl (by kernel_rfl) (fun _ _ _ h => h) (Or.inl ⟨by rfl, ?_⟩) ?_ ?_
  rotate_left
  · intro w'; go_simp; try with_reducible rfl
  rotate_left
  · simp only [Act.put, List.setIfInBounds_toArray, List.set_cons_zero, List.set_cons_succ, i64_w, i32_w]; rfl
  refine one_ (i := 19) (N := some 51) #[true, true, true, true, true, true, true, true, true, true, true, true, true, true, true, true, true, true, true, true, true, true, false, true, true, false, true, false] rfl rfl (by kernel_rfl) (by decide) (fun K hK => ?_)
  refine goes_ Try.func58 (by kernel_rfl) rfl #[.string (s.extract 12 16)] (by rfl) rfl rfl (by (try simp only [List.map_toArray, List.map_cons, List.map_nil]); first | done | rfl) ?_
  with_reducible refine (G12.out _).mono ?_
  rintro e w' ⟨rfl, rfl⟩
  refine ⟨_, rfl, ?_⟩
  try clear hHeld
  refine hK.out _ _ (by trivial) (fun hHeld => ?_)
  clear hK K
  refine norm_ (a' := ?_) ?_ ?_
  rotate_left
  · show Act.put _ (some 51) _ = _; simp only [Act.put, List.setIfInBounds_toArray, List.set_cons_zero, List.set_cons_succ, i64_w, i32_w]; rfl
  refine one_ (i := 22) (N := some 54) #[true, true, true, true, true, true, true, true, true, true, true, true, true, true, true, true, true, true, true, true, true, true, true, true, true, false, true, false] rfl rfl (by kernel_rfl) (by decide) (fun K hK => ?_)
  refine goes_ Try.func58 (by kernel_rfl) rfl #[.string (s.extract 16 20)] (by rfl) rfl rfl (by (try simp only [List.map_toArray, List.map_cons, List.map_nil]); first | done | rfl) ?_
  with_reducible refine (G16.out _).mono ?_
  rintro e w' ⟨rfl, rfl⟩
  refine ⟨_, rfl, ?_⟩
  try clear hHeld
  refine hK.out _ _ (by trivial) (fun hHeld => ?_)
  clear hK K
  refine norm_ (a' := ?_) ?_ ?_
  rotate_left
  · show Act.put _ (some 54) _ = _; simp only [Act.put, List.setIfInBounds_toArray, List.set_cons_zero, List.set_cons_succ, i64_w, i32_w]; rfl
  refine pure_ (i := 25) (N := some 57) (v := ?_) (a' := ?_) #[true, true, true, true, true, true, true, true, true, true, true, true, true, true, true, true, true, true, true, true, true, true, true, true, true, true, true, false] rfl rfl (by kernel_rfl) (fun _ _ _ h => h) (Or.inl ⟨by rfl, ?_⟩) ?_ ?_
  rotate_left
  · intro w'; go_simp; try with_reducible rfl
  rotate_left
  · simp only [Act.put, List.setIfInBounds_toArray, List.set_cons_zero, List.set_cons_succ, i64_w, i32_w]; rfl
  refine one_ (i := 27) (N := none) #[true, true, true, true, true, true, true, true, true, true, true, true, true, true, true, true, true, true, true, true, true, true, true, true, true, true, true, true] rfl rfl (by kernel_rfl) (by decide) (fun K hK => ?_)
  rw [if_pos (by rfl)]
  refine wp_store_row 58 _ _ rfl W.heap.size _ rfl rfl 58 #[.int .i64 0, .int .i64 0, .int .i64 0, .int .i64 0, .int .i64 0, .int .u32 0, .int .u32 0, .string ⟨#[]⟩] (blk_new W _) (by kernel_rfl) rfl (by simp [Value.oneCell']) ?_
  rw [World.setRow_alloc_new]
  try clear hHeld
  refine hK.out _ _ (by trivial) (fun hHeld => ?_)
  clear hK K
  refine norm_ (a' := ?_) ?_ ?_
  rotate_left
  · show Act.put _ none _ = _; simp only [Act.put]; rfl
  refine done_ (by kernel_rfl) ?_
  rotate_left
  all_goals
    refine NoPanic.normal ?_
    go_wp2
    cases b
    · refine Code.wp_mono (PanicTo.imp (n := w.heap.size) (w := w) (c := 9) (fun _ _ _ h => h) (fun W' hb => ⟨rfl, hb⟩)) ?_
      try clear hHeld
      refine start_ (n := 13) (S := fun w' => True) (ds := []) #[false, false, false, false, false, false, false, false, false, false, false, false, false] (by kernel_rfl) rfl rfl trivial (fun hHeld => ?_)
      refine pure_ (i := 0) (N := some 58) (v := ?_) (a' := ?_) #[true, false, false, false, false, false, false, false, false, false, false, false, false] rfl rfl (by kernel_rfl) (fun _ _ _ h => PanicTo.put (by decide) (by decide) h) (Or.inl ⟨by rfl, ?_⟩) ?_ ?_
      rotate_left
      · intro w'; go_simp; try with_reducible rfl
      rotate_left
      · simp only [Act.put, List.setIfInBounds_toArray, List.set_cons_zero, List.set_cons_succ, i64_w, i32_w]; rfl
      refine pure_ (i := 1) (N := some 59) (v := ?_) (a' := ?_) #[true, true, false, false, false, false, false, false, false, false, false, false, false] rfl rfl (by kernel_rfl) (fun _ _ _ h => PanicTo.put (by decide) (by decide) h) (Or.inl ⟨by rfl, ?_⟩) ?_ ?_
      rotate_left
      · intro w'; go_simp; try with_reducible rfl
      rotate_left
      · simp only [Act.put, List.setIfInBounds_toArray, List.set_cons_zero, List.set_cons_succ, i64_w, i32_w]; rfl
      refine pure_ (i := 2) (N := some 60) (v := ?_) (a' := ?_) #[true, true, true, false, false, false, false, false, false, false, false, false, false] rfl rfl (by kernel_rfl) (fun _ _ _ h => PanicTo.put (by decide) (by decide) h) (Or.inl ⟨by rfl, ?_⟩) ?_ ?_
      rotate_left
      · intro w'; go_simp; try with_reducible rfl
      rotate_left
      · simp only [Act.put, List.setIfInBounds_toArray, List.set_cons_zero, List.set_cons_succ, i64_w, i32_w]; rfl
      refine pure_ (i := 3) (N := some 61) (v := ?_) (a' := ?_) #[true, true, true, true, false, false, false, false, false, false, false, false, false] rfl rfl (by kernel_rfl) (fun _ _ _ h => PanicTo.put (by decide) (by decide) h) (Or.inl ⟨by rfl, ?_⟩) ?_ ?_
      rotate_left
      · intro w'; go_simp; try with_reducible rfl
      rotate_left
      · simp only [Act.put, List.setIfInBounds_toArray, List.set_cons_zero, List.set_cons_succ, i64_w, i32_w]; rfl
      refine pure_ (i := 4) (N := some 62) (v := ?_) (a' := ?_) #[true, true, true, true, true, false, false, false, false, false, false, false, false] rfl rfl (by kernel_rfl) (fun _ _ _ h => PanicTo.put (by decide) (by decide) h) (Or.inl ⟨by rfl, ?_⟩) ?_ ?_
      rotate_left
      · intro w'; go_simp; try with_reducible rfl
      rotate_left
      · simp only [Act.put, List.setIfInBounds_toArray, List.set_cons_zero, List.set_cons_succ, i64_w, i32_w]; rfl
      refine pure_ (i := 5) (N := some 63) (v := ?_) (a' := ?_) #[true, true, true, true, true, true, false, false, false, false, false, false, false] rfl rfl (by kernel_rfl) (fun _ _ _ h => PanicTo.put (by decide) (by decide) h) (Or.inl ⟨by rfl, ?_⟩) ?_ ?_
      rotate_left
      · intro w'; go_simp; try with_reducible rfl
      rotate_left
      · simp only [Act.put, List.setIfInBounds_toArray, List.set_cons_zero, List.set_cons_succ, i64_w, i32_w]; rfl
      refine pure_ (i := 7) (N := some 65) (v := ?_) (a' := ?_) #[true, true, true, true, true, true, false, true, false, false, false, false, false] rfl rfl (by kernel_rfl) (fun _ _ _ h => PanicTo.put (by decide) (by decide) h) (Or.inl ⟨by rfl, ?_⟩) ?_ ?_
      rotate_left
      · intro w'; go_simp; try with_reducible rfl
      rotate_left
      · simp only [Act.put, List.setIfInBounds_toArray, List.set_cons_zero, List.set_cons_succ, i64_w, i32_w]; rfl
      refine pure_ (i := 8) (N := some 66) (v := ?_) (a' := ?_) #[true, true, true, true, true, true, false, true, true, false, false, false, false] rfl rfl (by kernel_rfl) (fun _ _ _ h => PanicTo.put (by decide) (by decide) h) (Or.inl ⟨by rfl, ?_⟩) ?_ ?_
      rotate_left
      · intro w'; go_simp; try with_reducible rfl
      rotate_left
      · simp only [Act.put, List.setIfInBounds_toArray, List.set_cons_zero, List.set_cons_succ, i64_w, i32_w]; rfl
      refine one_ (i := 6) (N := some 64) #[true, true, true, true, true, true, true, true, true, false, false, false, false] rfl rfl (by kernel_rfl) (by decide) (fun K hK => ?_)
      refine goes_ Try.func59 (by kernel_rfl) rfl #[.string (s.extract 0 10 ++ ⟨#[0, 0]⟩ ++ s.extract 12 20)] (by rfl) rfl rfl (by (try simp only [List.map_toArray, List.map_cons, List.map_nil]); first | done | rfl) ?_
      with_reducible refine (GS.out _).mono ?_
      rintro e w' ⟨rfl, rfl⟩
      refine ⟨_, rfl, ?_⟩
      try clear hHeld
      refine hK.out _ _ (by trivial) (fun hHeld => ?_)
      clear hK K
      refine norm_ (a' := ?_) ?_ ?_
      rotate_left
      · show Act.put _ (some 64) _ = _; simp only [Act.put, List.setIfInBounds_toArray, List.set_cons_zero, List.set_cons_succ, i64_w, i32_w]; rfl
      refine one_ (i := 9) (N := some 67) #[true, true, true, true, true, true, true, true, true, true, false, false, false] rfl rfl (by kernel_rfl) (by decide) (fun K hK => ?_)
      refine goes_ Try.func58 (by kernel_rfl) rfl #[.string (s.extract 10 12)] (by rfl) rfl rfl (by (try simp only [List.map_toArray, List.map_cons, List.map_nil]); first | done | rfl) ?_
      with_reducible refine (G10.out _).mono ?_
      rintro e w' ⟨rfl, rfl⟩
      refine ⟨_, rfl, ?_⟩
      try clear hHeld
      refine hK.out _ _ (by trivial) (fun hHeld => ?_)
      clear hK K
      refine norm_ (a' := ?_) ?_ ?_
      rotate_left
      · show Act.put _ (some 67) _ = _; simp only [Act.put, List.setIfInBounds_toArray, List.set_cons_zero, List.set_cons_succ, i64_w, i32_w]; rfl
      refine pure_ (i := 10) (N := some 68) (v := ?_) (a' := ?_) #[true, true, true, true, true, true, true, true, true, true, true, false, false] rfl rfl (by kernel_rfl) (fun _ _ _ h => PanicTo.put (by decide) (by decide) h) (Or.inl ⟨by rfl, ?_⟩) ?_ ?_
      rotate_left
      · intro w'; go_simp; try with_reducible rfl
      rotate_left
      · simp only [Act.put, List.setIfInBounds_toArray, List.set_cons_zero, List.set_cons_succ, i64_w, i32_w]; rfl
      refine pure_ (i := 11) (N := some 69) (v := ?_) (a' := ?_) #[true, true, true, true, true, true, true, true, true, true, true, true, false] rfl rfl (by kernel_rfl) (fun _ _ _ h => PanicTo.put (by decide) (by decide) h) (Or.inl ⟨by rfl, ?_⟩) ?_ ?_
      rotate_left
      · intro w'; go_simp; try with_reducible rfl
      rotate_left
      · simp only [Act.put, List.setIfInBounds_toArray, List.set_cons_zero, List.set_cons_succ, i64_w, i32_w]; rfl
      refine one_ (i := 12) (N := some 70) #[true, true, true, true, true, true, true, true, true, true, true, true, true] rfl rfl (by kernel_rfl) (by decide) (fun K hK => ?_)
      refine panics_ Try.func57 (by kernel_rfl) rfl #[.bool false, .int .i64 9] (by rfl) rfl (by (try simp only [List.map_toArray, List.map_cons, List.map_nil]); first | done | rfl) ?_
      with_reducible refine (CN.out _).mono ?_
      rintro e w' ⟨rfl, rfl⟩
      exact ⟨_, rfl, rfl, rfl, rfl, rfl, blk_drew (blk_alloc b1 _), blk_drew (blk_alloc b2 _), below_drew1 (b3.alloc b3.size _)⟩
    · refine wp_region_noPanic ?_
      try clear hHeld
      refine start_ (n := 13) (S := fun w' => True) (ds := []) #[false, false, false, false, false, false, false, false, false, false, false, false, false] (by kernel_rfl) rfl rfl trivial (fun hHeld => ?_)
      refine pure_ (i := 0) (N := some 58) (v := ?_) (a' := ?_) #[true, false, false, false, false, false, false, false, false, false, false, false, false] rfl rfl (by kernel_rfl) (fun _ _ _ h => h) (Or.inl ⟨by rfl, ?_⟩) ?_ ?_
      rotate_left
      · intro w'; go_simp; try with_reducible rfl
      rotate_left
      · simp only [Act.put, List.setIfInBounds_toArray, List.set_cons_zero, List.set_cons_succ, i64_w, i32_w]; rfl
      refine pure_ (i := 1) (N := some 59) (v := ?_) (a' := ?_) #[true, true, false, false, false, false, false, false, false, false, false, false, false] rfl rfl (by kernel_rfl) (fun _ _ _ h => h) (Or.inl ⟨by rfl, ?_⟩) ?_ ?_
      rotate_left
      · intro w'; go_simp; try with_reducible rfl
      rotate_left
      · simp only [Act.put, List.setIfInBounds_toArray, List.set_cons_zero, List.set_cons_succ, i64_w, i32_w]; rfl
      refine pure_ (i := 2) (N := some 60) (v := ?_) (a' := ?_) #[true, true, true, false, false, false, false, false, false, false, false, false, false] rfl rfl (by kernel_rfl) (fun _ _ _ h => h) (Or.inl ⟨by rfl, ?_⟩) ?_ ?_
      rotate_left
      · intro w'; go_simp; try with_reducible rfl
      rotate_left
      · simp only [Act.put, List.setIfInBounds_toArray, List.set_cons_zero, List.set_cons_succ, i64_w, i32_w]; rfl
      refine pure_ (i := 3) (N := some 61) (v := ?_) (a' := ?_) #[true, true, true, true, false, false, false, false, false, false, false, false, false] rfl rfl (by kernel_rfl) (fun _ _ _ h => h) (Or.inl ⟨by rfl, ?_⟩) ?_ ?_
      rotate_left
      · intro w'; go_simp; try with_reducible rfl
      rotate_left
      · simp only [Act.put, List.setIfInBounds_toArray, List.set_cons_zero, List.set_cons_succ, i64_w, i32_w]; rfl
      refine pure_ (i := 4) (N := some 62) (v := ?_) (a' := ?_) #[true, true, true, true, true, false, false, false, false, false, false, false, false] rfl rfl (by kernel_rfl) (fun _ _ _ h => h) (Or.inl ⟨by rfl, ?_⟩) ?_ ?_
      rotate_left
      · intro w'; go_simp; try with_reducible rfl
      rotate_left
      · simp only [Act.put, List.setIfInBounds_toArray, List.set_cons_zero, List.set_cons_succ, i64_w, i32_w]; rfl
      refine pure_ (i := 5) (N := some 63) (v := ?_) (a' := ?_) #[true, true, true, true, true, true, false, false, false, false, false, false, false] rfl rfl (by kernel_rfl) (fun _ _ _ h => h) (Or.inl ⟨by rfl, ?_⟩) ?_ ?_
      rotate_left
      · intro w'; go_simp; try with_reducible rfl
      rotate_left
      · simp only [Act.put, List.setIfInBounds_toArray, List.set_cons_zero, List.set_cons_succ, i64_w, i32_w]; rfl
      refine pure_ (i := 7) (N := some 65) (v := ?_) (a' := ?_) #[true, true, true, true, true, true, false, true, false, false, false, false, false] rfl rfl (by kernel_rfl) (fun _ _ _ h => h) (Or.inl ⟨by rfl, ?_⟩) ?_ ?_
      rotate_left
      · intro w'; go_simp; try with_reducible rfl
      rotate_left
      · simp only [Act.put, List.setIfInBounds_toArray, List.set_cons_zero, List.set_cons_succ, i64_w, i32_w]; rfl
      refine pure_ (i := 8) (N := some 66) (v := ?_) (a' := ?_) #[true, true, true, true, true, true, false, true, true, false, false, false, false] rfl rfl (by kernel_rfl) (fun _ _ _ h => h) (Or.inl ⟨by rfl, ?_⟩) ?_ ?_
      rotate_left
      · intro w'; go_simp; try with_reducible rfl
      rotate_left
      · simp only [Act.put, List.setIfInBounds_toArray, List.set_cons_zero, List.set_cons_succ, i64_w, i32_w]; rfl
      refine one_ (i := 6) (N := some 64) #[true, true, true, true, true, true, true, true, true, false, false, false, false] rfl rfl (by kernel_rfl) (by decide) (fun K hK => ?_)
      refine goes_ Try.func59 (by kernel_rfl) rfl #[.string (s.extract 0 10 ++ ⟨#[0, 0]⟩ ++ s.extract 12 20)] (by rfl) rfl rfl (by (try simp only [List.map_toArray, List.map_cons, List.map_nil]); first | done | rfl) ?_
      with_reducible refine (GS.out _).mono ?_
      rintro e w' ⟨rfl, rfl⟩
      refine ⟨_, rfl, ?_⟩
      try clear hHeld
      refine hK.out _ _ (by trivial) (fun hHeld => ?_)
      clear hK K
      refine norm_ (a' := ?_) ?_ ?_
      rotate_left
      · show Act.put _ (some 64) _ = _; simp only [Act.put, List.setIfInBounds_toArray, List.set_cons_zero, List.set_cons_succ, i64_w, i32_w]; rfl
      refine one_ (i := 9) (N := some 67) #[true, true, true, true, true, true, true, true, true, true, false, false, false] rfl rfl (by kernel_rfl) (by decide) (fun K hK => ?_)
      refine goes_ Try.func58 (by kernel_rfl) rfl #[.string (s.extract 10 12)] (by rfl) rfl rfl (by (try simp only [List.map_toArray, List.map_cons, List.map_nil]); first | done | rfl) ?_
      with_reducible refine (G10.out _).mono ?_
      rintro e w' ⟨rfl, rfl⟩
      refine ⟨_, rfl, ?_⟩
      try clear hHeld
      refine hK.out _ _ (by trivial) (fun hHeld => ?_)
      clear hK K
      refine norm_ (a' := ?_) ?_ ?_
      rotate_left
      · show Act.put _ (some 67) _ = _; simp only [Act.put, List.setIfInBounds_toArray, List.set_cons_zero, List.set_cons_succ, i64_w, i32_w]; rfl
      refine pure_ (i := 10) (N := some 68) (v := ?_) (a' := ?_) #[true, true, true, true, true, true, true, true, true, true, true, false, false] rfl rfl (by kernel_rfl) (fun _ _ _ h => h) (Or.inl ⟨by rfl, ?_⟩) ?_ ?_
      rotate_left
      · intro w'; go_simp; try with_reducible rfl
      rotate_left
      · simp only [Act.put, List.setIfInBounds_toArray, List.set_cons_zero, List.set_cons_succ, i64_w, i32_w]; rfl
      refine pure_ (i := 11) (N := some 69) (v := ?_) (a' := ?_) #[true, true, true, true, true, true, true, true, true, true, true, true, false] rfl rfl (by kernel_rfl) (fun _ _ _ h => h) (Or.inl ⟨by rfl, ?_⟩) ?_ ?_
      rotate_left
      · intro w'; go_simp; try with_reducible rfl
      rotate_left
      · simp only [Act.put, List.setIfInBounds_toArray, List.set_cons_zero, List.set_cons_succ, i64_w, i32_w]; rfl
      refine one_ (i := 12) (N := some 70) #[true, true, true, true, true, true, true, true, true, true, true, true, true] rfl rfl (by kernel_rfl) (by decide) (fun K hK => ?_)
      refine goes_ Try.func57 (by kernel_rfl) rfl #[.bool true, .int .i64 9] (by rfl) rfl rfl (by (try simp only [List.map_toArray, List.map_cons, List.map_nil]); first | done | rfl) ?_
      with_reducible refine (CY.out _).mono ?_
      rintro e w' ⟨rfl, rfl⟩
      refine ⟨_, rfl, ?_⟩
      try clear hHeld
      refine hK.out _ _ (by trivial) (fun hHeld => ?_)
      clear hK K
      refine norm_ (a' := ?_) ?_ ?_
      rotate_left
      · show Act.put _ (some 70) _ = _; simp only [Act.put, List.setIfInBounds_toArray, List.set_cons_zero, List.set_cons_succ, i64_w, i32_w]; rfl
      refine done_ (by kernel_rfl) ?_
      refine NoPanic.normal ?_
      have e1 := blk_drew (blk_alloc b1 (.cells (hdA (hdO s)) 58))
      have e2 := blk_drew (blk_alloc b2 (.cells (hdA (hdO s)) 58))
      have e3 := blk_drew (blk_new W (.cells (hdA (hdO s)) 58))
      have e4 := below_drew1 (b3.alloc b3.size (.cells (hdA (hdO s)) 58))
      have hA : hdA (hdO s) = #[.int .i64 (bt s 1), .int .i64 (n2 s 4), .int .i64 (n2 s 6), .int .i64 (bt s 8), .int .i64 (bt s 9), .int .u32 (n4 s 12), .int .u32 (n4 s 16), .string (s.extract 20 s.size)] := rfl
      rw [hA] at e1 e2 e3 e4
      clear hA
      generalize (W.alloc (.cells #[.int .i64 (bt s 1), .int .i64 (n2 s 4), .int .i64 (n2 s 6), .int .i64 (bt s 8), .int .i64 (bt s 9), .int .u32 (n4 s 12), .int .u32 (n4 s 16), .string (s.extract 20 s.size)] 58)).drew = W2 at e1 e2 e3 e4 ⊢
      have f1 := setRow_heap W2 w.heap.size _ #[.int .i64 (bt s 1), .int .i64 (n2 s 4), .int .i64 (n2 s 6), .int .i64 (bt s 8), .int .i64 (bt s 9), .int .u32 (n4 s 12), .int .u32 (n4 s 16), .string (s.extract 20 s.size)] 58 (0, 0) e1
      have f2 := (setRow_other W2 w.heap.size (w.heap.size + 1) #[.int .i64 (bt s 1), .int .i64 (n2 s 4), .int .i64 (n2 s 6), .int .i64 (bt s 8), .int .i64 (bt s 9), .int .u32 (n4 s 12), .int .u32 (n4 s 16), .string (s.extract 20 s.size)] (by omega)).trans e2
      have f3 := (blk_cell f2 0).trans rfl
      have f4 := blk_frozen f2 0
      have F1 : Hid _ := f1
      have F2 : Hid _ := f2
      clear f1 f2
      go_wp2_with (first
        | (refine wpList_load_row rfl 58 _ rfl W.heap.size rfl 58 _ (0, 0) _ e3 Try.underlying58 rfl (by kernel_rfl) ?_)
        | (refine wpList_store_row rfl 58 _ _ rfl w.heap.size _ rfl rfl 58 _ e1 (by kernel_rfl) rfl (by simp [Value.oneCell']) ?_))
      exact door_ret w.heap.size 0 w _ _ _ rfl rfl ((heap_setCell_other _ _ _ _ (by simp)).trans F1.out) rfl (blk_put F2.out 0 _ rfl) ((below_setRow e4 (Nat.le_refl _) _).setCell (by simp) _) fun W' hb => ⟨rfl, hb⟩
theorem parse38_calls (s : ByteArray) (w : World) : Calls Try.prog 38 #[.string s] w fun e w' => e = .returned (hdV (parseV s)) ∧ Below w.heap.size w w' := by
  by_cases h : 20 ≤ s.size
  · have hn := numV2 s 2 (by omega)
    have hr := n2_range s 2
    by_cases h0 : bt s 0 = 69
    · have h0' : (bt s 0 == 69) = true := beq_iff_eq.2 h0
      by_cases hl : 20 ≤ n2 s 2
      · have hl' : decide (20 ≤ n2 s 2) = true := decide_eq_true hl
        by_cases hs : n2 s 2 ≤ (s.size : Int)
        · have hs' : decide (n2 s 2 ≤ (s.size : Int)) = true := decide_eq_true hs
          by_cases he : (s.size : Int) = n2 s 2
          · have := parse_right s w h h0' _ hn hr.1 hr.2 hl' hs' (beq_iff_eq.2 he) _ rfl
            have e : parseV s = if (sumV (zeroed s) == n2 s 10) then hdO s else badH 9 := by
              unfold parseV
              rw [if_neg (by omega), if_pos h0, if_neg (by omega), if_pos he]
              by_cases hb : sumV (zeroed s) = n2 s 10
              · rw [if_pos hb, if_pos (beq_iff_eq.2 hb)]; rfl
              · rw [if_neg hb, if_neg (by simpa using hb)]
            rw [e]
            exact this
          · have e : parseV s = badH 6 := by unfold parseV; rw [if_neg (by omega), if_pos h0, if_neg (by omega), if_neg he]
            rw [e]
            exact parse_more s w h h0' _ hn hr.1 hr.2 hl' hs' (by simpa using he)
        · have e : parseV s = badH 1 := by unfold parseV; rw [if_neg (by omega), if_pos h0, if_pos (by omega)]
          rw [e]
          exact parse_cut s w h h0' _ hn hr.1 hr.2 hl' (decide_eq_false hs)
      · have e : parseV s = badH 1 := by unfold parseV; rw [if_neg (by omega), if_pos h0, if_pos (by omega)]
        rw [e]
        exact parse_less s w h h0' _ hn hr.1 hr.2 (decide_eq_false hl)
    · have e : parseV s = badH 3 := by unfold parseV; rw [if_neg (by omega), if_neg h0]
      rw [e]
      exact parse_kind s w h (by simpa using h0)
  · have e : parseV s = badH 1 := by unfold parseV; rw [if_pos (by omega)]
    rw [e]
    exact parse_short s w (decide_eq_false (by omega))
end Go.Proofs.Ytcpneggifmldoaa.T

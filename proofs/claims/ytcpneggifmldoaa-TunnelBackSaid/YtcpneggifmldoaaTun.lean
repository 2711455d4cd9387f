/-
  vizard/tunnel's further and Down, walked.
-/
import Derived.Test.YtcpneggifmldoaaHopP
import Derived.Test.YtcpneggifmldoaaTx1
set_option linter.unusedVariables false
set_option linter.unusedSimpArgs false
namespace Go.Proofs.Ytcpneggifmldoaa.T
open Go.RowKit Go.Proofs.YtcpneggifmldoaaW.PrintWords Go.Proofs.YtcpneggifmldoaaW.PrintLast Go.Proofs.YtcpneggifmldoaaW.PrintMore Go
attribute [local go_sem high] eqA58
set_option maxRecDepth 100000 in
set_option maxHeartbeats 2000000 in
theorem further_no (s : ByteArray) (w : World) (T : ByteArray) (u : Int) (hh : hopV s = (T, u)) (h0 : (u == 0) = false) (h1 : (u != 0) = true) :
    Calls Try.prog 39 #[.string s] w fun e w' => e = .returned (.tuple #[.string ⟨#[]⟩, .int .i64 u]) ∧ Below w.heap.size w w' := by
  have K : Hid (∀ w, Calls Try.prog 60 #[.string s] w fun e w' => e = .returned (.tuple #[.string T, .int .i64 u]) ∧ Below w.heap.size w w') := fun w => by have := hop60_calls s w; rw [hh] at this; exact this
  clear hh
  go_enter Try.func39, Try.ntmps39
  go_wp2_with (go_at_call 60; (with_reducible refine (K.out _).mono ?_); rintro e w1 ⟨rfl, hb⟩; have Z : Hid _ := hb; clear hb)
  go_ret2
  exact ⟨rfl, Z.out⟩
set_option maxRecDepth 100000 in
set_option maxHeartbeats 2000000 in
theorem further_yes (s : ByteArray) (w : World) (T : ByteArray) (hh : hopV s = (T, 0)) (a0 a1 a2 a3 a4 a5 a6 : Int) (d : ByteArray) (hp : parseV s = (a0, a1, a2, a3, a4, a5, a6, d, 0)) (x : Int) (hx : wrap64 (a3 - 1) = x) (hT : parseV T = (a0, a1, a2, x, a4, a5, a6, d, 0)) :
    Calls Try.prog 39 #[.string s] w fun e w' => e = .returned (.tuple #[.string T, .int .i64 0]) ∧ Below w.heap.size w w' := by
  have hu58 := Try.underlying58
  have K : Hid (∀ w, Calls Try.prog 60 #[.string s] w fun e w' => e = .returned (.tuple #[.string T, .int .i64 0]) ∧ Below w.heap.size w w') := fun w => by have := hop60_calls s w; rw [hh] at this; exact this
  have P : Hid (∀ w, Calls Try.prog 38 #[.string s] w fun e w' => e = .returned (.tuple #[.agg #[.int .i64 a0, .int .i64 a1, .int .i64 a2, .int .i64 a3, .int .i64 a4, .int .u32 a5, .int .u32 a6, .string d], .int .i64 0]) ∧ Below w.heap.size w w') := fun w => by have := parse38_calls s w; rw [hp] at this; exact this
  have Q : Hid (∀ w, Calls Try.prog 38 #[.string T] w fun e w' => e = .returned (.tuple #[.agg #[.int .i64 a0, .int .i64 a1, .int .i64 a2, .int .i64 x, .int .i64 a4, .int .u32 a5, .int .u32 a6, .string d], .int .i64 0]) ∧ Below w.heap.size w w') := fun w => by have := parse38_calls T w; rw [hT] at this; exact this
  clear hh hp hT
  go_enter Try.func39, Try.ntmps39
  go_wp2_with (first
    | (go_at_call 60; (with_reducible refine (K.out _).mono ?_); rintro e w1 ⟨rfl, hb⟩; have Z1 : Hid _ := hb; clear hb)
    | (go_at_call 38; (with_reducible refine (P.out _).mono ?_); rintro e w2 ⟨rfl, hb⟩; have Z2 : Hid _ := hb; clear hb)
    | (go_at_call 38; (with_reducible refine (Q.out _).mono ?_); rintro e w3 ⟨rfl, hb⟩; have Bx := blk_below (blk_new w2 (.cells #[.int .i64 a0, .int .i64 a1, .int .i64 a2, .int .i64 a3, .int .i64 a4, .int .u32 a5, .int .u32 a6, .string d] 58)) hb; have hz := blk_lt Bx; have c3 : w3.cell? ⟨w2.heap.size, 3, none⟩ = some (.int .i64 a3) := (blk_cell Bx 3).trans rfl; have f3 := blk_frozen Bx 3; have F6 : Hid _ := blk_alloc (blk_put Bx 3 (.int .i64 x) rfl) (.cells #[.int .i64 a0, .int .i64 a1, .int .i64 a2, .int .i64 x, .int .i64 a4, .int .u32 a5, .int .u32 a6, .string d] 58); have F8 : Hid (((w3.setCell ⟨w2.heap.size, 3, none⟩ (.int .i64 x)).alloc (.cells #[.int .i64 a0, .int .i64 a1, .int .i64 a2, .int .i64 x, .int .i64 a4, .int .u32 a5, .int .u32 a6, .string d] 58)).heap[w3.heap.size]? = some (.cells #[.int .i64 a0, .int .i64 a1, .int .i64 a2, .int .i64 x, .int .i64 a4, .int .u32 a5, .int .u32 a6, .string d] 58 (0, 0))) := (by have := blk_new (w3.setCell ⟨w2.heap.size, 3, none⟩ (.int .i64 x)) (.cells #[.int .i64 a0, .int .i64 a1, .int .i64 a2, .int .i64 x, .int .i64 a4, .int .u32 a5, .int .u32 a6, .string d] 58); rw [World.size_setCell] at this; exact this); have Z3 : Hid _ := hb; clear hb Bx)
    | (refine wpList_store_row rfl 58 _ _ rfl _ _ rfl rfl 58 _ (blk_new _ _) (by kernel_rfl) rfl (by simp [Value.oneCell']) ?_; rw [World.setRow_alloc_new])
    | (refine wpList_load_row rfl 58 _ rfl _ rfl 58 _ (0, 0) _ F8.out Try.underlying58 rfl (by kernel_rfl) ?_)
    | (refine wpList_load_row rfl 58 _ rfl _ rfl 58 _ (0, 0) _ F6.out Try.underlying58 rfl (by kernel_rfl) ?_))
  go_ret2
  have y2 := Z1.out.trans (Z2.out.mono Z1.out.size)
  have y3 := (y2.alloc y2.size (.cells #[.int .i64 a0, .int .i64 a1, .int .i64 a2, .int .i64 a3, .int .i64 a4, .int .u32 a5, .int .u32 a6, .string d] 58)).trans (Z3.out.mono (by rw [World.size_alloc]; have := y2.size; omega))
  exact ⟨rfl, (y3.setCell (by simpa using y2.size) _).alloc (by rw [World.size_setCell]; exact y3.size) _⟩
/-- further tells what Hop tells. -/
theorem further_calls (s : ByteArray) (w : World) : Calls Try.prog 39 #[.string s] w fun e w' => e = .returned (.tuple #[.string (hopV s).1, .int .i64 (hopV s).2]) ∧ Below w.heap.size w w' := by
  obtain ⟨a0, a1, a2, a3, a4, a5, a6, d, u, hp⟩ : ∃ a0 a1 a2 a3 a4 a5 a6 d u, parseV s = (a0, a1, a2, a3, a4, a5, a6, d, u) := ⟨_, _, _, _, _, _, _, _, _, rfl⟩
  by_cases hu : u = 0
  · subst hu
    by_cases ht : a3 < 2
    · have hh : hopV s = (⟨#[]⟩, 2) := by unfold hopV; rw [hp]; simp only; rw [if_pos trivial, if_pos ht]
      rw [hh]
      exact further_no s w _ 2 hh rfl rfl
    · obtain ⟨ho, q5, q5', q6, q6', hd, -⟩ := parse_ok hp
      have ho' : okH a0 a1 a2 (a3 - 1) a4 := by unfold okH at *; omega
      have hh : hopV s = (packV a0 a1 a2 (a3 - 1) a4 a5 a6 d, 0) := by unfold hopV; rw [hp]; simp only; rw [if_pos trivial, if_neg ht]
      rw [hh]
      exact further_yes s w _ hh _ _ _ _ _ _ _ _ hp (a3 - 1) (by unfold okH at ho; unfold wrap64; omega) (parse_pack ho' q5 q5' q6 q6' hd)
  · have hh : hopV s = (⟨#[]⟩, u) := by unfold hopV; rw [hp]; simp only; rw [if_neg hu]
    rw [hh]
    have h0 : (u == 0) = false := beq_eq_false_iff_ne.2 hu
    exact further_no s w _ u hh h0 (by rw [bne, h0]; rfl)
set_option maxRecDepth 100000 in
set_option maxHeartbeats 2000000 in
theorem down_long (ip : Bool) (addr port own prt : Int) (V : Option Addr) (n c : Nat) (src frm : Int) (s : ByteArray) (w : World) (hs : 1000 < s.size) :
    Calls Try.prog 19 #[.agg #[.bool ip, .int .u32 addr, .int .i64 port, .int .u32 own, .int .i64 prt, .slice V n c], .int .u32 src, .int .i64 frm, .string s] w fun e w' => e = .returned (.tuple #[.string ⟨#[]⟩, .int .i64 8]) ∧ Below w.heap.size w w' := by
  have hu47 := Try.underlying47
  have d0 : decide (1000 < (s.size : Int)) = true := decide_eq_true (by omega)
  have d1 : decide (1000 < s.size) = true := decide_eq_true (by omega)
  clear hs
  go_enter Try.func19, Try.ntmps19
  go_wp2
  go_ret2
  exact ⟨rfl, (Below.refl _ w).alloc (Nat.le_refl _) _⟩
set_option maxRecDepth 100000 in
set_option maxHeartbeats 2000000 in
theorem down_other (addr port own prt : Int) (V : Option Addr) (n c : Nat) (src frm : Int) (s : ByteArray) (w : World) (hs : s.size ≤ 1000) (h : ¬ (src = addr ∧ frm = port)) :
    Calls Try.prog 19 #[.agg #[.bool false, .int .u32 addr, .int .i64 port, .int .u32 own, .int .i64 prt, .slice V n c], .int .u32 src, .int .i64 frm, .string s] w fun e w' => e = .returned (.tuple #[.string ⟨#[]⟩, .int .i64 15]) ∧ Below w.heap.size w w' := by
  have hu47 := Try.underlying47
  have d0 : decide (1000 < (s.size : Int)) = false := decide_eq_false (by omega)
  have d1 : decide (1000 < s.size) = false := decide_eq_false (by omega)
  clear hs
  by_cases h1 : src = addr
  · have e1 : (src == addr) = true := beq_iff_eq.2 h1
    have e1' : (src != addr) = false := by rw [bne, e1]; rfl
    have e2 : (frm == port) = false := beq_eq_false_iff_ne.2 (fun h2 => h ⟨h1, h2⟩)
    have e2' : (frm != port) = true := by rw [bne, e2]; rfl
    clear h h1
    go_enter Try.func19, Try.ntmps19
    go_wp2
    go_ret2
    exact ⟨rfl, (Below.refl _ w).alloc (Nat.le_refl _) _⟩
  · have e1 : (src == addr) = false := beq_eq_false_iff_ne.2 h1
    have e1' : (src != addr) = true := by rw [bne, e1]; rfl
    clear h h1
    go_enter Try.func19, Try.ntmps19
    go_wp2
    go_ret2
    exact ⟨rfl, (Below.refl _ w).alloc (Nat.le_refl _) _⟩
set_option maxRecDepth 100000 in
set_option maxHeartbeats 2000000 in
theorem down_same (addr port own prt : Int) (V : Option Addr) (n c : Nat) (src frm : Int) (s : ByteArray) (w : World) (hs : s.size ≤ 1000) (h1 : src = addr) (h2 : frm = port) :
    Calls Try.prog 19 #[.agg #[.bool false, .int .u32 addr, .int .i64 port, .int .u32 own, .int .i64 prt, .slice V n c], .int .u32 src, .int .i64 frm, .string s] w fun e w' => e = .returned (.tuple #[.string s, .int .i64 0]) ∧ Below w.heap.size w w' := by
  have hu47 := Try.underlying47
  have d0 : decide (1000 < (s.size : Int)) = false := decide_eq_false (by omega)
  have d1 : decide (1000 < s.size) = false := decide_eq_false (by omega)
  clear hs
  have e1 : (src == addr) = true := beq_iff_eq.2 h1
  have e1' : (src != addr) = false := by rw [bne, e1]; rfl
  have e2 : (frm == port) = true := beq_iff_eq.2 h2
  have e2' : (frm != port) = false := by rw [bne, e2]; rfl
  clear h1 h2
  go_enter Try.func19, Try.ntmps19
  go_wp2
  go_ret2
  exact ⟨rfl, (Below.refl _ w).alloc (Nat.le_refl _) _⟩
set_option maxRecDepth 100000 in
set_option maxHeartbeats 2000000 in
theorem down_bad (addr port own prt : Int) (V : Option Addr) (n c : Nat) (src frm : Int) (s : ByteArray) (w : World) (hs : s.size ≤ 1000) (a0 a1 a2 a3 a4 a5 a6 u : Int) (d : ByteArray) (hp : parseV s = (a0, a1, a2, a3, a4, a5, a6, d, u)) (h0 : (u == 0) = false) (h1 : (u != 0) = true) :
    Calls Try.prog 19 #[.agg #[.bool true, .int .u32 addr, .int .i64 port, .int .u32 own, .int .i64 prt, .slice V n c], .int .u32 src, .int .i64 frm, .string s] w fun e w' => e = .returned (.tuple #[.string ⟨#[]⟩, .int .i64 u]) ∧ Below w.heap.size w w' := by
  have hu47 := Try.underlying47
  have hu58 := Try.underlying58
  have P : Hid (∀ w, Calls Try.prog 38 #[.string s] w fun e w' => e = .returned (.tuple #[.agg #[.int .i64 a0, .int .i64 a1, .int .i64 a2, .int .i64 a3, .int .i64 a4, .int .u32 a5, .int .u32 a6, .string d], .int .i64 u]) ∧ Below w.heap.size w w') := fun w => by have := parse38_calls s w; rw [hp] at this; exact this
  have d0 : decide (1000 < (s.size : Int)) = false := decide_eq_false (by omega)
  have d1 : decide (1000 < s.size) = false := decide_eq_false (by omega)
  clear hs
  clear hp
  go_enter Try.func19, Try.ntmps19
  go_wp2_with (first | (go_at_call 38; (with_reducible refine (P.out _).mono ?_); rintro e w1 ⟨rfl, hb⟩; have A1 := blk_below (blk_new w (.cells #[.bool true, .int .u32 addr, .int .i64 port, .int .u32 own, .int .i64 prt, .slice V n c] 47)) hb; have k3 : w1.cell? ⟨w.heap.size, 3, none⟩ = some (.int .u32 own) := (blk_cell A1 3).trans rfl; have kz : w.heap.size < w1.heap.size := blk_lt A1; have Z : Hid (Below w.heap.size w w1) := ((Below.refl _ w).alloc (Nat.le_refl _) _).trans (hb.mono (by rw [World.size_alloc]; omega)); clear hb A1) | (refine wpList_store_row rfl 58 _ _ rfl _ _ rfl rfl 58 _ (blk_new _ _) (by kernel_rfl) rfl (by simp [Value.oneCell']) ?_; rw [World.setRow_alloc_new]))
  go_ret2
  exact ⟨rfl, Z.out.alloc Z.out.size _⟩
set_option maxRecDepth 100000 in
set_option maxHeartbeats 2000000 in
theorem down_foreign (addr port own prt : Int) (V : Option Addr) (n c : Nat) (src frm : Int) (s : ByteArray) (w : World) (hs : s.size ≤ 1000) (a0 a1 a2 a3 a4 a5 a6 u : Int) (d : ByteArray) (hp : parseV s = (a0, a1, a2, a3, a4, a5, a6, d, u)) (h0 : (u == 0) = true) (h1 : (u != 0) = false) (h2 : (a6 == own) = false) (h3 : (a6 != own) = true) :
    Calls Try.prog 19 #[.agg #[.bool true, .int .u32 addr, .int .i64 port, .int .u32 own, .int .i64 prt, .slice V n c], .int .u32 src, .int .i64 frm, .string s] w fun e w' => e = .returned (.tuple #[.string ⟨#[]⟩, .int .i64 15]) ∧ Below w.heap.size w w' := by
  have hu47 := Try.underlying47
  have hu58 := Try.underlying58
  have P : Hid (∀ w, Calls Try.prog 38 #[.string s] w fun e w' => e = .returned (.tuple #[.agg #[.int .i64 a0, .int .i64 a1, .int .i64 a2, .int .i64 a3, .int .i64 a4, .int .u32 a5, .int .u32 a6, .string d], .int .i64 u]) ∧ Below w.heap.size w w') := fun w => by have := parse38_calls s w; rw [hp] at this; exact this
  have d0 : decide (1000 < (s.size : Int)) = false := decide_eq_false (by omega)
  have d1 : decide (1000 < s.size) = false := decide_eq_false (by omega)
  clear hs
  clear hp
  go_enter Try.func19, Try.ntmps19
  go_wp2_with (first | (go_at_call 38; (with_reducible refine (P.out _).mono ?_); rintro e w1 ⟨rfl, hb⟩; have A1 := blk_below (blk_new w (.cells #[.bool true, .int .u32 addr, .int .i64 port, .int .u32 own, .int .i64 prt, .slice V n c] 47)) hb; have k3 : w1.cell? ⟨w.heap.size, 3, none⟩ = some (.int .u32 own) := (blk_cell A1 3).trans rfl; have kz : w.heap.size < w1.heap.size := blk_lt A1; have Z : Hid (Below w.heap.size w w1) := ((Below.refl _ w).alloc (Nat.le_refl _) _).trans (hb.mono (by rw [World.size_alloc]; omega)); clear hb A1) | (refine wpList_store_row rfl 58 _ _ rfl _ _ rfl rfl 58 _ (blk_new _ _) (by kernel_rfl) rfl (by simp [Value.oneCell']) ?_; rw [World.setRow_alloc_new]))
  go_ret2
  exact ⟨rfl, Z.out.alloc Z.out.size _⟩
set_option maxRecDepth 100000 in
set_option maxHeartbeats 2000000 in
theorem down_mine (addr port own prt : Int) (V : Option Addr) (n c : Nat) (src frm : Int) (s : ByteArray) (w : World) (hs : s.size ≤ 1000) (a0 a1 a2 a3 a4 a5 a6 u : Int) (d : ByteArray) (hp : parseV s = (a0, a1, a2, a3, a4, a5, a6, d, u)) (h0 : (u == 0) = true) (h1 : (u != 0) = false) (h2 : (a6 == own) = true) (h3 : (a6 != own) = false) :
    Calls Try.prog 19 #[.agg #[.bool true, .int .u32 addr, .int .i64 port, .int .u32 own, .int .i64 prt, .slice V n c], .int .u32 src, .int .i64 frm, .string s] w fun e w' => e = .returned (.tuple #[.string (hopV s).1, .int .i64 (hopV s).2]) ∧ Below w.heap.size w w' := by
  have hu47 := Try.underlying47
  have hu58 := Try.underlying58
  have P : Hid (∀ w, Calls Try.prog 38 #[.string s] w fun e w' => e = .returned (.tuple #[.agg #[.int .i64 a0, .int .i64 a1, .int .i64 a2, .int .i64 a3, .int .i64 a4, .int .u32 a5, .int .u32 a6, .string d], .int .i64 u]) ∧ Below w.heap.size w w') := fun w => by have := parse38_calls s w; rw [hp] at this; exact this
  have F : Hid (∀ w, _) := fun w => further_calls s w
  have d0 : decide (1000 < (s.size : Int)) = false := decide_eq_false (by omega)
  have d1 : decide (1000 < s.size) = false := decide_eq_false (by omega)
  clear hs
  clear hp
  go_enter Try.func19, Try.ntmps19
  go_wp2_with (first | (go_at_call 38; (with_reducible refine (P.out _).mono ?_); rintro e w1 ⟨rfl, hb⟩; have A1 := blk_below (blk_new w (.cells #[.bool true, .int .u32 addr, .int .i64 port, .int .u32 own, .int .i64 prt, .slice V n c] 47)) hb; have k3 : w1.cell? ⟨w.heap.size, 3, none⟩ = some (.int .u32 own) := (blk_cell A1 3).trans rfl; have kz : w.heap.size < w1.heap.size := blk_lt A1; have Z : Hid (Below w.heap.size w w1) := ((Below.refl _ w).alloc (Nat.le_refl _) _).trans (hb.mono (by rw [World.size_alloc]; omega)); clear hb A1) | (go_at_call 39; (with_reducible refine (F.out _).mono ?_); rintro e w2 ⟨rfl, hb⟩; have Y : Hid _ := hb; clear hb) | (refine wpList_store_row rfl 58 _ _ rfl _ _ rfl rfl 58 _ (blk_new _ _) (by kernel_rfl) rfl (by simp [Value.oneCell']) ?_; rw [World.setRow_alloc_new]))
  go_ret2
  exact ⟨rfl, (Z.out.alloc Z.out.size _).trans (Y.out.mono (by rw [World.size_alloc]; have := Z.out.size; omega))⟩
/-- What comes down. -/
theorem down_calls (ip : Bool) (addr port own prt : Int) (V : Option Addr) (n c : Nat) (src frm : Int) (s : ByteArray) (w : World) :
    Calls Try.prog 19 #[.agg #[.bool ip, .int .u32 addr, .int .i64 port, .int .u32 own, .int .i64 prt, .slice V n c], .int .u32 src, .int .i64 frm, .string s] w fun e w' => e = .returned (.tuple #[.string (downV ip addr port own src frm s).1, .int .i64 (downV ip addr port own src frm s).2]) ∧ Below w.heap.size w w' := by
  unfold downV
  by_cases hs : 1000 < s.size
  · rw [if_pos hs]
    exact down_long ip addr port own prt V n c src frm s w hs
  · rw [if_neg hs]
    cases ip
    · rw [if_neg (by decide)]
      by_cases h : src = addr ∧ frm = port
      · rw [if_pos h]
        exact down_same addr port own prt V n c src frm s w (by omega) h.1 h.2
      · rw [if_neg h]
        exact down_other addr port own prt V n c src frm s w (by omega) h
    · rw [if_pos rfl]
      obtain ⟨a0, a1, a2, a3, a4, a5, a6, d, u, hp⟩ : ∃ a0 a1 a2 a3 a4 a5 a6 d u, parseV s = (a0, a1, a2, a3, a4, a5, a6, d, u) := ⟨_, _, _, _, _, _, _, _, _, rfl⟩
      rw [hp]
      simp only
      by_cases hu : u = 0
      · rw [if_pos hu]
        have h0 : (u == 0) = true := beq_iff_eq.2 hu
        have h1 : (u != 0) = false := by rw [bne, h0]; rfl
        by_cases ho : a6 = own
        · rw [if_pos ho]
          have h2 : (a6 == own) = true := beq_iff_eq.2 ho
          exact down_mine addr port own prt V n c src frm s w (by omega) _ _ _ _ _ _ _ _ _ hp h0 h1 h2 (by rw [bne, h2]; rfl)
        · rw [if_neg ho]
          have h2 : (a6 == own) = false := beq_eq_false_iff_ne.2 ho
          exact down_foreign addr port own prt V n c src frm s w (by omega) _ _ _ _ _ _ _ _ _ hp h0 h1 h2 (by rw [bne, h2]; rfl)
      · rw [if_neg hu]
        have h0 : (u == 0) = false := beq_eq_false_iff_ne.2 hu
        exact down_bad addr port own prt V n c src frm s w (by omega) _ _ _ _ _ _ _ _ _ hp h0 (by rw [bne, h0]; rfl)
end Go.Proofs.Ytcpneggifmldoaa.T

/-
  vizardlaw22.TunnelBack, walked.
-/
import Derived.Test.YtcpneggifmldoaaTunW
import Derived.Test.YtcpneggifmldoaaTx2
import Derived.Test.YtcpneggifmldoaaIpQ
set_option linter.unusedVariables false
set_option linter.unusedSimpArgs false
namespace Go.Proofs.Ytcpneggifmldoaa.T
open Go.RowKit Go.Proofs.YtcpneggifmldoaaW.PrintWords Go.Proofs.YtcpneggifmldoaaW.PrintLast Go.Proofs.YtcpneggifmldoaaW.PrintMore Go
attribute [local go_sem high] eqA58
theorem its_at (ip : Bool) (addr port own prt : Int) (A : Option Addr) (c : Nat) (l : List S40) (w : World) (hr : Kd.C k40 w A l.length l) (hc : l.length ≤ c) (hl : l.length < 2932031007402) :
    Calls Try.prog 16 #[.agg #[.bool ip, .int .u32 addr, .int .i64 port, .int .u32 own, .int .i64 prt, .slice A l.length c]] w fun e w' => ∃ A' c', e = .returned (.agg #[.bool ip, .int .u32 addr, .int .i64 port, .int .u32 own, .int .i64 prt, .slice A' l.length c']) ∧ Below w.heap.size w w' := by
  have h := vizardlaw22_its.calls ip addr port own prt A c l ip addr port own prt l w hr hc (by
    unfold vizardlaw22_its.f
    rw [Option.bind_some, if_pos (by simpa using hl), List.nil_append])
  refine h.mono ?_
  rintro e w' ⟨v, rfl, hR, hb⟩
  obtain ⟨A', c', rfl⟩ := Kd.R_slice hR
  exact ⟨A', c', rfl, hb⟩
set_option maxRecDepth 100000 in
set_option maxHeartbeats 2000000 in
theorem back_long (ip : Bool) (addr port own prt : Int) (A : Option Addr) (c : Nat) (l : List S40) (src frm : Int) (s : ByteArray) (w : World) (hr : Kd.C k40 w A l.length l) (hc : l.length ≤ c) (hl : l.length < 2932031007402) (hs : 1000 < s.size) (hD : downV ip addr port own src frm s = (⟨#[]⟩, 8)) :
    Calls Try.prog 9 #[.agg #[.bool ip, .int .u32 addr, .int .i64 port, .int .u32 own, .int .i64 prt, .slice A l.length c], .string s, .int .u32 src, .int .i64 frm] w fun e w' => e = .returned (.bool true) ∧ Below w.heap.size w w' := by
  have hu46 := Try.underlying46
  have hu44 := Try.underlying44
  have hu58 := Try.underlying58
  have I : Hid (∀ W, Below w.heap.size w W → Calls Try.prog 16 #[.agg #[.bool ip, .int .u32 addr, .int .i64 port, .int .u32 own, .int .i64 prt, .slice A l.length c]] W fun e w' => ∃ A' c', e = .returned (.agg #[.bool ip, .int .u32 addr, .int .i64 port, .int .u32 own, .int .i64 prt, .slice A' l.length c']) ∧ Below W.heap.size W w') := fun W hb => its_at ip addr port own prt A c l W (Kd.C_below hr hb) hc hl
  have D : Hid (∀ V n' c' W, Calls Try.prog 19 #[.agg #[.bool ip, .int .u32 addr, .int .i64 port, .int .u32 own, .int .i64 prt, .slice V n' c'], .int .u32 src, .int .i64 frm, .string s] W fun e w' => e = .returned (.tuple #[.string ⟨#[]⟩, .int .i64 8]) ∧ Below W.heap.size W w') := fun V n' c' W => by have h := down_calls ip addr port own prt V n' c' src frm s W; rw [hD] at h; exact h
  have Wk : Hid (∀ W, Calls Try.prog 23 #[] W fun e w' => e = .returned (.bool true) ∧ Below W.heap.size W w') := works_calls
  have Z0 : Hid (Below w.heap.size w (w.alloc (.cells #[.bool ip, .int .u32 addr, .int .i64 port, .int .u32 own, .int .i64 prt, .slice A l.length c] 46))) := (Below.refl _ w).alloc (Nat.le_refl _) _
  clear hr hc hl hD
  have d0 : decide (1000 < (s.size : Int)) = true := decide_eq_true (by omega)
  have d1 : decide (1000 < s.size) = true := decide_eq_true (by omega)
  clear hs
  go_enter Try.func9, Try.ntmps9
  go_wp2_with (first
    | (go_at_call 23; (with_reducible refine (Wk.out _).mono ?_); rintro e w1 ⟨rfl, hb⟩; have T1 : Hid _ := blk_below (blk_new w (.cells #[.bool ip, .int .u32 addr, .int .i64 port, .int .u32 own, .int .i64 prt, .slice A l.length c] 46)) hb; have Z1 : Hid (Below w.heap.size w w1) := Z0.out.trans (hb.mono Z0.out.size); clear hb)
    | (refine wpList_load_row rfl 46 _ rfl _ rfl 46 _ (0, 0) _ T1.out Try.underlying46 rfl (by kernel_rfl) ?_)
    | (go_at_call 16; (with_reducible refine (I.out _ Z1.out).mono ?_); rintro e w2 ⟨A', c', rfl, hb⟩; have T2 : Hid _ := blk_below T1.out hb; have Z2 : Hid (Below w.heap.size w w2) := Z1.out.trans (hb.mono Z1.out.size); clear hb)
    | (go_at_call 19; (with_reducible refine (D.out _ _ _ _).mono ?_); rintro e w3 ⟨rfl, hb⟩; have T3 : Hid _ := blk_below T2.out hb; have k0 : w3.cell? ⟨w.heap.size, 0, none⟩ = some (.bool ip) := (blk_cell T3.out 0).trans rfl; have k1 : w3.cell? ⟨w.heap.size, 1, none⟩ = some (.int .u32 addr) := (blk_cell T3.out 1).trans rfl; have k2 : w3.cell? ⟨w.heap.size, 2, none⟩ = some (.int .i64 port) := (blk_cell T3.out 2).trans rfl; have Z3 : Hid (Below w.heap.size w w3) := Z2.out.trans (hb.mono Z2.out.size); clear hb))
  go_ret
  exact ⟨rfl, Z3.out⟩
set_option maxRecDepth 100000 in
set_option maxHeartbeats 2000000 in
theorem back_hit (addr port own prt : Int) (A : Option Addr) (c : Nat) (l : List S40) (src frm : Int) (s : ByteArray) (w : World) (hr : Kd.C k40 w A l.length l) (hc : l.length ≤ c) (hl : l.length < 2932031007402) (hs : s.size ≤ 1000) (e1 : (src == addr) = true) (e2 : (frm == port) = true) (hD : downV false addr port own src frm s = (s, 0)) :
    Calls Try.prog 9 #[.agg #[.bool false, .int .u32 addr, .int .i64 port, .int .u32 own, .int .i64 prt, .slice A l.length c], .string s, .int .u32 src, .int .i64 frm] w fun e w' => e = .returned (.bool true) ∧ Below w.heap.size w w' := by
  have hu46 := Try.underlying46
  have hu44 := Try.underlying44
  have hu58 := Try.underlying58
  have I : Hid (∀ W, Below w.heap.size w W → Calls Try.prog 16 #[.agg #[.bool false, .int .u32 addr, .int .i64 port, .int .u32 own, .int .i64 prt, .slice A l.length c]] W fun e w' => ∃ A' c', e = .returned (.agg #[.bool false, .int .u32 addr, .int .i64 port, .int .u32 own, .int .i64 prt, .slice A' l.length c']) ∧ Below W.heap.size W w') := fun W hb => its_at false addr port own prt A c l W (Kd.C_below hr hb) hc hl
  have D : Hid (∀ V n' c' W, Calls Try.prog 19 #[.agg #[.bool false, .int .u32 addr, .int .i64 port, .int .u32 own, .int .i64 prt, .slice V n' c'], .int .u32 src, .int .i64 frm, .string s] W fun e w' => e = .returned (.tuple #[.string s, .int .i64 0]) ∧ Below W.heap.size W w') := fun V n' c' W => by have h := down_calls false addr port own prt V n' c' src frm s W; rw [hD] at h; exact h
  have Wk : Hid (∀ W, Calls Try.prog 23 #[] W fun e w' => e = .returned (.bool true) ∧ Below W.heap.size W w') := works_calls
  have Z0 : Hid (Below w.heap.size w (w.alloc (.cells #[.bool false, .int .u32 addr, .int .i64 port, .int .u32 own, .int .i64 prt, .slice A l.length c] 46))) := (Below.refl _ w).alloc (Nat.le_refl _) _
  clear hr hc hl hD
  have d0 : decide (1000 < (s.size : Int)) = false := decide_eq_false (by omega)
  have d1 : decide (1000 < s.size) = false := decide_eq_false (by omega)
  clear hs
  go_enter Try.func9, Try.ntmps9
  go_wp2_with (first
    | (go_at_call 23; (with_reducible refine (Wk.out _).mono ?_); rintro e w1 ⟨rfl, hb⟩; have T1 : Hid _ := blk_below (blk_new w (.cells #[.bool false, .int .u32 addr, .int .i64 port, .int .u32 own, .int .i64 prt, .slice A l.length c] 46)) hb; have Z1 : Hid (Below w.heap.size w w1) := Z0.out.trans (hb.mono Z0.out.size); clear hb)
    | (refine wpList_load_row rfl 46 _ rfl _ rfl 46 _ (0, 0) _ T1.out Try.underlying46 rfl (by kernel_rfl) ?_)
    | (go_at_call 16; (with_reducible refine (I.out _ Z1.out).mono ?_); rintro e w2 ⟨A', c', rfl, hb⟩; have T2 : Hid _ := blk_below T1.out hb; have Z2 : Hid (Below w.heap.size w w2) := Z1.out.trans (hb.mono Z1.out.size); clear hb)
    | (go_at_call 19; (with_reducible refine (D.out _ _ _ _).mono ?_); rintro e w3 ⟨rfl, hb⟩; have T3 : Hid _ := blk_below T2.out hb; have k0 : w3.cell? ⟨w.heap.size, 0, none⟩ = some (.bool false) := (blk_cell T3.out 0).trans rfl; have k1 : w3.cell? ⟨w.heap.size, 1, none⟩ = some (.int .u32 addr) := (blk_cell T3.out 1).trans rfl; have k2 : w3.cell? ⟨w.heap.size, 2, none⟩ = some (.int .i64 port) := (blk_cell T3.out 2).trans rfl; have Z3 : Hid (Below w.heap.size w w3) := Z2.out.trans (hb.mono Z2.out.size); clear hb))
  go_ret
  exact ⟨rfl, Z3.out⟩
set_option maxRecDepth 100000 in
set_option maxHeartbeats 2000000 in
theorem back_miss (addr port own prt : Int) (A : Option Addr) (c : Nat) (l : List S40) (src frm : Int) (s : ByteArray) (w : World) (hr : Kd.C k40 w A l.length l) (hc : l.length ≤ c) (hl : l.length < 2932031007402) (hs : s.size ≤ 1000) (e1 : (src == addr) = false) (hD : downV false addr port own src frm s = (⟨#[]⟩, 15)) :
    Calls Try.prog 9 #[.agg #[.bool false, .int .u32 addr, .int .i64 port, .int .u32 own, .int .i64 prt, .slice A l.length c], .string s, .int .u32 src, .int .i64 frm] w fun e w' => e = .returned (.bool true) ∧ Below w.heap.size w w' := by
  have hu46 := Try.underlying46
  have hu44 := Try.underlying44
  have hu58 := Try.underlying58
  have I : Hid (∀ W, Below w.heap.size w W → Calls Try.prog 16 #[.agg #[.bool false, .int .u32 addr, .int .i64 port, .int .u32 own, .int .i64 prt, .slice A l.length c]] W fun e w' => ∃ A' c', e = .returned (.agg #[.bool false, .int .u32 addr, .int .i64 port, .int .u32 own, .int .i64 prt, .slice A' l.length c']) ∧ Below W.heap.size W w') := fun W hb => its_at false addr port own prt A c l W (Kd.C_below hr hb) hc hl
  have D : Hid (∀ V n' c' W, Calls Try.prog 19 #[.agg #[.bool false, .int .u32 addr, .int .i64 port, .int .u32 own, .int .i64 prt, .slice V n' c'], .int .u32 src, .int .i64 frm, .string s] W fun e w' => e = .returned (.tuple #[.string ⟨#[]⟩, .int .i64 15]) ∧ Below W.heap.size W w') := fun V n' c' W => by have h := down_calls false addr port own prt V n' c' src frm s W; rw [hD] at h; exact h
  have Wk : Hid (∀ W, Calls Try.prog 23 #[] W fun e w' => e = .returned (.bool true) ∧ Below W.heap.size W w') := works_calls
  have Z0 : Hid (Below w.heap.size w (w.alloc (.cells #[.bool false, .int .u32 addr, .int .i64 port, .int .u32 own, .int .i64 prt, .slice A l.length c] 46))) := (Below.refl _ w).alloc (Nat.le_refl _) _
  clear hr hc hl hD
  have d0 : decide (1000 < (s.size : Int)) = false := decide_eq_false (by omega)
  have d1 : decide (1000 < s.size) = false := decide_eq_false (by omega)
  clear hs
  go_enter Try.func9, Try.ntmps9
  go_wp2_with (first
    | (go_at_call 23; (with_reducible refine (Wk.out _).mono ?_); rintro e w1 ⟨rfl, hb⟩; have T1 : Hid _ := blk_below (blk_new w (.cells #[.bool false, .int .u32 addr, .int .i64 port, .int .u32 own, .int .i64 prt, .slice A l.length c] 46)) hb; have Z1 : Hid (Below w.heap.size w w1) := Z0.out.trans (hb.mono Z0.out.size); clear hb)
    | (refine wpList_load_row rfl 46 _ rfl _ rfl 46 _ (0, 0) _ T1.out Try.underlying46 rfl (by kernel_rfl) ?_)
    | (go_at_call 16; (with_reducible refine (I.out _ Z1.out).mono ?_); rintro e w2 ⟨A', c', rfl, hb⟩; have T2 : Hid _ := blk_below T1.out hb; have Z2 : Hid (Below w.heap.size w w2) := Z1.out.trans (hb.mono Z1.out.size); clear hb)
    | (go_at_call 19; (with_reducible refine (D.out _ _ _ _).mono ?_); rintro e w3 ⟨rfl, hb⟩; have T3 : Hid _ := blk_below T2.out hb; have k0 : w3.cell? ⟨w.heap.size, 0, none⟩ = some (.bool false) := (blk_cell T3.out 0).trans rfl; have k1 : w3.cell? ⟨w.heap.size, 1, none⟩ = some (.int .u32 addr) := (blk_cell T3.out 1).trans rfl; have k2 : w3.cell? ⟨w.heap.size, 2, none⟩ = some (.int .i64 port) := (blk_cell T3.out 2).trans rfl; have Z3 : Hid (Below w.heap.size w w3) := Z2.out.trans (hb.mono Z2.out.size); clear hb))
  go_ret
  exact ⟨rfl, Z3.out⟩
set_option maxRecDepth 100000 in
set_option maxHeartbeats 2000000 in
theorem back_port (addr port own prt : Int) (A : Option Addr) (c : Nat) (l : List S40) (src frm : Int) (s : ByteArray) (w : World) (hr : Kd.C k40 w A l.length l) (hc : l.length ≤ c) (hl : l.length < 2932031007402) (hs : s.size ≤ 1000) (e1 : (src == addr) = true) (e2 : (frm == port) = false) (hD : downV false addr port own src frm s = (⟨#[]⟩, 15)) :
    Calls Try.prog 9 #[.agg #[.bool false, .int .u32 addr, .int .i64 port, .int .u32 own, .int .i64 prt, .slice A l.length c], .string s, .int .u32 src, .int .i64 frm] w fun e w' => e = .returned (.bool true) ∧ Below w.heap.size w w' := by
  have hu46 := Try.underlying46
  have hu44 := Try.underlying44
  have hu58 := Try.underlying58
  have I : Hid (∀ W, Below w.heap.size w W → Calls Try.prog 16 #[.agg #[.bool false, .int .u32 addr, .int .i64 port, .int .u32 own, .int .i64 prt, .slice A l.length c]] W fun e w' => ∃ A' c', e = .returned (.agg #[.bool false, .int .u32 addr, .int .i64 port, .int .u32 own, .int .i64 prt, .slice A' l.length c']) ∧ Below W.heap.size W w') := fun W hb => its_at false addr port own prt A c l W (Kd.C_below hr hb) hc hl
  have D : Hid (∀ V n' c' W, Calls Try.prog 19 #[.agg #[.bool false, .int .u32 addr, .int .i64 port, .int .u32 own, .int .i64 prt, .slice V n' c'], .int .u32 src, .int .i64 frm, .string s] W fun e w' => e = .returned (.tuple #[.string ⟨#[]⟩, .int .i64 15]) ∧ Below W.heap.size W w') := fun V n' c' W => by have h := down_calls false addr port own prt V n' c' src frm s W; rw [hD] at h; exact h
  have Wk : Hid (∀ W, Calls Try.prog 23 #[] W fun e w' => e = .returned (.bool true) ∧ Below W.heap.size W w') := works_calls
  have Z0 : Hid (Below w.heap.size w (w.alloc (.cells #[.bool false, .int .u32 addr, .int .i64 port, .int .u32 own, .int .i64 prt, .slice A l.length c] 46))) := (Below.refl _ w).alloc (Nat.le_refl _) _
  clear hr hc hl hD
  have d0 : decide (1000 < (s.size : Int)) = false := decide_eq_false (by omega)
  have d1 : decide (1000 < s.size) = false := decide_eq_false (by omega)
  clear hs
  go_enter Try.func9, Try.ntmps9
  go_wp2_with (first
    | (go_at_call 23; (with_reducible refine (Wk.out _).mono ?_); rintro e w1 ⟨rfl, hb⟩; have T1 : Hid _ := blk_below (blk_new w (.cells #[.bool false, .int .u32 addr, .int .i64 port, .int .u32 own, .int .i64 prt, .slice A l.length c] 46)) hb; have Z1 : Hid (Below w.heap.size w w1) := Z0.out.trans (hb.mono Z0.out.size); clear hb)
    | (refine wpList_load_row rfl 46 _ rfl _ rfl 46 _ (0, 0) _ T1.out Try.underlying46 rfl (by kernel_rfl) ?_)
    | (go_at_call 16; (with_reducible refine (I.out _ Z1.out).mono ?_); rintro e w2 ⟨A', c', rfl, hb⟩; have T2 : Hid _ := blk_below T1.out hb; have Z2 : Hid (Below w.heap.size w w2) := Z1.out.trans (hb.mono Z1.out.size); clear hb)
    | (go_at_call 19; (with_reducible refine (D.out _ _ _ _).mono ?_); rintro e w3 ⟨rfl, hb⟩; have T3 : Hid _ := blk_below T2.out hb; have k0 : w3.cell? ⟨w.heap.size, 0, none⟩ = some (.bool false) := (blk_cell T3.out 0).trans rfl; have k1 : w3.cell? ⟨w.heap.size, 1, none⟩ = some (.int .u32 addr) := (blk_cell T3.out 1).trans rfl; have k2 : w3.cell? ⟨w.heap.size, 2, none⟩ = some (.int .i64 port) := (blk_cell T3.out 2).trans rfl; have Z3 : Hid (Below w.heap.size w w3) := Z2.out.trans (hb.mono Z2.out.size); clear hb))
  go_ret
  exact ⟨rfl, Z3.out⟩
set_option maxRecDepth 100000 in
set_option maxHeartbeats 2000000 in
theorem back_bad (addr port own prt : Int) (A : Option Addr) (c : Nat) (l : List S40) (src frm : Int) (s : ByteArray) (w : World) (hr : Kd.C k40 w A l.length l) (hc : l.length ≤ c) (hl : l.length < 2932031007402) (hs : s.size ≤ 1000) (a0 a1 a2 a3 a4 a5 a6 u : Int) (d : ByteArray) (hp : parseV s = (a0, a1, a2, a3, a4, a5, a6, d, u)) (h0 : (u == 0) = false) (h1 : (u != 0) = true) (hD : downV true addr port own src frm s = (⟨#[]⟩, u)) :
    Calls Try.prog 9 #[.agg #[.bool true, .int .u32 addr, .int .i64 port, .int .u32 own, .int .i64 prt, .slice A l.length c], .string s, .int .u32 src, .int .i64 frm] w fun e w' => e = .returned (.bool true) ∧ Below w.heap.size w w' := by
  have hu46 := Try.underlying46
  have hu44 := Try.underlying44
  have hu58 := Try.underlying58
  have I : Hid (∀ W, Below w.heap.size w W → Calls Try.prog 16 #[.agg #[.bool true, .int .u32 addr, .int .i64 port, .int .u32 own, .int .i64 prt, .slice A l.length c]] W fun e w' => ∃ A' c', e = .returned (.agg #[.bool true, .int .u32 addr, .int .i64 port, .int .u32 own, .int .i64 prt, .slice A' l.length c']) ∧ Below W.heap.size W w') := fun W hb => its_at true addr port own prt A c l W (Kd.C_below hr hb) hc hl
  have D : Hid (∀ V n' c' W, Calls Try.prog 19 #[.agg #[.bool true, .int .u32 addr, .int .i64 port, .int .u32 own, .int .i64 prt, .slice V n' c'], .int .u32 src, .int .i64 frm, .string s] W fun e w' => e = .returned (.tuple #[.string ⟨#[]⟩, .int .i64 u]) ∧ Below W.heap.size W w') := fun V n' c' W => by have h := down_calls true addr port own prt V n' c' src frm s W; rw [hD] at h; exact h
  have Wk : Hid (∀ W, Calls Try.prog 23 #[] W fun e w' => e = .returned (.bool true) ∧ Below W.heap.size W w') := works_calls
  have Z0 : Hid (Below w.heap.size w (w.alloc (.cells #[.bool true, .int .u32 addr, .int .i64 port, .int .u32 own, .int .i64 prt, .slice A l.length c] 46))) := (Below.refl _ w).alloc (Nat.le_refl _) _
  clear hr hc hl hD
  have d0 : decide (1000 < (s.size : Int)) = false := decide_eq_false (by omega)
  have d1 : decide (1000 < s.size) = false := decide_eq_false (by omega)
  clear hs
  have P : Hid (∀ W, Calls Try.prog 25 #[.string s] W fun e w' => e = .returned (.tuple #[.agg #[.int .i64 a0, .int .i64 a1, .int .i64 a2, .int .i64 a3, .int .i64 a4, .int .u32 a5, .int .u32 a6, .string d], .int .i64 u]) ∧ Below W.heap.size W w') := fun W => by have := parse25_calls s W; rw [hp] at this; exact this
  clear hp
  go_enter Try.func9, Try.ntmps9
  go_wp2_with (first
    | (go_at_call 23; (with_reducible refine (Wk.out _).mono ?_); rintro e w1 ⟨rfl, hb⟩; have T1 : Hid _ := blk_below (blk_new w (.cells #[.bool true, .int .u32 addr, .int .i64 port, .int .u32 own, .int .i64 prt, .slice A l.length c] 46)) hb; have Z1 : Hid (Below w.heap.size w w1) := Z0.out.trans (hb.mono Z0.out.size); clear hb)
    | (refine wpList_load_row rfl 46 _ rfl _ rfl 46 _ (0, 0) _ T1.out Try.underlying46 rfl (by kernel_rfl) ?_)
    | (go_at_call 16; (with_reducible refine (I.out _ Z1.out).mono ?_); rintro e w2 ⟨A', c', rfl, hb⟩; have T2 : Hid _ := blk_below T1.out hb; have Z2 : Hid (Below w.heap.size w w2) := Z1.out.trans (hb.mono Z1.out.size); clear hb)
    | (go_at_call 19; (with_reducible refine (D.out _ _ _ _).mono ?_); rintro e w3 ⟨rfl, hb⟩; have T3 : Hid _ := blk_below T2.out hb; have k0 : w3.cell? ⟨w.heap.size, 0, none⟩ = some (.bool true) := (blk_cell T3.out 0).trans rfl; have k1 : w3.cell? ⟨w.heap.size, 1, none⟩ = some (.int .u32 addr) := (blk_cell T3.out 1).trans rfl; have k2 : w3.cell? ⟨w.heap.size, 2, none⟩ = some (.int .i64 port) := (blk_cell T3.out 2).trans rfl; have Z3 : Hid (Below w.heap.size w w3) := Z2.out.trans (hb.mono Z2.out.size); clear hb)
    | (go_at_call 25; (with_reducible refine (P.out _).mono ?_); rintro e w4 ⟨rfl, hb⟩; have T4 : Hid _ := blk_below T3.out hb; have k3 : w4.cell? ⟨w.heap.size, 3, none⟩ = some (.int .u32 own) := (blk_cell T4.out 3).trans rfl; have kz : w.heap.size < w4.heap.size := blk_lt T4.out; have Z4 : Hid (Below w.heap.size w w4) := Z3.out.trans (hb.mono Z3.out.size); clear hb)
    | (refine wpList_store_row rfl 58 _ _ rfl _ _ rfl rfl 58 _ (blk_new _ _) (by kernel_rfl) rfl (by simp [Value.oneCell']) ?_; rw [World.setRow_alloc_new]))
  go_ret
  exact ⟨rfl, Z4.out.alloc Z4.out.size _⟩
set_option maxRecDepth 100000 in
set_option maxHeartbeats 2000000 in
theorem back_foreign (addr port own prt : Int) (A : Option Addr) (c : Nat) (l : List S40) (src frm : Int) (s : ByteArray) (w : World) (hr : Kd.C k40 w A l.length l) (hc : l.length ≤ c) (hl : l.length < 2932031007402) (hs : s.size ≤ 1000) (a0 a1 a2 a3 a4 a5 a6 : Int) (d : ByteArray) (hp : parseV s = (a0, a1, a2, a3, a4, a5, a6, d, 0)) (h3 : (a6 != own) = true) (hD : downV true addr port own src frm s = (⟨#[]⟩, 15)) :
    Calls Try.prog 9 #[.agg #[.bool true, .int .u32 addr, .int .i64 port, .int .u32 own, .int .i64 prt, .slice A l.length c], .string s, .int .u32 src, .int .i64 frm] w fun e w' => e = .returned (.bool true) ∧ Below w.heap.size w w' := by
  have hu46 := Try.underlying46
  have hu44 := Try.underlying44
  have hu58 := Try.underlying58
  have I : Hid (∀ W, Below w.heap.size w W → Calls Try.prog 16 #[.agg #[.bool true, .int .u32 addr, .int .i64 port, .int .u32 own, .int .i64 prt, .slice A l.length c]] W fun e w' => ∃ A' c', e = .returned (.agg #[.bool true, .int .u32 addr, .int .i64 port, .int .u32 own, .int .i64 prt, .slice A' l.length c']) ∧ Below W.heap.size W w') := fun W hb => its_at true addr port own prt A c l W (Kd.C_below hr hb) hc hl
  have D : Hid (∀ V n' c' W, Calls Try.prog 19 #[.agg #[.bool true, .int .u32 addr, .int .i64 port, .int .u32 own, .int .i64 prt, .slice V n' c'], .int .u32 src, .int .i64 frm, .string s] W fun e w' => e = .returned (.tuple #[.string ⟨#[]⟩, .int .i64 15]) ∧ Below W.heap.size W w') := fun V n' c' W => by have h := down_calls true addr port own prt V n' c' src frm s W; rw [hD] at h; exact h
  have Wk : Hid (∀ W, Calls Try.prog 23 #[] W fun e w' => e = .returned (.bool true) ∧ Below W.heap.size W w') := works_calls
  have Z0 : Hid (Below w.heap.size w (w.alloc (.cells #[.bool true, .int .u32 addr, .int .i64 port, .int .u32 own, .int .i64 prt, .slice A l.length c] 46))) := (Below.refl _ w).alloc (Nat.le_refl _) _
  clear hr hc hl hD
  have d0 : decide (1000 < (s.size : Int)) = false := decide_eq_false (by omega)
  have d1 : decide (1000 < s.size) = false := decide_eq_false (by omega)
  clear hs
  have P : Hid (∀ W, Calls Try.prog 25 #[.string s] W fun e w' => e = .returned (.tuple #[.agg #[.int .i64 a0, .int .i64 a1, .int .i64 a2, .int .i64 a3, .int .i64 a4, .int .u32 a5, .int .u32 a6, .string d], .int .i64 0]) ∧ Below W.heap.size W w') := fun W => by have := parse25_calls s W; rw [hp] at this; exact this
  clear hp
  go_enter Try.func9, Try.ntmps9
  go_wp2_with (first
    | (go_at_call 23; (with_reducible refine (Wk.out _).mono ?_); rintro e w1 ⟨rfl, hb⟩; have T1 : Hid _ := blk_below (blk_new w (.cells #[.bool true, .int .u32 addr, .int .i64 port, .int .u32 own, .int .i64 prt, .slice A l.length c] 46)) hb; have Z1 : Hid (Below w.heap.size w w1) := Z0.out.trans (hb.mono Z0.out.size); clear hb)
    | (refine wpList_load_row rfl 46 _ rfl _ rfl 46 _ (0, 0) _ T1.out Try.underlying46 rfl (by kernel_rfl) ?_)
    | (go_at_call 16; (with_reducible refine (I.out _ Z1.out).mono ?_); rintro e w2 ⟨A', c', rfl, hb⟩; have T2 : Hid _ := blk_below T1.out hb; have Z2 : Hid (Below w.heap.size w w2) := Z1.out.trans (hb.mono Z1.out.size); clear hb)
    | (go_at_call 19; (with_reducible refine (D.out _ _ _ _).mono ?_); rintro e w3 ⟨rfl, hb⟩; have T3 : Hid _ := blk_below T2.out hb; have k0 : w3.cell? ⟨w.heap.size, 0, none⟩ = some (.bool true) := (blk_cell T3.out 0).trans rfl; have k1 : w3.cell? ⟨w.heap.size, 1, none⟩ = some (.int .u32 addr) := (blk_cell T3.out 1).trans rfl; have k2 : w3.cell? ⟨w.heap.size, 2, none⟩ = some (.int .i64 port) := (blk_cell T3.out 2).trans rfl; have Z3 : Hid (Below w.heap.size w w3) := Z2.out.trans (hb.mono Z2.out.size); clear hb)
    | (go_at_call 25; (with_reducible refine (P.out _).mono ?_); rintro e w4 ⟨rfl, hb⟩; have T4 : Hid _ := blk_below T3.out hb; have k3 : w4.cell? ⟨w.heap.size, 3, none⟩ = some (.int .u32 own) := (blk_cell T4.out 3).trans rfl; have kz : w.heap.size < w4.heap.size := blk_lt T4.out; have Z4 : Hid (Below w.heap.size w w4) := Z3.out.trans (hb.mono Z3.out.size); clear hb)
    | (refine wpList_store_row rfl 58 _ _ rfl _ _ rfl rfl 58 _ (blk_new _ _) (by kernel_rfl) rfl (by simp [Value.oneCell']) ?_; rw [World.setRow_alloc_new]))
  go_ret
  exact ⟨rfl, Z4.out.alloc Z4.out.size _⟩
set_option maxRecDepth 100000 in
set_option maxHeartbeats 2000000 in
theorem back_dead (addr port own prt : Int) (A : Option Addr) (c : Nat) (l : List S40) (src frm : Int) (s : ByteArray) (w : World) (hr : Kd.C k40 w A l.length l) (hc : l.length ≤ c) (hl : l.length < 2932031007402) (hs : s.size ≤ 1000) (a0 a1 a2 a3 a4 a5 a6 : Int) (d : ByteArray) (hp : parseV s = (a0, a1, a2, a3, a4, a5, a6, d, 0)) (h3 : (a6 != own) = false) (h4 : decide (a3 < 2) = true) (hD : downV true addr port own src frm s = (⟨#[]⟩, 2)) :
    Calls Try.prog 9 #[.agg #[.bool true, .int .u32 addr, .int .i64 port, .int .u32 own, .int .i64 prt, .slice A l.length c], .string s, .int .u32 src, .int .i64 frm] w fun e w' => e = .returned (.bool true) ∧ Below w.heap.size w w' := by
  have hu46 := Try.underlying46
  have hu44 := Try.underlying44
  have hu58 := Try.underlying58
  have I : Hid (∀ W, Below w.heap.size w W → Calls Try.prog 16 #[.agg #[.bool true, .int .u32 addr, .int .i64 port, .int .u32 own, .int .i64 prt, .slice A l.length c]] W fun e w' => ∃ A' c', e = .returned (.agg #[.bool true, .int .u32 addr, .int .i64 port, .int .u32 own, .int .i64 prt, .slice A' l.length c']) ∧ Below W.heap.size W w') := fun W hb => its_at true addr port own prt A c l W (Kd.C_below hr hb) hc hl
  have D : Hid (∀ V n' c' W, Calls Try.prog 19 #[.agg #[.bool true, .int .u32 addr, .int .i64 port, .int .u32 own, .int .i64 prt, .slice V n' c'], .int .u32 src, .int .i64 frm, .string s] W fun e w' => e = .returned (.tuple #[.string ⟨#[]⟩, .int .i64 2]) ∧ Below W.heap.size W w') := fun V n' c' W => by have h := down_calls true addr port own prt V n' c' src frm s W; rw [hD] at h; exact h
  have Wk : Hid (∀ W, Calls Try.prog 23 #[] W fun e w' => e = .returned (.bool true) ∧ Below W.heap.size W w') := works_calls
  have Z0 : Hid (Below w.heap.size w (w.alloc (.cells #[.bool true, .int .u32 addr, .int .i64 port, .int .u32 own, .int .i64 prt, .slice A l.length c] 46))) := (Below.refl _ w).alloc (Nat.le_refl _) _
  clear hr hc hl hD
  have d0 : decide (1000 < (s.size : Int)) = false := decide_eq_false (by omega)
  have d1 : decide (1000 < s.size) = false := decide_eq_false (by omega)
  clear hs
  have P : Hid (∀ W, Calls Try.prog 25 #[.string s] W fun e w' => e = .returned (.tuple #[.agg #[.int .i64 a0, .int .i64 a1, .int .i64 a2, .int .i64 a3, .int .i64 a4, .int .u32 a5, .int .u32 a6, .string d], .int .i64 0]) ∧ Below W.heap.size W w') := fun W => by have := parse25_calls s W; rw [hp] at this; exact this
  clear hp
  go_enter Try.func9, Try.ntmps9
  go_wp2_with (first
    | (go_at_call 23; (with_reducible refine (Wk.out _).mono ?_); rintro e w1 ⟨rfl, hb⟩; have T1 : Hid _ := blk_below (blk_new w (.cells #[.bool true, .int .u32 addr, .int .i64 port, .int .u32 own, .int .i64 prt, .slice A l.length c] 46)) hb; have Z1 : Hid (Below w.heap.size w w1) := Z0.out.trans (hb.mono Z0.out.size); clear hb)
    | (refine wpList_load_row rfl 46 _ rfl _ rfl 46 _ (0, 0) _ T1.out Try.underlying46 rfl (by kernel_rfl) ?_)
    | (go_at_call 16; (with_reducible refine (I.out _ Z1.out).mono ?_); rintro e w2 ⟨A', c', rfl, hb⟩; have T2 : Hid _ := blk_below T1.out hb; have Z2 : Hid (Below w.heap.size w w2) := Z1.out.trans (hb.mono Z1.out.size); clear hb)
    | (go_at_call 19; (with_reducible refine (D.out _ _ _ _).mono ?_); rintro e w3 ⟨rfl, hb⟩; have T3 : Hid _ := blk_below T2.out hb; have k0 : w3.cell? ⟨w.heap.size, 0, none⟩ = some (.bool true) := (blk_cell T3.out 0).trans rfl; have k1 : w3.cell? ⟨w.heap.size, 1, none⟩ = some (.int .u32 addr) := (blk_cell T3.out 1).trans rfl; have k2 : w3.cell? ⟨w.heap.size, 2, none⟩ = some (.int .i64 port) := (blk_cell T3.out 2).trans rfl; have Z3 : Hid (Below w.heap.size w w3) := Z2.out.trans (hb.mono Z2.out.size); clear hb)
    | (go_at_call 25; (with_reducible refine (P.out _).mono ?_); rintro e w4 ⟨rfl, hb⟩; have T4 : Hid _ := blk_below T3.out hb; have k3 : w4.cell? ⟨w.heap.size, 3, none⟩ = some (.int .u32 own) := (blk_cell T4.out 3).trans rfl; have kz : w.heap.size < w4.heap.size := blk_lt T4.out; have Z4 : Hid (Below w.heap.size w w4) := Z3.out.trans (hb.mono Z3.out.size); clear hb)
    | (refine wpList_store_row rfl 58 _ _ rfl _ _ rfl rfl 58 _ (blk_new _ _) (by kernel_rfl) rfl (by simp [Value.oneCell']) ?_; rw [World.setRow_alloc_new]))
  go_ret
  exact ⟨rfl, Z4.out.alloc Z4.out.size _⟩
set_option maxRecDepth 100000 in
set_option maxHeartbeats 2000000 in
theorem back_live (addr port own prt : Int) (A : Option Addr) (c : Nat) (l : List S40) (src frm : Int) (s : ByteArray) (w : World) (hr : Kd.C k40 w A l.length l) (hc : l.length ≤ c) (hl : l.length < 2932031007402) (hs : s.size ≤ 1000) (a0 a1 a2 a3 a4 a5 a6 : Int) (d : ByteArray) (hp : parseV s = (a0, a1, a2, a3, a4, a5, a6, d, 0)) (h3 : (a6 != own) = false) (h4 : decide (a3 < 2) = false) (x : Int) (hx : wrap64 (a3 - 1) = x) (T : ByteArray) (hT : parseV T = (a0, a1, a2, x, a4, a5, a6, d, 0)) (hD : downV true addr port own src frm s = (T, 0)) :
    Calls Try.prog 9 #[.agg #[.bool true, .int .u32 addr, .int .i64 port, .int .u32 own, .int .i64 prt, .slice A l.length c], .string s, .int .u32 src, .int .i64 frm] w fun e w' => e = .returned (.bool true) ∧ Below w.heap.size w w' := by
  have hu46 := Try.underlying46
  have hu44 := Try.underlying44
  have hu58 := Try.underlying58
  have I : Hid (∀ W, Below w.heap.size w W → Calls Try.prog 16 #[.agg #[.bool true, .int .u32 addr, .int .i64 port, .int .u32 own, .int .i64 prt, .slice A l.length c]] W fun e w' => ∃ A' c', e = .returned (.agg #[.bool true, .int .u32 addr, .int .i64 port, .int .u32 own, .int .i64 prt, .slice A' l.length c']) ∧ Below W.heap.size W w') := fun W hb => its_at true addr port own prt A c l W (Kd.C_below hr hb) hc hl
  have D : Hid (∀ V n' c' W, Calls Try.prog 19 #[.agg #[.bool true, .int .u32 addr, .int .i64 port, .int .u32 own, .int .i64 prt, .slice V n' c'], .int .u32 src, .int .i64 frm, .string s] W fun e w' => e = .returned (.tuple #[.string T, .int .i64 0]) ∧ Below W.heap.size W w') := fun V n' c' W => by have h := down_calls true addr port own prt V n' c' src frm s W; rw [hD] at h; exact h
  have Wk : Hid (∀ W, Calls Try.prog 23 #[] W fun e w' => e = .returned (.bool true) ∧ Below W.heap.size W w') := works_calls
  have Z0 : Hid (Below w.heap.size w (w.alloc (.cells #[.bool true, .int .u32 addr, .int .i64 port, .int .u32 own, .int .i64 prt, .slice A l.length c] 46))) := (Below.refl _ w).alloc (Nat.le_refl _) _
  clear hr hc hl hD
  have d0 : decide (1000 < (s.size : Int)) = false := decide_eq_false (by omega)
  have d1 : decide (1000 < s.size) = false := decide_eq_false (by omega)
  clear hs
  have P : Hid (∀ W, Calls Try.prog 25 #[.string s] W fun e w' => e = .returned (.tuple #[.agg #[.int .i64 a0, .int .i64 a1, .int .i64 a2, .int .i64 a3, .int .i64 a4, .int .u32 a5, .int .u32 a6, .string d], .int .i64 0]) ∧ Below W.heap.size W w') := fun W => by have := parse25_calls s W; rw [hp] at this; exact this
  clear hp
  have Q : Hid (∀ W, Calls Try.prog 25 #[.string T] W fun e w' => e = .returned (.tuple #[.agg #[.int .i64 a0, .int .i64 a1, .int .i64 a2, .int .i64 x, .int .i64 a4, .int .u32 a5, .int .u32 a6, .string d], .int .i64 0]) ∧ Below W.heap.size W w') := fun W => by have := parse25_calls T W; rw [hT] at this; exact this
  clear hT
  go_enter Try.func9, Try.ntmps9
  go_wp2_with (first
    | (go_at_call 23; (with_reducible refine (Wk.out _).mono ?_); rintro e w1 ⟨rfl, hb⟩; have T1 : Hid _ := blk_below (blk_new w (.cells #[.bool true, .int .u32 addr, .int .i64 port, .int .u32 own, .int .i64 prt, .slice A l.length c] 46)) hb; have Z1 : Hid (Below w.heap.size w w1) := Z0.out.trans (hb.mono Z0.out.size); clear hb)
    | (refine wpList_load_row rfl 46 _ rfl _ rfl 46 _ (0, 0) _ T1.out Try.underlying46 rfl (by kernel_rfl) ?_)
    | (go_at_call 16; (with_reducible refine (I.out _ Z1.out).mono ?_); rintro e w2 ⟨A', c', rfl, hb⟩; have T2 : Hid _ := blk_below T1.out hb; have Z2 : Hid (Below w.heap.size w w2) := Z1.out.trans (hb.mono Z1.out.size); clear hb)
    | (go_at_call 19; (with_reducible refine (D.out _ _ _ _).mono ?_); rintro e w3 ⟨rfl, hb⟩; have T3 : Hid _ := blk_below T2.out hb; have k0 : w3.cell? ⟨w.heap.size, 0, none⟩ = some (.bool true) := (blk_cell T3.out 0).trans rfl; have k1 : w3.cell? ⟨w.heap.size, 1, none⟩ = some (.int .u32 addr) := (blk_cell T3.out 1).trans rfl; have k2 : w3.cell? ⟨w.heap.size, 2, none⟩ = some (.int .i64 port) := (blk_cell T3.out 2).trans rfl; have Z3 : Hid (Below w.heap.size w w3) := Z2.out.trans (hb.mono Z2.out.size); clear hb)
    | (go_at_call 25; (with_reducible refine (P.out _).mono ?_); rintro e w4 ⟨rfl, hb⟩; have T4 : Hid _ := blk_below T3.out hb; have k3 : w4.cell? ⟨w.heap.size, 3, none⟩ = some (.int .u32 own) := (blk_cell T4.out 3).trans rfl; have kz : w.heap.size < w4.heap.size := blk_lt T4.out; have Z4 : Hid (Below w.heap.size w w4) := Z3.out.trans (hb.mono Z3.out.size); clear hb)
    | (refine wpList_store_row rfl 58 _ _ rfl _ _ rfl rfl 58 _ (blk_new _ _) (by kernel_rfl) rfl (by simp [Value.oneCell']) ?_; rw [World.setRow_alloc_new])
    | (go_at_call 25; (with_reducible refine (Q.out _).mono ?_); rintro e w5 ⟨rfl, hb⟩; have Bx := blk_below (blk_new w4 (.cells #[.int .i64 a0, .int .i64 a1, .int .i64 a2, .int .i64 a3, .int .i64 a4, .int .u32 a5, .int .u32 a6, .string d] 58)) hb; have hz := blk_lt Bx; have c3 : w5.cell? ⟨w4.heap.size, 3, none⟩ = some (.int .i64 a3) := (blk_cell Bx 3).trans rfl; have c0 : w5.cell? ⟨w4.heap.size, 0, none⟩ = some (.int .i64 a0) := (blk_cell Bx 0).trans rfl; have c1 : w5.cell? ⟨w4.heap.size, 1, none⟩ = some (.int .i64 a1) := (blk_cell Bx 1).trans rfl; have c2 : w5.cell? ⟨w4.heap.size, 2, none⟩ = some (.int .i64 a2) := (blk_cell Bx 2).trans rfl; have c4 : w5.cell? ⟨w4.heap.size, 4, none⟩ = some (.int .i64 a4) := (blk_cell Bx 4).trans rfl; have c5 : w5.cell? ⟨w4.heap.size, 5, none⟩ = some (.int .u32 a5) := (blk_cell Bx 5).trans rfl; have c6 : w5.cell? ⟨w4.heap.size, 6, none⟩ = some (.int .u32 a6) := (blk_cell Bx 6).trans rfl; have c7 : w5.cell? ⟨w4.heap.size, 7, none⟩ = some (.string d) := (blk_cell Bx 7).trans rfl; have f3 := blk_frozen Bx 3; have F6 : Hid _ := blk_alloc (blk_put Bx 3 (.int .i64 x) rfl) (.cells #[.int .i64 a0, .int .i64 a1, .int .i64 a2, .int .i64 x, .int .i64 a4, .int .u32 a5, .int .u32 a6, .string d] 58); have F8 : Hid (((w5.setCell ⟨w4.heap.size, 3, none⟩ (.int .i64 x)).alloc (.cells #[.int .i64 a0, .int .i64 a1, .int .i64 a2, .int .i64 x, .int .i64 a4, .int .u32 a5, .int .u32 a6, .string d] 58)).heap[w5.heap.size]? = some (.cells #[.int .i64 a0, .int .i64 a1, .int .i64 a2, .int .i64 x, .int .i64 a4, .int .u32 a5, .int .u32 a6, .string d] 58 (0, 0))) := (by have := blk_new (w5.setCell ⟨w4.heap.size, 3, none⟩ (.int .i64 x)) (.cells #[.int .i64 a0, .int .i64 a1, .int .i64 a2, .int .i64 x, .int .i64 a4, .int .u32 a5, .int .u32 a6, .string d] 58); rw [World.size_setCell] at this; exact this); have Z5 : Hid (Below w.heap.size w w5) := (Z4.out.alloc Z4.out.size _).trans (hb.mono (by rw [World.size_alloc]; have := Z4.out.size; omega)); clear hb Bx)
    | (refine wpList_load_row rfl 58 _ rfl _ rfl 58 _ (0, 0) _ F8.out Try.underlying58 rfl (by kernel_rfl) ?_)
    | (refine wpList_load_row rfl 58 _ rfl _ rfl 58 _ (0, 0) _ F6.out Try.underlying58 rfl (by kernel_rfl) ?_))
  go_ret
  exact ⟨rfl, (Z5.out.setCell (Nat.le_of_lt kz) _).alloc (by rw [World.size_setCell]; exact Z5.out.size) _⟩
/-- The law's walk, whole. -/
theorem back_calls (ip : Bool) (addr port own prt : Int) (A : Option Addr) (c : Nat) (l : List S40) (src frm : Int) (s : ByteArray) (w : World) (hr : Kd.C k40 w A l.length l) (hc : l.length ≤ c) (hl : l.length < 2932031007402) :
    Calls Try.prog 9 #[.agg #[.bool ip, .int .u32 addr, .int .i64 port, .int .u32 own, .int .i64 prt, .slice A l.length c], .string s, .int .u32 src, .int .i64 frm] w fun e w' => e = .returned (.bool true) ∧ Below w.heap.size w w' := by
  by_cases hs : 1000 < s.size
  · exact back_long ip addr port own prt A c l src frm s w hr hc hl hs (by unfold downV; rw [if_pos hs])
  have hs' : s.size ≤ 1000 := by omega
  cases ip
  · by_cases h1 : src = addr
    · have e1 : (src == addr) = true := beq_iff_eq.2 h1
      by_cases h2 : frm = port
      · exact back_hit addr port own prt A c l src frm s w hr hc hl hs' e1 (beq_iff_eq.2 h2) (by unfold downV; rw [if_neg hs, if_neg (by decide), if_pos ⟨h1, h2⟩])
      · exact back_port addr port own prt A c l src frm s w hr hc hl hs' e1 (beq_eq_false_iff_ne.2 h2) (by unfold downV; rw [if_neg hs, if_neg (by decide), if_neg (fun h => h2 h.2)])
    · exact back_miss addr port own prt A c l src frm s w hr hc hl hs' (beq_eq_false_iff_ne.2 h1) (by unfold downV; rw [if_neg hs, if_neg (by decide), if_neg (fun h => h1 h.1)])
  obtain ⟨a0, a1, a2, a3, a4, a5, a6, d, u, hp⟩ : ∃ a0 a1 a2 a3 a4 a5 a6 d u, parseV s = (a0, a1, a2, a3, a4, a5, a6, d, u) := ⟨_, _, _, _, _, _, _, _, _, rfl⟩
  by_cases hu : u = 0
  · subst hu
    by_cases ho : a6 = own
    · have h2 : (a6 == own) = true := beq_iff_eq.2 ho
      have h3 : (a6 != own) = false := by rw [bne, h2]; rfl
      by_cases ht : a3 < 2
      · exact back_dead addr port own prt A c l src frm s w hr hc hl hs' _ _ _ _ _ _ _ _ hp h3 (decide_eq_true ht) (by unfold downV hopV; rw [hp]; simp only; rw [if_neg hs, if_pos trivial, if_pos trivial, if_pos ho, if_pos trivial, if_pos ht])
      · obtain ⟨hk, q5, q5', q6, q6', hd, -⟩ := parse_ok hp
        have hk' : okH a0 a1 a2 (a3 - 1) a4 := by unfold okH at *; omega
        exact back_live addr port own prt A c l src frm s w hr hc hl hs' _ _ _ _ _ _ _ _ hp h3 (decide_eq_false ht) (a3 - 1) (by unfold okH at hk; unfold wrap64; omega) _ (parse_pack hk' q5 q5' q6 q6' hd) (by unfold downV hopV; rw [hp]; simp only; rw [if_neg hs, if_pos trivial, if_pos trivial, if_pos ho, if_pos trivial, if_neg ht])
    · have h2 : (a6 == own) = false := beq_eq_false_iff_ne.2 ho
      exact back_foreign addr port own prt A c l src frm s w hr hc hl hs' _ _ _ _ _ _ _ _ hp (by rw [bne, h2]; rfl) (by unfold downV; rw [hp]; simp only; rw [if_neg hs, if_pos trivial, if_pos trivial, if_neg ho])
  · have h0 : (u == 0) = false := beq_eq_false_iff_ne.2 hu
    exact back_bad addr port own prt A c l src frm s w hr hc hl hs' _ _ _ _ _ _ _ _ _ hp h0 (by rw [bne, h0]; rfl) (by unfold downV; rw [hp]; simp only; rw [if_neg hs, if_pos trivial, if_neg hu])
end Go.Proofs.Ytcpneggifmldoaa.T

/-
  vizard/prefix.Parse, walked: at every string it tells what parseS tells; the world below stays as it was.
-/
import Derived.Test.YtdlkdcdopjgbaaaDoorRegion
import Derived.Test.YtdlkdcdopjgbaaaDoorLaid
set_option linter.unusedVariables false
set_option linter.unusedSimpArgs false
namespace Go.Proofs.YtdlkdcdopjgbaaaDoor.X
open Go.RowKit Go.Shelf Go
attribute [local go_sem] Oper.semAt_some
/-- A part that is a number of one byte, in its one writing. -/
def partS (x : List UInt8) : Option Int := match Lib.atoiAll x with
  | .ok n => if 0 ≤ n ∧ n ≤ 255 ∧ Lib.itoa n = x then some n else none
  | _ => none
def stepA (a n : Int) : Int := ((BitVec.ofInt 32 (a * 256 % 4294967296) ||| BitVec.ofInt 32 n).toNat : Nat)
/-- The parts so far: the number, and how many. -/
def foldS : List (List UInt8) → Option (Int × Int)
  | xs => xs.foldl (fun s x => s.bind fun (a, c) => (partS x).bind fun n => some (stepA a n, wrap64 (c + 1))) (some (0, 0))
theorem foldS_snoc (xs : List (List UInt8)) (x : List UInt8) : foldS (xs ++ [x]) = (foldS xs).bind fun (a, c) => (partS x).bind fun n => some (stepA a n, wrap64 (c + 1)) := by
  simp [foldS, List.foldl_append]
theorem foldS_none {xs ys : List (List UInt8)} (h : xs <+: ys) (hx : foldS xs = none) : foldS ys = none := by
  obtain ⟨t, rfl⟩ := h
  have : ∀ t : List (List UInt8), t.foldl (fun s x => s.bind fun (a, c) => (partS x).bind fun n => some (stepA a n, wrap64 (c + 1))) (none : Option (Int × Int)) = none := fun t => by
    induction t with
    | nil => rfl
    | cons x t ih => exact ih
  unfold foldS at *
  rw [List.foldl_append, hx]
  exact this t
/-- What Parse tells. -/
def parseS (s : List UInt8) : Int × Bool := match foldS (dots s) with
  | some (a, c) => if c = 4 then (a, true) else (0, false)
  | none => (0, false)
theorem ownFrom_heap {β : Type} {B k : Nat} {o : Obj} (hk : k < B) (ho : o.isCells = true) : OwnFrom B (fun (_ : β) W => W.heap[k]? = some o) := fun _ W W' row h hg hr =>
  (hg.block k (Array.getElem?_eq_some_iff.1 h).1 (fun e => by have := (hr k e.symm).1; omega)).trans h
theorem atoi_ok (x : List UInt8) (hx : x.length ≤ 281474976710656) (v : Int) (h : Lib.atoiAll x = .ok v) (W : World) : Calls Tryd.prog 32 #[.string ⟨x.toArray⟩] W fun e w' => e = .returned (.tuple #[.int .i64 v, .nilIface]) ∧ Below W.heap.size W w' := by
  refine (Tryd.strconv_Atoi_ok ⟨x.toArray⟩ (by simp [ByteArray.size]; omega) v (by simpa using h) W).mono ?_
  rintro e w' ⟨he, hw⟩
  refine ⟨he, ?_⟩
  rcases hw with rfl | ⟨t, rfl⟩
  · exact Below.refl _ _
  · exact Lib.bytesWorld_below _ _ _
theorem atoi_err (x : List UInt8) (hx : x.length ≤ 281474976710656) (h : ∀ v, Lib.atoiAll x ≠ .ok v) (W : World) (hL : LaidD W) : Calls Tryd.prog 32 #[.string ⟨x.toArray⟩] W fun e w' => (∃ v N, e = .returned (.tuple #[.int .i64 v, .iface 106 (.pointer (some ⟨N, 0, none⟩))])) ∧ Below W.heap.size W w' := by
  cases ha : Lib.atoiAll x
  · exact absurd ha (h _)
  · obtain ⟨tp, q, hv⟩ := hL.syn
    refine (Any.strconv_Atoi_syntax_var Tryd.laysC172 ⟨x.toArray⟩ (by simpa [ByteArray.size] using hx) (by simpa using ha) tp q W hv).mono ?_
    rintro e w' ⟨N, he, -, -, hb⟩
    exact ⟨⟨_, _, he⟩, hb⟩
  · obtain ⟨tp, q, hv⟩ := hL.rng
    refine (Tryd.strconv_Atoi_range_var ⟨x.toArray⟩ (by simpa [ByteArray.size] using hx) (by simpa using ha) tp q W hv).mono ?_
    rintro e w' ⟨N, rfl, -, -, hb⟩
    exact ⟨⟨_, _, rfl⟩, hb⟩
theorem grow_below {w : World} {os : Array Obj} : Below w.heap.size w (Go.Sort.grow w os) :=
  ⟨rfl, rfl, rfl, by simp [Go.Sort.grow], fun k hk => by simp only [Go.Sort.grow]; rw [Array.getElem?_append_left hk]⟩
theorem drewN_below (w : World) (k : Nat) : Below w.heap.size w (w.drewN k) := ⟨rfl, rfl, rfl, Nat.le_refl _, fun _ _ => rfl⟩
theorem itoa_calls (v : Int) (h0 : -9223372036854775808 ≤ v) (h1 : v ≤ 9223372036854775807) (W : World) (hL : LaidD W) : Calls Tryd.prog 33 #[.int .i64 v] W fun e w' => e = .returned (.string ⟨(Lib.itoa v).toArray⟩) ∧ Below W.heap.size W w' := by
  refine (Tryd.strconv_Itoa v h0 h1 W hL.pow).mono ?_
  rintro e w' ⟨he, k, os, rfl⟩
  exact ⟨he, (drewN_below W k).trans (grow_below (w := W.drewN k))⟩
theorem keeps_of_below {A C : World} (h : Below A.heap.size A C) : KeepsOthers A C := ⟨h.size, fun k o hk _ => (h.block k (Array.getElem?_eq_some_iff.1 hk).1).trans hk⟩
theorem box_next {A C : World} {b : Nat} {v : Value} {t : TypeId} (hb : Below A.heap.size A C) (h : A.heap[b]? = some (.cells #[v] t (0, 0))) : C.heap[b]? = some (.cells #[v] t (0, 0)) ∧ C.cell? ⟨b, 0, none⟩ = some v ∧ C.frozen? ⟨b, 0, none⟩ = false := by
  have h' := (hb.block b (Array.getElem?_eq_some_iff.1 h).1).trans h
  exact ⟨h', by simp [World.cell?, h'], Lib.frozen_of_heap h' 0⟩
theorem ret_post {n : Nat} {w W C : World} (hb : Below W.heap.size W C) (hw : Below n w W) (hn : n ≤ W.heap.size) {v0 v1 : Value} (h0 : C.heap[n]? = some (.cells #[v0] 22 (0, 0))) (h1 : C.heap[n + 1]? = some (.cells #[v1] 4 (0, 0))) :
    KeepsOthers W ((C.setCell ⟨n, 0, none⟩ (.int .u32 0)).setCell ⟨n + 1, 0, none⟩ (.bool false)) ∧ ((C.setCell ⟨n, 0, none⟩ (.int .u32 0)).setCell ⟨n + 1, 0, none⟩ (.bool false)).heap[n]? = some (.cells #[.int .u32 0] 22 (0, 0)) ∧ ((C.setCell ⟨n, 0, none⟩ (.int .u32 0)).setCell ⟨n + 1, 0, none⟩ (.bool false)).heap[n + 1]? = some (.cells #[.bool false] 4 (0, 0)) ∧ Below n w ((C.setCell ⟨n, 0, none⟩ (.int .u32 0)).setCell ⟨n + 1, 0, none⟩ (.bool false)) := by
  refine ⟨((keeps_of_below hb).trans (KeepsOthers.setCell _ _ _)).trans (KeepsOthers.setCell _ _ _), ?_, ?_, ((hw.trans (hb.mono hn)).setCell (Nat.le_refl _) _).setCell (by simp) _⟩
  · rw [heap_setCell_other _ _ _ _ (by simp), heap_setCell_same _ _ _ _ _ _ h0]; rfl
  · rw [heap_setCell_same _ _ _ _ _ _ ((heap_setCell_other _ _ _ _ (by simp)).trans h1)]; rfl
/-- What a good round leaves. -/
theorem next_post {n : Nat} {w W C : World} {a c a' c' : Int} {pre : List (List UInt8)} (hb : Below W.heap.size W C) (hw : Below n w W) (hn : n + 7 ≤ W.heap.size) (h0 : C.heap[n]? = some (.cells #[.int .u32 0] 22 (0, 0))) (h1 : C.heap[n + 1]? = some (.cells #[.bool false] 4 (0, 0))) (h2 : C.heap[n + 1 + 1]? = some (.cells #[.int .u32 a] 22 (0, 0))) (h3 : C.heap[n + 1 + 1 + 1]? = some (.cells #[.int .i64 c] 3 (0, 0))) (hf : foldS pre = some (a', c')) :
    KeepsOthers W ((C.drew.setCell ⟨n + 1 + 1, 0, none⟩ (.int .u32 a')).setCell ⟨n + 1 + 1 + 1, 0, none⟩ (.int .i64 c')) ∧ (∀ k, k < 3 → ((C.drew.setCell ⟨n + 1 + 1, 0, none⟩ (.int .u32 a')).setCell ⟨n + 1 + 1 + 1, 0, none⟩ (.int .i64 c')).heap[n + 1 + 1 + 1 + 1 + k]? = W.heap[n + 1 + 1 + 1 + 1 + k]?) ∧
      (∃ a c, foldS pre = some (a, c) ∧ ((C.drew.setCell ⟨n + 1 + 1, 0, none⟩ (.int .u32 a')).setCell ⟨n + 1 + 1 + 1, 0, none⟩ (.int .i64 c')).heap[n + 1 + 1]? = some (.cells #[.int .u32 a] 22 (0, 0)) ∧ ((C.drew.setCell ⟨n + 1 + 1, 0, none⟩ (.int .u32 a')).setCell ⟨n + 1 + 1 + 1, 0, none⟩ (.int .i64 c')).heap[n + 1 + 1 + 1]? = some (.cells #[.int .i64 c] 3 (0, 0))) ∧
      ((C.drew.setCell ⟨n + 1 + 1, 0, none⟩ (.int .u32 a')).setCell ⟨n + 1 + 1 + 1, 0, none⟩ (.int .i64 c')).heap[n]? = some (.cells #[.int .u32 0] 22 (0, 0)) ∧ ((C.drew.setCell ⟨n + 1 + 1, 0, none⟩ (.int .u32 a')).setCell ⟨n + 1 + 1 + 1, 0, none⟩ (.int .i64 c')).heap[n + 1]? = some (.cells #[.bool false] 4 (0, 0)) ∧ Below n w ((C.drew.setCell ⟨n + 1 + 1, 0, none⟩ (.int .u32 a')).setCell ⟨n + 1 + 1 + 1, 0, none⟩ (.int .i64 c')) ∧ n + 7 ≤ ((C.drew.setCell ⟨n + 1 + 1, 0, none⟩ (.int .u32 a')).setCell ⟨n + 1 + 1 + 1, 0, none⟩ (.int .i64 c')).heap.size := by
  have hd : C.drew.heap = C.heap := rfl
  refine ⟨(((keeps_of_below hb).trans (KeepsOthers.drew C)).trans (KeepsOthers.setCell _ _ _)).trans (KeepsOthers.setCell _ _ _), fun k hk => ?_, ⟨a', c', hf, ?_, ?_⟩, ?_, ?_, (((hw.trans (hb.mono (by omega))).drew).setCell (by simp; omega) _).setCell (by simp; omega) _, ?_⟩
  · rw [heap_setCell_other _ _ _ _ (by simp; omega), heap_setCell_other _ _ _ _ (by simp; omega), hd]
    exact hb.block _ (by omega)
  · rw [heap_setCell_other _ _ _ _ (by simp), heap_setCell_same C.drew _ _ _ _ _ h2]; rfl
  · rw [heap_setCell_same _ _ _ _ _ _ ((heap_setCell_other C.drew _ _ _ (by simp)).trans h3)]; rfl
  · rw [heap_setCell_other _ _ _ _ (by simp; omega), heap_setCell_other _ _ _ _ (by simp; omega), hd]; exact h0
  · rw [heap_setCell_other _ _ _ _ (by simp), heap_setCell_other _ _ _ _ (by simp), hd]; exact h1
  · have := hb.size
    simp only [World.size_setCell, hd]
    omega
/-- The two results' cells, and the loop's block for deferred calls, behind the last stores. -/
theorem end_cells {n D : Nat} {w W : World} {v0 v1 v0' v1' : Value} (hw : Below n w W) (h0 : W.heap[n]? = some (.cells #[v0] 22 (0, 0))) (h1 : W.heap[n + 1]? = some (.cells #[v1] 4 (0, 0))) (hD : n + 7 ≤ D) (hK : W.heap[D]? = some (.deferred (some []))) :
    ((W.setCell ⟨n, 0, none⟩ v0').setCell ⟨n + 1, 0, none⟩ v1').heap[D]? = some (.deferred (some [])) ∧ ((W.setCell ⟨n, 0, none⟩ v0').setCell ⟨n + 1, 0, none⟩ v1').heap[n]? = some (.cells #[v0'] 22 (0, 0)) ∧ ((W.setCell ⟨n, 0, none⟩ v0').setCell ⟨n + 1, 0, none⟩ v1').heap[n + 1]? = some (.cells #[v1'] 4 (0, 0)) ∧ Below n w ((W.setCell ⟨n, 0, none⟩ v0').setCell ⟨n + 1, 0, none⟩ v1') := by
  refine ⟨?_, ?_, ?_, (hw.setCell (Nat.le_refl _) _).setCell (by simp) _⟩
  · rw [heap_setCell_other _ _ _ _ (by simp; omega), heap_setCell_other _ _ _ _ (by simp; omega)]; exact hK
  · rw [heap_setCell_other _ _ _ _ (by simp), heap_setCell_same _ _ _ _ _ _ h0]; rfl
  · rw [heap_setCell_same _ _ _ _ _ _ ((heap_setCell_other _ _ _ _ (by simp)).trans h1)]; rfl
theorem end_put {n D : Nat} {w X : World} {v0 v1 : Value} (hw : Below n w X) (h0 : X.heap[n]? = some (.cells #[v0] 22 (0, 0))) (h1 : X.heap[n + 1]? = some (.cells #[v1] 4 (0, 0))) (hD : n + 7 ≤ D) (hK : X.heap[D]? = some (.deferred (some []))) :
    (X.putObj D (.deferred none)).cell? ⟨n, 0, none⟩ = some v0 ∧ (X.putObj D (.deferred none)).cell? ⟨n + 1, 0, none⟩ = some v1 ∧ Below n w (X.putObj D (.deferred none)) := by
  have o0 : (X.putObj D (.deferred none)).heap[n]? = some (.cells #[v0] 22 (0, 0)) := (World.putObj_heap_other (by omega)).trans h0
  have o1 : (X.putObj D (.deferred none)).heap[n + 1]? = some (.cells #[v1] 4 (0, 0)) := (World.putObj_heap_other (by omega)).trans h1
  refine ⟨by simp [World.cell?, o0], by simp [World.cell?, o1], hw.trans ((Below.refl n X).grown (grownBy_putObj' X D _) (by have := (Array.getElem?_eq_some_iff.1 hK).1; omega) (fun k e => by cases e; omega))⟩
theorem splitSeq_calls (s sep : ByteArray) (w : World) : Calls Tryd.prog 31 #[.string s, .string sep] w fun e w' => e = .returned (.func (.func 68) #[] #[.pointer (some ⟨w.heap.size + 1, 0, none⟩), .pointer (some ⟨w.heap.size, 0, none⟩), .pointer (some ⟨w.heap.size + 2, 0, none⟩)]) ∧ w' = ((w.alloc (.cells #[.string s] 9)).alloc (.cells #[.string sep] 9)).alloc (.cells #[.int .i64 0] 3) := by
  have h53 : Calls Tryd.prog 53 #[.string s, .string sep, .int .i64 0] w fun e w' => e = .returned (.func (.func 68) #[] #[.pointer (some ⟨w.heap.size + 1, 0, none⟩), .pointer (some ⟨w.heap.size, 0, none⟩), .pointer (some ⟨w.heap.size + 2, 0, none⟩)]) ∧ w' = ((w.alloc (.cells #[.string s] 9)).alloc (.cells #[.string sep] 9)).alloc (.cells #[.int .i64 0] 3) := by
    go_enter Tryd.func53, Tryd.ntmps53
    go_wp2
    go_ret
    exact ⟨rfl, rfl⟩
  go_enter Tryd.func31, Tryd.ntmps31
  go_wp2_with (go_at_call 53; refine h53.mono ?_; rintro e w' ⟨rfl, rfl⟩)
  go_ret
  exact ⟨rfl, rfl⟩
set_option maxRecDepth 100000 in
set_option maxHeartbeats 4000000 in
theorem parse_calls (s : List UInt8) (hs : s.length ≤ 281474976710656) (w : World) (hL : LaidD w) : Calls Tryd.prog 12 #[strOf s] w fun e w' => e = .returned (.tuple #[.int .u32 (parseS s).1, .bool (parseS s).2]) ∧ Below w.heap.size w w' := by
  refine (callsIn_wide (n := 4)).1 ?_
  refine callsIn_of_wp_marks Tryd.func12 rfl trivial ?_ rfl
  simp only [Tryd.ntmps12, List.size_toArray, List.length_cons, List.length_nil, Nat.reduceAdd, Nat.reduceSub, Array.replicate_succ, Array.replicate_zero, List.push_toArray, List.append_toArray, List.nil_append, List.cons_append]
  unfold strOf
  gi_wp2_with (refine ⟨trivial, ?_⟩; gi_at_call 31; refine (callsIn_wide.2 (splitSeq_calls _ _ _)).mono ?_; rintro e w' ⟨rfl, rfl⟩)
  obtain ⟨W0, hW0⟩ : ∃ W0, (((((((w.alloc (.cells #[.int .u32 0] 22)).alloc (.cells #[.bool false] 4)).alloc (.cells #[.int .u32 0] 22)).alloc (.cells #[.int .i64 0] 3)).alloc (.cells #[.string ⟨s.toArray⟩] 9)).alloc (.cells #[.string ⟨#[46]⟩] 9)).alloc (.cells #[.int .i64 0] 3)) = W0 := ⟨_, rfl⟩
  have hsz : W0.heap.size = w.heap.size + 7 := by rw [← hW0]; simp
  obtain ⟨n, hn⟩ : ∃ n, w.heap.size = n := ⟨_, rfl⟩
  have hB : Below n w W0 := by
    rw [← hW0, ← hn]
    exact (((((((Below.refl _ w).alloc (by simp) _).alloc (by simp; try omega) _).alloc (by simp; try omega) _).alloc (by simp; try omega) _).alloc (by simp; try omega) _).alloc (by simp; try omega) _).alloc (by simp; try omega) _
  have at_ : ∀ (X : World) (o : Obj) (k : Nat), k = X.heap.size → (X.alloc o).heap[k]? = some o := fun X o k e => by rw [e]; exact World.alloc_heap_new X o
  have h0 : W0.heap[n]? = some (.cells #[.int .u32 0] 22 (0, 0)) := by
    rw [← hW0, ← hn]
    iterate 6 rw [Below.heap_alloc _ _ _ (by simp; try omega)]
    exact at_ _ _ _ rfl
  have h1 : W0.heap[n + 1]? = some (.cells #[.bool false] 4 (0, 0)) := by
    rw [← hW0, ← hn]
    iterate 5 rw [Below.heap_alloc _ _ _ (by simp; try omega)]
    exact at_ _ _ _ (by simp)
  have h2 : W0.heap[n + 1 + 1]? = some (.cells #[.int .u32 0] 22 (0, 0)) := by
    rw [← hW0, ← hn]
    iterate 4 rw [Below.heap_alloc _ _ _ (by simp; try omega)]
    exact at_ _ _ _ (by simp)
  have h3 : W0.heap[n + 1 + 1 + 1]? = some (.cells #[.int .i64 0] 3 (0, 0)) := by
    rw [← hW0, ← hn]
    iterate 3 rw [Below.heap_alloc _ _ _ (by simp; try omega)]
    exact at_ _ _ _ (by simp)
  have h4 : W0.heap[n + 1 + 1 + 1 + 1]? = some (.cells #[.string ⟨s.toArray⟩] 9 (0, 0)) := by
    rw [← hW0, ← hn]
    iterate 2 rw [Below.heap_alloc _ _ _ (by simp; try omega)]
    exact at_ _ _ _ (by simp)
  have h5 : W0.heap[n + 1 + 1 + 1 + 1 + 1]? = some (.cells #[.string ⟨#[46]⟩] 9 (0, 0)) := by
    rw [← hW0, ← hn]
    rw [Below.heap_alloc _ _ _ (by simp; try omega)]
    exact at_ _ _ _ (by simp)
  have h6 : W0.heap[n + 1 + 1 + 1 + 1 + 2]? = some (.cells #[.int .i64 0] 3 (0, 0)) := by
    rw [← hW0, ← hn]
    exact at_ _ _ _ (by simp)
  rw [hW0, hn]
  refine range_parts (n + 1 + 1 + 1 + 1) (by omega) trivial trivial rfl (by omega) (fun m s c w => callsIn_wide.2 (Tryd.strings_Index_one s c w)) rfl s (by omega) h4 h5 h6
    (fun pre W => (∃ a c, foldS pre = some (a, c) ∧ W.heap[n + 1 + 1]? = some (.cells #[.int .u32 a] 22 (0, 0)) ∧ W.heap[n + 1 + 1 + 1]? = some (.cells #[.int .i64 c] 3 (0, 0))) ∧ W.heap[n]? = some (.cells #[.int .u32 0] 22 (0, 0)) ∧ W.heap[n + 1]? = some (.cells #[.bool false] 4 (0, 0)) ∧ Below n w W ∧ n + 7 ≤ W.heap.size)
    (fun pre W => foldS pre = none ∧ W.heap[n]? = some (.cells #[.int .u32 0] 22 (0, 0)) ∧ W.heap[n + 1]? = some (.cells #[.bool false] 4 (0, 0)) ∧ Below n w W)
    ?hI ?hIx ?hIs ⟨⟨0, 0, rfl, h2, h3⟩, h0, h1, hB, by omega⟩
    (fun x => { tmps := #[.string ⟨s.toArray⟩, undef, .pointer (some ⟨n, 0, none⟩), .pointer (some ⟨n + 1, 0, none⟩), .pointer (some ⟨n + 1 + 1, 0, none⟩), .pointer (some ⟨n + 1 + 1 + 1, 0, none⟩), .string ⟨x.toArray⟩, undef, undef, .string ⟨s.toArray⟩, .func (.func 68) #[] #[.pointer (some ⟨n + 1 + 1 + 1 + 1 + 1, 0, none⟩), .pointer (some ⟨n + 1 + 1 + 1 + 1, 0, none⟩), .pointer (some ⟨n + 1 + 1 + 1 + 1 + 2, 0, none⟩)], .string ⟨x.toArray⟩, undef, undef, undef, undef, undef, undef, undef, undef, undef, undef, undef, undef, undef, undef, undef, undef, undef, undef, undef, undef, undef, undef, undef, undef, undef, undef, undef, undef, undef, undef, undef], defers := [] }) ?assign ?body ?done ?stop
  case hI =>
    rintro pre A C row ⟨⟨a, c, hf, q2, q3⟩, q0, q1, hb, hsA⟩ hg hr
    have keep : ∀ (k : Nat) (o : Obj), k < n + 7 → A.heap[k]? = some o → C.heap[k]? = some o := fun k o hk ho => (hg.block k (Array.getElem?_eq_some_iff.1 ho).1 (fun e => by have := (hr k e.symm).1; omega)).trans ho
    exact ⟨⟨a, c, hf, keep _ _ (by omega) q2, keep _ _ (by omega) q3⟩, keep _ _ (by omega) q0, keep _ _ (by omega) q1, hb.grown hg (Nat.le_trans (by omega) hb.size) (fun k e => by have := (hr k e).1; omega), Nat.le_trans hsA hg.size⟩
  case hIx =>
    rintro pre A C row ⟨hf, q0, q1, hb⟩ hg hr
    have keep : ∀ (k : Nat) (o : Obj), k < n + 7 → A.heap[k]? = some o → C.heap[k]? = some o := fun k o hk ho => (hg.block k (Array.getElem?_eq_some_iff.1 ho).1 (fun e => by have := (hr k e.symm).1; omega)).trans ho
    exact ⟨hf, keep _ _ (by omega) q0, keep _ _ (by omega) q1, hb.grown hg (Nat.le_trans (by omega) hb.size) (fun k e => by have := (hr k e).1; omega)⟩
  case hIs =>
    rintro pre A v ⟨⟨a, c, hf, q2, q3⟩, q0, q1, hb, hsA⟩
    exact ⟨⟨a, c, hf, (heap_setCell_other _ _ _ _ (by simp)).trans q2, (heap_setCell_other _ _ _ _ (by simp)).trans q3⟩, (heap_setCell_other _ _ _ _ (by simp; omega)).trans q0, (heap_setCell_other _ _ _ _ (by simp)).trans q1, hb.setCell (by simp; omega) _, by simpa using hsA⟩
  case assign =>
    intro l x W K hK
    unfold strOf
    gi_wp2
    exact hK
  case body =>
    rintro l pre x W ⟨⟨a, c, hf, q2, q3⟩, q0, q1, hb, hsW⟩ hxs
    have hLW' : Hid (LaidD W) := hL.below (by rw [hn]; exact hb)
    have hxs' : Hid (x.length ≤ 281474976710656) := Nat.le_trans hxs hs
    by_cases hA : ∃ v, Lib.atoiAll x = .ok v
    · obtain ⟨v, hA⟩ := hA
      have hp : Hid (partS x = if 0 ≤ v ∧ v ≤ 255 ∧ Lib.itoa v = x then some v else none) := by unfold partS; rw [hA]; rfl
      have hA' : Hid (Lib.atoiAll x = .ok v) := hA
      clear hA
      by_cases v0 : v < 0
      · have hnone : Hid (foldS (pre ++ [x]) = none) := by
          unfold Hid
          rw [foldS_snoc, hf, hp.out, if_neg (by omega)]; rfl
        gi_wp2_with (refine ⟨trivial, ?_⟩; gi_at_call 32; refine (CallsIn.inRound l (callsIn_wide.2 (atoi_ok x hxs'.out v hA'.out _))).mono ?_; rintro e w1 ⟨rfl, hbw⟩; obtain ⟨p0, d0, y0⟩ := box_next hbw q0; obtain ⟨p1, d1, y1⟩ := box_next hbw q1; obtain ⟨p2, d2, y2⟩ := box_next hbw q2; obtain ⟨p3, d3, y3⟩ := box_next hbw q3)
        all_goals (try refine ⟨trivial, ?_⟩)
        all_goals gi_wp2
        all_goals exact ⟨(ret_post hbw hb (by omega) p0 p1).1, hnone.out, (ret_post hbw hb (by omega) p0 p1).2⟩
      by_cases v1 : v > 255
      · have hnone : Hid (foldS (pre ++ [x]) = none) := by
          unfold Hid
          rw [foldS_snoc, hf, hp.out, if_neg (by omega)]; rfl
        gi_wp2_with (refine ⟨trivial, ?_⟩; gi_at_call 32; refine (CallsIn.inRound l (callsIn_wide.2 (atoi_ok x hxs'.out v hA'.out _))).mono ?_; rintro e w1 ⟨rfl, hbw⟩; obtain ⟨p0, d0, y0⟩ := box_next hbw q0; obtain ⟨p1, d1, y1⟩ := box_next hbw q1; obtain ⟨p2, d2, y2⟩ := box_next hbw q2; obtain ⟨p3, d3, y3⟩ := box_next hbw q3)
        all_goals (try refine ⟨trivial, ?_⟩)
        all_goals gi_wp2
        all_goals exact ⟨(ret_post hbw hb (by omega) p0 p1).1, hnone.out, (ret_post hbw hb (by omega) p0 p1).2⟩
      by_cases v2 : Lib.itoa v = x
      · have hsome : Hid (foldS (pre ++ [x]) = some (stepA a v, wrap64 (c + 1))) := by
          unfold Hid
          rw [foldS_snoc, hf, hp.out, if_pos ⟨by omega, by omega, v2⟩]; rfl
        have v2' : Hid (Lib.itoa v = x) := v2
        clear v2
        gi_wp2_with (first | (refine ⟨trivial, ?_⟩; gi_at_call 32; refine (CallsIn.inRound l (callsIn_wide.2 (atoi_ok x hxs'.out v hA'.out _))).mono ?_; rintro e w1 ⟨rfl, hbw⟩; obtain ⟨p0, d0, y0⟩ := box_next hbw q0; obtain ⟨p1, d1, y1⟩ := box_next hbw q1; obtain ⟨p2, d2, y2⟩ := box_next hbw q2; obtain ⟨p3, d3, y3⟩ := box_next hbw q3) | (refine ⟨trivial, ?_⟩; gi_at_call 33; refine (CallsIn.inRound l (callsIn_wide.2 (itoa_calls v (by omega) (by omega) _ (hLW'.out.below hbw)))).mono ?_; rintro e w2 ⟨rfl, hbw2⟩; clear d0 d1 d2 d3 y0 y1 y2 y3; obtain ⟨p0, d0, y0⟩ := box_next hbw2 p0; obtain ⟨p1, d1, y1⟩ := box_next hbw2 p1; obtain ⟨p2, d2, y2⟩ := box_next hbw2 p2; obtain ⟨p3, d3, y3⟩ := box_next hbw2 p3))
        · exfalso
          rename_i hh
          have := v2'.out
          simp [this] at hh
          omega
        · have hx : Hid (KeepsOthers W ((w2.drew.setCell ⟨n + 1 + 1, 0, none⟩ (.int .u32 (stepA a v))).setCell ⟨n + 1 + 1 + 1, 0, none⟩ (.int .i64 (wrap64 (c + 1)))) ∧ (∀ k, k < 3 → ((w2.drew.setCell ⟨n + 1 + 1, 0, none⟩ (.int .u32 (stepA a v))).setCell ⟨n + 1 + 1 + 1, 0, none⟩ (.int .i64 (wrap64 (c + 1)))).heap[n + 1 + 1 + 1 + 1 + k]? = W.heap[n + 1 + 1 + 1 + 1 + k]?) ∧ _) := next_post (hbw.trans (hbw2.mono hbw.size)) hb hsW p0 p1 p2 p3 hsome.out
          have hfin := hx
          clear hx
          refine wpIn_region_any (by kernel_rfl) (any_round (F := Fence.wide) rfl ?nd _ _ _ _ ?rg)
          case nd =>
            intro i o hi c
            rcases i with _ | _ | _ | _ | _ | _ | _ | _ | _ | i <;> simp at hi
            all_goals (subst hi; simp)
          case rg =>
            refine wpAnyIn_take (i := 2) (v := .int .i64 v) rfl rfl (by kernel_rfl) (by kernel_rfl) (by kernel_rfl) (fun _ _ _ h => h) ⟨.inl ⟨rfl, fun w => by rfl⟩, fun w => rfl⟩ ?_
            refine wpAnyIn_take (i := 3) (v := .int .u32 (IntKind.u32.wrap v)) rfl rfl (by kernel_rfl) (by kernel_rfl) (by kernel_rfl) (fun _ _ _ h => h) ⟨.inl ⟨rfl, fun w => by rfl⟩, fun w => rfl⟩ ?_
            refine wpAnyIn_ready (rs := [0, 5]) (by kernel_rfl) (by simp) (BigFrame.allReadyIn_want rfl rfl (fun K' hK => ?_) (BigFrame.allReadyIn_want rfl rfl (fun K' hK => ?_) AllReadyIn.nil))
            · gi_wp2
              refine wpAnyIn_take (i := 1) (v := .int .u32 (IntKind.u32.wrap (a * 256))) rfl rfl (by kernel_rfl) (by kernel_rfl) (by kernel_rfl) (fun _ _ _ h => h) ⟨.inl ⟨rfl, fun w => by rfl⟩, fun w => rfl⟩ ?_
              refine wpAnyIn_take (i := 4) (v := _) rfl rfl (by kernel_rfl) (by kernel_rfl) (by kernel_rfl) (fun _ _ _ h => h) ⟨.inl ⟨rfl, fun w => by rfl⟩, fun w => rfl⟩ ?_
              refine wpAnyIn_ready (rs := [5, 7]) (by kernel_rfl) (by simp) (BigFrame.allReadyIn_want rfl rfl (fun K' hK => ?_) (BigFrame.allReadyIn_want rfl rfl (fun K' hK => ?_) AllReadyIn.nil))
              · gi_wp2
                refine wpAnyIn_take (i := 6) (v := _) rfl rfl (by kernel_rfl) (by kernel_rfl) (by kernel_rfl) (fun _ _ _ h => h) ⟨.inl ⟨rfl, fun w => by rfl⟩, fun w => rfl⟩ ?_
                refine wpAnyIn_ready (rs := [7]) (by kernel_rfl) (by simp) (BigFrame.allReadyIn_want rfl rfl (fun K' hK => ?_) AllReadyIn.nil)
                gi_wp2
                refine wpAnyIn_ready (rs := [8]) (by kernel_rfl) (by simp) (BigFrame.allReadyIn_want rfl rfl (fun K' hK => ?_) AllReadyIn.nil)
                gi_wp2
                refine wpAnyIn_done (by kernel_rfl) ?_ _
                exact hfin.out
              · gi_wp2
                refine wpAnyIn_ready (rs := [5]) (by kernel_rfl) (by simp) (BigFrame.allReadyIn_want rfl rfl (fun K' hK => ?_) AllReadyIn.nil)
                gi_wp2
                refine wpAnyIn_take (i := 6) (v := _) rfl rfl (by kernel_rfl) (by kernel_rfl) (by kernel_rfl) (fun _ _ _ h => h) ⟨.inl ⟨rfl, fun w => by rfl⟩, fun w => rfl⟩ ?_
                refine wpAnyIn_ready (rs := [8]) (by kernel_rfl) (by simp) (BigFrame.allReadyIn_want rfl rfl (fun K' hK => ?_) AllReadyIn.nil)
                gi_wp2
                refine wpAnyIn_done (by kernel_rfl) ?_ _
                exact hfin.out
            · gi_wp2
              refine wpAnyIn_take (i := 6) (v := _) rfl rfl (by kernel_rfl) (by kernel_rfl) (by kernel_rfl) (fun _ _ _ h => h) ⟨.inl ⟨rfl, fun w => by rfl⟩, fun w => rfl⟩ ?_
              refine wpAnyIn_ready (rs := [0]) (by kernel_rfl) (by simp) (BigFrame.allReadyIn_want rfl rfl (fun K' hK => ?_) AllReadyIn.nil)
              gi_wp2
              refine wpAnyIn_take (i := 1) (v := .int .u32 (IntKind.u32.wrap (a * 256))) rfl rfl (by kernel_rfl) (by kernel_rfl) (by kernel_rfl) (fun _ _ _ h => h) ⟨.inl ⟨rfl, fun w => by rfl⟩, fun w => rfl⟩ ?_
              refine wpAnyIn_take (i := 4) (v := _) rfl rfl (by kernel_rfl) (by kernel_rfl) (by kernel_rfl) (fun _ _ _ h => h) ⟨.inl ⟨rfl, fun w => by rfl⟩, fun w => rfl⟩ ?_
              refine wpAnyIn_ready (rs := [7]) (by kernel_rfl) (by simp) (BigFrame.allReadyIn_want rfl rfl (fun K' hK => ?_) AllReadyIn.nil)
              gi_wp2
              refine wpAnyIn_ready (rs := [8]) (by kernel_rfl) (by simp) (BigFrame.allReadyIn_want rfl rfl (fun K' hK => ?_) AllReadyIn.nil)
              gi_wp2
              refine wpAnyIn_done (by kernel_rfl) ?_ _
              exact hfin.out
      · have hnone : Hid (foldS (pre ++ [x]) = none) := by
          unfold Hid
          rw [foldS_snoc, hf, hp.out, if_neg (fun h => v2 h.2.2)]; rfl
        gi_wp2_with (first | (refine ⟨trivial, ?_⟩; gi_at_call 32; refine (CallsIn.inRound l (callsIn_wide.2 (atoi_ok x hxs'.out v hA'.out _))).mono ?_; rintro e w1 ⟨rfl, hbw⟩; obtain ⟨p0, d0, y0⟩ := box_next hbw q0; obtain ⟨p1, d1, y1⟩ := box_next hbw q1; obtain ⟨p2, d2, y2⟩ := box_next hbw q2; obtain ⟨p3, d3, y3⟩ := box_next hbw q3) | (refine ⟨trivial, ?_⟩; gi_at_call 33; refine (CallsIn.inRound l (callsIn_wide.2 (itoa_calls v (by omega) (by omega) _ (hLW'.out.below hbw)))).mono ?_; rintro e w2 ⟨rfl, hbw2⟩; clear d0 d1 d2 d3 y0 y1 y2 y3; obtain ⟨p0, d0, y0⟩ := box_next hbw2 p0; obtain ⟨p1, d1, y1⟩ := box_next hbw2 p1; obtain ⟨p2, d2, y2⟩ := box_next hbw2 p2; obtain ⟨p3, d3, y3⟩ := box_next hbw2 p3))
        · exact ⟨(ret_post (hbw.trans (hbw2.mono hbw.size)) hb (by omega) p0 p1).1, hnone.out, (ret_post (hbw.trans (hbw2.mono hbw.size)) hb (by omega) p0 p1).2⟩
        · exfalso
          rename_i hh
          simp at hh
          exact v2 hh.2
    · have hno : ∀ v, Lib.atoiAll x ≠ .ok v := fun v e => hA ⟨v, e⟩
      have hno' : Hid (∀ v, Lib.atoiAll x ≠ .ok v) := hno
      have hnone : Hid (foldS (pre ++ [x]) = none) := by
        unfold Hid
        have : partS x = none := by
          unfold partS
          cases h : Lib.atoiAll x
          · exact absurd h (hno _)
          · rfl
          · rfl
        rw [foldS_snoc, hf, this]; rfl
      clear hA hno
      gi_wp2_with (refine ⟨trivial, ?_⟩; gi_at_call 32; refine (CallsIn.inRound l (callsIn_wide.2 (atoi_err x hxs'.out hno'.out _ hLW'.out))).mono ?_; rintro e w1 ⟨⟨v, N, rfl⟩, hbw⟩; obtain ⟨p0, d0, y0⟩ := box_next hbw q0; obtain ⟨p1, d1, y1⟩ := box_next hbw q1; obtain ⟨p2, d2, y2⟩ := box_next hbw q2; obtain ⟨p3, d3, y3⟩ := box_next hbw q3)
      all_goals (try refine ⟨trivial, ?_⟩)
      all_goals gi_wp2
      all_goals exact ⟨(ret_post hbw hb (by omega) p0 p1).1, hnone.out, (ret_post hbw hb (by omega) p0 p1).2⟩
  case done =>
    rintro D W hD ⟨⟨a, c, hf, q2, q3⟩, q0, q1, hb, hsW⟩ hK
    obtain ⟨-, d0, y0⟩ := box_next (Below.refl _ W) q0
    obtain ⟨-, d1, y1⟩ := box_next (Below.refl _ W) q1
    obtain ⟨-, d2, y2⟩ := box_next (Below.refl _ W) q2
    obtain ⟨-, d3, y3⟩ := box_next (Below.refl _ W) q3
    have hres : Hid (parseS s = if c = 4 then (a, true) else (0, false)) := by unfold Hid parseS; rw [hf]
    have hD' : Hid (n + 7 ≤ D) := by unfold Hid; omega
    gi_wp2
    · rename_i hc
      obtain ⟨e1, e2, e3, e4⟩ := end_cells (v0' := .int .u32 0) (v1' := .bool false) hb q0 q1 hD'.out hK
      obtain ⟨g1, g2, g3⟩ := end_put e4 e2 e3 hD'.out e1
      refine ⟨by simp, .inl ⟨_, _, rfl, run_takeDeferred e1, ?_⟩⟩
      refine ⟨.tuple #[.int .u32 0, .bool false], ?_, by rw [hres.out, if_neg (by simpa using hc)], by rw [hn]; exact g3⟩
      simp [results, Tryd.f12, go_sem, g1, g2]
    · rename_i hc
      obtain ⟨e1, e2, e3, e4⟩ := end_cells (v0' := .int .u32 a) (v1' := .bool true) hb q0 q1 hD'.out hK
      obtain ⟨g1, g2, g3⟩ := end_put e4 e2 e3 hD'.out e1
      refine ⟨by simp, .inl ⟨_, _, rfl, run_takeDeferred e1, ?_⟩⟩
      refine ⟨.tuple #[.int .u32 a, .bool true], ?_, by rw [hres.out, if_pos (by simpa using hc)], by rw [hn]; exact g3⟩
      simp [results, Tryd.f12, go_sem, g1, g2]
  case stop =>
    rintro D pre W hD hpre ⟨hf, q0, q1, hb⟩ hK
    have hres : Hid (parseS s = (0, false)) := by unfold Hid parseS; rw [foldS_none hpre hf]
    obtain ⟨-, d0, y0⟩ := box_next (Below.refl _ W) q0
    obtain ⟨-, d1, y1⟩ := box_next (Below.refl _ W) q1
    have hD' : Hid (n + 7 ≤ D) := by unfold Hid; omega
    gi_wp2
    · obtain ⟨g1, g2, g3⟩ := end_put hb q0 q1 hD'.out hK
      refine ⟨by simp, .inl ⟨_, _, rfl, run_takeDeferred hK, ?_⟩⟩
      refine ⟨.tuple #[.int .u32 0, .bool false], ?_, by rw [hres.out], by rw [hn]; exact g3⟩
      simp [results, Tryd.f12, go_sem, g1, g2]
end Go.Proofs.YtdlkdcdopjgbaaaDoor.X

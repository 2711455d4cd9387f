/-
  strings.SplitSeq at a dot, walked: its value, called with a loop's yield, hands the loop the parts of the string in their order.
-/
import Derived.RangeFuncNested
import Derived.RangeFuncBound
import Derived.RangeFuncCalls
import Derived.RangeFuncLeaves
import Derived.Shelf.Abstract
import Derived.Shelf.RegionOpen
import Derived.WalkKit
import Derived.OwnWalkIn
import Derived.TacticsInMore
import Derived.LoopNIn
import Derived.LoopIn
import Derived.Lib.IndexLaws
import Derived.Test.YtdlkdcdopjgbaaaDoorShelf
set_option linter.unusedVariables false
set_option linter.unusedSimpArgs false
namespace Go.Proofs.YtdlkdcdopjgbaaaDoor.X
open Go.RowKit Go.Shelf
attribute [local go_sem] Oper.semAt_some
/-- The parts between the dots. -/
def dots : List UInt8 → List (List UInt8)
  | [] => [[]]
  | c :: r => if c = 46 then [] :: dots r else match dots r with
    | h :: t => (c :: h) :: t
    | [] => [[c]]
theorem dots_ne (l : List UInt8) : dots l ≠ [] := by
  cases l with
  | nil => simp [dots]
  | cons c r =>
    simp only [dots]
    split
    · simp
    · split <;> simp
theorem dots_none : ∀ {l : List UInt8}, (∀ c ∈ l, c ≠ 46) → dots l = [l]
  | [], _ => rfl
  | c :: r, h => by
    simp only [dots]
    rw [if_neg (h c List.mem_cons_self), dots_none (fun x hx => h x (List.mem_cons_of_mem _ hx))]
theorem dots_some : ∀ {l m : List UInt8}, (∀ c ∈ l, c ≠ 46) → dots (l ++ 46 :: m) = l :: dots m
  | [], m, _ => by simp [dots]
  | c :: r, m, h => by
    simp only [List.cons_append, dots]
    rw [if_neg (h c List.mem_cons_self), dots_some (fun x hx => h x (List.mem_cons_of_mem _ hx))]
theorem index_none {l : List UInt8} (h : Lib.indexByte l 46 = -1) : dots l = [l] := dots_none (fun c hc e => by
  obtain ⟨k, hk⟩ := List.getElem?_of_mem hc
  exact Lib.indexByte_none h k (by rw [hk, e]))
theorem index_some {l : List UInt8} {o : Nat} (h : Lib.indexByte l 46 = o) : o < l.length ∧ dots l = l.take o :: dots (l.drop (o + 1)) := by
  obtain ⟨h1, h2⟩ := Lib.indexByte_some h
  obtain ⟨ho, ho2⟩ := List.getElem?_eq_some_iff.1 h1
  refine ⟨ho, ?_⟩
  have e : l = l.take o ++ 46 :: l.drop (o + 1) := by rw [← ho2, ← List.drop_eq_getElem_cons ho, List.take_append_drop]
  conv => lhs; rw [e]
  refine dots_some (fun c hc e => ?_)
  obtain ⟨k, hk⟩ := List.getElem?_of_mem hc
  rw [List.getElem?_take] at hk
  split at hk
  · exact h2 k (by assumption) (by rw [hk, e])
  · cases hk
/-- A string of these bytes. -/
def strOf (l : List UInt8) : Value := .string ⟨l.toArray⟩
theorem strOf_extract (l : List UInt8) (o : Nat) : (⟨l.toArray⟩ : ByteArray).extract 0 o = ⟨(l.take o).toArray⟩ := by
  apply ByteArray.ext
  simp [ByteArray.data_extract, List.take_of_length_le]
theorem strOf_extract2 (l : List UInt8) (o : Nat) : (⟨l.toArray⟩ : ByteArray).extract o l.length = ⟨(l.drop o).toArray⟩ := by
  apply ByteArray.ext
  simp [ByteArray.data_extract, List.take_of_length_le]
set_option maxRecDepth 100000 in
set_option maxHeartbeats 2000000 in
/-- The closure that SplitSeq makes, called with a loop's yield. -/
theorem split_in (F : Fence) (n : Nat) (h68 : F.fn 68) (h70 : F.fn 70) (hro : F.round = none) (hn : 1 ≤ n) (hix : ∀ (s : ByteArray) (c : UInt8) (w : World), CallsIn F (n - 1) Tryd.prog 70 #[.string s, .string ⟨#[c]⟩] w fun e w' => e = .returned (.int .i64 (Lib.indexByte s.data.toList c)) ∧ w' = w)
    (s : List UInt8) (l B : Nat) (J Jx : List (List UInt8) → World → Prop)
    (hJs : ∀ pre W v, J pre W → J pre (W.setCell ⟨B, 0, none⟩ v))
    (hY : ∀ pre x W, J pre W → x.length ≤ s.length → YieldAt F (n - 1) Tryd.prog l #[strOf x] W fun e W' =>
      (e = .returned (.bool true) ∧ J (pre ++ [x]) W' ∧ ∀ k, k < 3 → W'.heap[B + k]? = W.heap[B + k]?) ∨ (e = .returned (.bool false) ∧ Jx (pre ++ [x]) W'))
    (hmax : s.length ≤ 9223372036854775806) (W : World) (hs0 : W.heap[B]? = some (.cells #[strOf s] 9 (0, 0))) (hs1 : W.heap[B + 1]? = some (.cells #[.string ⟨#[46]⟩] 9 (0, 0))) (hs2 : W.heap[B + 2]? = some (.cells #[.int .i64 0] 3 (0, 0))) (h0 : J [] W) :
    CallsIn F n Tryd.prog 68 #[.func (.yield l) #[] #[], .pointer (some ⟨B + 1, 0, none⟩), .pointer (some ⟨B, 0, none⟩), .pointer (some ⟨B + 2, 0, none⟩)] W fun e W' => (∃ v, e = .returned v) ∧
      (J (dots s) W' ∨ ∃ pre, pre <+: dots s ∧ Jx pre W') := by
  refine callsIn_of_wp Tryd.func68 rfl h68 ?_ hro
  simp only [Tryd.ntmps68, List.size_toArray, List.length_cons, List.length_nil, Nat.reduceAdd, Nat.reduceSub, Array.replicate_succ, Array.replicate_zero, List.push_toArray, List.append_toArray, List.nil_append, List.cons_append]
  have c1 := Lib.cell_of_heap hs1 0
  gi_wp2
  gi_loopw [] (fun wr => ∃ pre rest, J pre wr ∧ rest.length ≤ s.length ∧ dots s = pre ++ dots rest ∧ wr.heap[B]? = some (.cells #[strOf rest] 9 (0, 0)) ∧ wr.heap[B + 1]? = some (.cells #[.string ⟨#[46]⟩] 9 (0, 0)) ∧ wr.heap[B + 2]? = some (.cells #[.int .i64 0] 3 (0, 0)))
    (fun wr => match wr.cell? ⟨B, 0, none⟩ with | some (.string t) => t.size | _ => 0)
  case atStart => exact ⟨[], s, h0, Nat.le_refl _, by simp, hs0, hs1, hs2⟩
  case round =>
    obtain ⟨pre, rest, hJ, hle, hd, e0, e1, e2⟩ := hrel
    have d0 := Lib.cell_of_heap e0 0
    have d1 := Lib.cell_of_heap e1 0
    have d2 := Lib.cell_of_heap e2 0
    have f0 := Lib.frozen_of_heap e0 0
    simp only [List.getElem?_toArray, List.getElem?_cons_zero] at d0 d1 d2
    have hge := Lib.indexByte_ge rest 46
    by_cases hi : Lib.indexByte rest 46 = -1
    · have hdr := index_none hi
      obtain ⟨fn, tmps, assign, body, hy, hR⟩ := hY _ rest wr hJ hle
      unfold strOf at *
      gi_wp2_with (gi_at_call 70; refine (hix _ _ _).mono ?_; rintro e w' ⟨rfl, rfl⟩; simp only [hi])
      refine hR.mono ?_
      rintro e W3 (⟨rfl, hJ3, -⟩ | ⟨rfl, hJx3⟩)
      · gi_wp2
        go_end0
        exact ⟨⟨_, rfl⟩, .inl (by rw [hd, hdr]; exact hJ3)⟩
      · gi_wp2
        go_end0
        exact ⟨⟨_, rfl⟩, .inr ⟨_, by rw [hd, hdr]; exact List.prefix_refl _, hJx3⟩⟩
    · obtain ⟨o, ho⟩ : ∃ o : Nat, Lib.indexByte rest 46 = o := ⟨(Lib.indexByte rest 46).toNat, by omega⟩
      obtain ⟨hol, hdr⟩ := index_some ho
      obtain ⟨fn, tmps, assign, body, hy, hR⟩ := hY _ (rest.take o) wr hJ (by simp; omega)
      unfold strOf at *
      rw [← strOf_extract] at hy
      gi_wp2_with (gi_at_call 70; refine (hix _ _ _).mono ?_; rintro e w' ⟨rfl, rfl⟩; simp only [ho])
      refine hR.mono ?_
      rintro e W3 (⟨rfl, hJ3, hk3⟩ | ⟨rfl, hJx3⟩)
      · have g0 : W3.heap[B]? = _ := (hk3 0 (by omega)).trans e0
        have g1 := (hk3 1 (by omega)).trans e1
        have g2 := (hk3 2 (by omega)).trans e2
        have q0 := Lib.cell_of_heap g0 0
        have q1 := Lib.cell_of_heap g1 0
        have p0 := Lib.frozen_of_heap g0 0
        simp only [List.getElem?_toArray, List.getElem?_cons_zero] at q0 q1
        gi_wp2
        go_roundw
        case rel =>
          have q := heap_setCell_same W3 B 0 #[.string ⟨rest.toArray⟩] 9 (.string ((⟨rest.toArray⟩ : ByteArray).extract (o + 1) rest.length)) g0
          rw [strOf_extract2] at q ⊢
          refine ⟨pre ++ [rest.take o], rest.drop (o + 1), hJs _ _ _ hJ3, by simp; omega, by rw [hd, hdr]; simp, ?_, (heap_setCell_other _ _ _ _ (by simp)).trans g1, (heap_setCell_other _ _ _ _ (by simp)).trans g2⟩
          rw [q]; rfl
        case measure =>
          rw [strOf_extract2, World.cell?_setCell_same' _ _ _ (by rw [q0]; rfl), d0]
          simp [ByteArray.size]
          omega
      · gi_wp2
        refine bodyPost_ret (results_none rfl _ _ _) rfl ?_
        exact ⟨⟨_, rfl⟩, .inr ⟨_, by rw [hd, hdr]; exact ⟨dots (rest.drop (o + 1)), by simp⟩, hJx3⟩⟩
end Go.Proofs.YtdlkdcdopjgbaaaDoor.X

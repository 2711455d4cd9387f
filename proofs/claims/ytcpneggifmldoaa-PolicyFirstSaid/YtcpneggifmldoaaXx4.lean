-- laid by ext.py (this session's) over the kit's print; the functions named EXT in it are proved by hand
import Derived.Test.YtcpneggifmldoaaXx0
namespace Go.Proofs.Ytcpneggifmldoaa.X
open Go.RowKit Go.Proofs.YtcpneggifmldoaaW.PrintWords Go.Proofs.YtcpneggifmldoaaW.PrintLast Go.Proofs.YtcpneggifmldoaaW.PrintMore
attribute [local go_sem] max2_int min2_int max_two min_two max_three min_three max_four min_four   -- for this text's walks alone
set_option linter.unusedVariables false
set_option linter.unusedSimpArgs false

-- EXT slices.Sort[[]int64,int64]
/-! ### slices_Sort_int64_int64: function 28 -/
theorem grow_below {w : World} {os : Array Obj} : Below w.heap.size w (Go.Sort.grow w os) :=
  ⟨rfl, rfl, rfl, by simp, fun k hk => by simp [Go.Sort.grow, Array.getElem?_append, hk]⟩
def slices_Sort_int64_int64.f (l0 : List Int) : Option (List Int) := if 0 < l0.length ∧ l0.length < 4611686018427387904 then some (l0.mergeSort fun x y => decide (x ≤ y)) else none
theorem slices_Sort_int64_int64.calls (P0_ : Nat → Prop) (u9000_ : Value) (l0 : List Int) (r : List Int) (w0 w : World) (hB : Below w0.heap.size w0 w) (ho0 : Kd.R (Kd.int .i64) 2 w w0.heap.size P0_ u9000_ l0) (h : slices_Sort_int64_int64.f l0 = some r) :
    Calls Try.prog 28 #[u9000_] w fun e w' => e = .returned (.tuple #[]) ∧ Kd.R (Kd.int .i64) 2 w' w0.heap.size (fun k_ => (P0_ k_ ∨ w.heap.size ≤ k_)) u9000_ r ∧ Below w0.heap.size w0 w' ∧ Kept w w' (fun k_ => P0_ k_) := by
  unfold slices_Sort_int64_int64.f at h
  split at h
  case isFalse => exact absurd h (by simp)
  case isTrue hc =>
  obtain rfl := Option.some.inj h
  have ho : w.ownsRow w0.heap.size 2 1 u9000_ l0.length (l0.map (Value.int .i64)) := Kd.own_of_R ho0
  have hne : u9000_ ≠ .slice none 0 0 := by
    rintro rfl
    rcases ho.2 with ⟨_, h0⟩ | ⟨g, cap, cur, e0, _⟩
    · omega
    · cases e0
  obtain ⟨g, cap, rfl, hb, hlt, hn, hm, hl, hH⟩ := Lib.holds_of_ownsRow ho hne
  have hP : P0_ g := ho0.1 g rfl
  refine (Try.slices_Sort_int g 0 cap l0 w hH hlt hc.2).mono ?_
  rintro e w' ⟨rfl, q, os, rfl⟩
  have hcl : (l0.mergeSort fun x y => decide (x ≤ y)).length = l0.length := List.length_mergeSort l0
  refine ⟨rfl, Kd.R_of_own (xs := l0.mergeSort fun x y => decide (x ≤ y)) ?_ ?_, (Lib.below_putRow hB hb).trans (grow_below.mono (by have := hB.size; simp [Sort.ahead]; omega)), ⟨by simp [Sort.ahead], fun i hl hi => ?_⟩⟩
  · have := Lib.ownsRow_putRow (enc := Value.int .i64) (q := q) (k := l0.length) (ys := l0.mergeSort fun x y => decide (x ≤ y)) ho hcl (Nat.le_refl _)
    rw [List.take_of_length_le (by omega)] at this
    rw [hcl]
    exact pw_own_below this grow_below
  · intro k hk
    have : g = k := by simpa [Value.ownBlock] using hk
    subst this
    exact .inl hP
  · have hg : g ≠ i := fun e => hi (e ▸ hP)
    have hl' : i < (Sort.putRow (Value.int .i64) (Sort.ahead w q) g 0 (l0.mergeSort fun x y => decide (x ≤ y)).toArray).heap.size := by simpa [Sort.ahead] using hl
    simp only [Go.Sort.grow, Array.getElem?_append, hl', if_true]
    simp [Sort.putRow, Sort.mapBlock, Sort.ahead, Array.getElem?_modify, hg]
theorem take_len_le {α : Type} {y t : List α} {n : Nat} (h : y = t.take n) : y.length ≤ t.length := by
  rw [h, List.length_take]
  omega
theorem rd_of_take {y t : List Int} {n : Nat} (h : y = t.take n) (i : Int) (h0 : 0 ≤ i) (h1 : i < y.length) : rd y i = rd t i := by
  subst h
  rw [List.length_take] at h1
  unfold rd
  have : i.toNat < n := by omega
  simp [List.getD, List.getElem?_take, this]

end Go.Proofs.Ytcpneggifmldoaa.X

-- laid by ext.py (this session's) over the kit's print; the functions named EXT in it are proved by hand
import Derived.Test.YtcpneggifmldoaaXx0
namespace Go.Proofs.Ytcpneggifmldoaa.X
open Go.RowKit Go.Proofs.YtcpneggifmldoaaW.PrintWords Go.Proofs.YtcpneggifmldoaaW.PrintLast Go.Proofs.YtcpneggifmldoaaW.PrintMore
attribute [local go_sem] max2_int min2_int max_two min_two max_three min_three max_four min_four   -- for this text's walks alone
set_option linter.unusedVariables false
set_option linter.unusedSimpArgs false

-- EXT slices.Compact[[]int64,int64]
/-! ### slices_Compact_int64_int64: function 29 -/
theorem compact_len_le (l : List Int) : (Lib.compact l).length ≤ l.length := by
  unfold Lib.compact Lib.compactUpTo
  rw [List.length_map]
  exact Nat.le_trans (List.length_filter_le _ _) (by simp)
def slices_Compact_int64_int64.f (l0 : List Int) : Option (List Int) := if 0 < l0.length ∧ l0.length < 4611686018427387904 then some (Lib.compact l0) else none
theorem slices_Compact_int64_int64.calls (P0_ : Nat → Prop) (u9000_ : Value) (l0 : List Int) (r : List Int) (w0 w : World) (hB : Below w0.heap.size w0 w) (ho0 : Kd.R (Kd.int .i64) 2 w w0.heap.size P0_ u9000_ l0) (h : slices_Compact_int64_int64.f l0 = some r) :
    Calls Try.prog 29 #[u9000_] w fun e w' => ∃ v0_ : Value, e = .returned (v0_) ∧ Kd.R (Kd.int .i64) 2 w' w0.heap.size (fun k_ => (P0_ k_ ∨ w.heap.size ≤ k_)) v0_ r ∧ Below w0.heap.size w0 w' ∧ Kept w w' (fun k_ => P0_ k_) := by
  unfold slices_Compact_int64_int64.f at h
  split at h
  case isFalse => exact absurd h (by simp)
  case isTrue hc =>
  obtain rfl := Option.some.inj h
  have ho : w.ownsRow w0.heap.size 2 1 u9000_ l0.length (l0.map (Value.int .i64)) := Kd.own_of_R ho0
  have hne : u9000_ ≠ .slice none 0 0 := by
    rintro rfl
    rcases ho.2 with ⟨_, h0⟩ | ⟨g, cap, cur, e0, _⟩
    · omega
    · cases e0
  obtain ⟨g, cap, rfl, hb, hlt, hn, hm, hl, hH⟩ := Lib.holds_of_ownsRow ho hne
  have hP : P0_ g := ho0.1 g rfl
  refine (Try.slices_Compact_int g 0 cap l0 w hH (by omega) hn).mono ?_
  rintro e w' ⟨rfl, q, rfl⟩
  have hcl : (Lib.compact l0).length ≤ l0.length := compact_len_le l0
  refine ⟨_, rfl, Kd.R_of_own (xs := Lib.compact l0) ?_ ?_, Lib.below_putRow hB hb, ⟨by simp [Sort.ahead], fun i _ hi => ?_⟩⟩
  · have := Lib.ownsRow_putRow (enc := Value.int .i64) (q := q) (k := (Lib.compact l0).length) (ys := Lib.compact l0 ++ List.replicate (l0.length - (Lib.compact l0).length) 0) ho (by simp; omega) hcl
    rw [List.take_left] at this
    exact this
  · intro k hk
    have : g = k := by simpa [Value.ownBlock] using hk
    subst this
    exact .inl hP
  · have hg : g ≠ i := fun e => hi (e ▸ hP)
    simp [Sort.putRow, Sort.mapBlock, Sort.ahead, Array.getElem?_modify, hg]

end Go.Proofs.Ytcpneggifmldoaa.X

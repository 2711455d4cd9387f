-- laid by ext.py (this session's) over the kit's print; the functions named EXT in it are proved by hand
import Derived.Test.YtdlkdcdopjgbaaaDoorXx0
namespace Go.Proofs.YtdlkdcdopjgbaaaDoor.X
open Go.RowKit Go.Proofs.YtdlkdcdopjgbaaaDoorW.PrintWords Go.Proofs.YtdlkdcdopjgbaaaDoorW.PrintLast Go.Proofs.YtdlkdcdopjgbaaaDoorW.PrintMore
attribute [local go_sem] max2_int min2_int max_two min_two max_three min_three max_four min_four   -- for this text's walks alone
set_option linter.unusedVariables false
set_option linter.unusedSimpArgs false

-- EXT math/bits.TrailingZeros32
/-! ### bits_TrailingZeros32: function 38 -/
def bits_TrailingZeros32.f (x : Int) : Option Int := if 0 ≤ x ∧ x < 4294967296 then some (Go.Lib.ctz 32 x.toNat : Nat) else none
theorem ctz_core (x k idx : Nat) (w : World) (hx0 : ((x : Int) == 0) = false)
    (key : Go.bits BinOp.and IntKind.u32 (x : Int) (-(x : Int) % 4294967296) * 125613361 % 4294967296 / 134217728 = (idx : Int))
    (hi : idx < 32) (hk : k < 32) (hcell : w.cell? ⟨0, idx, none⟩ = some (.int .u8 k)) :
    Calls Tryd.prog 38 #[.int .u32 x] w fun e w' => e = .returned (.int .i64 k) ∧ w' = w := by
  go_enter Tryd.func38, Tryd.ntmps38
  go_wp2_with (simp only [key])
  go_ret
  exact ⟨rfl, rfl⟩
theorem ctz_zero (w : World) : Calls Tryd.prog 38 #[.int .u32 0] w fun e w' => e = .returned (.int .i64 32) ∧ w' = w := by
  go_enter Tryd.func38, Tryd.ntmps38
  go_wp2
  go_ret
  exact ⟨rfl, rfl⟩
theorem bits_TrailingZeros32.calls (x : Int) (r : Int) (w : World) (hL : LaidD w) (h : bits_TrailingZeros32.f x = some r) :
    Calls Tryd.prog 38 #[.int .u32 x] w fun e w' => e = .returned (.int .i64 r) ∧ Below w.heap.size w w' := by
  unfold bits_TrailingZeros32.f at h
  split at h
  case isFalse => exact absurd h (by simp)
  case isTrue hc =>
  obtain rfl := Option.some.inj h
  obtain ⟨n, rfl⟩ : ∃ n : Nat, x = n := ⟨x.toNat, by omega⟩
  have hn : n < 4294967296 := by omega
  suffices h : Calls Tryd.prog 38 #[.int .u32 (n : Int)] w fun e w' => e = .returned (.int .i64 (Go.Lib.ctz 32 n : Nat)) ∧ w' = w from h.mono fun e w' ⟨he, hw⟩ => ⟨by simpa using he, by rw [hw]; exact Below.refl _ _⟩
  by_cases hx0 : n = 0
  · subst hx0
    exact ctz_zero w
  · obtain ⟨hlow, hk⟩ := Go.Lib.lowest_bit 32 n hx0 hn
    obtain ⟨hi, htab⟩ := Go.Lib.deBruijn32_at _ hk
    have hcell := hL.tz.cell (g := 0) (by kernel_rfl) _ (by rw [List.length_map]; exact hi)
    refine ctz_core n _ _ w (by simp; omega) (tz32_key n _ hn hx0 hlow) hi hk (hcell.trans ?_)
    rw [show ∀ i, (List.map (fun (n : Nat) => (n : Int)) Go.Lib.deBruijn32tab).getD i 0 = ((Go.Lib.deBruijn32tab.getD i 0 : Nat) : Int) from fun i => by
      simp only [List.getD, List.getElem?_map]
      cases Go.Lib.deBruijn32tab[i]? <;> rfl, htab]

end Go.Proofs.YtdlkdcdopjgbaaaDoor.X

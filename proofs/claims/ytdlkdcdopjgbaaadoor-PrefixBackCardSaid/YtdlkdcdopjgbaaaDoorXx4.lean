-- laid by ext.py (this session's) over the kit's print; the functions named EXT in it are proved by hand
import Derived.Test.YtdlkdcdopjgbaaaDoorXx0
namespace Go.Proofs.YtdlkdcdopjgbaaaDoor.X
open Go.RowKit Go.Proofs.YtdlkdcdopjgbaaaDoorW.PrintWords Go.Proofs.YtdlkdcdopjgbaaaDoorW.PrintLast Go.Proofs.YtdlkdcdopjgbaaaDoorW.PrintMore
attribute [local go_sem] max2_int min2_int max_two min_two max_three min_three max_four min_four   -- for this text's walks alone
set_option linter.unusedVariables false
set_option linter.unusedSimpArgs false

-- EXT strings.Join
/-! ### strings_Join: function 35 -/
def strings_Join.f (l : List ByteArray) (sep : ByteArray) : Option ByteArray := if l.length ≤ 4 ∧ 0 < l.length ∧ (Go.Lib.join (l.map (·.data.toList)) sep.data.toList).length ≤ 1000 then some ⟨(Go.Lib.join (l.map (·.data.toList)) sep.data.toList).toArray⟩ else none
theorem strings_Join.calls (A0 : Option Addr) (c0 : Nat) (l : List ByteArray) (sep : ByteArray) (r : ByteArray) (w : World) (hr0 : Kd.C Kd.string w A0 l.length l) (hc0 : l.length ≤ c0) (h : strings_Join.f l sep = some r) :
    Calls Tryd.prog 35 #[.slice A0 l.length c0, .string sep] w fun e w' => e = .returned (.string r) ∧ Below w.heap.size w w' := by
  unfold strings_Join.f at h
  split at h
  case isFalse => exact absurd h (by simp)
  case isTrue hc =>
  obtain rfl := Option.some.inj h
  obtain ⟨h1, h2, h3⟩ := hc
  obtain ⟨ad, rfl, hx⟩ := Kd.at_string hr0 0 (by omega) (by omega)
  have hsp : ad.spot = none := World.cell?_spot hx
  have hadd : ∀ j : Nat, ad.add j = ⟨ad.block, ad.off + j, none⟩ := fun j => by
    unfold Addr.add
    split
    · rename_i e; subst e; rw [← hsp]; rfl
    · rfl
  have hbk : ad.block < w.heap.size := by
    rw [hadd] at hx
    simp only [World.cell?] at hx
    split at hx
    · rename_i h; exact (Array.getElem?_eq_some_iff.1 h).1
    · cases hx
  have e0 : ad = ⟨ad.block, ad.off, none⟩ := by
    cases ad
    simp only at hsp
    rw [hsp]
  rw [e0]
  exact Tryd.strings_Join ad.block ad.off c0 l sep w (fun j x hj => by
    have hjl := (List.getElem?_eq_some_iff.1 hj).1
    obtain ⟨ad', e, hc⟩ := Kd.at_string hr0 (j : Int) (by omega) (by omega)
    obtain rfl := Option.some.inj e
    rw [hadd] at hc
    rw [show (rdOf ByteArray.empty l (j : Int)) = x by unfold rdOf; simp [List.getD, hj]] at hc
    simpa using hc) hbk (by omega) hc0 (by omega)

end Go.Proofs.YtdlkdcdopjgbaaaDoor.X

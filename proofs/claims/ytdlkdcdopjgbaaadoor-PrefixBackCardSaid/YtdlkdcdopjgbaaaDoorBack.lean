/-
  Plain law: what is written of an address, and of a right prefix, is read as it was.
-/
import Derived.Test.YtdlkdcdopjgbaaaDoorText
import Derived.Test.YtdlkdcdopjgbaaaDoorCovF
import Derived.Test.YtdlkdcdopjgbaaaDoorXx14
set_option linter.unusedVariables false
set_option linter.unusedSimpArgs false
set_option linter.unusedSectionVars false
namespace Go.Proofs.YtdlkdcdopjgbaaaDoor.X
open Go.RowKit Go.Proofs.YtdlkdcdopjgbaaaDoorW.PrintWords Go
theorem itoa_no2 {b : Int} (h0 : 0 ≤ b) (h1 : b < 256) : ∀ c ∈ Lib.itoa b, c ≠ 47 := by
  obtain ⟨n, rfl⟩ : ∃ n : Nat, b = n := ⟨b.toNat, by omega⟩
  exact fun c hc => (itoa_plain n (by omega) c hc).2
theorem textS_len {a : Int} (h0 : 0 ≤ a) (h1 : a < 4294967296) : (textS a).length ≤ 15 := by
  have l0 := itoa_len (b := a / 16777216) (by omega) (by omega)
  have l1 := itoa_len (b := a / 65536 % 256) (by omega) (by omega)
  have l2 := itoa_len (b := a / 256 % 256) (by omega) (by omega)
  have l3 := itoa_len (b := a % 256) (by omega) (by omega)
  unfold textS
  simp only [List.length_append, List.length_cons]
  omega
theorem textS_no {a : Int} (h0 : 0 ≤ a) (h1 : a < 4294967296) : ∀ c ∈ textS a, c ≠ 47 := by
  intro c hc
  unfold textS at hc
  have n0 := itoa_no2 (b := a / 16777216) (by omega) (by omega) c
  have n1 := itoa_no2 (b := a / 65536 % 256) (by omega) (by omega) c
  have n2 := itoa_no2 (b := a / 256 % 256) (by omega) (by omega) c
  have n3 := itoa_no2 (b := a % 256) (by omega) (by omega) c
  simp only [List.mem_append, List.mem_cons] at hc
  rcases hc with h | h | h | h | h | h | h
  · exact n0 h
  · rw [h]; decide
  · exact n1 h
  · rw [h]; decide
  · exact n2 h
  · rw [h]; decide
  · exact n3 h
theorem prefixBack_ev {a addr bits : Int} (a0 : 0 ≤ a) (a1 : a < 4294967296) (h0 : 0 ≤ addr) (h1 : addr < 4294967296) : Ev (fun k => vizardlaw04_PrefixBack.f k a addr bits) true := by
  have tl := textS_len a0 a1
  have hpa : prefix_Parse.f ⟨(textS a).toArray⟩ = some (a, true) := by
    unfold prefix_Parse.f
    rw [if_pos (by simp; omega)]
    simp only [parse_text a0 a1]
  unfold vizardlaw04_PrefixBack.f
  refine Ev.bind works_f ?_
  simp only [if_true]
  refine Ev.bind (text_f a0 a1) ?_
  simp only [hpa, Option.bind_some, if_true, Bool.not_true]
  have hck := check_f h0 h1 bits
  by_cases hc : okP addr bits
  · rw [decide_eq_true hc] at hck
    obtain ⟨b0, b1, -⟩ := id hc
    have bl := itoa_len (b := bits) b0 (by omega)
    have al := textS_len h0 h1
    have hbk : Lib.atoiAll (Lib.itoa bits) = .ok bits := by
      obtain ⟨n, rfl⟩ : ∃ n : Nat, bits = n := ⟨bits.toNat, by omega⟩
      exact itoa_back n (by omega)
    have hpr : Ev (fun k => prefix_Print.f k addr bits) (⟨(textS addr).toArray⟩ ++ (⟨#[47]⟩ : ByteArray) ++ ⟨(Lib.itoa bits).toArray⟩) := by
      unfold prefix_Print.f
      simp only [hck, Option.bind_some, if_true]
      refine Ev.bind (text_f h0 h1) ?_
      refine ⟨0, fun k _ => ?_⟩
      have s1 : (⟨(textS addr).toArray⟩ : ByteArray).size = (textS addr).length := by simp [ByteArray.size]
      have s2 : (⟨(Lib.itoa bits).toArray⟩ : ByteArray).size = (Lib.itoa bits).length := by simp [ByteArray.size]
      have s3 : (⟨#[47]⟩ : ByteArray).size = 1 := rfl
      rw [itoa_f b0 (by omega), if_pos (by rw [s1]; omega)]
      simp only [Option.bind_some]
      rw [if_pos (by rw [ByteArray.size_append, s1, s2, s3]; omega)]
    have hl : (⟨(textS addr).toArray⟩ ++ (⟨#[47]⟩ : ByteArray) ++ ⟨(Lib.itoa bits).toArray⟩ : ByteArray).data.toList = textS addr ++ 47 :: Lib.itoa bits := by simp [ByteArray.data_append]
    have hrd : prefix_Read.f (⟨(textS addr).toArray⟩ ++ (⟨#[47]⟩ : ByteArray) ++ ⟨(Lib.itoa bits).toArray⟩) = some (addr, bits, true) := by
      unfold prefix_Read.f
      rw [hl, if_neg (by simp), if_pos (by simp only [List.length_append, List.length_cons]; omega)]
      have hcut := cut_at (l := textS addr) (m := Lib.itoa bits) (textS_no h0 h1)
      simp only [hcut, parse_text h0 h1, hbk]
      rw [if_pos ⟨trivial, trivial, trivial, h0, h1, hc⟩]
    refine Ev.step (f := fun k => (prefix_Print.f k addr bits).bind fun t178 => ((prefix_Read.f t178).bind fun bt179 => ((prefix_Check.f addr bits).bind fun t183 => (if t183 = true then (if bt179.2.2 = true then (some (bt179.1 == addr && (bt179.2.1 == bits))) else (some false)) else (if t178.toList = ([] : List UInt8) then (some (!bt179.2.2)) else (some false)))))) (fun k => by simp [vizardlaw04_PrefixBack.j0]) ?_
    refine Ev.bind hpr ?_
    refine ⟨0, fun k _ => ?_⟩
    simp [hrd, hck]
  · rw [decide_eq_false hc] at hck
    refine Ev.step (f := fun _ => some true) (fun k => ?_) (Ev.now true)
    have hrd : prefix_Read.f (⟨#[]⟩ : ByteArray) = some (0, 0, false) := by unfold prefix_Read.f; rw [if_pos rfl]
    have hnil : (⟨#[]⟩ : ByteArray).toList = [] := by decide +kernel
    simp only [vizardlaw04_PrefixBack.j0, prefix_Print.f, hck, Option.bind_some, Bool.false_eq_true, if_false, hrd, hnil, if_true]
    rfl
end Go.Proofs.YtdlkdcdopjgbaaaDoor.X

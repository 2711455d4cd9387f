/-
  The reference's bounds: each such address once, rising.
-/
import Derived.Test.YtcpneggifmldoaaSome
import Derived.Test.YtcpneggifmldoaaBnds
import Derived.Test.YtcpneggifmldoaaXx11
namespace Go.Proofs.Ytcpneggifmldoaa.X
open Go.RowKit Go.Proofs.YtcpneggifmldoaaW.PrintWords Go.Proofs.YtcpneggifmldoaaW.PrintLast Go.Proofs.YtcpneggifmldoaaW.PrintMore
def lastOf (out : List Int) : Int := out.getLast?.getD (-1)
theorem lastOf_nil : lastOf [] = -1 := rfl
theorem lastOf_append (out : List Int) (m : Int) : lastOf (out ++ [m]) = m := by simp [lastOf]
theorem lastOf_rd {out : List Int} (h : out ≠ []) : rd out ((out.length : Int) - 1) = lastOf out := by
  have hp : 0 < out.length := List.length_pos_iff.2 h
  unfold rd lastOf
  rw [List.getLast?_eq_getElem?, show (((out.length : Int) - 1).toNat) = out.length - 1 by omega]
  simp [List.getD, List.getElem?_eq_getElem (show out.length - 1 < out.length by omega)]
theorem rises_le_last : ∀ {out : List Int}, Rises out → ∀ x ∈ out, x ≤ lastOf out := by
  intro out h x hx
  have hne : out ≠ [] := by rintro rfl; cases hx
  obtain ⟨i, hi, rfl⟩ := List.mem_iff_getElem.1 hx
  unfold lastOf
  rw [List.getLast?_eq_getElem?, List.getElem?_eq_getElem (show out.length - 1 < out.length by omega)]
  simp only [Option.getD_some]
  rcases Nat.lt_or_ge i (out.length - 1) with h1 | h1
  · have := List.pairwise_iff_getElem.1 h i (out.length - 1) hi (by omega) h1
    omega
  · have : i = out.length - 1 := by omega
    subst this
    omega
/-- The least that is beyond the last one. -/
def leastS (L : Int) (b : List Int) (m : Int) : Int := b.foldl (fun m y => if y < m ∧ L < y then y else m) m
theorem leastS_spec (L : Int) : ∀ (b : List Int) (m : Int), (leastS L b m ∈ b ∨ leastS L b m = m) ∧ leastS L b m ≤ m ∧ (L < m → L < leastS L b m) ∧ ∀ y ∈ b, L < y → leastS L b m ≤ y := by
  intro b
  induction b with
  | nil => intro m; simp [leastS]
  | cons y r ih =>
    intro m
    have hu : leastS L (y :: r) m = leastS L r (if y < m ∧ L < y then y else m) := rfl
    obtain ⟨h1, h2, h3, h4⟩ := ih (if y < m ∧ L < y then y else m)
    rw [hu]
    by_cases hc : y < m ∧ L < y
    · rw [if_pos hc] at h1 h2 h3 h4 ⊢
      refine ⟨?_, by omega, fun _ => h3 hc.2, fun q hq hL => ?_⟩
      · rcases h1 with h1 | h1
        · exact .inl (List.mem_cons_of_mem _ h1)
        · left; rw [h1]; exact List.mem_cons_self
      · rcases List.mem_cons.1 hq with rfl | hq
        · exact h2
        · exact h4 q hq hL
    · rw [if_neg hc] at h1 h2 h3 h4 ⊢
      refine ⟨?_, h2, h3, fun q hq hL => ?_⟩
      · rcases h1 with h1 | h1
        · exact .inl (List.mem_cons_of_mem _ h1)
        · exact .inr h1
      · rcases List.mem_cons.1 hq with rfl | hq
        · omega
        · exact h4 q hq hL
/-- The inner loop of the reference's bounds. -/
theorem bounds_l2 (b out : List Int) (hb : b.length ≤ 4611686018427387904) (hbp : ∀ y ∈ b, 0 ≤ y) (ho : out.length < 17592186044416) (r : List Int) (d : Nat) : ∀ (i m : Int), 0 ≤ i → (b.length : Int) - i = d →
    Ev (fun k => vizardref18_bounds.l1 k b (out ++ [leastS (lastOf out) (b.drop i.toNat) m])) r → Ev (fun k => vizardref18_bounds.l2 k b out m i) r := by
  induction d with
  | zero =>
    intro i m h0 hd hr
    refine Ev.step (f := fun k => vizardref18_bounds.l1 k b (out ++ [leastS (lastOf out) (b.drop i.toNat) m])) (fun k => ?_) hr
    simp only [vizardref18_bounds.l2]
    rw [if_neg (by omega), if_pos ho, List.drop_of_length_le (by omega)]
    rfl
  | succ d ih =>
    intro i m h0 hd hr
    obtain ⟨h', hrd, hdr⟩ := rd_drop (b := b) h0 (by omega)
    have e : wrap64 (i + 1) = i + 1 := by unfold wrap64; omega
    have hu : leastS (lastOf out) (b.drop i.toNat) m = leastS (lastOf out) (b.drop (i + 1).toNat) (if rd b i < m ∧ lastOf out < rd b i then rd b i else m) := by
      rw [hdr, hrd]; rfl
    rw [hu] at hr
    refine Ev.step (f := fun k => vizardref18_bounds.l2 k b out (if rd b i < m ∧ lastOf out < rd b i then rd b i else m) (i + 1)) (fun k => ?_) (ih (i + 1) _ (by omega) (by omega) hr)
    simp only [vizardref18_bounds.l2]
    rw [if_pos (by omega), if_pos h0, e]
    by_cases h1 : rd b i < m
    · rw [if_pos h1]
      by_cases h2 : out = []
      · subst h2
        have hp : lastOf [] < rd b i := by
          rw [lastOf_nil, hrd]
          have := hbp _ (List.getElem_mem h'); omega
        rw [if_pos (by simp), if_pos ⟨h1, hp⟩]
      · have hp : 0 < out.length := List.length_pos_iff.2 h2
        have e2 : wrap64 ((out.length : Int) - 1) = (out.length : Int) - 1 := by unfold wrap64; omega
        rw [if_neg (by omega), e2, if_pos (by omega), if_pos (by omega), lastOf_rd h2]
        by_cases h3 : rd b i > lastOf out
        · rw [if_pos h3, if_pos ⟨h1, h3⟩]
        · rw [if_neg h3, if_neg (fun h => h3 h.2)]
    · rw [if_neg h1, if_neg (fun h => h1 h.1)]
/-- The outer loop of the reference's bounds. -/
theorem bounds_l1 (b : List Int) (hb : b.length ≤ 4611686018427387904) (hbp : ∀ y ∈ b, 0 ≤ y ∧ y ≤ 4294967296) (d : Nat) : ∀ out : List Int, Rises out → (∀ x ∈ out, x ∈ b ∨ x = 4294967296) → (∀ y ∈ b, y ≤ lastOf out → y ∈ out) → 4294967296 - lastOf out ≤ d →
    ∃ B, Rises B ∧ (∀ x, x ∈ B ↔ x ∈ b ∨ x = 4294967296) ∧ Ev (fun k => vizardref18_bounds.l1 k b out) B := by
  induction d with
  | zero =>
    intro out h1 h2 h3 hd
    have hne : out ≠ [] := by rintro rfl; rw [lastOf_nil] at hd; omega
    have hp : 0 < out.length := List.length_pos_iff.2 hne
    have hlm : lastOf out ∈ out := by
      unfold lastOf
      rw [List.getLast?_eq_getElem?, List.getElem?_eq_getElem (show out.length - 1 < out.length by omega)]
      exact List.getElem_mem _
    have hl : lastOf out = 4294967296 := by
      rcases h2 _ hlm with h | h
      · have := (hbp _ h).2; omega
      · exact h
    have hrng : ∀ x ∈ out, 0 ≤ x ∧ x ≤ 4294967296 := fun x hx => by
      rcases h2 x hx with h | h
      · exact hbp x h
      · omega
    have hlen := rises_len h1 hrng
    refine ⟨out, h1, fun x => ⟨h2 x, fun hx => ?_⟩, ?_⟩
    · rcases hx with hx | rfl
      · exact h3 x hx (by have := (hbp x hx).2; omega)
      · rw [← hl]; exact hlm
    · have e2 : wrap64 ((out.length : Int) - 1) = (out.length : Int) - 1 := by unfold wrap64; omega
      refine ⟨2, fun k hk => ?_⟩
      obtain ⟨k, rfl⟩ : ∃ m, k = m + 1 + 1 := ⟨k - 2, by omega⟩
      show vizardref18_bounds.l1 (k + 1 + 1) b out = some out
      rw [vizardref18_bounds.l1, if_neg (by omega), e2, if_pos (by omega), if_pos (by omega), lastOf_rd hne, hl, vizardref18_bounds.j2]
      simp
  | succ d ih =>
    intro out h1 h2 h3 hd
    have hrng : ∀ x ∈ out, 0 ≤ x ∧ x ≤ 4294967296 := fun x hx => by
      rcases h2 x hx with h | h
      · exact hbp x h
      · omega
    have hlen := rises_len h1 hrng
    by_cases hfin : 4294967296 ≤ lastOf out
    · -- it is over
      have := ih out h1 h2 h3 (by omega)
      exact this
    · obtain ⟨s1, s2, s3, s4⟩ := leastS_spec (lastOf out) b 4294967296
      have hgt := s3 (by omega)
      have hrise : Rises (out ++ [leastS (lastOf out) b 4294967296]) := List.pairwise_append.2 ⟨h1, List.pairwise_singleton _ _, fun x hx y hy => by
        rw [List.mem_singleton] at hy
        have := rises_le_last h1 x hx
        omega⟩
      obtain ⟨B, b1, b2, b3⟩ := ih (out ++ [leastS (lastOf out) b 4294967296]) hrise
        (fun x hx => by
          rcases List.mem_append.1 hx with hx | hx
          · exact h2 x hx
          · rw [List.mem_singleton] at hx
            rw [hx]; exact s1)
        (fun y hy hle => by
          rw [lastOf_append] at hle
          rw [List.mem_append, List.mem_singleton]
          by_cases hl : y ≤ lastOf out
          · exact .inl (h3 y hy hl)
          · right
            have := s4 y hy (by omega)
            omega)
        (by rw [lastOf_append]; omega)
      refine ⟨B, b1, b2, ?_⟩
      have hl2 : Ev (fun k => vizardref18_bounds.l2 k b out 4294967296 0) B := bounds_l2 b out hb (fun y hy => (hbp y hy).1) (by omega) B b.length 0 4294967296 (by omega) (by omega) (by simpa using b3)
      have hj2 : Ev (fun k => vizardref18_bounds.j2 k b out true) B := Ev.step (f := fun k => vizardref18_bounds.l2 k b out 4294967296 0) (fun k => by rw [vizardref18_bounds.j2]; rfl) hl2
      by_cases hne : out = []
      · subst hne
        exact Ev.step (f := fun k => vizardref18_bounds.j2 k b [] true) (fun k => by rw [vizardref18_bounds.l1]; rfl) hj2
      · have hp : 0 < out.length := List.length_pos_iff.2 hne
        have e2 : wrap64 ((out.length : Int) - 1) = (out.length : Int) - 1 := by unfold wrap64; omega
        refine Ev.step (f := fun k => vizardref18_bounds.j2 k b out true) (fun k => ?_) hj2
        rw [vizardref18_bounds.l1, if_neg (by omega), e2, if_pos (by omega), if_pos (by omega), lastOf_rd hne]
        simp only [show lastOf out < 4294967296 by omega, decide_true]
theorem ends_pair {z : S40} (h : AdrR z) (hr : rightR z) : prefix_Ends.f z.f2.f0 z.f2.f1 = some (z.f2.f0, z.f2.f0 + sz z.f2.f1 - 1) ∧ vizardref04_Ends.f z.f2.f0 z.f2.f1 = some (z.f2.f0, z.f2.f0 + sz z.f2.f1 - 1) ∧ wrap64 z.f2.f0 = z.f2.f0 ∧ wrap64 (wrap64 (z.f2.f0 + sz z.f2.f1 - 1) + 1) = z.f2.f0 + sz z.f2.f1 := by
  have h2 := sum_lt h.1 h.2 hr.2.2.1
  have h3 := sz_pos z.f2.f1
  have h4 := h.1
  refine ⟨by rw [ends_f h.1 h.2, if_pos hr.2.2.1], by rw [refends_f h.1 h.2, if_pos hr.2.2.1], ?_, ?_⟩
  · unfold wrap64; omega
  · unfold wrap64; omega
theorem bounds_l0 {l : List S40} (hw : ∀ z ∈ l, AdrR z) (hc : checkS l = 0) (r : List Int) (d : Nat) : ∀ (i : Int) (b : List Int), 0 ≤ i → (l.length : Int) - i = d → b.length + 2 * d ≤ 1000 →
    Ev (fun k => vizardref18_bounds.l1 k (b ++ bnds (l.drop i.toNat)) []) r → Ev (fun k => vizardref18_bounds.l0 k l b i) r := by
  have hn := (checkS_ok.1 hc).1
  induction d with
  | zero =>
    intro i b h0 hd hbl hr
    refine Ev.step (f := fun k => vizardref18_bounds.l1 k b []) (fun k => ?_) (by simpa [bnds, List.drop_of_length_le (show l.length ≤ i.toNat by omega)] using hr)
    simp only [vizardref18_bounds.l0]
    rw [if_neg (by omega)]
  | succ d ih =>
    intro i b h0 hd hbl hr
    obtain ⟨h', hrd, hdr⟩ := get_rd (l := l) h0 (by omega)
    have e : wrap64 (i + 1) = i + 1 := by unfold wrap64; omega
    have hz := List.getElem_mem h'
    obtain ⟨-, e1, e2, e3⟩ := ends_pair (hw _ hz) ((checkS_ok.1 hc).2 _ hz)
    refine Ev.step (f := fun k => vizardref18_bounds.l0 k l (b ++ [(l[i.toNat]).f2.f0, (l[i.toNat]).f2.f0 + sz (l[i.toNat]).f2.f1]) (i + 1)) (fun k => ?_) (ih (i + 1) (b ++ [(l[i.toNat]).f2.f0, (l[i.toNat]).f2.f0 + sz (l[i.toNat]).f2.f1]) (by omega) (by omega) (by rw [List.length_append]; simp only [List.length_cons, List.length_nil]; omega) ?_)
    · simp only [vizardref18_bounds.l0]
      rw [if_pos (by omega), if_pos h0, hrd, e1]
      simp only [Option.bind_some, e, e2, e3]
      rw [if_pos (by simp; omega)]
    · rw [List.append_assoc]
      rw [hdr] at hr
      simpa [bnds] using hr
/-- The reference's bounds. -/
theorem refbounds_f {l : List S40} (hw : ∀ z ∈ l, AdrR z) (hc : checkS l = 0) : ∃ B, Rises B ∧ (∀ x, x ∈ B ↔ x ∈ [0, 4294967296] ++ bnds l) ∧ Ev (fun k => vizardref18_bounds.f k l) B := by
  have hn := (checkS_ok.1 hc).1
  have hb := bnds_range hw (checkS_ok.1 hc).2
  have hbl := bnds_len l
  obtain ⟨B, h1, h2, h3⟩ := bounds_l1 ([0] ++ bnds l) (by simp; omega) (fun y hy => by
    rcases List.mem_append.1 hy with hy | hy
    · rw [List.mem_singleton] at hy; omega
    · exact hb y hy) 4294967297 [] (by simp [Rises]) (by simp) (fun y hy hle => by
      rw [lastOf_nil] at hle
      exfalso
      rcases List.mem_append.1 hy with hy | hy
      · rw [List.mem_singleton] at hy; omega
      · have := hb y hy; omega) (by rw [lastOf_nil]; omega)
  refine ⟨B, h1, fun x => ?_, bounds_l0 hw hc B l.length 0 [0] (by omega) (by omega) (by simp; omega) (by simpa using h3)⟩
  rw [h2]
  simp only [List.mem_append, List.mem_cons, List.not_mem_nil, or_false]
  constructor
  · rintro ((h | h) | h)
    · exact .inl (.inl h)
    · exact .inr h
    · exact .inl (.inr h)
  · rintro ((h | h) | h)
    · exact .inl (.inl h)
    · exact .inr h
    · exact .inl (.inr h)
end Go.Proofs.Ytcpneggifmldoaa.X

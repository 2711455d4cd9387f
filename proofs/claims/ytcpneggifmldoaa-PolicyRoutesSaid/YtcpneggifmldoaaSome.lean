/-
  The reference's search for a packet that may go to an address finds one exactly when there is one.
-/
import Derived.Test.YtcpneggifmldoaaReach
import Derived.Test.YtcpneggifmldoaaSemR
import Derived.Test.YtcpneggifmldoaaXx15
namespace Go.Proofs.Ytcpneggifmldoaa.X
open Go.RowKit Go.Proofs.YtcpneggifmldoaaW.PrintWords Go.Proofs.YtcpneggifmldoaaW.PrintLast Go.Proofs.YtcpneggifmldoaaW.PrintMore
/-! ### a protocol that no rule names -/
def otherS (l : List S40) : Int := match ((protoNums 255).filter (fun x => !hasProto l x)).take 1 with | [q] => q | _ => 1
theorem other_none {l : List S40} (h : ∀ q : Int, 1 ≤ q → q ≤ 255 → hasProto l q = true) : otherS l = 1 := by
  unfold otherS
  have : (protoNums 255).filter (fun x => !hasProto l x) = [] := by
    rw [List.filter_eq_nil_iff]
    intro a ha
    have := mem_protoNums.1 ha
    simp [h a this.1 this.2]
  rw [this]
  rfl
theorem other_found {l : List S40} {p : Int} (h1 : 1 ≤ p) (h2 : p ≤ 255) (h : ∀ q : Int, 1 ≤ q → q < p → hasProto l q = true) (hp : hasProto l p = false) : otherS l = p := by
  unfold otherS
  obtain ⟨r, hr⟩ := protoNums_split p h1 h2
  rw [hr, List.filter_append]
  have : (protoNums (p - 1).toNat).filter (fun x => !hasProto l x) = [] := by
    rw [List.filter_eq_nil_iff]
    intro a ha
    have := mem_protoNums.1 ha
    simp [h a this.1 (by omega)]
  rw [this]
  simp [hp]
/-- The inner loop: does a rule behind place i name it? -/
theorem other_inner (l : List S40) (hl : l.length ≤ 4611686018427387904) (p : Int) (d : Nat) : ∀ (i : Int) (b : Bool), 0 ≤ i → (l.length : Int) - i = d → ∀ r, Ev (fun k => if (b || hasProto (l.drop i.toNat) p) = true then vizardref18_other.l0 k l (wrap64 (p + 1)) else some p) r → Ev (fun k => vizardref18_other.l1 k l p b i) r := by
  induction d with
  | zero =>
    intro i b h0 hd r hr
    refine Ev.step (f := fun k => if (b || hasProto (l.drop i.toNat) p) = true then vizardref18_other.l0 k l (wrap64 (p + 1)) else some p) (fun k => ?_) hr
    simp only [vizardref18_other.l1]
    rw [if_neg (by omega), List.drop_of_length_le (by omega)]
    simp [hasProto]
  | succ d ih =>
    intro i b h0 hd r hr
    obtain ⟨h', hrd, hdr⟩ := get_rd (l := l) h0 (by omega)
    have e : wrap64 (i + 1) = i + 1 := by unfold wrap64; omega
    have hh : hasProto (l.drop i.toNat) p = ((rd_T40 l i).f1 == p || hasProto (l.drop (i + 1).toNat) p) := by rw [hdr, hrd]; rfl
    cases b with
    | true =>
      refine Ev.step (f := fun k => vizardref18_other.l1 k l p true (i + 1)) (fun k => ?_) (ih (i + 1) true (by omega) (by omega) r ?_)
      · simp only [vizardref18_other.l1]
        rw [if_pos (show i < (l.length : Int) by omega), e]
        rfl
      · simpa using hr
    | false =>
      refine Ev.step (f := fun k => vizardref18_other.l1 k l p ((rd_T40 l i).f1 == p) (i + 1)) (fun k => ?_) (ih (i + 1) _ (by omega) (by omega) r ?_)
      · simp only [vizardref18_other.l1]
        rw [if_pos (show i < (l.length : Int) by omega), if_pos h0, e]
        simp
      · rw [hh] at hr
        simpa using hr
theorem other_outer (l : List S40) (hl : l.length ≤ 4611686018427387904) (d : Nat) : ∀ p : Int, 1 ≤ p → 256 - p = d → (∀ q : Int, 1 ≤ q → q < p → hasProto l q = true) → Ev (fun k => vizardref18_other.l0 k l p) (otherS l) := by
  induction d with
  | zero =>
    intro p h1 hd h
    refine ⟨1, fun k hk => ?_⟩
    obtain ⟨k, rfl⟩ : ∃ m, k = m + 1 := ⟨k - 1, by omega⟩
    simp only [vizardref18_other.l0]
    rw [if_neg (by omega), other_none (fun q q1 q2 => h q q1 (by omega))]
  | succ d ih =>
    intro p h1 hd h
    have e : wrap64 (p + 1) = p + 1 := by unfold wrap64; omega
    refine Ev.step (f := fun k => vizardref18_other.l1 k l p false 0) (fun k => ?_) (other_inner l hl p l.length 0 false (by omega) (by omega) _ ?_)
    · simp only [vizardref18_other.l0]
      rw [if_pos (by omega)]
    · simp only [Bool.false_or, Int.toNat_zero, List.drop_zero]
      cases hp : hasProto l p
      · rw [other_found h1 (by omega) h hp]
        exact ⟨0, fun k _ => by simp⟩
      · simp only [if_true, e]
        exact ih (p + 1) (by omega) (by omega) (fun q q1 q2 => by
          by_cases e2 : q = p
          · rw [e2]; exact hp
          · exact h q q1 (by omega))
theorem other_f (l : List S40) (hl : l.length ≤ 4611686018427387904) : Ev (fun k => vizardref18_other.f k l) (otherS l) := other_outer l hl 255 1 (by omega) (by omega) (fun q q1 q2 => by omega)
theorem otherS_range (l : List S40) : 1 ≤ otherS l ∧ otherS l ≤ 255 := by
  cases h : ((protoNums 255).filter (fun x => !hasProto l x)).take 1 with
  | nil => simp [otherS, h]
  | cons q r =>
    have hq : q ∈ (protoNums 255).filter (fun x => !hasProto l x) := List.mem_of_mem_take (by rw [h]; exact List.mem_cons_self)
    have := mem_protoNums.1 (List.mem_filter.1 hq).1
    cases r with
    | nil => simp only [otherS, h]; omega
    | cons _ _ => simp [otherS, h]
/-! ### may some packet go? as the reference asks it -/
def protoAt (l : List S40) (i : Int) : Int := if i < l.length ∧ (rd_T40 l i).f1 ≠ 0 then (rd_T40 l i).f1 else otherS l
def tryAt (l : List S40) (p a j : Int) : Bool :=
  allowS l p a (if j < l.length then (rd_T40 l j).f3 else 0) || (decide (j < l.length) && decide ((rd_T40 l j).f4 < 65535) && allowS l p a ((rd_T40 l j).f4 + 1))
/-- From place j on, up to the length. -/
def anyFrom (f : Int → Bool) (n j : Int) : Bool := (List.range (n + 1 - j).toNat).any fun q => f (j + q)
theorem anyFrom_step (f : Int → Bool) (n j : Int) (h : j ≤ n) : anyFrom f n j = (f j || anyFrom f n (j + 1)) := by
  unfold anyFrom
  rw [show (n + 1 - j).toNat = (n + 1 - (j + 1)).toNat + 1 by omega, List.range_succ_eq_map, List.any_cons, List.any_map]
  congr 1
  · simp
  · congr 1
    funext q
    simp only [Function.comp]
    congr 1
    omega
theorem anyFrom_end (f : Int → Bool) (n j : Int) (h : n < j) : anyFrom f n j = false := by
  unfold anyFrom
  rw [show (n + 1 - j).toNat = 0 by omega]
  rfl
theorem anyFrom_iff (f : Int → Bool) (n j : Int) : anyFrom f n j = true ↔ ∃ q, j ≤ q ∧ q ≤ n ∧ f q = true := by
  unfold anyFrom
  simp only [List.any_eq_true, List.mem_range]
  constructor
  · rintro ⟨q, hq, h⟩
    exact ⟨j + q, by omega, by omega, h⟩
  · rintro ⟨q, h1, h2, h⟩
    exact ⟨(q - j).toNat, by omega, by rw [show j + ((q - j).toNat : Int) = q by omega]; exact h⟩
section
variable {l : List S40} (hw : ∀ z ∈ l, AdrR z) (hc : checkS l = 0) {a : Int} (ha : 0 ≤ a) (ha2 : a < 4294967296)
include hw hc ha ha2
theorem refAllow_ok (p port : Int) : Ev (fun k => vizardref18_Allow.f k l p a port) (allowS l p a port) := by
  have := refAllow_f l hw (by have := (checkS_ok.1 hc).1; omega) p a port ha ha2
  simpa [AllowS, hc] using this
theorem some_j4 (i j p : Int) (hj0 : 0 ≤ j) (hj : j ≤ l.length) (r : Bool) (hr : Ev (fun k => vizardref18_some.l1 k l a i (j + 1)) r) :
    Ev (fun k => vizardref18_some.j4 k l a i j p (if j < l.length then (rd_T40 l j).f3 else 0)) (tryAt l p a j || r) := by
  have hn := (checkS_ok.1 hc).1
  have e : wrap64 (j + 1) = j + 1 := by unfold wrap64; omega
  refine Ev.step (f := fun k => (vizardref18_Allow.f k l p a (if j < l.length then (rd_T40 l j).f3 else 0)).bind fun t203 => (if t203 = true then (some true) else (if j < (l.length : Int) then (if 0 ≤ j then (if ((rd_T40 l j).f4) < 65535 then ((vizardref18_Allow.f k l p a (wrap64 (((rd_T40 l j).f4) + 1))).bind fun t206 => (if t206 = true then (some true) else (vizardref18_some.l1 k l a i (wrap64 (j + 1))))) else (vizardref18_some.l1 k l a i (wrap64 (j + 1)))) else (none)) else (vizardref18_some.l1 k l a i (wrap64 (j + 1)))))) (fun k => by simp only [vizardref18_some.j4]) ?_
  refine Ev.bind (refAllow_ok hw hc ha ha2 _ _) ?_
  rw [e]
  unfold tryAt
  cases h1 : allowS l p a (if j < l.length then (rd_T40 l j).f3 else 0)
  · simp only [Bool.false_or, Bool.false_eq_true, if_false]
    by_cases hlt : j < (l.length : Int)
    · obtain ⟨h', hrd, _⟩ := get_rd (l := l) hj0 hlt
      have hz := (checkS_ok.1 hc).2 _ (List.getElem_mem h')
      simp only [hlt, if_true, hj0, decide_true, Bool.true_and]
      by_cases h65 : (rd_T40 l j).f4 < 65535
      · have e2 : wrap64 ((rd_T40 l j).f4 + 1) = (rd_T40 l j).f4 + 1 := by
          have := hz.2.2.2
          rw [hrd] at *
          unfold wrap64; omega
        simp only [h65, if_true, decide_true, Bool.true_and, e2]
        refine Ev.bind (refAllow_ok hw hc ha ha2 _ _) ?_
        cases allowS l p a ((rd_T40 l j).f4 + 1)
        · simpa using hr
        · exact ⟨0, fun k _ => by simp⟩
      · simp only [h65, if_false, decide_false, Bool.false_and, Bool.false_or]
        exact hr
    · simp only [hlt, if_false, decide_false, Bool.false_and, Bool.false_or]
      exact hr
  · exact ⟨0, fun k _ => by simp⟩
theorem some_l1 (i : Int) (hi0 : 0 ≤ i) (hi : i ≤ l.length) (r : Bool) (hr : Ev (fun k => vizardref18_some.l0 k l a (i + 1)) r) (d : Nat) : ∀ j : Int, 0 ≤ j → (l.length : Int) + 1 - j = d → Ev (fun k => vizardref18_some.l1 k l a i j) (anyFrom (tryAt l (protoAt l i) a) l.length j || r) := by
  have hn := (checkS_ok.1 hc).1
  have e : wrap64 (i + 1) = i + 1 := by unfold wrap64; omega
  induction d with
  | zero =>
    intro j h0 hd
    rw [anyFrom_end _ _ _ (by omega), Bool.false_or]
    refine Ev.step (f := fun k => vizardref18_some.l0 k l a (i + 1)) (fun k => ?_) hr
    simp only [vizardref18_some.l1]
    rw [if_neg (by omega), e]
  | succ d ih =>
    intro j h0 hd
    rw [anyFrom_step _ _ _ (by omega), Bool.or_assoc]
    have hr4 := some_j4 hw hc ha ha2 i j (protoAt l i) h0 (by omega) _ (ih (j + 1) (by omega) (by omega))
    -- the port's place
    have hr3 : Ev (fun k => vizardref18_some.j3 k l a i j (protoAt l i)) (tryAt l (protoAt l i) a j || (anyFrom (tryAt l (protoAt l i) a) l.length (j + 1) || r)) := by
      refine Ev.step (f := fun k => vizardref18_some.j4 k l a i j (protoAt l i) (if j < l.length then (rd_T40 l j).f3 else 0)) (fun k => ?_) hr4
      simp only [vizardref18_some.j3]
      by_cases hlt : j < (l.length : Int)
      · simp only [hlt, if_true, h0]
      · simp only [hlt, if_false]
    -- the protocol's place
    have hr2 : ∀ x, (x = protoAt l i ∧ x ≠ 0 ∨ x = 0 ∧ protoAt l i = otherS l) → Ev (fun k => vizardref18_some.j2 k l a i j x) (tryAt l (protoAt l i) a j || (anyFrom (tryAt l (protoAt l i) a) l.length (j + 1) || r)) := by
      intro x hx
      refine Ev.step (f := fun k => if x = 0 then ((vizardref18_other.f k l).bind fun t201 => (vizardref18_some.j3 k l a i j t201)) else (vizardref18_some.j3 k l a i j x)) (fun k => by simp only [vizardref18_some.j2]) ?_
      rcases hx with ⟨h1, h2⟩ | ⟨h1, h2⟩
      · simp only [h2, if_false]
        rw [h1]; exact hr3
      · simp only [h1, if_true]
        refine Ev.bind (other_f l (by omega)) ?_
        rw [← h2]; exact hr3
    refine Ev.step (f := fun k => vizardref18_some.j2 k l a i j (if i < l.length then (rd_T40 l i).f1 else 0)) (fun k => ?_) (hr2 _ ?_)
    · simp only [vizardref18_some.l1]
      rw [if_pos (by omega)]
      by_cases hlt : i < (l.length : Int)
      · simp only [hlt, if_true, hi0]
      · simp only [hlt, if_false]
    · unfold protoAt
      by_cases hlt : i < (l.length : Int)
      · by_cases hz : (rd_T40 l i).f1 = 0
        · right; simp [hlt, hz]
        · left; simp [hlt, hz]
      · right; simp [hlt]
theorem some_l0 (d : Nat) : ∀ i : Int, 0 ≤ i → (l.length : Int) + 1 - i = d → Ev (fun k => vizardref18_some.l0 k l a i) (anyFrom (fun i => anyFrom (tryAt l (protoAt l i) a) l.length 0) l.length i) := by
  induction d with
  | zero =>
    intro i h0 hd
    rw [anyFrom_end _ _ _ (by omega)]
    refine ⟨1, fun k hk => ?_⟩
    obtain ⟨k, rfl⟩ : ∃ m, k = m + 1 := ⟨k - 1, by omega⟩
    simp only [vizardref18_some.l0]
    rw [if_neg (by omega)]
  | succ d ih =>
    intro i h0 hd
    rw [anyFrom_step _ _ _ (by omega)]
    refine Ev.step (f := fun k => vizardref18_some.l1 k l a i 0) (fun k => ?_) (some_l1 hw hc ha ha2 i h0 (by omega) _ (ih (i + 1) (by omega) (by omega)) (l.length + 1) 0 (by omega) (by omega))
    simp only [vizardref18_some.l0]
    rw [if_pos (by omega)]
omit hw ha ha2 in
theorem someS_iff : anyFrom (fun i => anyFrom (tryAt l (protoAt l i) a) l.length 0) l.length 0 = true ↔ canGo l a := by
  have hr := (checkS_ok.1 hc).2
  rw [anyFrom_iff]
  constructor
  · rintro ⟨i, h0, hi, h⟩
    obtain ⟨j, j0, hj, h⟩ := (anyFrom_iff _ _ _).1 h
    have hp : 1 ≤ protoAt l i ∧ protoAt l i ≤ 255 := by
      unfold protoAt
      split
      · rename_i hh
        obtain ⟨h', hrd, _⟩ := get_rd (l := l) h0 hh.1
        have h2 := hh.2
        rw [hrd] at h2 ⊢
        exact ⟨by have := (hr _ (List.getElem_mem h')).1; omega, (hr _ (List.getElem_mem h')).2.1⟩
      · exact otherS_range l
    unfold tryAt at h
    rw [Bool.or_eq_true] at h
    rcases h with h | h
    · refine ⟨_, _, hp.1, hp.2, ?_, ?_, h⟩
      · split
        · rename_i hlt
          obtain ⟨h', hrd, _⟩ := get_rd (l := l) j0 hlt
          have := hr _ (List.getElem_mem h')
          rw [hrd]; exact this.2.2.2.1
        · omega
      · split
        · rename_i hlt
          obtain ⟨h', hrd, _⟩ := get_rd (l := l) j0 hlt
          have := hr _ (List.getElem_mem h')
          rw [hrd]; have := this.2.2.2.2; omega
        · omega
    · simp only [Bool.and_eq_true, decide_eq_true_eq] at h
      obtain ⟨⟨hlt, h65⟩, h⟩ := h
      obtain ⟨h', hrd, _⟩ := get_rd (l := l) j0 hlt
      have := hr _ (List.getElem_mem h')
      refine ⟨_, _, hp.1, hp.2, ?_, by omega, h⟩
      rw [hrd]; have := this.2.2.2; omega
  · intro h
    obtain ⟨p, hp, x, hx, h⟩ := canGo_reach hr h
    -- a place of the protocol
    obtain ⟨i, hi0, hi, hpi⟩ : ∃ i : Int, 0 ≤ i ∧ i ≤ l.length ∧ protoAt l i = p := by
      unfold protosL at hp
      rcases List.mem_append.1 hp with hp | hp
      · obtain ⟨h1, h2⟩ := List.mem_filter.1 hp
        have h1 := mem_protoNums.1 h1
        obtain ⟨z, hz, e⟩ := hasProto_iff.1 h2
        obtain ⟨q, hq, rfl⟩ := List.mem_iff_getElem.1 hz
        obtain ⟨h', hrd, _⟩ := get_rd (l := l) (i := q) (by omega) (by omega)
        refine ⟨q, by omega, by omega, ?_⟩
        unfold protoAt
        have hrd' : rd_T40 l q = l[q] := by rw [hrd]; simp
        rw [hrd', if_pos ⟨by omega, by rw [e]; omega⟩, e]
      · refine ⟨l.length, by omega, by omega, ?_⟩
        unfold protoAt
        rw [if_neg (by omega)]
        cases hf : ((protoNums 255).filter (fun x => !hasProto l x)).take 1 with
        | nil => rw [hf] at hp; cases hp
        | cons q r =>
          have hlen : (((protoNums 255).filter (fun x => !hasProto l x)).take 1).length ≤ 1 := by rw [List.length_take]; omega
          rw [hf] at hlen hp
          cases r with
          | nil => simp only [otherS, hf]; exact (List.mem_singleton.1 hp).symm
          | cons _ _ => simp at hlen
    refine ⟨i, hi0, hi, (anyFrom_iff _ _ _).2 ?_⟩
    rw [hpi]
    rcases mem_ports.1 hx with rfl | ⟨z, hz, hf, hxz⟩
    · refine ⟨l.length, by omega, by omega, ?_⟩
      unfold tryAt
      rw [if_neg (by omega), h]
      rfl
    · obtain ⟨q, hq, rfl⟩ := List.mem_iff_getElem.1 hz
      obtain ⟨h', hrd, _⟩ := get_rd (l := l) (i := q) (by omega) (by omega)
      have hrd' : rd_T40 l q = l[q] := by rw [hrd]; simp
      refine ⟨q, by omega, by omega, ?_⟩
      unfold tryAt
      rw [hrd', if_pos (by omega)]
      rcases hxz with rfl | ⟨h65, rfl⟩
      · rw [h]; rfl
      · rw [h]
        have hlt : (q : Int) < l.length := by omega
        simp [h65, hlt]
theorem someref_f : Ev (fun k => vizardref18_some.f k l a) (reachS l a) := by
  have h := some_l0 hw hc ha ha2 (l.length + 1) 0 (by omega) (by omega)
  have e : anyFrom (fun i => anyFrom (tryAt l (protoAt l i) a) l.length 0) l.length 0 = reachS l a := by
    rw [Bool.eq_iff_iff, someS_iff hc, reachS_iff (checkS_ok.1 hc).2]
  rw [e] at h
  exact h
end
end Go.Proofs.Ytcpneggifmldoaa.X

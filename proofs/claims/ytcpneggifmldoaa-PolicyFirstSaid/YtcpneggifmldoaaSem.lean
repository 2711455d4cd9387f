/-
  What rules say: which are right, and what the first fitting one answers.
-/
import Derived.Test.YtcpneggifmldoaaPre
import Derived.Test.YtcpneggifmldoaaXx18
namespace Go.Proofs.Ytcpneggifmldoaa.X
open Go.RowKit Go.Proofs.YtcpneggifmldoaaW.PrintWords Go.Proofs.YtcpneggifmldoaaW.PrintLast Go.Proofs.YtcpneggifmldoaaW.PrintMore
/-- The rule's address is a whole number of 32 bits. -/
def AdrR (z : S40) : Prop := 0 ≤ z.f2.f0 ∧ z.f2.f0 < 4294967296
/-- A right rule. -/
def rightR (z : S40) : Prop := 0 ≤ z.f1 ∧ z.f1 ≤ 255 ∧ okP z.f2.f0 z.f2.f1 ∧ 0 ≤ z.f3 ∧ z.f3 ≤ z.f4 ∧ z.f4 ≤ 65535
instance (z : S40) : Decidable (rightR z) := inferInstanceAs (Decidable (_ ∧ _ ∧ _ ∧ _ ∧ _ ∧ _))
/-- What is wrong with rules. -/
def checkS (l : List S40) : Int := if l.length > 32 then 8 else if ∀ z ∈ l, rightR z then 0 else 2
theorem checkS_ok {l : List S40} : checkS l = 0 ↔ l.length ≤ 32 ∧ ∀ z ∈ l, rightR z := by
  unfold checkS
  by_cases h : l.length > 32
  · rw [if_pos h]; constructor
    · intro e; simp at e
    · intro e; omega
  · rw [if_neg h]
    by_cases h2 : ∀ z ∈ l, rightR z
    · rw [if_pos h2]; exact ⟨fun _ => ⟨by omega, h2⟩, fun _ => rfl⟩
    · rw [if_neg h2]; constructor
      · intro e; simp at e
      · intro e; exact absurd e.2 h2
/-- The first rule that fits says it. -/
def allowS : List S40 → Int → Int → Int → Bool
  | [], _, _, _ => false
  | z :: r, p, a, port => if (z.f1 = 0 ∨ z.f1 = p) ∧ hasP z.f2.f0 z.f2.f1 a ∧ port ≥ z.f3 ∧ port ≤ z.f4 then z.f0 else allowS r p a port
theorem right_f {z : S40} (h : AdrR z) : policy_right.f z.f0 z.f1 z.f2.f0 z.f2.f1 z.f3 z.f4 = some (decide (rightR z)) := by
  unfold policy_right.f rightR
  rw [check_f h.1 h.2]
  by_cases h1 : 0 ≤ z.f1 <;> by_cases h2 : z.f1 ≤ 255 <;> by_cases h3 : okP z.f2.f0 z.f2.f1 <;> by_cases h4 : 0 ≤ z.f3 <;> by_cases h5 : z.f3 ≤ z.f4 <;> simp [h1, h2, h3, h4, h5]
theorem get_rd {l : List S40} {i : Int} (h0 : 0 ≤ i) (h : i < l.length) : ∃ h' : i.toNat < l.length, rd_T40 l i = l[i.toNat] ∧ l.drop i.toNat = l[i.toNat] :: l.drop (i + 1).toNat := by
  have h' : i.toNat < l.length := by omega
  refine ⟨h', by unfold rd_T40; simp [h'], ?_⟩
  rw [show (i + 1).toNat = i.toNat + 1 by omega]
  exact List.drop_eq_getElem_cons h'
theorem chk_loop (l : List S40) (hw : ∀ z ∈ l, AdrR z) (hl : l.length ≤ 4611686018427387904) (d : Nat) : ∀ (k : Nat) (i : Int), d < k → 0 ≤ i → (l.length : Int) - i = d →
    policy_Check.l0 k l (l.length : Int) i = some (if ∀ z ∈ l.drop i.toNat, rightR z then 0 else 2) := by
  induction d with
  | zero =>
    intro k i hk h0 hd
    obtain ⟨k, rfl⟩ : ∃ m, k = m + 1 := ⟨k - 1, by omega⟩
    simp only [policy_Check.l0]
    rw [if_neg (by omega), List.drop_of_length_le (by omega), if_pos (by simp)]
  | succ d ih =>
    intro k i hk h0 hd
    obtain ⟨k, rfl⟩ : ∃ m, k = m + 1 := ⟨k - 1, by omega⟩
    obtain ⟨h', hr, hdr⟩ := get_rd (l := l) h0 (by omega)
    have e : wrap64 (i + 1) = i + 1 := by unfold wrap64; omega
    simp only [policy_Check.l0]
    rw [if_pos (by omega), if_pos h0, if_pos (by omega), e, hr, right_f (hw _ (List.getElem_mem h')), hdr]
    simp only [Option.bind_some, decide_eq_true_eq, List.forall_mem_cons]
    by_cases hz : rightR l[i.toNat]
    · rw [if_pos hz, ih k (i + 1) (by omega) (by omega) (by omega)]
      simp only [hz, true_and]
    · rw [if_neg hz, if_neg (fun h => hz h.1)]
theorem chk_f (l : List S40) (hw : ∀ z ∈ l, AdrR z) (hl : l.length ≤ 4611686018427387904) : Ev (fun k => policy_Check.f k l) (checkS l) := by
  refine ⟨l.length + 1, fun k hk => ?_⟩
  unfold policy_Check.f checkS
  dsimp only
  by_cases h : l.length > 32
  · rw [if_pos (show (l.length : Int) > 32 by omega), if_pos h]
  · rw [if_neg (show ¬ (l.length : Int) > 32 by omega), if_neg h, chk_loop l hw hl l.length k 0 (by omega) (by omega) (by omega)]
    simp
theorem allow_ev (l : List S40) (hw : ∀ z ∈ l, AdrR z) (hl : l.length ≤ 4611686018427387904) (p a port : Int) (ha : 0 ≤ a) (ha2 : a < 4294967296) (d : Nat) : ∀ (k : Nat) (i : Int), d < k → 0 ≤ i → (l.length : Int) - i = d →
    policy_allow.l0 k p a port l (l.length : Int) i = some (allowS (l.drop i.toNat) p a port) := by
  induction d with
  | zero =>
    intro k i hk h0 hd
    obtain ⟨k, rfl⟩ : ∃ m, k = m + 1 := ⟨k - 1, by omega⟩
    simp only [policy_allow.l0]
    rw [if_neg (by omega), List.drop_of_length_le (by omega)]
    rfl
  | succ d ih =>
    intro k i hk h0 hd
    obtain ⟨k, rfl⟩ : ∃ m, k = m + 1 := ⟨k - 1, by omega⟩
    obtain ⟨h', hr, hdr⟩ := get_rd (l := l) h0 (by omega)
    have e : wrap64 (i + 1) = i + 1 := by unfold wrap64; omega
    have hz := hw _ (List.getElem_mem h')
    have ih1 := ih k (i + 1) (by omega) (by omega) (by omega)
    have q : i < (l.length : Int) := by omega
    simp only [policy_allow.l0, q, h0, if_true]
    rw [e, hr, has_f hz.1 hz.2 ha ha2, ih1, hdr]
    generalize l[i.toNat] = z at *
    simp only [Option.bind_some, decide_eq_true_eq, allowS]
    by_cases h1 : z.f1 = 0
    · by_cases h2 : hasP z.f2.f0 z.f2.f1 a <;> by_cases h3 : port ≥ z.f3 <;> by_cases h4 : port ≤ z.f4 <;> simp [h1, h2, h3, h4]
    · by_cases h5 : z.f1 = p <;> by_cases h2 : hasP z.f2.f0 z.f2.f1 a <;> by_cases h3 : port ≥ z.f3 <;> by_cases h4 : port ≤ z.f4 <;> simp [h1, h2, h3, h4, h5]
theorem allow_fev (l : List S40) (hw : ∀ z ∈ l, AdrR z) (hl : l.length ≤ 4611686018427387904) (p a port : Int) (ha : 0 ≤ a) (ha2 : a < 4294967296) : Ev (fun k => policy_allow.f k l p a port) (allowS l p a port) :=
  ⟨l.length + 1, fun k hk => by unfold policy_allow.f; dsimp only; rw [(allow_ev l hw hl p a port ha ha2 l.length k 0 (by omega) (by omega) (by omega))]; rfl⟩
/-- What rules say of a packet; of rules that are not right: no. -/
def AllowS (l : List S40) (p a port : Int) : Bool := decide (checkS l = 0) && allowS l p a port
theorem Allow_f (l : List S40) (hw : ∀ z ∈ l, AdrR z) (hl : l.length ≤ 4611686018427387904) (p a port : Int) (ha : 0 ≤ a) (ha2 : a < 4294967296) : Ev (fun k => policy_Allow.f k l p a port) (AllowS l p a port) := by
  unfold policy_Allow.f AllowS
  refine Ev.bind (chk_f l hw hl) ?_
  by_cases h : checkS l = 0
  · obtain ⟨K, hK⟩ := allow_fev l hw hl p a port ha ha2
    exact ⟨K, fun k hk => by simp only [hK k hk, h]; simp⟩
  · exact ⟨0, fun k _ => by simp [h]⟩
end Go.Proofs.Ytcpneggifmldoaa.X

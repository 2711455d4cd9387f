/-
  The protocols and ports that the program tries find every packet that may go to an address.
-/
import Derived.Test.YtcpneggifmldoaaSem
import Derived.Test.YtcpneggifmldoaaXx8
namespace Go.Proofs.Ytcpneggifmldoaa.X
open Go.RowKit Go.Proofs.YtcpneggifmldoaaW.PrintWords Go.Proofs.YtcpneggifmldoaaW.PrintLast Go.Proofs.YtcpneggifmldoaaW.PrintMore
/-- Some packet may go to the address. -/
def canGo (l : List S40) (a : Int) : Prop := ∃ p port : Int, 1 ≤ p ∧ p ≤ 255 ∧ 0 ≤ port ∧ port ≤ 65535 ∧ allowS l p a port = true
theorem allowB_S {l : List S40} (hw : ∀ z ∈ l, AdrR z) {a : Int} (ha : 0 ≤ a) (ha2 : a < 4294967296) (p port : Int) : allowB l p a port = allowS l p a port := by
  induction l with
  | nil => rfl
  | cons z r ih =>
    have hz := hw z List.mem_cons_self
    simp only [allowB, allowS, has_f hz.1 hz.2 ha ha2]
    rw [ih (fun x hx => hw x (List.mem_cons_of_mem _ hx))]
    simp
theorem okRules_of {l : List S40} (hw : ∀ z ∈ l, AdrR z) (hc : checkS l = 0) {a : Int} (ha : 0 ≤ a) (ha2 : a < 4294967296) : okRules l a = true := by
  obtain ⟨h1, h2⟩ := checkS_ok.1 hc
  unfold okRules
  simp only [Bool.and_eq_true, decide_eq_true_eq, List.all_eq_true]
  refine ⟨h1, fun z hz => ?_⟩
  obtain ⟨r1, r2, r3, r4, r5, r6⟩ := h2 z hz
  have hz := hw z hz
  unfold okRule
  simp only [Bool.and_eq_true, decide_eq_true_eq, has_f hz.1 hz.2 ha ha2]
  exact ⟨⟨⟨⟨⟨⟨r1, r2⟩, r4⟩, by omega⟩, by omega⟩, r6⟩, rfl⟩
/-- The rules that fit a protocol alike say alike. -/
theorem allowS_congr {l : List S40} {p p' a port port' : Int} (h : ∀ z ∈ l, ((z.f1 = 0 ∨ z.f1 = p) ↔ (z.f1 = 0 ∨ z.f1 = p')) ∧ ((z.f1 = 0 ∨ z.f1 = p) → ((port ≥ z.f3 ∧ port ≤ z.f4) ↔ (port' ≥ z.f3 ∧ port' ≤ z.f4)))) : allowS l p a port = allowS l p' a port' := by
  induction l with
  | nil => rfl
  | cons z r ih =>
    obtain ⟨h1, h2⟩ := h z List.mem_cons_self
    simp only [allowS]
    rw [ih (fun x hx => h x (List.mem_cons_of_mem _ hx))]
    have : ((z.f1 = 0 ∨ z.f1 = p) ∧ hasP z.f2.f0 z.f2.f1 a ∧ port ≥ z.f3 ∧ port ≤ z.f4) ↔ ((z.f1 = 0 ∨ z.f1 = p') ∧ hasP z.f2.f0 z.f2.f1 a ∧ port' ≥ z.f3 ∧ port' ≤ z.f4) := by
      constructor
      · rintro ⟨q1, q2, q3⟩
        exact ⟨h1.1 q1, q2, (h2 q1).1 q3⟩
      · rintro ⟨q1, q2, q3⟩
        exact ⟨h1.2 q1, q2, (h2 (h1.2 q1)).2 q3⟩
    simp only [this]
/-- The greatest member that is not beyond. -/
theorem floor_of (l : List Int) (q : Int) (h : ∃ x ∈ l, x ≤ q) : ∃ x ∈ l, x ≤ q ∧ ∀ y ∈ l, y ≤ q → y ≤ x := by
  induction l with
  | nil => obtain ⟨x, hx, _⟩ := h; cases hx
  | cons a r ih =>
    by_cases hr : ∃ x ∈ r, x ≤ q
    · obtain ⟨x, hx, h1, h2⟩ := ih hr
      by_cases ha : a ≤ q ∧ x ≤ a
      · refine ⟨a, List.mem_cons_self, ha.1, fun y hy hq => ?_⟩
        rcases List.mem_cons.1 hy with rfl | hy
        · omega
        · have := h2 y hy hq; omega
      · refine ⟨x, List.mem_cons_of_mem _ hx, h1, fun y hy hq => ?_⟩
        rcases List.mem_cons.1 hy with rfl | hy
        · omega
        · exact h2 y hy hq
    · obtain ⟨x, hx, hxq⟩ := h
      rcases List.mem_cons.1 hx with rfl | hx
      · refine ⟨x, List.mem_cons_self, hxq, fun y hy hq => ?_⟩
        rcases List.mem_cons.1 hy with rfl | hy
        · omega
        · exact absurd ⟨y, hy, hq⟩ hr
      · exact absurd ⟨x, hx, hxq⟩ hr
theorem mem_ports {l : List S40} {p y : Int} : y ∈ portsL l p ↔ y = 0 ∨ ∃ z ∈ l, (z.f1 = 0 ∨ z.f1 = p) ∧ (y = z.f3 ∨ (z.f4 < 65535 ∧ y = z.f4 + 1)) := by
  rw [mem_portsL]
  unfold portsB portsOf fitsP
  simp only [Bool.or_eq_true, beq_iff_eq, List.any_eq_true, Bool.and_eq_true, decide_eq_true_eq]
theorem hasProto_iff {l : List S40} {p : Int} : hasProto l p = true ↔ ∃ z ∈ l, z.f1 = p := by
  unfold hasProto
  simp only [List.any_eq_true, beq_iff_eq]
theorem first_unnamed {l : List S40} {p : Int} (h1 : 1 ≤ p) (h2 : p ≤ 255) (hp : hasProto l p = false) : ∃ q, ((protoNums 255).filter (fun x => !hasProto l x)).take 1 = [q] ∧ 1 ≤ q ∧ q ≤ 255 ∧ hasProto l q = false := by
  have hm : p ∈ (protoNums 255).filter (fun x => !hasProto l x) := List.mem_filter.2 ⟨mem_protoNums.2 ⟨h1, by omega⟩, by simp [hp]⟩
  cases hf : (protoNums 255).filter (fun x => !hasProto l x) with
  | nil => rw [hf] at hm; cases hm
  | cons q r =>
    have hq : q ∈ (protoNums 255).filter (fun x => !hasProto l x) := by rw [hf]; exact List.mem_cons_self
    obtain ⟨h3, h4⟩ := List.mem_filter.1 hq
    have h5 := mem_protoNums.1 h3
    exact ⟨q, by simp, h5.1, by have := h5.2; omega, by simpa using h4⟩
theorem mem_protosL_named {l : List S40} {p : Int} (h1 : 1 ≤ p) (h2 : p ≤ 255) (h : hasProto l p = true) : p ∈ protosL l := List.mem_append_left _ (List.mem_filter.2 ⟨mem_protoNums.2 ⟨h1, by omega⟩, h⟩)
theorem protosL_range {l : List S40} {p : Int} (h : p ∈ protosL l) : 1 ≤ p ∧ p ≤ 255 := by
  unfold protosL at h
  rcases List.mem_append.1 h with h | h
  · have := mem_protoNums.1 (List.mem_filter.1 h).1; omega
  · have := mem_protoNums.1 (List.mem_filter.1 (List.mem_of_mem_take h)).1; omega
theorem canGo_reach {l : List S40} (hr : ∀ z ∈ l, rightR z) {a : Int} (h : canGo l a) : ∃ p ∈ protosL l, ∃ x ∈ portsL l p, allowS l p a x = true := by
  obtain ⟨p, port, h1, h2, h3, h4, h5⟩ := h
  -- the protocol
  obtain ⟨p', hp', hfit⟩ : ∃ p' ∈ protosL l, ∀ z ∈ l, (z.f1 = 0 ∨ z.f1 = p) ↔ (z.f1 = 0 ∨ z.f1 = p') := by
    cases hn : hasProto l p
    · obtain ⟨q, hq, hq1, hq2, hq3⟩ := first_unnamed h1 h2 hn
      refine ⟨q, List.mem_append_right _ (by rw [hq]; exact List.mem_singleton.2 rfl), fun z hz => ?_⟩
      have e1 : z.f1 ≠ p := fun e => by have := hasProto_iff.2 ⟨z, hz, e⟩; rw [hn] at this; cases this
      have e2 : z.f1 ≠ q := fun e => by have := hasProto_iff.2 ⟨z, hz, e⟩; rw [hq3] at this; cases this
      simp [e1, e2]
    · exact ⟨p, mem_protosL_named h1 h2 hn, fun z _ => Iff.rfl⟩
  refine ⟨p', hp', ?_⟩
  -- the port
  obtain ⟨x, hx, hxq, hmax⟩ := floor_of (portsL l p') port ⟨0, mem_ports.2 (.inl rfl), h3⟩
  refine ⟨x, hx, ?_⟩
  rw [← h5]
  refine (allowS_congr fun z hz => ⟨(hfit z hz), fun hf => ?_⟩).symm
  have hf' := (hfit z hz).1 hf
  obtain ⟨r1, r2, r3, r4, r5, r6⟩ := hr z hz
  have m1 := hmax z.f3 (mem_ports.2 (.inr ⟨z, hz, hf', .inl rfl⟩))
  have m2 : z.f4 < 65535 → z.f4 + 1 ≤ port → z.f4 + 1 ≤ x := fun h => hmax (z.f4 + 1) (mem_ports.2 (.inr ⟨z, hz, hf', .inr ⟨h, rfl⟩⟩))
  constructor
  · rintro ⟨q1, q2⟩
    exact ⟨m1 q1, by omega⟩
  · rintro ⟨q1, q2⟩
    refine ⟨by omega, ?_⟩
    rcases Int.lt_or_le z.f4 port with q | q
    · have := m2 (by omega) (by omega); omega
    · exact q
theorem ports_range {l : List S40} (hr : ∀ z ∈ l, rightR z) {p x : Int} (h : x ∈ portsL l p) : 0 ≤ x ∧ x ≤ 65535 := by
  rcases mem_ports.1 h with rfl | ⟨z, hz, _, rfl | ⟨h1, rfl⟩⟩
  · omega
  · obtain ⟨r1, r2, r3, r4, r5, r6⟩ := hr z hz; omega
  · obtain ⟨r1, r2, r3, r4, r5, r6⟩ := hr z hz; omega
/-- May some packet go to the address? As the program asks it. -/
def reachS (l : List S40) (a : Int) : Bool := (protosL l).any fun p => (portsL l p).any fun x => allowS l p a x
theorem reachS_iff {l : List S40} (hr : ∀ z ∈ l, rightR z) {a : Int} : reachS l a = true ↔ canGo l a := by
  unfold reachS
  simp only [List.any_eq_true]
  constructor
  · rintro ⟨p, hp, x, hx, h⟩
    have h1 := protosL_range hp
    have h2 := ports_range hr hx
    exact ⟨p, x, h1.1, h1.2, h2.1, h2.2, h⟩
  · intro h
    obtain ⟨p, hp, x, hx, h⟩ := canGo_reach hr h
    exact ⟨p, hp, x, hx, h⟩
theorem reached_f {l : List S40} (hw : ∀ z ∈ l, AdrR z) (hc : checkS l = 0) {a : Int} (ha : 0 ≤ a) (ha2 : a < 4294967296) : policy_reached.f l a = some (reachS l a) := by
  unfold policy_reached.f reachS
  rw [if_pos (okRules_of hw hc ha ha2)]
  simp only [allowB_S hw ha ha2]
end Go.Proofs.Ytcpneggifmldoaa.X

/-
  Plain law: packets that may go have a route.
-/
import Derived.Test.YtcpneggifmldoaaOne
import Derived.Test.YtcpneggifmldoaaXx20
namespace Go.Proofs.Ytcpneggifmldoaa.X
open Go.RowKit Go.Proofs.YtcpneggifmldoaaW.PrintWords Go.Proofs.YtcpneggifmldoaaW.PrintLast Go.Proofs.YtcpneggifmldoaaW.PrintMore
/-- Some range holds the address. -/
def Cov (P : List (Int × Int)) (x : Int) : Prop := ∃ p ∈ P, p.1 ≤ x ∧ x ≤ p.2
/-- Ranges that rise, with a gap between two. -/
def Gap (P : List (Int × Int)) : Prop := P.Pairwise (fun p q => p.2 + 1 < q.1) ∧ ∀ p ∈ P, 0 ≤ p.1 ∧ p.1 ≤ p.2 ∧ p.2 < 4294967296
theorem setLast_append (Q : List (Int × Int)) (p : Int × Int) (h : Int) : setLast (Q ++ [p]) h = Q ++ [(p.1, h)] := by
  unfold setLast
  simp
theorem gap_append {Q : List (Int × Int)} {p : Int × Int} : Gap (Q ++ [p]) ↔ Gap Q ∧ (∀ q ∈ Q, q.2 + 1 < p.1) ∧ 0 ≤ p.1 ∧ p.1 ≤ p.2 ∧ p.2 < 4294967296 := by
  unfold Gap
  rw [List.pairwise_append]
  constructor
  · rintro ⟨⟨h1, -, h2⟩, h⟩
    exact ⟨⟨h1, fun q hq => h q (List.mem_append_left _ hq)⟩, fun q hq => h2 q hq p (by simp), h p (by simp)⟩
  · rintro ⟨⟨h1, h3⟩, h2, h4⟩
    refine ⟨⟨h1, by simp, fun q hq r hr => ?_⟩, fun q hq => ?_⟩
    · rw [List.mem_singleton] at hr; subst hr; exact h2 q hq
    · rcases List.mem_append.1 hq with hq | hq
      · exact h3 q hq
      · rw [List.mem_singleton] at hq; subst hq; exact h4
theorem segs_spec (R : Int → Bool) : ∀ (B : List Int) (j : Bool) (P : List (Int × Int)), Rises B → (∀ x ∈ B, 0 ≤ x ∧ x ≤ 4294967296) → Gap P →
    (∀ b r, B = b :: r → (∀ p ∈ P, p.2 + 1 ≤ b) ∧ (j = false → ∀ p ∈ P, p.2 + 1 < b) ∧ (j = true → ∃ Q p, P = Q ++ [p] ∧ p.2 + 1 = b ∧ ∀ q ∈ Q, q.2 + 1 < p.1)) →
    (∀ x b, b ∈ B → b ≤ x → (∀ y ∈ B, y ≤ x → y ≤ b) → R x = R b) →
    Gap (segs R B j P) ∧ (∀ x, Cov P x → Cov (segs R B j P) x) ∧ ∀ x, (∃ b ∈ B, b ≤ x) → (∃ y ∈ B, x < y) → R x = true → Cov (segs R B j P) x
  | [], j, P, _, _, hg, _, _ => ⟨by simpa [segs] using hg, fun x h => by simpa [segs] using h, fun x h => by simp at h⟩
  | [b], j, P, _, _, hg, _, _ => ⟨by simpa [segs] using hg, fun x h => by simpa [segs] using h, fun x h1 h2 => by
      simp only [List.mem_singleton, exists_eq_left] at h1 h2
      omega⟩
  | b0 :: b1 :: r, j, P, hB, hr, hg, hi, hR => by
    have hlt : b0 < b1 := (List.pairwise_cons.1 hB).1 b1 (by simp)
    have hB' := (List.pairwise_cons.1 hB).2
    have hr' : ∀ x ∈ b1 :: r, 0 ≤ x ∧ x ≤ 4294967296 := fun x hx => hr x (List.mem_cons_of_mem _ hx)
    have h0 := hr b0 (by simp)
    have h1 := hr b1 (by simp)
    obtain ⟨i1, i2, i3⟩ := hi b0 (b1 :: r) rfl
    have hge : ∀ y ∈ b1 :: r, b1 ≤ y := fun y hy => by
      rcases List.mem_cons.1 hy with h | h
      · omega
      · exact Int.le_of_lt ((List.pairwise_cons.1 hB').1 y h)
    have hR' : ∀ x b, b ∈ b1 :: r → b ≤ x → (∀ y ∈ b1 :: r, y ≤ x → y ≤ b) → R x = R b := fun x b hb hbx hy => hR x b (List.mem_cons_of_mem _ hb) hbx (fun y hyy hyx => by
      rcases List.mem_cons.1 hyy with h | h
      · have := hge b hb; omega
      · exact hy y h hyx)
    have hfirst : ∀ x, b0 ≤ x → x < b1 → R x = R b0 := fun x g1 g2 => hR x b0 (by simp) g1 (fun y hy hyx => by
      rcases List.mem_cons.1 hy with h | h
      · omega
      · have := hge y h; omega)
    have hsplit : ∀ x, (∃ b ∈ b0 :: b1 :: r, b ≤ x) → b0 ≤ x := fun x ⟨b, hb, hbx⟩ => by
      rcases List.mem_cons.1 hb with h | h
      · omega
      · have := hge b h; omega
    have hup : ∀ x, b1 ≤ x → (∃ y ∈ b0 :: b1 :: r, x < y) → ∃ y ∈ b1 :: r, x < y := fun x hx ⟨y, hy, hxy⟩ => by
      rcases List.mem_cons.1 hy with h | h
      · omega
      · exact ⟨y, h, hxy⟩
    simp only [segs]
    by_cases hb : R b0 = true
    · rw [if_pos hb]
      by_cases hj : j = true
      · rw [if_pos hj]
        obtain ⟨Q, p, rfl, hp, hq⟩ := i3 hj
        rw [setLast_append]
        obtain ⟨g1, g2, g3, g4, g5⟩ := gap_append.1 hg
        have hg' : Gap (Q ++ [(p.1, b1 - 1)]) := gap_append.2 ⟨g1, g2, g3, by dsimp only; omega, by dsimp only; omega⟩
        have hcov : ∀ x, Cov (Q ++ [p]) x ∨ (b0 ≤ x ∧ x < b1) → Cov (Q ++ [(p.1, b1 - 1)]) x := by
          rintro x (⟨q, hq, q1, q2⟩ | ⟨q1, q2⟩)
          · rcases List.mem_append.1 hq with h | h
            · exact ⟨q, List.mem_append_left _ h, q1, q2⟩
            · rw [List.mem_singleton] at h
              subst h
              exact ⟨(q.1, b1 - 1), by simp, q1, by dsimp only; omega⟩
          · exact ⟨(p.1, b1 - 1), by simp, by dsimp only; omega, by dsimp only; omega⟩
        obtain ⟨s1, s2, s3⟩ := segs_spec R (b1 :: r) true (Q ++ [(p.1, b1 - 1)]) hB' hr' hg' (fun b r' e => by
          obtain ⟨rfl, rfl⟩ := List.cons.inj e
          refine ⟨fun q hq' => ?_, fun h => by simp at h, fun _ => ⟨Q, _, rfl, by dsimp only; omega, g2⟩⟩
          rcases List.mem_append.1 hq' with h | h
          · have := hq q h; have := hp; omega
          · rw [List.mem_singleton] at h; subst h; dsimp only; omega) hR'
        refine ⟨s1, fun x hx => s2 x (hcov x (Or.inl hx)), fun x hx1 hx2 hx3 => ?_⟩
        by_cases hxb : x < b1
        · exact s2 x (hcov x (Or.inr ⟨hsplit x hx1, hxb⟩))
        · exact s3 x ⟨b1, by simp, by omega⟩ (hup x (by omega) hx2) hx3
      · rw [if_neg hj]
        have hj' : j = false := by simpa using hj
        have hg' : Gap (P ++ [(b0, b1 - 1)]) := gap_append.2 ⟨hg, i2 hj', by dsimp only; omega, by dsimp only; omega, by dsimp only; omega⟩
        have hcov : ∀ x, Cov P x ∨ (b0 ≤ x ∧ x < b1) → Cov (P ++ [(b0, b1 - 1)]) x := by
          rintro x (⟨q, hq, q1, q2⟩ | ⟨q1, q2⟩)
          · exact ⟨q, List.mem_append_left _ hq, q1, q2⟩
          · exact ⟨(b0, b1 - 1), by simp, by dsimp only; omega, by dsimp only; omega⟩
        obtain ⟨s1, s2, s3⟩ := segs_spec R (b1 :: r) true (P ++ [(b0, b1 - 1)]) hB' hr' hg' (fun b r' e => by
          obtain ⟨rfl, rfl⟩ := List.cons.inj e
          refine ⟨fun q hq' => ?_, fun h => by simp at h, fun _ => ⟨P, _, rfl, by dsimp only; omega, i2 hj'⟩⟩
          rcases List.mem_append.1 hq' with h | h
          · have := i1 q h; omega
          · rw [List.mem_singleton] at h; subst h; dsimp only; omega) hR'
        refine ⟨s1, fun x hx => s2 x (hcov x (Or.inl hx)), fun x hx1 hx2 hx3 => ?_⟩
        by_cases hxb : x < b1
        · exact s2 x (hcov x (Or.inr ⟨hsplit x hx1, hxb⟩))
        · exact s3 x ⟨b1, by simp, by omega⟩ (hup x (by omega) hx2) hx3
    · rw [if_neg hb]
      obtain ⟨s1, s2, s3⟩ := segs_spec R (b1 :: r) false P hB' hr' hg (fun b r' e => by
        obtain ⟨rfl, rfl⟩ := List.cons.inj e
        refine ⟨fun q hq' => ?_, fun _ q hq' => ?_, fun h => by simp at h⟩
        · have := i1 q hq'; omega
        · have := i1 q hq'; omega) hR'
      refine ⟨s1, s2, fun x hx1 hx2 hx3 => ?_⟩
      by_cases hxb : x < b1
      · exact absurd ((hfirst x (hsplit x hx1) hxb) ▸ hx3) hb
      · exact s3 x ⟨b1, by simp, by omega⟩ (hup x (by omega) hx2) hx3
theorem hasP_congr {z : S40} {B : List Int} (h1 : z.f2.f0 ∈ B) (h2 : z.f2.f0 + sz z.f2.f1 ∈ B) {x b : Int} (hb : b ≤ x) (hy : ∀ y ∈ B, y ≤ x → y ≤ b) : hasP z.f2.f0 z.f2.f1 x ↔ hasP z.f2.f0 z.f2.f1 b := by
  unfold hasP
  have e1 : z.f2.f0 ≤ x ↔ z.f2.f0 ≤ b := ⟨fun h => hy _ h1 h, fun h => by omega⟩
  have e2 : x < z.f2.f0 + sz z.f2.f1 ↔ b < z.f2.f0 + sz z.f2.f1 := by
    constructor
    · intro h; omega
    · intro h
      by_cases h' : x < z.f2.f0 + sz z.f2.f1
      · exact h'
      · have := hy _ h2 (by omega); omega
  rw [e1, e2]
theorem allowS_at {l : List S40} {x b : Int} (h : ∀ z ∈ l, hasP z.f2.f0 z.f2.f1 x ↔ hasP z.f2.f0 z.f2.f1 b) (p port : Int) : allowS l p x port = allowS l p b port := by
  induction l with
  | nil => rfl
  | cons z r ih =>
    simp only [allowS]
    rw [ih (fun y hy => h y (List.mem_cons_of_mem _ hy))]
    simp only [h z List.mem_cons_self]
theorem reachS_at {l : List S40} (hc : checkS l = 0) {B : List Int} (hB : ∀ x, x ∈ B ↔ x ∈ [0, 4294967296] ++ bnds l) {x b : Int} (hb : b ≤ x) (hy : ∀ y ∈ B, y ≤ x → y ≤ b) : reachS l x = reachS l b := by
  have hr := (checkS_ok.1 hc).2
  have hh : ∀ z ∈ l, hasP z.f2.f0 z.f2.f1 x ↔ hasP z.f2.f0 z.f2.f1 b := fun z hz => hasP_congr (B := B) ((hB _).2 (List.mem_append_right _ (List.mem_flatMap.2 ⟨z, hz, by simp⟩))) ((hB _).2 (List.mem_append_right _ (List.mem_flatMap.2 ⟨z, hz, by simp⟩))) hb hy
  have : reachS l x = true ↔ reachS l b = true := by
    rw [reachS_iff hr, reachS_iff hr]
    unfold canGo
    simp only [allowS_at hh]
  cases h1 : reachS l x <;> cases h2 : reachS l b <;> simp_all
/-- Ranges rise with gaps, and hold each address to which a packet may go. -/
theorem routes_cover {l : List S40} (hw : ∀ z ∈ l, AdrR z) (hl : l.length ≤ 4611686018427387904) : ∃ P : List (Int × Int), Ev (fun k => policy_Routes.f k l) (P.map to30) ∧ Gap P ∧ P.length ≤ 16 ∧
    (P.length < 16 → ∀ p a port, 0 ≤ a → a < 4294967296 → 1 ≤ p → p ≤ 255 → 0 ≤ port → port ≤ 65535 → AllowS l p a port = true → Cov P a) := by
  refine ⟨routesS l, routes_f hw hl, ?_⟩
  by_cases hc : checkS l = 0
  · obtain ⟨B, -, b1, b2, hrng, -, hR⟩ := routes_bounds hw hc
    obtain ⟨g1, -, g3⟩ := segs_spec (reachS l) B false [] b1 hrng ⟨List.Pairwise.nil, by simp⟩ (fun b r _ => ⟨by simp, by simp, by simp⟩) (fun x b _ hbx hy => reachS_at hc b2 hbx hy)
    rw [hR]
    refine ⟨⟨g1.1.sublist (List.take_sublist _ _), fun p hp => g1.2 p (List.mem_of_mem_take hp)⟩, take16 _, fun hlt p a port ha ha2 hp hp2 hq hq2 hal => ?_⟩
    have hlen : (segs (reachS l) B false []).length ≤ 16 := by
      rw [List.length_take] at hlt
      omega
    rw [List.take_of_length_le hlen]
    rw [AllowS_ok hc] at hal
    exact g3 a ⟨0, (b2 0).2 (by simp), ha⟩ ⟨4294967296, (b2 _).2 (by simp), ha2⟩ ((reachS_iff (checkS_ok.1 hc).2).2 ⟨p, port, hp, hp2, hq, hq2, hal⟩)
  · rw [routesS, if_neg hc]
    refine ⟨⟨List.Pairwise.nil, by simp⟩, by simp, fun _ p a port _ _ _ _ _ _ hal => ?_⟩
    simp [AllowS, hc] at hal
instance (P : List (Int × Int)) (x : Int) : Decidable (Cov P x) := by unfold Cov; infer_instance
section
variable {l : List S40} (hw : ∀ z ∈ l, AdrR z) (hl : l.length < 2932031007402) {P : List (Int × Int)} (hg : Gap P) (hn : P.length ≤ 16)
include hw hl hn
theorem covers_j1 {a1 a2 a3 : Int} (ha : 0 ≤ a2) (ha2 : a2 < 4294967296) (b c : Bool) (h : c = false → b = false → AllowS l a1 a2 a3 = false) : Ev (fun k => vizardlaw18_PolicyCovers.j1 k l a1 a2 a3 (P.map to30) b c) true := by
  cases c
  · cases b
    · refine Ev.step (f := fun k => (policy_Allow.f k l a1 a2 a3).bind fun t => some (!t)) (fun k => ?_) (Ev.bind (Allow_f l hw (by omega) a1 a2 a3 ha ha2) ?_)
      · simp only [vizardlaw18_PolicyCovers.j1, own_f hl, Option.bind_some, Bool.false_eq_true, if_false]
      · rw [h rfl rfl]; exact Ev.now true
    · refine ⟨1, fun k hk => ?_⟩
      obtain ⟨k, rfl⟩ : ∃ m, k = m + 1 := ⟨k - 1, by omega⟩
      simp [vizardlaw18_PolicyCovers.j1]
  · refine ⟨1, fun k hk => ?_⟩
    obtain ⟨k, rfl⟩ : ∃ m, k = m + 1 := ⟨k - 1, by omega⟩
    simp only [vizardlaw18_PolicyCovers.j1, if_true, List.length_map, Option.some.injEq, decide_eq_true_eq]
    omega
include hg
theorem covers_loop {a1 a2 a3 : Int} (ha : 0 ≤ a2) (ha2 : a2 < 4294967296) (hcov : P.length < 16 → 1 ≤ a1 → a1 ≤ 255 → 0 ≤ a3 → a3 ≤ 65535 → AllowS l a1 a2 a3 = true → Cov P a2) (d : Nat) : ∀ i : Int, 0 ≤ i → (P.length : Int) - i = d →
    Ev (fun k => vizardlaw18_PolicyCovers.l0 k l a1 a2 a3 (P.map to30) (decide (Cov (P.take i.toNat) a2)) i) true := by
  induction d with
  | zero =>
    intro i h0 hd
    have htk : P.take i.toNat = P := List.take_of_length_le (by omega)
    rw [htk]
    have key : (a1 < 1 ∨ a1 > 255 ∨ a3 < 0 ∨ a3 > 65535 ∨ P.length ≥ 16) ∨ (decide (Cov P a2) = false → AllowS l a1 a2 a3 = false) := by
      by_cases q : a1 < 1 ∨ a1 > 255 ∨ a3 < 0 ∨ a3 > 65535 ∨ P.length ≥ 16
      · exact Or.inl q
      · refine Or.inr (fun h => ?_)
        cases hA : AllowS l a1 a2 a3
        · rfl
        · exact absurd (hcov (by omega) (by omega) (by omega) (by omega) (by omega) hA) (of_decide_eq_false h)
    have yes := covers_j1 hw hl hn (a1 := a1) (a2 := a2) (a3 := a3) ha ha2 (decide (Cov P a2)) true (by simp)
    refine Ev.step (f := fun k => (if ((P.map to30).length : Int) ≥ 16 then (vizardlaw18_PolicyCovers.j1 k l a1 a2 a3 (P.map to30) (decide (Cov P a2)) true) else (if a1 < 1 then (vizardlaw18_PolicyCovers.j1 k l a1 a2 a3 (P.map to30) (decide (Cov P a2)) true) else (if a1 > 255 then (vizardlaw18_PolicyCovers.j1 k l a1 a2 a3 (P.map to30) (decide (Cov P a2)) true) else (if a3 < 0 then (vizardlaw18_PolicyCovers.j1 k l a1 a2 a3 (P.map to30) (decide (Cov P a2)) true) else (vizardlaw18_PolicyCovers.j1 k l a1 a2 a3 (P.map to30) (decide (Cov P a2)) (decide (a3 > 65535)))))))) (fun k => ?_) ?_
    · simp only [vizardlaw18_PolicyCovers.l0]
      rw [if_neg (by simp only [List.length_map]; omega)]
    · by_cases q1 : ((P.map to30).length : Int) ≥ 16
      · simp only [q1, if_true]; exact yes
      by_cases q2 : a1 < 1
      · simp only [q1, q2, if_true, if_false]; exact yes
      by_cases q3 : a1 > 255
      · simp only [q1, q2, q3, if_true, if_false]; exact yes
      by_cases q4 : a3 < 0
      · simp only [q1, q2, q3, q4, if_true, if_false]; exact yes
      simp only [q1, q2, q3, q4, if_false]
      refine covers_j1 hw hl hn ha ha2 _ _ (fun hc hb => ?_)
      rcases key with hk | hk
      · exfalso
        have := of_decide_eq_false hc
        rcases hk with hk | hk | hk | hk | hk
        · exact q2 hk
        · exact q3 hk
        · exact q4 hk
        · exact this hk
        · exact q1 (by rw [List.length_map]; omega)
      · exact hk hb
  | succ d ih =>
    intro i h0 hd
    obtain ⟨h', e1⟩ := get_to30 (P := P) h0 (by omega)
    have hm := hg.2 _ (List.getElem_mem h')
    have ei : wrap64 (i + 1) = i + 1 := by unfold wrap64; omega
    have hi1 : (i + 1).toNat = i.toNat + 1 := by omega
    have htk : P.take (i + 1).toNat = P.take i.toNat ++ [P[i.toNat]] := by rw [hi1, List.take_succ_eq_append_getElem h']
    have hcv : Cov (P.take (i + 1).toNat) a2 ↔ Cov (P.take i.toNat) a2 ∨ (P[i.toNat].1 ≤ a2 ∧ a2 ≤ P[i.toNat].2) := by
      rw [htk]
      constructor
      · rintro ⟨q, hq, h⟩
        rcases List.mem_append.1 hq with hq | hq
        · exact Or.inl ⟨q, hq, h⟩
        · rw [List.mem_singleton] at hq; subst hq; exact Or.inr h
      · rintro (⟨q, hq, h⟩ | h)
        · exact ⟨q, List.mem_append_left _ hq, h⟩
        · exact ⟨_, List.mem_append_right _ (List.mem_singleton.2 rfl), h⟩
    have hstep := ih (i + 1) (by omega) (by omega)
    have hnext : (fun k => (if Cov (P.take i.toNat) a2 then vizardlaw18_PolicyCovers.l0 k l a1 a2 a3 (P.map to30) true (i + 1) else if a2 ≥ P[i.toNat].1 then vizardlaw18_PolicyCovers.l0 k l a1 a2 a3 (P.map to30) (decide (a2 ≤ P[i.toNat].2)) (i + 1) else vizardlaw18_PolicyCovers.l0 k l a1 a2 a3 (P.map to30) false (i + 1))) = fun k => vizardlaw18_PolicyCovers.l0 k l a1 a2 a3 (P.map to30) (decide (Cov (P.take (i + 1).toNat) a2)) (i + 1) := by
      funext k
      by_cases c1 : Cov (P.take i.toNat) a2
      · rw [if_pos c1, decide_eq_true (hcv.2 (Or.inl c1))]
      · by_cases c2 : a2 ≥ P[i.toNat].1
        · rw [if_neg c1, if_pos c2]
          by_cases c3 : a2 ≤ P[i.toNat].2
          · rw [decide_eq_true (hcv.2 (Or.inr ⟨c2, c3⟩)), decide_eq_true c3]
          · rw [decide_eq_false (fun h => (hcv.1 h).elim c1 (fun h => c3 h.2)), decide_eq_false c3]
        · rw [if_neg c1, if_neg c2, decide_eq_false (fun h => (hcv.1 h).elim c1 (fun h => c2 h.1))]
    refine Ev.step (f := fun k => (if Cov (P.take i.toNat) a2 then vizardlaw18_PolicyCovers.l0 k l a1 a2 a3 (P.map to30) true (i + 1) else if a2 ≥ P[i.toNat].1 then vizardlaw18_PolicyCovers.l0 k l a1 a2 a3 (P.map to30) (decide (a2 ≤ P[i.toNat].2)) (i + 1) else vizardlaw18_PolicyCovers.l0 k l a1 a2 a3 (P.map to30) false (i + 1))) (fun k => ?_) (hnext ▸ hstep)
    simp only [vizardlaw18_PolicyCovers.l0]
    rw [if_pos (by simp only [List.length_map]; omega), if_pos h0, e1, ei]
    simp only [to30, show ¬ P[i.toNat].1 > P[i.toNat].2 by omega, if_false, if_true, decide_eq_true_eq]
    by_cases hz : i > 0
    · have e2 : wrap64 (i - 1) = i - 1 := by unfold wrap64; omega
      obtain ⟨h'', e3⟩ := get_to30 (P := P) (i := i - 1) (by omega) (by omega)
      have hm2 := hg.2 _ (List.getElem_mem h'')
      have hgap := List.pairwise_iff_getElem.1 hg.1 (i - 1).toNat i.toNat h'' h' (by omega)
      rw [if_pos hz, e2, if_pos (by omega), if_pos (by simp only [List.length_map]; omega), e3]
      have e4 : wrap64 P[i.toNat].1 = P[i.toNat].1 := by unfold wrap64; omega
      have e5 : wrap64 (wrap64 (to30 P[(i - 1).toNat]).f1 + 1) = P[(i - 1).toNat].2 + 1 := by
        show wrap64 (wrap64 P[(i - 1).toNat].2 + 1) = _
        unfold wrap64; omega
      rw [e4, e5, if_neg (by omega)]
      by_cases c1 : Cov (P.take i.toNat) a2
      · rw [if_pos c1, if_pos c1]
      · rw [if_neg c1, if_neg c1]; rfl
    · rw [if_neg hz]
      by_cases c1 : Cov (P.take i.toNat) a2
      · rw [if_pos c1, if_pos c1]
      · rw [if_neg c1, if_neg c1]; rfl
end
/-- Packets that may go have a route. -/
theorem policyCovers_ev {l : List S40} (hw : ∀ z ∈ l, AdrR z) (hl : l.length < 2932031007402) (p a port : Int) (ha : 0 ≤ a) (ha2 : a < 4294967296) : Ev (fun k => vizardlaw18_PolicyCovers.f k l p a port) true := by
  obtain ⟨P, h1, h2, h3, h4⟩ := routes_cover hw (by omega)
  unfold vizardlaw18_PolicyCovers.f
  refine Ev.bind works_f ?_
  simp only [if_true]
  rw [own_f hl]
  simp only [Option.bind_some]
  refine Ev.bind h1 ?_
  have := covers_loop hw hl h2 h3 (a1 := p) (a3 := port) ha ha2 (fun q1 q2 q3 q4 q5 q6 => h4 q1 p a port ha ha2 q2 q3 q4 q5 q6) P.length 0 (by omega) (by omega)
  rw [Int.toNat_zero, List.take_zero, decide_eq_false (show ¬ Cov [] a by rintro ⟨q, hq, _⟩; simp at hq)] at this
  exact this
end Go.Proofs.Ytcpneggifmldoaa.X

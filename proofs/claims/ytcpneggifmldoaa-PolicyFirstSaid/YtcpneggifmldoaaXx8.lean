-- laid by ext.py (this session's) over the kit's print; the functions named EXT in it are proved by hand
import Derived.Test.YtcpneggifmldoaaXx0
import Derived.Test.YtcpneggifmldoaaXx6
import Derived.Test.YtcpneggifmldoaaXx7
namespace Go.Proofs.Ytcpneggifmldoaa.X
open Go.RowKit Go.Proofs.YtcpneggifmldoaaW.PrintWords Go.Proofs.YtcpneggifmldoaaW.PrintLast Go.Proofs.YtcpneggifmldoaaW.PrintMore
attribute [local go_sem] max2_int min2_int max_two min_two max_three min_three max_four min_four   -- for this text's walks alone
set_option linter.unusedVariables false
set_option linter.unusedSimpArgs false

-- EXT vizard/policy.reached
/-! ### policy_reached: function 30 -/

theorem keyed3 : Go.Maps.Keyed Try.prog 3 := Go.Maps.int_keyed Try.underlying3
theorem zero4 (w : World) : (zeroValue 4).run Try.prog w = .ok (.bool false) w := by kernel_rfl
/-- Block b of w is a map from ints to true: its keys are the members of S. -/
def SetIs (w : World) (b n : Nat) (S : Int → Bool) : Prop :=
  ∃ D : DataW Unit, w.ownsMap Try.prog 3 (plainElem Try.prog 4) b n D ∧ ∀ x zd, (Lit.int .i64 x).wf = true → D.atKey (.int .i64 x) zd = if S x then .lit (.bool true) else zd
theorem SetIs.made (w : World) : SetIs (w.alloc (.map #[] 0)) w.heap.size 0 (fun _ => false) :=
  ⟨.map [], World.ownsMap_made _ _ _ _, fun x zd _ => by simp [DataW.atKey]⟩
theorem SetIs.kept {w w' : World} {b n : Nat} {S : Int → Bool} {row : Option Nat} (h : SetIs w b n S) (hg : w.grownBy w' row) (hne : some b ≠ row) : SetIs w' b n S := by
  obtain ⟨D, h1, h2⟩ := h
  exact ⟨D, h1.kept hg hne, h2⟩
theorem SetIs.lt {w : World} {b n : Nat} {S : Int → Bool} (h : SetIs w b n S) : b < w.heap.size := by
  obtain ⟨D, h1, _⟩ := h
  exact h1.lt
theorem SetIs.below {w w' : World} {b n : Nat} {S : Int → Bool} (h : SetIs w b n S) (hB : Below w.heap.size w w') : SetIs w' b n S := by
  have hlt := h.lt
  obtain ⟨D, ⟨es, clock, hb, F, hs, hD⟩, h2⟩ := h
  exact ⟨D, ⟨es, clock, (hB.block b hlt).trans hb, F, hs, hD⟩, h2⟩
theorem SetIs.alloc {w : World} {b n : Nat} {S : Int → Bool} (h : SetIs w b n S) (o : Obj) : SetIs (w.alloc o) b n S := h.below (below_alloc (Below.refl _ _) _)
theorem SetIs.fresh {w : World} {b n k : Nat} {S : Int → Bool} (h : SetIs w b n S) (hk : w.heap.size ≤ k) : k ≠ b := by
  have := h.lt
  omega
theorem le_alloc {w W : World} {o : Obj} (h : w.heap.size ≤ W.heap.size) : w.heap.size ≤ (W.alloc o).heap.size := by
  have e : (W.alloc o).heap.size = W.heap.size + 1 := by simp
  omega
theorem SetIs.drewN {w : World} {b n : Nat} {S : Int → Bool} (h : SetIs w b n S) (q : Nat) : SetIs (w.drewN q) b n S := h
theorem SetIs.mono {w : World} {b n n' : Nat} {S : Int → Bool} (h : SetIs w b n S) (hn : n ≤ n') : SetIs w b n' S := by
  obtain ⟨D, h1, h2⟩ := h
  exact ⟨D, h1.mono hn, h2⟩
theorem SetIs.congr {w : World} {b n : Nat} {S S' : Int → Bool} (h : SetIs w b n S) (hS : ∀ x, S x = S' x) : SetIs w b n S' := by
  obtain rfl : S = S' := funext hS
  exact h
theorem keyInt {x : Int} (hx : (Lit.int .i64 x).wf = true) : keyOf Try.prog 3 (.int .i64 x) = some (.int .i64 x) := Go.Maps.keyOf_int_mk Try.underlying3 hx
theorem plainElem_bool_inv {v : Value} {c : Bool} {ps : List MemPlace} (h : plainElem (H := Unit) Try.prog 4 v = some (.lit (.bool c), ps)) : v = .bool c := by
  unfold plainElem at h
  generalize hu : Try.prog.underlying 4 = u at h
  rw [Try.underlying4] at hu
  subst hu
  cases v <;> simp at h
  rw [h.1]
section
variable {w : World} {ops : Array Oper} {rest : List Oper} {o : Oper} {a : Act} {Q : Exit → Act → World → Prop} {b n : Nat} {S : Int → Bool}
theorem wpList_store_set (hg : o.guard = none) (m x v : Operand) (hop : o.op = Op.mapUpdate 82 m x v) (hm : a.eval m = .map (some b)) (h : SetIs w b n S) (hn : n < maxLen) (key : Int) (hx : a.eval x = .int .i64 key) (hwf : (Lit.int .i64 key).wf = true) (hv : a.eval v = .bool true)
    (hK : ∀ w', SetIs w' b (n + 1) (fun y => S y || y == key) → w.grownBy w' (some b) → wpList Try.prog ops Q rest (a.put o.dst undef) w') : wpList Try.prog ops Q (o :: rest) a w := by
  obtain ⟨D, hown, hat⟩ := h
  refine wpList_mapUpdate_own w hg m x v 82 hop 3 4 keyed3 Try.underlying82 (plainElem Try.prog 4) b n D hm hown hn _ _ (.int .i64 key) hx hv (keyInt hwf) (.lit (.bool true)) [] (plainElem_bool Try.underlying4 true) ?_
  intro w' h' hg'
  refine hK w' ⟨_, h', fun y zd hy => ?_⟩ hg'
  have hD : Go.Maps.IsMap D := by
    obtain ⟨es, clock, _, _, _, rfl⟩ := hown
    exact ⟨_, rfl⟩
  by_cases e : y = key
  · subst e
    rw [Go.Maps.atKey_put_same hD (by simp [WideAt.IsKeyLit])]
    simp
  · rw [Go.Maps.atKey_put_other (by intro h; injection h with _ h; exact e h), hat y zd hy]
    have : (y == key) = false := by simpa using e
    simp [this]
theorem wpList_lookup_set (hg : o.guard = none) (m x : Operand) (hop : o.op = Op.lookup 82 m x false) (hm : a.eval m = .map (some b)) (h : SetIs w b n S) (key : Int) (hx : a.eval x = .int .i64 key) (hwf : (Lit.int .i64 key).wf = true)
    (hK : wpList Try.prog ops Q rest (a.put o.dst (.bool (S key))) w) : wpList Try.prog ops Q (o :: rest) a w := by
  obtain ⟨D, hown, hat⟩ := h
  refine wpList_plain hg fun K' hK' => ?_
  obtain ⟨v, ps, hrun, hv⟩ := hown.lookup keyed3 Try.underlying82 (zero4 w) (plainElem_bool (H := Unit) Try.underlying4 false) (keyInt hwf)
  rw [hat key _ hwf] at hv
  have hv2 : v = .bool (S key) := by
    refine plainElem_bool_inv (ps := ps) ?_
    rw [hv]
    cases S key <;> rfl
  subst hv2
  unfold Oper.wp
  simp [execOp, hop, hm, hx, hrun, Result.andThen]
  exact hK' _ _ hK
theorem wpList_clear_set (hg : o.guard = none) (m : Operand) (hop : o.op = Op.call { callee := Callee.builtin Builtin.clear, args := #[m], argTypes := #[82] }) (hm : a.eval m = .map (some b)) (h : SetIs w b n S)
    (hK : ∀ w', SetIs w' b 0 (fun _ => false) → w.grownBy w' (some b) → wpList Try.prog ops Q rest (a.put o.dst (.tuple #[])) w') : wpList Try.prog ops Q (o :: rest) a w := by
  obtain ⟨D, ⟨es, clock, hb, F, hs, hD⟩, hat⟩ := h
  refine wpList_plain hg fun K' hK' => ?_
  have hrun : (Builtin.clear_ #[82] o.type #[.map (some b)]).run Try.prog w = .ok (.tuple #[]) { w with heap := w.heap.setIfInBounds b (.map #[] clock) } := by
    simp [Builtin.clear_, run_underlying Try.underlying82, MapKept.run_getObj_map hb, MapKept.run_setObj_map _ hb, Result.andThen]
  unfold Oper.wp
  simp [execOp, hop, resolve, invoke, builtin, hm, hrun, Result.andThen]
  refine hK' _ _ (hK _ ⟨.map [], ⟨#[], clock, ?_, ⟨by simp, Go.MapKept.stamped_empty clock, by simp⟩, Nat.le_refl _, rfl⟩, fun x zd _ => by simp [DataW.atKey]⟩ ⟨rfl, rfl, rfl, by simp, fun i hi hne => ?_⟩)
  · have hlt := (Array.getElem?_eq_some_iff.1 hb).1
    simp [hlt]
  · have hne' : b ≠ i := fun e => hne (by rw [e])
    simp [Array.getElem?_setIfInBounds, hne']
end
theorem below_grown_new {B : Nat} {w w1 w2 : World} {b : Nat} (h : Below B w w1) (hg : w1.grownBy w2 (some b)) (hb : B ≤ b) (hB : B ≤ w1.heap.size) : Below B w w2 :=
  h.trans ⟨hg.os, hg.tape, hg.output, hg.size, fun k hk => hg.block k (by omega) (by intro e; injection e with e; omega)⟩
/-- A range over the set at block b, by the iterator at block r: L says what is still to come. -/
def RangeIs (w : World) (b r n : Nat) (S L : Int → Bool) (cnt : Nat) : Prop :=
  ∃ (D : DataW Unit) (left : Lit → Bool), w.ranges Try.prog 3 (plainElem Try.prog 4) b r n D left cnt ∧ (∀ x zd, (Lit.int .i64 x).wf = true → D.atKey (.int .i64 x) zd = if S x then .lit (.bool true) else zd) ∧ ∀ x, (Lit.int .i64 x).wf = true → left (.int .i64 x) = L x
theorem RangeIs.set {w : World} {b r n : Nat} {S L : Int → Bool} {cnt : Nat} (h : RangeIs w b r n S L cnt) : SetIs w b n S := by
  obtain ⟨D, left, h1, h2, _⟩ := h
  exact ⟨D, h1.owns, h2⟩
theorem RangeIs.below {w w' : World} {b r n : Nat} {S L : Int → Bool} {cnt : Nat} (h : RangeIs w b r n S L cnt) (hB : Below w.heap.size w w') : RangeIs w' b r n S L cnt := by
  have hl := h.set.lt
  obtain ⟨D, left, h1, h2, h3⟩ := h
  exact ⟨D, left, h1.kept (row := none) ⟨hB.os, hB.tape, hB.output, hB.size, fun i hi _ => hB.block i hi⟩ (by simp) (by simp), h2, h3⟩
theorem plainElem_bool_of {v : Value} {y : DataW Unit × List MemPlace} (h : plainElem Try.prog 4 v = some y) : ∃ c, v = .bool c ∧ y = (.lit (.bool c), []) := by
  unfold plainElem at h
  generalize hu : Try.prog.underlying 4 = u at h
  rw [Try.underlying4] at hu
  subst hu
  cases v <;> simp at h
  exact ⟨_, rfl, h.symm⟩
section
variable {w : World} {ops : Array Oper} {rest : List Oper} {o : Oper} {a : Act} {Q : Exit → Act → World → Prop} {b n : Nat} {S L : Int → Bool}
theorem wpList_range_set (hg : o.guard = none) (m : Operand) (hop : o.op = Op.range 82 m) (hm : a.eval m = .map (some b)) (h : SetIs w b n S)
    (hK : ∀ w' cnt, RangeIs w' b w.heap.size n S S cnt → w.grownBy w' none → w'.heap.size = w.heap.size + 1 → wpList Try.prog ops Q rest (a.put o.dst (.pointer (some ⟨w.heap.size, 0, none⟩))) w') : wpList Try.prog ops Q (o :: rest) a w := by
  obtain ⟨D, hown, hat⟩ := h
  refine wpList_range_own w hg m 82 hop 3 4 keyed3 Try.underlying82 (plainElem Try.prog 4) b n D hm hown ?_
  intro w' h1 h2 h3
  refine hK w' _ ⟨D, _, h1, hat, fun x hx => ?_⟩ h2 h3
  cases hs : S x
  · exact Go.Maps.has_false_of_atKey (fun z => by rw [hat x z hx, hs]; rfl)
  · exact Go.Maps.has_true_of_atKey (y := .lit (.bool true)) (fun z => by rw [hat x z hx, hs]; rfl)
theorem wpList_next_set {r cnt : Nat} (hg : o.guard = none) (it : Operand) (hop : o.op = Op.next it false) (hit : a.eval it = .pointer (some ⟨r, 0, none⟩)) (h : RangeIs w b r n S L cnt)
    (hDone : (∀ x, (Lit.int .i64 x).wf = true → L x = false) → wpList Try.prog ops Q rest (a.put o.dst (.tuple #[.bool false])) w)
    (hMore : ∀ x w' cnt', (Lit.int .i64 x).wf = true → L x = true → S x = true → RangeIs w' b r n S (fun z => L z && !(z == x)) cnt' → cnt' < cnt → w.grownBy w' (some r) → w'.heap.size = w.heap.size →
      (Instr.entry (.pointer (some ⟨r, 0, none⟩))).run Try.prog w' = .ok (.tuple #[.int .i64 x, .bool true]) w' → wpList Try.prog ops Q rest (a.put o.dst (.tuple #[.bool true, .int .i64 x, .bool true])) w') : wpList Try.prog ops Q (o :: rest) a w := by
  obtain ⟨D, left, h1, hat, hl⟩ := h
  refine wpList_next_ranges (α := Int) (β := Bool) w hg it hop 3 keyed3 (plainElem Try.prog 4) (Value.int .i64) Value.bool ?_ ?_ b r n D left cnt hit h1 ?_ ?_
  · intro key kl hk
    obtain ⟨x, hx, _⟩ := Maps.keyOf_int_inv Try.underlying3 hk
    exact ⟨x, hx⟩
  · intro v y hv
    obtain ⟨c, hc, _⟩ := plainElem_bool_of hv
    exact ⟨c, hc⟩
  · intro _ h0
    exact hDone (fun x hx => by rw [← hl x hx]; exact h0 _)
  · intro x c kl y w' cnt' hkey hlk hR haty hrg hlt hgr hsz hen
    obtain ⟨x', hx', rfl, hwf⟩ := Maps.keyOf_int_inv Try.underlying3 hkey
    injection hx' with _ hx'
    subst hx'
    obtain ⟨c', hc', rfl⟩ := plainElem_bool_of hR
    injection hc' with hc'
    subst hc'
    have hS : S x = true := by
      cases hs : S x
      · exfalso
        have e1 := haty (.lit (.bool true))
        have e2 := haty (.lit (.bool false))
        rw [hat x _ hwf, hs] at e1 e2
        simp at e1 e2
        rw [e1] at e2
        cases e2
      · rfl
    have hc : c = true := by
      have e1 := haty (.lit (.bool false))
      rw [hat x _ hwf, hS] at e1
      simp at e1
      first | exact e1 | exact e1.symm
    subst hc
    refine hMore x w' cnt' hwf (by rw [← hl x hwf]; exact hlk) hS ⟨D, _, hrg, hat, fun z hz => ?_⟩ hlt hgr hsz hen
    show (left (.int .i64 z) && !(Lit.int .i64 z).sameKey (.int .i64 x)) = _
    rw [hl z hz]
    have e : decide (z = x) = (z == x) := rfl
    simp [Lit.sameKey, e]
end
def hasProto (l : List S40) (x : Int) : Bool := l.any (fun y => y.f1 == x)
def protoNums (n : Nat) : List Int := (List.range n).map (fun i : Nat => (i : Int) + 1)
def protosL (l : List S40) : List Int := (protoNums 255).filter (hasProto l) ++ ((protoNums 255).filter (fun x => !hasProto l x)).take 1
theorem hasProto_take (l : List S40) (i : Int) (h0 : 0 ≤ i) (h1 : i < l.length) : ∀ x : Int, hasProto (l.take (i + 1).toNat) x = (hasProto (l.take i.toNat) x || x == (rd_T40 l i).f1) := by
  intro x
  have h : i.toNat < l.length := by omega
  unfold hasProto rd_T40
  rw [show (i + 1).toNat = i.toNat + 1 by omega, List.take_succ_eq_append_getElem h, List.any_append]
  simp [h, Bool.beq_comm]
theorem wf_i64_small {x : Int} (h0 : 0 ≤ x) (h1 : x ≤ 65536) : (Lit.int .i64 x).wf = true := WalkArith.wf_i64 (by omega)
theorem rd_T40_mem {l : List S40} {i : Int} (h0 : 0 ≤ i) (h : i < l.length) : rd_T40 l i ∈ l := by
  have h1 : i.toNat < l.length := by omega
  unfold rd_T40
  simp [h1]
theorem info3x : (Try.prog.info? 3).map (fun i => (i.zero, i.size, i.bytes)) = some (some (.int .i64 0), 1, 8) := by kernel_rfl
theorem protoNums_succ (n : Nat) : protoNums (n + 1) = protoNums n ++ [(n : Int) + 1] := by
  unfold protoNums
  rw [List.range_succ, List.map_append]
  rfl
theorem hasProto_filter (l : List S40) (p : Int) (h : 1 ≤ p) : (protoNums p.toNat).filter (hasProto l) = (protoNums (p - 1).toNat).filter (hasProto l) ++ if hasProto l p = true then [p] else [] := by
  rw [show p.toNat = (p - 1).toNat + 1 by omega, protoNums_succ, List.filter_append]
  have e : (((p - 1).toNat : Int) + 1) = p := by omega
  rw [e]
  by_cases hp : hasProto l p = true <;> simp [hp]
theorem named_len (l : List S40) (n : Nat) : ((protoNums n).filter (hasProto l)).length ≤ n := by
  refine Nat.le_trans (List.length_filter_le _ _) ?_
  simp [protoNums]
theorem mem_protoNums {n : Nat} {x : Int} : x ∈ protoNums n ↔ 1 ≤ x ∧ x ≤ n := by
  unfold protoNums
  simp only [List.mem_map, List.mem_range]
  constructor
  · rintro ⟨a, ha, rfl⟩; omega
  · intro h; exact ⟨(x - 1).toNat, by omega, by omega⟩
theorem protos_none (l : List S40) (h : ∀ q : Int, 1 ≤ q → q ≤ 255 → hasProto l q = true) : protosL l = (protoNums 255).filter (hasProto l) := by
  unfold protosL
  have : (protoNums 255).filter (fun x => !hasProto l x) = [] := by
    rw [List.filter_eq_nil_iff]
    intro a ha
    have := mem_protoNums.1 ha
    simp [h a this.1 this.2]
  rw [this]
  simp
theorem protoNums_split (p : Int) (h1 : 1 ≤ p) (h2 : p ≤ 255) : ∃ r, protoNums 255 = protoNums (p - 1).toNat ++ p :: r := by
  refine ⟨(List.range' p.toNat (255 - p.toNat)).map (fun i : Nat => (i : Int) + 1), ?_⟩
  unfold protoNums
  have : List.range 255 = List.range (p - 1).toNat ++ ((p - 1).toNat :: List.range' p.toNat (255 - p.toNat)) := by
    rw [List.range_eq_range', List.range_eq_range']
    have e1 : List.range' 0 255 = List.range' 0 ((p - 1).toNat + (1 + (255 - p.toNat))) := by congr 1; omega
    rw [e1, ← List.range'_append_1, ← List.range'_append_1]
    simp only [Nat.zero_add, Nat.mul_one, Nat.one_mul]
    congr 1
    rw [show (p - 1).toNat + 1 = p.toNat by omega]
    rfl
  rw [this, List.map_append, List.map_cons]
  have : (((p - 1).toNat : Int) + 1) = p := by omega
  rw [this]
theorem protos_found (l : List S40) (p : Int) (h1 : 1 ≤ p) (h2 : p ≤ 255) (h : ∀ q : Int, 1 ≤ q → q < p → hasProto l q = true) (hp : hasProto l p = false) : protosL l = (protoNums 255).filter (hasProto l) ++ [p] := by
  unfold protosL
  congr 1
  obtain ⟨r, hr⟩ := protoNums_split p h1 h2
  rw [hr, List.filter_append]
  have : (protoNums (p - 1).toNat).filter (fun x => !hasProto l x) = [] := by
    rw [List.filter_eq_nil_iff]
    intro a ha
    have := mem_protoNums.1 ha
    simp [h a this.1 (by omega)]
  rw [this]
  simp [hp]
set_option maxHeartbeats 2000000 in
set_option maxRecDepth 100000 in
theorem policy_protos_calls (A0 : Option Addr) (c0 : Nat) (l0 : List (S40)) (w : World) (hr0 : Kd.C k40 w A0 l0.length l0) (hlen : l0.length ≤ 32) (hwf : ∀ x ∈ l0, 0 ≤ x.f1 ∧ x.f1 ≤ 255) :
    Calls Try.prog 48 #[.slice A0 l0.length c0] w fun e w' => ∃ v0_ : Value, e = .returned v0_ ∧ Kd.R (Kd.int .i64) 3 w' w.heap.size (fun _ => True) v0_ (protosL l0) ∧ Below w.heap.size w w' := by
  have hu40 := Try.underlying40
  have HR0 := Aside0.mk hr0
  clear hr0
  have HWF := Aside0.mk hwf
  clear hwf
  have hmm := @run_makeMap Try.prog
  go_enter Try.func48, Try.ntmps48
  go_wp2
  go_loopg [12] l0.length (fun g v12 w' => ∃ i : Int, v12 = .int .i64 i ∧ Aside0 (0 ≤ i) ∧ Aside0 (i ≤ l0.length) ∧ Aside0 ((g : Int) = l0.length - i) ∧ Aside0 (SetIs w' w.heap.size i.toNat (hasProto (l0.take i.toNat))) ∧ Aside0 (Below w.heap.size w w'))
  case atStart => exact ⟨0, rfl, ⟨by omega⟩, ⟨by omega⟩, ⟨by omega⟩, ⟨(SetIs.made w).congr (fun x => by simp [hasProto])⟩, ⟨below_alloc (Below.refl _ _) _⟩⟩
  case round =>
    obtain ⟨i, rfl, H0, H1, HG, HS, HB⟩ := hrel
    by_cases hlt : i < l0.length
    · have c3b0 : decide (i < (l0.length : Int)) = true := decide_eq_true hlt
      have p105 : 0 ≤ (i : Int) := H0.out
      have q105 : i < (l0.length : Int) := hlt
      obtain ⟨ad105, e105, hx105_0, hx105_1, hx105_2, hx105_3, hx105_4, hx105_5⟩ := at_T40 HR0.out i p105 q105
      cases e105
      have HM := HWF.out _ (rd_T40_mem (i := i) H0.out hlt)
      have HM1 := HM.1
      have HM2 := HM.2
      clear HM
      have HN := hasProto_take l0 i H0.out hlt
      have HN2 := Aside0.mk HN
      clear HN
      try replace hx105_0 := (HB.out.cell (World.block_lt_of_cell? w _ hx105_0)).trans hx105_0
      try replace hx105_1 := (HB.out.cell (World.block_lt_of_cell? w _ hx105_1)).trans hx105_1
      try replace hx105_2 := (HB.out.cell (World.block_lt_of_cell? w _ hx105_2)).trans hx105_2
      try replace hx105_3 := (HB.out.cell (World.block_lt_of_cell? w _ hx105_3)).trans hx105_3
      try replace hx105_4 := (HB.out.cell (World.block_lt_of_cell? w _ hx105_4)).trans hx105_4
      try replace hx105_5 := (HB.out.cell (World.block_lt_of_cell? w _ hx105_5)).trans hx105_5
      clear hlt
      replace p105 := eq_true p105
      replace q105 := eq_true q105
      go_wp2_with (at_mapUpdate; refine wpList_store_set (b := w.heap.size) (n := i.toNat) (S := hasProto (l0.take i.toNat)) rfl _ _ _ rfl rfl (HS.out.alloc _) (by have := H1.out; unfold maxLen; omega) _ rfl (wf_i64_small HM1 (by omega)) rfl ?_; intro w1 hs1 hg1; have HS1 := Aside0.mk hs1; have HB1 := Aside0.mk (below_grown_new (below_alloc HB.out _) hg1 (Nat.le_refl _) (by have := HB.out.size; simp; omega)); clear hs1 hg1)
      go_roundg (l0.length - (i.toNat + 1))
      case measure => have := H0.out; have := HG.out; have := of_eq_true q105; omega
      case rel =>
        have h0 := H0.out
        have h1 := H1.out
        have hg := HG.out
        have q := of_eq_true q105
        have e : wrap64 (i + 1) = i + 1 := by unfold wrap64; omega
        rw [e]
        exact ⟨i + 1, rfl, ⟨by omega⟩, ⟨by omega⟩, ⟨by omega⟩, ⟨(HS1.out.mono (by omega)).congr (fun x => (HN2.out x).symm)⟩, HB1⟩
    · have c3b0 : decide (i < (l0.length : Int)) = false := decide_eq_false hlt
      have hi : i.toNat = l0.length := by have := H1.out; have := H0.out; omega
      have HS2 : Aside0 (SetIs wr w.heap.size l0.length (hasProto l0)) := ⟨by have := HS.out; rw [hi, List.take_length] at this; exact this⟩
      clear HS hi hlt HG H0 H1
      go_wp2
      go_loopg [6, 7] 255 (fun g v6 v7 w' => ∃ p : Int, v7 = .int .i64 p ∧ Aside0 (1 ≤ p) ∧ Aside0 (p ≤ 256) ∧ Aside0 ((g : Int) = 256 - p) ∧ Aside0 (SetIs w' w.heap.size l0.length (hasProto l0)) ∧ Aside0 (Kd.R (Kd.int .i64) 3 w' w.heap.size (fun k => k ≠ w.heap.size) v6 ((protoNums (p - 1).toNat).filter (hasProto l0))) ∧ Aside0 (Below w.heap.size w w'))
      case atStart => exact ⟨1, rfl, ⟨by omega⟩, ⟨by omega⟩, ⟨by omega⟩, HS2, ⟨Kd.R_nil _ _ _ _ _⟩, HB⟩
      case round =>
        clear HS2 HB c3b0
        obtain ⟨p, rfl, H0, H1, HG, HS, HO, HB⟩ := hrel
        by_cases hle : p ≤ 255
        · have c0b : decide (p ≤ 255) = true := decide_eq_true hle
          have HP := Aside0.mk (hasProto_filter l0 p H0.out)
          have HL := Aside0.mk (named_len l0 (p - 1).toNat)
          cases hs : hasProto l0 p
          · have HSP := Aside0.mk hs
            clear hs
            go_wp2_with (at_lookup; refine wpList_lookup_set (b := w.heap.size) (n := l0.length) (S := hasProto l0) rfl _ _ rfl rfl HS.out p rfl (wf_i64_small (by have := H0.out; omega) (by omega)) ?_; rw [HSP.out])
            go_roundg (255 - p.toNat)
            case measure => have := H0.out; have := HG.out; omega
            case rel =>
              have h0 := H0.out
              have hg := HG.out
              have e : wrap64 (p + 1) = p + 1 := by unfold wrap64; omega
              rw [e]
              refine ⟨p + 1, rfl, ⟨by omega⟩, ⟨by omega⟩, ⟨by omega⟩, HS, ⟨?_⟩, HB⟩
              rw [show (p + 1 - 1) = p by omega, HP.out, HSP.out]
              simpa using HO.out
          · have HSP := Aside0.mk hs
            clear hs
            go_wp2_with (first | (at_lookup; refine wpList_lookup_set (b := w.heap.size) (n := l0.length) (S := hasProto l0) rfl _ _ rfl rfl HS.out p rfl (wf_i64_small (by have := H0.out; omega) (by omega)) ?_; rw [HSP.out]) | (at_builtin; refine Kd.R_append (Kd.int .i64) (w0 := w) w.heap.size rfl (.tmp 27) (.tmp 29) 83 3 (.int .i64 0) 8 rfl Try.underlying83 info3x rfl (by decide) (by omega) u6 ((protoNums (p - 1).toNat).filter (hasProto l0)) p [.int .i64 p] (fun k => k ≠ w.heap.size) (fun _ => False) rfl rfl ?aP (fun _ hk => hk.elim) ?aF ?aO ?aB ?aS ?aL ?_; (case aP => exact rfl); (case aF => exact (fun k hk => HS.out.fresh hk)); (case aO => exact HO.out); (case aB => exact HB.out); (case aS => exact HB.out.size); (case aL => have := HL.out; have := H1.out; omega); intro v1 w2 ho hb hg hat; have HO2 := Aside0.mk ho; have HB2 := Aside0.mk hb; have HS2 := Aside0.mk (HS.out.kept hg (fun e => HO.out.1 _ e.symm rfl)); clear ho hb hg hat))
            go_roundg (255 - p.toNat)
            case measure => have := H0.out; have := HG.out; omega
            case rel =>
              have h0 := H0.out
              have hg := HG.out
              have e : wrap64 (p + 1) = p + 1 := by unfold wrap64; omega
              rw [e]
              refine ⟨p + 1, rfl, ⟨by omega⟩, ⟨by omega⟩, ⟨by omega⟩, HS2, ⟨?_⟩, HB2⟩
              rw [show (p + 1 - 1) = p by omega, HP.out, HSP.out]
              simpa using HO2.out
        · have c0b : decide (p ≤ 255) = false := decide_eq_false hle
          have hp : (p - 1).toNat = 255 := by have := H1.out; omega
          have HO1 : Aside0 (Kd.R (Kd.int .i64) 3 wr w.heap.size (fun k => k ≠ w.heap.size) u6 ((protoNums 255).filter (hasProto l0))) := ⟨by have := HO.out; rw [hp] at this; exact this⟩
          have HL := Aside0.mk (named_len l0 255)
          clear HO hp hle H0 H1 HG
          go_wp2
          have HS1 := HS
          have HB1 := HB
          clear HS HB
          go_loopg [8] 255 (fun g v8 w' => ∃ p : Int, v8 = .int .i64 p ∧ Aside0 (1 ≤ p) ∧ Aside0 (p ≤ 256) ∧ Aside0 ((g : Int) = 256 - p) ∧ Aside0 (∀ q : Int, 1 ≤ q → q < p → hasProto l0 q = true) ∧ Aside0 (SetIs w' w.heap.size l0.length (hasProto l0)) ∧ Aside0 (Kd.R (Kd.int .i64) 3 w' w.heap.size (fun k => k ≠ w.heap.size) u6 ((protoNums 255).filter (hasProto l0))) ∧ Aside0 (Below w.heap.size w w'))
          case atStart => exact ⟨1, rfl, ⟨by omega⟩, ⟨by omega⟩, ⟨by omega⟩, ⟨fun q h1 h2 => by omega⟩, HS1, HO1, HB1⟩
          case round =>
            clear HS1 HO1 HB1 c0b
            obtain ⟨p, rfl, H0, H1, HG, HA, HS, HO, HB⟩ := hrel
            by_cases hle : p ≤ 255
            · have c0b : decide (p ≤ 255) = true := decide_eq_true hle
              cases hs : hasProto l0 p
              · have HSP := Aside0.mk hs
                clear hs
                go_wp2_with (first | (at_lookup; refine wpList_lookup_set (b := w.heap.size) (n := l0.length) (S := hasProto l0) rfl _ _ rfl rfl HS.out p rfl (wf_i64_small (by have := H0.out; omega) (by omega)) ?_; rw [HSP.out]) | (at_builtin; refine Kd.R_append (Kd.int .i64) (w0 := w) w.heap.size rfl (.tmp 39) (.tmp 41) 83 3 (.int .i64 0) 8 rfl Try.underlying83 info3x rfl (by decide) (by omega) u6 ((protoNums 255).filter (hasProto l0)) p [.int .i64 p] (fun k => k ≠ w.heap.size) (fun _ => False) rfl rfl ?aP (fun _ hk => hk.elim) ?aF ?aO ?aB ?aS ?aL ?_; (case aP => exact rfl); (case aF => exact (fun k hk => HS.out.fresh hk)); (case aO => exact HO.out); (case aB => exact HB.out); (case aS => exact HB.out.size); (case aL => have := HL.out; have := H1.out; omega); intro v1 w2 ho hb hg hat; have HO2 := Aside0.mk ho; have HB2 := Aside0.mk hb; have HS2 := Aside0.mk (HS.out.kept hg (fun e => HO.out.1 _ e.symm rfl)); clear ho hb hg hat))
                go_ret
                refine ⟨_, rfl, ?_, HB2.out⟩
                rw [protos_found l0 p H0.out hle HA.out HSP.out]
                exact Kd.R_mono HO2.out (fun _ _ => trivial)
              · have HSP := Aside0.mk hs
                clear hs
                go_wp2_with (at_lookup; refine wpList_lookup_set (b := w.heap.size) (n := l0.length) (S := hasProto l0) rfl _ _ rfl rfl HS.out p rfl (wf_i64_small (by have := H0.out; omega) (by omega)) ?_; rw [HSP.out])
                go_roundg (255 - p.toNat)
                case measure => have := H0.out; have := HG.out; omega
                case rel =>
                  have h0 := H0.out
                  have hg := HG.out
                  have ha := HA.out
                  have e : wrap64 (p + 1) = p + 1 := by unfold wrap64; omega
                  rw [e]
                  refine ⟨p + 1, rfl, ⟨by omega⟩, ⟨by omega⟩, ⟨by omega⟩, ⟨fun q h1 h2 => ?_⟩, HS, HO, HB⟩
                  by_cases hq : q = p
                  · rw [hq]; exact HSP.out
                  · exact ha q h1 (by omega)
            · have c0b : decide (p ≤ 255) = false := decide_eq_false hle
              go_wp2
              go_ret
              refine ⟨_, rfl, ?_, HB.out⟩
              rw [protos_none l0 (fun q h1 h2 => HA.out q h1 (by omega))]
              exact Kd.R_mono HO.out (fun _ _ => trivial)
def fitsP (p : Int) (x : S40) : Bool := x.f1 == 0 || x.f1 == p
def portsOf (p : Int) (x : S40) (y : Int) : Bool := fitsP p x && (y == x.f3 || (decide (x.f4 < 65535) && y == x.f4 + 1))
def portsB (l : List S40) (p y : Int) : Bool := y == 0 || l.any (fun x => portsOf p x y)
theorem portsB_take (l : List S40) (p : Int) (i : Int) (h0 : 0 ≤ i) (h1 : i < l.length) (y : Int) : portsB (l.take (i + 1).toNat) p y = (portsB (l.take i.toNat) p y || portsOf p (rd_T40 l i) y) := by
  have h : i.toNat < l.length := by omega
  unfold portsB rd_T40
  rw [show (i + 1).toNat = i.toNat + 1 by omega, List.take_succ_eq_append_getElem h, List.any_append]
  simp [h, Bool.or_assoc]
theorem cell_beside_map {w wr : World} {b n : Nat} {S : Int → Bool} {a : Addr} {v : Value} (h : SetIs w b n S) (hg : w.grownBy wr (some b)) (hc : w.cell? a = some v) : wr.cell? a = some v := by
  obtain ⟨D, ⟨es, clock, hb, _⟩, _⟩ := h
  have hlt := World.block_lt_of_cell? w a hc
  have hne : a.block ≠ b := by
    rintro rfl
    simp [World.cell?, hb] at hc
  have := hg.block a.block hlt (by intro e; injection e with e; exact hne e)
  simpa [World.cell?, this] using hc
theorem box_beside_map {wr w2 : World} {b t : Nat} {cs : Array Value} (hg : (wr.alloc (.cells cs t)).grownBy w2 (some b)) (hb : b < wr.heap.size) (j : Nat) (v : Value) (hv : cs[j]? = some v) : w2.cell? ⟨wr.heap.size, j, none⟩ = some v := by
  have h1 := (MapKept.heap_alloc wr (.cells cs t)).1
  have h2 := hg.block wr.heap.size (by simp) (by intro e; injection e with e; omega)
  have h3 : w2.heap[wr.heap.size]? = some (.cells cs t) := h2.trans h1
  simp [World.cell?, h3, hv]
set_option maxHeartbeats 2000000 in
set_option maxRecDepth 100000 in
theorem policy_ports_calls (A0 : Option Addr) (c0 : Nat) (l0 : List (S40)) (p : Int) (b n : Nat) (S : Int → Bool) (w : World) (hS : SetIs w b n S) (hr0 : Kd.C k40 w A0 l0.length l0) (hlen : l0.length ≤ 32) (hwf : ∀ x ∈ l0, 0 ≤ x.f3 ∧ x.f3 ≤ 65535 ∧ 0 ≤ x.f4 ∧ x.f4 ≤ 65535) :
    Calls Try.prog 49 #[.map (some b), .slice A0 l0.length c0, .int .i64 p] w fun e w' => e = .returned (.tuple #[]) ∧ SetIs w' b 100 (portsB l0 p) ∧ w.grownBy w' (some b) := by
  have hu40 := Try.underlying40
  have HR0 := Aside0.mk hr0
  clear hr0
  have HWF := Aside0.mk hwf
  clear hwf
  have HS0 := Aside0.mk hS
  clear hS
  go_enter Try.func49, Try.ntmps49
  go_wp2_with (first | ((with_reducible refine gate_builtin (b := .clear) (xs := #[.tmp 8]) rfl ?_); go_must (refine wpList_clear_set (b := b) rfl _ rfl rfl HS0.out ?_; intro w1 hs1 hg1; have HS := Aside0.mk hs1; have HG := Aside0.mk hg1; clear hs1 hg1)) | (at_mapUpdate; go_must (refine wpList_store_set (b := b) rfl _ _ _ rfl rfl HS.out (by unfold maxLen; omega) _ rfl (by decide) rfl ?_; intro w2 hs2 hg2; have n0_ := Aside0.mk hs2; have n1_ := Aside0.mk (HG.out.trans hg2); clear HS HG; have HS := n0_; have HG := n1_; clear n0_ n1_ hs2 hg2)))
  go_loopg [12] l0.length (fun g v12 w' => ∃ i : Int, v12 = .int .i64 i ∧ Aside0 (0 ≤ i) ∧ Aside0 (i ≤ l0.length) ∧ Aside0 ((g : Int) = l0.length - i) ∧ Aside0 (SetIs w' b (1 + 2 * i.toNat) (portsB (l0.take i.toNat) p)) ∧ Aside0 (w.grownBy w' (some b)))
  case atStart => exact ⟨0, rfl, ⟨by omega⟩, ⟨by omega⟩, ⟨by omega⟩, ⟨HS.out.congr (fun x => by simp [portsB])⟩, HG⟩
  case round =>
    clear HS HG
    obtain ⟨i, rfl, H0, H1, HN, HS, HG⟩ := hrel
    by_cases hlt : i < l0.length
    · have c3b0 : decide (i < (l0.length : Int)) = true := decide_eq_true hlt
      have p105 : 0 ≤ (i : Int) := H0.out
      have q105 : i < (l0.length : Int) := hlt
      obtain ⟨ad105, e105, hx105_0, hx105_1, hx105_2, hx105_3, hx105_4, hx105_5⟩ := at_T40 HR0.out i p105 q105
      cases e105
      have HM := HWF.out _ (rd_T40_mem (i := i) H0.out hlt)
      obtain ⟨HM1, HM2, HM3, HM4⟩ := HM
      have HP := Aside0.mk (portsB_take l0 p i H0.out hlt)
      replace hx105_0 := cell_beside_map HS0.out HG.out hx105_0
      replace hx105_1 := cell_beside_map HS0.out HG.out hx105_1
      replace hx105_2 := cell_beside_map HS0.out HG.out hx105_2
      replace hx105_3 := cell_beside_map HS0.out HG.out hx105_3
      replace hx105_4 := cell_beside_map HS0.out HG.out hx105_4
      replace hx105_5 := cell_beside_map HS0.out HG.out hx105_5
      clear hlt
      replace p105 := eq_true p105
      replace q105 := eq_true q105
      have HE : Aside0 (wrap64 (i + 1) = i + 1) := ⟨by have := H0.out; have := of_eq_true q105; unfold wrap64; omega⟩
      have done : ∀ {w' : World} {n' : Nat} {S' : Int → Bool} {gk' : Nat}, SetIs w' b n' S' → n' ≤ 1 + 2 * (i + 1).toNat → (∀ y, S' y = portsB (l0.take (i + 1).toNat) p y) → w.grownBy w' (some b) → (gk' : Int) = l0.length - (i + 1) → ∃ j : Int, Value.int .i64 (wrap64 (i + 1)) = .int .i64 j ∧ Aside0 (0 ≤ j) ∧ Aside0 (j ≤ l0.length) ∧ Aside0 ((gk' : Int) = l0.length - j) ∧ Aside0 (SetIs w' b (1 + 2 * j.toNat) (portsB (l0.take j.toNat) p)) ∧ Aside0 (w.grownBy w' (some b)) := by
        intro w' n' S' gk' h1 h2 h3 h4 h5
        have := H0.out
        have := of_eq_true q105
        exact ⟨i + 1, by rw [HE.out], ⟨by omega⟩, ⟨by omega⟩, ⟨h5⟩, ⟨(h1.mono h2).congr h3⟩, ⟨h4⟩⟩
      have DN := Aside0.mk @done
      clear done
      by_cases hf : fitsP p (rd_T40 l0 i) = true
      · have HF := Aside0.mk hf
        have hcase : ((rd_T40 l0 i).f1 == 0) = true ∨ (((rd_T40 l0 i).f1 == 0) = false ∧ ((rd_T40 l0 i).f1 == p) = true) := by
          unfold fitsP at hf
          revert hf
          cases ((rd_T40 l0 i).f1 == 0) <;> simp
        clear hf
        by_cases h65 : (rd_T40 l0 i).f4 < 65535
        · have HH := Aside0.mk (decide_eq_true h65)
          rcases hcase with hz | ⟨hz, hp⟩
          · skip
            go_wp2_with (first | ((with_reducible refine gate_ (.mapUpdate 82 (.tmp 25) (.tmp 27) (.const (.bool true))) rfl ?_); go_must (refine wpList_store_set (b := b) rfl _ _ _ rfl rfl (HS.out.alloc _) (by have := H1.out; unfold maxLen; omega) _ rfl (wf_i64_small (by omega) (by omega)) rfl ?_; intro w2 hs2 hg2; have n0_ := Aside0.mk hs2; have n1_ := Aside0.mk ((HG.out.trans (World.grownBy_alloc _ _ _)).trans hg2); have hc5 := box_beside_map hg2 HS.out.lt 5 _ rfl; clear HS HG; have HS := n0_; have HG := n1_; clear n0_ n1_ hs2 hg2)) | ((with_reducible refine gate_ (.mapUpdate 82 (.tmp 31) (.tmp 34) (.const (.bool true))) rfl ?_); go_must (refine wpList_store_set (b := b) rfl _ _ _ rfl rfl (HS.out) (by have := H1.out; unfold maxLen; omega) _ rfl (wf_i64_small (by omega) (by omega)) rfl ?_; intro w2 hs2 hg2; have n0_ := Aside0.mk hs2; have n1_ := Aside0.mk (HG.out.trans hg2); clear HS HG; have HS := n0_; have HG := n1_; clear n0_ n1_ hs2 hg2)))
            go_roundg (l0.length - (i + 1).toNat)
            case measure => have := H0.out; have := HN.out; have := of_eq_true q105; omega
            case rel => exact DN.out HS.out (by have := H0.out; omega) (fun y => by rw [HP.out y]; unfold portsOf; simp [HF.out, HH.out, Bool.or_assoc]) HG.out (by have := H0.out; have := of_eq_true q105; omega)
          · skip
            go_wp2_with (first | ((with_reducible refine gate_ (.mapUpdate 82 (.tmp 25) (.tmp 27) (.const (.bool true))) rfl ?_); go_must (refine wpList_store_set (b := b) rfl _ _ _ rfl rfl (HS.out.alloc _) (by have := H1.out; unfold maxLen; omega) _ rfl (wf_i64_small (by omega) (by omega)) rfl ?_; intro w2 hs2 hg2; have n0_ := Aside0.mk hs2; have n1_ := Aside0.mk ((HG.out.trans (World.grownBy_alloc _ _ _)).trans hg2); have hc5 := box_beside_map hg2 HS.out.lt 5 _ rfl; clear HS HG; have HS := n0_; have HG := n1_; clear n0_ n1_ hs2 hg2)) | ((with_reducible refine gate_ (.mapUpdate 82 (.tmp 31) (.tmp 34) (.const (.bool true))) rfl ?_); go_must (refine wpList_store_set (b := b) rfl _ _ _ rfl rfl (HS.out) (by have := H1.out; unfold maxLen; omega) _ rfl (wf_i64_small (by omega) (by omega)) rfl ?_; intro w2 hs2 hg2; have n0_ := Aside0.mk hs2; have n1_ := Aside0.mk (HG.out.trans hg2); clear HS HG; have HS := n0_; have HG := n1_; clear n0_ n1_ hs2 hg2)))
            go_roundg (l0.length - (i + 1).toNat)
            case measure => have := H0.out; have := HN.out; have := of_eq_true q105; omega
            case rel => exact DN.out HS.out (by have := H0.out; omega) (fun y => by rw [HP.out y]; unfold portsOf; simp [HF.out, HH.out, Bool.or_assoc]) HG.out (by have := H0.out; have := of_eq_true q105; omega)
        · have HH := Aside0.mk (decide_eq_false h65)
          rcases hcase with hz | ⟨hz, hp⟩
          · skip
            go_wp2_with (first | ((with_reducible refine gate_ (.mapUpdate 82 (.tmp 25) (.tmp 27) (.const (.bool true))) rfl ?_); go_must (refine wpList_store_set (b := b) rfl _ _ _ rfl rfl (HS.out.alloc _) (by have := H1.out; unfold maxLen; omega) _ rfl (wf_i64_small (by omega) (by omega)) rfl ?_; intro w2 hs2 hg2; have n0_ := Aside0.mk hs2; have n1_ := Aside0.mk ((HG.out.trans (World.grownBy_alloc _ _ _)).trans hg2); have hc5 := box_beside_map hg2 HS.out.lt 5 _ rfl; clear HS HG; have HS := n0_; have HG := n1_; clear n0_ n1_ hs2 hg2)) | ((with_reducible refine gate_ (.mapUpdate 82 (.tmp 31) (.tmp 34) (.const (.bool true))) rfl ?_); go_must (refine wpList_store_set (b := b) rfl _ _ _ rfl rfl (HS.out) (by have := H1.out; unfold maxLen; omega) _ rfl (wf_i64_small (by omega) (by omega)) rfl ?_; intro w2 hs2 hg2; have n0_ := Aside0.mk hs2; have n1_ := Aside0.mk (HG.out.trans hg2); clear HS HG; have HS := n0_; have HG := n1_; clear n0_ n1_ hs2 hg2)))
            go_roundg (l0.length - (i + 1).toNat)
            case measure => have := H0.out; have := HN.out; have := of_eq_true q105; omega
            case rel => exact DN.out HS.out (by have := H0.out; omega) (fun y => by rw [HP.out y]; unfold portsOf; simp [HF.out, HH.out, Bool.or_assoc]) HG.out (by have := H0.out; have := of_eq_true q105; omega)
          · skip
            go_wp2_with (first | ((with_reducible refine gate_ (.mapUpdate 82 (.tmp 25) (.tmp 27) (.const (.bool true))) rfl ?_); go_must (refine wpList_store_set (b := b) rfl _ _ _ rfl rfl (HS.out.alloc _) (by have := H1.out; unfold maxLen; omega) _ rfl (wf_i64_small (by omega) (by omega)) rfl ?_; intro w2 hs2 hg2; have n0_ := Aside0.mk hs2; have n1_ := Aside0.mk ((HG.out.trans (World.grownBy_alloc _ _ _)).trans hg2); have hc5 := box_beside_map hg2 HS.out.lt 5 _ rfl; clear HS HG; have HS := n0_; have HG := n1_; clear n0_ n1_ hs2 hg2)) | ((with_reducible refine gate_ (.mapUpdate 82 (.tmp 31) (.tmp 34) (.const (.bool true))) rfl ?_); go_must (refine wpList_store_set (b := b) rfl _ _ _ rfl rfl (HS.out) (by have := H1.out; unfold maxLen; omega) _ rfl (wf_i64_small (by omega) (by omega)) rfl ?_; intro w2 hs2 hg2; have n0_ := Aside0.mk hs2; have n1_ := Aside0.mk (HG.out.trans hg2); clear HS HG; have HS := n0_; have HG := n1_; clear n0_ n1_ hs2 hg2)))
            go_roundg (l0.length - (i + 1).toNat)
            case measure => have := H0.out; have := HN.out; have := of_eq_true q105; omega
            case rel => exact DN.out HS.out (by have := H0.out; omega) (fun y => by rw [HP.out y]; unfold portsOf; simp [HF.out, HH.out, Bool.or_assoc]) HG.out (by have := H0.out; have := of_eq_true q105; omega)
      · have hz : ((rd_T40 l0 i).f1 == 0) = false := by
          unfold fitsP at hf
          revert hf
          cases ((rd_T40 l0 i).f1 == 0) <;> simp
        have hp : ((rd_T40 l0 i).f1 == p) = false := by
          unfold fitsP at hf
          revert hf
          cases ((rd_T40 l0 i).f1 == p) <;> simp
        have HF := Aside0.mk hf
        clear hf
        go_wp2
        go_roundg (l0.length - (i + 1).toNat)
        case measure => have := H0.out; have := HN.out; have := of_eq_true q105; omega
        case rel => exact DN.out (HS.out.alloc _) (by have := H0.out; omega) (fun y => by rw [HP.out y]; unfold portsOf; simp [HF.out]) (HG.out.trans (World.grownBy_alloc _ _ _)) (by have := H0.out; have := of_eq_true q105; omega)
    · have c3b0 : decide (i < (l0.length : Int)) = false := decide_eq_false hlt
      have hi : i.toNat = l0.length := by have := H1.out; have := H0.out; omega
      have HS2 : Aside0 (SetIs wr b 100 (portsB l0 p)) := ⟨by have := HS.out; rw [hi, List.take_length] at this; exact this.mono (by omega)⟩
      clear HS hi hlt
      go_wp2
      go_end0
      exact ⟨rfl, HS2.out, HG.out⟩
def allowB : List S40 → Int → Int → Int → Bool
  | [], _, _, _ => false
  | x :: r, p, a, port => if (x.f1 = 0 ∨ x.f1 = p) ∧ prefix_Has.f x.f2.f0 x.f2.f1 a = some true ∧ port ≥ x.f3 ∧ port ≤ x.f4 then x.f0 else allowB r p a port
def okRule (a : Int) (x : S40) : Bool := decide (0 ≤ x.f1) && decide (x.f1 ≤ 255) && decide (0 ≤ x.f3) && decide (x.f3 ≤ 65535) && decide (0 ≤ x.f4) && decide (x.f4 ≤ 65535) && (prefix_Has.f x.f2.f0 x.f2.f1 a).isSome
def okRules (l : List S40) (a : Int) : Bool := decide (l.length ≤ 32) && l.all (okRule a)
def portsL (l : List S40) (p : Int) : List Int := 0 :: l.flatMap (fun x => if fitsP p x = true then (if x.f4 < 65535 then [x.f3, x.f4 + 1] else [x.f3]) else [])
def policy_reached.f (l0 : List S40) (a1 : Int) : Option Bool := if okRules l0 a1 = true then some ((protosL l0).any fun p => (portsL l0 p).any fun x => allowB l0 p a1 x) else none
theorem mem_portsL {l : List S40} {p y : Int} : y ∈ portsL l p ↔ portsB l p y = true := by
  unfold portsL portsB
  simp only [List.mem_cons, List.mem_flatMap, Bool.or_eq_true, List.any_eq_true, beq_iff_eq]
  refine or_congr Iff.rfl (exists_congr fun x => and_congr Iff.rfl ?_)
  unfold portsOf
  cases fitsP p x <;> by_cases h : x.f4 < 65535 <;> simp [h]
theorem allow_loop (l : List S40) (p a port : Int) (hl : l.length ≤ 32) (hh : ∀ x ∈ l, (prefix_Has.f x.f2.f0 x.f2.f1 a).isSome = true) (d : Nat) :
    ∀ i : Int, 0 ≤ i → (l.length : Int) - i = d → policy_allow.l0 (d + 1) p a port l (l.length : Int) i = some (allowB (l.drop i.toNat) p a port) := by
  induction d with
  | zero =>
    intro i h0 hd
    simp only [policy_allow.l0]
    rw [if_neg (by omega), List.drop_of_length_le (by omega)]
    rfl
  | succ d ih =>
    intro i h0 hd
    have hi : i.toNat < l.length := by omega
    have e : wrap64 (i + 1) = i + 1 := by unfold wrap64; omega
    have hr : rd_T40 l i = l[i.toNat] := by unfold rd_T40; simp [hi]
    have ih' := ih (i + 1) (by omega) (by omega)
    rw [show (i + 1).toNat = i.toNat + 1 by omega] at ih'
    obtain ⟨b, hb⟩ := Option.isSome_iff_exists.1 (hh _ (List.getElem_mem hi))
    rw [policy_allow.l0]
    rw [if_pos (by omega), if_pos h0, if_pos (by omega), e, ih', hr, hb, List.drop_eq_getElem_cons hi]
    simp only [allowB, Option.bind_some, hb]
    by_cases h1 : l[i.toNat].f1 = 0
    · cases b <;> by_cases h3 : port ≥ l[i.toNat].f3 <;> by_cases h4 : port ≤ l[i.toNat].f4 <;> simp [h1, h3, h4]
    · by_cases h2 : l[i.toNat].f1 = p
      · cases b <;> by_cases h3 : port ≥ l[i.toNat].f3 <;> by_cases h4 : port ≤ l[i.toNat].f4 <;> simp [h1, h2, h3, h4]
      · simp [h1, h2]
theorem allow_f (l : List S40) (p a port : Int) (hl : l.length ≤ 32) (hh : ∀ x ∈ l, (prefix_Has.f x.f2.f0 x.f2.f1 a).isSome = true) : policy_allow.f (l.length + 1) l p a port = some (allowB l p a port) := by
  unfold policy_allow.f
  rw [allow_loop l p a port hl hh l.length 0 (by omega) (by omega)]
  rfl
theorem portsL_wf {l : List S40} {p y : Int} (h : ∀ x ∈ l, 0 ≤ x.f3 ∧ x.f3 ≤ 65535 ∧ 0 ≤ x.f4 ∧ x.f4 ≤ 65535) (hy : y ∈ portsL l p) : (Lit.int .i64 y).wf = true := by
  have hh : 0 ≤ y ∧ y ≤ 65536 := by
    unfold portsL at hy
    simp only [List.mem_cons, List.mem_flatMap] at hy
    rcases hy with rfl | ⟨x, hx, hy⟩
    · omega
    · have := h x hx
      split at hy
      · split at hy
        · simp at hy
          omega
        · simp at hy
          omega
      · simp at hy
  exact wf_i64_small hh.1 hh.2
theorem rd_take (l : List Int) (i : Int) (h0 : 0 ≤ i) (h1 : i < l.length) : l.take (i + 1).toNat = l.take i.toNat ++ [rd l i] := by
  have h : i.toNat < l.length := by omega
  rw [show (i + 1).toNat = i.toNat + 1 by omega, List.take_succ_eq_append_getElem h]
  simp [rd, h]
theorem rd_mem_ (l : List Int) (i : Int) (h0 : 0 ≤ i) (h1 : i < l.length) : rd l i ∈ l := by
  have h : i.toNat < l.length := by omega
  have : rd l i = l[i.toNat] := by simp [rd, h]
  rw [this]
  exact List.getElem_mem h
theorem protosL_small (l : List S40) : (protosL l).length ≤ 256 := by
  unfold protosL
  have h1 := List.length_filter_le (hasProto l) (protoNums 255)
  have h2 : (((protoNums 255).filter (fun x => !hasProto l x)).take 1).length ≤ 1 := by rw [List.length_take]; omega
  have h3 : (protoNums 255).length = 255 := by simp [protoNums]
  rw [List.length_append]
  omega
set_option maxHeartbeats 4000000 in
set_option maxRecDepth 100000 in
theorem policy_reached.calls (A0 : Option Addr) (c0 : Nat) (l0 : List (S40)) (a1 : Int) (r : Bool) (w : World) (hr0 : Kd.C k40 w A0 l0.length l0) (hc0 : l0.length ≤ c0) (h : policy_reached.f l0 a1 = some r) :
    Calls Try.prog 30 #[.slice A0 l0.length c0, .int .u32 a1] w fun e w' => e = .returned (.bool r) ∧ Below w.heap.size w w' := by
  unfold policy_reached.f at h
  split at h
  case isFalse => exact absurd h (by simp)
  case isTrue hok =>
  have hr := Option.some.inj h
  clear h
  have HRES := Aside0.mk hr
  clear hr
  unfold okRules at hok
  simp only [Bool.and_eq_true, decide_eq_true_eq, List.all_eq_true, okRule] at hok
  obtain ⟨hlen, hok⟩ := hok
  have HOK := Aside0.mk hok
  clear hok
  have HR0 := Aside0.mk hr0
  have HC0 := Aside0.mk hc0
  clear hr0 hc0
  have hmm := @run_makeMap Try.prog
  have AL : Aside0 (∀ p port : Int, policy_allow.f (l0.length + 1) l0 p a1 port = some (allowB l0 p a1 port)) := ⟨fun p port => allow_f l0 p a1 port hlen (fun x hx => (HOK.out x hx).2)⟩
  go_enter Try.func30, Try.ntmps30
  go_wp2_with (first | ((with_reducible refine gate_callee (f := 48) rfl ?_); go_must (refine goesL_ (some 11) rfl rfl Try.func48 (by kernel_rfl) rfl #[.slice A0 l0.length c0] rfl (by (try simp only [List.map_toArray, List.map_cons, List.map_nil]); rfl) ?_; refine (policy_protos_calls A0 c0 l0 _ (Kd.C_below HR0.out (below_alloc (Below.refl _ _) _)) hlen (fun x hx => by have := HOK.out x hx; exact ⟨this.1.1.1.1.1.1, this.1.1.1.1.1.2⟩)).mono ?_; rintro e w1 ⟨v, rfl, hR, hb⟩; have hR2 := Kd.R_bound hR; obtain ⟨Ap, cp, rfl, hlp, hCp⟩ := Kd.R_reads hR; have HB := Aside0.mk (below_step (below_alloc (Below.refl w.heap.size w) (.map #[] 0)) hb); have HS := Aside0.mk ((SetIs.made w).below hb); have HR := Aside0.mk (Kd.R_lower (Kd.R_mono hR2 (ok' := fun k => k ≠ w.heap.size) (fun k hk => by have := hk.2.1; simp at this; omega)) (base' := w.heap.size) (by simp)); clear hR hR2 hlp hCp hb; refine ⟨_, rfl, ?_⟩)))
  go_loopg [13] (protosL l0).length (fun g v13 w' => ∃ i : Int, v13 = .int .i64 i ∧ Aside0 (0 ≤ i) ∧ Aside0 (i ≤ (protosL l0).length) ∧ Aside0 ((g : Int) = (protosL l0).length - i) ∧ Aside0 (∃ n S, SetIs w' w.heap.size n S) ∧ Aside0 (Kd.R (Kd.int .i64) 3 w' w.heap.size (fun k => k ≠ w.heap.size) (.slice Ap (protosL l0).length cp) (protosL l0)) ∧ Aside0 (Below w.heap.size w w') ∧ Aside0 (∀ q ∈ (protosL l0).take i.toNat, ∀ x ∈ portsL l0 q, allowB l0 q a1 x = false))
  case atStart => exact ⟨0, rfl, ⟨by omega⟩, ⟨by omega⟩, ⟨by omega⟩, ⟨_, _, HS.out⟩, HR, HB, ⟨fun q hq => by simp at hq⟩⟩
  case round =>
    clear HS HR HB
    obtain ⟨i, rfl, H0, H1, HN, HS, HR, HB, HA⟩ := hrel
    by_cases hlt : i < (protosL l0).length
    · have c3b0 : decide (i < ((protosL l0).length : Int)) = true := decide_eq_true hlt
      have p105 : 0 ≤ (i : Int) := H0.out
      have q105 : i < ((protosL l0).length : Int) := hlt
      obtain ⟨A', c', he, _, hC⟩ := Kd.R_reads HR.out
      cases he
      obtain ⟨ad, e105, hx105⟩ := Kd.at_int hC i p105 q105
      cases e105
      clear hC hlt
      replace p105 := eq_true p105
      replace q105 := eq_true q105
      go_wp2_with (first | ((with_reducible refine gate_callee (f := 49) rfl ?_); go_must (refine goesL_ (some 20) rfl rfl Try.func49 (by kernel_rfl) rfl #[.map (some w.heap.size), .slice A0 l0.length c0, .int .i64 (rd (protosL l0) i)] rfl (by (try simp only [List.map_toArray, List.map_cons, List.map_nil]); rfl) ?_; obtain ⟨n1, S1, hS1⟩ := HS.out; refine (policy_ports_calls A0 c0 l0 (rd (protosL l0) i) w.heap.size n1 S1 _ hS1 (Kd.C_below HR0.out HB.out) hlen (fun x hx => by have := HOK.out x hx; exact ⟨this.1.1.1.1.2, this.1.1.1.2, this.1.1.2, this.1.2⟩)).mono ?_; rintro e w2 ⟨rfl, hs2, hg2⟩; have n0_ := Aside0.mk hs2; have n1_ := Aside0.mk (below_grown_new HB.out hg2 (Nat.le_refl _) HB.out.size); have n2_ := Aside0.mk (Kd.R_grown HR.out hg2 (fun k hk e => hk (by injection e))); clear HS HB HR hs2 hg2 hS1; have HS := n0_; have HB := n1_; have HR := n2_; clear n0_ n1_ n2_; refine ⟨_, rfl, ?_⟩)) | (at_range; go_must (refine wpList_range_set (b := w.heap.size) rfl _ rfl rfl HS.out ?_; intro w3 cnt hr3 hg3 hz3; have n1_ := Aside0.mk (HB.out.trans (show Below w.heap.size _ w3 from ⟨hg3.os, hg3.tape, hg3.output, hg3.size, fun k hk => hg3.block k (Nat.lt_of_lt_of_le hk HB.out.size) (by simp)⟩)); have n2_ := Aside0.mk (Kd.R_mono (Kd.R_grown (Kd.R_bound HR.out) hg3 (fun k hk e => by simp at e)) (ok' := fun k => k ≠ w.heap.size ∧ k ≠ w2.heap.size) (fun k hk => ⟨hk.1, Nat.ne_of_lt hk.2.2.1⟩)); have HRG := Aside0.mk hr3; have HI := Aside0.mk HB.out.size; clear HS HB HR hr3 hg3 hz3; have HB := n1_; have HR := n2_; clear n1_ n2_)))
      go_frame
      go_loopg [8] cnt (fun g v8 w' => ∃ L, Aside0 (RangeIs w' w.heap.size w2.heap.size 100 (portsB l0 (rd (protosL l0) i)) L g) ∧ Aside0 (∀ x, (Lit.int .i64 x).wf = true → portsB l0 (rd (protosL l0) i) x = true → L x = false → allowB l0 (rd (protosL l0) i) a1 x = false) ∧ Aside0 (Kd.R (Kd.int .i64) 3 w' w.heap.size (fun k => k ≠ w.heap.size ∧ k ≠ w2.heap.size) (.slice (some ad) (protosL l0).length cp) (protosL l0)) ∧ Aside0 (Below w.heap.size w w'))
      case atStart => exact ⟨_, HRG, ⟨fun x _ h1 h2 => by rw [h1] at h2; cases h2⟩, HR, HB⟩
      case round =>
        clear HRG HR HB
        obtain ⟨L, HRG, HL, HR, HB⟩ := hrel
        go_wp2_with (first | (at_next; go_must (refine wpList_next_set rfl _ rfl rfl HRG.out ?_ ?_; rotate_left; intro x w4 cnt4 hwx hLx hSx hrg4 hlt4 hg4 hz4 hen4; have n0_ := Aside0.mk hrg4; have n1_ := Aside0.mk (below_grown_new HB.out hg4 HI.out HB.out.size); have n2_ := Aside0.mk (Kd.R_grown HR.out hg4 (fun k hk e => hk.2 (by injection e))); have HX := Aside0.mk (And.intro hwx hSx); have HLT := Aside0.mk hlt4; clear HRG HB HR hrg4 hg4 hz4 hwx hLx hSx hlt4; have HRG := n0_; have HB := n1_; have HR := n2_; clear n0_ n1_ n2_; rotate_left; intro hl0; have HL0 := Aside0.mk hl0; clear hl0)) | ((with_reducible refine gate_callee (f := 34) rfl ?_); go_must (refine goesL_ (some 31) rfl rfl Try.func34 (by kernel_rfl) rfl #[.slice A0 l0.length c0, .int .i64 (rd (protosL l0) i), .int .u32 a1, .int .i64 x] rfl (by (try simp only [List.map_toArray, List.map_cons, List.map_nil]); rfl) ?_; refine (policy_allow.calls (l0.length + 1) A0 c0 l0 (rd (protosL l0) i) a1 x (allowB l0 (rd (protosL l0) i) a1 x) _ (Kd.C_below HR0.out HB.out) HC0.out (AL.out _ _)).mono ?_; rintro e w5 ⟨rfl, hb5⟩; have n0_ := Aside0.mk (HRG.out.below hb5); have n1_ := Aside0.mk (below_step HB.out hb5); have n2_ := Aside0.mk (Kd.R_below HR.out hb5); clear HRG HB HR hb5; have HRG := n0_; have HB := n1_; have HR := n2_; clear n0_ n1_ n2_; refine ⟨_, rfl, ?_⟩)))
        · go_roundg ((protosL l0).length - (i + 1).toNat)
          case measure => have := H0.out; have := HN.out; have := of_eq_true q105; omega
          case rel =>
            have h0 := H0.out
            have h1 := of_eq_true q105
            have h2 := protosL_small l0
            have e : wrap64 (i + 1) = i + 1 := by unfold wrap64; omega
            refine ⟨i + 1, by rw [e], ⟨by omega⟩, ⟨by omega⟩, ⟨by omega⟩, ⟨100, _, HRG.out.set⟩, ⟨Kd.R_mono HR.out (fun _ h => h.1)⟩, HB, ⟨fun q hq x hx => ?_⟩⟩
            rw [rd_take _ i h0 h1, List.mem_append] at hq
            rcases hq with hq | hq
            · exact HA.out q hq x hx
            · simp only [List.mem_singleton] at hq
              subst hq
              have hwx := portsL_wf (fun x hx => by have := HOK.out x hx; exact ⟨this.1.1.1.1.2, this.1.1.1.2, this.1.1.2, this.1.2⟩) hx
              exact HL.out x hwx (mem_portsL.1 hx) (HL0.out x hwx)
        · have hab : allowB l0 (rd (protosL l0) i) a1 x = true := by assumption
          go_ret
          have hm := rd_mem_ _ i H0.out (of_eq_true q105)
          have hres := HRES.out
          have : r = true := by
            rw [← hres, List.any_eq_true]
            exact ⟨_, hm, List.any_eq_true.2 ⟨x, mem_portsL.2 HX.out.2, hab⟩⟩
          rw [this]
          exact ⟨rfl, HB.out⟩
        · have hab : ¬ allowB l0 (rd (protosL l0) i) a1 x = true := by first | assumption | (simp; assumption)
          have hlt := HLT.out
          go_roundg cnt4
          case measure => exact hlt
          case rel =>
            refine ⟨_, HRG, ⟨fun y hy h1 h2 => ?_⟩, HR, HB⟩
            by_cases e : y = x
            · rw [e]; simpa using hab
            · exact HL.out y hy h1 (by simpa [e] using h2)
    · have c3b0 : decide (i < ((protosL l0).length : Int)) = false := decide_eq_false hlt
      have hi : i.toNat = (protosL l0).length := by have := H1.out; have := H0.out; omega
      have HA2 := HA.out
      rw [hi, List.take_length] at HA2
      have HA3 := Aside0.mk HA2
      clear HA HA2 hi hlt
      go_wp2
      go_ret
      have hres := HRES.out
      have : r = false := by
        rw [← hres, List.any_eq_false]
        intro q hq h
        obtain ⟨x, hx, hx2⟩ := List.any_eq_true.1 h
        rw [HA3.out q hq x hx] at hx2
        cases hx2
      rw [this]
      exact ⟨rfl, HB.out⟩

end Go.Proofs.Ytcpneggifmldoaa.X

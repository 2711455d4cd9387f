/-
  A tunnel that came in as an argument: its rules read as a row of rules.
-/
import Derived.Test.YtcpneggifmldoaaTx0
import Derived.Deep.Slices
import Derived.SizedLaws
namespace Go.Proofs.Ytcpneggifmldoaa.T
open Go.RowKit Go.Proofs.YtcpneggifmldoaaW.PrintWords Go.ChangeShapes Go.WideShapes Go.Deep
/-- The numbers of a rule are of their kinds. -/
def Wf40 (z : S40) : Prop := (Lit.int .i64 z.f1).wf = true ∧ (Lit.int .u32 z.f2.f0).wf = true ∧ (Lit.int .i64 z.f2.f1).wf = true ∧ (Lit.int .i64 z.f3).wf = true ∧ (Lit.int .i64 z.f4).wf = true
theorem cells40 : Try.prog.cellsOf 40 = 6 := by kernel_rfl
theorem cells38 : Try.prog.cellsOf 38 = 2 := by kernel_rfl
theorem cells4 : Try.prog.cellsOf 4 = 1 := by kernel_rfl
theorem cells3 : Try.prog.cellsOf 3 = 1 := by kernel_rfl
theorem cells28 : Try.prog.cellsOf 28 = 1 := by kernel_rfl
section
variable {H : Type} {enc : TypeId × Value → H} {w : World} {base : Nat} {spare : Nat → Bool} {held : Bool}
theorem trod38 {fuel : Nat} {cs : List Value} {x : DataW H × List MemPlace} (h : DataW.trod enc Try.prog w base spare held fuel 38 cs = some x) :
    ∃ z : S38, cs = [.int .u32 z.f0, .int .i64 z.f1] ∧ (Lit.int .u32 z.f0).wf = true ∧ (Lit.int .i64 z.f1).wf = true := by
  obtain ⟨xs, n, rfl, hx, hlen, hxl, hf⟩ := DataW.trod_struct Try.underlying38 h
  rw [cells38] at hlen
  rcases cs with _ | ⟨c0, _ | ⟨c1, _ | ⟨c2, r⟩⟩⟩ <;> simp at hlen
  rcases xs with _ | ⟨x0, _ | ⟨x1, _ | ⟨x2, r⟩⟩⟩ <;> simp at hxl
  have h0 : DataW.trod enc Try.prog w base spare held n 28 (([c0, c1].drop 0).take (Try.prog.cellsOf 28)) = [x0, x1][0]? := hf 0 _ rfl
  have h1 : DataW.trod enc Try.prog w base spare held n 3 (([c0, c1].drop 1).take (Try.prog.cellsOf 3)) = [x0, x1][1]? := hf 1 _ rfl
  rw [cells28] at h0
  rw [cells3] at h1
  simp only [List.drop_zero, List.take_succ_cons, List.take_zero, List.drop_succ_cons, List.getElem?_cons_zero, List.getElem?_cons_succ] at h0 h1
  obtain ⟨n0, e0, -, w0⟩ := DataW.trod_int Try.underlying28 h0
  obtain ⟨n1, e1, -, w1⟩ := DataW.trod_int Try.underlying3 h1
  simp only [List.cons.injEq, and_true] at e0 e1
  subst e0; subst e1
  exact ⟨⟨n0, n1⟩, rfl, w0, w1⟩
theorem trod40 {fuel : Nat} {cs : List Value} {x : DataW H × List MemPlace} (h : DataW.trod enc Try.prog w base spare held fuel 40 cs = some x) :
    ∃ z : S40, cs = [.bool z.f0, .int .i64 z.f1, .int .u32 z.f2.f0, .int .i64 z.f2.f1, .int .i64 z.f3, .int .i64 z.f4] ∧ Wf40 z := by
  obtain ⟨xs, n, rfl, hx, hlen, hxl, hf⟩ := DataW.trod_struct Try.underlying40 h
  rw [cells40] at hlen
  rcases cs with _ | ⟨c0, _ | ⟨c1, _ | ⟨c2, _ | ⟨c3, _ | ⟨c4, _ | ⟨c5, _ | ⟨c6, r⟩⟩⟩⟩⟩⟩⟩ <;> simp at hlen
  rcases xs with _ | ⟨x0, _ | ⟨x1, _ | ⟨x2, _ | ⟨x3, _ | ⟨x4, _ | ⟨x5, r⟩⟩⟩⟩⟩⟩ <;> simp at hxl
  have h0 : DataW.trod enc Try.prog w base spare held n 4 (([c0, c1, c2, c3, c4, c5].drop 0).take (Try.prog.cellsOf 4)) = [x0, x1, x2, x3, x4][0]? := hf 0 _ rfl
  have h1 : DataW.trod enc Try.prog w base spare held n 3 (([c0, c1, c2, c3, c4, c5].drop 1).take (Try.prog.cellsOf 3)) = [x0, x1, x2, x3, x4][1]? := hf 1 _ rfl
  have h2 : DataW.trod enc Try.prog w base spare held n 38 (([c0, c1, c2, c3, c4, c5].drop 2).take (Try.prog.cellsOf 38)) = [x0, x1, x2, x3, x4][2]? := hf 2 _ rfl
  have h3 : DataW.trod enc Try.prog w base spare held n 3 (([c0, c1, c2, c3, c4, c5].drop 4).take (Try.prog.cellsOf 3)) = [x0, x1, x2, x3, x4][3]? := hf 3 _ rfl
  have h4 : DataW.trod enc Try.prog w base spare held n 3 (([c0, c1, c2, c3, c4, c5].drop 5).take (Try.prog.cellsOf 3)) = [x0, x1, x2, x3, x4][4]? := hf 4 _ rfl
  rw [cells4] at h0
  rw [cells3] at h1 h3 h4
  rw [cells38] at h2
  simp only [List.drop_zero, List.take_succ_cons, List.take_zero, List.drop_succ_cons, List.getElem?_cons_zero, List.getElem?_cons_succ] at h0 h1 h2 h3 h4
  obtain ⟨n0, e0, -⟩ := DataW.trod_bool Try.underlying4 h0
  obtain ⟨n1, e1, -, w1⟩ := DataW.trod_int Try.underlying3 h1
  obtain ⟨z, e2, w2, w2'⟩ := trod38 h2
  obtain ⟨n3, e3, -, w3⟩ := DataW.trod_int Try.underlying3 h3
  obtain ⟨n4, e4, -, w4⟩ := DataW.trod_int Try.underlying3 h4
  simp only [List.cons.injEq, and_true] at e0 e1 e2 e3 e4
  obtain ⟨rfl, rfl⟩ := e2
  subst e0; subst e1; subst e3; subst e4
  exact ⟨⟨n0, n1, z, n3, n4⟩, rfl, w1, w2, w2', w3, w4⟩
/-- A slice of rules that came in: the list that it reads as. -/
theorem open_rules {W : World} {a : Option Addr} {len cap : Nat} {d : DataW H} {ps : List MemPlace} (h : DataW.Trod enc Try.prog W 0 (fun _ => true) true 22 (.slice a len cap) d ps) :
    ∃ zs : List S40, zs.length = len ∧ len ≤ cap ∧ Kd.C k40 W a zs.length zs ∧ ∀ z ∈ zs, Wf40 z := by
  obtain ⟨fuel, hf⟩ := h
  rcases open_slice Try.underlying22 hf with ⟨hcs, _⟩ | ⟨ad, l, c, m, n, D, Pl, hcs, _, hl, hm, hmm, _, hel⟩
  · simp [Value.cells] at hcs
    obtain ⟨rfl, rfl, rfl⟩ := hcs
    exact ⟨[], rfl, Nat.le_refl _, ⟨rfl, by simp, fun h0 => absurd h0 (by simp)⟩, by simp⟩
  · simp [Value.cells] at hcs
    obtain ⟨rfl, rfl, rfl⟩ := hcs
    simp only [if_true] at hmm
    subst hmm
    letI : Inhabited S40 := ⟨z40⟩
    obtain ⟨Z, hZ⟩ := choose_lt (n := len) (p := fun i (z : S40) => (∀ j u, ([.bool z.f0, .int .i64 z.f1, .int .u32 z.f2.f0, .int .i64 z.f2.f1, .int .i64 z.f3, .int .i64 z.f4] : List Value)[j]? = some u → W.cell? (ad.add (i * 6 + j)) = some u) ∧ Wf40 z) (fun i hi => by
      obtain ⟨cs', h1, h2⟩ := hel i (by omega)
      rw [cells40] at h1
      obtain ⟨z, rfl, hw⟩ := trod40 h2
      obtain ⟨_, hlen, hc⟩ := World.cells?_some h1
      refine ⟨z, fun j u hj => ?_, hw⟩
      have hj6 : j < 6 := by
        rcases Nat.lt_or_ge j 6 with h | h
        · exact h
        · rw [List.getElem?_eq_none (by simpa using h)] at hj
          cases hj
      have := hc j hj6
      rw [Go.Deep.add_add] at this
      rw [this, hj])
    have hmx : len ≤ 9223372036854775807 := by have : m ≤ 9223372036854775807 := hm; omega
    refine ⟨(List.range len).map Z, by simp, hl, ⟨rfl, by simpa using hmx, fun _ => ⟨ad, rfl, fun j p hp => ?_⟩⟩, fun z hz => ?_⟩
    · simp only [List.getElem?_map, Option.map_eq_some_iff] at hp
      obtain ⟨i, hi, rfl⟩ := hp
      have hj : j < len := by
        rcases Nat.lt_or_ge j len with h | h
        · exact h
        · rw [List.getElem?_eq_none (by simpa using h)] at hi
          cases hi
      have : i = j := by
        rw [List.getElem?_range hj] at hi
        exact (Option.some.inj hi).symm
      subst this
      exact ⟨_, by rfl, k40_mk W (Z i), fun q u hq => (hZ i hj).1 q u hq⟩
    · obtain ⟨i, hi, rfl⟩ := List.mem_map.1 hz
      exact (hZ i (by simpa using hi)).2
/-- .. and it is no longer than its weight allows. -/
theorem sized_rules {W : World} {a : Option Addr} {len cap : Nat} {d : DataW H} {ps : List MemPlace} {ts : List TypeId} {ds : List (DataW H)} {j : Nat} (hsz : (DataW.weightsEach Try.prog ts ds).all (· ≤ reachBytes) = true) (ht : ts[j]? = some 22) (hd : ds[j]? = some d)
    (h : DataW.Trod enc Try.prog W 0 (fun _ => true) true 22 (.slice a len cap) d ps) : len * 48 ≤ 140737488351232 := by
  obtain ⟨fuel, hf⟩ := h
  rcases open_slice Try.underlying22 hf with ⟨hcs, _⟩ | ⟨ad, l, c, m, n, D, Pl, hcs, _, hl, hm, hmm, hx, _⟩
  · simp [Value.cells] at hcs
    obtain ⟨rfl, rfl, rfl⟩ := hcs
    simp
  · simp [Value.cells] at hcs
    obtain ⟨rfl, rfl, rfl⟩ := hcs
    obtain ⟨hx, _⟩ := Prod.mk.inj hx
    subst hx
    have z := sized_slice hsz ht hd Try.underlying22
    rw [show Try.prog.bytesOf 40 = 48 by kernel_rfl] at z
    simp only [List.length_map, List.length_range] at z
    have : reachBytes = 140737488351232 := rfl
    omega
theorem trod44 {fuel : Nat} {cs : List Value} {x : DataW H × List MemPlace} (h : DataW.trod enc Try.prog w base spare held fuel 44 cs = some x) :
    ∃ (ip : Bool) (addr port : Int), cs = [.bool ip, .int .u32 addr, .int .i64 port] := by
  obtain ⟨xs, n, rfl, hx, hlen, hxl, hf⟩ := DataW.trod_struct Try.underlying44 h
  rw [show Try.prog.cellsOf 44 = 3 by kernel_rfl] at hlen
  rcases cs with _ | ⟨c0, _ | ⟨c1, _ | ⟨c2, _ | ⟨c3, r⟩⟩⟩⟩ <;> simp at hlen
  rcases xs with _ | ⟨x0, _ | ⟨x1, _ | ⟨x2, _ | ⟨x3, r⟩⟩⟩⟩ <;> simp at hxl
  have h0 : DataW.trod enc Try.prog w base spare held n 4 (([c0, c1, c2].drop 0).take (Try.prog.cellsOf 4)) = [x0, x1, x2][0]? := hf 0 _ rfl
  have h1 : DataW.trod enc Try.prog w base spare held n 28 (([c0, c1, c2].drop 1).take (Try.prog.cellsOf 28)) = [x0, x1, x2][1]? := hf 1 _ rfl
  have h2 : DataW.trod enc Try.prog w base spare held n 3 (([c0, c1, c2].drop 2).take (Try.prog.cellsOf 3)) = [x0, x1, x2][2]? := hf 2 _ rfl
  rw [cells4] at h0
  rw [cells28] at h1
  rw [cells3] at h2
  simp only [List.drop_zero, List.take_succ_cons, List.take_zero, List.drop_succ_cons, List.getElem?_cons_zero, List.getElem?_cons_succ] at h0 h1 h2
  obtain ⟨n0, e0, -⟩ := DataW.trod_bool Try.underlying4 h0
  obtain ⟨n1, e1, -, w1⟩ := DataW.trod_int Try.underlying28 h1
  obtain ⟨n2, e2, -, w2⟩ := DataW.trod_int Try.underlying3 h2
  simp only [List.cons.injEq, and_true] at e0 e1 e2
  subst e0; subst e1; subst e2
  exact ⟨n0, n1, n2, rfl⟩
/-- The bytes that a tunnel's parts weigh. -/
theorem sized_in {ts : List TypeId} {ds parts : List (DataW H)} {j : Nat} (hsz : (DataW.weightsEach Try.prog ts ds).all (· ≤ reachBytes) = true) (ht : ts[j]? = some 46) (hd : ds[j]? = some (.agg parts)) :
    (DataW.weightsEach Try.prog [44, 28, 3, 22] parts).all (· ≤ reachBytes) = true := by
  refine List.all_eq_true.2 fun n hn => List.all_eq_true.1 hsz n (DataW.weights_mem_each ht hd n ?_)
  rw [DataW.weights, Try.underlying46]
  exact hn
/-- A tunnel that came in. -/
theorem open_tunnel {W : World} {cs : Array Value} {d : DataW H} {ps : List MemPlace} {ts : List TypeId} {ds : List (DataW H)} {j : Nat} (hsz : (DataW.weightsEach Try.prog ts ds).all (· ≤ reachBytes) = true) (ht : ts[j]? = some 46) (hd : ds[j]? = some d)
    (h : DataW.Trod enc Try.prog W 0 (fun _ => true) true 46 (.agg cs) d ps) :
    ∃ (ip : Bool) (addr port own prt : Int) (A : Option Addr) (c : Nat) (l : List S40), cs = #[.bool ip, .int .u32 addr, .int .i64 port, .int .u32 own, .int .i64 prt, .slice A l.length c] ∧ Kd.C k40 W A l.length l ∧ l.length ≤ c ∧ l.length < 2932031007402 := by
  obtain ⟨fuel, hf⟩ := h
  obtain ⟨xs, n, rfl, hx, hlen, hxl, hf⟩ := DataW.trod_struct Try.underlying46 hf
  rw [show (Value.agg cs).cells.toList = cs.toList from rfl, show Try.prog.cellsOf 46 = 6 by kernel_rfl] at hlen
  obtain ⟨L, rfl⟩ : ∃ L : List Value, cs = L.toArray := ⟨cs.toList, by simp⟩
  rw [show (Value.agg L.toArray).cells.toList = L from rfl] at hf
  rcases L with _ | ⟨c0, _ | ⟨c1, _ | ⟨c2, _ | ⟨c3, _ | ⟨c4, _ | ⟨c5, _ | ⟨c6, r⟩⟩⟩⟩⟩⟩⟩ <;> simp at hlen
  rcases xs with _ | ⟨x0, _ | ⟨x1, _ | ⟨x2, _ | ⟨x3, _ | ⟨x4, r⟩⟩⟩⟩⟩ <;> simp at hxl
  have h0 : DataW.trod enc Try.prog W 0 (fun _ => true) true n 44 (([c0, c1, c2, c3, c4, c5].drop 0).take (Try.prog.cellsOf 44)) = [x0, x1, x2, x3][0]? := hf 0 _ rfl
  have h1 : DataW.trod enc Try.prog W 0 (fun _ => true) true n 28 (([c0, c1, c2, c3, c4, c5].drop 3).take (Try.prog.cellsOf 28)) = [x0, x1, x2, x3][1]? := hf 1 _ rfl
  have h2 : DataW.trod enc Try.prog W 0 (fun _ => true) true n 3 (([c0, c1, c2, c3, c4, c5].drop 4).take (Try.prog.cellsOf 3)) = [x0, x1, x2, x3][2]? := hf 2 _ rfl
  have h3 : DataW.trod enc Try.prog W 0 (fun _ => true) true n 22 (([c0, c1, c2, c3, c4, c5].drop 5).take (Try.prog.cellsOf 22)) = [x0, x1, x2, x3][3]? := hf 3 _ rfl
  rw [show Try.prog.cellsOf 44 = 3 by kernel_rfl] at h0
  rw [cells28] at h1
  rw [cells3] at h2
  rw [show Try.prog.cellsOf 22 = 1 by kernel_rfl] at h3
  simp only [List.drop_zero, List.take_succ_cons, List.take_zero, List.drop_succ_cons, List.getElem?_cons_zero, List.getElem?_cons_succ] at h0 h1 h2 h3
  obtain ⟨ip, addr, port, e0⟩ := trod44 h0
  obtain ⟨own, e1, -, -⟩ := DataW.trod_int Try.underlying28 h1
  obtain ⟨prt, e2, -, -⟩ := DataW.trod_int Try.underlying3 h2
  simp only [List.cons.injEq, and_true] at e0 e1 e2
  obtain ⟨rfl, rfl, rfl⟩ := e0
  subst e1; subst e2
  obtain ⟨A, len, cap, e3⟩ : ∃ A len cap, c5 = .slice A len cap := by
    rcases open_slice Try.underlying22 h3 with ⟨hcs, -⟩ | ⟨ad, l, c, m, k, D, Pl, hcs, -⟩
    · simp only [List.cons.injEq, and_true] at hcs
      exact ⟨_, _, _, hcs⟩
    · simp only [List.cons.injEq, and_true] at hcs
      exact ⟨_, _, _, hcs⟩
  subst e3
  have hT : DataW.Trod enc Try.prog W 0 (fun _ => true) true 22 (.slice A len cap) x3.1 x3.2 := ⟨n, h3⟩
  obtain ⟨hx, -⟩ := Prod.mk.inj hx
  subst hx
  have hr := sized_rules (sized_in hsz ht hd) (j := 3) rfl rfl hT
  obtain ⟨zs, rfl, hc, hC, -⟩ := open_rules hT
  exact ⟨ip, addr, port, own, prt, A, cap, zs, rfl, hC, hc, by omega⟩
end
end Go.Proofs.Ytcpneggifmldoaa.T

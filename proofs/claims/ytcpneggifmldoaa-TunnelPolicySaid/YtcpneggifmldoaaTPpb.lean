/-
  Part 2 of the texts of this claim: Tx0, TunOpen, Ip, Tx8, Tx9, Tx20, IpV, Same.
-/
import Derived.Test.YtcpneggifmldoaaTPpa
import Derived.Test.YtcpneggifmldoaaProg
import Derived.Below
import Derived.Deep.Draws
import Derived.Deep.AppendLies
import Derived.Maps.AppendAt
import Derived.OwnWalk
import Derived.Laws.BytesArg
import Derived.Laws.MakeOwn
import Derived.Laws.OwnMore
import Derived.Deep.OwnRows
import Derived.Tactics
import Derived.Lib.ConvBytes
import Derived.Laws.Slices
import Derived.WalkKit
import Derived.KernelRfl
import Derived.RowKit3
import Derived.Deep.LoopGhost
import Derived.Deep.QuietTactic
import Derived.BigQuiet
import Derived.WideLaws
import Derived.Deep.DeepCutAuto
import Derived.Deep.CutBlock
import Derived.Deep.RegionHeld3
import Derived.Laws.Rows
import Derived.Lib.AppendStr
import Derived.ArgAppend
import Derived.Laws.IdiomCopy
import Derived.OrdersHeld
import Derived.Laws.BitsLemmas
import Derived.RowKit
import Derived.Deep.Slices
import Derived.SizedLaws
namespace Go.Proofs.Ytcpneggifmldoaa.T
open Go.RowKit Go.Proofs.YtcpneggifmldoaaW.PrintWords Go.Proofs.YtcpneggifmldoaaW.PrintLast Go.Proofs.YtcpneggifmldoaaW.PrintMore
attribute [local go_sem] max2_int min2_int max_two min_two max_three min_three max_four min_four   -- for this text's walks alone
set_option linter.unusedVariables false
set_option linter.unusedSimpArgs false
def errW : Option Int → Value
  | none => .nilIface
  | some c => .iface 0 (.int .i64 c)
theorem errW_none : errW none = .nilIface := rfl
theorem errW_some (c : Int) : errW (some c) = .iface 0 (.int .i64 c) := rfl
theorem info40 : (Try.prog.info? 40).map (fun i => (i.zero, i.size, i.bytes)) = some (some (.agg #[(.bool false), (.int .i64 0), (.int .u32 0), (.int .i64 0), (.int .i64 0), (.int .i64 0)]), 6, 48) := by kernel_rfl
structure S38 where
  f0 : Int
  f1 : Int
def z38 : S38 := ⟨(0 : Int), (0 : Int)⟩
def k38 : Kd S38 := Kd.iso (Kd.pair (Kd.int .u32) (Kd.int .i64)) (fun x : S38 => (x.f0, x.f1))
theorem k38_open {w : World} {x : S38} {cs : List Value} (h : k38.K w x cs) : cs = [.int .u32 x.f0, .int .i64 x.f1] := by
  obtain ⟨_, _, rfl, rfl, rfl⟩ := h
  exact rfl
theorem k38_mk (w : World) (x : S38)  : k38.K w x [.int .u32 x.f0, .int .i64 x.f1] := ⟨[.int .u32 x.f0], [.int .i64 x.f1], rfl, rfl, rfl⟩
def rd_T38 (xs : List S38) (i : Int) : S38 := xs.getD i.toNat z38
structure S40 where
  f0 : Bool
  f1 : Int
  f2 : S38
  f3 : Int
  f4 : Int
def z40 : S40 := ⟨false, (0 : Int), z38, (0 : Int), (0 : Int)⟩
def k40 : Kd S40 := Kd.iso (Kd.pair Kd.bool (Kd.pair (Kd.int .i64) (Kd.pair k38 (Kd.pair (Kd.int .i64) (Kd.int .i64))))) (fun x : S40 => (x.f0, x.f1, x.f2, x.f3, x.f4))
theorem k40_open {w : World} {x : S40} {cs : List Value} (h : k40.K w x cs) : cs = [.bool x.f0, .int .i64 x.f1, .int .u32 x.f2.f0, .int .i64 x.f2.f1, .int .i64 x.f3, .int .i64 x.f4] := by
  obtain ⟨_, _, rfl, rfl, ⟨_, _, rfl, rfl, ⟨_, _, rfl, s2, ⟨_, _, rfl, rfl, rfl⟩⟩⟩⟩ := h
  obtain rfl := k38_open s2
  exact rfl
theorem k40_mk (w : World) (x : S40)  : k40.K w x [.bool x.f0, .int .i64 x.f1, .int .u32 x.f2.f0, .int .i64 x.f2.f1, .int .i64 x.f3, .int .i64 x.f4] := ⟨[.bool x.f0], [.int .i64 x.f1, .int .u32 x.f2.f0, .int .i64 x.f2.f1, .int .i64 x.f3, .int .i64 x.f4], rfl, rfl, ⟨[.int .i64 x.f1], [.int .u32 x.f2.f0, .int .i64 x.f2.f1, .int .i64 x.f3, .int .i64 x.f4], rfl, rfl, ⟨[.int .u32 x.f2.f0, .int .i64 x.f2.f1], [.int .i64 x.f3, .int .i64 x.f4], rfl, (k38_mk w x.f2 ), ⟨[.int .i64 x.f3], [.int .i64 x.f4], rfl, rfl, rfl⟩⟩⟩⟩
def rd_T40 (xs : List S40) (i : Int) : S40 := xs.getD i.toNat z40
theorem at_T40 {w : World} {A : Option Addr} {n : Nat} {xs : List S40} (h : Kd.C k40 w A n xs) (i : Int) (h0 : 0 ≤ i) (h1 : i < n) : ∃ ad , A = some ad ∧ w.cell? (ad.add (i.toNat * 6)) = some (.bool (rd_T40 xs i).f0) ∧ w.cell? ⟨(ad.add (i.toNat * 6)).block, (ad.add (i.toNat * 6)).off + 1, none⟩ = some (.int .i64 (rd_T40 xs i).f1) ∧ w.cell? ⟨(ad.add (i.toNat * 6)).block, (ad.add (i.toNat * 6)).off + 2, none⟩ = some (.int .u32 (rd_T40 xs i).f2.f0) ∧ w.cell? ⟨(ad.add (i.toNat * 6)).block, (ad.add (i.toNat * 6)).off + 3, none⟩ = some (.int .i64 (rd_T40 xs i).f2.f1) ∧ w.cell? ⟨(ad.add (i.toNat * 6)).block, (ad.add (i.toNat * 6)).off + 4, none⟩ = some (.int .i64 (rd_T40 xs i).f3) ∧ w.cell? ⟨(ad.add (i.toNat * 6)).block, (ad.add (i.toNat * 6)).off + 5, none⟩ = some (.int .i64 (rd_T40 xs i).f4) := by
  obtain ⟨ad, c, e, _, hK, hc0⟩ := Kd.C_get h z40 i h0 h1
  have hc : ∀ j u, c[j]? = some u → w.cell? (ad.add (i.toNat * 6 + j)) = some u := hc0
  obtain rfl := k40_open hK
  exact ⟨ad, e, hc 0 _ rfl, by rw [← add_field _ _ 1 (by omega)]; exact hc 1 _ rfl, by rw [← add_field _ _ 2 (by omega)]; exact hc 2 _ rfl, by rw [← add_field _ _ 3 (by omega)]; exact hc 3 _ rfl, by rw [← add_field _ _ 4 (by omega)]; exact hc 4 _ rfl, by rw [← add_field _ _ 5 (by omega)]; exact hc 5 _ rfl⟩
def rd_L5 (xs : List (List S40)) (i : Int) : (List S40) := xs.getD i.toNat ([] : List S40)
structure S31 where
  f0 : Int
  f1 : Int
  f2 : Int
def z31 : S31 := ⟨(0 : Int), (0 : Int), (0 : Int)⟩
def k31 : Kd S31 := Kd.iso (Kd.pair (Kd.int .u32) (Kd.pair (Kd.int .u32) (Kd.int .i64))) (fun x : S31 => (x.f0, x.f1, x.f2))
def rd_T31 (xs : List S31) (i : Int) : S31 := xs.getD i.toNat z31
def rd_L7 (xs : List (List S31)) (i : Int) : (List S31) := xs.getD i.toNat ([] : List S31)
structure S58 where
  f0 : Int
  f1 : Int
  f2 : Int
  f3 : Int
  f4 : Int
  f5 : Int
  f6 : Int
  f7 : ByteArray
def z58 : S58 := ⟨(0 : Int), (0 : Int), (0 : Int), (0 : Int), (0 : Int), (0 : Int), (0 : Int), (⟨#[]⟩ : ByteArray)⟩
def k58 : Kd S58 := Kd.iso (Kd.pair (Kd.int .i64) (Kd.pair (Kd.int .i64) (Kd.pair (Kd.int .i64) (Kd.pair (Kd.int .i64) (Kd.pair (Kd.int .i64) (Kd.pair (Kd.int .u32) (Kd.pair (Kd.int .u32) Kd.string))))))) (fun x : S58 => (x.f0, x.f1, x.f2, x.f3, x.f4, x.f5, x.f6, x.f7))
def rd_T58 (xs : List S58) (i : Int) : S58 := xs.getD i.toNat z58
structure S30 where
  f0 : Int
  f1 : Int
  f2 : Int
def z30 : S30 := ⟨(0 : Int), (0 : Int), (0 : Int)⟩
def k30 : Kd S30 := Kd.iso (Kd.pair (Kd.int .u32) (Kd.pair (Kd.int .u32) (Kd.int .i64))) (fun x : S30 => (x.f0, x.f1, x.f2))
def rd_T30 (xs : List S30) (i : Int) : S30 := xs.getD i.toNat z30
def rd_L12 (xs : List (List S30)) (i : Int) : (List S30) := xs.getD i.toNat ([] : List S30)
structure S44 where
  f0 : Bool
  f1 : Int
  f2 : Int
def z44 : S44 := ⟨false, (0 : Int), (0 : Int)⟩
def k44 : Kd S44 := Kd.iso (Kd.pair Kd.bool (Kd.pair (Kd.int .u32) (Kd.int .i64))) (fun x : S44 => (x.f0, x.f1, x.f2))
def rd_T44 (xs : List S44) (i : Int) : S44 := xs.getD i.toNat z44
structure S46 where
  f0 : S44
  f1 : Int
  f2 : Int
  f3 : (List S40)
def z46 : S46 := ⟨z44, (0 : Int), (0 : Int), ([] : List S40)⟩
def k46 : Kd S46 := Kd.iso (Kd.pair k44 (Kd.pair (Kd.int .u32) (Kd.pair (Kd.int .i64) (Kd.slice 40 k40)))) (fun x : S46 => (x.f0, x.f1, x.f2, x.f3))
def rd_T46 (xs : List S46) (i : Int) : S46 := xs.getD i.toNat z46
end Go.Proofs.Ytcpneggifmldoaa.T
namespace Go.Proofs.Ytcpneggifmldoaa.T
open Go.RowKit Go.Proofs.YtcpneggifmldoaaW.PrintWords Go.ChangeShapes Go.WideShapes Go.Deep
def Wf40 (z : S40) : Prop := (Lit.int .i64 z.f1).wf = true ∧ (Lit.int .u32 z.f2.f0).wf = true ∧ (Lit.int .i64 z.f2.f1).wf = true ∧ (Lit.int .i64 z.f3).wf = true ∧ (Lit.int .i64 z.f4).wf = true
theorem cells40 : Try.prog.cellsOf 40 = 6 := by kernel_rfl
theorem cells38 : Try.prog.cellsOf 38 = 2 := by kernel_rfl
theorem cells4 : Try.prog.cellsOf 4 = 1 := by kernel_rfl
theorem cells3 : Try.prog.cellsOf 3 = 1 := by kernel_rfl
theorem cells28 : Try.prog.cellsOf 28 = 1 := by kernel_rfl
section
variable {H : Type} {enc : TypeId × Value → H} {w : World} {base : Nat} {spare : Nat → Bool} {held : Bool}
theorem trod38 {fuel : Nat} {cs : List Value} {x : DataW H × List MemPlace} (h : DataW.trod enc Try.prog w base spare held fuel 38 cs = some x) :
    ∃ z : S38, cs = [.int .u32 z.f0, .int .i64 z.f1] ∧ (Lit.int .u32 z.f0).wf = true ∧ (Lit.int .i64 z.f1).wf = true := by
  obtain ⟨xs, n, rfl, hx, hlen, hxl, hf⟩ := DataW.trod_struct Try.underlying38 h
  rw [cells38] at hlen
  rcases cs with _ | ⟨c0, _ | ⟨c1, _ | ⟨c2, r⟩⟩⟩ <;> simp at hlen
  rcases xs with _ | ⟨x0, _ | ⟨x1, _ | ⟨x2, r⟩⟩⟩ <;> simp at hxl
  have h0 : DataW.trod enc Try.prog w base spare held n 28 (([c0, c1].drop 0).take (Try.prog.cellsOf 28)) = [x0, x1][0]? := hf 0 _ rfl
  have h1 : DataW.trod enc Try.prog w base spare held n 3 (([c0, c1].drop 1).take (Try.prog.cellsOf 3)) = [x0, x1][1]? := hf 1 _ rfl
  rw [cells28] at h0
  rw [cells3] at h1
  simp only [List.drop_zero, List.take_succ_cons, List.take_zero, List.drop_succ_cons, List.getElem?_cons_zero, List.getElem?_cons_succ] at h0 h1
  obtain ⟨n0, e0, -, w0⟩ := DataW.trod_int Try.underlying28 h0
  obtain ⟨n1, e1, -, w1⟩ := DataW.trod_int Try.underlying3 h1
  simp only [List.cons.injEq, and_true] at e0 e1
  subst e0; subst e1
  exact ⟨⟨n0, n1⟩, rfl, w0, w1⟩
theorem trod40 {fuel : Nat} {cs : List Value} {x : DataW H × List MemPlace} (h : DataW.trod enc Try.prog w base spare held fuel 40 cs = some x) :
    ∃ z : S40, cs = [.bool z.f0, .int .i64 z.f1, .int .u32 z.f2.f0, .int .i64 z.f2.f1, .int .i64 z.f3, .int .i64 z.f4] ∧ Wf40 z := by
  obtain ⟨xs, n, rfl, hx, hlen, hxl, hf⟩ := DataW.trod_struct Try.underlying40 h
  rw [cells40] at hlen
  rcases cs with _ | ⟨c0, _ | ⟨c1, _ | ⟨c2, _ | ⟨c3, _ | ⟨c4, _ | ⟨c5, _ | ⟨c6, r⟩⟩⟩⟩⟩⟩⟩ <;> simp at hlen
  rcases xs with _ | ⟨x0, _ | ⟨x1, _ | ⟨x2, _ | ⟨x3, _ | ⟨x4, _ | ⟨x5, r⟩⟩⟩⟩⟩⟩ <;> simp at hxl
  have h0 : DataW.trod enc Try.prog w base spare held n 4 (([c0, c1, c2, c3, c4, c5].drop 0).take (Try.prog.cellsOf 4)) = [x0, x1, x2, x3, x4][0]? := hf 0 _ rfl
  have h1 : DataW.trod enc Try.prog w base spare held n 3 (([c0, c1, c2, c3, c4, c5].drop 1).take (Try.prog.cellsOf 3)) = [x0, x1, x2, x3, x4][1]? := hf 1 _ rfl
  have h2 : DataW.trod enc Try.prog w base spare held n 38 (([c0, c1, c2, c3, c4, c5].drop 2).take (Try.prog.cellsOf 38)) = [x0, x1, x2, x3, x4][2]? := hf 2 _ rfl
  have h3 : DataW.trod enc Try.prog w base spare held n 3 (([c0, c1, c2, c3, c4, c5].drop 4).take (Try.prog.cellsOf 3)) = [x0, x1, x2, x3, x4][3]? := hf 3 _ rfl
  have h4 : DataW.trod enc Try.prog w base spare held n 3 (([c0, c1, c2, c3, c4, c5].drop 5).take (Try.prog.cellsOf 3)) = [x0, x1, x2, x3, x4][4]? := hf 4 _ rfl
  rw [cells4] at h0
  rw [cells3] at h1 h3 h4
  rw [cells38] at h2
  simp only [List.drop_zero, List.take_succ_cons, List.take_zero, List.drop_succ_cons, List.getElem?_cons_zero, List.getElem?_cons_succ] at h0 h1 h2 h3 h4
  obtain ⟨n0, e0, -⟩ := DataW.trod_bool Try.underlying4 h0
  obtain ⟨n1, e1, -, w1⟩ := DataW.trod_int Try.underlying3 h1
  obtain ⟨z, e2, w2, w2'⟩ := trod38 h2
  obtain ⟨n3, e3, -, w3⟩ := DataW.trod_int Try.underlying3 h3
  obtain ⟨n4, e4, -, w4⟩ := DataW.trod_int Try.underlying3 h4
  simp only [List.cons.injEq, and_true] at e0 e1 e2 e3 e4
  obtain ⟨rfl, rfl⟩ := e2
  subst e0; subst e1; subst e3; subst e4
  exact ⟨⟨n0, n1, z, n3, n4⟩, rfl, w1, w2, w2', w3, w4⟩
theorem open_rules {W : World} {a : Option Addr} {len cap : Nat} {d : DataW H} {ps : List MemPlace} (h : DataW.Trod enc Try.prog W 0 (fun _ => true) true 22 (.slice a len cap) d ps) :
    ∃ zs : List S40, zs.length = len ∧ len ≤ cap ∧ Kd.C k40 W a zs.length zs ∧ ∀ z ∈ zs, Wf40 z := by
  obtain ⟨fuel, hf⟩ := h
  rcases open_slice Try.underlying22 hf with ⟨hcs, _⟩ | ⟨ad, l, c, m, n, D, Pl, hcs, _, hl, hm, hmm, _, hel⟩
  · simp [Value.cells] at hcs
    obtain ⟨rfl, rfl, rfl⟩ := hcs
    exact ⟨[], rfl, Nat.le_refl _, ⟨rfl, by simp, fun h0 => absurd h0 (by simp)⟩, by simp⟩
  · simp [Value.cells] at hcs
    obtain ⟨rfl, rfl, rfl⟩ := hcs
    simp only [if_true] at hmm
    subst hmm
    letI : Inhabited S40 := ⟨z40⟩
    obtain ⟨Z, hZ⟩ := choose_lt (n := len) (p := fun i (z : S40) => (∀ j u, ([.bool z.f0, .int .i64 z.f1, .int .u32 z.f2.f0, .int .i64 z.f2.f1, .int .i64 z.f3, .int .i64 z.f4] : List Value)[j]? = some u → W.cell? (ad.add (i * 6 + j)) = some u) ∧ Wf40 z) (fun i hi => by
      obtain ⟨cs', h1, h2⟩ := hel i (by omega)
      rw [cells40] at h1
      obtain ⟨z, rfl, hw⟩ := trod40 h2
      obtain ⟨_, hlen, hc⟩ := World.cells?_some h1
      refine ⟨z, fun j u hj => ?_, hw⟩
      have hj6 : j < 6 := by
        rcases Nat.lt_or_ge j 6 with h | h
        · exact h
        · rw [List.getElem?_eq_none (by simpa using h)] at hj
          cases hj
      have := hc j hj6
      rw [Go.Deep.add_add] at this
      rw [this, hj])
    have hmx : len ≤ 9223372036854775807 := by have : m ≤ 9223372036854775807 := hm; omega
    refine ⟨(List.range len).map Z, by simp, hl, ⟨rfl, by simpa using hmx, fun _ => ⟨ad, rfl, fun j p hp => ?_⟩⟩, fun z hz => ?_⟩
    · simp only [List.getElem?_map, Option.map_eq_some_iff] at hp
      obtain ⟨i, hi, rfl⟩ := hp
      have hj : j < len := by
        rcases Nat.lt_or_ge j len with h | h
        · exact h
        · rw [List.getElem?_eq_none (by simpa using h)] at hi
          cases hi
      have : i = j := by
        rw [List.getElem?_range hj] at hi
        exact (Option.some.inj hi).symm
      subst this
      exact ⟨_, by rfl, k40_mk W (Z i), fun q u hq => (hZ i hj).1 q u hq⟩
    · obtain ⟨i, hi, rfl⟩ := List.mem_map.1 hz
      exact (hZ i (by simpa using hi)).2
theorem sized_rules {W : World} {a : Option Addr} {len cap : Nat} {d : DataW H} {ps : List MemPlace} {ts : List TypeId} {ds : List (DataW H)} {j : Nat} (hsz : (DataW.weightsEach Try.prog ts ds).all (· ≤ reachBytes) = true) (ht : ts[j]? = some 22) (hd : ds[j]? = some d)
    (h : DataW.Trod enc Try.prog W 0 (fun _ => true) true 22 (.slice a len cap) d ps) : len * 48 ≤ 140737488351232 := by
  obtain ⟨fuel, hf⟩ := h
  rcases open_slice Try.underlying22 hf with ⟨hcs, _⟩ | ⟨ad, l, c, m, n, D, Pl, hcs, _, hl, hm, hmm, hx, _⟩
  · simp [Value.cells] at hcs
    obtain ⟨rfl, rfl, rfl⟩ := hcs
    simp
  · simp [Value.cells] at hcs
    obtain ⟨rfl, rfl, rfl⟩ := hcs
    obtain ⟨hx, _⟩ := Prod.mk.inj hx
    subst hx
    have z := sized_slice hsz ht hd Try.underlying22
    rw [show Try.prog.bytesOf 40 = 48 by kernel_rfl] at z
    simp only [List.length_map, List.length_range] at z
    have : reachBytes = 140737488351232 := rfl
    omega
theorem trod44 {fuel : Nat} {cs : List Value} {x : DataW H × List MemPlace} (h : DataW.trod enc Try.prog w base spare held fuel 44 cs = some x) :
    ∃ (ip : Bool) (addr port : Int), cs = [.bool ip, .int .u32 addr, .int .i64 port] ∧ (Lit.int .u32 addr).wf = true := by
  obtain ⟨xs, n, rfl, hx, hlen, hxl, hf⟩ := DataW.trod_struct Try.underlying44 h
  rw [show Try.prog.cellsOf 44 = 3 by kernel_rfl] at hlen
  rcases cs with _ | ⟨c0, _ | ⟨c1, _ | ⟨c2, _ | ⟨c3, r⟩⟩⟩⟩ <;> simp at hlen
  rcases xs with _ | ⟨x0, _ | ⟨x1, _ | ⟨x2, _ | ⟨x3, r⟩⟩⟩⟩ <;> simp at hxl
  have h0 : DataW.trod enc Try.prog w base spare held n 4 (([c0, c1, c2].drop 0).take (Try.prog.cellsOf 4)) = [x0, x1, x2][0]? := hf 0 _ rfl
  have h1 : DataW.trod enc Try.prog w base spare held n 28 (([c0, c1, c2].drop 1).take (Try.prog.cellsOf 28)) = [x0, x1, x2][1]? := hf 1 _ rfl
  have h2 : DataW.trod enc Try.prog w base spare held n 3 (([c0, c1, c2].drop 2).take (Try.prog.cellsOf 3)) = [x0, x1, x2][2]? := hf 2 _ rfl
  rw [cells4] at h0
  rw [cells28] at h1
  rw [cells3] at h2
  simp only [List.drop_zero, List.take_succ_cons, List.take_zero, List.drop_succ_cons, List.getElem?_cons_zero, List.getElem?_cons_succ] at h0 h1 h2
  obtain ⟨n0, e0, -⟩ := DataW.trod_bool Try.underlying4 h0
  obtain ⟨n1, e1, -, w1⟩ := DataW.trod_int Try.underlying28 h1
  obtain ⟨n2, e2, -, w2⟩ := DataW.trod_int Try.underlying3 h2
  simp only [List.cons.injEq, and_true] at e0 e1 e2
  subst e0; subst e1; subst e2
  exact ⟨n0, n1, n2, rfl, w1⟩
theorem sized_in {ts : List TypeId} {ds parts : List (DataW H)} {j : Nat} (hsz : (DataW.weightsEach Try.prog ts ds).all (· ≤ reachBytes) = true) (ht : ts[j]? = some 46) (hd : ds[j]? = some (.agg parts)) :
    (DataW.weightsEach Try.prog [44, 28, 3, 22] parts).all (· ≤ reachBytes) = true := by
  refine List.all_eq_true.2 fun n hn => List.all_eq_true.1 hsz n (DataW.weights_mem_each ht hd n ?_)
  rw [DataW.weights, Try.underlying46]
  exact hn
theorem open_tunnel {W : World} {cs : Array Value} {d : DataW H} {ps : List MemPlace} {ts : List TypeId} {ds : List (DataW H)} {j : Nat} (hsz : (DataW.weightsEach Try.prog ts ds).all (· ≤ reachBytes) = true) (ht : ts[j]? = some 46) (hd : ds[j]? = some d)
    (h : DataW.Trod enc Try.prog W 0 (fun _ => true) true 46 (.agg cs) d ps) :
    ∃ (ip : Bool) (addr port own prt : Int) (A : Option Addr) (c : Nat) (l : List S40), cs = #[.bool ip, .int .u32 addr, .int .i64 port, .int .u32 own, .int .i64 prt, .slice A l.length c] ∧ Kd.C k40 W A l.length l ∧ l.length ≤ c ∧ l.length < 2932031007402 ∧ (∀ z ∈ l, Wf40 z) ∧ (Lit.int .u32 addr).wf = true := by
  obtain ⟨fuel, hf⟩ := h
  obtain ⟨xs, n, rfl, hx, hlen, hxl, hf⟩ := DataW.trod_struct Try.underlying46 hf
  rw [show (Value.agg cs).cells.toList = cs.toList from rfl, show Try.prog.cellsOf 46 = 6 by kernel_rfl] at hlen
  obtain ⟨L, rfl⟩ : ∃ L : List Value, cs = L.toArray := ⟨cs.toList, by simp⟩
  rw [show (Value.agg L.toArray).cells.toList = L from rfl] at hf
  rcases L with _ | ⟨c0, _ | ⟨c1, _ | ⟨c2, _ | ⟨c3, _ | ⟨c4, _ | ⟨c5, _ | ⟨c6, r⟩⟩⟩⟩⟩⟩⟩ <;> simp at hlen
  rcases xs with _ | ⟨x0, _ | ⟨x1, _ | ⟨x2, _ | ⟨x3, _ | ⟨x4, r⟩⟩⟩⟩⟩ <;> simp at hxl
  have h0 : DataW.trod enc Try.prog W 0 (fun _ => true) true n 44 (([c0, c1, c2, c3, c4, c5].drop 0).take (Try.prog.cellsOf 44)) = [x0, x1, x2, x3][0]? := hf 0 _ rfl
  have h1 : DataW.trod enc Try.prog W 0 (fun _ => true) true n 28 (([c0, c1, c2, c3, c4, c5].drop 3).take (Try.prog.cellsOf 28)) = [x0, x1, x2, x3][1]? := hf 1 _ rfl
  have h2 : DataW.trod enc Try.prog W 0 (fun _ => true) true n 3 (([c0, c1, c2, c3, c4, c5].drop 4).take (Try.prog.cellsOf 3)) = [x0, x1, x2, x3][2]? := hf 2 _ rfl
  have h3 : DataW.trod enc Try.prog W 0 (fun _ => true) true n 22 (([c0, c1, c2, c3, c4, c5].drop 5).take (Try.prog.cellsOf 22)) = [x0, x1, x2, x3][3]? := hf 3 _ rfl
  rw [show Try.prog.cellsOf 44 = 3 by kernel_rfl] at h0
  rw [cells28] at h1
  rw [cells3] at h2
  rw [show Try.prog.cellsOf 22 = 1 by kernel_rfl] at h3
  simp only [List.drop_zero, List.take_succ_cons, List.take_zero, List.drop_succ_cons, List.getElem?_cons_zero, List.getElem?_cons_succ] at h0 h1 h2 h3
  obtain ⟨ip, addr, port, e0, w0⟩ := trod44 h0
  obtain ⟨own, e1, -, -⟩ := DataW.trod_int Try.underlying28 h1
  obtain ⟨prt, e2, -, -⟩ := DataW.trod_int Try.underlying3 h2
  simp only [List.cons.injEq, and_true] at e0 e1 e2
  obtain ⟨rfl, rfl, rfl⟩ := e0
  subst e1; subst e2
  obtain ⟨A, len, cap, e3⟩ : ∃ A len cap, c5 = .slice A len cap := by
    rcases open_slice Try.underlying22 h3 with ⟨hcs, -⟩ | ⟨ad, l, c, m, k, D, Pl, hcs, -⟩
    · simp only [List.cons.injEq, and_true] at hcs
      exact ⟨_, _, _, hcs⟩
    · simp only [List.cons.injEq, and_true] at hcs
      exact ⟨_, _, _, hcs⟩
  subst e3
  have hT : DataW.Trod enc Try.prog W 0 (fun _ => true) true 22 (.slice A len cap) x3.1 x3.2 := ⟨n, h3⟩
  obtain ⟨hx, -⟩ := Prod.mk.inj hx
  subst hx
  have hr := sized_rules (sized_in hsz ht hd) (j := 3) rfl rfl hT
  obtain ⟨zs, rfl, hc, hC, hz⟩ := open_rules hT
  exact ⟨ip, addr, port, own, prt, A, cap, zs, rfl, hC, hc, by omega, hz, w0⟩
end
end Go.Proofs.Ytcpneggifmldoaa.T
set_option linter.unusedVariables false
set_option linter.unusedSimpArgs false
namespace Go.Proofs.Ytcpneggifmldoaa.T
open Go.RowKit Go.Proofs.YtcpneggifmldoaaW.PrintWords Go
def u8 (n : Int) : UInt8 := UInt8.ofNat (n % 256).toNat
theorem u8_nat (n : Int) : ((u8 n).toNat : Int) = n % 256 := by
  unfold u8
  rw [UInt8.toNat_ofNat']
  have h0 := Int.emod_nonneg n (show (256 : Int) ≠ 0 by decide)
  have h1 := Int.emod_lt_of_pos n (show (0 : Int) < 256 by decide)
  rw [Nat.mod_eq_of_lt (by omega)]
  omega
theorem u8_ext {a b : UInt8} (h : (a.toNat : Int) = b.toNat) : a = b := UInt8.toNat_inj.1 (by omega)
theorem u8_back (b : UInt8) : u8 (b.toNat : Int) = b := u8_ext (by rw [u8_nat]; have := b.toNat_lt; omega)
def foldV (x : ByteArray) : Nat → Nat → Int → Int
  | _, 0, v => v
  | i, d + 1, v => foldV x (i + 1) d (v * 256 + bt x i)
def numV (x : ByteArray) : Int := foldV x 0 x.size 0
def n2 (s : ByteArray) (i : Nat) : Int := bt s i * 256 + bt s ((i + 1 : Nat) : Int)
def n4 (s : ByteArray) (i : Nat) : Int := ((bt s i * 256 + bt s ((i + 1 : Nat) : Int)) * 256 + bt s ((i + 2 : Nat) : Int)) * 256 + bt s ((i + 3 : Nat) : Int)
theorem bt_nat (s : ByteArray) (i : Nat) (h : i < s.size) : bt s (i : Int) = ((s[i]'h).toNat : Int) := by
  have := bt_at s (i : Int) (by simpa using h)
  rw [← this]
  rfl
theorem bt_extract (s : ByteArray) (a b i : Nat) (hb : b ≤ s.size) (hi : a + i < b) : bt (s.extract a b) (i : Int) = bt s ((a + i : Nat) : Int) := by
  rw [bt_nat s (a + i) (by omega), bt_nat (s.extract a b) i (by rw [ByteArray.size_extract]; omega)]
  rw [ByteArray.getElem_extract]
theorem size_extract' (s : ByteArray) (a b : Nat) (hb : b ≤ s.size) : (s.extract a b).size = b - a := by
  rw [ByteArray.size_extract]; omega
theorem numV2 (s : ByteArray) (a : Nat) (h : a + 2 ≤ s.size) : numV (s.extract a (a + 2)) = n2 s a := by
  unfold numV
  rw [size_extract' s _ _ h, show a + 2 - a = 2 by omega]
  simp only [foldV]
  rw [bt_extract s a (a + 2) 0 h (by omega), bt_extract s a (a + 2) (0 + 1) h (by omega)]
  unfold n2
  simp
theorem numV4 (s : ByteArray) (a : Nat) (h : a + 4 ≤ s.size) : numV (s.extract a (a + 4)) = n4 s a := by
  unfold numV
  rw [size_extract' s _ _ h, show a + 4 - a = 4 by omega]
  simp only [foldV]
  rw [bt_extract s a (a + 4) 0 h (by omega), bt_extract s a (a + 4) (0 + 1) h (by omega), bt_extract s a (a + 4) (0 + 1 + 1) h (by omega), bt_extract s a (a + 4) (0 + 1 + 1 + 1) h (by omega)]
  unfold n4
  simp
theorem n2_range (s : ByteArray) (i : Nat) : 0 ≤ n2 s i ∧ n2 s i ≤ 65535 := by
  have := bt_range s i
  have := bt_range s ((i + 1 : Nat) : Int)
  unfold n2
  omega
theorem n4_range (s : ByteArray) (i : Nat) : 0 ≤ n4 s i ∧ n4 s i ≤ 4294967295 := by
  have := bt_range s i
  have := bt_range s ((i + 1 : Nat) : Int)
  have := bt_range s ((i + 2 : Nat) : Int)
  have := bt_range s ((i + 3 : Nat) : Int)
  unfold n4
  omega
def wordsV (x : ByteArray) : Nat → Nat → Int
  | _, 0 => 0
  | i, d + 1 => n2 x i + wordsV x (i + 2) d
theorem wordsV_range (x : ByteArray) : ∀ (d i : Nat), 0 ≤ wordsV x i d ∧ wordsV x i d ≤ 65535 * d
  | 0, _ => by simp [wordsV]
  | d + 1, i => by
    have := wordsV_range x d (i + 2)
    have := n2_range x i
    simp only [wordsV]
    omega
def fold1 (n : Int) : Int := if n > 65535 then n % 65536 + n / 65536 else n
def sumV (x : ByteArray) : Int := 65535 - fold1 (fold1 (wordsV x 0 10))
theorem fold1_range {n : Int} (h0 : 0 ≤ n) (h1 : n ≤ 655350) : 0 ≤ fold1 n ∧ fold1 n ≤ 65545 := by
  unfold fold1; split <;> omega
theorem fold2_range {n : Int} (h0 : 0 ≤ n) (h1 : n ≤ 655350) : 0 ≤ fold1 (fold1 n) ∧ fold1 (fold1 n) ≤ 65535 := by
  have := fold1_range h0 h1
  generalize fold1 n = m at *
  unfold fold1; split <;> omega
theorem sumV_range (x : ByteArray) : 0 ≤ sumV x ∧ sumV x ≤ 65535 := by
  have h := wordsV_range x 10 0
  have := fold2_range h.1 (by omega)
  unfold sumV
  omega
def hdrV (len tos id frag ttl proto sum src dst : Int) : ByteArray :=
  ⟨#[69, u8 tos, u8 (len / 256), u8 len, u8 (id / 256), u8 id, u8 (frag / 256), u8 frag, u8 ttl, u8 proto, u8 (sum / 256), u8 sum,
    u8 (src / 16777216), u8 (src / 65536), u8 (src / 256), u8 src, u8 (dst / 16777216), u8 (dst / 65536), u8 (dst / 256), u8 dst]⟩
def okH (tos id frag ttl proto : Int) : Prop := (0 ≤ tos ∧ tos ≤ 255) ∧ (0 ≤ ttl ∧ ttl ≤ 255) ∧ (0 ≤ proto ∧ proto ≤ 255) ∧ (0 ≤ id ∧ id ≤ 65535) ∧ (0 ≤ frag ∧ frag ≤ 65535)
instance (a b c d e : Int) : Decidable (okH a b c d e) := inferInstanceAs (Decidable (_ ∧ _))
def packV (tos id frag ttl proto src dst : Int) (data : ByteArray) : ByteArray :=
  hdrV (20 + data.size) tos id frag ttl proto (sumV (hdrV (20 + data.size) tos id frag ttl proto 0 src dst)) src dst ++ data
def buildV (tos id frag ttl proto src dst : Int) (data : ByteArray) : ByteArray × Int :=
  if okH tos id frag ttl proto then if data.size ≤ 65515 then (packV tos id frag ttl proto src dst data, 0) else (⟨#[]⟩, 8) else (⟨#[]⟩, 2)
abbrev Hd := Int × Int × Int × Int × Int × Int × Int × ByteArray × Int
def badH (e : Int) : Hd := (0, 0, 0, 0, 0, 0, 0, ⟨#[]⟩, e)
def zeroed (s : ByteArray) : ByteArray := s.extract 0 10 ++ ⟨#[0, 0]⟩ ++ s.extract 12 20
def parseV (s : ByteArray) : Hd :=
  if s.size < 20 then badH 1 else if bt s 0 = 69 then if n2 s 2 < 20 ∨ (s.size : Int) < n2 s 2 then badH 1 else if (s.size : Int) = n2 s 2 then
    if sumV (zeroed s) = n2 s 10 then (bt s 1, n2 s 4, n2 s 6, bt s 8, bt s 9, n4 s 12, n4 s 16, s.extract 20 s.size, 0) else badH 9 else badH 6 else badH 3
def hdA (r : Hd) : Array Value := #[.int .i64 r.1, .int .i64 r.2.1, .int .i64 r.2.2.1, .int .i64 r.2.2.2.1, .int .i64 r.2.2.2.2.1, .int .u32 r.2.2.2.2.2.1, .int .u32 r.2.2.2.2.2.2.1, .string r.2.2.2.2.2.2.2.1]
def hdV (r : Hd) : Value := .tuple #[.agg (hdA r), .int .i64 r.2.2.2.2.2.2.2.2]
def hdO (s : ByteArray) : Hd := (bt s 1, n2 s 4, n2 s 6, bt s 8, bt s 9, n4 s 12, n4 s 16, s.extract 20 s.size, 0)
theorem wrap_n {n : Int} (h0 : 0 ≤ n) (h1 : n ≤ 4294967295) : wrap64 n = n := by unfold wrap64; omega
end Go.Proofs.Ytcpneggifmldoaa.T
namespace Go.Proofs.Ytcpneggifmldoaa.T
open Go.RowKit Go.Proofs.YtcpneggifmldoaaW.PrintWords Go.Proofs.YtcpneggifmldoaaW.PrintLast Go.Proofs.YtcpneggifmldoaaW.PrintMore
attribute [local go_sem] max2_int min2_int max_two min_two max_three min_three max_four min_four   -- for this text's walks alone
set_option linter.unusedVariables false
set_option linter.unusedSimpArgs false
def vizardref01_Number.l0 : Nat → ByteArray → Int → Int → Option (Int)
  | 0, _, _, _ => none
  | k + 1, x0, x3, x4 => if x4 < (x0.size : Int) then (if 0 ≤ x4 then (vizardref01_Number.l0 k x0 (wrap64 ((wrap64 (x3 * 256)) + (wrap64 (bt x0 x4)))) (wrap64 (x4 + 1))) else (none)) else (some x3)
def vizardref01_Number.f (k : Nat) (a0 : ByteArray) : Option (Int) := vizardref01_Number.l0 k a0 0 0
set_option maxHeartbeats 8000000 in
set_option maxRecDepth 100000 in
theorem vizardref01_Number.calls (k : Nat) (a0 : ByteArray) (r : Int) (w : World) (h : vizardref01_Number.f k a0 = some r) :
    Calls Try.prog 41 #[.string a0] w fun e w' => e = .returned (.int .i64 r) ∧ Drawn0 w w' := by
  have H : (vizardref01_Number.l0 k a0 0 0) = some r := h
  clear h
  have H' := Aside0.mk H
  clear H
  go_enter Try.func41, Try.ntmps41
  go_wp2
  go_loopg [3, 4] k (fun kq v3 v4 w' => ∃ (x3_1 : Int) (x4_1 : Int), v3 = .int .i64 x3_1 ∧ v4 = .int .i64 x4_1 ∧ Aside0 (vizardref01_Number.l0 kq a0 x3_1 x4_1 = some r) ∧ Aside0 (kq ≤ k) ∧ Drawn0 w w')
  case atStart => exact ⟨(0), (0), (by first | rfl | (simp; done) | (simp [*]; done)), (by first | rfl | (simp; done) | (simp [*]; done)), H', ⟨Nat.le_refl _⟩, by repeat (first | exact Drawn0.refl _ | apply Drawn0.step)⟩
  case round =>
    clear H'
    obtain ⟨x3_1, x4_1, rfl, rfl, HA, HK1, ⟨m1, rfl⟩⟩ := hrel
    cases gk with
    | zero => exact absurd HA.out (by simp [vizardref01_Number.l0])
    | succ k1 =>
      have H := HA.out
      clear HA
      simp only [vizardref01_Number.l0] at H
      by_cases c2 : x4_1 < (a0.size : Int)
      · rw [if_pos c2] at H
        have c2b0 : decide (x4_1 < (a0.size : Int)) = true := decide_eq_true c2
        clear c2
        by_cases c3 : 0 ≤ x4_1
        · rw [if_pos c3] at H
          have c3b0 : decide (0 ≤ x4_1) = true := decide_eq_true c3
          clear c3
          have H' := Aside0.mk H
          clear H
          have p4 : 0 ≤ (x4_1 : Int) := of_decide_eq_true (by first | (with_reducible assumption) | assumption)
          have q4 : x4_1 < (a0.size : Int) := of_decide_eq_true (by first | (with_reducible assumption) | assumption)
          have hx4 := bt_at a0 x4_1
          replace p4 := eq_true p4
          replace q4 := eq_true q4
          go_wp2
          go_roundg k1
          case measure => have := HK1.out; omega
          case rel => exact ⟨(wrap64 ((wrap64 (x3_1 * 256)) + (wrap64 (bt a0 x4_1)))), (wrap64 (x4_1 + 1)), (by first | rfl | (simp; done) | (simp [*]; done)), (by first | rfl | (simp; done) | (simp [*]; done)), H', ⟨by have := HK1.out; omega⟩, by repeat (first | exact Drawn0.refl _ | apply Drawn0.step)⟩
        · rw [if_neg c3] at H
          exact absurd H (by simp)
      · rw [if_neg c2] at H
        have c2b0 : decide (x4_1 < (a0.size : Int)) = false := decide_eq_false c2
        clear c2
        obtain rfl := Option.some.inj H
        go_wp2
        go_ret
        exact ⟨by first | rfl | (simp; done) | (simp [*]; done), by repeat (first | exact Drawn0.refl _ | apply Drawn0.step)⟩
mutual
def vizardref02_Sum.j0 : Nat → ByteArray → Option (Int)
  | 0, _ => none
  | k + 1, x0 => vizardref02_Sum.l0 k x0 0 0
def vizardref02_Sum.l0 : Nat → ByteArray → Int → Int → Option (Int)
  | 0, _, _, _ => none
  | k + 1, x0, x3, x4 => if (wrap64 (x4 + 1)) < (x0.size : Int) then (if 0 ≤ x4 then (if x4 ≤ (wrap64 (x4 + 2)) then (if (wrap64 (x4 + 2)) ≤ (x0.size : Int) then ((vizardref01_Number.f k (x0.extract (x4 : Int).toNat ((wrap64 (x4 + 2)) : Int).toNat)).bind fun t129 => (vizardref02_Sum.l0 k x0 (wrap64 (x3 + t129)) (wrap64 (x4 + 2)))) else (none)) else (none)) else (none)) else (vizardref02_Sum.l1 k x3)
def vizardref02_Sum.l1 : Nat → Int → Option (Int)
  | 0, _ => none
  | k + 1, x3 => if x3 > 65535 then (vizardref02_Sum.l1 k (wrap64 ((Int.tmod x3 65536) + (wrap64 (Int.tdiv x3 65536))))) else (some (wrap64 (65535 - x3)))
end
def vizardref02_Sum.f (k : Nat) (a0 : ByteArray) : Option (Int) := if ((a0.size : Int) % 2) = 1 then (if a0.size + 1 ≤ 9223372036854775807 then (vizardref02_Sum.j0 k (a0 ++ (⟨#[0]⟩ : ByteArray))) else (none)) else (vizardref02_Sum.j0 k a0)
end Go.Proofs.Ytcpneggifmldoaa.T
namespace Go.Proofs.Ytcpneggifmldoaa.T
open Go.RowKit Go.Proofs.YtcpneggifmldoaaW.PrintWords Go.Proofs.YtcpneggifmldoaaW.PrintLast Go.Proofs.YtcpneggifmldoaaW.PrintMore
attribute [local go_sem] max2_int min2_int max_two min_two max_three min_three max_four min_four   -- for this text's walks alone
set_option linter.unusedVariables false
set_option linter.unusedSimpArgs false
def vizardref01_Bytes.f : Nat → Int → Int → Option (ByteArray)
  | 0, _, _ => none
  | k + 1, a0, a1 => if a1 = 0 then (some (⟨#[]⟩ : ByteArray)) else ((vizardref01_Bytes.f k (wrap64 (Int.tdiv a0 256)) (wrap64 (a1 - 1))).bind fun t130 => ((some (([(Int.tmod a0 256) % 256] : List Int) : List Int)).bind fun y131 => (if t130.size + (strOfNums y131).size ≤ 9223372036854775807 then (some (t130 ++ (strOfNums y131))) else (none))))
def vizardref01_Bytes.T3 : Bool × List (List Nat × List Nat) := (true, [([], []), ([0], [0]), ([], []), ([2], [2]), ([1, 3], [1, 3]), ([], []), ([5], [5]), ([6], [6]), ([7], [7]), ([8], [8]), ([4, 9], [4, 9]), ([10, 4, 0, 1, 2, 3, 4, 5, 6, 7, 8, 9, 10], [10])])
def vizardref01_Bytes.B3 : List Nat := [0, 1, 0, 4, 15, 0, 32, 96, 224, 480, 1023, 2047]
theorem vizardref01_Bytes.tab3 : rtab .any (opsOf Try.f87 3) = vizardref01_Bytes.T3 := by kernel_rfl
theorem vizardref01_Bytes.bits3 : waitsOk vizardref01_Bytes.T3.2 vizardref01_Bytes.B3 = true := by kernel_rfl
set_option maxHeartbeats 8000000 in
set_option maxRecDepth 100000 in
theorem vizardref01_Bytes.calls (k : Nat) : ∀ (a0 : Int) (a1 : Int) (r : ByteArray) (w : World) (h : vizardref01_Bytes.f k a0 a1 = some r),
    Calls Try.prog 87 #[.int .i64 a0, .int .i64 a1] w fun e w' => e = .returned (.string r) ∧ Below w.heap.size w w' := by
  induction k using Nat.strongRecOn with
  | _ k ih =>
  intro a0 a1 r w h
  cases k with
  | zero => exact absurd h (by simp [vizardref01_Bytes.f])
  | succ k =>
  simp only [vizardref01_Bytes.f] at h
  have HB := Aside0.mk (Below.refl w.heap.size w)
  have H : (if a1 = 0 then (some (⟨#[]⟩ : ByteArray)) else ((vizardref01_Bytes.f k (wrap64 (Int.tdiv a0 256)) (wrap64 (a1 - 1))).bind fun t130 => ((some (([(Int.tmod a0 256) % 256] : List Int) : List Int)).bind fun y131 => (if t130.size + (strOfNums y131).size ≤ 9223372036854775807 then (some (t130 ++ (strOfNums y131))) else (none))))) = some r := h
  clear h
  by_cases c3 : a1 = 0
  · rw [if_pos c3] at H
    have c3b0 : (a1 == 0) = true := beq_iff_eq.mpr c3
    have c3b1 : (a1 != 0) = false := bne_eq_false_iff_eq.mpr c3
    clear c3
    obtain rfl := Option.some.inj H
    go_enter Try.func87, Try.ntmps87
    go_wp2
    go_ret
    exact ⟨by first | rfl | (simp [errW_none, errW_some] <;> rfl) | (simp [*, errW_none, errW_some] <;> rfl), by repeat (first | (with_reducible first | exact HB.out | apply below_alloc | apply pw_below_drewN | apply below_drew1) | exact HB.out)⟩
  · rw [if_neg c3] at H
    have c3b0 : (a1 == 0) = false := beq_eq_false_iff_ne.mpr c3
    have c3b1 : (a1 != 0) = true := bne_iff_ne.mpr c3
    replace H := Option.bind_eq_some_iff.mp H
    obtain ⟨t130, A40, H⟩ := H
    replace H : ((some (([(Int.tmod a0 256) % 256] : List Int) : List Int)).bind fun y131 => (if t130.size + (strOfNums y131).size ≤ 9223372036854775807 then (some (t130 ++ (strOfNums y131))) else (none))) = some r := H
    have A4 := Aside0.mk A40
    clear A40
    obtain ⟨y131, hy131⟩ : ∃ y_ : List Int, y_ = (([(Int.tmod a0 256) % 256] : List Int)) := ⟨_, rfl⟩
    replace H : (if t130.size + (strOfNums y131).size ≤ 9223372036854775807 then (some (t130 ++ (strOfNums y131))) else (none)) = some r := by first | (rw [hy131]; with_reducible exact H) | (have H2_ := (Option.bind_some _ _).symm.trans H; rw [hy131]; with_reducible exact H2_) | (have H2_ := (Option.bind_some _ _).symm.trans H; with_reducible exact H2_) | with_reducible exact H | (rw [hy131]; exact H) | exact H
    have Ny131 := Aside0.mk hy131
    clear hy131
    by_cases c5 : t130.size + (strOfNums y131).size ≤ 9223372036854775807
    · rw [if_pos c5] at H
      have c5b0 := eq_true c5
      have c5b1 : decide (t130.size + (strOfNums y131).size ≤ 9223372036854775807) = true := decide_eq_true c5
      try have c5b2 : (9223372036854775807 < t130.size + (strOfNums y131).size) = False := eq_false (Nat.not_lt.2 c5)
      obtain rfl := Option.some.inj H
      go_enter Try.func87, Try.ntmps87
      try go_wp2
      have n0_ := Aside0.mk (below_drew1 HB.out)
      clear HB
      have HB := n0_
      clear n0_
      refine start_ (n := 12) (S := fun w' => True) (ds := []) #[false, false, false, false, false, false, false, false, false, false, false, false] (by kernel_rfl) rfl rfl trivial (fun hHeld => ?_); refine with_tabW vizardref01_Bytes.tab3 vizardref01_Bytes.bits3 (fun HT_ HW_ => ?_)
      generalize w.drew = w6 at HB hHeld ⊢
      refine pure_ (i := 0) (N := some 7) (v := ?_) (a' := ?_) #[true, false, false, false, false, false, false, false, false, false, false, false] rfl rfl (any_of HT_.out (by kernel_rfl)) (fun _ _ _ h => h) (Or.inl ⟨by rfl, ?_⟩) ?_ ?_
      rotate_left
      · intro w'
        go_simp
        with_reducible rfl
      rotate_left
      · simp only [Act.put, List.setIfInBounds_toArray, List.set_cons_zero, List.set_cons_succ, i64_w, i32_w]
        rfl
      refine pure_ (i := 1) (N := some 8) (v := ?_) (a' := ?_) #[true, true, false, false, false, false, false, false, false, false, false, false] rfl rfl (any_of HT_.out (by kernel_rfl)) (fun _ _ _ h => h) (Or.inl ⟨by rfl, ?_⟩) ?_ ?_
      rotate_left
      · intro w'
        go_simp
        with_reducible rfl
      rotate_left
      · simp only [Act.put, List.setIfInBounds_toArray, List.set_cons_zero, List.set_cons_succ, i64_w, i32_w]
        rfl
      refine pure_ (i := 2) (N := some 9) (v := ?_) (a' := ?_) #[true, true, true, false, false, false, false, false, false, false, false, false] rfl rfl (any_of HT_.out (by kernel_rfl)) (fun _ _ _ h => h) (Or.inl ⟨by rfl, ?_⟩) ?_ ?_
      rotate_left
      · intro w'
        go_simp
        with_reducible rfl
      rotate_left
      · simp only [Act.put, List.setIfInBounds_toArray, List.set_cons_zero, List.set_cons_succ, i64_w, i32_w]
        rfl
      refine pure_ (i := 3) (N := some 10) (v := ?_) (a' := ?_) #[true, true, true, true, false, false, false, false, false, false, false, false] rfl rfl (any_of HT_.out (by kernel_rfl)) (fun _ _ _ h => h) (Or.inl ⟨by rfl, ?_⟩) ?_ ?_
      rotate_left
      · intro w'
        go_simp
        with_reducible rfl
      rotate_left
      · simp only [Act.put, List.setIfInBounds_toArray, List.set_cons_zero, List.set_cons_succ, i64_w, i32_w]
        rfl
      refine pure_ (i := 5) (N := some 12) (v := ?_) (a' := ?_) #[true, true, true, true, false, true, false, false, false, false, false, false] rfl rfl (any_of HT_.out (by kernel_rfl)) (fun _ _ _ h => h) (Or.inl ⟨by rfl, ?_⟩) ?_ ?_
      rotate_left
      · intro w'
        go_simp
        with_reducible rfl
      rotate_left
      · simp only [Act.put, List.setIfInBounds_toArray, List.set_cons_zero, List.set_cons_succ, i64_w, i32_w]
        rfl
      refine pure_ (i := 6) (N := some 13) (v := ?_) (a' := ?_) #[true, true, true, true, false, true, true, false, false, false, false, false] rfl rfl (any_of HT_.out (by kernel_rfl)) (fun _ _ _ h => h) (Or.inl ⟨by rfl, ?_⟩) ?_ ?_
      rotate_left
      · intro w'
        go_simp
        with_reducible rfl
      rotate_left
      · simp only [Act.put, List.setIfInBounds_toArray, List.set_cons_zero, List.set_cons_succ, i64_w, i32_w]
        rfl
      refine pure_ (i := 7) (N := some 14) (v := ?_) (a' := ?_) #[true, true, true, true, false, true, true, true, false, false, false, false] rfl rfl (any_of HT_.out (by kernel_rfl)) (fun _ _ _ h => h) (Or.inl ⟨by rfl, ?_⟩) ?_ ?_
      rotate_left
      · intro w'
        go_simp
        with_reducible rfl
      rotate_left
      · simp only [Act.put, List.setIfInBounds_toArray, List.set_cons_zero, List.set_cons_succ, i64_w, i32_w]
        rfl
      refine join_ (σ := Value) 2 #[true, true, true, true, true, true, true, true, true, true, false, false] (fun s_ => [(11, .string t130), (15, s_), (16, .string (strOfNums y131))]) (fun s_ w' => (Kd.R (Kd.int .u8) 5 w' w.heap.size (fun _ => True) s_ y131) ∧ (Below w.heap.size w w')) ?_ ?_
      rotate_left
      · intro hCont
        refine two_ (i := 4) (j := 8) (Ni := some 11) (Nj := some 15) #[true, true, true, true, true, true, true, true, false, false, false, false] #[true, true, true, true, false, true, true, true, true, false, false, false] rfl rfl rfl rfl (two_of HT_.out (by kernel_rfl)) (by decide) (by decide) (fun K hK => ?_) (fun K hK => ?_)
        · skip
          refine goes_ Try.func87 (by kernel_rfl) rfl #[.int .i64 (wrap64 (Int.tdiv a0 256)), .int .i64 (wrap64 (a1 - 1))] (by rfl) rfl rfl (by (try simp only [List.map_toArray, List.map_cons, List.map_nil]); first | done | rfl | (simp only [List.length_drop, List.length_take]; rfl)) ?_
          with_reducible refine (ih k (by omega) (wrap64 (Int.tdiv a0 256)) (wrap64 (a1 - 1)) t130 _ A4.out).mono ?_
          rintro e w7 ⟨rfl, hb⟩
          refine ⟨_, rfl, ?_⟩
          have n0_ := Aside0.mk (below_step (by repeat (first | (with_reducible first | exact HB.out | apply below_alloc | apply pw_below_drewN | apply below_drew1) | exact HB.out)) hb)
          clear HB
          have HB := n0_
          clear n0_
          (try clear hb)
          (try clear hb2)
          (try clear hk)
          (try clear hi)
          refine hK.out _ _ trivial (fun hHeld => ?_)
          clear hK K
          refine norm_ (a' := ?_) ?_ ?_
          rotate_left
          · show Act.put _ (some 11) _ = _
            simp only [Act.put, List.setIfInBounds_toArray, List.set_cons_zero, List.set_cons_succ, i64_w, i32_w]
            rfl
          refine one_ (i := 8) (N := some 15) #[true, true, true, true, true, true, true, true, true, false, false, false] rfl rfl (one_of HT_.out (by kernel_rfl)) (by decide) (fun K hK => ?_)
          refine Kd.R_lit_step (Kd.int .u8) _ 5 ?hg (N := 15) ?hd (xs := ([(Int.tmod a0 256) % 256] : List Int)) (inner := [.int .u8 ((Int.tmod a0 256) % 256)]) (ok := fun _ => True) (okp := fun _ => True) ?hr ?hp (fun _ hk => hk) trivial (Below.refl _ _) (Nat.le_refl _) (by simp) ?_; (case hd => rfl); (case hg => rfl); (case hr => first | (go_simp; done) | (go_simp; rfl)); (case hp => exact (Reps.one (show Kd.M (Kd.int .u8) _ _ _ ((Int.tmod a0 256) % 256) [.int .u8 ((Int.tmod a0 256) % 256)] from rfl) (Reps.none _ _)))
          intro v132 w8 ho9 hb hg_ hnew_
          clear hg_ hnew_
          (first | rw [← Ny131.out] at ho9 | (simp only [Int.reduceToNat] at ho9; rw [← Ny131.out] at ho9))
          have n0_ := Aside0.mk (Kd.R_lower ho9 (below_size (by repeat (first | (with_reducible first | exact HB.out | apply below_alloc | apply pw_below_drewN | apply below_drew1) | exact HB.out))))
          have n1_ := Aside0.mk (below_step (by repeat (first | (with_reducible first | exact HB.out | apply below_alloc | apply pw_below_drewN | apply below_drew1) | exact HB.out)) hb)
          clear HB
          have HO133 := n0_
          have HB := n1_
          clear n0_ n1_
          clear hb ho9
          refine hK.out _ _ trivial (fun hHeld => ?_)
          clear hK K
          refine norm_ (a' := ?_) ?_ ?_
          rotate_left
          · show Act.put _ (some 15) _ = _
            simp only [Act.put, List.setIfInBounds_toArray, List.set_cons_zero, List.set_cons_succ, i64_w, i32_w]
            rfl
          refine one_ (i := 9) (N := some 16) #[true, true, true, true, true, true, true, true, true, true, false, false] rfl rfl (one_of HT_.out (by kernel_rfl)) (by decide) (fun K hK => ?_)
          have hcv10 := own_string (P := Try.prog) Try.underlying116 Try.underlying5 Try.underlying9 (Kd.own_of_R HO133.out)
          refine value_ (w1 := ?_) (v := ?_) (by rfl) rfl ?_ ?_
          rotate_left 2
          · go_simp
            constructor
            · rfl
            · rfl
          clear hcv10
          refine hK.out _ _ trivial (fun hHeld => ?_)
          clear hK K
          refine norm_ (a' := ?_) ?_ ?_
          rotate_left
          · show Act.put _ (some 16) _ = _
            simp only [Act.put, List.setIfInBounds_toArray, List.set_cons_zero, List.set_cons_succ, i64_w, i32_w]
            rfl
          exact norm_ (by simp only [putAll, Act.put, List.setIfInBounds_toArray, List.set_cons_zero, List.set_cons_succ]) (hCont (v132) _ ⟨(by (with_reducible repeat (first | apply Kd.R_alloc | apply Kd.R_drewN | apply Kd.R_drew)); exact HO133.out), (by repeat (first | (with_reducible first | exact HB.out | apply below_alloc | apply pw_below_drewN | apply below_drew1) | exact HB.out))⟩)
        · skip
          refine Kd.R_lit_step (Kd.int .u8) _ 5 ?hg (N := 15) ?hd (xs := ([(Int.tmod a0 256) % 256] : List Int)) (inner := [.int .u8 ((Int.tmod a0 256) % 256)]) (ok := fun _ => True) (okp := fun _ => True) ?hr ?hp (fun _ hk => hk) trivial (Below.refl _ _) (Nat.le_refl _) (by simp) ?_; (case hd => rfl); (case hg => rfl); (case hr => first | (go_simp; done) | (go_simp; rfl)); (case hp => exact (Reps.one (show Kd.M (Kd.int .u8) _ _ _ ((Int.tmod a0 256) % 256) [.int .u8 ((Int.tmod a0 256) % 256)] from rfl) (Reps.none _ _)))
          intro v132 w7 ho8 hb hg_ hnew_
          clear hg_ hnew_
          (first | rw [← Ny131.out] at ho8 | (simp only [Int.reduceToNat] at ho8; rw [← Ny131.out] at ho8))
          have n0_ := Aside0.mk (Kd.R_lower ho8 (below_size (by repeat (first | (with_reducible first | exact HB.out | apply below_alloc | apply pw_below_drewN | apply below_drew1) | exact HB.out))))
          have n1_ := Aside0.mk (below_step (by repeat (first | (with_reducible first | exact HB.out | apply below_alloc | apply pw_below_drewN | apply below_drew1) | exact HB.out)) hb)
          clear HB
          have HO133 := n0_
          have HB := n1_
          clear n0_ n1_
          clear hb ho8
          refine hK.out _ _ trivial (fun hHeld => ?_)
          clear hK K
          refine norm_ (a' := ?_) ?_ ?_
          rotate_left
          · show Act.put _ (some 15) _ = _
            simp only [Act.put, List.setIfInBounds_toArray, List.set_cons_zero, List.set_cons_succ, i64_w, i32_w]
            rfl
          refine two_ (i := 4) (j := 9) (Ni := some 11) (Nj := some 16) #[true, true, true, true, true, true, true, true, true, false, false, false] #[true, true, true, true, false, true, true, true, true, true, false, false] rfl rfl rfl rfl (two_of HT_.out (by kernel_rfl)) (by decide) (by decide) (fun K hK => ?_) (fun K hK => ?_)
          · skip
            refine goes_ Try.func87 (by kernel_rfl) rfl #[.int .i64 (wrap64 (Int.tdiv a0 256)), .int .i64 (wrap64 (a1 - 1))] (by rfl) rfl rfl (by (try simp only [List.map_toArray, List.map_cons, List.map_nil]); first | done | rfl | (simp only [List.length_drop, List.length_take]; rfl)) ?_
            with_reducible refine (ih k (by omega) (wrap64 (Int.tdiv a0 256)) (wrap64 (a1 - 1)) t130 _ A4.out).mono ?_
            rintro e w9 ⟨rfl, hb⟩
            refine ⟨_, rfl, ?_⟩
            have n0_ := Aside0.mk (Kd.R_below (by (with_reducible repeat (first | apply Kd.R_alloc | apply Kd.R_drewN | apply Kd.R_drew)); exact HO133.out) hb)
            have n1_ := Aside0.mk (below_step (by repeat (first | (with_reducible first | exact HB.out | apply below_alloc | apply pw_below_drewN | apply below_drew1) | exact HB.out)) hb)
            clear HO133
            clear HB
            have HO133 := n0_
            have HB := n1_
            clear n0_ n1_
            (try clear hb)
            (try clear hb2)
            (try clear hk)
            (try clear hi)
            refine hK.out _ _ trivial (fun hHeld => ?_)
            clear hK K
            refine norm_ (a' := ?_) ?_ ?_
            rotate_left
            · show Act.put _ (some 11) _ = _
              simp only [Act.put, List.setIfInBounds_toArray, List.set_cons_zero, List.set_cons_succ, i64_w, i32_w]
              rfl
            refine one_ (i := 9) (N := some 16) #[true, true, true, true, true, true, true, true, true, true, false, false] rfl rfl (one_of HT_.out (by kernel_rfl)) (by decide) (fun K hK => ?_)
            have hcv10 := own_string (P := Try.prog) Try.underlying116 Try.underlying5 Try.underlying9 (Kd.own_of_R HO133.out)
            refine value_ (w1 := ?_) (v := ?_) (by rfl) rfl ?_ ?_
            rotate_left 2
            · go_simp
              constructor
              · rfl
              · rfl
            clear hcv10
            refine hK.out _ _ trivial (fun hHeld => ?_)
            clear hK K
            refine norm_ (a' := ?_) ?_ ?_
            rotate_left
            · show Act.put _ (some 16) _ = _
              simp only [Act.put, List.setIfInBounds_toArray, List.set_cons_zero, List.set_cons_succ, i64_w, i32_w]
              rfl
            exact norm_ (by simp only [putAll, Act.put, List.setIfInBounds_toArray, List.set_cons_zero, List.set_cons_succ]) (hCont (v132) _ ⟨(by (with_reducible repeat (first | apply Kd.R_alloc | apply Kd.R_drewN | apply Kd.R_drew)); exact HO133.out), (by repeat (first | (with_reducible first | exact HB.out | apply below_alloc | apply pw_below_drewN | apply below_drew1) | exact HB.out))⟩)
          · skip
            have hcv9 := own_string (P := Try.prog) Try.underlying116 Try.underlying5 Try.underlying9 (Kd.own_of_R HO133.out)
            refine value_ (w1 := ?_) (v := ?_) (by rfl) rfl ?_ ?_
            rotate_left 2
            · go_simp
              constructor
              · rfl
              · rfl
            clear hcv9
            refine hK.out _ _ trivial (fun hHeld => ?_)
            clear hK K
            refine norm_ (a' := ?_) ?_ ?_
            rotate_left
            · show Act.put _ (some 16) _ = _
              simp only [Act.put, List.setIfInBounds_toArray, List.set_cons_zero, List.set_cons_succ, i64_w, i32_w]
              rfl
            refine one_ (i := 4) (N := some 11) #[true, true, true, true, true, true, true, true, true, true, false, false] rfl rfl (one_of HT_.out (by kernel_rfl)) (by decide) (fun K hK => ?_)
            refine goes_ Try.func87 (by kernel_rfl) rfl #[.int .i64 (wrap64 (Int.tdiv a0 256)), .int .i64 (wrap64 (a1 - 1))] (by rfl) rfl rfl (by (try simp only [List.map_toArray, List.map_cons, List.map_nil]); first | done | rfl | (simp only [List.length_drop, List.length_take]; rfl)) ?_
            with_reducible refine (ih k (by omega) (wrap64 (Int.tdiv a0 256)) (wrap64 (a1 - 1)) t130 _ A4.out).mono ?_
            rintro e w10 ⟨rfl, hb⟩
            refine ⟨_, rfl, ?_⟩
            have n0_ := Aside0.mk (Kd.R_below (by (with_reducible repeat (first | apply Kd.R_alloc | apply Kd.R_drewN | apply Kd.R_drew)); exact HO133.out) hb)
            have n1_ := Aside0.mk (below_step (by repeat (first | (with_reducible first | exact HB.out | apply below_alloc | apply pw_below_drewN | apply below_drew1) | exact HB.out)) hb)
            clear HO133
            clear HB
            have HO133 := n0_
            have HB := n1_
            clear n0_ n1_
            (try clear hb)
            (try clear hb2)
            (try clear hk)
            (try clear hi)
            refine hK.out _ _ trivial (fun hHeld => ?_)
            clear hK K
            refine norm_ (a' := ?_) ?_ ?_
            rotate_left
            · show Act.put _ (some 11) _ = _
              simp only [Act.put, List.setIfInBounds_toArray, List.set_cons_zero, List.set_cons_succ, i64_w, i32_w]
              rfl
            exact norm_ (by simp only [putAll, Act.put, List.setIfInBounds_toArray, List.set_cons_zero, List.set_cons_succ]) (hCont (v132) _ ⟨(by (with_reducible repeat (first | apply Kd.R_alloc | apply Kd.R_drewN | apply Kd.R_drew)); exact HO133.out), (by repeat (first | (with_reducible first | exact HB.out | apply below_alloc | apply pw_below_drewN | apply below_drew1) | exact HB.out))⟩)
      rintro v132 w11 ⟨h0_, h1_⟩
      have n0_ : Aside0 (Kd.R (Kd.int .u8) 5 w11 w.heap.size (fun _ => True) v132 y131) := ⟨h0_⟩
      have n1_ : Aside0 (Below w.heap.size w w11) := ⟨h1_⟩
      clear HB
      clear h0_ h1_
      have HO133 := n0_
      have HB := n1_
      clear n0_ n1_
      have hHeld := trivial
      refine norm_ (a' := ?_) ?_ ?_
      rotate_left
      · simp only [putAll, Act.put, List.setIfInBounds_toArray, List.set_cons_zero, List.set_cons_succ]
        rfl
      refine pure_ (i := 10) (N := some 17) (v := ?_) (a' := ?_) #[true, true, true, true, true, true, true, true, true, true, true, false] rfl rfl (any_of HT_.out (by kernel_rfl)) (fun _ _ _ h => h) (Or.inl ⟨by rfl, ?_⟩) ?_ ?_
      rotate_left
      · intro w'
        go_simp
        with_reducible rfl
      rotate_left
      · simp only [Act.put, List.setIfInBounds_toArray, List.set_cons_zero, List.set_cons_succ, i64_w, i32_w]
        rfl
      refine pure_ (i := 11) (N := some 4) (v := ?_) (a' := ?_) #[true, true, true, true, true, true, true, true, true, true, true, true] rfl rfl (any_of HT_.out (by kernel_rfl)) (fun _ _ _ h => h) (Or.inl ⟨by rfl, ?_⟩) ?_ ?_
      rotate_left
      · intro w'
        go_simp
        with_reducible rfl
      rotate_left
      · simp only [Act.put, List.setIfInBounds_toArray, List.set_cons_zero, List.set_cons_succ, i64_w, i32_w]
        rfl
      refine done_ (done_of HT_.out (by kernel_rfl)) ?_
      try go_wp2
      go_ret
      exact ⟨by first | rfl | (simp [errW_none, errW_some] <;> rfl) | (simp [*, errW_none, errW_some] <;> rfl), by repeat (first | (with_reducible first | exact HB.out | apply below_alloc | apply pw_below_drewN | apply below_drew1) | exact HB.out)⟩
    · rw [if_neg c5] at H
      exact absurd H (by simp)
def vizardref02_b.f (k : Nat) (a0 : Int) (a1 : Int) : Option (ByteArray) := (vizardref01_Bytes.f k a0 a1).bind fun t134 => (some t134)
set_option maxHeartbeats 8000000 in
set_option maxRecDepth 100000 in
theorem vizardref02_b.calls (k : Nat) (a0 : Int) (a1 : Int) (r : ByteArray) (w : World) (h : vizardref02_b.f k a0 a1 = some r) :
    Calls Try.prog 79 #[.int .i64 a0, .int .i64 a1] w fun e w' => e = .returned (.string r) ∧ Below w.heap.size w w' := by
  have HB := Aside0.mk (Below.refl w.heap.size w)
  have H : ((vizardref01_Bytes.f k a0 a1).bind fun t134 => (some t134)) = some r := h
  clear h
  replace H := Option.bind_eq_some_iff.mp H
  obtain ⟨t134, A30, H⟩ := H
  replace H : (some t134) = some r := H
  have A3 := Aside0.mk A30
  clear A30
  obtain rfl := Option.some.inj H
  go_enter Try.func79, Try.ntmps79
  go_wp2_with (first | ((with_reducible refine gate_callee (f := 87) rfl ?_); refine goesL_ (some 7) rfl rfl Try.func87 (by kernel_rfl) rfl #[.int .i64 a0, .int .i64 a1] rfl (by (try simp only [List.map_toArray, List.map_cons, List.map_nil]); first | done | rfl | (simp only [List.length_drop, List.length_take]; rfl)) ?_; (with_reducible refine (vizardref01_Bytes.calls k a0 a1 t134 _ A3.out).mono ?_); rintro e w4 ⟨rfl, hb⟩; refine ⟨_, rfl, ?_⟩; have n0_ := Aside0.mk (below_step (by repeat (first | (with_reducible first | exact HB.out | apply below_alloc | apply pw_below_drewN | apply below_drew1) | exact HB.out)) hb); clear HB; have HB := n0_; clear n0_; (try clear hb); (try clear hb2); (try clear hk); (try clear hi)))
  go_ret
  exact ⟨by first | rfl | (simp [errW_none, errW_some] <;> rfl) | (simp [*, errW_none, errW_some] <;> rfl), by repeat (first | (with_reducible first | exact HB.out | apply below_alloc | apply pw_below_drewN | apply below_drew1) | exact HB.out)⟩
end Go.Proofs.Ytcpneggifmldoaa.T
namespace Go.Proofs.Ytcpneggifmldoaa.T
open Go.RowKit Go.Proofs.YtcpneggifmldoaaW.PrintWords Go.Proofs.YtcpneggifmldoaaW.PrintLast Go.Proofs.YtcpneggifmldoaaW.PrintMore
attribute [local go_sem] max2_int min2_int max_two min_two max_three min_three max_four min_four   -- for this text's walks alone
set_option linter.unusedVariables false
set_option linter.unusedSimpArgs false
def ipv4_get.l0 : Nat → ByteArray → Int → Int → Int → Option (Int)
  | 0, _, _, _, _ => none
  | k + 1, x0, x2, x5, x6 => if x6 < x5 then (if 0 ≤ x6 then (if x6 < (x0.size : Int) then (ipv4_get.l0 k x0 (Go.bits .or .u32 ((x2 * 256) % 4294967296) ((bt x0 x6) % 4294967296)) x5 (wrap64 (x6 + 1))) else (none)) else (none)) else (some x2)
def ipv4_get.f (k : Nat) (a0 : ByteArray) : Option (Int) := ipv4_get.l0 k a0 0 (a0.size : Int) 0
mutual
def ipv4_Sum.l0 : Nat → ByteArray → Int → Int → Int → Option (Int)
  | 0, _, _, _, _ => none
  | k + 1, x0, x3, x6, x7 => if x7 < x6 then (if 0 ≤ x7 then (if x7 < (x0.size : Int) then (if 0 ≤ (wrap64 (8 * (wrap64 (1 - (Int.tmod x7 2))))) then (ipv4_Sum.l0 k x0 (wrap64 (x3 + (shl .i64 (wrap64 (bt x0 x7)) (wrap64 (8 * (wrap64 (1 - (Int.tmod x7 2)))))))) x6 (wrap64 (x7 + 1))) else (none)) else (none)) else (none)) else (ipv4_Sum.l1 k x3)
def ipv4_Sum.l1 : Nat → Int → Option (Int)
  | 0, _ => none
  | k + 1, x3 => if x3 > 65535 then (ipv4_Sum.l1 k (wrap64 ((Go.bits .and .i64 x3 65535) + (x3 / 65536)))) else (some (wrap64 (65535 - x3)))
end
def ipv4_Sum.f (k : Nat) (a0 : ByteArray) : Option (Int) := ipv4_Sum.l0 k a0 0 (a0.size : Int) 0
end Go.Proofs.Ytcpneggifmldoaa.T
set_option linter.unusedVariables false
set_option linter.unusedSimpArgs false
namespace Go.Proofs.Ytcpneggifmldoaa.T
open Go.RowKit Go.Proofs.YtcpneggifmldoaaW.PrintWords Go.Proofs.YtcpneggifmldoaaW.PrintLast Go.Proofs.YtcpneggifmldoaaW.PrintMore Go
theorem wraps_u32 (n : Int) (h₀ : 0 ≤ n) (h₁ : n < 2 ^ 32) : IntKind.u32.wrap n = n := by
  rw [IntKind.wrap_u32]
  have : (2 : Int) ^ 32 = 4294967296 := rfl
  omega
theorem wraps_i64 (n : Int) (h₀ : 0 ≤ n) (h₁ : n < 2 ^ 63) : IntKind.i64.wrap n = n := by
  rw [IntKind.wrap_i64]
  have : (2 : Int) ^ 63 = 9223372036854775808 := rfl
  omega
theorem or_byte {v b : Int} (v0 : 0 ≤ v) (v1 : v < 16777216) (b0 : 0 ≤ b) (b1 : b ≤ 255) : Go.bits .or .u32 ((v * 256) % 4294967296) (b % 4294967296) = v * 256 + b := by
  rw [show (v * 256) % 4294967296 = v * 256 by omega, show b % 4294967296 = b by omega]
  have e8 : (2 : Int) ^ 8 = 256 := rfl
  have e32 : (2 : Int) ^ 32 = 4294967296 := rfl
  exact bits_join .u32 32 (by decide) wraps_u32 8 (v * 256) b (by omega) (by omega) (by omega) b0 (by omega) (by omega)
theorem get_l0 (x : ByteArray) (hx : x.size ≤ 4) : ∀ (d i : Nat) (v : Int) (k : Nat), i + d = x.size → d ≤ 4 → 0 ≤ v → v * 256 ^ d < 4294967296 → ipv4_get.l0 (k + d + 1) x v (x.size : Int) (i : Int) = some (foldV x i d v)
  | 0, i, v, k, hi, _, _, _ => by
    simp only [ipv4_get.l0, foldV]
    rw [if_neg (by omega)]
  | d + 1, i, v, k, hi, hd, v0, v1 => by
    have hb := bt_range x (i : Int)
    have hp : (256 : Int) ≤ 256 ^ (d + 1) := by
      have : d = 0 ∨ d = 1 ∨ d = 2 ∨ d = 3 := by omega
      rcases this with rfl | rfl | rfl | rfl <;> decide
    have hv : v * 256 ≤ v * 256 ^ (d + 1) := Int.mul_le_mul_of_nonneg_left hp v0
    have hv2 : v < 16777216 := by omega
    have ih := get_l0 x hx d (i + 1) (v * 256 + bt x i) k (by omega) (by omega) (by omega) (by
      have : d = 0 ∨ d = 1 ∨ d = 2 ∨ d = 3 := by omega
      rcases this with rfl | rfl | rfl | rfl <;> simp at v1 ⊢ <;> omega)
    rw [show k + (d + 1) + 1 = (k + d + 1) + 1 by omega]
    rw [ipv4_get.l0, if_pos (by omega), if_pos (by omega), if_pos (by omega), or_byte v0 hv2 hb.1 hb.2]
    rw [show wrap64 ((i : Int) + 1) = ((i + 1 : Nat) : Int) by unfold wrap64; omega]
    exact ih
theorem get_f (x : ByteArray) (h : x.size ≤ 4) : Ev (fun k => ipv4_get.f k x) (numV x) := by
  refine ⟨x.size + 1, fun k hk => ?_⟩
  obtain ⟨k, rfl⟩ : ∃ m, k = m + x.size + 1 := ⟨k - x.size - 1, by omega⟩
  exact get_l0 x h x.size 0 0 k (by omega) h (by omega) (by simp)
theorem number_l0 (x : ByteArray) (hx : x.size ≤ 4) : ∀ (d i : Nat) (v : Int) (k : Nat), i + d = x.size → d ≤ 4 → 0 ≤ v → v * 256 ^ d < 4294967296 → vizardref01_Number.l0 (k + d + 1) x v (i : Int) = some (foldV x i d v)
  | 0, i, v, k, hi, _, _, _ => by
    simp only [vizardref01_Number.l0, foldV]
    rw [if_neg (by omega)]
  | d + 1, i, v, k, hi, hd, v0, v1 => by
    have hb := bt_range x (i : Int)
    have hp : (256 : Int) ≤ 256 ^ (d + 1) := by
      have : d = 0 ∨ d = 1 ∨ d = 2 ∨ d = 3 := by omega
      rcases this with rfl | rfl | rfl | rfl <;> decide
    have hv : v * 256 ≤ v * 256 ^ (d + 1) := Int.mul_le_mul_of_nonneg_left hp v0
    have hv2 : v < 16777216 := by omega
    have ih := number_l0 x hx d (i + 1) (v * 256 + bt x i) k (by omega) (by omega) (by omega) (by
      have : d = 0 ∨ d = 1 ∨ d = 2 ∨ d = 3 := by omega
      rcases this with rfl | rfl | rfl | rfl <;> simp at v1 ⊢ <;> omega)
    rw [show k + (d + 1) + 1 = (k + d + 1) + 1 by omega]
    rw [vizardref01_Number.l0, if_pos (by omega), if_pos (by omega)]
    rw [show wrap64 ((i : Int) + 1) = ((i + 1 : Nat) : Int) by unfold wrap64; omega, show wrap64 (wrap64 (v * 256) + wrap64 (bt x i)) = v * 256 + bt x i by unfold wrap64; omega]
    exact ih
theorem number_f (x : ByteArray) (h : x.size ≤ 4) : Ev (fun k => vizardref01_Number.f k x) (numV x) := by
  refine ⟨x.size + 1, fun k hk => ?_⟩
  obtain ⟨k, rfl⟩ : ∃ m, k = m + x.size + 1 := ⟨k - x.size - 1, by omega⟩
  exact number_l0 x h x.size 0 0 k (by omega) h (by omega) (by simp)
theorem and_word {n : Int} (h0 : 0 ≤ n) (h1 : n < 4294967296) : Go.bits .and .i64 n 65535 = n % 65536 := by
  have := bits_mask .i64 63 (by decide) wraps_i64 16 (by decide) n h0 (by have : (2 : Int) ^ 63 = 9223372036854775808 := rfl; omega)
  simpa using this
theorem sum_l1 {n : Int} (h0 : 0 ≤ n) (h1 : n ≤ 655350) (k : Nat) : ipv4_Sum.l1 (k + 3) n = some (65535 - fold1 (fold1 n)) := by
  have w : ∀ m : Int, 0 ≤ m → m ≤ 655350 → wrap64 (Go.bits .and .i64 m 65535 + m / 65536) = m % 65536 + m / 65536 := fun m a b => by
    rw [and_word a (by omega)]; unfold wrap64; omega
  have w2 : ∀ m : Int, 0 ≤ m → m ≤ 65535 → wrap64 (65535 - m) = 65535 - m := fun m a b => by unfold wrap64; omega
  by_cases c : n > 65535
  · rw [ipv4_Sum.l1, if_pos c, w n h0 h1]
    have e1 : fold1 n = n % 65536 + n / 65536 := by unfold fold1; rw [if_pos c]
    rw [e1]
    have r1 : 0 ≤ n % 65536 + n / 65536 := by omega
    have r2 : n % 65536 + n / 65536 ≤ 65545 := by omega
    generalize n % 65536 + n / 65536 = m at *
    by_cases c2 : m > 65535
    · rw [ipv4_Sum.l1, if_pos c2, w m r1 (by omega), ipv4_Sum.l1, if_neg (by omega), w2 _ (by omega) (by omega)]
      unfold fold1; rw [if_pos c2]
    · rw [ipv4_Sum.l1, if_neg c2, w2 m r1 (by omega)]
      unfold fold1; rw [if_neg c2]
  · have e1 : fold1 n = n := by unfold fold1; rw [if_neg c]
    rw [ipv4_Sum.l1, if_neg c, w2 n h0 (by omega), e1, e1]
theorem rsum_l1 {n : Int} (h0 : 0 ≤ n) (h1 : n ≤ 655350) (k : Nat) : vizardref02_Sum.l1 (k + 3) n = some (65535 - fold1 (fold1 n)) := by
  have w : ∀ m : Int, 0 ≤ m → m ≤ 655350 → wrap64 (Int.tmod m 65536 + wrap64 (Int.tdiv m 65536)) = m % 65536 + m / 65536 := fun m a b => by
    rw [Int.tmod_eq_emod_of_nonneg a, Int.tdiv_eq_ediv_of_nonneg a]; unfold wrap64; omega
  have w2 : ∀ m : Int, 0 ≤ m → m ≤ 65535 → wrap64 (65535 - m) = 65535 - m := fun m a b => by unfold wrap64; omega
  by_cases c : n > 65535
  · rw [vizardref02_Sum.l1, if_pos c, w n h0 h1]
    have e1 : fold1 n = n % 65536 + n / 65536 := by unfold fold1; rw [if_pos c]
    rw [e1]
    have r1 : 0 ≤ n % 65536 + n / 65536 := by omega
    have r2 : n % 65536 + n / 65536 ≤ 65545 := by omega
    generalize n % 65536 + n / 65536 = m at *
    by_cases c2 : m > 65535
    · rw [vizardref02_Sum.l1, if_pos c2, w m r1 (by omega), vizardref02_Sum.l1, if_neg (by omega), w2 _ (by omega) (by omega)]
      unfold fold1; rw [if_pos c2]
    · rw [vizardref02_Sum.l1, if_neg c2, w2 m r1 (by omega)]
      unfold fold1; rw [if_neg c2]
  · have e1 : fold1 n = n := by unfold fold1; rw [if_neg c]
    rw [vizardref02_Sum.l1, if_neg c, w2 n h0 (by omega), e1, e1]
theorem sum_even (x : ByteArray) (k i : Nat) (n : Int) (hi : 2 * i < x.size) (hs : x.size ≤ 1000) (h0 : 0 ≤ n) (h1 : n ≤ 1000000) : ipv4_Sum.l0 (k + 1) x n (x.size : Int) ((2 * i : Nat) : Int) = ipv4_Sum.l0 k x (n + bt x ((2 * i : Nat) : Int) * 256) (x.size : Int) ((2 * i + 1 : Nat) : Int) := by
  have hb := bt_range x ((2 * i : Nat) : Int)
  have e : wrap64 (8 * wrap64 (1 - Int.tmod ((2 * i : Nat) : Int) 2)) = 8 := by
    rw [Int.tmod_eq_emod_of_nonneg (by omega)]; unfold wrap64; omega
  have e2 : shl .i64 (wrap64 (bt x ((2 * i : Nat) : Int))) 8 = bt x ((2 * i : Nat) : Int) * 256 := by
    unfold shl
    rw [show min (8 : Int).toNat IntKind.i64.bits = 8 by decide, i64_w]
    unfold wrap64
    have : (2 : Int) ^ 8 = 256 := rfl
    omega
  rw [ipv4_Sum.l0, if_pos (by omega), if_pos (by omega), if_pos (by omega), e, if_pos (by omega), e2]
  rw [show wrap64 (((2 * i : Nat) : Int) + 1) = ((2 * i + 1 : Nat) : Int) by unfold wrap64; omega, show wrap64 (n + bt x ((2 * i : Nat) : Int) * 256) = n + bt x ((2 * i : Nat) : Int) * 256 by unfold wrap64; omega]
theorem sum_odd (x : ByteArray) (k i : Nat) (n : Int) (hi : 2 * i + 1 < x.size) (hs : x.size ≤ 1000) (h0 : 0 ≤ n) (h1 : n ≤ 1000000) : ipv4_Sum.l0 (k + 1) x n (x.size : Int) ((2 * i + 1 : Nat) : Int) = ipv4_Sum.l0 k x (n + bt x ((2 * i + 1 : Nat) : Int)) (x.size : Int) ((2 * (i + 1) : Nat) : Int) := by
  have hb := bt_range x ((2 * i + 1 : Nat) : Int)
  have e : wrap64 (8 * wrap64 (1 - Int.tmod ((2 * i + 1 : Nat) : Int) 2)) = 0 := by
    rw [Int.tmod_eq_emod_of_nonneg (by omega)]; unfold wrap64; omega
  have e2 : shl .i64 (wrap64 (bt x ((2 * i + 1 : Nat) : Int))) 0 = bt x ((2 * i + 1 : Nat) : Int) := by
    unfold shl
    rw [show min (0 : Int).toNat IntKind.i64.bits = 0 by decide, i64_w]
    unfold wrap64
    have : (2 : Int) ^ 0 = 1 := rfl
    omega
  rw [ipv4_Sum.l0, if_pos (by omega), if_pos (by omega), if_pos (by omega), e, if_pos (by omega), e2]
  rw [show wrap64 (((2 * i + 1 : Nat) : Int) + 1) = ((2 * (i + 1) : Nat) : Int) by unfold wrap64; omega, show wrap64 (n + bt x ((2 * i + 1 : Nat) : Int)) = n + bt x ((2 * i + 1 : Nat) : Int) by unfold wrap64; omega]
theorem sum_l0 (x : ByteArray) (hs : x.size = 20) : ∀ (d i : Nat) (n : Int) (k : Nat), i + d = 10 → 0 ≤ n → n ≤ 65535 * i → ipv4_Sum.l0 (k + 2 * d + 4) x n (x.size : Int) ((2 * i : Nat) : Int) = some (65535 - fold1 (fold1 (n + wordsV x (2 * i) d)))
  | 0, i, n, k, hi, h0, h1 => by
    rw [show k + 2 * 0 + 4 = (k + 3) + 1 by omega, ipv4_Sum.l0, if_neg (by omega), sum_l1 h0 (by omega)]
    simp [wordsV]
  | d + 1, i, n, k, hi, h0, h1 => by
    have hb := bt_range x ((2 * i : Nat) : Int)
    have hb' := bt_range x ((2 * i + 1 : Nat) : Int)
    rw [show k + 2 * (d + 1) + 4 = (k + 2 * d + 4) + 1 + 1 by omega, sum_even x _ i n (by omega) (by omega) h0 (by omega), sum_odd x _ i _ (by omega) (by omega) (by omega) (by omega)]
    rw [sum_l0 x hs d (i + 1) _ k (by omega) (by omega) (by omega)]
    simp only [wordsV, n2]
    rw [show 2 * (i + 1) = 2 * i + 2 by omega]
    congr 4
    omega
theorem sum_f (x : ByteArray) (hs : x.size = 20) : Ev (fun k => ipv4_Sum.f k x) (sumV x) := by
  refine ⟨24, fun k hk => ?_⟩
  obtain ⟨k, rfl⟩ : ∃ m, k = m + 2 * 10 + 4 := ⟨k - 24, by omega⟩
  have := sum_l0 x hs 10 0 0 k rfl (by omega) (by omega)
  rw [Int.zero_add, show ((2 * 0 : Nat) : Int) = 0 from rfl, show 2 * 0 = 0 from rfl] at this
  show ipv4_Sum.f (k + 2 * 10 + 4) x = some (sumV x)
  unfold ipv4_Sum.f sumV
  exact this
theorem rsum_end (x : ByteArray) (hs : x.size = 20) (i : Nat) (n : Int) (k : Nat) (hi : i = 10) (h0 : 0 ≤ n) (h1 : n ≤ 655350) : vizardref02_Sum.l0 (k + 8) x n ((2 * i : Nat) : Int) = some (65535 - fold1 (fold1 n)) := by
    rw [show k + 8 = (k + 4 + 3) + 1 by omega, vizardref02_Sum.l0, if_neg (by unfold wrap64; omega), rsum_l1 h0 (by omega)]
theorem rsum_word (x : ByteArray) (hs : x.size = 20) (i : Nat) (k : Nat) (hi : 2 * i + 2 ≤ 20) : vizardref01_Number.f (k + 8) (x.extract ((2 * i : Nat) : Int).toNat ((2 * i + 2 : Nat) : Int).toNat) = some (n2 x (2 * i)) := by
      rw [Int.toNat_natCast, Int.toNat_natCast, ← numV2 x (2 * i) (by omega)]
      have hz := size_extract' x (2 * i) (2 * i + 2) (by omega)
      have := number_l0 (x.extract (2 * i) (2 * i + 2)) (by omega) 2 0 0 (k + 5) (by omega) (by omega) (by omega) (by simp)
      unfold vizardref01_Number.f numV
      rw [hz, show 2 * i + 2 - 2 * i = 2 by omega, show k + 8 = k + 5 + 2 + 1 by omega]
      exact this
theorem rsum_round (x : ByteArray) (n : Int) (i : Int) (k : Nat) (a : wrap64 (i + 1) < (x.size : Int)) (b : 0 ≤ i) (c : i ≤ wrap64 (i + 2)) (d : wrap64 (i + 2) ≤ (x.size : Int)) : vizardref02_Sum.l0 (k + 1) x n i = (vizardref01_Number.f k (x.extract i.toNat (wrap64 (i + 2)).toNat)).bind fun t129 => (vizardref02_Sum.l0 k x (wrap64 (n + t129)) (wrap64 (i + 2))) := by
    rw [vizardref02_Sum.l0, if_pos a, if_pos b, if_pos c, if_pos d]
theorem rsum_next (x : ByteArray) (hs : x.size = 20) (i : Nat) (n : Int) (k : Nat) (hi : i < 10) (h0 : 0 ≤ n) (h1 : n ≤ 655350) : vizardref02_Sum.l0 (k + 8 + 1) x n ((2 * i : Nat) : Int) = vizardref02_Sum.l0 (k + 8) x (n + n2 x (2 * i)) ((2 * i + 2 : Nat) : Int) := by
    have hb := n2_range x (2 * i)
    have w1 : wrap64 (((2 * i : Nat) : Int) + 1) = ((2 * i + 1 : Nat) : Int) := by unfold wrap64; omega
    have w2 : wrap64 (((2 * i : Nat) : Int) + 2) = ((2 * i + 2 : Nat) : Int) := by unfold wrap64; omega
    have hr := rsum_word x hs i k (by omega)
    rw [rsum_round x n _ (k + 8) (by rw [w1]; omega) (by omega) (by rw [w2]; omega) (by rw [w2]; omega), w2, hr, Option.bind_some]
    rw [show wrap64 (n + n2 x (2 * i)) = n + n2 x (2 * i) by unfold wrap64; omega]
theorem rsum_l0 (x : ByteArray) (hs : x.size = 20) : ∀ (d i : Nat) (n : Int) (k : Nat), i + d = 10 → 0 ≤ n → n ≤ 65535 * i → vizardref02_Sum.l0 (k + d + 8) x n ((2 * i : Nat) : Int) = some (65535 - fold1 (fold1 (n + wordsV x (2 * i) d)))
  | 0, i, n, k, hi, h0, h1 => by
    have := rsum_end x hs i n k (by omega) h0 (by omega)
    rw [Nat.add_zero, this]
    simp [wordsV]
  | d + 1, i, n, k, hi, h0, h1 => by
    have hb := n2_range x (2 * i)
    rw [show k + (d + 1) + 8 = k + d + 8 + 1 by omega, rsum_next x hs i n (k + d) (by omega) h0 (by omega)]
    have := rsum_l0 x hs d (i + 1) (n + n2 x (2 * i)) k (by omega) (by omega) (by omega)
    rw [show 2 * (i + 1) = 2 * i + 2 by omega] at this
    rw [this]
    simp only [wordsV]
    congr 4
    omega
theorem rsum_f (x : ByteArray) (hs : x.size = 20) : Ev (fun k => vizardref02_Sum.f k x) (sumV x) := by
  refine ⟨19, fun k hk => ?_⟩
  obtain ⟨k, rfl⟩ : ∃ m, k = (m + 10 + 8) + 1 := ⟨k - 19, by omega⟩
  have := rsum_l0 x hs 10 0 0 k rfl (by omega) (by omega)
  rw [Int.zero_add, show ((2 * 0 : Nat) : Int) = 0 from rfl] at this
  show vizardref02_Sum.f (k + 10 + 8 + 1) x = _
  unfold vizardref02_Sum.f
  rw [if_neg (by omega), vizardref02_Sum.j0]
  exact this
theorem bytes0 (k : Nat) (n : Int) : vizardref01_Bytes.f (k + 1) n 0 = some ⟨#[]⟩ := by rw [vizardref01_Bytes.f, if_pos rfl]
theorem bytesS (k : Nat) (n : Int) (m : Nat) (h0 : 0 ≤ n) (h1 : n < 9223372036854775808) (hm : m < 8) (r : ByteArray) (hr : r.size ≤ 8) (h : vizardref01_Bytes.f k (n / 256) m = some r) : vizardref01_Bytes.f (k + 1) n ((m + 1 : Nat) : Int) = some (r ++ ⟨#[u8 n]⟩) := by
  have e : strOfNums [Int.tmod n 256 % 256] = ⟨#[u8 n]⟩ := by
    rw [Int.tmod_eq_emod_of_nonneg h0, Int.emod_emod]; rfl
  rw [vizardref01_Bytes.f, if_neg (by omega), Int.tdiv_eq_ediv_of_nonneg h0, show wrap64 (n / 256) = n / 256 by unfold wrap64; omega, show wrap64 (((m + 1 : Nat) : Int) - 1) = (m : Int) by unfold wrap64; omega, h]
  simp only [Option.bind_some]
  rw [e, if_pos (by have : (⟨#[u8 n]⟩ : ByteArray).size = 1 := rfl; omega)]
theorem b_f {k : Nat} {n m : Int} {r : ByteArray} (h : vizardref01_Bytes.f k n m = some r) : vizardref02_b.f k n m = some r := by
  unfold vizardref02_b.f
  rw [h]
  rfl
theorem b1_f (k : Nat) (n : Int) (h0 : 0 ≤ n) (h1 : n < 9223372036854775808) : vizardref02_b.f (k + 2) n 1 = some ⟨#[u8 n]⟩ := b_f (bytesS (k + 1) n 0 h0 h1 (by omega) ⟨#[]⟩ (by decide) (bytes0 k _))
theorem b2_f (k : Nat) (n : Int) (h0 : 0 ≤ n) (h1 : n < 9223372036854775808) : vizardref02_b.f (k + 3) n 2 = some ⟨#[u8 (n / 256), u8 n]⟩ :=
  b_f (bytesS (k + 2) n 1 h0 h1 (by omega) ⟨#[u8 (n / 256)]⟩ (by show (1 : Nat) ≤ 8; omega) (bytesS (k + 1) (n / 256) 0 (by omega) (by omega) (by omega) ⟨#[]⟩ (by decide) (bytes0 k _)))
theorem b4_f (k : Nat) (n : Int) (h0 : 0 ≤ n) (h1 : n < 9223372036854775808) : vizardref02_b.f (k + 5) n 4 = some ⟨#[u8 (n / 16777216), u8 (n / 65536), u8 (n / 256), u8 n]⟩ := by
  have e2 : n / 256 / 256 = n / 65536 := by omega
  have e3 : n / 256 / 256 / 256 = n / 16777216 := by omega
  refine b_f ?_
  rw [← e2, ← e3]
  exact bytesS (k + 4) n 3 h0 h1 (by omega) ⟨#[u8 (n / 256 / 256 / 256), u8 (n / 256 / 256), u8 (n / 256)]⟩ (by show (3 : Nat) ≤ 8; omega)
    (bytesS (k + 3) (n / 256) 2 (by omega) (by omega) (by omega) ⟨#[u8 (n / 256 / 256 / 256), u8 (n / 256 / 256)]⟩ (by show (2 : Nat) ≤ 8; omega)
      (bytesS (k + 2) (n / 256 / 256) 1 (by omega) (by omega) (by omega) ⟨#[u8 (n / 256 / 256 / 256)]⟩ (by show (1 : Nat) ≤ 8; omega)
        (bytesS (k + 1) (n / 256 / 256 / 256) 0 (by omega) (by omega) (by omega) ⟨#[]⟩ (by decide) (bytes0 k _))))
end Go.Proofs.Ytcpneggifmldoaa.T
set_option linter.unusedVariables false
set_option linter.unusedSimpArgs false
namespace Go.Proofs.Ytcpneggifmldoaa.T
open Go.RowKit Go.Proofs.YtcpneggifmldoaaW.PrintWords Go.Proofs.YtcpneggifmldoaaW.PrintLast Go.Proofs.YtcpneggifmldoaaW.PrintMore Go
set_option maxHeartbeats 8000000 in
set_option maxRecDepth 100000 in
theorem ipv4_get.same (k : Nat) (a0 : ByteArray) (r : Int) (w : World) (h : ipv4_get.f k a0 = some r) :
    Calls Try.prog 58 #[.string a0] w fun e w' => e = .returned (.int .u32 r) ∧ w = w' := by
  have H : (ipv4_get.l0 k a0 0 (a0.size : Int) 0) = some r := h
  clear h
  have H' := Aside0.mk H
  clear H
  go_enter Try.func58, Try.ntmps58
  go_wp2
  go_loopg [2, 6] k (fun kq v2 v6 w' => ∃ (x2_1 : Int) (x6_1 : Int), v2 = .int .u32 x2_1 ∧ v6 = .int .i64 x6_1 ∧ Aside0 (ipv4_get.l0 kq a0 x2_1 (a0.size : Int) x6_1 = some r) ∧ Aside0 (kq ≤ k) ∧ w = w')
  case atStart => exact ⟨(0), (0), (by first | rfl | (simp; done) | (simp [*]; done)), (by first | rfl | (simp; done) | (simp [*]; done)), H', ⟨Nat.le_refl _⟩, rfl⟩
  case round =>
    clear H'
    obtain ⟨x2_1, x6_1, rfl, rfl, HA, HK1, rfl⟩ := hrel
    cases gk with
    | zero => exact absurd HA.out (by simp [ipv4_get.l0])
    | succ k1 =>
      have H := HA.out
      clear HA
      simp only [ipv4_get.l0] at H
      by_cases c2 : x6_1 < (a0.size : Int)
      · rw [if_pos c2] at H
        have c2b0 : decide (x6_1 < (a0.size : Int)) = true := decide_eq_true c2
        clear c2
        by_cases c3 : 0 ≤ x6_1
        · rw [if_pos c3] at H
          have c3b0 : decide (0 ≤ x6_1) = true := decide_eq_true c3
          clear c3
          by_cases c4 : x6_1 < (a0.size : Int)
          · rw [if_pos c4] at H
            have c4b0 : decide (x6_1 < (a0.size : Int)) = true := decide_eq_true c4
            clear c4
            have H' := Aside0.mk H
            clear H
            have p5 : 0 ≤ (x6_1 : Int) := of_decide_eq_true (by first | (with_reducible assumption) | assumption)
            have q5 : x6_1 < (a0.size : Int) := of_decide_eq_true (by first | (with_reducible assumption) | assumption)
            have hx5 := bt_at a0 x6_1
            replace p5 := eq_true p5
            replace q5 := eq_true q5
            go_wp2
            go_roundg k1
            case measure => have := HK1.out; omega
            case rel => exact ⟨(Go.bits .or .u32 ((x2_1 * 256) % 4294967296) ((bt a0 x6_1) % 4294967296)), (wrap64 (x6_1 + 1)), (by first | rfl | (simp; done) | (simp [*]; done)), (by first | rfl | (simp; done) | (simp [*]; done)), H', ⟨by have := HK1.out; omega⟩, rfl⟩
          · rw [if_neg c4] at H
            exact absurd H (by simp)
        · rw [if_neg c3] at H
          exact absurd H (by simp)
      · rw [if_neg c2] at H
        have c2b0 : decide (x6_1 < (a0.size : Int)) = false := decide_eq_false c2
        clear c2
        obtain rfl := Option.some.inj H
        go_wp2
        go_ret
        exact ⟨by first | rfl | (simp; done) | (simp [*]; done), rfl⟩
set_option maxHeartbeats 8000000 in
set_option maxRecDepth 100000 in
theorem ipv4_Sum.same (k : Nat) (a0 : ByteArray) (r : Int) (w : World) (h : ipv4_Sum.f k a0 = some r) :
    Calls Try.prog 59 #[.string a0] w fun e w' => e = .returned (.int .i64 r) ∧ w = w' := by
  have H : (ipv4_Sum.l0 k a0 0 (a0.size : Int) 0) = some r := h
  clear h
  have H' := Aside0.mk H
  clear H
  go_enter Try.func59, Try.ntmps59
  go_wp2
  go_loopg [3, 7] k (fun kq v3 v7 w' => ∃ (x3_1 : Int) (x7_1 : Int), v3 = .int .i64 x3_1 ∧ v7 = .int .i64 x7_1 ∧ Aside0 (ipv4_Sum.l0 kq a0 x3_1 (a0.size : Int) x7_1 = some r) ∧ Aside0 (kq ≤ k) ∧ w = w')
  case atStart => exact ⟨(0), (0), (by first | rfl | (simp; done) | (simp [*]; done)), (by first | rfl | (simp; done) | (simp [*]; done)), H', ⟨Nat.le_refl _⟩, rfl⟩
  case round =>
    clear H'
    obtain ⟨x3_1, x7_1, rfl, rfl, HA, HK1, rfl⟩ := hrel
    cases gk with
    | zero => exact absurd HA.out (by simp [ipv4_Sum.l0])
    | succ k1 =>
      have H := HA.out
      clear HA
      simp only [ipv4_Sum.l0] at H
      by_cases c2 : x7_1 < (a0.size : Int)
      · rw [if_pos c2] at H
        have c2b0 : decide (x7_1 < (a0.size : Int)) = true := decide_eq_true c2
        clear c2
        by_cases c3 : 0 ≤ x7_1
        · rw [if_pos c3] at H
          have c3b0 : decide (0 ≤ x7_1) = true := decide_eq_true c3
          clear c3
          by_cases c4 : x7_1 < (a0.size : Int)
          · rw [if_pos c4] at H
            have c4b0 : decide (x7_1 < (a0.size : Int)) = true := decide_eq_true c4
            clear c4
            obtain ⟨ji6, hji6⟩ : ∃ j_ : Int, (wrap64 (8 * (wrap64 (1 - (Int.tmod x7_1 2))))) = j_ := ⟨_, rfl⟩
            replace H : (if 0 ≤ (ji6) then (ipv4_Sum.l0 k1 a0 (wrap64 (x3_1 + (shl .i64 (wrap64 (bt a0 x7_1)) (ji6)))) (a0.size : Int) (wrap64 (x7_1 + 1))) else (none)) = some r := by first | (rw [hji6] at H; exact H) | (simp only [hji6] at H ⊢; exact H)
            have hji6w : (IntKind.i64.wrap (8 * (wrap64 (1 - (Int.tmod x7_1 2))))) = ji6 := (i64_w _).trans hji6
            by_cases c7 : 0 ≤ (ji6)
            · rw [if_pos c7] at H
              have c7b0 := eq_true c7
              have c7b1 : decide (0 ≤ (ji6)) = true := decide_eq_true c7
              clear c7
              obtain ⟨ji8, hji8⟩ : ∃ j_ : Int, (shl .i64 (wrap64 (bt a0 x7_1)) (ji6)) = j_ := ⟨_, rfl⟩
              replace H : (ipv4_Sum.l0 k1 a0 (wrap64 (x3_1 + (ji8))) (a0.size : Int) (wrap64 (x7_1 + 1))) = some r := by first | (rw [hji8] at H; exact H) | (simp only [hji8] at H ⊢; exact H)
              have hji8_ : (IntKind.i64.wrap ((wrap64 (bt a0 x7_1)) * 2 ^ min (ji6).toNat 64)) = ji8 := hji8
              have hji8z : (ji6) ≤ 64 → (IntKind.i64.wrap ((wrap64 (bt a0 x7_1)) * 2 ^ (ji6).toNat)) = ji8 := shl_small hji8
              have hji8y : (wrap64 ((wrap64 (bt a0 x7_1)) * 2 ^ min (ji6).toNat 64)) = ji8 := (i64_w _).symm.trans hji8_
              have hji8x : (ji6) ≤ 64 → (wrap64 ((wrap64 (bt a0 x7_1)) * 2 ^ (ji6).toNat)) = ji8 := fun h_ => (i64_w _).symm.trans (hji8z h_)
              have H' := Aside0.mk H
              clear H
              have p5 : 0 ≤ (x7_1 : Int) := of_decide_eq_true (by first | (with_reducible assumption) | assumption)
              have q5 : x7_1 < (a0.size : Int) := of_decide_eq_true (by first | (with_reducible assumption) | assumption)
              have hx5 := bt_at a0 x7_1
              replace p5 := eq_true p5
              replace q5 := eq_true q5
              go_wp2
              go_roundg k1
              case measure => have := HK1.out; omega
              case rel => exact ⟨(wrap64 (x3_1 + (ji8))), (wrap64 (x7_1 + 1)), (by first | rfl | (simp; done) | (simp only [← hji8] <;> (first | rfl | simp)) | (simp [*]; done)), (by first | rfl | (simp; done) | (simp [*]; done)), H', ⟨by have := HK1.out; omega⟩, rfl⟩
            · rw [if_neg c7] at H
              exact absurd H (by simp)
          · rw [if_neg c4] at H
            exact absurd H (by simp)
        · rw [if_neg c3] at H
          exact absurd H (by simp)
      · rw [if_neg c2] at H
        have c2b0 : decide (x7_1 < (a0.size : Int)) = false := decide_eq_false c2
        clear c2
        have H' := Aside0.mk H
        clear H
        go_wp2
        go_loopg [3] k1 (fun kq v3 w' => ∃ (x3_2 : Int), v3 = .int .i64 x3_2 ∧ Aside0 (ipv4_Sum.l1 kq x3_2 = some r) ∧ Aside0 (kq ≤ k1) ∧ w = w')
        case atStart => exact ⟨(x3_1), (by first | rfl | (simp; done) | (simp [*]; done)), H', ⟨Nat.le_refl _⟩, rfl⟩
        case round =>
          clear H'
          try clear c2
          try clear c2b0
          try clear p2
          try clear c3
          try clear c3b0
          try clear c4
          try clear c4b0
          try clear c5
          try clear p5
          try clear q5
          try clear hx5
          try clear p6
          try clear c7
          try clear c7b0
          try clear c7b1
          try clear p5
          try clear q5
          obtain ⟨x3_2, rfl, HA, HK2, rfl⟩ := hrel
          cases gk with
          | zero => exact absurd HA.out (by simp [ipv4_Sum.l1])
          | succ k2 =>
            have H := HA.out
            clear HA
            simp only [ipv4_Sum.l1] at H
            by_cases c9 : x3_2 > 65535
            · rw [if_pos c9] at H
              have c9b0 : decide (65535 < x3_2) = true := decide_eq_true c9
              clear c9
              have H' := Aside0.mk H
              clear H
              go_wp2
              go_roundg k2
              case measure => have := HK1.out; have := HK2.out; omega
              case rel => exact ⟨(wrap64 ((Go.bits .and .i64 x3_2 65535) + (x3_2 / 65536))), (by first | rfl | (simp; done) | (simp [*]; done)), H', ⟨by have := HK1.out; have := HK2.out; omega⟩, rfl⟩
            · rw [if_neg c9] at H
              have c9b0 : decide (65535 < x3_2) = false := decide_eq_false c9
              clear c9
              obtain rfl := Option.some.inj H
              go_wp2
              go_ret
              exact ⟨by first | rfl | (simp; done) | (simp [*]; done), rfl⟩
set_option maxHeartbeats 8000000 in
set_option maxRecDepth 100000 in
theorem vizardref01_Number.same (k : Nat) (a0 : ByteArray) (r : Int) (w : World) (h : vizardref01_Number.f k a0 = some r) :
    Calls Try.prog 41 #[.string a0] w fun e w' => e = .returned (.int .i64 r) ∧ w = w' := by
  have H : (vizardref01_Number.l0 k a0 0 0) = some r := h
  clear h
  have H' := Aside0.mk H
  clear H
  go_enter Try.func41, Try.ntmps41
  go_wp2
  go_loopg [3, 4] k (fun kq v3 v4 w' => ∃ (x3_1 : Int) (x4_1 : Int), v3 = .int .i64 x3_1 ∧ v4 = .int .i64 x4_1 ∧ Aside0 (vizardref01_Number.l0 kq a0 x3_1 x4_1 = some r) ∧ Aside0 (kq ≤ k) ∧ w = w')
  case atStart => exact ⟨(0), (0), (by first | rfl | (simp; done) | (simp [*]; done)), (by first | rfl | (simp; done) | (simp [*]; done)), H', ⟨Nat.le_refl _⟩, rfl⟩
  case round =>
    clear H'
    obtain ⟨x3_1, x4_1, rfl, rfl, HA, HK1, rfl⟩ := hrel
    cases gk with
    | zero => exact absurd HA.out (by simp [vizardref01_Number.l0])
    | succ k1 =>
      have H := HA.out
      clear HA
      simp only [vizardref01_Number.l0] at H
      by_cases c2 : x4_1 < (a0.size : Int)
      · rw [if_pos c2] at H
        have c2b0 : decide (x4_1 < (a0.size : Int)) = true := decide_eq_true c2
        clear c2
        by_cases c3 : 0 ≤ x4_1
        · rw [if_pos c3] at H
          have c3b0 : decide (0 ≤ x4_1) = true := decide_eq_true c3
          clear c3
          have H' := Aside0.mk H
          clear H
          have p4 : 0 ≤ (x4_1 : Int) := of_decide_eq_true (by first | (with_reducible assumption) | assumption)
          have q4 : x4_1 < (a0.size : Int) := of_decide_eq_true (by first | (with_reducible assumption) | assumption)
          have hx4 := bt_at a0 x4_1
          replace p4 := eq_true p4
          replace q4 := eq_true q4
          go_wp2
          go_roundg k1
          case measure => have := HK1.out; omega
          case rel => exact ⟨(wrap64 ((wrap64 (x3_1 * 256)) + (wrap64 (bt a0 x4_1)))), (wrap64 (x4_1 + 1)), (by first | rfl | (simp; done) | (simp [*]; done)), (by first | rfl | (simp; done) | (simp [*]; done)), H', ⟨by have := HK1.out; omega⟩, rfl⟩
        · rw [if_neg c3] at H
          exact absurd H (by simp)
      · rw [if_neg c2] at H
        have c2b0 : decide (x4_1 < (a0.size : Int)) = false := decide_eq_false c2
        clear c2
        obtain rfl := Option.some.inj H
        go_wp2
        go_ret
        exact ⟨by first | rfl | (simp; done) | (simp [*]; done), rfl⟩
set_option maxHeartbeats 8000000 in
set_option maxRecDepth 100000 in
theorem vizardref02_Sum.same (k : Nat) (a0 : ByteArray) (r : Int) (w : World) (h : vizardref02_Sum.f k a0 = some r) :
    Calls Try.prog 65 #[.string a0] w fun e w' => e = .returned (.int .i64 r) ∧ w = w' := by
  have H : (if ((a0.size : Int) % 2) = 1 then (if a0.size + 1 ≤ 9223372036854775807 then (vizardref02_Sum.j0 k (a0 ++ (⟨#[0]⟩ : ByteArray))) else (none)) else (vizardref02_Sum.j0 k a0)) = some r := h
  clear h
  have HC2 := Aside0.mk H
  clear H
  go_enter Try.func65, Try.ntmps65
  go_upto_if 8 with (fail)
  go_cut [0] (fun v0 wc => ∃ (kq : Nat) (x0_1 : ByteArray), v0 = .string x0_1 ∧ Aside0 (vizardref02_Sum.j0 kq x0_1 = some r) ∧ Aside0 (kq ≤ k) ∧ w = wc)
  case first =>
    have H := HC2.out
    clear HC2
    by_cases c3 : ((a0.size : Int) % 2) = 1
    · rw [if_pos c3] at H
      have c3b0 : (((a0.size : Int) % 2) == 1) = true := beq_iff_eq.mpr c3
      have c3b1 : (((a0.size : Int) % 2) != 1) = false := bne_eq_false_iff_eq.mpr c3
      clear c3
      (first | rw [c3b0] | (simp only [i64_w, i32_w]; rw [c3b0]) | skip)
      by_cases c4 : a0.size + 1 ≤ 9223372036854775807
      · rw [if_pos c4] at H
        have c4b0 := eq_true c4
        have c4b1 : decide (a0.size + 1 ≤ 9223372036854775807) = true := decide_eq_true c4
        try have c4b2 : (9223372036854775807 < a0.size + 1) = False := eq_false (Nat.not_lt.2 c4)
        have H' := Aside0.mk H
        clear H
        go_wp2
        go_meet
        case rel => exact ⟨_, (a0 ++ (⟨#[0]⟩ : ByteArray)), (by first | rfl | (simp; done) | (simp [*]; done)), H', ⟨by first | omega | exact Nat.le_refl _⟩, rfl⟩
      · rw [if_neg c4] at H
        exact absurd H (by simp)
    · rw [if_neg c3] at H
      have c3b0 : (((a0.size : Int) % 2) == 1) = false := beq_eq_false_iff_ne.mpr c3
      have c3b1 : (((a0.size : Int) % 2) != 1) = true := bne_iff_ne.mpr c3
      (first | rw [c3b0] | (simp only [i64_w, i32_w]; rw [c3b0]) | skip)
      have H' := Aside0.mk H
      clear H
      go_wp2
      go_meet
      case rel => exact ⟨_, (a0), (by first | rfl | (simp; done) | (simp [*]; done)), H', ⟨by first | omega | exact Nat.le_refl _⟩, rfl⟩
  case rest =>
    clear HC2
    try clear p2
    try clear c3
    try clear c3b0
    try clear c3b1
    try clear c4
    try clear c4b0
    try clear c4b1
    try clear c4b2
    obtain ⟨kq, x0_1, rfl, HA, HJ1, rfl⟩ := hcut
    cases kq with
    | zero => exact absurd HA.out (by simp [vizardref02_Sum.j0])
    | succ kj1 =>
      have H := HA.out
      clear HA
      simp only [vizardref02_Sum.j0] at H
      have H' := Aside0.mk H
      clear H
      go_wp2
      go_loopg [3, 4] kj1 (fun kq v3 v4 w' => ∃ (x3_2 : Int) (x4_2 : Int), v3 = .int .i64 x3_2 ∧ v4 = .int .i64 x4_2 ∧ Aside0 (vizardref02_Sum.l0 kq x0_1 x3_2 x4_2 = some r) ∧ Aside0 (kq ≤ kj1) ∧ w = w')
      case atStart => exact ⟨(0), (0), (by first | rfl | (simp; done) | (simp [*]; done)), (by first | rfl | (simp; done) | (simp [*]; done)), H', ⟨Nat.le_refl _⟩, rfl⟩
      case round =>
        clear H'
        try clear c1
        try clear p2
        try clear c3
        try clear c3b0
        try clear c3b1
        try clear c4
        try clear c4b0
        try clear c4b1
        try clear c4b2
        try clear p2
        obtain ⟨x3_2, x4_2, rfl, rfl, HA, HK2, rfl⟩ := hrel
        cases gk with
        | zero => exact absurd HA.out (by simp [vizardref02_Sum.l0])
        | succ k2 =>
          have H := HA.out
          clear HA
          simp only [vizardref02_Sum.l0] at H
          by_cases c5 : (wrap64 (x4_2 + 1)) < (x0_1.size : Int)
          · rw [if_pos c5] at H
            have c5b0 : decide ((wrap64 (x4_2 + 1)) < (x0_1.size : Int)) = true := decide_eq_true c5
            clear c5
            by_cases c6 : 0 ≤ x4_2
            · rw [if_pos c6] at H
              have c6b0 := eq_true c6
              have c6b1 : decide (0 ≤ x4_2) = true := decide_eq_true c6
              clear c6
              by_cases c7 : x4_2 ≤ (wrap64 (x4_2 + 2))
              · rw [if_pos c7] at H
                have c7b0 := eq_true c7
                have c7b1 : decide (x4_2 ≤ (wrap64 (x4_2 + 2))) = true := decide_eq_true c7
                by_cases c8 : (wrap64 (x4_2 + 2)) ≤ (x0_1.size : Int)
                · rw [if_pos c8] at H
                  have c8b0 := eq_true c8
                  have c8b1 : decide ((wrap64 (x4_2 + 2)) ≤ (x0_1.size : Int)) = true := decide_eq_true c8
                  replace H := Option.bind_eq_some_iff.mp H
                  obtain ⟨t129, A90, H⟩ := H
                  replace H : (vizardref02_Sum.l0 k2 x0_1 (wrap64 (x3_2 + t129)) (wrap64 (x4_2 + 2))) = some r := H
                  have A9 := Aside0.mk A90
                  clear A90
                  have H' := Aside0.mk H
                  clear H
                  go_wp2_with (first | ((with_reducible refine gate_callee (f := 41) rfl ?_); refine goesL_ (some 24) rfl rfl Try.func41 (by kernel_rfl) rfl #[.string (x0_1.extract (x4_2 : Int).toNat ((wrap64 (x4_2 + 2)) : Int).toNat)] rfl (by (try simp only [List.map_toArray, List.map_cons, List.map_nil]); first | done | rfl | (simp only [List.length_drop, List.length_take]; rfl)) ?_; (with_reducible refine (vizardref01_Number.same k2 (x0_1.extract (x4_2 : Int).toNat ((wrap64 (x4_2 + 2)) : Int).toNat) t129 _ A9.out).mono ?_); rintro e w' ⟨rfl, rfl⟩; refine ⟨_, rfl, ?_⟩))
                  go_roundg k2
                  case measure => have := HJ1.out; have := HK2.out; omega
                  case rel => exact ⟨(wrap64 (x3_2 + t129)), (wrap64 (x4_2 + 2)), (by first | rfl | (simp; done) | (simp [*]; done)), (by first | rfl | (simp; done) | (simp [*]; done)), H', ⟨by have := HJ1.out; have := HK2.out; omega⟩, rfl⟩
                · rw [if_neg c8] at H
                  exact absurd H (by simp)
              · rw [if_neg c7] at H
                exact absurd H (by simp)
            · rw [if_neg c6] at H
              exact absurd H (by simp)
          · rw [if_neg c5] at H
            have c5b0 : decide ((wrap64 (x4_2 + 1)) < (x0_1.size : Int)) = false := decide_eq_false c5
            clear c5
            have H' := Aside0.mk H
            clear H
            go_wp2
            go_loopg [3] k2 (fun kq v3 w' => ∃ (x3_3 : Int), v3 = .int .i64 x3_3 ∧ Aside0 (vizardref02_Sum.l1 kq x3_3 = some r) ∧ Aside0 (kq ≤ k2) ∧ w = w')
            case atStart => exact ⟨(x3_2), (by first | rfl | (simp; done) | (simp [*]; done)), H', ⟨Nat.le_refl _⟩, rfl⟩
            case round =>
              clear H'
              try clear c1
              try clear p2
              try clear c3
              try clear c3b0
              try clear c3b1
              try clear c4
              try clear c4b0
              try clear c4b1
              try clear c4b2
              try clear c5
              try clear c5b0
              try clear c6
              try clear c6b0
              try clear c6b1
              try clear p6
              try clear c7
              try clear c7b0
              try clear c7b1
              try clear c8
              try clear c8b0
              try clear c8b1
              try clear p2
              obtain ⟨x3_3, rfl, HA, HK3, rfl⟩ := hrel
              cases gk with
              | zero => exact absurd HA.out (by simp [vizardref02_Sum.l1])
              | succ k3 =>
                have H := HA.out
                clear HA
                simp only [vizardref02_Sum.l1] at H
                by_cases c10 : x3_3 > 65535
                · rw [if_pos c10] at H
                  have c10b0 : decide (65535 < x3_3) = true := decide_eq_true c10
                  clear c10
                  have H' := Aside0.mk H
                  clear H
                  go_wp2
                  go_roundg k3
                  case measure => have := HJ1.out; have := HK2.out; have := HK3.out; omega
                  case rel => exact ⟨(wrap64 ((Int.tmod x3_3 65536) + (wrap64 (Int.tdiv x3_3 65536)))), (by first | rfl | (simp; done) | (simp [*]; done)), H', ⟨by have := HJ1.out; have := HK2.out; have := HK3.out; omega⟩, rfl⟩
                · rw [if_neg c10] at H
                  have c10b0 : decide (65535 < x3_3) = false := decide_eq_false c10
                  clear c10
                  obtain rfl := Option.some.inj H
                  go_wp2
                  go_ret
                  exact ⟨by first | rfl | (simp; done) | (simp [*]; done), rfl⟩
theorem get_calls (x : ByteArray) (h : x.size ≤ 4) (w : World) : Calls Try.prog 58 #[.string x] w fun e w' => e = .returned (.int .u32 (numV x)) ∧ w = w' := by
  obtain ⟨k, hk⟩ := (get_f x h).rounds
  exact ipv4_get.same k x _ w hk
theorem sum_calls (x : ByteArray) (h : x.size = 20) (w : World) : Calls Try.prog 59 #[.string x] w fun e w' => e = .returned (.int .i64 (sumV x)) ∧ w = w' := by
  obtain ⟨k, hk⟩ := (sum_f x h).rounds
  exact ipv4_Sum.same k x _ w hk
theorem get_at (s : ByteArray) (a b : Nat) (hb : b ≤ s.size) (hab : b ≤ a + 4) (w : World) {v : Int} (hv : numV (s.extract a b) = v) : Calls Try.prog 58 #[.string (s.extract a b)] w fun e w' => e = .returned (.int .u32 v) ∧ w = w' := by
  rw [← hv]
  exact get_calls _ (by rw [size_extract' s a b hb]; omega) w
theorem number_calls (x : ByteArray) (h : x.size ≤ 4) (w : World) : Calls Try.prog 41 #[.string x] w fun e w' => e = .returned (.int .i64 (numV x)) ∧ w = w' := by
  obtain ⟨k, hk⟩ := (number_f x h).rounds
  exact vizardref01_Number.same k x _ w hk
theorem number_at (s : ByteArray) (a b : Nat) (hb : b ≤ s.size) (hab : b ≤ a + 4) (w : World) {v : Int} (hv : numV (s.extract a b) = v) : Calls Try.prog 41 #[.string (s.extract a b)] w fun e w' => e = .returned (.int .i64 v) ∧ w = w' := by
  rw [← hv]
  exact number_calls _ (by rw [size_extract' s a b hb]; omega) w
theorem rsum_calls (x : ByteArray) (h : x.size = 20) (w : World) : Calls Try.prog 65 #[.string x] w fun e w' => e = .returned (.int .i64 (sumV x)) ∧ w = w' := by
  obtain ⟨k, hk⟩ := (rsum_f x h).rounds
  exact vizardref02_Sum.same k x _ w hk
end Go.Proofs.Ytcpneggifmldoaa.T

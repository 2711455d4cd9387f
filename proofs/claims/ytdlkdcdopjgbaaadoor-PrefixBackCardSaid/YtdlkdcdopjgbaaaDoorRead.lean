/-
  strings.Cut at a slash and vizard/prefix.Read, walked.
-/
import Derived.Test.YtdlkdcdopjgbaaaDoorParse
import Derived.Test.YtdlkdcdopjgbaaaDoorPre
import Derived.Deep.QuietTactic
import Derived.BigQuiet
set_option linter.unusedVariables false
set_option linter.unusedSimpArgs false
set_option linter.unusedSectionVars false
namespace Go.Proofs.YtdlkdcdopjgbaaaDoor.X
open Go.RowKit Go.Shelf Go
/-- Cut at the first slash. -/
def cutS (s : List UInt8) : List UInt8 × List UInt8 × Bool := if Lib.indexByte s 47 = -1 then (s, [], false) else (s.take (Lib.indexByte s 47).toNat, s.drop ((Lib.indexByte s 47).toNat + 1), true)
theorem index_at : ∀ {l m : List UInt8}, (∀ c ∈ l, c ≠ 47) → Lib.indexByte (l ++ 47 :: m) 47 = l.length
  | [], m, _ => by simp [Lib.indexByte]
  | c :: r, m, h => by
    have hc := h c List.mem_cons_self
    have ih := index_at (l := r) (m := m) (fun x hx => h x (List.mem_cons_of_mem _ hx))
    simp only [List.cons_append, Lib.indexByte, beq_iff_eq, hc, if_false, ih, List.length_cons]
    rw [if_neg (by omega)]
    omega
theorem cut_at {l m : List UInt8} (h : ∀ c ∈ l, c ≠ 47) : cutS (l ++ 47 :: m) = (l, m, true) := by
  unfold cutS
  rw [index_at h, if_neg (by omega)]
  simp
theorem cut_nil : cutS [] = ([], [], false) := by decide +kernel
theorem atoi_nil : (match Lib.atoiAll [] with | .ok _ => true | _ => false) = false := by decide +kernel
set_option maxHeartbeats 2000000 in
theorem cut57 (s : List UInt8) (hs : s.length ≤ 281474976710656) (w : World) : Calls Tryd.prog 57 #[strOf s, .string ⟨#[47]⟩] w fun e w' => e = .returned (.tuple #[strOf (cutS s).1, strOf (cutS s).2.1, .bool (cutS s).2.2]) ∧ Below w.heap.size w w' := by
  have hge := Lib.indexByte_ge s 47
  by_cases hi : Lib.indexByte s 47 = -1
  · have hc : Hid (cutS s = (s, [], false)) := by unfold Hid cutS; rw [if_pos hi]
    unfold strOf
    go_enter Tryd.func57, Tryd.ntmps57
    go_wp2_with (go_at_call 77; refine (Tryd.stringslite_Index_one _ _ _).mono ?_; rintro e w' ⟨rfl, rfl⟩; simp only [hi])
    go_ret3
    exact ⟨by rw [hc.out]; rfl, Below.refl _ _⟩
  · obtain ⟨o, ho⟩ : ∃ o : Nat, Lib.indexByte s 47 = o := ⟨(Lib.indexByte s 47).toNat, by omega⟩
    obtain ⟨h1, -⟩ := Lib.indexByte_some ho
    obtain ⟨hol, -⟩ := List.getElem?_eq_some_iff.1 h1
    have hc : Hid (cutS s = (s.take o, s.drop (o + 1), true)) := by unfold Hid cutS; rw [if_neg hi, ho]; rfl
    clear hi hge h1
    unfold strOf
    go_enter Tryd.func57, Tryd.ntmps57
    go_wp2_with (go_at_call 77; refine (Tryd.stringslite_Index_one _ _ _).mono ?_; rintro e w' ⟨rfl, rfl⟩; simp only [ho])
    go_quiet (fail)
    go_wp2
    go_ret3
    exact ⟨by rw [hc.out, ← strOf_extract, ← strOf_extract2]; rfl, by first | exact Below.refl _ _ | exact drewN_below _ _⟩
set_option maxHeartbeats 1000000 in
theorem cut_calls (s : List UInt8) (hs : s.length ≤ 281474976710656) (w : World) : Calls Tryd.prog 34 #[strOf s, .string ⟨#[47]⟩] w fun e w' => e = .returned (.tuple #[strOf (cutS s).1, strOf (cutS s).2.1, .bool (cutS s).2.2]) ∧ Below w.heap.size w w' := by
  unfold strOf
  go_enter Tryd.func34, Tryd.ntmps34
  go_wp2_with (go_at_call 57; refine (cut57 s hs _).mono ?_; rintro e w' ⟨rfl, hb⟩)
  go_ret3
  exact ⟨rfl, hb⟩
theorem box2_next {A C : World} {b : Nat} {u v : Value} {t : TypeId} (hb : Below A.heap.size A C) (h : A.heap[b]? = some (.cells #[u, v] t (0, 0))) : C.heap[b]? = some (.cells #[u, v] t (0, 0)) ∧ C.cell? ⟨b, 0, none⟩ = some u ∧ C.cell? ⟨b, 1, none⟩ = some v ∧ C.frozen? ⟨b, 0, none⟩ = false ∧ C.frozen? ⟨b, 1, none⟩ = false := by
  have h' := (hb.block b (Array.getElem?_eq_some_iff.1 h).1).trans h
  exact ⟨h', by simp [World.cell?, h'], by simp [World.cell?, h'], Lib.frozen_of_heap h' 0, Lib.frozen_of_heap h' 1⟩
set_option maxRecDepth 100000 in
set_option maxHeartbeats 4000000 in
/-- Read, where all is right. -/
theorem read_good (s f b : List UInt8) (hs : s.length ≤ 281474976710656) (hf : f.length ≤ 281474976710656) (hb : b.length ≤ 281474976710656) (a n : Int) (hc : cutS s = (f, b, true)) (hp : parseS f = (a, true)) (ha : Lib.atoiAll b = .ok n) (hi : Lib.itoa n = b) (h0 : 0 ≤ a) (h1 : a < 4294967296) (hok : okP a n) (w : World) (hL : LaidD w) :
    Calls Tryd.prog 14 #[strOf s] w fun e w' => e = .returned (.tuple #[.agg #[.int .u32 a, .int .i64 n], .bool true]) ∧ Below w.heap.size w w' := by
  have hu24 := Tryd.underlying24
  have k1 := cut_calls s hs
  rw [hc] at k1
  have k2 := parse_calls f hf
  rw [hp] at k2
  have k3 := atoi_ok b hb n ha
  have hn : 0 ≤ n ∧ n ≤ 32 := ⟨hok.1, hok.2.1⟩
  have k4 := itoa_calls n (by omega) (by omega)
  rw [hi] at k4
  have k5 := prefix_Check.calls a n true
  clear hc hp ha hi
  unfold strOf at *
  obtain ⟨n0, hn0⟩ : ∃ n0, w.heap.size = n0 := ⟨_, rfl⟩
  have hLh : Hid (∀ X : World, Below n0 w X → LaidD X) := fun X hX => hL.below (by rw [hn0]; exact hX)
  have K1 : Hid _ := k1
  have K2 : Hid _ := k2
  have K3 : Hid _ := k3
  have K4 : Hid _ := k4
  have K5 : Hid _ := k5
  have hcheck : Hid (prefix_Check.f a n = some true) := by unfold Hid; rw [check_f h0 h1, decide_eq_true hok]
  clear k1 k2 k3 k4 k5 hL
  have Q0 : Hid ((w.alloc (.cells #[.int .u32 0, .int .i64 0] 24)).heap[n0]? = some (.cells #[.int .u32 0, .int .i64 0] 24 (0, 0))) := by unfold Hid; rw [← hn0]; exact World.alloc_heap_new w _
  go_enter Tryd.func14, Tryd.ntmps14
  go_wp2_with (first
    | (go_at_call 34; refine (K1.out _).mono ?_; rintro e w1 ⟨rfl, hb1⟩; have B1 : Below n0 w w1 := ((Below.refl n0 w).alloc (Nat.le_of_eq hn0.symm) _).trans (hb1.mono (by rw [World.size_alloc]; omega)); have S1 : n0 + 1 ≤ w1.heap.size := (by have := hb1.size; rw [World.size_alloc] at this; omega); have r1 := (box2_next hb1 Q0.out).1)
    | (go_at_call 12; refine (K2.out _ (hLh.out _ B1)).mono ?_; rintro e w2 ⟨rfl, hb2⟩; have B2 : Below n0 w w2 := B1.trans (hb2.mono (by omega)); have S2 : n0 + 1 ≤ w2.heap.size := Nat.le_trans S1 hb2.size; have r2 := (box2_next hb2 r1).1)
    | (go_at_call 32; refine (K3.out _).mono ?_; rintro e w3 ⟨rfl, hb3⟩; have B3 : Below n0 w w3 := B2.trans (hb3.mono (by omega)); have S3 : n0 + 1 ≤ w3.heap.size := Nat.le_trans S2 hb3.size; obtain ⟨r3, r30, r31, r3f, r3g⟩ := box2_next hb3 r2)
    | (go_at_call 33; refine (K4.out _ (hLh.out _ (B3.alloc (by omega) _))).mono ?_; rintro e w4 ⟨rfl, hb4⟩; have B4 : Below n0 w w4 := (B3.alloc (by omega) _).trans (hb4.mono (by rw [World.size_alloc]; omega)); have S4 : n0 + 1 ≤ w4.heap.size := Nat.le_trans (by rw [World.size_alloc]; omega) hb4.size; obtain ⟨r4, r40, r41, r4f, r4g⟩ := box2_next hb4 ((Below.heap_alloc _ _ _ (by omega)).trans r3); obtain ⟨p4, p40, p41, p4f, p4g⟩ := box2_next hb4 (World.alloc_heap_new w3 _))
    | (go_at_call 22; refine (K5.out _ hcheck.out).mono ?_; rintro e w5 ⟨rfl, hb5⟩; have B5 : Below n0 w w5 := B4.trans (hb5.mono (by omega)); clear r40 r41 r4f r4g p40 p41 p4f p4g; obtain ⟨r5, r50, r51, r5f, r5g⟩ := box2_next hb5 r4; obtain ⟨p5, p50, p51, p5f, p5g⟩ := box2_next hb5 p4))
  refine bodyPost_ret (v := .tuple #[.agg #[.int .u32 a, .int .i64 n], .bool true]) ?_ rfl ⟨rfl, ?_⟩
  · have x1 : ((w5.setCell ⟨n0, 0, none⟩ (.int .u32 a)).setCell ⟨n0, 1, none⟩ (.int .i64 n)).heap[n0]? = some (.cells #[.int .u32 a, .int .i64 n] 24 (0, 0)) := by
      rw [heap_setCell_same _ _ _ _ _ _ (heap_setCell_same w5 n0 0 _ _ _ r5)]; rfl
    have g0 : ((w5.setCell ⟨n0, 0, none⟩ (.int .u32 a)).setCell ⟨n0, 1, none⟩ (.int .i64 n)).cell? ⟨n0, 0, none⟩ = some (.int .u32 a) := by simp [World.cell?, x1]
    have g1 : ((w5.setCell ⟨n0, 0, none⟩ (.int .u32 a)).setCell ⟨n0, 1, none⟩ (.int .i64 n)).cell? ⟨n0, 1, none⟩ = some (.int .i64 n) := by simp [World.cell?, x1]
    simp [results, Tryd.f14, go_sem, g0, g1, hu24]
  · rw [hn0]; exact (B5.setCell (Nat.le_refl _) _).setCell (Nat.le_refl _) _
set_option maxRecDepth 100000 in
set_option maxHeartbeats 4000000 in
/-- Read of nothing. -/
theorem read_nil (w : World) (hL : LaidD w) :
    Calls Tryd.prog 14 #[strOf []] w fun e w' => e = .returned (.tuple #[.agg #[.int .u32 0, .int .i64 0], .bool false]) ∧ Below w.heap.size w w' := by
  have hu24 := Tryd.underlying24
  have k1 := cut_calls [] (by simp)
  rw [cut_nil] at k1
  have k2 := parse_calls [] (by simp)
  have k3 := atoi_err [] (by simp) (fun v e => by have h := atoi_nil; rw [e] at h; cases h)
  generalize (parseS []).1 = pa at k2
  generalize (parseS []).2 = pb at k2
  unfold strOf at *
  obtain ⟨n0, hn0⟩ : ∃ n0, w.heap.size = n0 := ⟨_, rfl⟩
  have hLh : Hid (∀ X : World, Below n0 w X → LaidD X) := fun X hX => hL.below (by rw [hn0]; exact hX)
  have K1 : Hid _ := k1
  have K2 : Hid _ := k2
  have K3 : Hid _ := k3
  clear k1 k2 k3 hL
  have Q0 : Hid ((w.alloc (.cells #[.int .u32 0, .int .i64 0] 24)).heap[n0]? = some (.cells #[.int .u32 0, .int .i64 0] 24 (0, 0))) := by unfold Hid; rw [← hn0]; exact World.alloc_heap_new w _
  go_enter Tryd.func14, Tryd.ntmps14
  go_wp2_with (first
    | (go_at_call 34; refine (K1.out _).mono ?_; rintro e w1 ⟨rfl, hb1⟩; have B1 : Below n0 w w1 := ((Below.refl n0 w).alloc (Nat.le_of_eq hn0.symm) _).trans (hb1.mono (by rw [World.size_alloc]; omega)); have S1 : n0 + 1 ≤ w1.heap.size := (by have := hb1.size; rw [World.size_alloc] at this; omega); have r1 := (box2_next hb1 Q0.out).1)
    | (go_at_call 12; refine (K2.out _ (hLh.out _ B1)).mono ?_; rintro e w2 ⟨rfl, hb2⟩; have B2 : Below n0 w w2 := B1.trans (hb2.mono (by omega)); have S2 : n0 + 1 ≤ w2.heap.size := Nat.le_trans S1 hb2.size; have r2 := (box2_next hb2 r1).1)
    | (go_at_call 32; refine (K3.out _ (hLh.out _ B2)).mono ?_; rintro e w3 ⟨⟨vn, N, rfl⟩, hb3⟩; have B3 : Below n0 w w3 := B2.trans (hb3.mono (by omega)); have S3 : n0 + 1 ≤ w3.heap.size := Nat.le_trans S2 hb3.size; obtain ⟨r3, r30, r31, r3f, r3g⟩ := box2_next hb3 r2; obtain ⟨r4, r40, r41, r4f, r4g⟩ := box2_next (Below.refl _ (w3.alloc (.cells #[.int .u32 pa, .int .i64 vn] 24))) ((Below.heap_alloc _ _ _ (by omega)).trans r3)))
  refine bodyPost_ret (v := .tuple #[.agg #[.int .u32 0, .int .i64 0], .bool false]) ?_ rfl ⟨rfl, ?_⟩
  · have x1 : (((w3.alloc (.cells #[.int .u32 pa, .int .i64 vn] 24)).setCell ⟨n0, 0, none⟩ (.int .u32 0)).setCell ⟨n0, 1, none⟩ (.int .i64 0)).heap[n0]? = some (.cells #[.int .u32 0, .int .i64 0] 24 (0, 0)) := by
      rw [heap_setCell_same _ _ _ _ _ _ (heap_setCell_same (w3.alloc (.cells #[.int .u32 pa, .int .i64 vn] 24)) n0 0 _ _ _ r4)]; rfl
    have g0 : (((w3.alloc (.cells #[.int .u32 pa, .int .i64 vn] 24)).setCell ⟨n0, 0, none⟩ (.int .u32 0)).setCell ⟨n0, 1, none⟩ (.int .i64 0)).cell? ⟨n0, 0, none⟩ = some (.int .u32 0) := by simp [World.cell?, x1]
    have g1 : (((w3.alloc (.cells #[.int .u32 pa, .int .i64 vn] 24)).setCell ⟨n0, 0, none⟩ (.int .u32 0)).setCell ⟨n0, 1, none⟩ (.int .i64 0)).cell? ⟨n0, 1, none⟩ = some (.int .i64 0) := by simp [World.cell?, x1]
    simp [results, Tryd.f14, go_sem, g0, g1, hu24]
  · rw [hn0]; exact (((B3.alloc (by omega) _).setCell (Nat.le_refl _) _).setCell (Nat.le_refl _) _)
end Go.Proofs.YtdlkdcdopjgbaaaDoor.X

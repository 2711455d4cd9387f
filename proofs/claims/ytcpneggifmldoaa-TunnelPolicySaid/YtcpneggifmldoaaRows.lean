/-
  No cell of these rows narrows 'for every input' (looked for: loops, veiled, ifaces, maps, wideKeys, modest, calm, conditions, laid).
  DERIVED. THE GIVEN ROWS OF THIS SEAT. 7 by the template 'for every input the law returns true; each argument reads behind the call as it read before'; 0 by the template 'total and deterministic' (their statements: YtcpneggifmldoaaTotals.lean).
  GIVEN WITH THE SEED: the statements are not yours to turn. If you find one false, say at which input.
  Laid BY PROGRAM, IN A SANDBOX (cutbox-rows.mjs): the forced cells as the released guide's own fill.sh prints them over the translation def0337b1d9cb670… (all of the seat's roots in one cut). By AI agents, Wed Nov 11 2026. No macro, syntax, notation, axiom, sorry.
-/
import Derived.Test.YtcpneggifmldoaaChecked
import GoSem.Claim
import GoSem.ClaimJoined
import GoSem.ClaimMapViews
import Derived.JoinedTies
import Derived.KernelRfl
namespace Go.Proofs.Ytcpneggifmldoaa
/- THE CELL 'sum', in the pinned program and in every row, IS THE sha256 OF THE DUMP (.gsa) THAT YtcpneggifmldoaaProg.lean LOADS. Nothing in Lean hashes anything: it is a label: what it is worth is what the hold of that sum in a sandbox is worth. -/
noncomputable def Try.pinned : Pinned := { name := "ytcpneggifmldoaa", sum := "def0337b1d9cb670811d47c3d59c0d94a2579d585dadfe507c8215da059f5e17", checked := Try.checked }
namespace Rows
def none {H : Type} : Left H := { results := [], args := [] }

/-- 'vizardlaw18.PolicyRoutes': WHATEVER THE INPUT: true; the input reads as it did. -/
def policyRoutesSpec : ChangeSpec := { name := "policyRoutes", fn := fun _ => fun
  | [d] => { results := [.lit (.bool true)], args := [d] }
  | _ => none }
def policyRoutesRow : OpenClaim := { program := "ytcpneggifmldoaa", sum := "def0337b1d9cb670811d47c3d59c0d94a2579d585dadfe507c8215da059f5e17", func := "vizard/vizardlaw18.PolicyRoutes", spec := "policyRoutes", recurses := true, apart := false }
def PolicyRoutesSaid : Prop := policyRoutesRow.holds Try.pinned (OpenSpec.ofChange policyRoutesSpec)

/-- ITS FALSE NEIGHBOUR: 'it returns false'. Refute it at one input. -/
def policyRoutesWrong : ChangeSpec := { name := "policyRoutes", fn := fun _ => fun
  | [d] => { results := [.lit (.bool false)], args := [d] }
  | _ => none }
def PolicyRoutesWrongFalsely : Prop := policyRoutesRow.holds Try.pinned (OpenSpec.ofChange policyRoutesWrong)

/-- 'vizardlaw18.PolicyCovers': WHATEVER THE INPUT: true; the input reads as it did. -/
def policyCoversSpec : ChangeSpec := { name := "policyCovers", fn := fun _ => fun
  | [d1, d2, d3, d4] => { results := [.lit (.bool true)], args := [d1, d2, d3, d4] }
  | _ => none }
def policyCoversRow : OpenClaim := { program := "ytcpneggifmldoaa", sum := "def0337b1d9cb670811d47c3d59c0d94a2579d585dadfe507c8215da059f5e17", func := "vizard/vizardlaw18.PolicyCovers", spec := "policyCovers", recurses := true, apart := false }
def PolicyCoversSaid : Prop := policyCoversRow.holds Try.pinned (OpenSpec.ofChange policyCoversSpec)

/-- ITS FALSE NEIGHBOUR: 'it returns false'. Refute it at one input. -/
def policyCoversWrong : ChangeSpec := { name := "policyCovers", fn := fun _ => fun
  | [d1, d2, d3, d4] => { results := [.lit (.bool false)], args := [d1, d2, d3, d4] }
  | _ => none }
def PolicyCoversWrongFalsely : Prop := policyCoversRow.holds Try.pinned (OpenSpec.ofChange policyCoversWrong)

/-- 'vizardlaw18.PolicyFirst': WHATEVER THE INPUT: true; the input reads as it did. -/
def policyFirstSpec : ChangeSpec := { name := "policyFirst", fn := fun _ => fun
  | [d1, d2, d3, d4, d5] => { results := [.lit (.bool true)], args := [d1, d2, d3, d4, d5] }
  | _ => none }
def policyFirstRow : OpenClaim := { program := "ytcpneggifmldoaa", sum := "def0337b1d9cb670811d47c3d59c0d94a2579d585dadfe507c8215da059f5e17", func := "vizard/vizardlaw18.PolicyFirst", spec := "policyFirst", recurses := true, apart := false }
def PolicyFirstSaid : Prop := policyFirstRow.holds Try.pinned (OpenSpec.ofChange policyFirstSpec)

/-- ITS FALSE NEIGHBOUR: 'it returns false'. Refute it at one input. -/
def policyFirstWrong : ChangeSpec := { name := "policyFirst", fn := fun _ => fun
  | [d1, d2, d3, d4, d5] => { results := [.lit (.bool false)], args := [d1, d2, d3, d4, d5] }
  | _ => none }
def PolicyFirstWrongFalsely : Prop := policyFirstRow.holds Try.pinned (OpenSpec.ofChange policyFirstWrong)

/-- 'vizardlaw18.PolicyMore': WHATEVER THE INPUT: true; the input reads as it did. -/
def policyMoreSpec : ChangeSpec := { name := "policyMore", fn := fun _ => fun
  | [d1, d2, d3, d4, d5] => { results := [.lit (.bool true)], args := [d1, d2, d3, d4, d5] }
  | _ => none }
def policyMoreRow : OpenClaim := { program := "ytcpneggifmldoaa", sum := "def0337b1d9cb670811d47c3d59c0d94a2579d585dadfe507c8215da059f5e17", func := "vizard/vizardlaw18.PolicyMore", spec := "policyMore", recurses := true, apart := false }
def PolicyMoreSaid : Prop := policyMoreRow.holds Try.pinned (OpenSpec.ofChange policyMoreSpec)

/-- ITS FALSE NEIGHBOUR: 'it returns false'. Refute it at one input. -/
def policyMoreWrong : ChangeSpec := { name := "policyMore", fn := fun _ => fun
  | [d1, d2, d3, d4, d5] => { results := [.lit (.bool false)], args := [d1, d2, d3, d4, d5] }
  | _ => none }
def PolicyMoreWrongFalsely : Prop := policyMoreRow.holds Try.pinned (OpenSpec.ofChange policyMoreWrong)

/-- 'vizardlaw22.TunnelGoes': WHATEVER THE INPUT: true; the input reads as it did. -/
def tunnelGoesSpec : ChangeSpec := { name := "tunnelGoes", fn := fun _ => fun
  | [d1, d2, d3, d4] => { results := [.lit (.bool true)], args := [d1, d2, d3, d4] }
  | _ => none }
def tunnelGoesRow : OpenClaim := { program := "ytcpneggifmldoaa", sum := "def0337b1d9cb670811d47c3d59c0d94a2579d585dadfe507c8215da059f5e17", func := "vizard/vizardlaw22.TunnelGoes", spec := "tunnelGoes", recurses := true, apart := false }
def TunnelGoesSaid : Prop := tunnelGoesRow.holds Try.pinned (OpenSpec.ofChange tunnelGoesSpec)

/-- ITS FALSE NEIGHBOUR: 'it returns false'. Refute it at one input. -/
def tunnelGoesWrong : ChangeSpec := { name := "tunnelGoes", fn := fun _ => fun
  | [d1, d2, d3, d4] => { results := [.lit (.bool false)], args := [d1, d2, d3, d4] }
  | _ => none }
def TunnelGoesWrongFalsely : Prop := tunnelGoesRow.holds Try.pinned (OpenSpec.ofChange tunnelGoesWrong)

/-- 'vizardlaw22.TunnelPolicy': WHATEVER THE INPUT: true; the input reads as it did. -/
def tunnelPolicySpec : ChangeSpec := { name := "tunnelPolicy", fn := fun _ => fun
  | [d1, d2] => { results := [.lit (.bool true)], args := [d1, d2] }
  | _ => none }
def tunnelPolicyRow : OpenClaim := { program := "ytcpneggifmldoaa", sum := "def0337b1d9cb670811d47c3d59c0d94a2579d585dadfe507c8215da059f5e17", func := "vizard/vizardlaw22.TunnelPolicy", spec := "tunnelPolicy", recurses := true, apart := false }
def TunnelPolicySaid : Prop := tunnelPolicyRow.holds Try.pinned (OpenSpec.ofChange tunnelPolicySpec)

/-- ITS FALSE NEIGHBOUR: 'it returns false'. Refute it at one input. -/
def tunnelPolicyWrong : ChangeSpec := { name := "tunnelPolicy", fn := fun _ => fun
  | [d1, d2] => { results := [.lit (.bool false)], args := [d1, d2] }
  | _ => none }
def TunnelPolicyWrongFalsely : Prop := tunnelPolicyRow.holds Try.pinned (OpenSpec.ofChange tunnelPolicyWrong)

/-- 'vizardlaw22.TunnelBack': WHATEVER THE INPUT: true; the input reads as it did. -/
def tunnelBackSpec : ChangeSpec := { name := "tunnelBack", fn := fun _ => fun
  | [d1, d2, d3, d4] => { results := [.lit (.bool true)], args := [d1, d2, d3, d4] }
  | _ => none }
def tunnelBackRow : OpenClaim := { program := "ytcpneggifmldoaa", sum := "def0337b1d9cb670811d47c3d59c0d94a2579d585dadfe507c8215da059f5e17", func := "vizard/vizardlaw22.TunnelBack", spec := "tunnelBack", recurses := true, apart := false }
def TunnelBackSaid : Prop := tunnelBackRow.holds Try.pinned (OpenSpec.ofChange tunnelBackSpec)

/-- ITS FALSE NEIGHBOUR: 'it returns false'. Refute it at one input. -/
def tunnelBackWrong : ChangeSpec := { name := "tunnelBack", fn := fun _ => fun
  | [d1, d2, d3, d4] => { results := [.lit (.bool false)], args := [d1, d2, d3, d4] }
  | _ => none }
def TunnelBackWrongFalsely : Prop := tunnelBackRow.holds Try.pinned (OpenSpec.ofChange tunnelBackWrong)

/- THE SECOND FORM. 'bulk': how many values and letters a reading holds, each counted each time it is reached (what is shared counts as often as it is met; a slice's spare places count too). A statement '..UptoSaid' is the law's where the arguments, and the package variables that the reading takes, are together of bulk at most 1048576: NARROWER than '..Said'. Prove '..Said' where nothing that the law and all that it calls make is longer than what came in: it says more and counts as full. Else prove '..UptoSaid'. A law counts once. -/
mutual
def uptoBulk {H : Type} : DataW H → Nat
  | .lit (.string bytes) => bytes.length + 1
  | .lit _ => 1
  | .nil => 1
  | .ptr d => uptoBulk d + 1
  | .slice elems spare => uptoBulkAll elems + uptoBulkAll spare + 1
  | .agg parts => uptoBulkAll parts + 1
  | .iface _ d => uptoBulk d + 1
  | .map entries => uptoBulkEntries entries + 1
  | .held _ => 1
def uptoBulkAll {H : Type} : List (DataW H) → Nat
  | [] => 0
  | d :: r => uptoBulk d + uptoBulkAll r
def uptoBulkEntries {H : Type} : List (Lit × DataW H) → Nat
  | [] => 0
  | x :: r => uptoBulkEntry x + uptoBulkEntries r
def uptoBulkEntry {H : Type} : Lit × DataW H → Nat
  | (.string bytes, d) => bytes.length + uptoBulk d + 1
  | (_, d) => uptoBulk d + 1
 end
def uptoSmall : (H : Type) → List (DataW H) → Bool := fun _ ds => decide (uptoBulkAll ds ≤ 1048576)
def OpenSpec.upto (s : _root_.Go.ChangeSpec) : _root_.Go.OpenSpec := { _root_.Go.OpenSpec.ofChange s with cond := some uptoSmall }

/-- 'vizardlaw18.PolicyRoutes', WHERE WHAT IT READS IS OF BULK AT MOST 1048576: true; the input reads as it did. -/
def policyRoutesUptoRow : OpenClaim := { program := "ytcpneggifmldoaa", sum := "def0337b1d9cb670811d47c3d59c0d94a2579d585dadfe507c8215da059f5e17", func := "vizard/vizardlaw18.PolicyRoutes", spec := "policyRoutes", recurses := true, apart := false, narrowed := true }
def PolicyRoutesUptoSaid : Prop := policyRoutesUptoRow.holds Try.pinned (OpenSpec.upto policyRoutesSpec)

/-- 'vizardlaw18.PolicyCovers', WHERE WHAT IT READS IS OF BULK AT MOST 1048576: true; the input reads as it did. -/
def policyCoversUptoRow : OpenClaim := { program := "ytcpneggifmldoaa", sum := "def0337b1d9cb670811d47c3d59c0d94a2579d585dadfe507c8215da059f5e17", func := "vizard/vizardlaw18.PolicyCovers", spec := "policyCovers", recurses := true, apart := false, narrowed := true }
def PolicyCoversUptoSaid : Prop := policyCoversUptoRow.holds Try.pinned (OpenSpec.upto policyCoversSpec)

/-- 'vizardlaw18.PolicyFirst', WHERE WHAT IT READS IS OF BULK AT MOST 1048576: true; the input reads as it did. -/
def policyFirstUptoRow : OpenClaim := { program := "ytcpneggifmldoaa", sum := "def0337b1d9cb670811d47c3d59c0d94a2579d585dadfe507c8215da059f5e17", func := "vizard/vizardlaw18.PolicyFirst", spec := "policyFirst", recurses := true, apart := false, narrowed := true }
def PolicyFirstUptoSaid : Prop := policyFirstUptoRow.holds Try.pinned (OpenSpec.upto policyFirstSpec)

/-- 'vizardlaw18.PolicyMore', WHERE WHAT IT READS IS OF BULK AT MOST 1048576: true; the input reads as it did. -/
def policyMoreUptoRow : OpenClaim := { program := "ytcpneggifmldoaa", sum := "def0337b1d9cb670811d47c3d59c0d94a2579d585dadfe507c8215da059f5e17", func := "vizard/vizardlaw18.PolicyMore", spec := "policyMore", recurses := true, apart := false, narrowed := true }
def PolicyMoreUptoSaid : Prop := policyMoreUptoRow.holds Try.pinned (OpenSpec.upto policyMoreSpec)

/-- 'vizardlaw22.TunnelGoes', WHERE WHAT IT READS IS OF BULK AT MOST 1048576: true; the input reads as it did. -/
def tunnelGoesUptoRow : OpenClaim := { program := "ytcpneggifmldoaa", sum := "def0337b1d9cb670811d47c3d59c0d94a2579d585dadfe507c8215da059f5e17", func := "vizard/vizardlaw22.TunnelGoes", spec := "tunnelGoes", recurses := true, apart := false, narrowed := true }
def TunnelGoesUptoSaid : Prop := tunnelGoesUptoRow.holds Try.pinned (OpenSpec.upto tunnelGoesSpec)

/-- 'vizardlaw22.TunnelPolicy', WHERE WHAT IT READS IS OF BULK AT MOST 1048576: true; the input reads as it did. -/
def tunnelPolicyUptoRow : OpenClaim := { program := "ytcpneggifmldoaa", sum := "def0337b1d9cb670811d47c3d59c0d94a2579d585dadfe507c8215da059f5e17", func := "vizard/vizardlaw22.TunnelPolicy", spec := "tunnelPolicy", recurses := true, apart := false, narrowed := true }
def TunnelPolicyUptoSaid : Prop := tunnelPolicyUptoRow.holds Try.pinned (OpenSpec.upto tunnelPolicySpec)

/-- 'vizardlaw22.TunnelBack', WHERE WHAT IT READS IS OF BULK AT MOST 1048576: true; the input reads as it did. -/
def tunnelBackUptoRow : OpenClaim := { program := "ytcpneggifmldoaa", sum := "def0337b1d9cb670811d47c3d59c0d94a2579d585dadfe507c8215da059f5e17", func := "vizard/vizardlaw22.TunnelBack", spec := "tunnelBack", recurses := true, apart := false, narrowed := true }
def TunnelBackUptoSaid : Prop := tunnelBackUptoRow.holds Try.pinned (OpenSpec.upto tunnelBackSpec)

end Rows
end Go.Proofs.Ytcpneggifmldoaa

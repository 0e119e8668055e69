/-
  No cell of these rows narrows 'for every input' (looked for: loops, veiled, ifaces, maps, wideKeys, modest, calm, conditions, laid).
  DERIVED. THE GIVEN ROWS OF THIS SEAT. 8 by the template 'for every input the law returns true; each argument reads behind the call as it read before'; 0 by the template 'total and deterministic' (their statements: YtlfkbkobkibemaaTotals.lean).
  GIVEN WITH THE SEED: the statements are not yours to turn. If you find one false, say at which input.
  Laid BY PROGRAM, IN A SANDBOX (cutbox-rows.mjs): the forced cells as the released guide's own fill.sh prints them over the translation 826760260ff62391… (all of the seat's roots in one cut). By AI agents, Wed Nov 11 2026. No macro, syntax, notation, axiom, sorry.
-/
import Derived.Test.YtlfkbkobkibemaaChecked
import GoSem.Claim
import GoSem.ClaimJoined
import GoSem.ClaimMapViews
import Derived.JoinedTies
import Derived.KernelRfl
namespace Go.Proofs.Ytlfkbkobkibemaa
/- THE CELL 'sum', in the pinned program and in every row, IS THE sha256 OF THE DUMP (.gsa) THAT YtlfkbkobkibemaaProg.lean LOADS. Nothing in Lean hashes anything: it is a label: what it is worth is what the hold of that sum in a sandbox is worth. -/
noncomputable def Try.pinned : Pinned := { name := "ytlfkbkobkibemaa", sum := "826760260ff62391171c15f5c6e9f653787ec505adbe4e213241d0d378d6f0f3", checked := Try.checked }
namespace Rows
def none {H : Type} : Left H := { results := [], args := [] }

/-- 'turnpikelaw21.DeltaDiffs': WHATEVER THE INPUT: true; the input reads as it did. -/
def deltaDiffsSpec : ChangeSpec := { name := "deltaDiffs", fn := fun _ => fun
  | [d1, d2] => { results := [.lit (.bool true)], args := [d1, d2] }
  | _ => none }
def deltaDiffsRow : OpenClaim := { program := "ytlfkbkobkibemaa", sum := "826760260ff62391171c15f5c6e9f653787ec505adbe4e213241d0d378d6f0f3", func := "turnpike/turnpikelaw21.DeltaDiffs", spec := "deltaDiffs", apart := false }
def DeltaDiffsSaid : Prop := deltaDiffsRow.holds Try.pinned (OpenSpec.ofChange deltaDiffsSpec)

/-- ITS FALSE NEIGHBOUR: 'it returns false'. Refute it at one input. -/
def deltaDiffsWrong : ChangeSpec := { name := "deltaDiffs", fn := fun _ => fun
  | [d1, d2] => { results := [.lit (.bool false)], args := [d1, d2] }
  | _ => none }
def DeltaDiffsWrongFalsely : Prop := deltaDiffsRow.holds Try.pinned (OpenSpec.ofChange deltaDiffsWrong)

/-- 'turnpikelaw21.DeltaCut': WHATEVER THE INPUT: true; the input reads as it did. -/
def deltaCutSpec : ChangeSpec := { name := "deltaCut", fn := fun _ => fun
  | [d1, d2, d3] => { results := [.lit (.bool true)], args := [d1, d2, d3] }
  | _ => none }
def deltaCutRow : OpenClaim := { program := "ytlfkbkobkibemaa", sum := "826760260ff62391171c15f5c6e9f653787ec505adbe4e213241d0d378d6f0f3", func := "turnpike/turnpikelaw21.DeltaCut", spec := "deltaCut", apart := false }
def DeltaCutSaid : Prop := deltaCutRow.holds Try.pinned (OpenSpec.ofChange deltaCutSpec)

/-- ITS FALSE NEIGHBOUR: 'it returns false'. Refute it at one input. -/
def deltaCutWrong : ChangeSpec := { name := "deltaCut", fn := fun _ => fun
  | [d1, d2, d3] => { results := [.lit (.bool false)], args := [d1, d2, d3] }
  | _ => none }
def DeltaCutWrongFalsely : Prop := deltaCutRow.holds Try.pinned (OpenSpec.ofChange deltaCutWrong)

/-- 'turnpikelaw21.DeltaOwn': WHATEVER THE INPUT: true; the input reads as it did. -/
def deltaOwnSpec : ChangeSpec := { name := "deltaOwn", fn := fun _ => fun
  | [d1, d2] => { results := [.lit (.bool true)], args := [d1, d2] }
  | _ => none }
def deltaOwnRow : OpenClaim := { program := "ytlfkbkobkibemaa", sum := "826760260ff62391171c15f5c6e9f653787ec505adbe4e213241d0d378d6f0f3", func := "turnpike/turnpikelaw21.DeltaOwn", spec := "deltaOwn", apart := false }
def DeltaOwnSaid : Prop := deltaOwnRow.holds Try.pinned (OpenSpec.ofChange deltaOwnSpec)

/-- ITS FALSE NEIGHBOUR: 'it returns false'. Refute it at one input. -/
def deltaOwnWrong : ChangeSpec := { name := "deltaOwn", fn := fun _ => fun
  | [d1, d2] => { results := [.lit (.bool false)], args := [d1, d2] }
  | _ => none }
def DeltaOwnWrongFalsely : Prop := deltaOwnRow.holds Try.pinned (OpenSpec.ofChange deltaOwnWrong)

/-- 'turnpikelaw21.DeltaApplies': WHATEVER THE INPUT: true; the input reads as it did. -/
def deltaAppliesSpec : ChangeSpec := { name := "deltaApplies", fn := fun _ => fun
  | [d1, d2] => { results := [.lit (.bool true)], args := [d1, d2] }
  | _ => none }
def deltaAppliesRow : OpenClaim := { program := "ytlfkbkobkibemaa", sum := "826760260ff62391171c15f5c6e9f653787ec505adbe4e213241d0d378d6f0f3", func := "turnpike/turnpikelaw21.DeltaApplies", spec := "deltaApplies", unfollowed := true, recurses := true, apart := false }
def DeltaAppliesSaid : Prop := deltaAppliesRow.holds Try.pinned (OpenSpec.ofChange deltaAppliesSpec)

/-- ITS FALSE NEIGHBOUR: 'it returns false'. Refute it at one input. -/
def deltaAppliesWrong : ChangeSpec := { name := "deltaApplies", fn := fun _ => fun
  | [d1, d2] => { results := [.lit (.bool false)], args := [d1, d2] }
  | _ => none }
def DeltaAppliesWrongFalsely : Prop := deltaAppliesRow.holds Try.pinned (OpenSpec.ofChange deltaAppliesWrong)

/-- 'turnpikelaw21.DeltaReads': WHATEVER THE INPUT: true; the input reads as it did. -/
def deltaReadsSpec : ChangeSpec := { name := "deltaReads", fn := fun _ => fun
  | [d1, d2] => { results := [.lit (.bool true)], args := [d1, d2] }
  | _ => none }
def deltaReadsRow : OpenClaim := { program := "ytlfkbkobkibemaa", sum := "826760260ff62391171c15f5c6e9f653787ec505adbe4e213241d0d378d6f0f3", func := "turnpike/turnpikelaw21.DeltaReads", spec := "deltaReads", unfollowed := true, recurses := true, apart := false }
def DeltaReadsSaid : Prop := deltaReadsRow.holds Try.pinned (OpenSpec.ofChange deltaReadsSpec)

/-- ITS FALSE NEIGHBOUR: 'it returns false'. Refute it at one input. -/
def deltaReadsWrong : ChangeSpec := { name := "deltaReads", fn := fun _ => fun
  | [d1, d2] => { results := [.lit (.bool false)], args := [d1, d2] }
  | _ => none }
def DeltaReadsWrongFalsely : Prop := deltaReadsRow.holds Try.pinned (OpenSpec.ofChange deltaReadsWrong)

/-- 'turnpikelaw21.DeltaTurned': WHATEVER THE INPUT: true; the input reads as it did. -/
def deltaTurnedSpec : ChangeSpec := { name := "deltaTurned", fn := fun _ => fun
  | [d1, d2, d3, d4, d5] => { results := [.lit (.bool true)], args := [d1, d2, d3, d4, d5] }
  | _ => none }
def deltaTurnedRow : OpenClaim := { program := "ytlfkbkobkibemaa", sum := "826760260ff62391171c15f5c6e9f653787ec505adbe4e213241d0d378d6f0f3", func := "turnpike/turnpikelaw21.DeltaTurned", spec := "deltaTurned", unfollowed := true, recurses := true, apart := false }
def DeltaTurnedSaid : Prop := deltaTurnedRow.holds Try.pinned (OpenSpec.ofChange deltaTurnedSpec)

/-- ITS FALSE NEIGHBOUR: 'it returns false'. Refute it at one input. -/
def deltaTurnedWrong : ChangeSpec := { name := "deltaTurned", fn := fun _ => fun
  | [d1, d2, d3, d4, d5] => { results := [.lit (.bool false)], args := [d1, d2, d3, d4, d5] }
  | _ => none }
def DeltaTurnedWrongFalsely : Prop := deltaTurnedRow.holds Try.pinned (OpenSpec.ofChange deltaTurnedWrong)

/-- 'turnpikelaw21.DeltaBack': WHATEVER THE INPUT: true; the input reads as it did. -/
def deltaBackSpec : ChangeSpec := { name := "deltaBack", fn := fun _ => fun
  | [d1, d2] => { results := [.lit (.bool true)], args := [d1, d2] }
  | _ => none }
def deltaBackRow : OpenClaim := { program := "ytlfkbkobkibemaa", sum := "826760260ff62391171c15f5c6e9f653787ec505adbe4e213241d0d378d6f0f3", func := "turnpike/turnpikelaw21.DeltaBack", spec := "deltaBack", unfollowed := true, recurses := true, apart := false }
def DeltaBackSaid : Prop := deltaBackRow.holds Try.pinned (OpenSpec.ofChange deltaBackSpec)

/-- ITS FALSE NEIGHBOUR: 'it returns false'. Refute it at one input. -/
def deltaBackWrong : ChangeSpec := { name := "deltaBack", fn := fun _ => fun
  | [d1, d2] => { results := [.lit (.bool false)], args := [d1, d2] }
  | _ => none }
def DeltaBackWrongFalsely : Prop := deltaBackRow.holds Try.pinned (OpenSpec.ofChange deltaBackWrong)

/-- 'turnpikelaw21.DeltaWeight': WHATEVER THE INPUT: true; the input reads as it did. -/
def deltaWeightSpec : ChangeSpec := { name := "deltaWeight", fn := fun _ => fun
  | [d1, d2] => { results := [.lit (.bool true)], args := [d1, d2] }
  | _ => none }
def deltaWeightRow : OpenClaim := { program := "ytlfkbkobkibemaa", sum := "826760260ff62391171c15f5c6e9f653787ec505adbe4e213241d0d378d6f0f3", func := "turnpike/turnpikelaw21.DeltaWeight", spec := "deltaWeight", unfollowed := true, recurses := true, apart := false }
def DeltaWeightSaid : Prop := deltaWeightRow.holds Try.pinned (OpenSpec.ofChange deltaWeightSpec)

/-- ITS FALSE NEIGHBOUR: 'it returns false'. Refute it at one input. -/
def deltaWeightWrong : ChangeSpec := { name := "deltaWeight", fn := fun _ => fun
  | [d1, d2] => { results := [.lit (.bool false)], args := [d1, d2] }
  | _ => none }
def DeltaWeightWrongFalsely : Prop := deltaWeightRow.holds Try.pinned (OpenSpec.ofChange deltaWeightWrong)

/- THE SECOND FORM. 'bulk': how many values and letters a reading holds, each counted each time it is reached (what is shared counts as often as it is met; a slice's spare places count too). A statement '..UptoSaid' is the law's where the arguments, and the package variables that the reading takes, are together of bulk at most 1048576: NARROWER than '..Said'. Prove '..Said' where nothing that the law and all that it calls make is longer than what came in: it says more and counts as full. Else prove '..UptoSaid'. A law counts once. -/
mutual
def uptoBulk {H : Type} : DataW H → Nat
  | .lit (.string bytes) => bytes.length + 1
  | .lit _ => 1
  | .nil => 1
  | .ptr d => uptoBulk d + 1
  | .slice elems spare => uptoBulkAll elems + uptoBulkAll spare + 1
  | .agg parts => uptoBulkAll parts + 1
  | .iface _ d => uptoBulk d + 1
  | .map entries => uptoBulkEntries entries + 1
  | .held _ => 1
def uptoBulkAll {H : Type} : List (DataW H) → Nat
  | [] => 0
  | d :: r => uptoBulk d + uptoBulkAll r
def uptoBulkEntries {H : Type} : List (Lit × DataW H) → Nat
  | [] => 0
  | x :: r => uptoBulkEntry x + uptoBulkEntries r
def uptoBulkEntry {H : Type} : Lit × DataW H → Nat
  | (.string bytes, d) => bytes.length + uptoBulk d + 1
  | (_, d) => uptoBulk d + 1
 end
def uptoSmall : (H : Type) → List (DataW H) → Bool := fun _ ds => decide (uptoBulkAll ds ≤ 1048576)
def OpenSpec.upto (s : _root_.Go.ChangeSpec) : _root_.Go.OpenSpec := { _root_.Go.OpenSpec.ofChange s with cond := some uptoSmall }

/-- 'turnpikelaw21.DeltaDiffs', WHERE WHAT IT READS IS OF BULK AT MOST 1048576: true; the input reads as it did. -/
def deltaDiffsUptoRow : OpenClaim := { program := "ytlfkbkobkibemaa", sum := "826760260ff62391171c15f5c6e9f653787ec505adbe4e213241d0d378d6f0f3", func := "turnpike/turnpikelaw21.DeltaDiffs", spec := "deltaDiffs", apart := false, narrowed := true }
def DeltaDiffsUptoSaid : Prop := deltaDiffsUptoRow.holds Try.pinned (OpenSpec.upto deltaDiffsSpec)

/-- 'turnpikelaw21.DeltaCut', WHERE WHAT IT READS IS OF BULK AT MOST 1048576: true; the input reads as it did. -/
def deltaCutUptoRow : OpenClaim := { program := "ytlfkbkobkibemaa", sum := "826760260ff62391171c15f5c6e9f653787ec505adbe4e213241d0d378d6f0f3", func := "turnpike/turnpikelaw21.DeltaCut", spec := "deltaCut", apart := false, narrowed := true }
def DeltaCutUptoSaid : Prop := deltaCutUptoRow.holds Try.pinned (OpenSpec.upto deltaCutSpec)

/-- 'turnpikelaw21.DeltaOwn', WHERE WHAT IT READS IS OF BULK AT MOST 1048576: true; the input reads as it did. -/
def deltaOwnUptoRow : OpenClaim := { program := "ytlfkbkobkibemaa", sum := "826760260ff62391171c15f5c6e9f653787ec505adbe4e213241d0d378d6f0f3", func := "turnpike/turnpikelaw21.DeltaOwn", spec := "deltaOwn", apart := false, narrowed := true }
def DeltaOwnUptoSaid : Prop := deltaOwnUptoRow.holds Try.pinned (OpenSpec.upto deltaOwnSpec)

/-- 'turnpikelaw21.DeltaApplies', WHERE WHAT IT READS IS OF BULK AT MOST 1048576: true; the input reads as it did. -/
def deltaAppliesUptoRow : OpenClaim := { program := "ytlfkbkobkibemaa", sum := "826760260ff62391171c15f5c6e9f653787ec505adbe4e213241d0d378d6f0f3", func := "turnpike/turnpikelaw21.DeltaApplies", spec := "deltaApplies", unfollowed := true, recurses := true, apart := false, narrowed := true }
def DeltaAppliesUptoSaid : Prop := deltaAppliesUptoRow.holds Try.pinned (OpenSpec.upto deltaAppliesSpec)

/-- 'turnpikelaw21.DeltaReads', WHERE WHAT IT READS IS OF BULK AT MOST 1048576: true; the input reads as it did. -/
def deltaReadsUptoRow : OpenClaim := { program := "ytlfkbkobkibemaa", sum := "826760260ff62391171c15f5c6e9f653787ec505adbe4e213241d0d378d6f0f3", func := "turnpike/turnpikelaw21.DeltaReads", spec := "deltaReads", unfollowed := true, recurses := true, apart := false, narrowed := true }
def DeltaReadsUptoSaid : Prop := deltaReadsUptoRow.holds Try.pinned (OpenSpec.upto deltaReadsSpec)

/-- 'turnpikelaw21.DeltaTurned', WHERE WHAT IT READS IS OF BULK AT MOST 1048576: true; the input reads as it did. -/
def deltaTurnedUptoRow : OpenClaim := { program := "ytlfkbkobkibemaa", sum := "826760260ff62391171c15f5c6e9f653787ec505adbe4e213241d0d378d6f0f3", func := "turnpike/turnpikelaw21.DeltaTurned", spec := "deltaTurned", unfollowed := true, recurses := true, apart := false, narrowed := true }
def DeltaTurnedUptoSaid : Prop := deltaTurnedUptoRow.holds Try.pinned (OpenSpec.upto deltaTurnedSpec)

/-- 'turnpikelaw21.DeltaBack', WHERE WHAT IT READS IS OF BULK AT MOST 1048576: true; the input reads as it did. -/
def deltaBackUptoRow : OpenClaim := { program := "ytlfkbkobkibemaa", sum := "826760260ff62391171c15f5c6e9f653787ec505adbe4e213241d0d378d6f0f3", func := "turnpike/turnpikelaw21.DeltaBack", spec := "deltaBack", unfollowed := true, recurses := true, apart := false, narrowed := true }
def DeltaBackUptoSaid : Prop := deltaBackUptoRow.holds Try.pinned (OpenSpec.upto deltaBackSpec)

/-- 'turnpikelaw21.DeltaWeight', WHERE WHAT IT READS IS OF BULK AT MOST 1048576: true; the input reads as it did. -/
def deltaWeightUptoRow : OpenClaim := { program := "ytlfkbkobkibemaa", sum := "826760260ff62391171c15f5c6e9f653787ec505adbe4e213241d0d378d6f0f3", func := "turnpike/turnpikelaw21.DeltaWeight", spec := "deltaWeight", unfollowed := true, recurses := true, apart := false, narrowed := true }
def DeltaWeightUptoSaid : Prop := deltaWeightUptoRow.holds Try.pinned (OpenSpec.upto deltaWeightSpec)

end Rows
end Go.Proofs.Ytlfkbkobkibemaa

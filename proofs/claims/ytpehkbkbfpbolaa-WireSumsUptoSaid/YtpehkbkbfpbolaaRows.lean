/-
  No cell of these rows narrows 'for every input' (looked for: loops, veiled, ifaces, maps, wideKeys, modest, calm, conditions, laid).
  DERIVED. THE GIVEN ROWS OF THIS SEAT. 11 by the template 'for every input the law returns true; each argument reads behind the call as it read before'; 0 by the template 'total and deterministic' (their statements: YtpehkbkbfpbolaaTotals.lean).
  GIVEN WITH THE SEED: the statements are not yours to turn. If you find one false, say at which input.
  Laid BY PROGRAM, IN A SANDBOX (cutbox-rows.mjs): the forced cells as the released guide's own fill.sh prints them over the translation 8bb3e29e052b3e0d… (all of the seat's roots in one cut). By AI agents, Wed Nov 11 2026. No macro, syntax, notation, axiom, sorry.
-/
import Derived.Test.YtpehkbkbfpbolaaChecked
import GoSem.Claim
import GoSem.ClaimJoined
import GoSem.ClaimMapViews
import Derived.JoinedTies
import Derived.KernelRfl
namespace Go.Proofs.Ytpehkbkbfpbolaa
/- THE CELL 'sum', in the pinned program and in every row, IS THE sha256 OF THE DUMP (.gsa) THAT YtpehkbkbfpbolaaProg.lean LOADS. Nothing in Lean hashes anything: it is a label: what it is worth is what the hold of that sum in a sandbox is worth. -/
noncomputable def Try.pinned : Pinned := { name := "ytpehkbkbfpbolaa", sum := "8bb3e29e052b3e0da89e70bf3dc35d3479536cbe3539dd85140f29209b54cf01", checked := Try.checked }
namespace Rows
def none {H : Type} : Left H := { results := [], args := [] }

/-- 'turnpikelaw13.WireSums': WHATEVER THE INPUT: true; the input reads as it did. -/
def wireSumsSpec : ChangeSpec := { name := "wireSums", fn := fun _ => fun
  | [d] => { results := [.lit (.bool true)], args := [d] }
  | _ => none }
def wireSumsRow : OpenClaim := { program := "ytpehkbkbfpbolaa", sum := "8bb3e29e052b3e0da89e70bf3dc35d3479536cbe3539dd85140f29209b54cf01", func := "turnpike/turnpikelaw13.WireSums", spec := "wireSums", apart := false }
def WireSumsSaid : Prop := wireSumsRow.holds Try.pinned (OpenSpec.ofChange wireSumsSpec)

/-- ITS FALSE NEIGHBOUR: 'it returns false'. Refute it at one input. -/
def wireSumsWrong : ChangeSpec := { name := "wireSums", fn := fun _ => fun
  | [d] => { results := [.lit (.bool false)], args := [d] }
  | _ => none }
def WireSumsWrongFalsely : Prop := wireSumsRow.holds Try.pinned (OpenSpec.ofChange wireSumsWrong)

/-- 'turnpikelaw13.WireFolds': WHATEVER THE INPUT: true; the input reads as it did. -/
def wireFoldsSpec : ChangeSpec := { name := "wireFolds", fn := fun _ => fun
  | [d] => { results := [.lit (.bool true)], args := [d] }
  | _ => none }
def wireFoldsRow : OpenClaim := { program := "ytpehkbkbfpbolaa", sum := "8bb3e29e052b3e0da89e70bf3dc35d3479536cbe3539dd85140f29209b54cf01", func := "turnpike/turnpikelaw13.WireFolds", spec := "wireFolds", apart := false }
def WireFoldsSaid : Prop := wireFoldsRow.holds Try.pinned (OpenSpec.ofChange wireFoldsSpec)

/-- ITS FALSE NEIGHBOUR: 'it returns false'. Refute it at one input. -/
def wireFoldsWrong : ChangeSpec := { name := "wireFolds", fn := fun _ => fun
  | [d] => { results := [.lit (.bool false)], args := [d] }
  | _ => none }
def WireFoldsWrongFalsely : Prop := wireFoldsRow.holds Try.pinned (OpenSpec.ofChange wireFoldsWrong)

/-- 'turnpikelaw13.WireOwn': WHATEVER THE INPUT: true; the input reads as it did. -/
def wireOwnSpec : ChangeSpec := { name := "wireOwn", fn := fun _ => fun
  | [d1, d2] => { results := [.lit (.bool true)], args := [d1, d2] }
  | _ => none }
def wireOwnRow : OpenClaim := { program := "ytpehkbkbfpbolaa", sum := "8bb3e29e052b3e0da89e70bf3dc35d3479536cbe3539dd85140f29209b54cf01", func := "turnpike/turnpikelaw13.WireOwn", spec := "wireOwn", apart := false }
def WireOwnSaid : Prop := wireOwnRow.holds Try.pinned (OpenSpec.ofChange wireOwnSpec)

/-- ITS FALSE NEIGHBOUR: 'it returns false'. Refute it at one input. -/
def wireOwnWrong : ChangeSpec := { name := "wireOwn", fn := fun _ => fun
  | [d1, d2] => { results := [.lit (.bool false)], args := [d1, d2] }
  | _ => none }
def WireOwnWrongFalsely : Prop := wireOwnRow.holds Try.pinned (OpenSpec.ofChange wireOwnWrong)

/-- 'turnpikelaw13.WireNumbers': WHATEVER THE INPUT: true; the input reads as it did. -/
def wireNumbersSpec : ChangeSpec := { name := "wireNumbers", fn := fun _ => fun
  | [d1, d2, d3] => { results := [.lit (.bool true)], args := [d1, d2, d3] }
  | _ => none }
def wireNumbersRow : OpenClaim := { program := "ytpehkbkbfpbolaa", sum := "8bb3e29e052b3e0da89e70bf3dc35d3479536cbe3539dd85140f29209b54cf01", func := "turnpike/turnpikelaw13.WireNumbers", spec := "wireNumbers", apart := false }
def WireNumbersSaid : Prop := wireNumbersRow.holds Try.pinned (OpenSpec.ofChange wireNumbersSpec)

/-- ITS FALSE NEIGHBOUR: 'it returns false'. Refute it at one input. -/
def wireNumbersWrong : ChangeSpec := { name := "wireNumbers", fn := fun _ => fun
  | [d1, d2, d3] => { results := [.lit (.bool false)], args := [d1, d2, d3] }
  | _ => none }
def WireNumbersWrongFalsely : Prop := wireNumbersRow.holds Try.pinned (OpenSpec.ofChange wireNumbersWrong)

/-- 'turnpikelaw13.WireBack': WHATEVER THE INPUT: true; the input reads as it did. -/
def wireBackSpec : ChangeSpec := { name := "wireBack", fn := fun _ => fun
  | [d1, d2] => { results := [.lit (.bool true)], args := [d1, d2] }
  | _ => none }
def wireBackRow : OpenClaim := { program := "ytpehkbkbfpbolaa", sum := "8bb3e29e052b3e0da89e70bf3dc35d3479536cbe3539dd85140f29209b54cf01", func := "turnpike/turnpikelaw13.WireBack", spec := "wireBack", apart := false }
def WireBackSaid : Prop := wireBackRow.holds Try.pinned (OpenSpec.ofChange wireBackSpec)

/-- ITS FALSE NEIGHBOUR: 'it returns false'. Refute it at one input. -/
def wireBackWrong : ChangeSpec := { name := "wireBack", fn := fun _ => fun
  | [d1, d2] => { results := [.lit (.bool false)], args := [d1, d2] }
  | _ => none }
def WireBackWrongFalsely : Prop := wireBackRow.holds Try.pinned (OpenSpec.ofChange wireBackWrong)

/-- 'turnpikelaw13.WireTurn': WHATEVER THE INPUT: true; the input reads as it did. -/
def wireTurnSpec : ChangeSpec := { name := "wireTurn", fn := fun _ => fun
  | [d1, d2, d3, d4] => { results := [.lit (.bool true)], args := [d1, d2, d3, d4] }
  | _ => none }
def wireTurnRow : OpenClaim := { program := "ytpehkbkbfpbolaa", sum := "8bb3e29e052b3e0da89e70bf3dc35d3479536cbe3539dd85140f29209b54cf01", func := "turnpike/turnpikelaw13.WireTurn", spec := "wireTurn", apart := false }
def WireTurnSaid : Prop := wireTurnRow.holds Try.pinned (OpenSpec.ofChange wireTurnSpec)

/-- ITS FALSE NEIGHBOUR: 'it returns false'. Refute it at one input. -/
def wireTurnWrong : ChangeSpec := { name := "wireTurn", fn := fun _ => fun
  | [d1, d2, d3, d4] => { results := [.lit (.bool false)], args := [d1, d2, d3, d4] }
  | _ => none }
def WireTurnWrongFalsely : Prop := wireTurnRow.holds Try.pinned (OpenSpec.ofChange wireTurnWrong)

/-- 'turnpikelaw13.WireRanks': WHATEVER THE INPUT: true; the input reads as it did. -/
def wireRanksSpec : ChangeSpec := { name := "wireRanks", fn := fun _ => fun
  | [d1, d2, d3] => { results := [.lit (.bool true)], args := [d1, d2, d3] }
  | _ => none }
def wireRanksRow : OpenClaim := { program := "ytpehkbkbfpbolaa", sum := "8bb3e29e052b3e0da89e70bf3dc35d3479536cbe3539dd85140f29209b54cf01", func := "turnpike/turnpikelaw13.WireRanks", spec := "wireRanks", apart := false }
def WireRanksSaid : Prop := wireRanksRow.holds Try.pinned (OpenSpec.ofChange wireRanksSpec)

/-- ITS FALSE NEIGHBOUR: 'it returns false'. Refute it at one input. -/
def wireRanksWrong : ChangeSpec := { name := "wireRanks", fn := fun _ => fun
  | [d1, d2, d3] => { results := [.lit (.bool false)], args := [d1, d2, d3] }
  | _ => none }
def WireRanksWrongFalsely : Prop := wireRanksRow.holds Try.pinned (OpenSpec.ofChange wireRanksWrong)

/-- 'turnpikelaw13.WireSelects': WHATEVER THE INPUT: true; the input reads as it did. -/
def wireSelectsSpec : ChangeSpec := { name := "wireSelects", fn := fun _ => fun
  | [d1, d2] => { results := [.lit (.bool true)], args := [d1, d2] }
  | _ => none }
def wireSelectsRow : OpenClaim := { program := "ytpehkbkbfpbolaa", sum := "8bb3e29e052b3e0da89e70bf3dc35d3479536cbe3539dd85140f29209b54cf01", func := "turnpike/turnpikelaw13.WireSelects", spec := "wireSelects", apart := false }
def WireSelectsSaid : Prop := wireSelectsRow.holds Try.pinned (OpenSpec.ofChange wireSelectsSpec)

/-- ITS FALSE NEIGHBOUR: 'it returns false'. Refute it at one input. -/
def wireSelectsWrong : ChangeSpec := { name := "wireSelects", fn := fun _ => fun
  | [d1, d2] => { results := [.lit (.bool false)], args := [d1, d2] }
  | _ => none }
def WireSelectsWrongFalsely : Prop := wireSelectsRow.holds Try.pinned (OpenSpec.ofChange wireSelectsWrong)

/-- 'turnpikelaw13.WireUnfolds': WHATEVER THE INPUT: true; the input reads as it did. -/
def wireUnfoldsSpec : ChangeSpec := { name := "wireUnfolds", fn := fun _ => fun
  | [d1, d2, d3] => { results := [.lit (.bool true)], args := [d1, d2, d3] }
  | _ => none }
def wireUnfoldsRow : OpenClaim := { program := "ytpehkbkbfpbolaa", sum := "8bb3e29e052b3e0da89e70bf3dc35d3479536cbe3539dd85140f29209b54cf01", func := "turnpike/turnpikelaw13.WireUnfolds", spec := "wireUnfolds", apart := false }
def WireUnfoldsSaid : Prop := wireUnfoldsRow.holds Try.pinned (OpenSpec.ofChange wireUnfoldsSpec)

/-- ITS FALSE NEIGHBOUR: 'it returns false'. Refute it at one input. -/
def wireUnfoldsWrong : ChangeSpec := { name := "wireUnfolds", fn := fun _ => fun
  | [d1, d2, d3] => { results := [.lit (.bool false)], args := [d1, d2, d3] }
  | _ => none }
def WireUnfoldsWrongFalsely : Prop := wireUnfoldsRow.holds Try.pinned (OpenSpec.ofChange wireUnfoldsWrong)

/-- 'turnpikelaw13.WireAgain': WHATEVER THE INPUT: true; the input reads as it did. -/
def wireAgainSpec : ChangeSpec := { name := "wireAgain", fn := fun _ => fun
  | [d1, d2, d3] => { results := [.lit (.bool true)], args := [d1, d2, d3] }
  | _ => none }
def wireAgainRow : OpenClaim := { program := "ytpehkbkbfpbolaa", sum := "8bb3e29e052b3e0da89e70bf3dc35d3479536cbe3539dd85140f29209b54cf01", func := "turnpike/turnpikelaw13.WireAgain", spec := "wireAgain", apart := false }
def WireAgainSaid : Prop := wireAgainRow.holds Try.pinned (OpenSpec.ofChange wireAgainSpec)

/-- ITS FALSE NEIGHBOUR: 'it returns false'. Refute it at one input. -/
def wireAgainWrong : ChangeSpec := { name := "wireAgain", fn := fun _ => fun
  | [d1, d2, d3] => { results := [.lit (.bool false)], args := [d1, d2, d3] }
  | _ => none }
def WireAgainWrongFalsely : Prop := wireAgainRow.holds Try.pinned (OpenSpec.ofChange wireAgainWrong)

/-- 'turnpikelaw13.WireRow': WHATEVER THE INPUT: true; the input reads as it did. -/
def wireRowSpec : ChangeSpec := { name := "wireRow", fn := fun _ => fun
  | [d] => { results := [.lit (.bool true)], args := [d] }
  | _ => none }
def wireRowRow : OpenClaim := { program := "ytpehkbkbfpbolaa", sum := "8bb3e29e052b3e0da89e70bf3dc35d3479536cbe3539dd85140f29209b54cf01", func := "turnpike/turnpikelaw13.WireRow", spec := "wireRow", apart := false }
def WireRowSaid : Prop := wireRowRow.holds Try.pinned (OpenSpec.ofChange wireRowSpec)

/-- ITS FALSE NEIGHBOUR: 'it returns false'. Refute it at one input. -/
def wireRowWrong : ChangeSpec := { name := "wireRow", fn := fun _ => fun
  | [d] => { results := [.lit (.bool false)], args := [d] }
  | _ => none }
def WireRowWrongFalsely : Prop := wireRowRow.holds Try.pinned (OpenSpec.ofChange wireRowWrong)

/- THE SECOND FORM. 'bulk': how many values and letters a reading holds, each counted each time it is reached (what is shared counts as often as it is met; a slice's spare places count too). A statement '..UptoSaid' is the law's where the arguments, and the package variables that the reading takes, are together of bulk at most 1048576: NARROWER than '..Said'. Prove '..Said' where nothing that the law and all that it calls make is longer than what came in: it says more and counts as full. Else prove '..UptoSaid'. A law counts once. -/
mutual
def uptoBulk {H : Type} : DataW H → Nat
  | .lit (.string bytes) => bytes.length + 1
  | .lit _ => 1
  | .nil => 1
  | .ptr d => uptoBulk d + 1
  | .slice elems spare => uptoBulkAll elems + uptoBulkAll spare + 1
  | .agg parts => uptoBulkAll parts + 1
  | .iface _ d => uptoBulk d + 1
  | .map entries => uptoBulkEntries entries + 1
  | .held _ => 1
def uptoBulkAll {H : Type} : List (DataW H) → Nat
  | [] => 0
  | d :: r => uptoBulk d + uptoBulkAll r
def uptoBulkEntries {H : Type} : List (Lit × DataW H) → Nat
  | [] => 0
  | x :: r => uptoBulkEntry x + uptoBulkEntries r
def uptoBulkEntry {H : Type} : Lit × DataW H → Nat
  | (.string bytes, d) => bytes.length + uptoBulk d + 1
  | (_, d) => uptoBulk d + 1
 end
def uptoSmall : (H : Type) → List (DataW H) → Bool := fun _ ds => decide (uptoBulkAll ds ≤ 1048576)
def OpenSpec.upto (s : _root_.Go.ChangeSpec) : _root_.Go.OpenSpec := { _root_.Go.OpenSpec.ofChange s with cond := some uptoSmall }

/-- 'turnpikelaw13.WireSums', WHERE WHAT IT READS IS OF BULK AT MOST 1048576: true; the input reads as it did. -/
def wireSumsUptoRow : OpenClaim := { program := "ytpehkbkbfpbolaa", sum := "8bb3e29e052b3e0da89e70bf3dc35d3479536cbe3539dd85140f29209b54cf01", func := "turnpike/turnpikelaw13.WireSums", spec := "wireSums", apart := false, narrowed := true }
def WireSumsUptoSaid : Prop := wireSumsUptoRow.holds Try.pinned (OpenSpec.upto wireSumsSpec)

/-- 'turnpikelaw13.WireFolds', WHERE WHAT IT READS IS OF BULK AT MOST 1048576: true; the input reads as it did. -/
def wireFoldsUptoRow : OpenClaim := { program := "ytpehkbkbfpbolaa", sum := "8bb3e29e052b3e0da89e70bf3dc35d3479536cbe3539dd85140f29209b54cf01", func := "turnpike/turnpikelaw13.WireFolds", spec := "wireFolds", apart := false, narrowed := true }
def WireFoldsUptoSaid : Prop := wireFoldsUptoRow.holds Try.pinned (OpenSpec.upto wireFoldsSpec)

/-- 'turnpikelaw13.WireOwn', WHERE WHAT IT READS IS OF BULK AT MOST 1048576: true; the input reads as it did. -/
def wireOwnUptoRow : OpenClaim := { program := "ytpehkbkbfpbolaa", sum := "8bb3e29e052b3e0da89e70bf3dc35d3479536cbe3539dd85140f29209b54cf01", func := "turnpike/turnpikelaw13.WireOwn", spec := "wireOwn", apart := false, narrowed := true }
def WireOwnUptoSaid : Prop := wireOwnUptoRow.holds Try.pinned (OpenSpec.upto wireOwnSpec)

/-- 'turnpikelaw13.WireNumbers', WHERE WHAT IT READS IS OF BULK AT MOST 1048576: true; the input reads as it did. -/
def wireNumbersUptoRow : OpenClaim := { program := "ytpehkbkbfpbolaa", sum := "8bb3e29e052b3e0da89e70bf3dc35d3479536cbe3539dd85140f29209b54cf01", func := "turnpike/turnpikelaw13.WireNumbers", spec := "wireNumbers", apart := false, narrowed := true }
def WireNumbersUptoSaid : Prop := wireNumbersUptoRow.holds Try.pinned (OpenSpec.upto wireNumbersSpec)

/-- 'turnpikelaw13.WireBack', WHERE WHAT IT READS IS OF BULK AT MOST 1048576: true; the input reads as it did. -/
def wireBackUptoRow : OpenClaim := { program := "ytpehkbkbfpbolaa", sum := "8bb3e29e052b3e0da89e70bf3dc35d3479536cbe3539dd85140f29209b54cf01", func := "turnpike/turnpikelaw13.WireBack", spec := "wireBack", apart := false, narrowed := true }
def WireBackUptoSaid : Prop := wireBackUptoRow.holds Try.pinned (OpenSpec.upto wireBackSpec)

/-- 'turnpikelaw13.WireTurn', WHERE WHAT IT READS IS OF BULK AT MOST 1048576: true; the input reads as it did. -/
def wireTurnUptoRow : OpenClaim := { program := "ytpehkbkbfpbolaa", sum := "8bb3e29e052b3e0da89e70bf3dc35d3479536cbe3539dd85140f29209b54cf01", func := "turnpike/turnpikelaw13.WireTurn", spec := "wireTurn", apart := false, narrowed := true }
def WireTurnUptoSaid : Prop := wireTurnUptoRow.holds Try.pinned (OpenSpec.upto wireTurnSpec)

/-- 'turnpikelaw13.WireRanks', WHERE WHAT IT READS IS OF BULK AT MOST 1048576: true; the input reads as it did. -/
def wireRanksUptoRow : OpenClaim := { program := "ytpehkbkbfpbolaa", sum := "8bb3e29e052b3e0da89e70bf3dc35d3479536cbe3539dd85140f29209b54cf01", func := "turnpike/turnpikelaw13.WireRanks", spec := "wireRanks", apart := false, narrowed := true }
def WireRanksUptoSaid : Prop := wireRanksUptoRow.holds Try.pinned (OpenSpec.upto wireRanksSpec)

/-- 'turnpikelaw13.WireSelects', WHERE WHAT IT READS IS OF BULK AT MOST 1048576: true; the input reads as it did. -/
def wireSelectsUptoRow : OpenClaim := { program := "ytpehkbkbfpbolaa", sum := "8bb3e29e052b3e0da89e70bf3dc35d3479536cbe3539dd85140f29209b54cf01", func := "turnpike/turnpikelaw13.WireSelects", spec := "wireSelects", apart := false, narrowed := true }
def WireSelectsUptoSaid : Prop := wireSelectsUptoRow.holds Try.pinned (OpenSpec.upto wireSelectsSpec)

/-- 'turnpikelaw13.WireUnfolds', WHERE WHAT IT READS IS OF BULK AT MOST 1048576: true; the input reads as it did. -/
def wireUnfoldsUptoRow : OpenClaim := { program := "ytpehkbkbfpbolaa", sum := "8bb3e29e052b3e0da89e70bf3dc35d3479536cbe3539dd85140f29209b54cf01", func := "turnpike/turnpikelaw13.WireUnfolds", spec := "wireUnfolds", apart := false, narrowed := true }
def WireUnfoldsUptoSaid : Prop := wireUnfoldsUptoRow.holds Try.pinned (OpenSpec.upto wireUnfoldsSpec)

/-- 'turnpikelaw13.WireAgain', WHERE WHAT IT READS IS OF BULK AT MOST 1048576: true; the input reads as it did. -/
def wireAgainUptoRow : OpenClaim := { program := "ytpehkbkbfpbolaa", sum := "8bb3e29e052b3e0da89e70bf3dc35d3479536cbe3539dd85140f29209b54cf01", func := "turnpike/turnpikelaw13.WireAgain", spec := "wireAgain", apart := false, narrowed := true }
def WireAgainUptoSaid : Prop := wireAgainUptoRow.holds Try.pinned (OpenSpec.upto wireAgainSpec)

/-- 'turnpikelaw13.WireRow', WHERE WHAT IT READS IS OF BULK AT MOST 1048576: true; the input reads as it did. -/
def wireRowUptoRow : OpenClaim := { program := "ytpehkbkbfpbolaa", sum := "8bb3e29e052b3e0da89e70bf3dc35d3479536cbe3539dd85140f29209b54cf01", func := "turnpike/turnpikelaw13.WireRow", spec := "wireRow", apart := false, narrowed := true }
def WireRowUptoSaid : Prop := wireRowUptoRow.holds Try.pinned (OpenSpec.upto wireRowSpec)

end Rows
end Go.Proofs.Ytpehkbkbfpbolaa

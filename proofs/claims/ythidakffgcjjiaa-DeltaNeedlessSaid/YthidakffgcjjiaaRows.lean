/-
  No cell of these rows narrows 'for every input' (looked for: loops, veiled, ifaces, maps, wideKeys, modest, calm, conditions, laid).
  DERIVED. THE GIVEN ROWS OF THIS SEAT. 11 by the template 'for every input the law returns true; each argument reads behind the call as it read before'; 0 by the template 'total and deterministic' (their statements: YthidakffgcjjiaaTotals.lean).
  GIVEN WITH THE SEED: the statements are not yours to turn. If you find one false, say at which input.
  Laid BY PROGRAM, IN A SANDBOX (cutbox-rows.mjs): the forced cells as the released guide's own fill.sh prints them over the translation b411b969f058eb8c… (all of the seat's roots in one cut). By AI agents, Wed Nov 11 2026. No macro, syntax, notation, axiom, sorry.
-/
import Derived.Test.YthidakffgcjjiaaChecked
import GoSem.Claim
import GoSem.ClaimJoined
import GoSem.ClaimMapViews
import Derived.JoinedTies
import Derived.KernelRfl
namespace Go.Proofs.Ythidakffgcjjiaa
/- THE CELL 'sum', in the pinned program and in every row, IS THE sha256 OF THE DUMP (.gsa) THAT YthidakffgcjjiaaProg.lean LOADS. Nothing in Lean hashes anything: it is a label: what it is worth is what the hold of that sum in a sandbox is worth. -/
noncomputable def Try.pinned : Pinned := { name := "ythidakffgcjjiaa", sum := "b411b969f058eb8c06712d49eef098f33f9c5dc2a13cc95bce1644dacd3c8767", checked := Try.checked }
namespace Rows
def none {H : Type} : Left H := { results := [], args := [] }

/-- 'handcartlaw10.LatJoins': WHATEVER THE INPUT: true; the input reads as it did. -/
def latJoinsSpec : ChangeSpec := { name := "latJoins", fn := fun _ => fun
  | [d1, d2] => { results := [.lit (.bool true)], args := [d1, d2] }
  | _ => none }
def latJoinsRow : OpenClaim := { program := "ythidakffgcjjiaa", sum := "b411b969f058eb8c06712d49eef098f33f9c5dc2a13cc95bce1644dacd3c8767", func := "handcart/handcartlaw10.LatJoins", spec := "latJoins", unfollowed := true, recurses := true, plainKeys := false, apart := false }
def LatJoinsSaid : Prop := latJoinsRow.holds Try.pinned (OpenSpec.ofChange latJoinsSpec)

/-- ITS FALSE NEIGHBOUR: 'it returns false'. Refute it at one input. -/
def latJoinsWrong : ChangeSpec := { name := "latJoins", fn := fun _ => fun
  | [d1, d2] => { results := [.lit (.bool false)], args := [d1, d2] }
  | _ => none }
def LatJoinsWrongFalsely : Prop := latJoinsRow.holds Try.pinned (OpenSpec.ofChange latJoinsWrong)

/-- 'handcartlaw10.LatLeast': WHATEVER THE INPUT: true; the input reads as it did. -/
def latLeastSpec : ChangeSpec := { name := "latLeast", fn := fun _ => fun
  | [d1, d2, d3] => { results := [.lit (.bool true)], args := [d1, d2, d3] }
  | _ => none }
def latLeastRow : OpenClaim := { program := "ythidakffgcjjiaa", sum := "b411b969f058eb8c06712d49eef098f33f9c5dc2a13cc95bce1644dacd3c8767", func := "handcart/handcartlaw10.LatLeast", spec := "latLeast", unfollowed := true, recurses := true, plainKeys := false, apart := false }
def LatLeastSaid : Prop := latLeastRow.holds Try.pinned (OpenSpec.ofChange latLeastSpec)

/-- ITS FALSE NEIGHBOUR: 'it returns false'. Refute it at one input. -/
def latLeastWrong : ChangeSpec := { name := "latLeast", fn := fun _ => fun
  | [d1, d2, d3] => { results := [.lit (.bool false)], args := [d1, d2, d3] }
  | _ => none }
def LatLeastWrongFalsely : Prop := latLeastRow.holds Try.pinned (OpenSpec.ofChange latLeastWrong)

/-- 'handcartlaw14.TagsAdds': WHATEVER THE INPUT: true; the input reads as it did. -/
def tagsAddsSpec : ChangeSpec := { name := "tagsAdds", fn := fun _ => fun
  | [d1, d2, d3] => { results := [.lit (.bool true)], args := [d1, d2, d3] }
  | _ => none }
def tagsAddsRow : OpenClaim := { program := "ythidakffgcjjiaa", sum := "b411b969f058eb8c06712d49eef098f33f9c5dc2a13cc95bce1644dacd3c8767", func := "handcart/handcartlaw14.TagsAdds", spec := "tagsAdds", unfollowed := true, recurses := true, plainKeys := false, apart := false }
def TagsAddsSaid : Prop := tagsAddsRow.holds Try.pinned (OpenSpec.ofChange tagsAddsSpec)

/-- ITS FALSE NEIGHBOUR: 'it returns false'. Refute it at one input. -/
def tagsAddsWrong : ChangeSpec := { name := "tagsAdds", fn := fun _ => fun
  | [d1, d2, d3] => { results := [.lit (.bool false)], args := [d1, d2, d3] }
  | _ => none }
def TagsAddsWrongFalsely : Prop := tagsAddsRow.holds Try.pinned (OpenSpec.ofChange tagsAddsWrong)

/-- 'handcartlaw11.DeltaLeast': WHATEVER THE INPUT: true; the input reads as it did. -/
def deltaLeastSpec : ChangeSpec := { name := "deltaLeast", fn := fun _ => fun
  | [d1, d2, d3] => { results := [.lit (.bool true)], args := [d1, d2, d3] }
  | _ => none }
def deltaLeastRow : OpenClaim := { program := "ythidakffgcjjiaa", sum := "b411b969f058eb8c06712d49eef098f33f9c5dc2a13cc95bce1644dacd3c8767", func := "handcart/handcartlaw11.DeltaLeast", spec := "deltaLeast", unfollowed := true, recurses := true, plainKeys := false, apart := false }
def DeltaLeastSaid : Prop := deltaLeastRow.holds Try.pinned (OpenSpec.ofChange deltaLeastSpec)

/-- ITS FALSE NEIGHBOUR: 'it returns false'. Refute it at one input. -/
def deltaLeastWrong : ChangeSpec := { name := "deltaLeast", fn := fun _ => fun
  | [d1, d2, d3] => { results := [.lit (.bool false)], args := [d1, d2, d3] }
  | _ => none }
def DeltaLeastWrongFalsely : Prop := deltaLeastRow.holds Try.pinned (OpenSpec.ofChange deltaLeastWrong)

/-- 'handcartlaw11.DeltaNeedless': WHATEVER THE INPUT: true; the input reads as it did. -/
def deltaNeedlessSpec : ChangeSpec := { name := "deltaNeedless", fn := fun _ => fun
  | [d] => { results := [.lit (.bool true)], args := [d] }
  | _ => none }
def deltaNeedlessRow : OpenClaim := { program := "ythidakffgcjjiaa", sum := "b411b969f058eb8c06712d49eef098f33f9c5dc2a13cc95bce1644dacd3c8767", func := "handcart/handcartlaw11.DeltaNeedless", spec := "deltaNeedless", unfollowed := true, recurses := true, plainKeys := false, apart := false }
def DeltaNeedlessSaid : Prop := deltaNeedlessRow.holds Try.pinned (OpenSpec.ofChange deltaNeedlessSpec)

/-- ITS FALSE NEIGHBOUR: 'it returns false'. Refute it at one input. -/
def deltaNeedlessWrong : ChangeSpec := { name := "deltaNeedless", fn := fun _ => fun
  | [d] => { results := [.lit (.bool false)], args := [d] }
  | _ => none }
def DeltaNeedlessWrongFalsely : Prop := deltaNeedlessRow.holds Try.pinned (OpenSpec.ofChange deltaNeedlessWrong)

/-- 'handcartlaw15.CountTurns': WHATEVER THE INPUT: true; the input reads as it did. -/
def countTurnsSpec : ChangeSpec := { name := "countTurns", fn := fun _ => fun
  | [d1, d2] => { results := [.lit (.bool true)], args := [d1, d2] }
  | _ => none }
def countTurnsRow : OpenClaim := { program := "ythidakffgcjjiaa", sum := "b411b969f058eb8c06712d49eef098f33f9c5dc2a13cc95bce1644dacd3c8767", func := "handcart/handcartlaw15.CountTurns", spec := "countTurns", unfollowed := true, recurses := true, plainKeys := false, apart := false }
def CountTurnsSaid : Prop := countTurnsRow.holds Try.pinned (OpenSpec.ofChange countTurnsSpec)

/-- ITS FALSE NEIGHBOUR: 'it returns false'. Refute it at one input. -/
def countTurnsWrong : ChangeSpec := { name := "countTurns", fn := fun _ => fun
  | [d1, d2] => { results := [.lit (.bool false)], args := [d1, d2] }
  | _ => none }
def CountTurnsWrongFalsely : Prop := countTurnsRow.holds Try.pinned (OpenSpec.ofChange countTurnsWrong)

/-- 'handcartlaw15.CountAdds': WHATEVER THE INPUT: true; the input reads as it did. -/
def countAddsSpec : ChangeSpec := { name := "countAdds", fn := fun _ => fun
  | [d1, d2, d3] => { results := [.lit (.bool true)], args := [d1, d2, d3] }
  | _ => none }
def countAddsRow : OpenClaim := { program := "ythidakffgcjjiaa", sum := "b411b969f058eb8c06712d49eef098f33f9c5dc2a13cc95bce1644dacd3c8767", func := "handcart/handcartlaw15.CountAdds", spec := "countAdds", unfollowed := true, recurses := true, plainKeys := false, apart := false }
def CountAddsSaid : Prop := countAddsRow.holds Try.pinned (OpenSpec.ofChange countAddsSpec)

/-- ITS FALSE NEIGHBOUR: 'it returns false'. Refute it at one input. -/
def countAddsWrong : ChangeSpec := { name := "countAdds", fn := fun _ => fun
  | [d1, d2, d3] => { results := [.lit (.bool false)], args := [d1, d2, d3] }
  | _ => none }
def CountAddsWrongFalsely : Prop := countAddsRow.holds Try.pinned (OpenSpec.ofChange countAddsWrong)

/-- 'handcartlaw11.DeltaParts': WHATEVER THE INPUT: true; the input reads as it did. -/
def deltaPartsSpec : ChangeSpec := { name := "deltaParts", fn := fun _ => fun
  | [d1, d2, d3] => { results := [.lit (.bool true)], args := [d1, d2, d3] }
  | _ => none }
def deltaPartsRow : OpenClaim := { program := "ythidakffgcjjiaa", sum := "b411b969f058eb8c06712d49eef098f33f9c5dc2a13cc95bce1644dacd3c8767", func := "handcart/handcartlaw11.DeltaParts", spec := "deltaParts", unfollowed := true, recurses := true, plainKeys := false, apart := false }
def DeltaPartsSaid : Prop := deltaPartsRow.holds Try.pinned (OpenSpec.ofChange deltaPartsSpec)

/-- ITS FALSE NEIGHBOUR: 'it returns false'. Refute it at one input. -/
def deltaPartsWrong : ChangeSpec := { name := "deltaParts", fn := fun _ => fun
  | [d1, d2, d3] => { results := [.lit (.bool false)], args := [d1, d2, d3] }
  | _ => none }
def DeltaPartsWrongFalsely : Prop := deltaPartsRow.holds Try.pinned (OpenSpec.ofChange deltaPartsWrong)

/-- 'handcartlaw14.TagsWin': WHATEVER THE INPUT: true; the input reads as it did. -/
def tagsWinSpec : ChangeSpec := { name := "tagsWin", fn := fun _ => fun
  | [d1, d2, d3] => { results := [.lit (.bool true)], args := [d1, d2, d3] }
  | _ => none }
def tagsWinRow : OpenClaim := { program := "ythidakffgcjjiaa", sum := "b411b969f058eb8c06712d49eef098f33f9c5dc2a13cc95bce1644dacd3c8767", func := "handcart/handcartlaw14.TagsWin", spec := "tagsWin", unfollowed := true, recurses := true, plainKeys := false, apart := false }
def TagsWinSaid : Prop := tagsWinRow.holds Try.pinned (OpenSpec.ofChange tagsWinSpec)

/-- ITS FALSE NEIGHBOUR: 'it returns false'. Refute it at one input. -/
def tagsWinWrong : ChangeSpec := { name := "tagsWin", fn := fun _ => fun
  | [d1, d2, d3] => { results := [.lit (.bool false)], args := [d1, d2, d3] }
  | _ => none }
def TagsWinWrongFalsely : Prop := tagsWinRow.holds Try.pinned (OpenSpec.ofChange tagsWinWrong)

/-- 'handcartlaw11.DeltaStands': WHATEVER THE INPUT: true; the input reads as it did. -/
def deltaStandsSpec : ChangeSpec := { name := "deltaStands", fn := fun _ => fun
  | [d] => { results := [.lit (.bool true)], args := [d] }
  | _ => none }
def deltaStandsRow : OpenClaim := { program := "ythidakffgcjjiaa", sum := "b411b969f058eb8c06712d49eef098f33f9c5dc2a13cc95bce1644dacd3c8767", func := "handcart/handcartlaw11.DeltaStands", spec := "deltaStands", unfollowed := true, recurses := true, plainKeys := false, apart := false }
def DeltaStandsSaid : Prop := deltaStandsRow.holds Try.pinned (OpenSpec.ofChange deltaStandsSpec)

/-- ITS FALSE NEIGHBOUR: 'it returns false'. Refute it at one input. -/
def deltaStandsWrong : ChangeSpec := { name := "deltaStands", fn := fun _ => fun
  | [d] => { results := [.lit (.bool false)], args := [d] }
  | _ => none }
def DeltaStandsWrongFalsely : Prop := deltaStandsRow.holds Try.pinned (OpenSpec.ofChange deltaStandsWrong)

/-- 'handcartlaw21.ChunkFewest': WHATEVER THE INPUT: true; the input reads as it did. -/
def chunkFewestSpec : ChangeSpec := { name := "chunkFewest", fn := fun _ => fun
  | [d1, d2, d3] => { results := [.lit (.bool true)], args := [d1, d2, d3] }
  | _ => none }
def chunkFewestRow : OpenClaim := { program := "ythidakffgcjjiaa", sum := "b411b969f058eb8c06712d49eef098f33f9c5dc2a13cc95bce1644dacd3c8767", func := "handcart/handcartlaw21.ChunkFewest", spec := "chunkFewest", unfollowed := true, recurses := true, plainKeys := false, apart := false }
def ChunkFewestSaid : Prop := chunkFewestRow.holds Try.pinned (OpenSpec.ofChange chunkFewestSpec)

/-- ITS FALSE NEIGHBOUR: 'it returns false'. Refute it at one input. -/
def chunkFewestWrong : ChangeSpec := { name := "chunkFewest", fn := fun _ => fun
  | [d1, d2, d3] => { results := [.lit (.bool false)], args := [d1, d2, d3] }
  | _ => none }
def ChunkFewestWrongFalsely : Prop := chunkFewestRow.holds Try.pinned (OpenSpec.ofChange chunkFewestWrong)

/- THE SECOND FORM. 'bulk': how many values and letters a reading holds, each counted each time it is reached (what is shared counts as often as it is met; a slice's spare places count too). A statement '..UptoSaid' is the law's where the arguments, and the package variables that the reading takes, are together of bulk at most 1048576: NARROWER than '..Said'. Prove '..Said' where nothing that the law and all that it calls make is longer than what came in: it says more and counts as full. Else prove '..UptoSaid'. A law counts once. -/
mutual
def uptoBulk {H : Type} : DataW H → Nat
  | .lit (.string bytes) => bytes.length + 1
  | .lit _ => 1
  | .nil => 1
  | .ptr d => uptoBulk d + 1
  | .slice elems spare => uptoBulkAll elems + uptoBulkAll spare + 1
  | .agg parts => uptoBulkAll parts + 1
  | .iface _ d => uptoBulk d + 1
  | .map entries => uptoBulkEntries entries + 1
  | .held _ => 1
def uptoBulkAll {H : Type} : List (DataW H) → Nat
  | [] => 0
  | d :: r => uptoBulk d + uptoBulkAll r
def uptoBulkEntries {H : Type} : List (Lit × DataW H) → Nat
  | [] => 0
  | x :: r => uptoBulkEntry x + uptoBulkEntries r
def uptoBulkEntry {H : Type} : Lit × DataW H → Nat
  | (.string bytes, d) => bytes.length + uptoBulk d + 1
  | (_, d) => uptoBulk d + 1
 end
def uptoSmall : (H : Type) → List (DataW H) → Bool := fun _ ds => decide (uptoBulkAll ds ≤ 1048576)
def OpenSpec.upto (s : _root_.Go.ChangeSpec) : _root_.Go.OpenSpec := { _root_.Go.OpenSpec.ofChange s with cond := some uptoSmall }

/-- 'handcartlaw10.LatJoins', WHERE WHAT IT READS IS OF BULK AT MOST 1048576: true; the input reads as it did. -/
def latJoinsUptoRow : OpenClaim := { program := "ythidakffgcjjiaa", sum := "b411b969f058eb8c06712d49eef098f33f9c5dc2a13cc95bce1644dacd3c8767", func := "handcart/handcartlaw10.LatJoins", spec := "latJoins", unfollowed := true, recurses := true, plainKeys := false, apart := false, narrowed := true }
def LatJoinsUptoSaid : Prop := latJoinsUptoRow.holds Try.pinned (OpenSpec.upto latJoinsSpec)

/-- 'handcartlaw10.LatLeast', WHERE WHAT IT READS IS OF BULK AT MOST 1048576: true; the input reads as it did. -/
def latLeastUptoRow : OpenClaim := { program := "ythidakffgcjjiaa", sum := "b411b969f058eb8c06712d49eef098f33f9c5dc2a13cc95bce1644dacd3c8767", func := "handcart/handcartlaw10.LatLeast", spec := "latLeast", unfollowed := true, recurses := true, plainKeys := false, apart := false, narrowed := true }
def LatLeastUptoSaid : Prop := latLeastUptoRow.holds Try.pinned (OpenSpec.upto latLeastSpec)

/-- 'handcartlaw14.TagsAdds', WHERE WHAT IT READS IS OF BULK AT MOST 1048576: true; the input reads as it did. -/
def tagsAddsUptoRow : OpenClaim := { program := "ythidakffgcjjiaa", sum := "b411b969f058eb8c06712d49eef098f33f9c5dc2a13cc95bce1644dacd3c8767", func := "handcart/handcartlaw14.TagsAdds", spec := "tagsAdds", unfollowed := true, recurses := true, plainKeys := false, apart := false, narrowed := true }
def TagsAddsUptoSaid : Prop := tagsAddsUptoRow.holds Try.pinned (OpenSpec.upto tagsAddsSpec)

/-- 'handcartlaw11.DeltaLeast', WHERE WHAT IT READS IS OF BULK AT MOST 1048576: true; the input reads as it did. -/
def deltaLeastUptoRow : OpenClaim := { program := "ythidakffgcjjiaa", sum := "b411b969f058eb8c06712d49eef098f33f9c5dc2a13cc95bce1644dacd3c8767", func := "handcart/handcartlaw11.DeltaLeast", spec := "deltaLeast", unfollowed := true, recurses := true, plainKeys := false, apart := false, narrowed := true }
def DeltaLeastUptoSaid : Prop := deltaLeastUptoRow.holds Try.pinned (OpenSpec.upto deltaLeastSpec)

/-- 'handcartlaw11.DeltaNeedless', WHERE WHAT IT READS IS OF BULK AT MOST 1048576: true; the input reads as it did. -/
def deltaNeedlessUptoRow : OpenClaim := { program := "ythidakffgcjjiaa", sum := "b411b969f058eb8c06712d49eef098f33f9c5dc2a13cc95bce1644dacd3c8767", func := "handcart/handcartlaw11.DeltaNeedless", spec := "deltaNeedless", unfollowed := true, recurses := true, plainKeys := false, apart := false, narrowed := true }
def DeltaNeedlessUptoSaid : Prop := deltaNeedlessUptoRow.holds Try.pinned (OpenSpec.upto deltaNeedlessSpec)

/-- 'handcartlaw15.CountTurns', WHERE WHAT IT READS IS OF BULK AT MOST 1048576: true; the input reads as it did. -/
def countTurnsUptoRow : OpenClaim := { program := "ythidakffgcjjiaa", sum := "b411b969f058eb8c06712d49eef098f33f9c5dc2a13cc95bce1644dacd3c8767", func := "handcart/handcartlaw15.CountTurns", spec := "countTurns", unfollowed := true, recurses := true, plainKeys := false, apart := false, narrowed := true }
def CountTurnsUptoSaid : Prop := countTurnsUptoRow.holds Try.pinned (OpenSpec.upto countTurnsSpec)

/-- 'handcartlaw15.CountAdds', WHERE WHAT IT READS IS OF BULK AT MOST 1048576: true; the input reads as it did. -/
def countAddsUptoRow : OpenClaim := { program := "ythidakffgcjjiaa", sum := "b411b969f058eb8c06712d49eef098f33f9c5dc2a13cc95bce1644dacd3c8767", func := "handcart/handcartlaw15.CountAdds", spec := "countAdds", unfollowed := true, recurses := true, plainKeys := false, apart := false, narrowed := true }
def CountAddsUptoSaid : Prop := countAddsUptoRow.holds Try.pinned (OpenSpec.upto countAddsSpec)

/-- 'handcartlaw11.DeltaParts', WHERE WHAT IT READS IS OF BULK AT MOST 1048576: true; the input reads as it did. -/
def deltaPartsUptoRow : OpenClaim := { program := "ythidakffgcjjiaa", sum := "b411b969f058eb8c06712d49eef098f33f9c5dc2a13cc95bce1644dacd3c8767", func := "handcart/handcartlaw11.DeltaParts", spec := "deltaParts", unfollowed := true, recurses := true, plainKeys := false, apart := false, narrowed := true }
def DeltaPartsUptoSaid : Prop := deltaPartsUptoRow.holds Try.pinned (OpenSpec.upto deltaPartsSpec)

/-- 'handcartlaw14.TagsWin', WHERE WHAT IT READS IS OF BULK AT MOST 1048576: true; the input reads as it did. -/
def tagsWinUptoRow : OpenClaim := { program := "ythidakffgcjjiaa", sum := "b411b969f058eb8c06712d49eef098f33f9c5dc2a13cc95bce1644dacd3c8767", func := "handcart/handcartlaw14.TagsWin", spec := "tagsWin", unfollowed := true, recurses := true, plainKeys := false, apart := false, narrowed := true }
def TagsWinUptoSaid : Prop := tagsWinUptoRow.holds Try.pinned (OpenSpec.upto tagsWinSpec)

/-- 'handcartlaw11.DeltaStands', WHERE WHAT IT READS IS OF BULK AT MOST 1048576: true; the input reads as it did. -/
def deltaStandsUptoRow : OpenClaim := { program := "ythidakffgcjjiaa", sum := "b411b969f058eb8c06712d49eef098f33f9c5dc2a13cc95bce1644dacd3c8767", func := "handcart/handcartlaw11.DeltaStands", spec := "deltaStands", unfollowed := true, recurses := true, plainKeys := false, apart := false, narrowed := true }
def DeltaStandsUptoSaid : Prop := deltaStandsUptoRow.holds Try.pinned (OpenSpec.upto deltaStandsSpec)

/-- 'handcartlaw21.ChunkFewest', WHERE WHAT IT READS IS OF BULK AT MOST 1048576: true; the input reads as it did. -/
def chunkFewestUptoRow : OpenClaim := { program := "ythidakffgcjjiaa", sum := "b411b969f058eb8c06712d49eef098f33f9c5dc2a13cc95bce1644dacd3c8767", func := "handcart/handcartlaw21.ChunkFewest", spec := "chunkFewest", unfollowed := true, recurses := true, plainKeys := false, apart := false, narrowed := true }
def ChunkFewestUptoSaid : Prop := chunkFewestUptoRow.holds Try.pinned (OpenSpec.upto chunkFewestSpec)

end Rows
end Go.Proofs.Ythidakffgcjjiaa

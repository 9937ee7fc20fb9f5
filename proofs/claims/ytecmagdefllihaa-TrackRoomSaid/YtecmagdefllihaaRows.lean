/-
  No cell of these rows narrows 'for every input' (looked for: loops, veiled, ifaces, maps, wideKeys, modest, calm, conditions, laid).
  DERIVED. THE GIVEN ROWS OF THIS SEAT. 12 by the template 'for every input the law returns true; each argument reads behind the call as it read before'; 0 by the template 'total and deterministic' (their statements: YtecmagdefllihaaTotals.lean).
  GIVEN WITH THE SEED: the statements are not yours to turn. If you find one false, say at which input.
  Laid BY PROGRAM, IN A SANDBOX (cutbox-rows.mjs): the forced cells as the released guide's own fill.sh prints them over the translation db74351e92614514… (all of the seat's roots in one cut). By AI agents, Wed Nov 11 2026. No macro, syntax, notation, axiom, sorry.
-/
import Derived.Test.YtecmagdefllihaaChecked
import GoSem.Claim
import GoSem.ClaimJoined
import GoSem.ClaimMapViews
import Derived.JoinedTies
import Derived.KernelRfl
namespace Go.Proofs.Ytecmagdefllihaa
/- THE CELL 'sum', in the pinned program and in every row, IS THE sha256 OF THE DUMP (.gsa) THAT YtecmagdefllihaaProg.lean LOADS. Nothing in Lean hashes anything: it is a label: what it is worth is what the hold of that sum in a sandbox is worth. -/
noncomputable def Try.pinned : Pinned := { name := "ytecmagdefllihaa", sum := "db74351e926145142f8856f33b7f4b5043edad92b607924042b64d1321e217af", checked := Try.checked }
namespace Rows
def none {H : Type} : Left H := { results := [], args := [] }

/-- 'gatehouselaw18.TrackKnown': WHATEVER THE INPUT: true; the input reads as it did. -/
def trackKnownSpec : ChangeSpec := { name := "trackKnown", fn := fun _ => fun
  | [] => { results := [.lit (.bool true)], args := [] }
  | _ => none }
def trackKnownRow : OpenClaim := { program := "ytecmagdefllihaa", sum := "db74351e926145142f8856f33b7f4b5043edad92b607924042b64d1321e217af", func := "gatehouse/gatehouselaw18.TrackKnown", spec := "trackKnown", unfollowed := true, recurses := true, apart := false }
def TrackKnownSaid : Prop := trackKnownRow.holds Try.pinned (OpenSpec.ofChange trackKnownSpec)

/-- ITS FALSE NEIGHBOUR: 'it returns false'. Refute it at one input. -/
def trackKnownWrong : ChangeSpec := { name := "trackKnown", fn := fun _ => fun
  | [] => { results := [.lit (.bool false)], args := [] }
  | _ => none }
def TrackKnownWrongFalsely : Prop := trackKnownRow.holds Try.pinned (OpenSpec.ofChange trackKnownWrong)

/-- 'gatehouselaw18.TrackSecs': WHATEVER THE INPUT: true; the input reads as it did. -/
def trackSecsSpec : ChangeSpec := { name := "trackSecs", fn := fun _ => fun
  | [d1, d2] => { results := [.lit (.bool true)], args := [d1, d2] }
  | _ => none }
def trackSecsRow : OpenClaim := { program := "ytecmagdefllihaa", sum := "db74351e926145142f8856f33b7f4b5043edad92b607924042b64d1321e217af", func := "gatehouse/gatehouselaw18.TrackSecs", spec := "trackSecs", unfollowed := true, recurses := true, apart := false }
def TrackSecsSaid : Prop := trackSecsRow.holds Try.pinned (OpenSpec.ofChange trackSecsSpec)

/-- ITS FALSE NEIGHBOUR: 'it returns false'. Refute it at one input. -/
def trackSecsWrong : ChangeSpec := { name := "trackSecs", fn := fun _ => fun
  | [d1, d2] => { results := [.lit (.bool false)], args := [d1, d2] }
  | _ => none }
def TrackSecsWrongFalsely : Prop := trackSecsRow.holds Try.pinned (OpenSpec.ofChange trackSecsWrong)

/-- 'gatehouselaw18.TrackWays': WHATEVER THE INPUT: true; the input reads as it did. -/
def trackWaysSpec : ChangeSpec := { name := "trackWays", fn := fun _ => fun
  | [d] => { results := [.lit (.bool true)], args := [d] }
  | _ => none }
def trackWaysRow : OpenClaim := { program := "ytecmagdefllihaa", sum := "db74351e926145142f8856f33b7f4b5043edad92b607924042b64d1321e217af", func := "gatehouse/gatehouselaw18.TrackWays", spec := "trackWays", unfollowed := true, recurses := true, apart := false }
def TrackWaysSaid : Prop := trackWaysRow.holds Try.pinned (OpenSpec.ofChange trackWaysSpec)

/-- ITS FALSE NEIGHBOUR: 'it returns false'. Refute it at one input. -/
def trackWaysWrong : ChangeSpec := { name := "trackWays", fn := fun _ => fun
  | [d] => { results := [.lit (.bool false)], args := [d] }
  | _ => none }
def TrackWaysWrongFalsely : Prop := trackWaysRow.holds Try.pinned (OpenSpec.ofChange trackWaysWrong)

/-- 'gatehouselaw18.TrackShakes': WHATEVER THE INPUT: true; the input reads as it did. -/
def trackShakesSpec : ChangeSpec := { name := "trackShakes", fn := fun _ => fun
  | [d1, d2, d3] => { results := [.lit (.bool true)], args := [d1, d2, d3] }
  | _ => none }
def trackShakesRow : OpenClaim := { program := "ytecmagdefllihaa", sum := "db74351e926145142f8856f33b7f4b5043edad92b607924042b64d1321e217af", func := "gatehouse/gatehouselaw18.TrackShakes", spec := "trackShakes", unfollowed := true, recurses := true, apart := false }
def TrackShakesSaid : Prop := trackShakesRow.holds Try.pinned (OpenSpec.ofChange trackShakesSpec)

/-- ITS FALSE NEIGHBOUR: 'it returns false'. Refute it at one input. -/
def trackShakesWrong : ChangeSpec := { name := "trackShakes", fn := fun _ => fun
  | [d1, d2, d3] => { results := [.lit (.bool false)], args := [d1, d2, d3] }
  | _ => none }
def TrackShakesWrongFalsely : Prop := trackShakesRow.holds Try.pinned (OpenSpec.ofChange trackShakesWrong)

/-- 'gatehouselaw18.TrackRoom': WHATEVER THE INPUT: true; the input reads as it did. -/
def trackRoomSpec : ChangeSpec := { name := "trackRoom", fn := fun _ => fun
  | [d1, d2, d3] => { results := [.lit (.bool true)], args := [d1, d2, d3] }
  | _ => none }
def trackRoomRow : OpenClaim := { program := "ytecmagdefllihaa", sum := "db74351e926145142f8856f33b7f4b5043edad92b607924042b64d1321e217af", func := "gatehouse/gatehouselaw18.TrackRoom", spec := "trackRoom", unfollowed := true, recurses := true, apart := false }
def TrackRoomSaid : Prop := trackRoomRow.holds Try.pinned (OpenSpec.ofChange trackRoomSpec)

/-- ITS FALSE NEIGHBOUR: 'it returns false'. Refute it at one input. -/
def trackRoomWrong : ChangeSpec := { name := "trackRoom", fn := fun _ => fun
  | [d1, d2, d3] => { results := [.lit (.bool false)], args := [d1, d2, d3] }
  | _ => none }
def TrackRoomWrongFalsely : Prop := trackRoomRow.holds Try.pinned (OpenSpec.ofChange trackRoomWrong)

/-- 'gatehouselaw19.NatBack': WHATEVER THE INPUT: true; the input reads as it did. -/
def natBackSpec : ChangeSpec := { name := "natBack", fn := fun _ => fun
  | [d1, d2, d3, d4, d5] => { results := [.lit (.bool true)], args := [d1, d2, d3, d4, d5] }
  | _ => none }
def natBackRow : OpenClaim := { program := "ytecmagdefllihaa", sum := "db74351e926145142f8856f33b7f4b5043edad92b607924042b64d1321e217af", func := "gatehouse/gatehouselaw19.NatBack", spec := "natBack", unfollowed := true, recurses := true, apart := false }
def NatBackSaid : Prop := natBackRow.holds Try.pinned (OpenSpec.ofChange natBackSpec)

/-- ITS FALSE NEIGHBOUR: 'it returns false'. Refute it at one input. -/
def natBackWrong : ChangeSpec := { name := "natBack", fn := fun _ => fun
  | [d1, d2, d3, d4, d5] => { results := [.lit (.bool false)], args := [d1, d2, d3, d4, d5] }
  | _ => none }
def NatBackWrongFalsely : Prop := natBackRow.holds Try.pinned (OpenSpec.ofChange natBackWrong)

/-- 'gatehouselaw19.NatShut': WHATEVER THE INPUT: true; the input reads as it did. -/
def natShutSpec : ChangeSpec := { name := "natShut", fn := fun _ => fun
  | [d1, d2] => { results := [.lit (.bool true)], args := [d1, d2] }
  | _ => none }
def natShutRow : OpenClaim := { program := "ytecmagdefllihaa", sum := "db74351e926145142f8856f33b7f4b5043edad92b607924042b64d1321e217af", func := "gatehouse/gatehouselaw19.NatShut", spec := "natShut", unfollowed := true, recurses := true, apart := false }
def NatShutSaid : Prop := natShutRow.holds Try.pinned (OpenSpec.ofChange natShutSpec)

/-- ITS FALSE NEIGHBOUR: 'it returns false'. Refute it at one input. -/
def natShutWrong : ChangeSpec := { name := "natShut", fn := fun _ => fun
  | [d1, d2] => { results := [.lit (.bool false)], args := [d1, d2] }
  | _ => none }
def NatShutWrongFalsely : Prop := natShutRow.holds Try.pinned (OpenSpec.ofChange natShutWrong)

/-- 'gatehouselaw19.NatEnds': WHATEVER THE INPUT: true; the input reads as it did. -/
def natEndsSpec : ChangeSpec := { name := "natEnds", fn := fun _ => fun
  | [d1, d2, d3, d4] => { results := [.lit (.bool true)], args := [d1, d2, d3, d4] }
  | _ => none }
def natEndsRow : OpenClaim := { program := "ytecmagdefllihaa", sum := "db74351e926145142f8856f33b7f4b5043edad92b607924042b64d1321e217af", func := "gatehouse/gatehouselaw19.NatEnds", spec := "natEnds", unfollowed := true, recurses := true, apart := false }
def NatEndsSaid : Prop := natEndsRow.holds Try.pinned (OpenSpec.ofChange natEndsSpec)

/-- ITS FALSE NEIGHBOUR: 'it returns false'. Refute it at one input. -/
def natEndsWrong : ChangeSpec := { name := "natEnds", fn := fun _ => fun
  | [d1, d2, d3, d4] => { results := [.lit (.bool false)], args := [d1, d2, d3, d4] }
  | _ => none }
def NatEndsWrongFalsely : Prop := natEndsRow.holds Try.pinned (OpenSpec.ofChange natEndsWrong)

/-- 'gatehouselaw19.NatLives': WHATEVER THE INPUT: true; the input reads as it did. -/
def natLivesSpec : ChangeSpec := { name := "natLives", fn := fun _ => fun
  | [d1, d2] => { results := [.lit (.bool true)], args := [d1, d2] }
  | _ => none }
def natLivesRow : OpenClaim := { program := "ytecmagdefllihaa", sum := "db74351e926145142f8856f33b7f4b5043edad92b607924042b64d1321e217af", func := "gatehouse/gatehouselaw19.NatLives", spec := "natLives", unfollowed := true, recurses := true, apart := false }
def NatLivesSaid : Prop := natLivesRow.holds Try.pinned (OpenSpec.ofChange natLivesSpec)

/-- ITS FALSE NEIGHBOUR: 'it returns false'. Refute it at one input. -/
def natLivesWrong : ChangeSpec := { name := "natLives", fn := fun _ => fun
  | [d1, d2] => { results := [.lit (.bool false)], args := [d1, d2] }
  | _ => none }
def NatLivesWrongFalsely : Prop := natLivesRow.holds Try.pinned (OpenSpec.ofChange natLivesWrong)

/-- 'gatehouselaw19.NatPasses': WHATEVER THE INPUT: true; the input reads as it did. -/
def natPassesSpec : ChangeSpec := { name := "natPasses", fn := fun _ => fun
  | [d1, d2] => { results := [.lit (.bool true)], args := [d1, d2] }
  | _ => none }
def natPassesRow : OpenClaim := { program := "ytecmagdefllihaa", sum := "db74351e926145142f8856f33b7f4b5043edad92b607924042b64d1321e217af", func := "gatehouse/gatehouselaw19.NatPasses", spec := "natPasses", unfollowed := true, recurses := true, apart := false }
def NatPassesSaid : Prop := natPassesRow.holds Try.pinned (OpenSpec.ofChange natPassesSpec)

/-- ITS FALSE NEIGHBOUR: 'it returns false'. Refute it at one input. -/
def natPassesWrong : ChangeSpec := { name := "natPasses", fn := fun _ => fun
  | [d1, d2] => { results := [.lit (.bool false)], args := [d1, d2] }
  | _ => none }
def NatPassesWrongFalsely : Prop := natPassesRow.holds Try.pinned (OpenSpec.ofChange natPassesWrong)

/-- 'gatehouselaw19.NatStatics': WHATEVER THE INPUT: true; the input reads as it did. -/
def natStaticsSpec : ChangeSpec := { name := "natStatics", fn := fun _ => fun
  | [d1, d2, d3, d4, d5] => { results := [.lit (.bool true)], args := [d1, d2, d3, d4, d5] }
  | _ => none }
def natStaticsRow : OpenClaim := { program := "ytecmagdefllihaa", sum := "db74351e926145142f8856f33b7f4b5043edad92b607924042b64d1321e217af", func := "gatehouse/gatehouselaw19.NatStatics", spec := "natStatics", unfollowed := true, recurses := true, apart := false }
def NatStaticsSaid : Prop := natStaticsRow.holds Try.pinned (OpenSpec.ofChange natStaticsSpec)

/-- ITS FALSE NEIGHBOUR: 'it returns false'. Refute it at one input. -/
def natStaticsWrong : ChangeSpec := { name := "natStatics", fn := fun _ => fun
  | [d1, d2, d3, d4, d5] => { results := [.lit (.bool false)], args := [d1, d2, d3, d4, d5] }
  | _ => none }
def NatStaticsWrongFalsely : Prop := natStaticsRow.holds Try.pinned (OpenSpec.ofChange natStaticsWrong)

/-- 'gatehouselaw19.NatKnown': WHATEVER THE INPUT: true; the input reads as it did. -/
def natKnownSpec : ChangeSpec := { name := "natKnown", fn := fun _ => fun
  | [] => { results := [.lit (.bool true)], args := [] }
  | _ => none }
def natKnownRow : OpenClaim := { program := "ytecmagdefllihaa", sum := "db74351e926145142f8856f33b7f4b5043edad92b607924042b64d1321e217af", func := "gatehouse/gatehouselaw19.NatKnown", spec := "natKnown", unfollowed := true, recurses := true, apart := false }
def NatKnownSaid : Prop := natKnownRow.holds Try.pinned (OpenSpec.ofChange natKnownSpec)

/-- ITS FALSE NEIGHBOUR: 'it returns false'. Refute it at one input. -/
def natKnownWrong : ChangeSpec := { name := "natKnown", fn := fun _ => fun
  | [] => { results := [.lit (.bool false)], args := [] }
  | _ => none }
def NatKnownWrongFalsely : Prop := natKnownRow.holds Try.pinned (OpenSpec.ofChange natKnownWrong)

/- THE SECOND FORM. 'bulk': how many values and letters a reading holds, each counted each time it is reached (what is shared counts as often as it is met; a slice's spare places count too). A statement '..UptoSaid' is the law's where the arguments, and the package variables that the reading takes, are together of bulk at most 1048576: NARROWER than '..Said'. Prove '..Said' where nothing that the law and all that it calls make is longer than what came in: it says more and counts as full. Else prove '..UptoSaid'. A law counts once. -/
mutual
def uptoBulk {H : Type} : DataW H → Nat
  | .lit (.string bytes) => bytes.length + 1
  | .lit _ => 1
  | .nil => 1
  | .ptr d => uptoBulk d + 1
  | .slice elems spare => uptoBulkAll elems + uptoBulkAll spare + 1
  | .agg parts => uptoBulkAll parts + 1
  | .iface _ d => uptoBulk d + 1
  | .map entries => uptoBulkEntries entries + 1
  | .held _ => 1
def uptoBulkAll {H : Type} : List (DataW H) → Nat
  | [] => 0
  | d :: r => uptoBulk d + uptoBulkAll r
def uptoBulkEntries {H : Type} : List (Lit × DataW H) → Nat
  | [] => 0
  | x :: r => uptoBulkEntry x + uptoBulkEntries r
def uptoBulkEntry {H : Type} : Lit × DataW H → Nat
  | (.string bytes, d) => bytes.length + uptoBulk d + 1
  | (_, d) => uptoBulk d + 1
 end
def uptoSmall : (H : Type) → List (DataW H) → Bool := fun _ ds => decide (uptoBulkAll ds ≤ 1048576)
def OpenSpec.upto (s : _root_.Go.ChangeSpec) : _root_.Go.OpenSpec := { _root_.Go.OpenSpec.ofChange s with cond := some uptoSmall }

/-- 'gatehouselaw18.TrackKnown', WHERE WHAT IT READS IS OF BULK AT MOST 1048576: true; the input reads as it did. -/
def trackKnownUptoRow : OpenClaim := { program := "ytecmagdefllihaa", sum := "db74351e926145142f8856f33b7f4b5043edad92b607924042b64d1321e217af", func := "gatehouse/gatehouselaw18.TrackKnown", spec := "trackKnown", unfollowed := true, recurses := true, apart := false, narrowed := true }
def TrackKnownUptoSaid : Prop := trackKnownUptoRow.holds Try.pinned (OpenSpec.upto trackKnownSpec)

/-- 'gatehouselaw18.TrackSecs', WHERE WHAT IT READS IS OF BULK AT MOST 1048576: true; the input reads as it did. -/
def trackSecsUptoRow : OpenClaim := { program := "ytecmagdefllihaa", sum := "db74351e926145142f8856f33b7f4b5043edad92b607924042b64d1321e217af", func := "gatehouse/gatehouselaw18.TrackSecs", spec := "trackSecs", unfollowed := true, recurses := true, apart := false, narrowed := true }
def TrackSecsUptoSaid : Prop := trackSecsUptoRow.holds Try.pinned (OpenSpec.upto trackSecsSpec)

/-- 'gatehouselaw18.TrackWays', WHERE WHAT IT READS IS OF BULK AT MOST 1048576: true; the input reads as it did. -/
def trackWaysUptoRow : OpenClaim := { program := "ytecmagdefllihaa", sum := "db74351e926145142f8856f33b7f4b5043edad92b607924042b64d1321e217af", func := "gatehouse/gatehouselaw18.TrackWays", spec := "trackWays", unfollowed := true, recurses := true, apart := false, narrowed := true }
def TrackWaysUptoSaid : Prop := trackWaysUptoRow.holds Try.pinned (OpenSpec.upto trackWaysSpec)

/-- 'gatehouselaw18.TrackShakes', WHERE WHAT IT READS IS OF BULK AT MOST 1048576: true; the input reads as it did. -/
def trackShakesUptoRow : OpenClaim := { program := "ytecmagdefllihaa", sum := "db74351e926145142f8856f33b7f4b5043edad92b607924042b64d1321e217af", func := "gatehouse/gatehouselaw18.TrackShakes", spec := "trackShakes", unfollowed := true, recurses := true, apart := false, narrowed := true }
def TrackShakesUptoSaid : Prop := trackShakesUptoRow.holds Try.pinned (OpenSpec.upto trackShakesSpec)

/-- 'gatehouselaw18.TrackRoom', WHERE WHAT IT READS IS OF BULK AT MOST 1048576: true; the input reads as it did. -/
def trackRoomUptoRow : OpenClaim := { program := "ytecmagdefllihaa", sum := "db74351e926145142f8856f33b7f4b5043edad92b607924042b64d1321e217af", func := "gatehouse/gatehouselaw18.TrackRoom", spec := "trackRoom", unfollowed := true, recurses := true, apart := false, narrowed := true }
def TrackRoomUptoSaid : Prop := trackRoomUptoRow.holds Try.pinned (OpenSpec.upto trackRoomSpec)

/-- 'gatehouselaw19.NatBack', WHERE WHAT IT READS IS OF BULK AT MOST 1048576: true; the input reads as it did. -/
def natBackUptoRow : OpenClaim := { program := "ytecmagdefllihaa", sum := "db74351e926145142f8856f33b7f4b5043edad92b607924042b64d1321e217af", func := "gatehouse/gatehouselaw19.NatBack", spec := "natBack", unfollowed := true, recurses := true, apart := false, narrowed := true }
def NatBackUptoSaid : Prop := natBackUptoRow.holds Try.pinned (OpenSpec.upto natBackSpec)

/-- 'gatehouselaw19.NatShut', WHERE WHAT IT READS IS OF BULK AT MOST 1048576: true; the input reads as it did. -/
def natShutUptoRow : OpenClaim := { program := "ytecmagdefllihaa", sum := "db74351e926145142f8856f33b7f4b5043edad92b607924042b64d1321e217af", func := "gatehouse/gatehouselaw19.NatShut", spec := "natShut", unfollowed := true, recurses := true, apart := false, narrowed := true }
def NatShutUptoSaid : Prop := natShutUptoRow.holds Try.pinned (OpenSpec.upto natShutSpec)

/-- 'gatehouselaw19.NatEnds', WHERE WHAT IT READS IS OF BULK AT MOST 1048576: true; the input reads as it did. -/
def natEndsUptoRow : OpenClaim := { program := "ytecmagdefllihaa", sum := "db74351e926145142f8856f33b7f4b5043edad92b607924042b64d1321e217af", func := "gatehouse/gatehouselaw19.NatEnds", spec := "natEnds", unfollowed := true, recurses := true, apart := false, narrowed := true }
def NatEndsUptoSaid : Prop := natEndsUptoRow.holds Try.pinned (OpenSpec.upto natEndsSpec)

/-- 'gatehouselaw19.NatLives', WHERE WHAT IT READS IS OF BULK AT MOST 1048576: true; the input reads as it did. -/
def natLivesUptoRow : OpenClaim := { program := "ytecmagdefllihaa", sum := "db74351e926145142f8856f33b7f4b5043edad92b607924042b64d1321e217af", func := "gatehouse/gatehouselaw19.NatLives", spec := "natLives", unfollowed := true, recurses := true, apart := false, narrowed := true }
def NatLivesUptoSaid : Prop := natLivesUptoRow.holds Try.pinned (OpenSpec.upto natLivesSpec)

/-- 'gatehouselaw19.NatPasses', WHERE WHAT IT READS IS OF BULK AT MOST 1048576: true; the input reads as it did. -/
def natPassesUptoRow : OpenClaim := { program := "ytecmagdefllihaa", sum := "db74351e926145142f8856f33b7f4b5043edad92b607924042b64d1321e217af", func := "gatehouse/gatehouselaw19.NatPasses", spec := "natPasses", unfollowed := true, recurses := true, apart := false, narrowed := true }
def NatPassesUptoSaid : Prop := natPassesUptoRow.holds Try.pinned (OpenSpec.upto natPassesSpec)

/-- 'gatehouselaw19.NatStatics', WHERE WHAT IT READS IS OF BULK AT MOST 1048576: true; the input reads as it did. -/
def natStaticsUptoRow : OpenClaim := { program := "ytecmagdefllihaa", sum := "db74351e926145142f8856f33b7f4b5043edad92b607924042b64d1321e217af", func := "gatehouse/gatehouselaw19.NatStatics", spec := "natStatics", unfollowed := true, recurses := true, apart := false, narrowed := true }
def NatStaticsUptoSaid : Prop := natStaticsUptoRow.holds Try.pinned (OpenSpec.upto natStaticsSpec)

/-- 'gatehouselaw19.NatKnown', WHERE WHAT IT READS IS OF BULK AT MOST 1048576: true; the input reads as it did. -/
def natKnownUptoRow : OpenClaim := { program := "ytecmagdefllihaa", sum := "db74351e926145142f8856f33b7f4b5043edad92b607924042b64d1321e217af", func := "gatehouse/gatehouselaw19.NatKnown", spec := "natKnown", unfollowed := true, recurses := true, apart := false, narrowed := true }
def NatKnownUptoSaid : Prop := natKnownUptoRow.holds Try.pinned (OpenSpec.upto natKnownSpec)

end Rows
end Go.Proofs.Ytecmagdefllihaa

/-
  No cell of these rows narrows 'for every input' (looked for: loops, veiled, ifaces, maps, wideKeys, modest, calm, conditions, laid).
  DERIVED. THE GIVEN ROWS OF THIS SEAT. 22 by the template 'for every input the law returns true; each argument reads behind the call as it read before'; 0 by the template 'total and deterministic' (their statements: YtoekncmggjhmjaaTotals.lean).
  GIVEN WITH THE SEED: the statements are not yours to turn. If you find one false, say at which input.
  Laid BY PROGRAM, IN A SANDBOX (cutbox-rows.mjs): the forced cells as the released guide's own fill.sh prints them over the translation dd16ea2aacd81805… (all of the seat's roots in one cut). By AI agents, Wed Nov 11 2026. No macro, syntax, notation, axiom, sorry.
-/
import Derived.Test.YtoekncmggjhmjaaChecked
import GoSem.Claim
import GoSem.ClaimJoined
import GoSem.ClaimMapViews
import Derived.JoinedTies
import Derived.KernelRfl
namespace Go.Proofs.Ytoekncmggjhmjaa
/- THE CELL 'sum', in the pinned program and in every row, IS THE sha256 OF THE DUMP (.gsa) THAT YtoekncmggjhmjaaProg.lean LOADS. Nothing in Lean hashes anything: it is a label: what it is worth is what the hold of that sum in a sandbox is worth. -/
noncomputable def Try.pinned : Pinned := { name := "ytoekncmggjhmjaa", sum := "dd16ea2aacd81805fc6dc164a60bd95d74239ba46e29db82ac5a522a489131a2", checked := Try.checked }
namespace Rows
def none {H : Type} : Left H := { results := [], args := [] }

/-- 'gatehouselaw9.IcmpReads': WHATEVER THE INPUT: true; the input reads as it did. -/
def icmpReadsSpec : ChangeSpec := { name := "icmpReads", fn := fun _ => fun
  | [d] => { results := [.lit (.bool true)], args := [d] }
  | _ => none }
def icmpReadsRow : OpenClaim := { program := "ytoekncmggjhmjaa", sum := "dd16ea2aacd81805fc6dc164a60bd95d74239ba46e29db82ac5a522a489131a2", func := "gatehouse/gatehouselaw9.IcmpReads", spec := "icmpReads", apart := false }
def IcmpReadsSaid : Prop := icmpReadsRow.holds Try.pinned (OpenSpec.ofChange icmpReadsSpec)

/-- ITS FALSE NEIGHBOUR: 'it returns false'. Refute it at one input. -/
def icmpReadsWrong : ChangeSpec := { name := "icmpReads", fn := fun _ => fun
  | [d] => { results := [.lit (.bool false)], args := [d] }
  | _ => none }
def IcmpReadsWrongFalsely : Prop := icmpReadsRow.holds Try.pinned (OpenSpec.ofChange icmpReadsWrong)

/-- 'gatehouselaw9.IcmpWrites': WHATEVER THE INPUT: true; the input reads as it did. -/
def icmpWritesSpec : ChangeSpec := { name := "icmpWrites", fn := fun _ => fun
  | [d1, d2] => { results := [.lit (.bool true)], args := [d1, d2] }
  | _ => none }
def icmpWritesRow : OpenClaim := { program := "ytoekncmggjhmjaa", sum := "dd16ea2aacd81805fc6dc164a60bd95d74239ba46e29db82ac5a522a489131a2", func := "gatehouse/gatehouselaw9.IcmpWrites", spec := "icmpWrites", apart := false }
def IcmpWritesSaid : Prop := icmpWritesRow.holds Try.pinned (OpenSpec.ofChange icmpWritesSpec)

/-- ITS FALSE NEIGHBOUR: 'it returns false'. Refute it at one input. -/
def icmpWritesWrong : ChangeSpec := { name := "icmpWrites", fn := fun _ => fun
  | [d1, d2] => { results := [.lit (.bool false)], args := [d1, d2] }
  | _ => none }
def IcmpWritesWrongFalsely : Prop := icmpWritesRow.holds Try.pinned (OpenSpec.ofChange icmpWritesWrong)

/-- 'gatehouselaw9.IcmpBits': WHATEVER THE INPUT: true; the input reads as it did. -/
def icmpBitsSpec : ChangeSpec := { name := "icmpBits", fn := fun _ => fun
  | [d1, d2] => { results := [.lit (.bool true)], args := [d1, d2] }
  | _ => none }
def icmpBitsRow : OpenClaim := { program := "ytoekncmggjhmjaa", sum := "dd16ea2aacd81805fc6dc164a60bd95d74239ba46e29db82ac5a522a489131a2", func := "gatehouse/gatehouselaw9.IcmpBits", spec := "icmpBits", apart := false }
def IcmpBitsSaid : Prop := icmpBitsRow.holds Try.pinned (OpenSpec.ofChange icmpBitsSpec)

/-- ITS FALSE NEIGHBOUR: 'it returns false'. Refute it at one input. -/
def icmpBitsWrong : ChangeSpec := { name := "icmpBits", fn := fun _ => fun
  | [d1, d2] => { results := [.lit (.bool false)], args := [d1, d2] }
  | _ => none }
def IcmpBitsWrongFalsely : Prop := icmpBitsRow.holds Try.pinned (OpenSpec.ofChange icmpBitsWrong)

/-- 'gatehouselaw9.IcmpKinds': WHATEVER THE INPUT: true; the input reads as it did. -/
def icmpKindsSpec : ChangeSpec := { name := "icmpKinds", fn := fun _ => fun
  | [d] => { results := [.lit (.bool true)], args := [d] }
  | _ => none }
def icmpKindsRow : OpenClaim := { program := "ytoekncmggjhmjaa", sum := "dd16ea2aacd81805fc6dc164a60bd95d74239ba46e29db82ac5a522a489131a2", func := "gatehouse/gatehouselaw9.IcmpKinds", spec := "icmpKinds", apart := false }
def IcmpKindsSaid : Prop := icmpKindsRow.holds Try.pinned (OpenSpec.ofChange icmpKindsSpec)

/-- ITS FALSE NEIGHBOUR: 'it returns false'. Refute it at one input. -/
def icmpKindsWrong : ChangeSpec := { name := "icmpKinds", fn := fun _ => fun
  | [d] => { results := [.lit (.bool false)], args := [d] }
  | _ => none }
def IcmpKindsWrongFalsely : Prop := icmpKindsRow.holds Try.pinned (OpenSpec.ofChange icmpKindsWrong)

/-- 'gatehouselaw7.UdpKnown': WHATEVER THE INPUT: true; the input reads as it did. -/
def udpKnownSpec : ChangeSpec := { name := "udpKnown", fn := fun _ => fun
  | [] => { results := [.lit (.bool true)], args := [] }
  | _ => none }
def udpKnownRow : OpenClaim := { program := "ytoekncmggjhmjaa", sum := "dd16ea2aacd81805fc6dc164a60bd95d74239ba46e29db82ac5a522a489131a2", func := "gatehouse/gatehouselaw7.UdpKnown", spec := "udpKnown", apart := false }
def UdpKnownSaid : Prop := udpKnownRow.holds Try.pinned (OpenSpec.ofChange udpKnownSpec)

/-- ITS FALSE NEIGHBOUR: 'it returns false'. Refute it at one input. -/
def udpKnownWrong : ChangeSpec := { name := "udpKnown", fn := fun _ => fun
  | [] => { results := [.lit (.bool false)], args := [] }
  | _ => none }
def UdpKnownWrongFalsely : Prop := udpKnownRow.holds Try.pinned (OpenSpec.ofChange udpKnownWrong)

/-- 'gatehouselaw7.UdpReads': WHATEVER THE INPUT: true; the input reads as it did. -/
def udpReadsSpec : ChangeSpec := { name := "udpReads", fn := fun _ => fun
  | [d] => { results := [.lit (.bool true)], args := [d] }
  | _ => none }
def udpReadsRow : OpenClaim := { program := "ytoekncmggjhmjaa", sum := "dd16ea2aacd81805fc6dc164a60bd95d74239ba46e29db82ac5a522a489131a2", func := "gatehouse/gatehouselaw7.UdpReads", spec := "udpReads", apart := false }
def UdpReadsSaid : Prop := udpReadsRow.holds Try.pinned (OpenSpec.ofChange udpReadsSpec)

/-- ITS FALSE NEIGHBOUR: 'it returns false'. Refute it at one input. -/
def udpReadsWrong : ChangeSpec := { name := "udpReads", fn := fun _ => fun
  | [d] => { results := [.lit (.bool false)], args := [d] }
  | _ => none }
def UdpReadsWrongFalsely : Prop := udpReadsRow.holds Try.pinned (OpenSpec.ofChange udpReadsWrong)

/-- 'gatehouselaw7.UdpWrites': WHATEVER THE INPUT: true; the input reads as it did. -/
def udpWritesSpec : ChangeSpec := { name := "udpWrites", fn := fun _ => fun
  | [d1, d2] => { results := [.lit (.bool true)], args := [d1, d2] }
  | _ => none }
def udpWritesRow : OpenClaim := { program := "ytoekncmggjhmjaa", sum := "dd16ea2aacd81805fc6dc164a60bd95d74239ba46e29db82ac5a522a489131a2", func := "gatehouse/gatehouselaw7.UdpWrites", spec := "udpWrites", apart := false }
def UdpWritesSaid : Prop := udpWritesRow.holds Try.pinned (OpenSpec.ofChange udpWritesSpec)

/-- ITS FALSE NEIGHBOUR: 'it returns false'. Refute it at one input. -/
def udpWritesWrong : ChangeSpec := { name := "udpWrites", fn := fun _ => fun
  | [d1, d2] => { results := [.lit (.bool false)], args := [d1, d2] }
  | _ => none }
def UdpWritesWrongFalsely : Prop := udpWritesRow.holds Try.pinned (OpenSpec.ofChange udpWritesWrong)

/-- 'gatehouselaw7.UdpSpoilt': WHATEVER THE INPUT: true; the input reads as it did. -/
def udpSpoiltSpec : ChangeSpec := { name := "udpSpoilt", fn := fun _ => fun
  | [d1, d2] => { results := [.lit (.bool true)], args := [d1, d2] }
  | _ => none }
def udpSpoiltRow : OpenClaim := { program := "ytoekncmggjhmjaa", sum := "dd16ea2aacd81805fc6dc164a60bd95d74239ba46e29db82ac5a522a489131a2", func := "gatehouse/gatehouselaw7.UdpSpoilt", spec := "udpSpoilt", apart := false }
def UdpSpoiltSaid : Prop := udpSpoiltRow.holds Try.pinned (OpenSpec.ofChange udpSpoiltSpec)

/-- ITS FALSE NEIGHBOUR: 'it returns false'. Refute it at one input. -/
def udpSpoiltWrong : ChangeSpec := { name := "udpSpoilt", fn := fun _ => fun
  | [d1, d2] => { results := [.lit (.bool false)], args := [d1, d2] }
  | _ => none }
def UdpSpoiltWrongFalsely : Prop := udpSpoiltRow.holds Try.pinned (OpenSpec.ofChange udpSpoiltWrong)

/-- 'gatehouselaw7.UdpNone': WHATEVER THE INPUT: true; the input reads as it did. -/
def udpNoneSpec : ChangeSpec := { name := "udpNone", fn := fun _ => fun
  | [d1, d2, d3] => { results := [.lit (.bool true)], args := [d1, d2, d3] }
  | _ => none }
def udpNoneRow : OpenClaim := { program := "ytoekncmggjhmjaa", sum := "dd16ea2aacd81805fc6dc164a60bd95d74239ba46e29db82ac5a522a489131a2", func := "gatehouse/gatehouselaw7.UdpNone", spec := "udpNone", apart := false }
def UdpNoneSaid : Prop := udpNoneRow.holds Try.pinned (OpenSpec.ofChange udpNoneSpec)

/-- ITS FALSE NEIGHBOUR: 'it returns false'. Refute it at one input. -/
def udpNoneWrong : ChangeSpec := { name := "udpNone", fn := fun _ => fun
  | [d1, d2, d3] => { results := [.lit (.bool false)], args := [d1, d2, d3] }
  | _ => none }
def UdpNoneWrongFalsely : Prop := udpNoneRow.holds Try.pinned (OpenSpec.ofChange udpNoneWrong)

/-- 'gatehouselaw8.TcpKnown': WHATEVER THE INPUT: true; the input reads as it did. -/
def tcpKnownSpec : ChangeSpec := { name := "tcpKnown", fn := fun _ => fun
  | [] => { results := [.lit (.bool true)], args := [] }
  | _ => none }
def tcpKnownRow : OpenClaim := { program := "ytoekncmggjhmjaa", sum := "dd16ea2aacd81805fc6dc164a60bd95d74239ba46e29db82ac5a522a489131a2", func := "gatehouse/gatehouselaw8.TcpKnown", spec := "tcpKnown", apart := false }
def TcpKnownSaid : Prop := tcpKnownRow.holds Try.pinned (OpenSpec.ofChange tcpKnownSpec)

/-- ITS FALSE NEIGHBOUR: 'it returns false'. Refute it at one input. -/
def tcpKnownWrong : ChangeSpec := { name := "tcpKnown", fn := fun _ => fun
  | [] => { results := [.lit (.bool false)], args := [] }
  | _ => none }
def TcpKnownWrongFalsely : Prop := tcpKnownRow.holds Try.pinned (OpenSpec.ofChange tcpKnownWrong)

/-- 'gatehouselaw8.TcpReads': WHATEVER THE INPUT: true; the input reads as it did. -/
def tcpReadsSpec : ChangeSpec := { name := "tcpReads", fn := fun _ => fun
  | [d] => { results := [.lit (.bool true)], args := [d] }
  | _ => none }
def tcpReadsRow : OpenClaim := { program := "ytoekncmggjhmjaa", sum := "dd16ea2aacd81805fc6dc164a60bd95d74239ba46e29db82ac5a522a489131a2", func := "gatehouse/gatehouselaw8.TcpReads", spec := "tcpReads", apart := false }
def TcpReadsSaid : Prop := tcpReadsRow.holds Try.pinned (OpenSpec.ofChange tcpReadsSpec)

/-- ITS FALSE NEIGHBOUR: 'it returns false'. Refute it at one input. -/
def tcpReadsWrong : ChangeSpec := { name := "tcpReads", fn := fun _ => fun
  | [d] => { results := [.lit (.bool false)], args := [d] }
  | _ => none }
def TcpReadsWrongFalsely : Prop := tcpReadsRow.holds Try.pinned (OpenSpec.ofChange tcpReadsWrong)

/-- 'gatehouselaw8.TcpWrites': WHATEVER THE INPUT: true; the input reads as it did. -/
def tcpWritesSpec : ChangeSpec := { name := "tcpWrites", fn := fun _ => fun
  | [d1, d2] => { results := [.lit (.bool true)], args := [d1, d2] }
  | _ => none }
def tcpWritesRow : OpenClaim := { program := "ytoekncmggjhmjaa", sum := "dd16ea2aacd81805fc6dc164a60bd95d74239ba46e29db82ac5a522a489131a2", func := "gatehouse/gatehouselaw8.TcpWrites", spec := "tcpWrites", apart := false }
def TcpWritesSaid : Prop := tcpWritesRow.holds Try.pinned (OpenSpec.ofChange tcpWritesSpec)

/-- ITS FALSE NEIGHBOUR: 'it returns false'. Refute it at one input. -/
def tcpWritesWrong : ChangeSpec := { name := "tcpWrites", fn := fun _ => fun
  | [d1, d2] => { results := [.lit (.bool false)], args := [d1, d2] }
  | _ => none }
def TcpWritesWrongFalsely : Prop := tcpWritesRow.holds Try.pinned (OpenSpec.ofChange tcpWritesWrong)

/-- 'gatehouselaw8.TcpBits': WHATEVER THE INPUT: true; the input reads as it did. -/
def tcpBitsSpec : ChangeSpec := { name := "tcpBits", fn := fun _ => fun
  | [d1, d2] => { results := [.lit (.bool true)], args := [d1, d2] }
  | _ => none }
def tcpBitsRow : OpenClaim := { program := "ytoekncmggjhmjaa", sum := "dd16ea2aacd81805fc6dc164a60bd95d74239ba46e29db82ac5a522a489131a2", func := "gatehouse/gatehouselaw8.TcpBits", spec := "tcpBits", apart := false }
def TcpBitsSaid : Prop := tcpBitsRow.holds Try.pinned (OpenSpec.ofChange tcpBitsSpec)

/-- ITS FALSE NEIGHBOUR: 'it returns false'. Refute it at one input. -/
def tcpBitsWrong : ChangeSpec := { name := "tcpBits", fn := fun _ => fun
  | [d1, d2] => { results := [.lit (.bool false)], args := [d1, d2] }
  | _ => none }
def TcpBitsWrongFalsely : Prop := tcpBitsRow.holds Try.pinned (OpenSpec.ofChange tcpBitsWrong)

/-- 'gatehouselaw6.Ip4Known': WHATEVER THE INPUT: true; the input reads as it did. -/
def ip4KnownSpec : ChangeSpec := { name := "ip4Known", fn := fun _ => fun
  | [] => { results := [.lit (.bool true)], args := [] }
  | _ => none }
def ip4KnownRow : OpenClaim := { program := "ytoekncmggjhmjaa", sum := "dd16ea2aacd81805fc6dc164a60bd95d74239ba46e29db82ac5a522a489131a2", func := "gatehouse/gatehouselaw6.Ip4Known", spec := "ip4Known", apart := false }
def Ip4KnownSaid : Prop := ip4KnownRow.holds Try.pinned (OpenSpec.ofChange ip4KnownSpec)

/-- ITS FALSE NEIGHBOUR: 'it returns false'. Refute it at one input. -/
def ip4KnownWrong : ChangeSpec := { name := "ip4Known", fn := fun _ => fun
  | [] => { results := [.lit (.bool false)], args := [] }
  | _ => none }
def Ip4KnownWrongFalsely : Prop := ip4KnownRow.holds Try.pinned (OpenSpec.ofChange ip4KnownWrong)

/-- 'gatehouselaw6.Ip4Reads': WHATEVER THE INPUT: true; the input reads as it did. -/
def ip4ReadsSpec : ChangeSpec := { name := "ip4Reads", fn := fun _ => fun
  | [d] => { results := [.lit (.bool true)], args := [d] }
  | _ => none }
def ip4ReadsRow : OpenClaim := { program := "ytoekncmggjhmjaa", sum := "dd16ea2aacd81805fc6dc164a60bd95d74239ba46e29db82ac5a522a489131a2", func := "gatehouse/gatehouselaw6.Ip4Reads", spec := "ip4Reads", apart := false }
def Ip4ReadsSaid : Prop := ip4ReadsRow.holds Try.pinned (OpenSpec.ofChange ip4ReadsSpec)

/-- ITS FALSE NEIGHBOUR: 'it returns false'. Refute it at one input. -/
def ip4ReadsWrong : ChangeSpec := { name := "ip4Reads", fn := fun _ => fun
  | [d] => { results := [.lit (.bool false)], args := [d] }
  | _ => none }
def Ip4ReadsWrongFalsely : Prop := ip4ReadsRow.holds Try.pinned (OpenSpec.ofChange ip4ReadsWrong)

/-- 'gatehouselaw6.Ip4Hops': WHATEVER THE INPUT: true; the input reads as it did. -/
def ip4HopsSpec : ChangeSpec := { name := "ip4Hops", fn := fun _ => fun
  | [d1, d2] => { results := [.lit (.bool true)], args := [d1, d2] }
  | _ => none }
def ip4HopsRow : OpenClaim := { program := "ytoekncmggjhmjaa", sum := "dd16ea2aacd81805fc6dc164a60bd95d74239ba46e29db82ac5a522a489131a2", func := "gatehouse/gatehouselaw6.Ip4Hops", spec := "ip4Hops", apart := false }
def Ip4HopsSaid : Prop := ip4HopsRow.holds Try.pinned (OpenSpec.ofChange ip4HopsSpec)

/-- ITS FALSE NEIGHBOUR: 'it returns false'. Refute it at one input. -/
def ip4HopsWrong : ChangeSpec := { name := "ip4Hops", fn := fun _ => fun
  | [d1, d2] => { results := [.lit (.bool false)], args := [d1, d2] }
  | _ => none }
def Ip4HopsWrongFalsely : Prop := ip4HopsRow.holds Try.pinned (OpenSpec.ofChange ip4HopsWrong)

/-- 'gatehouselaw6.Ip4Behind': WHATEVER THE INPUT: true; the input reads as it did. -/
def ip4BehindSpec : ChangeSpec := { name := "ip4Behind", fn := fun _ => fun
  | [d1, d2, d3] => { results := [.lit (.bool true)], args := [d1, d2, d3] }
  | _ => none }
def ip4BehindRow : OpenClaim := { program := "ytoekncmggjhmjaa", sum := "dd16ea2aacd81805fc6dc164a60bd95d74239ba46e29db82ac5a522a489131a2", func := "gatehouse/gatehouselaw6.Ip4Behind", spec := "ip4Behind", apart := false }
def Ip4BehindSaid : Prop := ip4BehindRow.holds Try.pinned (OpenSpec.ofChange ip4BehindSpec)

/-- ITS FALSE NEIGHBOUR: 'it returns false'. Refute it at one input. -/
def ip4BehindWrong : ChangeSpec := { name := "ip4Behind", fn := fun _ => fun
  | [d1, d2, d3] => { results := [.lit (.bool false)], args := [d1, d2, d3] }
  | _ => none }
def Ip4BehindWrongFalsely : Prop := ip4BehindRow.holds Try.pinned (OpenSpec.ofChange ip4BehindWrong)

/-- 'gatehouselaw6.Ip4Bits': WHATEVER THE INPUT: true; the input reads as it did. -/
def ip4BitsSpec : ChangeSpec := { name := "ip4Bits", fn := fun _ => fun
  | [d1, d2] => { results := [.lit (.bool true)], args := [d1, d2] }
  | _ => none }
def ip4BitsRow : OpenClaim := { program := "ytoekncmggjhmjaa", sum := "dd16ea2aacd81805fc6dc164a60bd95d74239ba46e29db82ac5a522a489131a2", func := "gatehouse/gatehouselaw6.Ip4Bits", spec := "ip4Bits", apart := false }
def Ip4BitsSaid : Prop := ip4BitsRow.holds Try.pinned (OpenSpec.ofChange ip4BitsSpec)

/-- ITS FALSE NEIGHBOUR: 'it returns false'. Refute it at one input. -/
def ip4BitsWrong : ChangeSpec := { name := "ip4Bits", fn := fun _ => fun
  | [d1, d2] => { results := [.lit (.bool false)], args := [d1, d2] }
  | _ => none }
def Ip4BitsWrongFalsely : Prop := ip4BitsRow.holds Try.pinned (OpenSpec.ofChange ip4BitsWrong)

/-- 'gatehouselaw6.Ip4Sizes': WHATEVER THE INPUT: true; the input reads as it did. -/
def ip4SizesSpec : ChangeSpec := { name := "ip4Sizes", fn := fun _ => fun
  | [d1, d2] => { results := [.lit (.bool true)], args := [d1, d2] }
  | _ => none }
def ip4SizesRow : OpenClaim := { program := "ytoekncmggjhmjaa", sum := "dd16ea2aacd81805fc6dc164a60bd95d74239ba46e29db82ac5a522a489131a2", func := "gatehouse/gatehouselaw6.Ip4Sizes", spec := "ip4Sizes", apart := false }
def Ip4SizesSaid : Prop := ip4SizesRow.holds Try.pinned (OpenSpec.ofChange ip4SizesSpec)

/-- ITS FALSE NEIGHBOUR: 'it returns false'. Refute it at one input. -/
def ip4SizesWrong : ChangeSpec := { name := "ip4Sizes", fn := fun _ => fun
  | [d1, d2] => { results := [.lit (.bool false)], args := [d1, d2] }
  | _ => none }
def Ip4SizesWrongFalsely : Prop := ip4SizesRow.holds Try.pinned (OpenSpec.ofChange ip4SizesWrong)

/-- 'gatehouselaw9.IcmpAbouts': WHATEVER THE INPUT: true; the input reads as it did. -/
def icmpAboutsSpec : ChangeSpec := { name := "icmpAbouts", fn := fun _ => fun
  | [d1, d2, d3, d4] => { results := [.lit (.bool true)], args := [d1, d2, d3, d4] }
  | _ => none }
def icmpAboutsRow : OpenClaim := { program := "ytoekncmggjhmjaa", sum := "dd16ea2aacd81805fc6dc164a60bd95d74239ba46e29db82ac5a522a489131a2", func := "gatehouse/gatehouselaw9.IcmpAbouts", spec := "icmpAbouts", apart := false }
def IcmpAboutsSaid : Prop := icmpAboutsRow.holds Try.pinned (OpenSpec.ofChange icmpAboutsSpec)

/-- ITS FALSE NEIGHBOUR: 'it returns false'. Refute it at one input. -/
def icmpAboutsWrong : ChangeSpec := { name := "icmpAbouts", fn := fun _ => fun
  | [d1, d2, d3, d4] => { results := [.lit (.bool false)], args := [d1, d2, d3, d4] }
  | _ => none }
def IcmpAboutsWrongFalsely : Prop := icmpAboutsRow.holds Try.pinned (OpenSpec.ofChange icmpAboutsWrong)

/-- 'gatehouselaw9.IcmpKnown': WHATEVER THE INPUT: true; the input reads as it did. -/
def icmpKnownSpec : ChangeSpec := { name := "icmpKnown", fn := fun _ => fun
  | [] => { results := [.lit (.bool true)], args := [] }
  | _ => none }
def icmpKnownRow : OpenClaim := { program := "ytoekncmggjhmjaa", sum := "dd16ea2aacd81805fc6dc164a60bd95d74239ba46e29db82ac5a522a489131a2", func := "gatehouse/gatehouselaw9.IcmpKnown", spec := "icmpKnown", apart := false }
def IcmpKnownSaid : Prop := icmpKnownRow.holds Try.pinned (OpenSpec.ofChange icmpKnownSpec)

/-- ITS FALSE NEIGHBOUR: 'it returns false'. Refute it at one input. -/
def icmpKnownWrong : ChangeSpec := { name := "icmpKnown", fn := fun _ => fun
  | [] => { results := [.lit (.bool false)], args := [] }
  | _ => none }
def IcmpKnownWrongFalsely : Prop := icmpKnownRow.holds Try.pinned (OpenSpec.ofChange icmpKnownWrong)

/-- 'gatehouselaw9.IcmpNone': WHATEVER THE INPUT: true; the input reads as it did. -/
def icmpNoneSpec : ChangeSpec := { name := "icmpNone", fn := fun _ => fun
  | [d1, d2, d3] => { results := [.lit (.bool true)], args := [d1, d2, d3] }
  | _ => none }
def icmpNoneRow : OpenClaim := { program := "ytoekncmggjhmjaa", sum := "dd16ea2aacd81805fc6dc164a60bd95d74239ba46e29db82ac5a522a489131a2", func := "gatehouse/gatehouselaw9.IcmpNone", spec := "icmpNone", apart := false }
def IcmpNoneSaid : Prop := icmpNoneRow.holds Try.pinned (OpenSpec.ofChange icmpNoneSpec)

/-- ITS FALSE NEIGHBOUR: 'it returns false'. Refute it at one input. -/
def icmpNoneWrong : ChangeSpec := { name := "icmpNone", fn := fun _ => fun
  | [d1, d2, d3] => { results := [.lit (.bool false)], args := [d1, d2, d3] }
  | _ => none }
def IcmpNoneWrongFalsely : Prop := icmpNoneRow.holds Try.pinned (OpenSpec.ofChange icmpNoneWrong)

/- THE SECOND FORM. 'bulk': how many values and letters a reading holds, each counted each time it is reached (what is shared counts as often as it is met; a slice's spare places count too). A statement '..UptoSaid' is the law's where the arguments, and the package variables that the reading takes, are together of bulk at most 1048576: NARROWER than '..Said'. Prove '..Said' where nothing that the law and all that it calls make is longer than what came in: it says more and counts as full. Else prove '..UptoSaid'. A law counts once. -/
mutual
def uptoBulk {H : Type} : DataW H → Nat
  | .lit (.string bytes) => bytes.length + 1
  | .lit _ => 1
  | .nil => 1
  | .ptr d => uptoBulk d + 1
  | .slice elems spare => uptoBulkAll elems + uptoBulkAll spare + 1
  | .agg parts => uptoBulkAll parts + 1
  | .iface _ d => uptoBulk d + 1
  | .map entries => uptoBulkEntries entries + 1
  | .held _ => 1
def uptoBulkAll {H : Type} : List (DataW H) → Nat
  | [] => 0
  | d :: r => uptoBulk d + uptoBulkAll r
def uptoBulkEntries {H : Type} : List (Lit × DataW H) → Nat
  | [] => 0
  | x :: r => uptoBulkEntry x + uptoBulkEntries r
def uptoBulkEntry {H : Type} : Lit × DataW H → Nat
  | (.string bytes, d) => bytes.length + uptoBulk d + 1
  | (_, d) => uptoBulk d + 1
 end
def uptoSmall : (H : Type) → List (DataW H) → Bool := fun _ ds => decide (uptoBulkAll ds ≤ 1048576)
def OpenSpec.upto (s : _root_.Go.ChangeSpec) : _root_.Go.OpenSpec := { _root_.Go.OpenSpec.ofChange s with cond := some uptoSmall }

/-- 'gatehouselaw9.IcmpReads', WHERE WHAT IT READS IS OF BULK AT MOST 1048576: true; the input reads as it did. -/
def icmpReadsUptoRow : OpenClaim := { program := "ytoekncmggjhmjaa", sum := "dd16ea2aacd81805fc6dc164a60bd95d74239ba46e29db82ac5a522a489131a2", func := "gatehouse/gatehouselaw9.IcmpReads", spec := "icmpReads", apart := false, narrowed := true }
def IcmpReadsUptoSaid : Prop := icmpReadsUptoRow.holds Try.pinned (OpenSpec.upto icmpReadsSpec)

/-- 'gatehouselaw9.IcmpWrites', WHERE WHAT IT READS IS OF BULK AT MOST 1048576: true; the input reads as it did. -/
def icmpWritesUptoRow : OpenClaim := { program := "ytoekncmggjhmjaa", sum := "dd16ea2aacd81805fc6dc164a60bd95d74239ba46e29db82ac5a522a489131a2", func := "gatehouse/gatehouselaw9.IcmpWrites", spec := "icmpWrites", apart := false, narrowed := true }
def IcmpWritesUptoSaid : Prop := icmpWritesUptoRow.holds Try.pinned (OpenSpec.upto icmpWritesSpec)

/-- 'gatehouselaw9.IcmpBits', WHERE WHAT IT READS IS OF BULK AT MOST 1048576: true; the input reads as it did. -/
def icmpBitsUptoRow : OpenClaim := { program := "ytoekncmggjhmjaa", sum := "dd16ea2aacd81805fc6dc164a60bd95d74239ba46e29db82ac5a522a489131a2", func := "gatehouse/gatehouselaw9.IcmpBits", spec := "icmpBits", apart := false, narrowed := true }
def IcmpBitsUptoSaid : Prop := icmpBitsUptoRow.holds Try.pinned (OpenSpec.upto icmpBitsSpec)

/-- 'gatehouselaw9.IcmpKinds', WHERE WHAT IT READS IS OF BULK AT MOST 1048576: true; the input reads as it did. -/
def icmpKindsUptoRow : OpenClaim := { program := "ytoekncmggjhmjaa", sum := "dd16ea2aacd81805fc6dc164a60bd95d74239ba46e29db82ac5a522a489131a2", func := "gatehouse/gatehouselaw9.IcmpKinds", spec := "icmpKinds", apart := false, narrowed := true }
def IcmpKindsUptoSaid : Prop := icmpKindsUptoRow.holds Try.pinned (OpenSpec.upto icmpKindsSpec)

/-- 'gatehouselaw7.UdpKnown', WHERE WHAT IT READS IS OF BULK AT MOST 1048576: true; the input reads as it did. -/
def udpKnownUptoRow : OpenClaim := { program := "ytoekncmggjhmjaa", sum := "dd16ea2aacd81805fc6dc164a60bd95d74239ba46e29db82ac5a522a489131a2", func := "gatehouse/gatehouselaw7.UdpKnown", spec := "udpKnown", apart := false, narrowed := true }
def UdpKnownUptoSaid : Prop := udpKnownUptoRow.holds Try.pinned (OpenSpec.upto udpKnownSpec)

/-- 'gatehouselaw7.UdpReads', WHERE WHAT IT READS IS OF BULK AT MOST 1048576: true; the input reads as it did. -/
def udpReadsUptoRow : OpenClaim := { program := "ytoekncmggjhmjaa", sum := "dd16ea2aacd81805fc6dc164a60bd95d74239ba46e29db82ac5a522a489131a2", func := "gatehouse/gatehouselaw7.UdpReads", spec := "udpReads", apart := false, narrowed := true }
def UdpReadsUptoSaid : Prop := udpReadsUptoRow.holds Try.pinned (OpenSpec.upto udpReadsSpec)

/-- 'gatehouselaw7.UdpWrites', WHERE WHAT IT READS IS OF BULK AT MOST 1048576: true; the input reads as it did. -/
def udpWritesUptoRow : OpenClaim := { program := "ytoekncmggjhmjaa", sum := "dd16ea2aacd81805fc6dc164a60bd95d74239ba46e29db82ac5a522a489131a2", func := "gatehouse/gatehouselaw7.UdpWrites", spec := "udpWrites", apart := false, narrowed := true }
def UdpWritesUptoSaid : Prop := udpWritesUptoRow.holds Try.pinned (OpenSpec.upto udpWritesSpec)

/-- 'gatehouselaw7.UdpSpoilt', WHERE WHAT IT READS IS OF BULK AT MOST 1048576: true; the input reads as it did. -/
def udpSpoiltUptoRow : OpenClaim := { program := "ytoekncmggjhmjaa", sum := "dd16ea2aacd81805fc6dc164a60bd95d74239ba46e29db82ac5a522a489131a2", func := "gatehouse/gatehouselaw7.UdpSpoilt", spec := "udpSpoilt", apart := false, narrowed := true }
def UdpSpoiltUptoSaid : Prop := udpSpoiltUptoRow.holds Try.pinned (OpenSpec.upto udpSpoiltSpec)

/-- 'gatehouselaw7.UdpNone', WHERE WHAT IT READS IS OF BULK AT MOST 1048576: true; the input reads as it did. -/
def udpNoneUptoRow : OpenClaim := { program := "ytoekncmggjhmjaa", sum := "dd16ea2aacd81805fc6dc164a60bd95d74239ba46e29db82ac5a522a489131a2", func := "gatehouse/gatehouselaw7.UdpNone", spec := "udpNone", apart := false, narrowed := true }
def UdpNoneUptoSaid : Prop := udpNoneUptoRow.holds Try.pinned (OpenSpec.upto udpNoneSpec)

/-- 'gatehouselaw8.TcpKnown', WHERE WHAT IT READS IS OF BULK AT MOST 1048576: true; the input reads as it did. -/
def tcpKnownUptoRow : OpenClaim := { program := "ytoekncmggjhmjaa", sum := "dd16ea2aacd81805fc6dc164a60bd95d74239ba46e29db82ac5a522a489131a2", func := "gatehouse/gatehouselaw8.TcpKnown", spec := "tcpKnown", apart := false, narrowed := true }
def TcpKnownUptoSaid : Prop := tcpKnownUptoRow.holds Try.pinned (OpenSpec.upto tcpKnownSpec)

/-- 'gatehouselaw8.TcpReads', WHERE WHAT IT READS IS OF BULK AT MOST 1048576: true; the input reads as it did. -/
def tcpReadsUptoRow : OpenClaim := { program := "ytoekncmggjhmjaa", sum := "dd16ea2aacd81805fc6dc164a60bd95d74239ba46e29db82ac5a522a489131a2", func := "gatehouse/gatehouselaw8.TcpReads", spec := "tcpReads", apart := false, narrowed := true }
def TcpReadsUptoSaid : Prop := tcpReadsUptoRow.holds Try.pinned (OpenSpec.upto tcpReadsSpec)

/-- 'gatehouselaw8.TcpWrites', WHERE WHAT IT READS IS OF BULK AT MOST 1048576: true; the input reads as it did. -/
def tcpWritesUptoRow : OpenClaim := { program := "ytoekncmggjhmjaa", sum := "dd16ea2aacd81805fc6dc164a60bd95d74239ba46e29db82ac5a522a489131a2", func := "gatehouse/gatehouselaw8.TcpWrites", spec := "tcpWrites", apart := false, narrowed := true }
def TcpWritesUptoSaid : Prop := tcpWritesUptoRow.holds Try.pinned (OpenSpec.upto tcpWritesSpec)

/-- 'gatehouselaw8.TcpBits', WHERE WHAT IT READS IS OF BULK AT MOST 1048576: true; the input reads as it did. -/
def tcpBitsUptoRow : OpenClaim := { program := "ytoekncmggjhmjaa", sum := "dd16ea2aacd81805fc6dc164a60bd95d74239ba46e29db82ac5a522a489131a2", func := "gatehouse/gatehouselaw8.TcpBits", spec := "tcpBits", apart := false, narrowed := true }
def TcpBitsUptoSaid : Prop := tcpBitsUptoRow.holds Try.pinned (OpenSpec.upto tcpBitsSpec)

/-- 'gatehouselaw6.Ip4Known', WHERE WHAT IT READS IS OF BULK AT MOST 1048576: true; the input reads as it did. -/
def ip4KnownUptoRow : OpenClaim := { program := "ytoekncmggjhmjaa", sum := "dd16ea2aacd81805fc6dc164a60bd95d74239ba46e29db82ac5a522a489131a2", func := "gatehouse/gatehouselaw6.Ip4Known", spec := "ip4Known", apart := false, narrowed := true }
def Ip4KnownUptoSaid : Prop := ip4KnownUptoRow.holds Try.pinned (OpenSpec.upto ip4KnownSpec)

/-- 'gatehouselaw6.Ip4Reads', WHERE WHAT IT READS IS OF BULK AT MOST 1048576: true; the input reads as it did. -/
def ip4ReadsUptoRow : OpenClaim := { program := "ytoekncmggjhmjaa", sum := "dd16ea2aacd81805fc6dc164a60bd95d74239ba46e29db82ac5a522a489131a2", func := "gatehouse/gatehouselaw6.Ip4Reads", spec := "ip4Reads", apart := false, narrowed := true }
def Ip4ReadsUptoSaid : Prop := ip4ReadsUptoRow.holds Try.pinned (OpenSpec.upto ip4ReadsSpec)

/-- 'gatehouselaw6.Ip4Hops', WHERE WHAT IT READS IS OF BULK AT MOST 1048576: true; the input reads as it did. -/
def ip4HopsUptoRow : OpenClaim := { program := "ytoekncmggjhmjaa", sum := "dd16ea2aacd81805fc6dc164a60bd95d74239ba46e29db82ac5a522a489131a2", func := "gatehouse/gatehouselaw6.Ip4Hops", spec := "ip4Hops", apart := false, narrowed := true }
def Ip4HopsUptoSaid : Prop := ip4HopsUptoRow.holds Try.pinned (OpenSpec.upto ip4HopsSpec)

/-- 'gatehouselaw6.Ip4Behind', WHERE WHAT IT READS IS OF BULK AT MOST 1048576: true; the input reads as it did. -/
def ip4BehindUptoRow : OpenClaim := { program := "ytoekncmggjhmjaa", sum := "dd16ea2aacd81805fc6dc164a60bd95d74239ba46e29db82ac5a522a489131a2", func := "gatehouse/gatehouselaw6.Ip4Behind", spec := "ip4Behind", apart := false, narrowed := true }
def Ip4BehindUptoSaid : Prop := ip4BehindUptoRow.holds Try.pinned (OpenSpec.upto ip4BehindSpec)

/-- 'gatehouselaw6.Ip4Bits', WHERE WHAT IT READS IS OF BULK AT MOST 1048576: true; the input reads as it did. -/
def ip4BitsUptoRow : OpenClaim := { program := "ytoekncmggjhmjaa", sum := "dd16ea2aacd81805fc6dc164a60bd95d74239ba46e29db82ac5a522a489131a2", func := "gatehouse/gatehouselaw6.Ip4Bits", spec := "ip4Bits", apart := false, narrowed := true }
def Ip4BitsUptoSaid : Prop := ip4BitsUptoRow.holds Try.pinned (OpenSpec.upto ip4BitsSpec)

/-- 'gatehouselaw6.Ip4Sizes', WHERE WHAT IT READS IS OF BULK AT MOST 1048576: true; the input reads as it did. -/
def ip4SizesUptoRow : OpenClaim := { program := "ytoekncmggjhmjaa", sum := "dd16ea2aacd81805fc6dc164a60bd95d74239ba46e29db82ac5a522a489131a2", func := "gatehouse/gatehouselaw6.Ip4Sizes", spec := "ip4Sizes", apart := false, narrowed := true }
def Ip4SizesUptoSaid : Prop := ip4SizesUptoRow.holds Try.pinned (OpenSpec.upto ip4SizesSpec)

/-- 'gatehouselaw9.IcmpAbouts', WHERE WHAT IT READS IS OF BULK AT MOST 1048576: true; the input reads as it did. -/
def icmpAboutsUptoRow : OpenClaim := { program := "ytoekncmggjhmjaa", sum := "dd16ea2aacd81805fc6dc164a60bd95d74239ba46e29db82ac5a522a489131a2", func := "gatehouse/gatehouselaw9.IcmpAbouts", spec := "icmpAbouts", apart := false, narrowed := true }
def IcmpAboutsUptoSaid : Prop := icmpAboutsUptoRow.holds Try.pinned (OpenSpec.upto icmpAboutsSpec)

/-- 'gatehouselaw9.IcmpKnown', WHERE WHAT IT READS IS OF BULK AT MOST 1048576: true; the input reads as it did. -/
def icmpKnownUptoRow : OpenClaim := { program := "ytoekncmggjhmjaa", sum := "dd16ea2aacd81805fc6dc164a60bd95d74239ba46e29db82ac5a522a489131a2", func := "gatehouse/gatehouselaw9.IcmpKnown", spec := "icmpKnown", apart := false, narrowed := true }
def IcmpKnownUptoSaid : Prop := icmpKnownUptoRow.holds Try.pinned (OpenSpec.upto icmpKnownSpec)

/-- 'gatehouselaw9.IcmpNone', WHERE WHAT IT READS IS OF BULK AT MOST 1048576: true; the input reads as it did. -/
def icmpNoneUptoRow : OpenClaim := { program := "ytoekncmggjhmjaa", sum := "dd16ea2aacd81805fc6dc164a60bd95d74239ba46e29db82ac5a522a489131a2", func := "gatehouse/gatehouselaw9.IcmpNone", spec := "icmpNone", apart := false, narrowed := true }
def IcmpNoneUptoSaid : Prop := icmpNoneUptoRow.holds Try.pinned (OpenSpec.upto icmpNoneSpec)

end Rows
end Go.Proofs.Ytoekncmggjhmjaa

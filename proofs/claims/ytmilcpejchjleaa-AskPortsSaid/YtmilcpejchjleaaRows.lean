/-
  No cell of these rows narrows 'for every input' (looked for: loops, veiled, ifaces, maps, wideKeys, modest, calm, conditions, laid).
  DERIVED. THE GIVEN ROWS OF THIS SEAT. 21 by the template 'for every input the law returns true; each argument reads behind the call as it read before'; 0 by the template 'total and deterministic' (their statements: YtmilcpejchjleaaTotals.lean).
  GIVEN WITH THE SEED: the statements are not yours to turn. If you find one false, say at which input.
  Laid BY PROGRAM, IN A SANDBOX (cutbox-rows.mjs): the forced cells as the released guide's own fill.sh prints them over the translation 59b2fa7b4637678d… (all of the seat's roots in one cut). By AI agents, Wed Nov 11 2026. No macro, syntax, notation, axiom, sorry.
-/
import Derived.Test.YtmilcpejchjleaaChecked
import GoSem.Claim
import GoSem.ClaimJoined
import GoSem.ClaimMapViews
import Derived.JoinedTies
import Derived.KernelRfl
namespace Go.Proofs.Ytmilcpejchjleaa
/- THE CELL 'sum', in the pinned program and in every row, IS THE sha256 OF THE DUMP (.gsa) THAT YtmilcpejchjleaaProg.lean LOADS. Nothing in Lean hashes anything: it is a label: what it is worth is what the hold of that sum in a sandbox is worth. -/
noncomputable def Try.pinned : Pinned := { name := "ytmilcpejchjleaa", sum := "59b2fa7b4637678d6105bb7d1c8a6247c1b15126d2c5cc1858ecb758d9c4103b", checked := Try.checked }
namespace Rows
def none {H : Type} : Left H := { results := [], args := [] }

/-- 'gatehouselaw22.CacheTimes': WHATEVER THE INPUT: true; the input reads as it did. -/
def cacheTimesSpec : ChangeSpec := { name := "cacheTimes", fn := fun _ => fun
  | [d1, d2, d3] => { results := [.lit (.bool true)], args := [d1, d2, d3] }
  | _ => none }
def cacheTimesRow : OpenClaim := { program := "ytmilcpejchjleaa", sum := "59b2fa7b4637678d6105bb7d1c8a6247c1b15126d2c5cc1858ecb758d9c4103b", func := "gatehouse/gatehouselaw22.CacheTimes", spec := "cacheTimes", unfollowed := true, recurses := true, apart := false }
def CacheTimesSaid : Prop := cacheTimesRow.holds Try.pinned (OpenSpec.ofChange cacheTimesSpec)

/-- ITS FALSE NEIGHBOUR: 'it returns false'. Refute it at one input. -/
def cacheTimesWrong : ChangeSpec := { name := "cacheTimes", fn := fun _ => fun
  | [d1, d2, d3] => { results := [.lit (.bool false)], args := [d1, d2, d3] }
  | _ => none }
def CacheTimesWrongFalsely : Prop := cacheTimesRow.holds Try.pinned (OpenSpec.ofChange cacheTimesWrong)

/-- 'gatehouselaw22.CacheRoom': WHATEVER THE INPUT: true; the input reads as it did. -/
def cacheRoomSpec : ChangeSpec := { name := "cacheRoom", fn := fun _ => fun
  | [d1, d2] => { results := [.lit (.bool true)], args := [d1, d2] }
  | _ => none }
def cacheRoomRow : OpenClaim := { program := "ytmilcpejchjleaa", sum := "59b2fa7b4637678d6105bb7d1c8a6247c1b15126d2c5cc1858ecb758d9c4103b", func := "gatehouse/gatehouselaw22.CacheRoom", spec := "cacheRoom", unfollowed := true, recurses := true, apart := false }
def CacheRoomSaid : Prop := cacheRoomRow.holds Try.pinned (OpenSpec.ofChange cacheRoomSpec)

/-- ITS FALSE NEIGHBOUR: 'it returns false'. Refute it at one input. -/
def cacheRoomWrong : ChangeSpec := { name := "cacheRoom", fn := fun _ => fun
  | [d1, d2] => { results := [.lit (.bool false)], args := [d1, d2] }
  | _ => none }
def CacheRoomWrongFalsely : Prop := cacheRoomRow.holds Try.pinned (OpenSpec.ofChange cacheRoomWrong)

/-- 'gatehouselaw22.CacheCases': WHATEVER THE INPUT: true; the input reads as it did. -/
def cacheCasesSpec : ChangeSpec := { name := "cacheCases", fn := fun _ => fun
  | [d1, d2, d3] => { results := [.lit (.bool true)], args := [d1, d2, d3] }
  | _ => none }
def cacheCasesRow : OpenClaim := { program := "ytmilcpejchjleaa", sum := "59b2fa7b4637678d6105bb7d1c8a6247c1b15126d2c5cc1858ecb758d9c4103b", func := "gatehouse/gatehouselaw22.CacheCases", spec := "cacheCases", unfollowed := true, recurses := true, apart := false }
def CacheCasesSaid : Prop := cacheCasesRow.holds Try.pinned (OpenSpec.ofChange cacheCasesSpec)

/-- ITS FALSE NEIGHBOUR: 'it returns false'. Refute it at one input. -/
def cacheCasesWrong : ChangeSpec := { name := "cacheCases", fn := fun _ => fun
  | [d1, d2, d3] => { results := [.lit (.bool false)], args := [d1, d2, d3] }
  | _ => none }
def CacheCasesWrongFalsely : Prop := cacheCasesRow.holds Try.pinned (OpenSpec.ofChange cacheCasesWrong)

/-- 'gatehouselaw22.CacheKnown': WHATEVER THE INPUT: true; the input reads as it did. -/
def cacheKnownSpec : ChangeSpec := { name := "cacheKnown", fn := fun _ => fun
  | [] => { results := [.lit (.bool true)], args := [] }
  | _ => none }
def cacheKnownRow : OpenClaim := { program := "ytmilcpejchjleaa", sum := "59b2fa7b4637678d6105bb7d1c8a6247c1b15126d2c5cc1858ecb758d9c4103b", func := "gatehouse/gatehouselaw22.CacheKnown", spec := "cacheKnown", unfollowed := true, recurses := true, apart := false }
def CacheKnownSaid : Prop := cacheKnownRow.holds Try.pinned (OpenSpec.ofChange cacheKnownSpec)

/-- ITS FALSE NEIGHBOUR: 'it returns false'. Refute it at one input. -/
def cacheKnownWrong : ChangeSpec := { name := "cacheKnown", fn := fun _ => fun
  | [] => { results := [.lit (.bool false)], args := [] }
  | _ => none }
def CacheKnownWrongFalsely : Prop := cacheKnownRow.holds Try.pinned (OpenSpec.ofChange cacheKnownWrong)

/-- 'gatehouselaw23.AskPorts': WHATEVER THE INPUT: true; the input reads as it did. -/
def askPortsSpec : ChangeSpec := { name := "askPorts", fn := fun _ => fun
  | [d] => { results := [.lit (.bool true)], args := [d] }
  | _ => none }
def askPortsRow : OpenClaim := { program := "ytmilcpejchjleaa", sum := "59b2fa7b4637678d6105bb7d1c8a6247c1b15126d2c5cc1858ecb758d9c4103b", func := "gatehouse/gatehouselaw23.AskPorts", spec := "askPorts", unfollowed := true, recurses := true, apart := false }
def AskPortsSaid : Prop := askPortsRow.holds Try.pinned (OpenSpec.ofChange askPortsSpec)

/-- ITS FALSE NEIGHBOUR: 'it returns false'. Refute it at one input. -/
def askPortsWrong : ChangeSpec := { name := "askPorts", fn := fun _ => fun
  | [d] => { results := [.lit (.bool false)], args := [d] }
  | _ => none }
def AskPortsWrongFalsely : Prop := askPortsRow.holds Try.pinned (OpenSpec.ofChange askPortsWrong)

/-- 'gatehouselaw23.AskForged': WHATEVER THE INPUT: true; the input reads as it did. -/
def askForgedSpec : ChangeSpec := { name := "askForged", fn := fun _ => fun
  | [d1, d2, d3, d4] => { results := [.lit (.bool true)], args := [d1, d2, d3, d4] }
  | _ => none }
def askForgedRow : OpenClaim := { program := "ytmilcpejchjleaa", sum := "59b2fa7b4637678d6105bb7d1c8a6247c1b15126d2c5cc1858ecb758d9c4103b", func := "gatehouse/gatehouselaw23.AskForged", spec := "askForged", unfollowed := true, recurses := true, apart := false }
def AskForgedSaid : Prop := askForgedRow.holds Try.pinned (OpenSpec.ofChange askForgedSpec)

/-- ITS FALSE NEIGHBOUR: 'it returns false'. Refute it at one input. -/
def askForgedWrong : ChangeSpec := { name := "askForged", fn := fun _ => fun
  | [d1, d2, d3, d4] => { results := [.lit (.bool false)], args := [d1, d2, d3, d4] }
  | _ => none }
def AskForgedWrongFalsely : Prop := askForgedRow.holds Try.pinned (OpenSpec.ofChange askForgedWrong)

/-- 'gatehouselaw23.AskAnswers': WHATEVER THE INPUT: true; the input reads as it did. -/
def askAnswersSpec : ChangeSpec := { name := "askAnswers", fn := fun _ => fun
  | [d1, d2, d3, d4] => { results := [.lit (.bool true)], args := [d1, d2, d3, d4] }
  | _ => none }
def askAnswersRow : OpenClaim := { program := "ytmilcpejchjleaa", sum := "59b2fa7b4637678d6105bb7d1c8a6247c1b15126d2c5cc1858ecb758d9c4103b", func := "gatehouse/gatehouselaw23.AskAnswers", spec := "askAnswers", unfollowed := true, recurses := true, apart := false }
def AskAnswersSaid : Prop := askAnswersRow.holds Try.pinned (OpenSpec.ofChange askAnswersSpec)

/-- ITS FALSE NEIGHBOUR: 'it returns false'. Refute it at one input. -/
def askAnswersWrong : ChangeSpec := { name := "askAnswers", fn := fun _ => fun
  | [d1, d2, d3, d4] => { results := [.lit (.bool false)], args := [d1, d2, d3, d4] }
  | _ => none }
def AskAnswersWrongFalsely : Prop := askAnswersRow.holds Try.pinned (OpenSpec.ofChange askAnswersWrong)

/-- 'gatehouselaw20.NameKnown': WHATEVER THE INPUT: true; the input reads as it did. -/
def nameKnownSpec : ChangeSpec := { name := "nameKnown", fn := fun _ => fun
  | [] => { results := [.lit (.bool true)], args := [] }
  | _ => none }
def nameKnownRow : OpenClaim := { program := "ytmilcpejchjleaa", sum := "59b2fa7b4637678d6105bb7d1c8a6247c1b15126d2c5cc1858ecb758d9c4103b", func := "gatehouse/gatehouselaw20.NameKnown", spec := "nameKnown", inPlace := ["internal/abi.NoEscape", "internal/bytealg.MakeNoZero"], unfollowed := true, recurses := true, apart := false }
def NameKnownSaid : Prop := nameKnownRow.holds Try.pinned (OpenSpec.ofChange nameKnownSpec)

/-- ITS FALSE NEIGHBOUR: 'it returns false'. Refute it at one input. -/
def nameKnownWrong : ChangeSpec := { name := "nameKnown", fn := fun _ => fun
  | [] => { results := [.lit (.bool false)], args := [] }
  | _ => none }
def NameKnownWrongFalsely : Prop := nameKnownRow.holds Try.pinned (OpenSpec.ofChange nameKnownWrong)

/-- 'gatehouselaw20.NameReads': WHATEVER THE INPUT: true; the input reads as it did. -/
def nameReadsSpec : ChangeSpec := { name := "nameReads", fn := fun _ => fun
  | [d1, d2] => { results := [.lit (.bool true)], args := [d1, d2] }
  | _ => none }
def nameReadsRow : OpenClaim := { program := "ytmilcpejchjleaa", sum := "59b2fa7b4637678d6105bb7d1c8a6247c1b15126d2c5cc1858ecb758d9c4103b", func := "gatehouse/gatehouselaw20.NameReads", spec := "nameReads", inPlace := ["internal/abi.NoEscape", "internal/bytealg.MakeNoZero"], unfollowed := true, recurses := true, apart := false }
def NameReadsSaid : Prop := nameReadsRow.holds Try.pinned (OpenSpec.ofChange nameReadsSpec)

/-- ITS FALSE NEIGHBOUR: 'it returns false'. Refute it at one input. -/
def nameReadsWrong : ChangeSpec := { name := "nameReads", fn := fun _ => fun
  | [d1, d2] => { results := [.lit (.bool false)], args := [d1, d2] }
  | _ => none }
def NameReadsWrongFalsely : Prop := nameReadsRow.holds Try.pinned (OpenSpec.ofChange nameReadsWrong)

/-- 'gatehouselaw20.NameWrites': WHATEVER THE INPUT: true; the input reads as it did. -/
def nameWritesSpec : ChangeSpec := { name := "nameWrites", fn := fun _ => fun
  | [d1, d2] => { results := [.lit (.bool true)], args := [d1, d2] }
  | _ => none }
def nameWritesRow : OpenClaim := { program := "ytmilcpejchjleaa", sum := "59b2fa7b4637678d6105bb7d1c8a6247c1b15126d2c5cc1858ecb758d9c4103b", func := "gatehouse/gatehouselaw20.NameWrites", spec := "nameWrites", inPlace := ["internal/abi.NoEscape", "internal/bytealg.MakeNoZero"], unfollowed := true, recurses := true, apart := false }
def NameWritesSaid : Prop := nameWritesRow.holds Try.pinned (OpenSpec.ofChange nameWritesSpec)

/-- ITS FALSE NEIGHBOUR: 'it returns false'. Refute it at one input. -/
def nameWritesWrong : ChangeSpec := { name := "nameWrites", fn := fun _ => fun
  | [d1, d2] => { results := [.lit (.bool false)], args := [d1, d2] }
  | _ => none }
def NameWritesWrongFalsely : Prop := nameWritesRow.holds Try.pinned (OpenSpec.ofChange nameWritesWrong)

/-- 'gatehouselaw20.NameTexts': WHATEVER THE INPUT: true; the input reads as it did. -/
def nameTextsSpec : ChangeSpec := { name := "nameTexts", fn := fun _ => fun
  | [d1, d2, d3] => { results := [.lit (.bool true)], args := [d1, d2, d3] }
  | _ => none }
def nameTextsRow : OpenClaim := { program := "ytmilcpejchjleaa", sum := "59b2fa7b4637678d6105bb7d1c8a6247c1b15126d2c5cc1858ecb758d9c4103b", func := "gatehouse/gatehouselaw20.NameTexts", spec := "nameTexts", inPlace := ["internal/abi.NoEscape", "internal/bytealg.MakeNoZero"], unfollowed := true, recurses := true, apart := false }
def NameTextsSaid : Prop := nameTextsRow.holds Try.pinned (OpenSpec.ofChange nameTextsSpec)

/-- ITS FALSE NEIGHBOUR: 'it returns false'. Refute it at one input. -/
def nameTextsWrong : ChangeSpec := { name := "nameTexts", fn := fun _ => fun
  | [d1, d2, d3] => { results := [.lit (.bool false)], args := [d1, d2, d3] }
  | _ => none }
def NameTextsWrongFalsely : Prop := nameTextsRow.holds Try.pinned (OpenSpec.ofChange nameTextsWrong)

/-- 'gatehouselaw20.NameBack': WHATEVER THE INPUT: true; the input reads as it did. -/
def nameBackSpec : ChangeSpec := { name := "nameBack", fn := fun _ => fun
  | [d] => { results := [.lit (.bool true)], args := [d] }
  | _ => none }
def nameBackRow : OpenClaim := { program := "ytmilcpejchjleaa", sum := "59b2fa7b4637678d6105bb7d1c8a6247c1b15126d2c5cc1858ecb758d9c4103b", func := "gatehouse/gatehouselaw20.NameBack", spec := "nameBack", inPlace := ["internal/abi.NoEscape", "internal/bytealg.MakeNoZero"], unfollowed := true, recurses := true, apart := false }
def NameBackSaid : Prop := nameBackRow.holds Try.pinned (OpenSpec.ofChange nameBackSpec)

/-- ITS FALSE NEIGHBOUR: 'it returns false'. Refute it at one input. -/
def nameBackWrong : ChangeSpec := { name := "nameBack", fn := fun _ => fun
  | [d] => { results := [.lit (.bool false)], args := [d] }
  | _ => none }
def NameBackWrongFalsely : Prop := nameBackRow.holds Try.pinned (OpenSpec.ofChange nameBackWrong)

/-- 'gatehouselaw20.NameLeads': WHATEVER THE INPUT: true; the input reads as it did. -/
def nameLeadsSpec : ChangeSpec := { name := "nameLeads", fn := fun _ => fun
  | [d1, d2] => { results := [.lit (.bool true)], args := [d1, d2] }
  | _ => none }
def nameLeadsRow : OpenClaim := { program := "ytmilcpejchjleaa", sum := "59b2fa7b4637678d6105bb7d1c8a6247c1b15126d2c5cc1858ecb758d9c4103b", func := "gatehouse/gatehouselaw20.NameLeads", spec := "nameLeads", inPlace := ["internal/abi.NoEscape", "internal/bytealg.MakeNoZero"], unfollowed := true, recurses := true, apart := false }
def NameLeadsSaid : Prop := nameLeadsRow.holds Try.pinned (OpenSpec.ofChange nameLeadsSpec)

/-- ITS FALSE NEIGHBOUR: 'it returns false'. Refute it at one input. -/
def nameLeadsWrong : ChangeSpec := { name := "nameLeads", fn := fun _ => fun
  | [d1, d2] => { results := [.lit (.bool false)], args := [d1, d2] }
  | _ => none }
def NameLeadsWrongFalsely : Prop := nameLeadsRow.holds Try.pinned (OpenSpec.ofChange nameLeadsWrong)

/-- 'gatehouselaw20.NameCases': WHATEVER THE INPUT: true; the input reads as it did. -/
def nameCasesSpec : ChangeSpec := { name := "nameCases", fn := fun _ => fun
  | [d1, d2] => { results := [.lit (.bool true)], args := [d1, d2] }
  | _ => none }
def nameCasesRow : OpenClaim := { program := "ytmilcpejchjleaa", sum := "59b2fa7b4637678d6105bb7d1c8a6247c1b15126d2c5cc1858ecb758d9c4103b", func := "gatehouse/gatehouselaw20.NameCases", spec := "nameCases", inPlace := ["internal/abi.NoEscape", "internal/bytealg.MakeNoZero"], unfollowed := true, recurses := true, apart := false }
def NameCasesSaid : Prop := nameCasesRow.holds Try.pinned (OpenSpec.ofChange nameCasesSpec)

/-- ITS FALSE NEIGHBOUR: 'it returns false'. Refute it at one input. -/
def nameCasesWrong : ChangeSpec := { name := "nameCases", fn := fun _ => fun
  | [d1, d2] => { results := [.lit (.bool false)], args := [d1, d2] }
  | _ => none }
def NameCasesWrongFalsely : Prop := nameCasesRow.holds Try.pinned (OpenSpec.ofChange nameCasesWrong)

/-- 'gatehouselaw23.AskKnown': WHATEVER THE INPUT: true; the input reads as it did. -/
def askKnownSpec : ChangeSpec := { name := "askKnown", fn := fun _ => fun
  | [] => { results := [.lit (.bool true)], args := [] }
  | _ => none }
def askKnownRow : OpenClaim := { program := "ytmilcpejchjleaa", sum := "59b2fa7b4637678d6105bb7d1c8a6247c1b15126d2c5cc1858ecb758d9c4103b", func := "gatehouse/gatehouselaw23.AskKnown", spec := "askKnown", unfollowed := true, recurses := true, apart := false }
def AskKnownSaid : Prop := askKnownRow.holds Try.pinned (OpenSpec.ofChange askKnownSpec)

/-- ITS FALSE NEIGHBOUR: 'it returns false'. Refute it at one input. -/
def askKnownWrong : ChangeSpec := { name := "askKnown", fn := fun _ => fun
  | [] => { results := [.lit (.bool false)], args := [] }
  | _ => none }
def AskKnownWrongFalsely : Prop := askKnownRow.holds Try.pinned (OpenSpec.ofChange askKnownWrong)

/-- 'gatehouselaw23.AskTimes': WHATEVER THE INPUT: true; the input reads as it did. -/
def askTimesSpec : ChangeSpec := { name := "askTimes", fn := fun _ => fun
  | [d1, d2] => { results := [.lit (.bool true)], args := [d1, d2] }
  | _ => none }
def askTimesRow : OpenClaim := { program := "ytmilcpejchjleaa", sum := "59b2fa7b4637678d6105bb7d1c8a6247c1b15126d2c5cc1858ecb758d9c4103b", func := "gatehouse/gatehouselaw23.AskTimes", spec := "askTimes", unfollowed := true, recurses := true, apart := false }
def AskTimesSaid : Prop := askTimesRow.holds Try.pinned (OpenSpec.ofChange askTimesSpec)

/-- ITS FALSE NEIGHBOUR: 'it returns false'. Refute it at one input. -/
def askTimesWrong : ChangeSpec := { name := "askTimes", fn := fun _ => fun
  | [d1, d2] => { results := [.lit (.bool false)], args := [d1, d2] }
  | _ => none }
def AskTimesWrongFalsely : Prop := askTimesRow.holds Try.pinned (OpenSpec.ofChange askTimesWrong)

/-- 'gatehouselaw21.DnsKnown': WHATEVER THE INPUT: true; the input reads as it did. -/
def dnsKnownSpec : ChangeSpec := { name := "dnsKnown", fn := fun _ => fun
  | [] => { results := [.lit (.bool true)], args := [] }
  | _ => none }
def dnsKnownRow : OpenClaim := { program := "ytmilcpejchjleaa", sum := "59b2fa7b4637678d6105bb7d1c8a6247c1b15126d2c5cc1858ecb758d9c4103b", func := "gatehouse/gatehouselaw21.DnsKnown", spec := "dnsKnown", apart := false }
def DnsKnownSaid : Prop := dnsKnownRow.holds Try.pinned (OpenSpec.ofChange dnsKnownSpec)

/-- ITS FALSE NEIGHBOUR: 'it returns false'. Refute it at one input. -/
def dnsKnownWrong : ChangeSpec := { name := "dnsKnown", fn := fun _ => fun
  | [] => { results := [.lit (.bool false)], args := [] }
  | _ => none }
def DnsKnownWrongFalsely : Prop := dnsKnownRow.holds Try.pinned (OpenSpec.ofChange dnsKnownWrong)

/-- 'gatehouselaw21.DnsReads': WHATEVER THE INPUT: true; the input reads as it did. -/
def dnsReadsSpec : ChangeSpec := { name := "dnsReads", fn := fun _ => fun
  | [d] => { results := [.lit (.bool true)], args := [d] }
  | _ => none }
def dnsReadsRow : OpenClaim := { program := "ytmilcpejchjleaa", sum := "59b2fa7b4637678d6105bb7d1c8a6247c1b15126d2c5cc1858ecb758d9c4103b", func := "gatehouse/gatehouselaw21.DnsReads", spec := "dnsReads", apart := false }
def DnsReadsSaid : Prop := dnsReadsRow.holds Try.pinned (OpenSpec.ofChange dnsReadsSpec)

/-- ITS FALSE NEIGHBOUR: 'it returns false'. Refute it at one input. -/
def dnsReadsWrong : ChangeSpec := { name := "dnsReads", fn := fun _ => fun
  | [d] => { results := [.lit (.bool false)], args := [d] }
  | _ => none }
def DnsReadsWrongFalsely : Prop := dnsReadsRow.holds Try.pinned (OpenSpec.ofChange dnsReadsWrong)

/-- 'gatehouselaw21.DnsWrites': WHATEVER THE INPUT: true; the input reads as it did. -/
def dnsWritesSpec : ChangeSpec := { name := "dnsWrites", fn := fun _ => fun
  | [d1, d2] => { results := [.lit (.bool true)], args := [d1, d2] }
  | _ => none }
def dnsWritesRow : OpenClaim := { program := "ytmilcpejchjleaa", sum := "59b2fa7b4637678d6105bb7d1c8a6247c1b15126d2c5cc1858ecb758d9c4103b", func := "gatehouse/gatehouselaw21.DnsWrites", spec := "dnsWrites", apart := false }
def DnsWritesSaid : Prop := dnsWritesRow.holds Try.pinned (OpenSpec.ofChange dnsWritesSpec)

/-- ITS FALSE NEIGHBOUR: 'it returns false'. Refute it at one input. -/
def dnsWritesWrong : ChangeSpec := { name := "dnsWrites", fn := fun _ => fun
  | [d1, d2] => { results := [.lit (.bool false)], args := [d1, d2] }
  | _ => none }
def DnsWritesWrongFalsely : Prop := dnsWritesRow.holds Try.pinned (OpenSpec.ofChange dnsWritesWrong)

/-- 'gatehouselaw21.DnsBack': WHATEVER THE INPUT: true; the input reads as it did. -/
def dnsBackSpec : ChangeSpec := { name := "dnsBack", fn := fun _ => fun
  | [d] => { results := [.lit (.bool true)], args := [d] }
  | _ => none }
def dnsBackRow : OpenClaim := { program := "ytmilcpejchjleaa", sum := "59b2fa7b4637678d6105bb7d1c8a6247c1b15126d2c5cc1858ecb758d9c4103b", func := "gatehouse/gatehouselaw21.DnsBack", spec := "dnsBack", apart := false }
def DnsBackSaid : Prop := dnsBackRow.holds Try.pinned (OpenSpec.ofChange dnsBackSpec)

/-- ITS FALSE NEIGHBOUR: 'it returns false'. Refute it at one input. -/
def dnsBackWrong : ChangeSpec := { name := "dnsBack", fn := fun _ => fun
  | [d] => { results := [.lit (.bool false)], args := [d] }
  | _ => none }
def DnsBackWrongFalsely : Prop := dnsBackRow.holds Try.pinned (OpenSpec.ofChange dnsBackWrong)

/-- 'gatehouselaw21.DnsRefuses': WHATEVER THE INPUT: true; the input reads as it did. -/
def dnsRefusesSpec : ChangeSpec := { name := "dnsRefuses", fn := fun _ => fun
  | [d1, d2] => { results := [.lit (.bool true)], args := [d1, d2] }
  | _ => none }
def dnsRefusesRow : OpenClaim := { program := "ytmilcpejchjleaa", sum := "59b2fa7b4637678d6105bb7d1c8a6247c1b15126d2c5cc1858ecb758d9c4103b", func := "gatehouse/gatehouselaw21.DnsRefuses", spec := "dnsRefuses", apart := false }
def DnsRefusesSaid : Prop := dnsRefusesRow.holds Try.pinned (OpenSpec.ofChange dnsRefusesSpec)

/-- ITS FALSE NEIGHBOUR: 'it returns false'. Refute it at one input. -/
def dnsRefusesWrong : ChangeSpec := { name := "dnsRefuses", fn := fun _ => fun
  | [d1, d2] => { results := [.lit (.bool false)], args := [d1, d2] }
  | _ => none }
def DnsRefusesWrongFalsely : Prop := dnsRefusesRow.holds Try.pinned (OpenSpec.ofChange dnsRefusesWrong)

/- THE SECOND FORM. 'bulk': how many values and letters a reading holds, each counted each time it is reached (what is shared counts as often as it is met; a slice's spare places count too). A statement '..UptoSaid' is the law's where the arguments, and the package variables that the reading takes, are together of bulk at most 1048576: NARROWER than '..Said'. Prove '..Said' where nothing that the law and all that it calls make is longer than what came in: it says more and counts as full. Else prove '..UptoSaid'. A law counts once. -/
mutual
def uptoBulk {H : Type} : DataW H → Nat
  | .lit (.string bytes) => bytes.length + 1
  | .lit _ => 1
  | .nil => 1
  | .ptr d => uptoBulk d + 1
  | .slice elems spare => uptoBulkAll elems + uptoBulkAll spare + 1
  | .agg parts => uptoBulkAll parts + 1
  | .iface _ d => uptoBulk d + 1
  | .map entries => uptoBulkEntries entries + 1
  | .held _ => 1
def uptoBulkAll {H : Type} : List (DataW H) → Nat
  | [] => 0
  | d :: r => uptoBulk d + uptoBulkAll r
def uptoBulkEntries {H : Type} : List (Lit × DataW H) → Nat
  | [] => 0
  | x :: r => uptoBulkEntry x + uptoBulkEntries r
def uptoBulkEntry {H : Type} : Lit × DataW H → Nat
  | (.string bytes, d) => bytes.length + uptoBulk d + 1
  | (_, d) => uptoBulk d + 1
 end
def uptoSmall : (H : Type) → List (DataW H) → Bool := fun _ ds => decide (uptoBulkAll ds ≤ 1048576)
def OpenSpec.upto (s : _root_.Go.ChangeSpec) : _root_.Go.OpenSpec := { _root_.Go.OpenSpec.ofChange s with cond := some uptoSmall }

/-- 'gatehouselaw22.CacheTimes', WHERE WHAT IT READS IS OF BULK AT MOST 1048576: true; the input reads as it did. -/
def cacheTimesUptoRow : OpenClaim := { program := "ytmilcpejchjleaa", sum := "59b2fa7b4637678d6105bb7d1c8a6247c1b15126d2c5cc1858ecb758d9c4103b", func := "gatehouse/gatehouselaw22.CacheTimes", spec := "cacheTimes", unfollowed := true, recurses := true, apart := false, narrowed := true }
def CacheTimesUptoSaid : Prop := cacheTimesUptoRow.holds Try.pinned (OpenSpec.upto cacheTimesSpec)

/-- 'gatehouselaw22.CacheRoom', WHERE WHAT IT READS IS OF BULK AT MOST 1048576: true; the input reads as it did. -/
def cacheRoomUptoRow : OpenClaim := { program := "ytmilcpejchjleaa", sum := "59b2fa7b4637678d6105bb7d1c8a6247c1b15126d2c5cc1858ecb758d9c4103b", func := "gatehouse/gatehouselaw22.CacheRoom", spec := "cacheRoom", unfollowed := true, recurses := true, apart := false, narrowed := true }
def CacheRoomUptoSaid : Prop := cacheRoomUptoRow.holds Try.pinned (OpenSpec.upto cacheRoomSpec)

/-- 'gatehouselaw22.CacheCases', WHERE WHAT IT READS IS OF BULK AT MOST 1048576: true; the input reads as it did. -/
def cacheCasesUptoRow : OpenClaim := { program := "ytmilcpejchjleaa", sum := "59b2fa7b4637678d6105bb7d1c8a6247c1b15126d2c5cc1858ecb758d9c4103b", func := "gatehouse/gatehouselaw22.CacheCases", spec := "cacheCases", unfollowed := true, recurses := true, apart := false, narrowed := true }
def CacheCasesUptoSaid : Prop := cacheCasesUptoRow.holds Try.pinned (OpenSpec.upto cacheCasesSpec)

/-- 'gatehouselaw22.CacheKnown', WHERE WHAT IT READS IS OF BULK AT MOST 1048576: true; the input reads as it did. -/
def cacheKnownUptoRow : OpenClaim := { program := "ytmilcpejchjleaa", sum := "59b2fa7b4637678d6105bb7d1c8a6247c1b15126d2c5cc1858ecb758d9c4103b", func := "gatehouse/gatehouselaw22.CacheKnown", spec := "cacheKnown", unfollowed := true, recurses := true, apart := false, narrowed := true }
def CacheKnownUptoSaid : Prop := cacheKnownUptoRow.holds Try.pinned (OpenSpec.upto cacheKnownSpec)

/-- 'gatehouselaw23.AskPorts', WHERE WHAT IT READS IS OF BULK AT MOST 1048576: true; the input reads as it did. -/
def askPortsUptoRow : OpenClaim := { program := "ytmilcpejchjleaa", sum := "59b2fa7b4637678d6105bb7d1c8a6247c1b15126d2c5cc1858ecb758d9c4103b", func := "gatehouse/gatehouselaw23.AskPorts", spec := "askPorts", unfollowed := true, recurses := true, apart := false, narrowed := true }
def AskPortsUptoSaid : Prop := askPortsUptoRow.holds Try.pinned (OpenSpec.upto askPortsSpec)

/-- 'gatehouselaw23.AskForged', WHERE WHAT IT READS IS OF BULK AT MOST 1048576: true; the input reads as it did. -/
def askForgedUptoRow : OpenClaim := { program := "ytmilcpejchjleaa", sum := "59b2fa7b4637678d6105bb7d1c8a6247c1b15126d2c5cc1858ecb758d9c4103b", func := "gatehouse/gatehouselaw23.AskForged", spec := "askForged", unfollowed := true, recurses := true, apart := false, narrowed := true }
def AskForgedUptoSaid : Prop := askForgedUptoRow.holds Try.pinned (OpenSpec.upto askForgedSpec)

/-- 'gatehouselaw23.AskAnswers', WHERE WHAT IT READS IS OF BULK AT MOST 1048576: true; the input reads as it did. -/
def askAnswersUptoRow : OpenClaim := { program := "ytmilcpejchjleaa", sum := "59b2fa7b4637678d6105bb7d1c8a6247c1b15126d2c5cc1858ecb758d9c4103b", func := "gatehouse/gatehouselaw23.AskAnswers", spec := "askAnswers", unfollowed := true, recurses := true, apart := false, narrowed := true }
def AskAnswersUptoSaid : Prop := askAnswersUptoRow.holds Try.pinned (OpenSpec.upto askAnswersSpec)

/-- 'gatehouselaw20.NameKnown', WHERE WHAT IT READS IS OF BULK AT MOST 1048576: true; the input reads as it did. -/
def nameKnownUptoRow : OpenClaim := { program := "ytmilcpejchjleaa", sum := "59b2fa7b4637678d6105bb7d1c8a6247c1b15126d2c5cc1858ecb758d9c4103b", func := "gatehouse/gatehouselaw20.NameKnown", spec := "nameKnown", inPlace := ["internal/abi.NoEscape", "internal/bytealg.MakeNoZero"], unfollowed := true, recurses := true, apart := false, narrowed := true }
def NameKnownUptoSaid : Prop := nameKnownUptoRow.holds Try.pinned (OpenSpec.upto nameKnownSpec)

/-- 'gatehouselaw20.NameReads', WHERE WHAT IT READS IS OF BULK AT MOST 1048576: true; the input reads as it did. -/
def nameReadsUptoRow : OpenClaim := { program := "ytmilcpejchjleaa", sum := "59b2fa7b4637678d6105bb7d1c8a6247c1b15126d2c5cc1858ecb758d9c4103b", func := "gatehouse/gatehouselaw20.NameReads", spec := "nameReads", inPlace := ["internal/abi.NoEscape", "internal/bytealg.MakeNoZero"], unfollowed := true, recurses := true, apart := false, narrowed := true }
def NameReadsUptoSaid : Prop := nameReadsUptoRow.holds Try.pinned (OpenSpec.upto nameReadsSpec)

/-- 'gatehouselaw20.NameWrites', WHERE WHAT IT READS IS OF BULK AT MOST 1048576: true; the input reads as it did. -/
def nameWritesUptoRow : OpenClaim := { program := "ytmilcpejchjleaa", sum := "59b2fa7b4637678d6105bb7d1c8a6247c1b15126d2c5cc1858ecb758d9c4103b", func := "gatehouse/gatehouselaw20.NameWrites", spec := "nameWrites", inPlace := ["internal/abi.NoEscape", "internal/bytealg.MakeNoZero"], unfollowed := true, recurses := true, apart := false, narrowed := true }
def NameWritesUptoSaid : Prop := nameWritesUptoRow.holds Try.pinned (OpenSpec.upto nameWritesSpec)

/-- 'gatehouselaw20.NameTexts', WHERE WHAT IT READS IS OF BULK AT MOST 1048576: true; the input reads as it did. -/
def nameTextsUptoRow : OpenClaim := { program := "ytmilcpejchjleaa", sum := "59b2fa7b4637678d6105bb7d1c8a6247c1b15126d2c5cc1858ecb758d9c4103b", func := "gatehouse/gatehouselaw20.NameTexts", spec := "nameTexts", inPlace := ["internal/abi.NoEscape", "internal/bytealg.MakeNoZero"], unfollowed := true, recurses := true, apart := false, narrowed := true }
def NameTextsUptoSaid : Prop := nameTextsUptoRow.holds Try.pinned (OpenSpec.upto nameTextsSpec)

/-- 'gatehouselaw20.NameBack', WHERE WHAT IT READS IS OF BULK AT MOST 1048576: true; the input reads as it did. -/
def nameBackUptoRow : OpenClaim := { program := "ytmilcpejchjleaa", sum := "59b2fa7b4637678d6105bb7d1c8a6247c1b15126d2c5cc1858ecb758d9c4103b", func := "gatehouse/gatehouselaw20.NameBack", spec := "nameBack", inPlace := ["internal/abi.NoEscape", "internal/bytealg.MakeNoZero"], unfollowed := true, recurses := true, apart := false, narrowed := true }
def NameBackUptoSaid : Prop := nameBackUptoRow.holds Try.pinned (OpenSpec.upto nameBackSpec)

/-- 'gatehouselaw20.NameLeads', WHERE WHAT IT READS IS OF BULK AT MOST 1048576: true; the input reads as it did. -/
def nameLeadsUptoRow : OpenClaim := { program := "ytmilcpejchjleaa", sum := "59b2fa7b4637678d6105bb7d1c8a6247c1b15126d2c5cc1858ecb758d9c4103b", func := "gatehouse/gatehouselaw20.NameLeads", spec := "nameLeads", inPlace := ["internal/abi.NoEscape", "internal/bytealg.MakeNoZero"], unfollowed := true, recurses := true, apart := false, narrowed := true }
def NameLeadsUptoSaid : Prop := nameLeadsUptoRow.holds Try.pinned (OpenSpec.upto nameLeadsSpec)

/-- 'gatehouselaw20.NameCases', WHERE WHAT IT READS IS OF BULK AT MOST 1048576: true; the input reads as it did. -/
def nameCasesUptoRow : OpenClaim := { program := "ytmilcpejchjleaa", sum := "59b2fa7b4637678d6105bb7d1c8a6247c1b15126d2c5cc1858ecb758d9c4103b", func := "gatehouse/gatehouselaw20.NameCases", spec := "nameCases", inPlace := ["internal/abi.NoEscape", "internal/bytealg.MakeNoZero"], unfollowed := true, recurses := true, apart := false, narrowed := true }
def NameCasesUptoSaid : Prop := nameCasesUptoRow.holds Try.pinned (OpenSpec.upto nameCasesSpec)

/-- 'gatehouselaw23.AskKnown', WHERE WHAT IT READS IS OF BULK AT MOST 1048576: true; the input reads as it did. -/
def askKnownUptoRow : OpenClaim := { program := "ytmilcpejchjleaa", sum := "59b2fa7b4637678d6105bb7d1c8a6247c1b15126d2c5cc1858ecb758d9c4103b", func := "gatehouse/gatehouselaw23.AskKnown", spec := "askKnown", unfollowed := true, recurses := true, apart := false, narrowed := true }
def AskKnownUptoSaid : Prop := askKnownUptoRow.holds Try.pinned (OpenSpec.upto askKnownSpec)

/-- 'gatehouselaw23.AskTimes', WHERE WHAT IT READS IS OF BULK AT MOST 1048576: true; the input reads as it did. -/
def askTimesUptoRow : OpenClaim := { program := "ytmilcpejchjleaa", sum := "59b2fa7b4637678d6105bb7d1c8a6247c1b15126d2c5cc1858ecb758d9c4103b", func := "gatehouse/gatehouselaw23.AskTimes", spec := "askTimes", unfollowed := true, recurses := true, apart := false, narrowed := true }
def AskTimesUptoSaid : Prop := askTimesUptoRow.holds Try.pinned (OpenSpec.upto askTimesSpec)

/-- 'gatehouselaw21.DnsKnown', WHERE WHAT IT READS IS OF BULK AT MOST 1048576: true; the input reads as it did. -/
def dnsKnownUptoRow : OpenClaim := { program := "ytmilcpejchjleaa", sum := "59b2fa7b4637678d6105bb7d1c8a6247c1b15126d2c5cc1858ecb758d9c4103b", func := "gatehouse/gatehouselaw21.DnsKnown", spec := "dnsKnown", apart := false, narrowed := true }
def DnsKnownUptoSaid : Prop := dnsKnownUptoRow.holds Try.pinned (OpenSpec.upto dnsKnownSpec)

/-- 'gatehouselaw21.DnsReads', WHERE WHAT IT READS IS OF BULK AT MOST 1048576: true; the input reads as it did. -/
def dnsReadsUptoRow : OpenClaim := { program := "ytmilcpejchjleaa", sum := "59b2fa7b4637678d6105bb7d1c8a6247c1b15126d2c5cc1858ecb758d9c4103b", func := "gatehouse/gatehouselaw21.DnsReads", spec := "dnsReads", apart := false, narrowed := true }
def DnsReadsUptoSaid : Prop := dnsReadsUptoRow.holds Try.pinned (OpenSpec.upto dnsReadsSpec)

/-- 'gatehouselaw21.DnsWrites', WHERE WHAT IT READS IS OF BULK AT MOST 1048576: true; the input reads as it did. -/
def dnsWritesUptoRow : OpenClaim := { program := "ytmilcpejchjleaa", sum := "59b2fa7b4637678d6105bb7d1c8a6247c1b15126d2c5cc1858ecb758d9c4103b", func := "gatehouse/gatehouselaw21.DnsWrites", spec := "dnsWrites", apart := false, narrowed := true }
def DnsWritesUptoSaid : Prop := dnsWritesUptoRow.holds Try.pinned (OpenSpec.upto dnsWritesSpec)

/-- 'gatehouselaw21.DnsBack', WHERE WHAT IT READS IS OF BULK AT MOST 1048576: true; the input reads as it did. -/
def dnsBackUptoRow : OpenClaim := { program := "ytmilcpejchjleaa", sum := "59b2fa7b4637678d6105bb7d1c8a6247c1b15126d2c5cc1858ecb758d9c4103b", func := "gatehouse/gatehouselaw21.DnsBack", spec := "dnsBack", apart := false, narrowed := true }
def DnsBackUptoSaid : Prop := dnsBackUptoRow.holds Try.pinned (OpenSpec.upto dnsBackSpec)

/-- 'gatehouselaw21.DnsRefuses', WHERE WHAT IT READS IS OF BULK AT MOST 1048576: true; the input reads as it did. -/
def dnsRefusesUptoRow : OpenClaim := { program := "ytmilcpejchjleaa", sum := "59b2fa7b4637678d6105bb7d1c8a6247c1b15126d2c5cc1858ecb758d9c4103b", func := "gatehouse/gatehouselaw21.DnsRefuses", spec := "dnsRefuses", apart := false, narrowed := true }
def DnsRefusesUptoSaid : Prop := dnsRefusesUptoRow.holds Try.pinned (OpenSpec.upto dnsRefusesSpec)

end Rows
end Go.Proofs.Ytmilcpejchjleaa

/-
  NARROWER THAN 'FOR EVERY INPUT', by the rows' own cells (each row's printed sentence says how): StoreOrder: laid · StorePlays: laid · StoreNames: laid · RecordNames: laid · StoreWhole: laid · ClosureWalks: laid · ClosureSteps: laid · ObjectNames: laid · ClosureParts: laid · ClosureGrows: laid · ClosureRises: laid · ClosureNames: laid.
  DERIVED. THE GIVEN ROWS OF THIS SEAT. 12 by the template 'for every input the law returns true; each argument reads behind the call as it read before'; 0 by the template 'total and deterministic' (their statements: YtcmnmigcalibdaaGreatDoorTotals.lean).
  GIVEN WITH THE SEED: the statements are not yours to turn. If you find one false, say at which input.
  Laid BY PROGRAM, IN A SANDBOX (cutbox-rows.mjs): the forced cells as the released guide's own fill.sh prints them over the translation 1094d0de2cfb9b57… (all of the seat's roots in one cut). By AI agents, Wed Nov 11 2026. No macro, syntax, notation, axiom, sorry.
-/
import Derived.Test.YtcmnmigcalibdaaGreatDoorChecked
import GoSem.PinnedTables
import GoSem.Claim
import GoSem.ClaimJoined
import GoSem.ClaimMapViews
import Derived.JoinedTies
import Derived.KernelRfl
namespace Go.Proofs.YtcmnmigcalibdaaGreatDoor
/- THE CELL 'sum', in the pinned program and in every row, IS THE sha256 OF THE DUMP (.gsa) THAT YtcmnmigcalibdaaGreatDoorProg.lean LOADS. Nothing in Lean hashes anything: it is a label: what it is worth is what the hold of that sum in a sandbox is worth. -/
noncomputable def Tryz.pinned : Pinned := { name := "ytcmnmigcalibdaagreatdoor", sum := "1094d0de2cfb9b57c1a3b2898b8f756d16bc14836b793134e5950681865ec650", checked := Tryz.checked }
namespace Rows
def none {H : Type} : Left H := { results := [], args := [] }

/- WHAT THE LISTED PACKAGE-LEVEL VARIABLES READ AS WHEN THE CALL BEGINS. Each datum BY PROGRAM (the guide's laid-datum.mjs) off the statement by which the dump's own 'gosem.cut.vars' lays the variable. In a bare row this is a premise. The card (YtcmnmigcalibdaaGreatDoorCards.lean) ties it to the program's text. -/
def laid_marshes_hash_begin {H : Type} : DataW H := .agg [.lit (.int .u32 1779033703), .lit (.int .u32 3144134277), .lit (.int .u32 1013904242), .lit (.int .u32 2773480762), .lit (.int .u32 1359893119), .lit (.int .u32 2600822924), .lit (.int .u32 528734635), .lit (.int .u32 1541459225)]
def laid_marshes_hash_factors {H : Type} : DataW H := .agg [.lit (.int .u32 1116352408), .lit (.int .u32 1899447441), .lit (.int .u32 3049323471), .lit (.int .u32 3921009573), .lit (.int .u32 961987163), .lit (.int .u32 1508970993), .lit (.int .u32 2453635748), .lit (.int .u32 2870763221), .lit (.int .u32 3624381080), .lit (.int .u32 310598401), .lit (.int .u32 607225278), .lit (.int .u32 1426881987), .lit (.int .u32 1925078388), .lit (.int .u32 2162078206), .lit (.int .u32 2614888103), .lit (.int .u32 3248222580), .lit (.int .u32 3835390401), .lit (.int .u32 4022224774), .lit (.int .u32 264347078), .lit (.int .u32 604807628), .lit (.int .u32 770255983), .lit (.int .u32 1249150122), .lit (.int .u32 1555081692), .lit (.int .u32 1996064986), .lit (.int .u32 2554220882), .lit (.int .u32 2821834349), .lit (.int .u32 2952996808), .lit (.int .u32 3210313671), .lit (.int .u32 3336571891), .lit (.int .u32 3584528711), .lit (.int .u32 113926993), .lit (.int .u32 338241895), .lit (.int .u32 666307205), .lit (.int .u32 773529912), .lit (.int .u32 1294757372), .lit (.int .u32 1396182291), .lit (.int .u32 1695183700), .lit (.int .u32 1986661051), .lit (.int .u32 2177026350), .lit (.int .u32 2456956037), .lit (.int .u32 2730485921), .lit (.int .u32 2820302411), .lit (.int .u32 3259730800), .lit (.int .u32 3345764771), .lit (.int .u32 3516065817), .lit (.int .u32 3600352804), .lit (.int .u32 4094571909), .lit (.int .u32 275423344), .lit (.int .u32 430227734), .lit (.int .u32 506948616), .lit (.int .u32 659060556), .lit (.int .u32 883997877), .lit (.int .u32 958139571), .lit (.int .u32 1322822218), .lit (.int .u32 1537002063), .lit (.int .u32 1747873779), .lit (.int .u32 1955562222), .lit (.int .u32 2024104815), .lit (.int .u32 2227730452), .lit (.int .u32 2361852424), .lit (.int .u32 2428436474), .lit (.int .u32 2756734187), .lit (.int .u32 3204031479), .lit (.int .u32 3329325298)]
def laid_unicode_utf8_acceptRanges {H : Type} : DataW H := .agg [.agg [.lit (.int .u8 128), .lit (.int .u8 191)], .agg [.lit (.int .u8 160), .lit (.int .u8 191)], .agg [.lit (.int .u8 128), .lit (.int .u8 159)], .agg [.lit (.int .u8 144), .lit (.int .u8 191)], .agg [.lit (.int .u8 128), .lit (.int .u8 143)], .agg [.lit (.int .u8 0), .lit (.int .u8 0)], .agg [.lit (.int .u8 0), .lit (.int .u8 0)], .agg [.lit (.int .u8 0), .lit (.int .u8 0)], .agg [.lit (.int .u8 0), .lit (.int .u8 0)], .agg [.lit (.int .u8 0), .lit (.int .u8 0)], .agg [.lit (.int .u8 0), .lit (.int .u8 0)], .agg [.lit (.int .u8 0), .lit (.int .u8 0)], .agg [.lit (.int .u8 0), .lit (.int .u8 0)], .agg [.lit (.int .u8 0), .lit (.int .u8 0)], .agg [.lit (.int .u8 0), .lit (.int .u8 0)], .agg [.lit (.int .u8 0), .lit (.int .u8 0)]]
/-- One of Go's own tables, pinned by name: the form's constant. -/
def laid_unicode_utf8_first : DataW Unit := Go.Pinned.utf8First

/-- 'marsheslaw08.StoreOrder': WHATEVER THE INPUT: true; the input reads as it did. -/
def storeOrderSpec : ChangeSpec := { name := "storeOrder", fn := fun _ => fun
  | [d] => { results := [.lit (.bool true)], args := [d] }
  | _ => none }
def storeOrderRow : OpenClaim := { program := "ytcmnmigcalibdaagreatdoor", sum := "1094d0de2cfb9b57c1a3b2898b8f756d16bc14836b793134e5950681865ec650", func := "marshes/marsheslaw08.StoreOrder", spec := "storeOrder", inPlace := ["maps.clone", "internal/bytealg.Compare"], unfollowed := true, recurses := true, named := ["marshes/hash.begin", "marshes/hash.factors"], plainKeys := false, apart := false, laid := [("marshes/hash.begin", laid_marshes_hash_begin), ("marshes/hash.factors", laid_marshes_hash_factors)] }
def StoreOrderSaid : Prop := storeOrderRow.holds Tryz.pinned (OpenSpec.ofChange storeOrderSpec)

/-- ITS FALSE NEIGHBOUR: 'it returns false'. Refute it at one input. -/
def storeOrderWrong : ChangeSpec := { name := "storeOrder", fn := fun _ => fun
  | [d] => { results := [.lit (.bool false)], args := [d] }
  | _ => none }
def StoreOrderWrongFalsely : Prop := storeOrderRow.holds Tryz.pinned (OpenSpec.ofChange storeOrderWrong)

/-- 'marsheslaw08.StorePlays': WHATEVER THE INPUT: true; the input reads as it did. -/
def storePlaysSpec : ChangeSpec := { name := "storePlays", fn := fun _ => fun
  | [d1, d2, d3] => { results := [.lit (.bool true)], args := [d1, d2, d3] }
  | _ => none }
def storePlaysRow : OpenClaim := { program := "ytcmnmigcalibdaagreatdoor", sum := "1094d0de2cfb9b57c1a3b2898b8f756d16bc14836b793134e5950681865ec650", func := "marshes/marsheslaw08.StorePlays", spec := "storePlays", inPlace := ["maps.clone", "internal/bytealg.Compare"], unfollowed := true, recurses := true, named := ["marshes/hash.begin", "marshes/hash.factors"], plainKeys := false, apart := false, laid := [("marshes/hash.begin", laid_marshes_hash_begin), ("marshes/hash.factors", laid_marshes_hash_factors)] }
def StorePlaysSaid : Prop := storePlaysRow.holds Tryz.pinned (OpenSpec.ofChange storePlaysSpec)

/-- ITS FALSE NEIGHBOUR: 'it returns false'. Refute it at one input. -/
def storePlaysWrong : ChangeSpec := { name := "storePlays", fn := fun _ => fun
  | [d1, d2, d3] => { results := [.lit (.bool false)], args := [d1, d2, d3] }
  | _ => none }
def StorePlaysWrongFalsely : Prop := storePlaysRow.holds Tryz.pinned (OpenSpec.ofChange storePlaysWrong)

/-- 'marsheslaw08.StoreNames': WHATEVER THE INPUT: true; the input reads as it did. -/
def storeNamesSpec : ChangeSpec := { name := "storeNames", fn := fun _ => fun
  | [] => { results := [.lit (.bool true)], args := [] }
  | _ => none }
def storeNamesRow : OpenClaim := { program := "ytcmnmigcalibdaagreatdoor", sum := "1094d0de2cfb9b57c1a3b2898b8f756d16bc14836b793134e5950681865ec650", func := "marshes/marsheslaw08.StoreNames", spec := "storeNames", inPlace := ["maps.clone", "internal/bytealg.Compare"], unfollowed := true, recurses := true, named := ["marshes/hash.begin", "marshes/hash.factors"], plainKeys := false, apart := false, laid := [("marshes/hash.begin", laid_marshes_hash_begin), ("marshes/hash.factors", laid_marshes_hash_factors)] }
def StoreNamesSaid : Prop := storeNamesRow.holds Tryz.pinned (OpenSpec.ofChange storeNamesSpec)

/-- ITS FALSE NEIGHBOUR: 'it returns false'. Refute it at one input. -/
def storeNamesWrong : ChangeSpec := { name := "storeNames", fn := fun _ => fun
  | [] => { results := [.lit (.bool false)], args := [] }
  | _ => none }
def StoreNamesWrongFalsely : Prop := storeNamesRow.holds Tryz.pinned (OpenSpec.ofChange storeNamesWrong)

/-- 'marsheslaw12.RecordNames': WHATEVER THE INPUT: true; the input reads as it did. -/
def recordNamesSpec : ChangeSpec := { name := "recordNames", fn := fun _ => fun
  | [] => { results := [.lit (.bool true)], args := [] }
  | _ => none }
def recordNamesRow : OpenClaim := { program := "ytcmnmigcalibdaagreatdoor", sum := "1094d0de2cfb9b57c1a3b2898b8f756d16bc14836b793134e5950681865ec650", func := "marshes/marsheslaw12.RecordNames", spec := "recordNames", inPlace := ["internal/bytealg.IndexByteString", "internal/bytealg.IndexString", "internal/bytealg.CountString"], unfollowed := true, recurses := true, named := ["internal/bytealg.MaxLen", "unicode/utf8.first", "unicode/utf8.acceptRanges"], plainKeys := false, apart := false, laid := [("unicode/utf8.acceptRanges", laid_unicode_utf8_acceptRanges), ("unicode/utf8.first", laid_unicode_utf8_first)] }
def RecordNamesSaid : Prop := recordNamesRow.holds Tryz.pinned (OpenSpec.ofChange recordNamesSpec)

/-- ITS FALSE NEIGHBOUR: 'it returns false'. Refute it at one input. -/
def recordNamesWrong : ChangeSpec := { name := "recordNames", fn := fun _ => fun
  | [] => { results := [.lit (.bool false)], args := [] }
  | _ => none }
def RecordNamesWrongFalsely : Prop := recordNamesRow.holds Tryz.pinned (OpenSpec.ofChange recordNamesWrong)

/-- 'marsheslaw08.StoreWhole': WHATEVER THE INPUT: true; the input reads as it did. -/
def storeWholeSpec : ChangeSpec := { name := "storeWhole", fn := fun _ => fun
  | [d1, d2] => { results := [.lit (.bool true)], args := [d1, d2] }
  | _ => none }
def storeWholeRow : OpenClaim := { program := "ytcmnmigcalibdaagreatdoor", sum := "1094d0de2cfb9b57c1a3b2898b8f756d16bc14836b793134e5950681865ec650", func := "marshes/marsheslaw08.StoreWhole", spec := "storeWhole", inPlace := ["internal/bytealg.Compare", "maps.clone"], unfollowed := true, recurses := true, named := ["marshes/hash.begin", "marshes/hash.factors"], plainKeys := false, apart := false, laid := [("marshes/hash.begin", laid_marshes_hash_begin), ("marshes/hash.factors", laid_marshes_hash_factors)] }
def StoreWholeSaid : Prop := storeWholeRow.holds Tryz.pinned (OpenSpec.ofChange storeWholeSpec)

/-- ITS FALSE NEIGHBOUR: 'it returns false'. Refute it at one input. -/
def storeWholeWrong : ChangeSpec := { name := "storeWhole", fn := fun _ => fun
  | [d1, d2] => { results := [.lit (.bool false)], args := [d1, d2] }
  | _ => none }
def StoreWholeWrongFalsely : Prop := storeWholeRow.holds Tryz.pinned (OpenSpec.ofChange storeWholeWrong)

/-- 'marsheslaw09.ClosureWalks': WHATEVER THE INPUT: true; the input reads as it did. -/
def closureWalksSpec : ChangeSpec := { name := "closureWalks", fn := fun _ => fun
  | [d1, d2, d3] => { results := [.lit (.bool true)], args := [d1, d2, d3] }
  | _ => none }
def closureWalksRow : OpenClaim := { program := "ytcmnmigcalibdaagreatdoor", sum := "1094d0de2cfb9b57c1a3b2898b8f756d16bc14836b793134e5950681865ec650", func := "marshes/marsheslaw09.ClosureWalks", spec := "closureWalks", inPlace := ["internal/bytealg.Compare"], unfollowed := true, recurses := true, named := ["marshes/hash.begin", "marshes/hash.factors"], plainKeys := false, apart := false, laid := [("marshes/hash.begin", laid_marshes_hash_begin), ("marshes/hash.factors", laid_marshes_hash_factors)] }
def ClosureWalksSaid : Prop := closureWalksRow.holds Tryz.pinned (OpenSpec.ofChange closureWalksSpec)

/-- ITS FALSE NEIGHBOUR: 'it returns false'. Refute it at one input. -/
def closureWalksWrong : ChangeSpec := { name := "closureWalks", fn := fun _ => fun
  | [d1, d2, d3] => { results := [.lit (.bool false)], args := [d1, d2, d3] }
  | _ => none }
def ClosureWalksWrongFalsely : Prop := closureWalksRow.holds Tryz.pinned (OpenSpec.ofChange closureWalksWrong)

/-- 'marsheslaw09.ClosureSteps': WHATEVER THE INPUT: true; the input reads as it did. -/
def closureStepsSpec : ChangeSpec := { name := "closureSteps", fn := fun _ => fun
  | [d1, d2] => { results := [.lit (.bool true)], args := [d1, d2] }
  | _ => none }
def closureStepsRow : OpenClaim := { program := "ytcmnmigcalibdaagreatdoor", sum := "1094d0de2cfb9b57c1a3b2898b8f756d16bc14836b793134e5950681865ec650", func := "marshes/marsheslaw09.ClosureSteps", spec := "closureSteps", inPlace := ["internal/bytealg.Compare"], unfollowed := true, recurses := true, named := ["marshes/hash.begin", "marshes/hash.factors"], plainKeys := false, apart := false, laid := [("marshes/hash.begin", laid_marshes_hash_begin), ("marshes/hash.factors", laid_marshes_hash_factors)] }
def ClosureStepsSaid : Prop := closureStepsRow.holds Tryz.pinned (OpenSpec.ofChange closureStepsSpec)

/-- ITS FALSE NEIGHBOUR: 'it returns false'. Refute it at one input. -/
def closureStepsWrong : ChangeSpec := { name := "closureSteps", fn := fun _ => fun
  | [d1, d2] => { results := [.lit (.bool false)], args := [d1, d2] }
  | _ => none }
def ClosureStepsWrongFalsely : Prop := closureStepsRow.holds Tryz.pinned (OpenSpec.ofChange closureStepsWrong)

/-- 'marsheslaw07.ObjectNames': WHATEVER THE INPUT: true; the input reads as it did. -/
def objectNamesSpec : ChangeSpec := { name := "objectNames", fn := fun _ => fun
  | [] => { results := [.lit (.bool true)], args := [] }
  | _ => none }
def objectNamesRow : OpenClaim := { program := "ytcmnmigcalibdaagreatdoor", sum := "1094d0de2cfb9b57c1a3b2898b8f756d16bc14836b793134e5950681865ec650", func := "marshes/marsheslaw07.ObjectNames", spec := "objectNames", inPlace := ["internal/abi.NoEscape", "internal/bytealg.MakeNoZero"], unfollowed := true, recurses := true, named := ["marshes/hash.begin", "marshes/hash.factors"], plainKeys := false, apart := false, laid := [("marshes/hash.begin", laid_marshes_hash_begin), ("marshes/hash.factors", laid_marshes_hash_factors)] }
def ObjectNamesSaid : Prop := objectNamesRow.holds Tryz.pinned (OpenSpec.ofChange objectNamesSpec)

/-- ITS FALSE NEIGHBOUR: 'it returns false'. Refute it at one input. -/
def objectNamesWrong : ChangeSpec := { name := "objectNames", fn := fun _ => fun
  | [] => { results := [.lit (.bool false)], args := [] }
  | _ => none }
def ObjectNamesWrongFalsely : Prop := objectNamesRow.holds Tryz.pinned (OpenSpec.ofChange objectNamesWrong)

/-- 'marsheslaw09.ClosureParts': WHATEVER THE INPUT: true; the input reads as it did. -/
def closurePartsSpec : ChangeSpec := { name := "closureParts", fn := fun _ => fun
  | [d1, d2, d3] => { results := [.lit (.bool true)], args := [d1, d2, d3] }
  | _ => none }
def closurePartsRow : OpenClaim := { program := "ytcmnmigcalibdaagreatdoor", sum := "1094d0de2cfb9b57c1a3b2898b8f756d16bc14836b793134e5950681865ec650", func := "marshes/marsheslaw09.ClosureParts", spec := "closureParts", inPlace := ["internal/bytealg.Compare"], unfollowed := true, recurses := true, named := ["marshes/hash.begin", "marshes/hash.factors"], plainKeys := false, apart := false, laid := [("marshes/hash.begin", laid_marshes_hash_begin), ("marshes/hash.factors", laid_marshes_hash_factors)] }
def ClosurePartsSaid : Prop := closurePartsRow.holds Tryz.pinned (OpenSpec.ofChange closurePartsSpec)

/-- ITS FALSE NEIGHBOUR: 'it returns false'. Refute it at one input. -/
def closurePartsWrong : ChangeSpec := { name := "closureParts", fn := fun _ => fun
  | [d1, d2, d3] => { results := [.lit (.bool false)], args := [d1, d2, d3] }
  | _ => none }
def ClosurePartsWrongFalsely : Prop := closurePartsRow.holds Tryz.pinned (OpenSpec.ofChange closurePartsWrong)

/-- 'marsheslaw09.ClosureGrows': WHATEVER THE INPUT: true; the input reads as it did. -/
def closureGrowsSpec : ChangeSpec := { name := "closureGrows", fn := fun _ => fun
  | [d1, d2, d3, d4] => { results := [.lit (.bool true)], args := [d1, d2, d3, d4] }
  | _ => none }
def closureGrowsRow : OpenClaim := { program := "ytcmnmigcalibdaagreatdoor", sum := "1094d0de2cfb9b57c1a3b2898b8f756d16bc14836b793134e5950681865ec650", func := "marshes/marsheslaw09.ClosureGrows", spec := "closureGrows", inPlace := ["internal/bytealg.Compare"], unfollowed := true, recurses := true, named := ["marshes/hash.begin", "marshes/hash.factors"], plainKeys := false, apart := false, laid := [("marshes/hash.begin", laid_marshes_hash_begin), ("marshes/hash.factors", laid_marshes_hash_factors)] }
def ClosureGrowsSaid : Prop := closureGrowsRow.holds Tryz.pinned (OpenSpec.ofChange closureGrowsSpec)

/-- ITS FALSE NEIGHBOUR: 'it returns false'. Refute it at one input. -/
def closureGrowsWrong : ChangeSpec := { name := "closureGrows", fn := fun _ => fun
  | [d1, d2, d3, d4] => { results := [.lit (.bool false)], args := [d1, d2, d3, d4] }
  | _ => none }
def ClosureGrowsWrongFalsely : Prop := closureGrowsRow.holds Tryz.pinned (OpenSpec.ofChange closureGrowsWrong)

/-- 'marsheslaw09.ClosureRises': WHATEVER THE INPUT: true; the input reads as it did. -/
def closureRisesSpec : ChangeSpec := { name := "closureRises", fn := fun _ => fun
  | [d1, d2, d3] => { results := [.lit (.bool true)], args := [d1, d2, d3] }
  | _ => none }
def closureRisesRow : OpenClaim := { program := "ytcmnmigcalibdaagreatdoor", sum := "1094d0de2cfb9b57c1a3b2898b8f756d16bc14836b793134e5950681865ec650", func := "marshes/marsheslaw09.ClosureRises", spec := "closureRises", inPlace := ["internal/bytealg.Compare"], unfollowed := true, recurses := true, named := ["marshes/hash.begin", "marshes/hash.factors"], plainKeys := false, apart := false, laid := [("marshes/hash.begin", laid_marshes_hash_begin), ("marshes/hash.factors", laid_marshes_hash_factors)] }
def ClosureRisesSaid : Prop := closureRisesRow.holds Tryz.pinned (OpenSpec.ofChange closureRisesSpec)

/-- ITS FALSE NEIGHBOUR: 'it returns false'. Refute it at one input. -/
def closureRisesWrong : ChangeSpec := { name := "closureRises", fn := fun _ => fun
  | [d1, d2, d3] => { results := [.lit (.bool false)], args := [d1, d2, d3] }
  | _ => none }
def ClosureRisesWrongFalsely : Prop := closureRisesRow.holds Tryz.pinned (OpenSpec.ofChange closureRisesWrong)

/-- 'marsheslaw09.ClosureNames': WHATEVER THE INPUT: true; the input reads as it did. -/
def closureNamesSpec : ChangeSpec := { name := "closureNames", fn := fun _ => fun
  | [] => { results := [.lit (.bool true)], args := [] }
  | _ => none }
def closureNamesRow : OpenClaim := { program := "ytcmnmigcalibdaagreatdoor", sum := "1094d0de2cfb9b57c1a3b2898b8f756d16bc14836b793134e5950681865ec650", func := "marshes/marsheslaw09.ClosureNames", spec := "closureNames", inPlace := ["internal/bytealg.Compare"], unfollowed := true, recurses := true, named := ["marshes/hash.begin", "marshes/hash.factors"], plainKeys := false, apart := false, laid := [("marshes/hash.begin", laid_marshes_hash_begin), ("marshes/hash.factors", laid_marshes_hash_factors)] }
def ClosureNamesSaid : Prop := closureNamesRow.holds Tryz.pinned (OpenSpec.ofChange closureNamesSpec)

/-- ITS FALSE NEIGHBOUR: 'it returns false'. Refute it at one input. -/
def closureNamesWrong : ChangeSpec := { name := "closureNames", fn := fun _ => fun
  | [] => { results := [.lit (.bool false)], args := [] }
  | _ => none }
def ClosureNamesWrongFalsely : Prop := closureNamesRow.holds Tryz.pinned (OpenSpec.ofChange closureNamesWrong)

/- THE SECOND FORM. 'bulk': how many values and letters a reading holds, each counted each time it is reached (what is shared counts as often as it is met; a slice's spare places count too). A statement '..UptoSaid' is the law's where the arguments, and the package variables that the reading takes, are together of bulk at most 1048576: NARROWER than '..Said'. Prove '..Said' where nothing that the law and all that it calls make is longer than what came in: it says more and counts as full. Else prove '..UptoSaid'. A law counts once. -/
mutual
def uptoBulk {H : Type} : DataW H → Nat
  | .lit (.string bytes) => bytes.length + 1
  | .lit _ => 1
  | .nil => 1
  | .ptr d => uptoBulk d + 1
  | .slice elems spare => uptoBulkAll elems + uptoBulkAll spare + 1
  | .agg parts => uptoBulkAll parts + 1
  | .iface _ d => uptoBulk d + 1
  | .map entries => uptoBulkEntries entries + 1
  | .held _ => 1
def uptoBulkAll {H : Type} : List (DataW H) → Nat
  | [] => 0
  | d :: r => uptoBulk d + uptoBulkAll r
def uptoBulkEntries {H : Type} : List (Lit × DataW H) → Nat
  | [] => 0
  | x :: r => uptoBulkEntry x + uptoBulkEntries r
def uptoBulkEntry {H : Type} : Lit × DataW H → Nat
  | (.string bytes, d) => bytes.length + uptoBulk d + 1
  | (_, d) => uptoBulk d + 1
 end
def uptoSmall : (H : Type) → List (DataW H) → Bool := fun _ ds => decide (uptoBulkAll ds ≤ 1048576)
def OpenSpec.upto (s : _root_.Go.ChangeSpec) : _root_.Go.OpenSpec := { _root_.Go.OpenSpec.ofChange s with cond := some uptoSmall }

/-- 'marsheslaw08.StoreOrder', WHERE WHAT IT READS IS OF BULK AT MOST 1048576: true; the input reads as it did. -/
def storeOrderUptoRow : OpenClaim := { program := "ytcmnmigcalibdaagreatdoor", sum := "1094d0de2cfb9b57c1a3b2898b8f756d16bc14836b793134e5950681865ec650", func := "marshes/marsheslaw08.StoreOrder", spec := "storeOrder", inPlace := ["maps.clone", "internal/bytealg.Compare"], unfollowed := true, recurses := true, named := ["marshes/hash.begin", "marshes/hash.factors"], plainKeys := false, apart := false, laid := [("marshes/hash.begin", laid_marshes_hash_begin), ("marshes/hash.factors", laid_marshes_hash_factors)], narrowed := true }
def StoreOrderUptoSaid : Prop := storeOrderUptoRow.holds Tryz.pinned (OpenSpec.upto storeOrderSpec)

/-- 'marsheslaw08.StorePlays', WHERE WHAT IT READS IS OF BULK AT MOST 1048576: true; the input reads as it did. -/
def storePlaysUptoRow : OpenClaim := { program := "ytcmnmigcalibdaagreatdoor", sum := "1094d0de2cfb9b57c1a3b2898b8f756d16bc14836b793134e5950681865ec650", func := "marshes/marsheslaw08.StorePlays", spec := "storePlays", inPlace := ["maps.clone", "internal/bytealg.Compare"], unfollowed := true, recurses := true, named := ["marshes/hash.begin", "marshes/hash.factors"], plainKeys := false, apart := false, laid := [("marshes/hash.begin", laid_marshes_hash_begin), ("marshes/hash.factors", laid_marshes_hash_factors)], narrowed := true }
def StorePlaysUptoSaid : Prop := storePlaysUptoRow.holds Tryz.pinned (OpenSpec.upto storePlaysSpec)

/-- 'marsheslaw08.StoreNames', WHERE WHAT IT READS IS OF BULK AT MOST 1048576: true; the input reads as it did. -/
def storeNamesUptoRow : OpenClaim := { program := "ytcmnmigcalibdaagreatdoor", sum := "1094d0de2cfb9b57c1a3b2898b8f756d16bc14836b793134e5950681865ec650", func := "marshes/marsheslaw08.StoreNames", spec := "storeNames", inPlace := ["maps.clone", "internal/bytealg.Compare"], unfollowed := true, recurses := true, named := ["marshes/hash.begin", "marshes/hash.factors"], plainKeys := false, apart := false, laid := [("marshes/hash.begin", laid_marshes_hash_begin), ("marshes/hash.factors", laid_marshes_hash_factors)], narrowed := true }
def StoreNamesUptoSaid : Prop := storeNamesUptoRow.holds Tryz.pinned (OpenSpec.upto storeNamesSpec)

/-- 'marsheslaw12.RecordNames', WHERE WHAT IT READS IS OF BULK AT MOST 1048576: true; the input reads as it did. -/
def recordNamesUptoRow : OpenClaim := { program := "ytcmnmigcalibdaagreatdoor", sum := "1094d0de2cfb9b57c1a3b2898b8f756d16bc14836b793134e5950681865ec650", func := "marshes/marsheslaw12.RecordNames", spec := "recordNames", inPlace := ["internal/bytealg.IndexByteString", "internal/bytealg.IndexString", "internal/bytealg.CountString"], unfollowed := true, recurses := true, named := ["internal/bytealg.MaxLen", "unicode/utf8.first", "unicode/utf8.acceptRanges"], plainKeys := false, apart := false, laid := [("unicode/utf8.acceptRanges", laid_unicode_utf8_acceptRanges), ("unicode/utf8.first", laid_unicode_utf8_first)], narrowed := true }
def RecordNamesUptoSaid : Prop := recordNamesUptoRow.holds Tryz.pinned (OpenSpec.upto recordNamesSpec)

/-- 'marsheslaw08.StoreWhole', WHERE WHAT IT READS IS OF BULK AT MOST 1048576: true; the input reads as it did. -/
def storeWholeUptoRow : OpenClaim := { program := "ytcmnmigcalibdaagreatdoor", sum := "1094d0de2cfb9b57c1a3b2898b8f756d16bc14836b793134e5950681865ec650", func := "marshes/marsheslaw08.StoreWhole", spec := "storeWhole", inPlace := ["internal/bytealg.Compare", "maps.clone"], unfollowed := true, recurses := true, named := ["marshes/hash.begin", "marshes/hash.factors"], plainKeys := false, apart := false, laid := [("marshes/hash.begin", laid_marshes_hash_begin), ("marshes/hash.factors", laid_marshes_hash_factors)], narrowed := true }
def StoreWholeUptoSaid : Prop := storeWholeUptoRow.holds Tryz.pinned (OpenSpec.upto storeWholeSpec)

/-- 'marsheslaw09.ClosureWalks', WHERE WHAT IT READS IS OF BULK AT MOST 1048576: true; the input reads as it did. -/
def closureWalksUptoRow : OpenClaim := { program := "ytcmnmigcalibdaagreatdoor", sum := "1094d0de2cfb9b57c1a3b2898b8f756d16bc14836b793134e5950681865ec650", func := "marshes/marsheslaw09.ClosureWalks", spec := "closureWalks", inPlace := ["internal/bytealg.Compare"], unfollowed := true, recurses := true, named := ["marshes/hash.begin", "marshes/hash.factors"], plainKeys := false, apart := false, laid := [("marshes/hash.begin", laid_marshes_hash_begin), ("marshes/hash.factors", laid_marshes_hash_factors)], narrowed := true }
def ClosureWalksUptoSaid : Prop := closureWalksUptoRow.holds Tryz.pinned (OpenSpec.upto closureWalksSpec)

/-- 'marsheslaw09.ClosureSteps', WHERE WHAT IT READS IS OF BULK AT MOST 1048576: true; the input reads as it did. -/
def closureStepsUptoRow : OpenClaim := { program := "ytcmnmigcalibdaagreatdoor", sum := "1094d0de2cfb9b57c1a3b2898b8f756d16bc14836b793134e5950681865ec650", func := "marshes/marsheslaw09.ClosureSteps", spec := "closureSteps", inPlace := ["internal/bytealg.Compare"], unfollowed := true, recurses := true, named := ["marshes/hash.begin", "marshes/hash.factors"], plainKeys := false, apart := false, laid := [("marshes/hash.begin", laid_marshes_hash_begin), ("marshes/hash.factors", laid_marshes_hash_factors)], narrowed := true }
def ClosureStepsUptoSaid : Prop := closureStepsUptoRow.holds Tryz.pinned (OpenSpec.upto closureStepsSpec)

/-- 'marsheslaw07.ObjectNames', WHERE WHAT IT READS IS OF BULK AT MOST 1048576: true; the input reads as it did. -/
def objectNamesUptoRow : OpenClaim := { program := "ytcmnmigcalibdaagreatdoor", sum := "1094d0de2cfb9b57c1a3b2898b8f756d16bc14836b793134e5950681865ec650", func := "marshes/marsheslaw07.ObjectNames", spec := "objectNames", inPlace := ["internal/abi.NoEscape", "internal/bytealg.MakeNoZero"], unfollowed := true, recurses := true, named := ["marshes/hash.begin", "marshes/hash.factors"], plainKeys := false, apart := false, laid := [("marshes/hash.begin", laid_marshes_hash_begin), ("marshes/hash.factors", laid_marshes_hash_factors)], narrowed := true }
def ObjectNamesUptoSaid : Prop := objectNamesUptoRow.holds Tryz.pinned (OpenSpec.upto objectNamesSpec)

/-- 'marsheslaw09.ClosureParts', WHERE WHAT IT READS IS OF BULK AT MOST 1048576: true; the input reads as it did. -/
def closurePartsUptoRow : OpenClaim := { program := "ytcmnmigcalibdaagreatdoor", sum := "1094d0de2cfb9b57c1a3b2898b8f756d16bc14836b793134e5950681865ec650", func := "marshes/marsheslaw09.ClosureParts", spec := "closureParts", inPlace := ["internal/bytealg.Compare"], unfollowed := true, recurses := true, named := ["marshes/hash.begin", "marshes/hash.factors"], plainKeys := false, apart := false, laid := [("marshes/hash.begin", laid_marshes_hash_begin), ("marshes/hash.factors", laid_marshes_hash_factors)], narrowed := true }
def ClosurePartsUptoSaid : Prop := closurePartsUptoRow.holds Tryz.pinned (OpenSpec.upto closurePartsSpec)

/-- 'marsheslaw09.ClosureGrows', WHERE WHAT IT READS IS OF BULK AT MOST 1048576: true; the input reads as it did. -/
def closureGrowsUptoRow : OpenClaim := { program := "ytcmnmigcalibdaagreatdoor", sum := "1094d0de2cfb9b57c1a3b2898b8f756d16bc14836b793134e5950681865ec650", func := "marshes/marsheslaw09.ClosureGrows", spec := "closureGrows", inPlace := ["internal/bytealg.Compare"], unfollowed := true, recurses := true, named := ["marshes/hash.begin", "marshes/hash.factors"], plainKeys := false, apart := false, laid := [("marshes/hash.begin", laid_marshes_hash_begin), ("marshes/hash.factors", laid_marshes_hash_factors)], narrowed := true }
def ClosureGrowsUptoSaid : Prop := closureGrowsUptoRow.holds Tryz.pinned (OpenSpec.upto closureGrowsSpec)

/-- 'marsheslaw09.ClosureRises', WHERE WHAT IT READS IS OF BULK AT MOST 1048576: true; the input reads as it did. -/
def closureRisesUptoRow : OpenClaim := { program := "ytcmnmigcalibdaagreatdoor", sum := "1094d0de2cfb9b57c1a3b2898b8f756d16bc14836b793134e5950681865ec650", func := "marshes/marsheslaw09.ClosureRises", spec := "closureRises", inPlace := ["internal/bytealg.Compare"], unfollowed := true, recurses := true, named := ["marshes/hash.begin", "marshes/hash.factors"], plainKeys := false, apart := false, laid := [("marshes/hash.begin", laid_marshes_hash_begin), ("marshes/hash.factors", laid_marshes_hash_factors)], narrowed := true }
def ClosureRisesUptoSaid : Prop := closureRisesUptoRow.holds Tryz.pinned (OpenSpec.upto closureRisesSpec)

/-- 'marsheslaw09.ClosureNames', WHERE WHAT IT READS IS OF BULK AT MOST 1048576: true; the input reads as it did. -/
def closureNamesUptoRow : OpenClaim := { program := "ytcmnmigcalibdaagreatdoor", sum := "1094d0de2cfb9b57c1a3b2898b8f756d16bc14836b793134e5950681865ec650", func := "marshes/marsheslaw09.ClosureNames", spec := "closureNames", inPlace := ["internal/bytealg.Compare"], unfollowed := true, recurses := true, named := ["marshes/hash.begin", "marshes/hash.factors"], plainKeys := false, apart := false, laid := [("marshes/hash.begin", laid_marshes_hash_begin), ("marshes/hash.factors", laid_marshes_hash_factors)], narrowed := true }
def ClosureNamesUptoSaid : Prop := closureNamesUptoRow.holds Tryz.pinned (OpenSpec.upto closureNamesSpec)

end Rows
end Go.Proofs.YtcmnmigcalibdaaGreatDoor

/-
  NARROWER THAN 'FOR EVERY INPUT', by the rows' own cells (each row's printed sentence says how): SiblingLoads: laid · SiblingDeletes: laid · SiblingApart: laid · SiblingNames: laid · SiblingOrder: laid · CausalPlays: laid.
  DERIVED. THE GIVEN ROWS OF THIS SEAT. 6 by the template 'for every input the law returns true; each argument reads behind the call as it read before'; 0 by the template 'total and deterministic' (their statements: YtaakjgmehbbgfaaGreatDoorTotals.lean).
  GIVEN WITH THE SEED: the statements are not yours to turn. If you find one false, say at which input.
  Laid BY PROGRAM, IN A SANDBOX (cutbox-rows.mjs): the forced cells as the released guide's own fill.sh prints them over the translation 274187795d03ef25… (all of the seat's roots in one cut). By AI agents, Wed Nov 11 2026. No macro, syntax, notation, axiom, sorry.
-/
import Derived.Test.YtaakjgmehbbgfaaGreatDoorChecked
import GoSem.PinnedTables
import GoSem.Claim
import GoSem.ClaimJoined
import GoSem.ClaimMapViews
import Derived.JoinedTies
import Derived.KernelRfl
namespace Go.Proofs.YtaakjgmehbbgfaaGreatDoor
/- THE CELL 'sum', in the pinned program and in every row, IS THE sha256 OF THE DUMP (.gsa) THAT YtaakjgmehbbgfaaGreatDoorProg.lean LOADS. Nothing in Lean hashes anything: it is a label: what it is worth is what the hold of that sum in a sandbox is worth. -/
noncomputable def Tryz.pinned : Pinned := { name := "ytaakjgmehbbgfaagreatdoor", sum := "274187795d03ef251a46f7d5c8498e06293368397179d8ef8c58a8602bfdb48b", checked := Tryz.checked }
namespace Rows
def none {H : Type} : Left H := { results := [], args := [] }

/- WHAT THE LISTED PACKAGE-LEVEL VARIABLES READ AS WHEN THE CALL BEGINS. Each datum BY PROGRAM (the guide's laid-datum.mjs) off the statement by which the dump's own 'gosem.cut.vars' lays the variable. In a bare row this is a premise. The card (YtaakjgmehbbgfaaGreatDoorCards.lean) ties it to the program's text. -/
def laid_unicode_utf8_acceptRanges {H : Type} : DataW H := .agg [.agg [.lit (.int .u8 128), .lit (.int .u8 191)], .agg [.lit (.int .u8 160), .lit (.int .u8 191)], .agg [.lit (.int .u8 128), .lit (.int .u8 159)], .agg [.lit (.int .u8 144), .lit (.int .u8 191)], .agg [.lit (.int .u8 128), .lit (.int .u8 143)], .agg [.lit (.int .u8 0), .lit (.int .u8 0)], .agg [.lit (.int .u8 0), .lit (.int .u8 0)], .agg [.lit (.int .u8 0), .lit (.int .u8 0)], .agg [.lit (.int .u8 0), .lit (.int .u8 0)], .agg [.lit (.int .u8 0), .lit (.int .u8 0)], .agg [.lit (.int .u8 0), .lit (.int .u8 0)], .agg [.lit (.int .u8 0), .lit (.int .u8 0)], .agg [.lit (.int .u8 0), .lit (.int .u8 0)], .agg [.lit (.int .u8 0), .lit (.int .u8 0)], .agg [.lit (.int .u8 0), .lit (.int .u8 0)], .agg [.lit (.int .u8 0), .lit (.int .u8 0)]]
/-- One of Go's own tables, pinned by name: the form's constant. -/
def laid_unicode_utf8_first : DataW Unit := Go.Pinned.utf8First

/-- 'marsheslaw19.SiblingLoads': WHATEVER THE INPUT: true; the input reads as it did. -/
def siblingLoadsSpec : ChangeSpec := { name := "siblingLoads", fn := fun _ => fun
  | [d] => { results := [.lit (.bool true)], args := [d] }
  | _ => none }
def siblingLoadsRow : OpenClaim := { program := "ytaakjgmehbbgfaagreatdoor", sum := "274187795d03ef251a46f7d5c8498e06293368397179d8ef8c58a8602bfdb48b", func := "marshes/marsheslaw19.SiblingLoads", spec := "siblingLoads", inPlace := ["internal/bytealg.IndexByteString", "internal/bytealg.IndexString", "internal/bytealg.CountString", "internal/bytealg.Compare"], unfollowed := true, recurses := true, named := ["internal/bytealg.MaxLen", "unicode/utf8.first", "unicode/utf8.acceptRanges"], plainKeys := false, apart := false, laid := [("unicode/utf8.acceptRanges", laid_unicode_utf8_acceptRanges), ("unicode/utf8.first", laid_unicode_utf8_first)] }
def SiblingLoadsSaid : Prop := siblingLoadsRow.holds Tryz.pinned (OpenSpec.ofChange siblingLoadsSpec)

/-- ITS FALSE NEIGHBOUR: 'it returns false'. Refute it at one input. -/
def siblingLoadsWrong : ChangeSpec := { name := "siblingLoads", fn := fun _ => fun
  | [d] => { results := [.lit (.bool false)], args := [d] }
  | _ => none }
def SiblingLoadsWrongFalsely : Prop := siblingLoadsRow.holds Tryz.pinned (OpenSpec.ofChange siblingLoadsWrong)

/-- 'marsheslaw19.SiblingDeletes': WHATEVER THE INPUT: true; the input reads as it did. -/
def siblingDeletesSpec : ChangeSpec := { name := "siblingDeletes", fn := fun _ => fun
  | [d1, d2] => { results := [.lit (.bool true)], args := [d1, d2] }
  | _ => none }
def siblingDeletesRow : OpenClaim := { program := "ytaakjgmehbbgfaagreatdoor", sum := "274187795d03ef251a46f7d5c8498e06293368397179d8ef8c58a8602bfdb48b", func := "marshes/marsheslaw19.SiblingDeletes", spec := "siblingDeletes", inPlace := ["internal/bytealg.IndexByteString", "internal/bytealg.IndexString", "internal/bytealg.CountString", "internal/bytealg.Compare"], unfollowed := true, recurses := true, named := ["internal/bytealg.MaxLen", "unicode/utf8.first", "unicode/utf8.acceptRanges"], plainKeys := false, apart := false, laid := [("unicode/utf8.acceptRanges", laid_unicode_utf8_acceptRanges), ("unicode/utf8.first", laid_unicode_utf8_first)] }
def SiblingDeletesSaid : Prop := siblingDeletesRow.holds Tryz.pinned (OpenSpec.ofChange siblingDeletesSpec)

/-- ITS FALSE NEIGHBOUR: 'it returns false'. Refute it at one input. -/
def siblingDeletesWrong : ChangeSpec := { name := "siblingDeletes", fn := fun _ => fun
  | [d1, d2] => { results := [.lit (.bool false)], args := [d1, d2] }
  | _ => none }
def SiblingDeletesWrongFalsely : Prop := siblingDeletesRow.holds Tryz.pinned (OpenSpec.ofChange siblingDeletesWrong)

/-- 'marsheslaw19.SiblingApart': WHATEVER THE INPUT: true; the input reads as it did. -/
def siblingApartSpec : ChangeSpec := { name := "siblingApart", fn := fun _ => fun
  | [d] => { results := [.lit (.bool true)], args := [d] }
  | _ => none }
def siblingApartRow : OpenClaim := { program := "ytaakjgmehbbgfaagreatdoor", sum := "274187795d03ef251a46f7d5c8498e06293368397179d8ef8c58a8602bfdb48b", func := "marshes/marsheslaw19.SiblingApart", spec := "siblingApart", inPlace := ["internal/bytealg.IndexByteString", "internal/bytealg.IndexString", "internal/bytealg.CountString", "internal/bytealg.Compare"], unfollowed := true, recurses := true, named := ["internal/bytealg.MaxLen", "unicode/utf8.first", "unicode/utf8.acceptRanges"], plainKeys := false, apart := false, laid := [("unicode/utf8.acceptRanges", laid_unicode_utf8_acceptRanges), ("unicode/utf8.first", laid_unicode_utf8_first)] }
def SiblingApartSaid : Prop := siblingApartRow.holds Tryz.pinned (OpenSpec.ofChange siblingApartSpec)

/-- ITS FALSE NEIGHBOUR: 'it returns false'. Refute it at one input. -/
def siblingApartWrong : ChangeSpec := { name := "siblingApart", fn := fun _ => fun
  | [d] => { results := [.lit (.bool false)], args := [d] }
  | _ => none }
def SiblingApartWrongFalsely : Prop := siblingApartRow.holds Tryz.pinned (OpenSpec.ofChange siblingApartWrong)

/-- 'marsheslaw19.SiblingNames': WHATEVER THE INPUT: true; the input reads as it did. -/
def siblingNamesSpec : ChangeSpec := { name := "siblingNames", fn := fun _ => fun
  | [] => { results := [.lit (.bool true)], args := [] }
  | _ => none }
def siblingNamesRow : OpenClaim := { program := "ytaakjgmehbbgfaagreatdoor", sum := "274187795d03ef251a46f7d5c8498e06293368397179d8ef8c58a8602bfdb48b", func := "marshes/marsheslaw19.SiblingNames", spec := "siblingNames", inPlace := ["internal/bytealg.IndexByteString", "internal/bytealg.IndexString", "internal/bytealg.CountString", "internal/bytealg.Compare"], unfollowed := true, recurses := true, named := ["internal/bytealg.MaxLen", "unicode/utf8.first", "unicode/utf8.acceptRanges"], plainKeys := false, apart := false, laid := [("unicode/utf8.acceptRanges", laid_unicode_utf8_acceptRanges), ("unicode/utf8.first", laid_unicode_utf8_first)] }
def SiblingNamesSaid : Prop := siblingNamesRow.holds Tryz.pinned (OpenSpec.ofChange siblingNamesSpec)

/-- ITS FALSE NEIGHBOUR: 'it returns false'. Refute it at one input. -/
def siblingNamesWrong : ChangeSpec := { name := "siblingNames", fn := fun _ => fun
  | [] => { results := [.lit (.bool false)], args := [] }
  | _ => none }
def SiblingNamesWrongFalsely : Prop := siblingNamesRow.holds Tryz.pinned (OpenSpec.ofChange siblingNamesWrong)

/-- 'marsheslaw19.SiblingOrder': WHATEVER THE INPUT: true; the input reads as it did. -/
def siblingOrderSpec : ChangeSpec := { name := "siblingOrder", fn := fun _ => fun
  | [d1, d2, d3, d4] => { results := [.lit (.bool true)], args := [d1, d2, d3, d4] }
  | _ => none }
def siblingOrderRow : OpenClaim := { program := "ytaakjgmehbbgfaagreatdoor", sum := "274187795d03ef251a46f7d5c8498e06293368397179d8ef8c58a8602bfdb48b", func := "marshes/marsheslaw19.SiblingOrder", spec := "siblingOrder", inPlace := ["internal/bytealg.IndexByteString", "internal/bytealg.IndexString", "internal/bytealg.CountString", "internal/bytealg.Compare"], unfollowed := true, recurses := true, named := ["internal/bytealg.MaxLen", "unicode/utf8.first", "unicode/utf8.acceptRanges"], plainKeys := false, apart := false, laid := [("unicode/utf8.acceptRanges", laid_unicode_utf8_acceptRanges), ("unicode/utf8.first", laid_unicode_utf8_first)] }
def SiblingOrderSaid : Prop := siblingOrderRow.holds Tryz.pinned (OpenSpec.ofChange siblingOrderSpec)

/-- ITS FALSE NEIGHBOUR: 'it returns false'. Refute it at one input. -/
def siblingOrderWrong : ChangeSpec := { name := "siblingOrder", fn := fun _ => fun
  | [d1, d2, d3, d4] => { results := [.lit (.bool false)], args := [d1, d2, d3, d4] }
  | _ => none }
def SiblingOrderWrongFalsely : Prop := siblingOrderRow.holds Tryz.pinned (OpenSpec.ofChange siblingOrderWrong)

/-- 'marsheslaw17.CausalPlays': WHATEVER THE INPUT: true; the input reads as it did. -/
def causalPlaysSpec : ChangeSpec := { name := "causalPlays", fn := fun _ => fun
  | [d1, d2] => { results := [.lit (.bool true)], args := [d1, d2] }
  | _ => none }
def causalPlaysRow : OpenClaim := { program := "ytaakjgmehbbgfaagreatdoor", sum := "274187795d03ef251a46f7d5c8498e06293368397179d8ef8c58a8602bfdb48b", func := "marshes/marsheslaw17.CausalPlays", spec := "causalPlays", inPlace := ["internal/bytealg.IndexByteString", "internal/bytealg.IndexString", "internal/bytealg.CountString", "maps.clone"], unfollowed := true, recurses := true, named := ["internal/bytealg.MaxLen", "unicode/utf8.first", "unicode/utf8.acceptRanges"], plainKeys := false, apart := false, laid := [("unicode/utf8.acceptRanges", laid_unicode_utf8_acceptRanges), ("unicode/utf8.first", laid_unicode_utf8_first)] }
def CausalPlaysSaid : Prop := causalPlaysRow.holds Tryz.pinned (OpenSpec.ofChange causalPlaysSpec)

/-- ITS FALSE NEIGHBOUR: 'it returns false'. Refute it at one input. -/
def causalPlaysWrong : ChangeSpec := { name := "causalPlays", fn := fun _ => fun
  | [d1, d2] => { results := [.lit (.bool false)], args := [d1, d2] }
  | _ => none }
def CausalPlaysWrongFalsely : Prop := causalPlaysRow.holds Tryz.pinned (OpenSpec.ofChange causalPlaysWrong)

/- THE SECOND FORM. 'bulk': how many values and letters a reading holds, each counted each time it is reached (what is shared counts as often as it is met; a slice's spare places count too). A statement '..UptoSaid' is the law's where the arguments, and the package variables that the reading takes, are together of bulk at most 1048576: NARROWER than '..Said'. Prove '..Said' where nothing that the law and all that it calls make is longer than what came in: it says more and counts as full. Else prove '..UptoSaid'. A law counts once. -/
mutual
def uptoBulk {H : Type} : DataW H → Nat
  | .lit (.string bytes) => bytes.length + 1
  | .lit _ => 1
  | .nil => 1
  | .ptr d => uptoBulk d + 1
  | .slice elems spare => uptoBulkAll elems + uptoBulkAll spare + 1
  | .agg parts => uptoBulkAll parts + 1
  | .iface _ d => uptoBulk d + 1
  | .map entries => uptoBulkEntries entries + 1
  | .held _ => 1
def uptoBulkAll {H : Type} : List (DataW H) → Nat
  | [] => 0
  | d :: r => uptoBulk d + uptoBulkAll r
def uptoBulkEntries {H : Type} : List (Lit × DataW H) → Nat
  | [] => 0
  | x :: r => uptoBulkEntry x + uptoBulkEntries r
def uptoBulkEntry {H : Type} : Lit × DataW H → Nat
  | (.string bytes, d) => bytes.length + uptoBulk d + 1
  | (_, d) => uptoBulk d + 1
 end
def uptoSmall : (H : Type) → List (DataW H) → Bool := fun _ ds => decide (uptoBulkAll ds ≤ 1048576)
def OpenSpec.upto (s : _root_.Go.ChangeSpec) : _root_.Go.OpenSpec := { _root_.Go.OpenSpec.ofChange s with cond := some uptoSmall }

/-- 'marsheslaw19.SiblingLoads', WHERE WHAT IT READS IS OF BULK AT MOST 1048576: true; the input reads as it did. -/
def siblingLoadsUptoRow : OpenClaim := { program := "ytaakjgmehbbgfaagreatdoor", sum := "274187795d03ef251a46f7d5c8498e06293368397179d8ef8c58a8602bfdb48b", func := "marshes/marsheslaw19.SiblingLoads", spec := "siblingLoads", inPlace := ["internal/bytealg.IndexByteString", "internal/bytealg.IndexString", "internal/bytealg.CountString", "internal/bytealg.Compare"], unfollowed := true, recurses := true, named := ["internal/bytealg.MaxLen", "unicode/utf8.first", "unicode/utf8.acceptRanges"], plainKeys := false, apart := false, laid := [("unicode/utf8.acceptRanges", laid_unicode_utf8_acceptRanges), ("unicode/utf8.first", laid_unicode_utf8_first)], narrowed := true }
def SiblingLoadsUptoSaid : Prop := siblingLoadsUptoRow.holds Tryz.pinned (OpenSpec.upto siblingLoadsSpec)

/-- 'marsheslaw19.SiblingDeletes', WHERE WHAT IT READS IS OF BULK AT MOST 1048576: true; the input reads as it did. -/
def siblingDeletesUptoRow : OpenClaim := { program := "ytaakjgmehbbgfaagreatdoor", sum := "274187795d03ef251a46f7d5c8498e06293368397179d8ef8c58a8602bfdb48b", func := "marshes/marsheslaw19.SiblingDeletes", spec := "siblingDeletes", inPlace := ["internal/bytealg.IndexByteString", "internal/bytealg.IndexString", "internal/bytealg.CountString", "internal/bytealg.Compare"], unfollowed := true, recurses := true, named := ["internal/bytealg.MaxLen", "unicode/utf8.first", "unicode/utf8.acceptRanges"], plainKeys := false, apart := false, laid := [("unicode/utf8.acceptRanges", laid_unicode_utf8_acceptRanges), ("unicode/utf8.first", laid_unicode_utf8_first)], narrowed := true }
def SiblingDeletesUptoSaid : Prop := siblingDeletesUptoRow.holds Tryz.pinned (OpenSpec.upto siblingDeletesSpec)

/-- 'marsheslaw19.SiblingApart', WHERE WHAT IT READS IS OF BULK AT MOST 1048576: true; the input reads as it did. -/
def siblingApartUptoRow : OpenClaim := { program := "ytaakjgmehbbgfaagreatdoor", sum := "274187795d03ef251a46f7d5c8498e06293368397179d8ef8c58a8602bfdb48b", func := "marshes/marsheslaw19.SiblingApart", spec := "siblingApart", inPlace := ["internal/bytealg.IndexByteString", "internal/bytealg.IndexString", "internal/bytealg.CountString", "internal/bytealg.Compare"], unfollowed := true, recurses := true, named := ["internal/bytealg.MaxLen", "unicode/utf8.first", "unicode/utf8.acceptRanges"], plainKeys := false, apart := false, laid := [("unicode/utf8.acceptRanges", laid_unicode_utf8_acceptRanges), ("unicode/utf8.first", laid_unicode_utf8_first)], narrowed := true }
def SiblingApartUptoSaid : Prop := siblingApartUptoRow.holds Tryz.pinned (OpenSpec.upto siblingApartSpec)

/-- 'marsheslaw19.SiblingNames', WHERE WHAT IT READS IS OF BULK AT MOST 1048576: true; the input reads as it did. -/
def siblingNamesUptoRow : OpenClaim := { program := "ytaakjgmehbbgfaagreatdoor", sum := "274187795d03ef251a46f7d5c8498e06293368397179d8ef8c58a8602bfdb48b", func := "marshes/marsheslaw19.SiblingNames", spec := "siblingNames", inPlace := ["internal/bytealg.IndexByteString", "internal/bytealg.IndexString", "internal/bytealg.CountString", "internal/bytealg.Compare"], unfollowed := true, recurses := true, named := ["internal/bytealg.MaxLen", "unicode/utf8.first", "unicode/utf8.acceptRanges"], plainKeys := false, apart := false, laid := [("unicode/utf8.acceptRanges", laid_unicode_utf8_acceptRanges), ("unicode/utf8.first", laid_unicode_utf8_first)], narrowed := true }
def SiblingNamesUptoSaid : Prop := siblingNamesUptoRow.holds Tryz.pinned (OpenSpec.upto siblingNamesSpec)

/-- 'marsheslaw19.SiblingOrder', WHERE WHAT IT READS IS OF BULK AT MOST 1048576: true; the input reads as it did. -/
def siblingOrderUptoRow : OpenClaim := { program := "ytaakjgmehbbgfaagreatdoor", sum := "274187795d03ef251a46f7d5c8498e06293368397179d8ef8c58a8602bfdb48b", func := "marshes/marsheslaw19.SiblingOrder", spec := "siblingOrder", inPlace := ["internal/bytealg.IndexByteString", "internal/bytealg.IndexString", "internal/bytealg.CountString", "internal/bytealg.Compare"], unfollowed := true, recurses := true, named := ["internal/bytealg.MaxLen", "unicode/utf8.first", "unicode/utf8.acceptRanges"], plainKeys := false, apart := false, laid := [("unicode/utf8.acceptRanges", laid_unicode_utf8_acceptRanges), ("unicode/utf8.first", laid_unicode_utf8_first)], narrowed := true }
def SiblingOrderUptoSaid : Prop := siblingOrderUptoRow.holds Tryz.pinned (OpenSpec.upto siblingOrderSpec)

/-- 'marsheslaw17.CausalPlays', WHERE WHAT IT READS IS OF BULK AT MOST 1048576: true; the input reads as it did. -/
def causalPlaysUptoRow : OpenClaim := { program := "ytaakjgmehbbgfaagreatdoor", sum := "274187795d03ef251a46f7d5c8498e06293368397179d8ef8c58a8602bfdb48b", func := "marshes/marsheslaw17.CausalPlays", spec := "causalPlays", inPlace := ["internal/bytealg.IndexByteString", "internal/bytealg.IndexString", "internal/bytealg.CountString", "maps.clone"], unfollowed := true, recurses := true, named := ["internal/bytealg.MaxLen", "unicode/utf8.first", "unicode/utf8.acceptRanges"], plainKeys := false, apart := false, laid := [("unicode/utf8.acceptRanges", laid_unicode_utf8_acceptRanges), ("unicode/utf8.first", laid_unicode_utf8_first)], narrowed := true }
def CausalPlaysUptoSaid : Prop := causalPlaysUptoRow.holds Tryz.pinned (OpenSpec.upto causalPlaysSpec)

end Rows
end Go.Proofs.YtaakjgmehbbgfaaGreatDoor

/-
  No cell of these rows narrows 'for every input' (looked for: loops, veiled, ifaces, maps, wideKeys, modest, calm, conditions, laid).
  DERIVED. THE GIVEN ROWS OF THIS SEAT. 6 by the template 'for every input the law returns true; each argument reads behind the call as it read before'; 0 by the template 'total and deterministic' (their statements: YtjmdfhbenejfgaaTotals.lean).
  GIVEN WITH THE SEED: the statements are not yours to turn. If you find one false, say at which input.
  Laid BY PROGRAM, IN A SANDBOX (cutbox-rows.mjs): the forced cells as the released guide's own fill.sh prints them over the translation b20ce78ecb4e1853… (all of the seat's roots in one cut). By AI agents, Wed Nov 11 2026. No macro, syntax, notation, axiom, sorry.
-/
import Derived.Test.YtjmdfhbenejfgaaChecked
import GoSem.Claim
import GoSem.ClaimJoined
import GoSem.ClaimMapViews
import Derived.JoinedTies
import Derived.KernelRfl
namespace Go.Proofs.Ytjmdfhbenejfgaa
/- THE CELL 'sum', in the pinned program and in every row, IS THE sha256 OF THE DUMP (.gsa) THAT YtjmdfhbenejfgaaProg.lean LOADS. Nothing in Lean hashes anything: it is a label: what it is worth is what the hold of that sum in a sandbox is worth. -/
noncomputable def Try.pinned : Pinned := { name := "ytjmdfhbenejfgaa", sum := "b20ce78ecb4e18532e1b02775abb4ad02df5af9769e355fbe54af3421ba11c14", checked := Try.checked }
namespace Rows
def none {H : Type} : Left H := { results := [], args := [] }

/-- 'wimplelaw0.WimpleNames': WHATEVER THE INPUT: true; the input reads as it did. -/
def wimpleNamesSpec : ChangeSpec := { name := "wimpleNames", fn := fun _ => fun
  | [] => { results := [.lit (.bool true)], args := [] }
  | _ => none }
def wimpleNamesRow : OpenClaim := { program := "ytjmdfhbenejfgaa", sum := "b20ce78ecb4e18532e1b02775abb4ad02df5af9769e355fbe54af3421ba11c14", func := "wimple/wimplelaw0.WimpleNames", spec := "wimpleNames", apart := false }
def WimpleNamesSaid : Prop := wimpleNamesRow.holds Try.pinned (OpenSpec.ofChange wimpleNamesSpec)

/-- ITS FALSE NEIGHBOUR: 'it returns false'. Refute it at one input. -/
def wimpleNamesWrong : ChangeSpec := { name := "wimpleNames", fn := fun _ => fun
  | [] => { results := [.lit (.bool false)], args := [] }
  | _ => none }
def WimpleNamesWrongFalsely : Prop := wimpleNamesRow.holds Try.pinned (OpenSpec.ofChange wimpleNamesWrong)

/-- 'wimplelaw18.IdRows': WHATEVER THE INPUT: true; the input reads as it did. -/
def idRowsSpec : ChangeSpec := { name := "idRows", fn := fun _ => fun
  | [d] => { results := [.lit (.bool true)], args := [d] }
  | _ => none }
def idRowsRow : OpenClaim := { program := "ytjmdfhbenejfgaa", sum := "b20ce78ecb4e18532e1b02775abb4ad02df5af9769e355fbe54af3421ba11c14", func := "wimple/wimplelaw18.IdRows", spec := "idRows", apart := false }
def IdRowsSaid : Prop := idRowsRow.holds Try.pinned (OpenSpec.ofChange idRowsSpec)

/-- ITS FALSE NEIGHBOUR: 'it returns false'. Refute it at one input. -/
def idRowsWrong : ChangeSpec := { name := "idRows", fn := fun _ => fun
  | [d] => { results := [.lit (.bool false)], args := [d] }
  | _ => none }
def IdRowsWrongFalsely : Prop := idRowsRow.holds Try.pinned (OpenSpec.ofChange idRowsWrong)

/-- 'wimplelaw18.IdLimits': WHATEVER THE INPUT: true; the input reads as it did. -/
def idLimitsSpec : ChangeSpec := { name := "idLimits", fn := fun _ => fun
  | [d1, d2] => { results := [.lit (.bool true)], args := [d1, d2] }
  | _ => none }
def idLimitsRow : OpenClaim := { program := "ytjmdfhbenejfgaa", sum := "b20ce78ecb4e18532e1b02775abb4ad02df5af9769e355fbe54af3421ba11c14", func := "wimple/wimplelaw18.IdLimits", spec := "idLimits", apart := false }
def IdLimitsSaid : Prop := idLimitsRow.holds Try.pinned (OpenSpec.ofChange idLimitsSpec)

/-- ITS FALSE NEIGHBOUR: 'it returns false'. Refute it at one input. -/
def idLimitsWrong : ChangeSpec := { name := "idLimits", fn := fun _ => fun
  | [d1, d2] => { results := [.lit (.bool false)], args := [d1, d2] }
  | _ => none }
def IdLimitsWrongFalsely : Prop := idLimitsRow.holds Try.pinned (OpenSpec.ofChange idLimitsWrong)

/-- 'wimplelaw9.Strips': WHATEVER THE INPUT: true; the input reads as it did. -/
def stripsSpec : ChangeSpec := { name := "strips", fn := fun _ => fun
  | [d] => { results := [.lit (.bool true)], args := [d] }
  | _ => none }
def stripsRow : OpenClaim := { program := "ytjmdfhbenejfgaa", sum := "b20ce78ecb4e18532e1b02775abb4ad02df5af9769e355fbe54af3421ba11c14", func := "wimple/wimplelaw9.Strips", spec := "strips", unfollowed := true, recurses := true, apart := false }
def StripsSaid : Prop := stripsRow.holds Try.pinned (OpenSpec.ofChange stripsSpec)

/-- ITS FALSE NEIGHBOUR: 'it returns false'. Refute it at one input. -/
def stripsWrong : ChangeSpec := { name := "strips", fn := fun _ => fun
  | [d] => { results := [.lit (.bool false)], args := [d] }
  | _ => none }
def StripsWrongFalsely : Prop := stripsRow.holds Try.pinned (OpenSpec.ofChange stripsWrong)

/-- 'wimplelaw9.StripTwice': WHATEVER THE INPUT: true; the input reads as it did. -/
def stripTwiceSpec : ChangeSpec := { name := "stripTwice", fn := fun _ => fun
  | [d] => { results := [.lit (.bool true)], args := [d] }
  | _ => none }
def stripTwiceRow : OpenClaim := { program := "ytjmdfhbenejfgaa", sum := "b20ce78ecb4e18532e1b02775abb4ad02df5af9769e355fbe54af3421ba11c14", func := "wimple/wimplelaw9.StripTwice", spec := "stripTwice", unfollowed := true, recurses := true, apart := false }
def StripTwiceSaid : Prop := stripTwiceRow.holds Try.pinned (OpenSpec.ofChange stripTwiceSpec)

/-- ITS FALSE NEIGHBOUR: 'it returns false'. Refute it at one input. -/
def stripTwiceWrong : ChangeSpec := { name := "stripTwice", fn := fun _ => fun
  | [d] => { results := [.lit (.bool false)], args := [d] }
  | _ => none }
def StripTwiceWrongFalsely : Prop := stripTwiceRow.holds Try.pinned (OpenSpec.ofChange stripTwiceWrong)

/-- 'wimplelaw9.EcsMixed': WHATEVER THE INPUT: true; the input reads as it did. -/
def ecsMixedSpec : ChangeSpec := { name := "ecsMixed", fn := fun _ => fun
  | [d1, d2] => { results := [.lit (.bool true)], args := [d1, d2] }
  | _ => none }
def ecsMixedRow : OpenClaim := { program := "ytjmdfhbenejfgaa", sum := "b20ce78ecb4e18532e1b02775abb4ad02df5af9769e355fbe54af3421ba11c14", func := "wimple/wimplelaw9.EcsMixed", spec := "ecsMixed", unfollowed := true, recurses := true, apart := false }
def EcsMixedSaid : Prop := ecsMixedRow.holds Try.pinned (OpenSpec.ofChange ecsMixedSpec)

/-- ITS FALSE NEIGHBOUR: 'it returns false'. Refute it at one input. -/
def ecsMixedWrong : ChangeSpec := { name := "ecsMixed", fn := fun _ => fun
  | [d1, d2] => { results := [.lit (.bool false)], args := [d1, d2] }
  | _ => none }
def EcsMixedWrongFalsely : Prop := ecsMixedRow.holds Try.pinned (OpenSpec.ofChange ecsMixedWrong)

/- THE SECOND FORM. 'bulk': how many values and letters a reading holds, each counted each time it is reached (what is shared counts as often as it is met; a slice's spare places count too). A statement '..UptoSaid' is the law's where the arguments, and the package variables that the reading takes, are together of bulk at most 1048576: NARROWER than '..Said'. Prove '..Said' where nothing that the law and all that it calls make is longer than what came in: it says more and counts as full. Else prove '..UptoSaid'. A law counts once. -/
mutual
def uptoBulk {H : Type} : DataW H → Nat
  | .lit (.string bytes) => bytes.length + 1
  | .lit _ => 1
  | .nil => 1
  | .ptr d => uptoBulk d + 1
  | .slice elems spare => uptoBulkAll elems + uptoBulkAll spare + 1
  | .agg parts => uptoBulkAll parts + 1
  | .iface _ d => uptoBulk d + 1
  | .map entries => uptoBulkEntries entries + 1
  | .held _ => 1
def uptoBulkAll {H : Type} : List (DataW H) → Nat
  | [] => 0
  | d :: r => uptoBulk d + uptoBulkAll r
def uptoBulkEntries {H : Type} : List (Lit × DataW H) → Nat
  | [] => 0
  | x :: r => uptoBulkEntry x + uptoBulkEntries r
def uptoBulkEntry {H : Type} : Lit × DataW H → Nat
  | (.string bytes, d) => bytes.length + uptoBulk d + 1
  | (_, d) => uptoBulk d + 1
 end
def uptoSmall : (H : Type) → List (DataW H) → Bool := fun _ ds => decide (uptoBulkAll ds ≤ 1048576)
def OpenSpec.upto (s : _root_.Go.ChangeSpec) : _root_.Go.OpenSpec := { _root_.Go.OpenSpec.ofChange s with cond := some uptoSmall }

/-- 'wimplelaw0.WimpleNames', WHERE WHAT IT READS IS OF BULK AT MOST 1048576: true; the input reads as it did. -/
def wimpleNamesUptoRow : OpenClaim := { program := "ytjmdfhbenejfgaa", sum := "b20ce78ecb4e18532e1b02775abb4ad02df5af9769e355fbe54af3421ba11c14", func := "wimple/wimplelaw0.WimpleNames", spec := "wimpleNames", apart := false, narrowed := true }
def WimpleNamesUptoSaid : Prop := wimpleNamesUptoRow.holds Try.pinned (OpenSpec.upto wimpleNamesSpec)

/-- 'wimplelaw18.IdRows', WHERE WHAT IT READS IS OF BULK AT MOST 1048576: true; the input reads as it did. -/
def idRowsUptoRow : OpenClaim := { program := "ytjmdfhbenejfgaa", sum := "b20ce78ecb4e18532e1b02775abb4ad02df5af9769e355fbe54af3421ba11c14", func := "wimple/wimplelaw18.IdRows", spec := "idRows", apart := false, narrowed := true }
def IdRowsUptoSaid : Prop := idRowsUptoRow.holds Try.pinned (OpenSpec.upto idRowsSpec)

/-- 'wimplelaw18.IdLimits', WHERE WHAT IT READS IS OF BULK AT MOST 1048576: true; the input reads as it did. -/
def idLimitsUptoRow : OpenClaim := { program := "ytjmdfhbenejfgaa", sum := "b20ce78ecb4e18532e1b02775abb4ad02df5af9769e355fbe54af3421ba11c14", func := "wimple/wimplelaw18.IdLimits", spec := "idLimits", apart := false, narrowed := true }
def IdLimitsUptoSaid : Prop := idLimitsUptoRow.holds Try.pinned (OpenSpec.upto idLimitsSpec)

/-- 'wimplelaw9.Strips', WHERE WHAT IT READS IS OF BULK AT MOST 1048576: true; the input reads as it did. -/
def stripsUptoRow : OpenClaim := { program := "ytjmdfhbenejfgaa", sum := "b20ce78ecb4e18532e1b02775abb4ad02df5af9769e355fbe54af3421ba11c14", func := "wimple/wimplelaw9.Strips", spec := "strips", unfollowed := true, recurses := true, apart := false, narrowed := true }
def StripsUptoSaid : Prop := stripsUptoRow.holds Try.pinned (OpenSpec.upto stripsSpec)

/-- 'wimplelaw9.StripTwice', WHERE WHAT IT READS IS OF BULK AT MOST 1048576: true; the input reads as it did. -/
def stripTwiceUptoRow : OpenClaim := { program := "ytjmdfhbenejfgaa", sum := "b20ce78ecb4e18532e1b02775abb4ad02df5af9769e355fbe54af3421ba11c14", func := "wimple/wimplelaw9.StripTwice", spec := "stripTwice", unfollowed := true, recurses := true, apart := false, narrowed := true }
def StripTwiceUptoSaid : Prop := stripTwiceUptoRow.holds Try.pinned (OpenSpec.upto stripTwiceSpec)

/-- 'wimplelaw9.EcsMixed', WHERE WHAT IT READS IS OF BULK AT MOST 1048576: true; the input reads as it did. -/
def ecsMixedUptoRow : OpenClaim := { program := "ytjmdfhbenejfgaa", sum := "b20ce78ecb4e18532e1b02775abb4ad02df5af9769e355fbe54af3421ba11c14", func := "wimple/wimplelaw9.EcsMixed", spec := "ecsMixed", unfollowed := true, recurses := true, apart := false, narrowed := true }
def EcsMixedUptoSaid : Prop := ecsMixedUptoRow.holds Try.pinned (OpenSpec.upto ecsMixedSpec)

end Rows
end Go.Proofs.Ytjmdfhbenejfgaa

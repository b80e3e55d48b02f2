/-
  NARROWER THAN 'FOR EVERY INPUT', by the rows' own cells (each row's printed sentence says how): ParseOrdered: loops · ItemsOf: loops · WaysAll: loops · ParseAmong: loops · GrammarText: loops · GrammarRight: loops.
  DERIVED. THE GIVEN ROWS OF THIS SEAT. 7 by the template 'for every input the law returns true; each argument reads behind the call as it read before'; 0 by the template 'total and deterministic' (their statements: YtcnllhnhinmokaaTotals.lean).
  GIVEN WITH THE SEED: the statements are not yours to turn. If you find one false, say at which input.
  Laid BY PROGRAM, IN A SANDBOX (cutbox-rows.mjs): the forced cells as the released guide's own fill.sh prints them over the translation 5b3e57a6f3304964… (all of the seat's roots in one cut). By AI agents, Wed Nov 11 2026. No macro, syntax, notation, axiom, sorry.
-/
import Derived.Test.YtcnllhnhinmokaaChecked
import GoSem.Claim
import GoSem.ClaimJoined
import GoSem.ClaimMapViews
import Derived.JoinedTies
import Derived.KernelRfl
namespace Go.Proofs.Ytcnllhnhinmokaa
/- THE CELL 'sum', in the pinned program and in every row, IS THE sha256 OF THE DUMP (.gsa) THAT YtcnllhnhinmokaaProg.lean LOADS. Nothing in Lean hashes anything: it is a label: what it is worth is what the hold of that sum in a sandbox is worth. -/
noncomputable def Try.pinned : Pinned := { name := "ytcnllhnhinmokaa", sum := "5b3e57a6f3304964d2191dbae48cdf8cfe6dce26dd5a31878a81d5866e459752", checked := Try.checked }
namespace Rows
def none {H : Type} : Left H := { results := [], args := [] }

/-- 'manystrandlaw24.ParseOrdered': WHATEVER THE INPUT: true; the input reads as it did. -/
def parseOrderedSpec : ChangeSpec := { name := "parseOrdered", fn := fun _ => fun
  | [d1, d2, d3] => { results := [.lit (.bool true)], args := [d1, d2, d3] }
  | _ => none }
def parseOrderedRow : OpenClaim := { program := "ytcnllhnhinmokaa", sum := "5b3e57a6f3304964d2191dbae48cdf8cfe6dce26dd5a31878a81d5866e459752", func := "manystrand/manystrandlaw24.ParseOrdered", spec := "parseOrdered", unfollowed := true, recurses := true, loops := true, plainKeys := false, apart := false }
def ParseOrderedSaid : Prop := parseOrderedRow.holds Try.pinned (OpenSpec.ofChange parseOrderedSpec)

/-- ITS FALSE NEIGHBOUR: 'it returns false'. Refute it at one input. -/
def parseOrderedWrong : ChangeSpec := { name := "parseOrdered", fn := fun _ => fun
  | [d1, d2, d3] => { results := [.lit (.bool false)], args := [d1, d2, d3] }
  | _ => none }
def ParseOrderedWrongFalsely : Prop := parseOrderedRow.holds Try.pinned (OpenSpec.ofChange parseOrderedWrong)

/-- 'manystrandlaw24.ItemsOf': WHATEVER THE INPUT: true; the input reads as it did. -/
def itemsOfSpec : ChangeSpec := { name := "itemsOf", fn := fun _ => fun
  | [d] => { results := [.lit (.bool true)], args := [d] }
  | _ => none }
def itemsOfRow : OpenClaim := { program := "ytcnllhnhinmokaa", sum := "5b3e57a6f3304964d2191dbae48cdf8cfe6dce26dd5a31878a81d5866e459752", func := "manystrand/manystrandlaw24.ItemsOf", spec := "itemsOf", unfollowed := true, recurses := true, loops := true, plainKeys := false, apart := false }
def ItemsOfSaid : Prop := itemsOfRow.holds Try.pinned (OpenSpec.ofChange itemsOfSpec)

/-- ITS FALSE NEIGHBOUR: 'it returns false'. Refute it at one input. -/
def itemsOfWrong : ChangeSpec := { name := "itemsOf", fn := fun _ => fun
  | [d] => { results := [.lit (.bool false)], args := [d] }
  | _ => none }
def ItemsOfWrongFalsely : Prop := itemsOfRow.holds Try.pinned (OpenSpec.ofChange itemsOfWrong)

/-- 'manystrandlaw24.WaysAll': WHATEVER THE INPUT: true; the input reads as it did. -/
def waysAllSpec : ChangeSpec := { name := "waysAll", fn := fun _ => fun
  | [d1, d2, d3, d4] => { results := [.lit (.bool true)], args := [d1, d2, d3, d4] }
  | _ => none }
def waysAllRow : OpenClaim := { program := "ytcnllhnhinmokaa", sum := "5b3e57a6f3304964d2191dbae48cdf8cfe6dce26dd5a31878a81d5866e459752", func := "manystrand/manystrandlaw24.WaysAll", spec := "waysAll", unfollowed := true, recurses := true, loops := true, plainKeys := false, apart := false }
def WaysAllSaid : Prop := waysAllRow.holds Try.pinned (OpenSpec.ofChange waysAllSpec)

/-- ITS FALSE NEIGHBOUR: 'it returns false'. Refute it at one input. -/
def waysAllWrong : ChangeSpec := { name := "waysAll", fn := fun _ => fun
  | [d1, d2, d3, d4] => { results := [.lit (.bool false)], args := [d1, d2, d3, d4] }
  | _ => none }
def WaysAllWrongFalsely : Prop := waysAllRow.holds Try.pinned (OpenSpec.ofChange waysAllWrong)

/-- 'manystrandlaw24.ParseAmong': WHATEVER THE INPUT: true; the input reads as it did. -/
def parseAmongSpec : ChangeSpec := { name := "parseAmong", fn := fun _ => fun
  | [d1, d2, d3] => { results := [.lit (.bool true)], args := [d1, d2, d3] }
  | _ => none }
def parseAmongRow : OpenClaim := { program := "ytcnllhnhinmokaa", sum := "5b3e57a6f3304964d2191dbae48cdf8cfe6dce26dd5a31878a81d5866e459752", func := "manystrand/manystrandlaw24.ParseAmong", spec := "parseAmong", unfollowed := true, recurses := true, loops := true, plainKeys := false, apart := false }
def ParseAmongSaid : Prop := parseAmongRow.holds Try.pinned (OpenSpec.ofChange parseAmongSpec)

/-- ITS FALSE NEIGHBOUR: 'it returns false'. Refute it at one input. -/
def parseAmongWrong : ChangeSpec := { name := "parseAmong", fn := fun _ => fun
  | [d1, d2, d3] => { results := [.lit (.bool false)], args := [d1, d2, d3] }
  | _ => none }
def ParseAmongWrongFalsely : Prop := parseAmongRow.holds Try.pinned (OpenSpec.ofChange parseAmongWrong)

/-- 'manystrandlaw24.GrammarText': WHATEVER THE INPUT: true; the input reads as it did. -/
def grammarTextSpec : ChangeSpec := { name := "grammarText", fn := fun _ => fun
  | [d] => { results := [.lit (.bool true)], args := [d] }
  | _ => none }
def grammarTextRow : OpenClaim := { program := "ytcnllhnhinmokaa", sum := "5b3e57a6f3304964d2191dbae48cdf8cfe6dce26dd5a31878a81d5866e459752", func := "manystrand/manystrandlaw24.GrammarText", spec := "grammarText", unfollowed := true, recurses := true, loops := true, plainKeys := false, apart := false }
def GrammarTextSaid : Prop := grammarTextRow.holds Try.pinned (OpenSpec.ofChange grammarTextSpec)

/-- ITS FALSE NEIGHBOUR: 'it returns false'. Refute it at one input. -/
def grammarTextWrong : ChangeSpec := { name := "grammarText", fn := fun _ => fun
  | [d] => { results := [.lit (.bool false)], args := [d] }
  | _ => none }
def GrammarTextWrongFalsely : Prop := grammarTextRow.holds Try.pinned (OpenSpec.ofChange grammarTextWrong)

/-- 'manystrandlaw24.GrammarRead': WHATEVER THE INPUT: true; the input reads as it did. -/
def grammarReadSpec : ChangeSpec := { name := "grammarRead", fn := fun _ => fun
  | [d] => { results := [.lit (.bool true)], args := [d] }
  | _ => none }
def grammarReadRow : OpenClaim := { program := "ytcnllhnhinmokaa", sum := "5b3e57a6f3304964d2191dbae48cdf8cfe6dce26dd5a31878a81d5866e459752", func := "manystrand/manystrandlaw24.GrammarRead", spec := "grammarRead", unfollowed := true, recurses := true, plainKeys := false, apart := false }
def GrammarReadSaid : Prop := grammarReadRow.holds Try.pinned (OpenSpec.ofChange grammarReadSpec)

/-- ITS FALSE NEIGHBOUR: 'it returns false'. Refute it at one input. -/
def grammarReadWrong : ChangeSpec := { name := "grammarRead", fn := fun _ => fun
  | [d] => { results := [.lit (.bool false)], args := [d] }
  | _ => none }
def GrammarReadWrongFalsely : Prop := grammarReadRow.holds Try.pinned (OpenSpec.ofChange grammarReadWrong)

/-- 'manystrandlaw24.GrammarRight': WHATEVER THE INPUT: true; the input reads as it did. -/
def grammarRightSpec : ChangeSpec := { name := "grammarRight", fn := fun _ => fun
  | [d1, d2] => { results := [.lit (.bool true)], args := [d1, d2] }
  | _ => none }
def grammarRightRow : OpenClaim := { program := "ytcnllhnhinmokaa", sum := "5b3e57a6f3304964d2191dbae48cdf8cfe6dce26dd5a31878a81d5866e459752", func := "manystrand/manystrandlaw24.GrammarRight", spec := "grammarRight", unfollowed := true, recurses := true, loops := true, plainKeys := false, apart := false }
def GrammarRightSaid : Prop := grammarRightRow.holds Try.pinned (OpenSpec.ofChange grammarRightSpec)

/-- ITS FALSE NEIGHBOUR: 'it returns false'. Refute it at one input. -/
def grammarRightWrong : ChangeSpec := { name := "grammarRight", fn := fun _ => fun
  | [d1, d2] => { results := [.lit (.bool false)], args := [d1, d2] }
  | _ => none }
def GrammarRightWrongFalsely : Prop := grammarRightRow.holds Try.pinned (OpenSpec.ofChange grammarRightWrong)

/- THE SECOND FORM. 'bulk': how many values and letters a reading holds, each counted each time it is reached (what is shared counts as often as it is met; a slice's spare places count too). A statement '..UptoSaid' is the law's where the arguments, and the package variables that the reading takes, are together of bulk at most 1048576: NARROWER than '..Said'. Prove '..Said' where nothing that the law and all that it calls make is longer than what came in: it says more and counts as full. Else prove '..UptoSaid'. A law counts once. -/
mutual
def uptoBulk {H : Type} : DataW H → Nat
  | .lit (.string bytes) => bytes.length + 1
  | .lit _ => 1
  | .nil => 1
  | .ptr d => uptoBulk d + 1
  | .slice elems spare => uptoBulkAll elems + uptoBulkAll spare + 1
  | .agg parts => uptoBulkAll parts + 1
  | .iface _ d => uptoBulk d + 1
  | .map entries => uptoBulkEntries entries + 1
  | .held _ => 1
def uptoBulkAll {H : Type} : List (DataW H) → Nat
  | [] => 0
  | d :: r => uptoBulk d + uptoBulkAll r
def uptoBulkEntries {H : Type} : List (Lit × DataW H) → Nat
  | [] => 0
  | x :: r => uptoBulkEntry x + uptoBulkEntries r
def uptoBulkEntry {H : Type} : Lit × DataW H → Nat
  | (.string bytes, d) => bytes.length + uptoBulk d + 1
  | (_, d) => uptoBulk d + 1
 end
def uptoSmall : (H : Type) → List (DataW H) → Bool := fun _ ds => decide (uptoBulkAll ds ≤ 1048576)
def OpenSpec.upto (s : _root_.Go.ChangeSpec) : _root_.Go.OpenSpec := { _root_.Go.OpenSpec.ofChange s with cond := some uptoSmall }

/-- 'manystrandlaw24.ParseOrdered', WHERE WHAT IT READS IS OF BULK AT MOST 1048576: true; the input reads as it did. -/
def parseOrderedUptoRow : OpenClaim := { program := "ytcnllhnhinmokaa", sum := "5b3e57a6f3304964d2191dbae48cdf8cfe6dce26dd5a31878a81d5866e459752", func := "manystrand/manystrandlaw24.ParseOrdered", spec := "parseOrdered", unfollowed := true, recurses := true, loops := true, plainKeys := false, apart := false, narrowed := true }
def ParseOrderedUptoSaid : Prop := parseOrderedUptoRow.holds Try.pinned (OpenSpec.upto parseOrderedSpec)

/-- 'manystrandlaw24.ItemsOf', WHERE WHAT IT READS IS OF BULK AT MOST 1048576: true; the input reads as it did. -/
def itemsOfUptoRow : OpenClaim := { program := "ytcnllhnhinmokaa", sum := "5b3e57a6f3304964d2191dbae48cdf8cfe6dce26dd5a31878a81d5866e459752", func := "manystrand/manystrandlaw24.ItemsOf", spec := "itemsOf", unfollowed := true, recurses := true, loops := true, plainKeys := false, apart := false, narrowed := true }
def ItemsOfUptoSaid : Prop := itemsOfUptoRow.holds Try.pinned (OpenSpec.upto itemsOfSpec)

/-- 'manystrandlaw24.WaysAll', WHERE WHAT IT READS IS OF BULK AT MOST 1048576: true; the input reads as it did. -/
def waysAllUptoRow : OpenClaim := { program := "ytcnllhnhinmokaa", sum := "5b3e57a6f3304964d2191dbae48cdf8cfe6dce26dd5a31878a81d5866e459752", func := "manystrand/manystrandlaw24.WaysAll", spec := "waysAll", unfollowed := true, recurses := true, loops := true, plainKeys := false, apart := false, narrowed := true }
def WaysAllUptoSaid : Prop := waysAllUptoRow.holds Try.pinned (OpenSpec.upto waysAllSpec)

/-- 'manystrandlaw24.ParseAmong', WHERE WHAT IT READS IS OF BULK AT MOST 1048576: true; the input reads as it did. -/
def parseAmongUptoRow : OpenClaim := { program := "ytcnllhnhinmokaa", sum := "5b3e57a6f3304964d2191dbae48cdf8cfe6dce26dd5a31878a81d5866e459752", func := "manystrand/manystrandlaw24.ParseAmong", spec := "parseAmong", unfollowed := true, recurses := true, loops := true, plainKeys := false, apart := false, narrowed := true }
def ParseAmongUptoSaid : Prop := parseAmongUptoRow.holds Try.pinned (OpenSpec.upto parseAmongSpec)

/-- 'manystrandlaw24.GrammarText', WHERE WHAT IT READS IS OF BULK AT MOST 1048576: true; the input reads as it did. -/
def grammarTextUptoRow : OpenClaim := { program := "ytcnllhnhinmokaa", sum := "5b3e57a6f3304964d2191dbae48cdf8cfe6dce26dd5a31878a81d5866e459752", func := "manystrand/manystrandlaw24.GrammarText", spec := "grammarText", unfollowed := true, recurses := true, loops := true, plainKeys := false, apart := false, narrowed := true }
def GrammarTextUptoSaid : Prop := grammarTextUptoRow.holds Try.pinned (OpenSpec.upto grammarTextSpec)

/-- 'manystrandlaw24.GrammarRead', WHERE WHAT IT READS IS OF BULK AT MOST 1048576: true; the input reads as it did. -/
def grammarReadUptoRow : OpenClaim := { program := "ytcnllhnhinmokaa", sum := "5b3e57a6f3304964d2191dbae48cdf8cfe6dce26dd5a31878a81d5866e459752", func := "manystrand/manystrandlaw24.GrammarRead", spec := "grammarRead", unfollowed := true, recurses := true, plainKeys := false, apart := false, narrowed := true }
def GrammarReadUptoSaid : Prop := grammarReadUptoRow.holds Try.pinned (OpenSpec.upto grammarReadSpec)

/-- 'manystrandlaw24.GrammarRight', WHERE WHAT IT READS IS OF BULK AT MOST 1048576: true; the input reads as it did. -/
def grammarRightUptoRow : OpenClaim := { program := "ytcnllhnhinmokaa", sum := "5b3e57a6f3304964d2191dbae48cdf8cfe6dce26dd5a31878a81d5866e459752", func := "manystrand/manystrandlaw24.GrammarRight", spec := "grammarRight", unfollowed := true, recurses := true, loops := true, plainKeys := false, apart := false, narrowed := true }
def GrammarRightUptoSaid : Prop := grammarRightUptoRow.holds Try.pinned (OpenSpec.upto grammarRightSpec)

end Rows
end Go.Proofs.Ytcnllhnhinmokaa

/-
  No cell of these rows narrows 'for every input' (looked for: loops, veiled, ifaces, maps, wideKeys, modest, calm, conditions, laid).
  DERIVED. THE GIVEN ROWS OF THIS SEAT. 12 by the template 'for every input the law returns true; each argument reads behind the call as it read before'; 0 by the template 'total and deterministic' (their statements: YtlnjikneepgpaaaTotals.lean).
  GIVEN WITH THE SEED: the statements are not yours to turn. If you find one false, say at which input.
  Laid BY PROGRAM, IN A SANDBOX (cutbox-rows.mjs): the forced cells as the released guide's own fill.sh prints them over the translation dfcaccdd925fb486… (all of the seat's roots in one cut). By AI agents, Wed Nov 11 2026. No macro, syntax, notation, axiom, sorry.
-/
import Derived.Test.YtlnjikneepgpaaaChecked
import GoSem.Claim
import GoSem.ClaimJoined
import GoSem.ClaimMapViews
import Derived.JoinedTies
import Derived.KernelRfl
namespace Go.Proofs.Ytlnjikneepgpaaa
/- THE CELL 'sum', in the pinned program and in every row, IS THE sha256 OF THE DUMP (.gsa) THAT YtlnjikneepgpaaaProg.lean LOADS. Nothing in Lean hashes anything: it is a label: what it is worth is what the hold of that sum in a sandbox is worth. -/
noncomputable def Try.pinned : Pinned := { name := "ytlnjikneepgpaaa", sum := "dfcaccdd925fb486f4a63151324f8dfcdd9bfa10c7304afdac3ca58a405c699f", checked := Try.checked }
namespace Rows
def none {H : Type} : Left H := { results := [], args := [] }

/-- 'wainwrightlaw12.CodeNumbers': WHATEVER THE INPUT: true; the input reads as it did. -/
def codeNumbersSpec : ChangeSpec := { name := "codeNumbers", fn := fun _ => fun
  | [d1, d2, d3, d4] => { results := [.lit (.bool true)], args := [d1, d2, d3, d4] }
  | _ => none }
def codeNumbersRow : OpenClaim := { program := "ytlnjikneepgpaaa", sum := "dfcaccdd925fb486f4a63151324f8dfcdd9bfa10c7304afdac3ca58a405c699f", func := "wainwright/wainwrightlaw12.CodeNumbers", spec := "codeNumbers", unfollowed := true, recurses := true, apart := false }
def CodeNumbersSaid : Prop := codeNumbersRow.holds Try.pinned (OpenSpec.ofChange codeNumbersSpec)

/-- ITS FALSE NEIGHBOUR: 'it returns false'. Refute it at one input. -/
def codeNumbersWrong : ChangeSpec := { name := "codeNumbers", fn := fun _ => fun
  | [d1, d2, d3, d4] => { results := [.lit (.bool false)], args := [d1, d2, d3, d4] }
  | _ => none }
def CodeNumbersWrongFalsely : Prop := codeNumbersRow.holds Try.pinned (OpenSpec.ofChange codeNumbersWrong)

/-- 'wainwrightlaw12.CodeBlocks': WHATEVER THE INPUT: true; the input reads as it did. -/
def codeBlocksSpec : ChangeSpec := { name := "codeBlocks", fn := fun _ => fun
  | [d1, d2] => { results := [.lit (.bool true)], args := [d1, d2] }
  | _ => none }
def codeBlocksRow : OpenClaim := { program := "ytlnjikneepgpaaa", sum := "dfcaccdd925fb486f4a63151324f8dfcdd9bfa10c7304afdac3ca58a405c699f", func := "wainwright/wainwrightlaw12.CodeBlocks", spec := "codeBlocks", unfollowed := true, recurses := true, apart := false }
def CodeBlocksSaid : Prop := codeBlocksRow.holds Try.pinned (OpenSpec.ofChange codeBlocksSpec)

/-- ITS FALSE NEIGHBOUR: 'it returns false'. Refute it at one input. -/
def codeBlocksWrong : ChangeSpec := { name := "codeBlocks", fn := fun _ => fun
  | [d1, d2] => { results := [.lit (.bool false)], args := [d1, d2] }
  | _ => none }
def CodeBlocksWrongFalsely : Prop := codeBlocksRow.holds Try.pinned (OpenSpec.ofChange codeBlocksWrong)

/-- 'wainwrightlaw12.CodePlain': WHATEVER THE INPUT: true; the input reads as it did. -/
def codePlainSpec : ChangeSpec := { name := "codePlain", fn := fun _ => fun
  | [d1, d2] => { results := [.lit (.bool true)], args := [d1, d2] }
  | _ => none }
def codePlainRow : OpenClaim := { program := "ytlnjikneepgpaaa", sum := "dfcaccdd925fb486f4a63151324f8dfcdd9bfa10c7304afdac3ca58a405c699f", func := "wainwright/wainwrightlaw12.CodePlain", spec := "codePlain", unfollowed := true, recurses := true, apart := false }
def CodePlainSaid : Prop := codePlainRow.holds Try.pinned (OpenSpec.ofChange codePlainSpec)

/-- ITS FALSE NEIGHBOUR: 'it returns false'. Refute it at one input. -/
def codePlainWrong : ChangeSpec := { name := "codePlain", fn := fun _ => fun
  | [d1, d2] => { results := [.lit (.bool false)], args := [d1, d2] }
  | _ => none }
def CodePlainWrongFalsely : Prop := codePlainRow.holds Try.pinned (OpenSpec.ofChange codePlainWrong)

/-- 'wainwrightlaw13.SoundAny': WHATEVER THE INPUT: true; the input reads as it did. -/
def soundAnySpec : ChangeSpec := { name := "soundAny", fn := fun _ => fun
  | [d] => { results := [.lit (.bool true)], args := [d] }
  | _ => none }
def soundAnyRow : OpenClaim := { program := "ytlnjikneepgpaaa", sum := "dfcaccdd925fb486f4a63151324f8dfcdd9bfa10c7304afdac3ca58a405c699f", func := "wainwright/wainwrightlaw13.SoundAny", spec := "soundAny", apart := false }
def SoundAnySaid : Prop := soundAnyRow.holds Try.pinned (OpenSpec.ofChange soundAnySpec)

/-- ITS FALSE NEIGHBOUR: 'it returns false'. Refute it at one input. -/
def soundAnyWrong : ChangeSpec := { name := "soundAny", fn := fun _ => fun
  | [d] => { results := [.lit (.bool false)], args := [d] }
  | _ => none }
def SoundAnyWrongFalsely : Prop := soundAnyRow.holds Try.pinned (OpenSpec.ofChange soundAnyWrong)

/-- 'wainwrightlaw13.SoundNumbers': WHATEVER THE INPUT: true; the input reads as it did. -/
def soundNumbersSpec : ChangeSpec := { name := "soundNumbers", fn := fun _ => fun
  | [d1, d2, d3, d4] => { results := [.lit (.bool true)], args := [d1, d2, d3, d4] }
  | _ => none }
def soundNumbersRow : OpenClaim := { program := "ytlnjikneepgpaaa", sum := "dfcaccdd925fb486f4a63151324f8dfcdd9bfa10c7304afdac3ca58a405c699f", func := "wainwright/wainwrightlaw13.SoundNumbers", spec := "soundNumbers", recurses := true, apart := false }
def SoundNumbersSaid : Prop := soundNumbersRow.holds Try.pinned (OpenSpec.ofChange soundNumbersSpec)

/-- ITS FALSE NEIGHBOUR: 'it returns false'. Refute it at one input. -/
def soundNumbersWrong : ChangeSpec := { name := "soundNumbers", fn := fun _ => fun
  | [d1, d2, d3, d4] => { results := [.lit (.bool false)], args := [d1, d2, d3, d4] }
  | _ => none }
def SoundNumbersWrongFalsely : Prop := soundNumbersRow.holds Try.pinned (OpenSpec.ofChange soundNumbersWrong)

/-- 'wainwrightlaw13.SoundPiles': WHATEVER THE INPUT: true; the input reads as it did. -/
def soundPilesSpec : ChangeSpec := { name := "soundPiles", fn := fun _ => fun
  | [d1, d2] => { results := [.lit (.bool true)], args := [d1, d2] }
  | _ => none }
def soundPilesRow : OpenClaim := { program := "ytlnjikneepgpaaa", sum := "dfcaccdd925fb486f4a63151324f8dfcdd9bfa10c7304afdac3ca58a405c699f", func := "wainwright/wainwrightlaw13.SoundPiles", spec := "soundPiles", apart := false }
def SoundPilesSaid : Prop := soundPilesRow.holds Try.pinned (OpenSpec.ofChange soundPilesSpec)

/-- ITS FALSE NEIGHBOUR: 'it returns false'. Refute it at one input. -/
def soundPilesWrong : ChangeSpec := { name := "soundPiles", fn := fun _ => fun
  | [d1, d2] => { results := [.lit (.bool false)], args := [d1, d2] }
  | _ => none }
def SoundPilesWrongFalsely : Prop := soundPilesRow.holds Try.pinned (OpenSpec.ofChange soundPilesWrong)

/-- 'wainwrightlaw13.SoundArgs': WHATEVER THE INPUT: true; the input reads as it did. -/
def soundArgsSpec : ChangeSpec := { name := "soundArgs", fn := fun _ => fun
  | [d1, d2, d3] => { results := [.lit (.bool true)], args := [d1, d2, d3] }
  | _ => none }
def soundArgsRow : OpenClaim := { program := "ytlnjikneepgpaaa", sum := "dfcaccdd925fb486f4a63151324f8dfcdd9bfa10c7304afdac3ca58a405c699f", func := "wainwright/wainwrightlaw13.SoundArgs", spec := "soundArgs", apart := false }
def SoundArgsSaid : Prop := soundArgsRow.holds Try.pinned (OpenSpec.ofChange soundArgsSpec)

/-- ITS FALSE NEIGHBOUR: 'it returns false'. Refute it at one input. -/
def soundArgsWrong : ChangeSpec := { name := "soundArgs", fn := fun _ => fun
  | [d1, d2, d3] => { results := [.lit (.bool false)], args := [d1, d2, d3] }
  | _ => none }
def SoundArgsWrongFalsely : Prop := soundArgsRow.holds Try.pinned (OpenSpec.ofChange soundArgsWrong)

/-- 'wainwrightlaw13.SoundBig': WHATEVER THE INPUT: true; the input reads as it did. -/
def soundBigSpec : ChangeSpec := { name := "soundBig", fn := fun _ => fun
  | [d1, d2] => { results := [.lit (.bool true)], args := [d1, d2] }
  | _ => none }
def soundBigRow : OpenClaim := { program := "ytlnjikneepgpaaa", sum := "dfcaccdd925fb486f4a63151324f8dfcdd9bfa10c7304afdac3ca58a405c699f", func := "wainwright/wainwrightlaw13.SoundBig", spec := "soundBig", apart := false }
def SoundBigSaid : Prop := soundBigRow.holds Try.pinned (OpenSpec.ofChange soundBigSpec)

/-- ITS FALSE NEIGHBOUR: 'it returns false'. Refute it at one input. -/
def soundBigWrong : ChangeSpec := { name := "soundBig", fn := fun _ => fun
  | [d1, d2] => { results := [.lit (.bool false)], args := [d1, d2] }
  | _ => none }
def SoundBigWrongFalsely : Prop := soundBigRow.holds Try.pinned (OpenSpec.ofChange soundBigWrong)

/-- 'wainwrightlaw15.PeepJoins': WHATEVER THE INPUT: true; the input reads as it did. -/
def peepJoinsSpec : ChangeSpec := { name := "peepJoins", fn := fun _ => fun
  | [d1, d2] => { results := [.lit (.bool true)], args := [d1, d2] }
  | _ => none }
def peepJoinsRow : OpenClaim := { program := "ytlnjikneepgpaaa", sum := "dfcaccdd925fb486f4a63151324f8dfcdd9bfa10c7304afdac3ca58a405c699f", func := "wainwright/wainwrightlaw15.PeepJoins", spec := "peepJoins", unfollowed := true, recurses := true, apart := false }
def PeepJoinsSaid : Prop := peepJoinsRow.holds Try.pinned (OpenSpec.ofChange peepJoinsSpec)

/-- ITS FALSE NEIGHBOUR: 'it returns false'. Refute it at one input. -/
def peepJoinsWrong : ChangeSpec := { name := "peepJoins", fn := fun _ => fun
  | [d1, d2] => { results := [.lit (.bool false)], args := [d1, d2] }
  | _ => none }
def PeepJoinsWrongFalsely : Prop := peepJoinsRow.holds Try.pinned (OpenSpec.ofChange peepJoinsWrong)

/-- 'wainwrightlaw09.TableAll': WHATEVER THE INPUT: true; the input reads as it did. -/
def tableAllSpec : ChangeSpec := { name := "tableAll", fn := fun _ => fun
  | [d1, d2] => { results := [.lit (.bool true)], args := [d1, d2] }
  | _ => none }
def tableAllRow : OpenClaim := { program := "ytlnjikneepgpaaa", sum := "dfcaccdd925fb486f4a63151324f8dfcdd9bfa10c7304afdac3ca58a405c699f", func := "wainwright/wainwrightlaw09.TableAll", spec := "tableAll", recurses := true, apart := false }
def TableAllSaid : Prop := tableAllRow.holds Try.pinned (OpenSpec.ofChange tableAllSpec)

/-- ITS FALSE NEIGHBOUR: 'it returns false'. Refute it at one input. -/
def tableAllWrong : ChangeSpec := { name := "tableAll", fn := fun _ => fun
  | [d1, d2] => { results := [.lit (.bool false)], args := [d1, d2] }
  | _ => none }
def TableAllWrongFalsely : Prop := tableAllRow.holds Try.pinned (OpenSpec.ofChange tableAllWrong)

/-- 'wainwrightlaw09.TableShapes': WHATEVER THE INPUT: true; the input reads as it did. -/
def tableShapesSpec : ChangeSpec := { name := "tableShapes", fn := fun _ => fun
  | [d] => { results := [.lit (.bool true)], args := [d] }
  | _ => none }
def tableShapesRow : OpenClaim := { program := "ytlnjikneepgpaaa", sum := "dfcaccdd925fb486f4a63151324f8dfcdd9bfa10c7304afdac3ca58a405c699f", func := "wainwright/wainwrightlaw09.TableShapes", spec := "tableShapes", recurses := true, apart := false }
def TableShapesSaid : Prop := tableShapesRow.holds Try.pinned (OpenSpec.ofChange tableShapesSpec)

/-- ITS FALSE NEIGHBOUR: 'it returns false'. Refute it at one input. -/
def tableShapesWrong : ChangeSpec := { name := "tableShapes", fn := fun _ => fun
  | [d] => { results := [.lit (.bool false)], args := [d] }
  | _ => none }
def TableShapesWrongFalsely : Prop := tableShapesRow.holds Try.pinned (OpenSpec.ofChange tableShapesWrong)

/-- 'wainwrightlaw09.TableKinds': WHATEVER THE INPUT: true; the input reads as it did. -/
def tableKindsSpec : ChangeSpec := { name := "tableKinds", fn := fun _ => fun
  | [d] => { results := [.lit (.bool true)], args := [d] }
  | _ => none }
def tableKindsRow : OpenClaim := { program := "ytlnjikneepgpaaa", sum := "dfcaccdd925fb486f4a63151324f8dfcdd9bfa10c7304afdac3ca58a405c699f", func := "wainwright/wainwrightlaw09.TableKinds", spec := "tableKinds", recurses := true, apart := false }
def TableKindsSaid : Prop := tableKindsRow.holds Try.pinned (OpenSpec.ofChange tableKindsSpec)

/-- ITS FALSE NEIGHBOUR: 'it returns false'. Refute it at one input. -/
def tableKindsWrong : ChangeSpec := { name := "tableKinds", fn := fun _ => fun
  | [d] => { results := [.lit (.bool false)], args := [d] }
  | _ => none }
def TableKindsWrongFalsely : Prop := tableKindsRow.holds Try.pinned (OpenSpec.ofChange tableKindsWrong)

/- THE SECOND FORM. 'bulk': how many values and letters a reading holds, each counted each time it is reached (what is shared counts as often as it is met; a slice's spare places count too). A statement '..UptoSaid' is the law's where the arguments, and the package variables that the reading takes, are together of bulk at most 1048576: NARROWER than '..Said'. Prove '..Said' where nothing that the law and all that it calls make is longer than what came in: it says more and counts as full. Else prove '..UptoSaid'. A law counts once. -/
mutual
def uptoBulk {H : Type} : DataW H → Nat
  | .lit (.string bytes) => bytes.length + 1
  | .lit _ => 1
  | .nil => 1
  | .ptr d => uptoBulk d + 1
  | .slice elems spare => uptoBulkAll elems + uptoBulkAll spare + 1
  | .agg parts => uptoBulkAll parts + 1
  | .iface _ d => uptoBulk d + 1
  | .map entries => uptoBulkEntries entries + 1
  | .held _ => 1
def uptoBulkAll {H : Type} : List (DataW H) → Nat
  | [] => 0
  | d :: r => uptoBulk d + uptoBulkAll r
def uptoBulkEntries {H : Type} : List (Lit × DataW H) → Nat
  | [] => 0
  | x :: r => uptoBulkEntry x + uptoBulkEntries r
def uptoBulkEntry {H : Type} : Lit × DataW H → Nat
  | (.string bytes, d) => bytes.length + uptoBulk d + 1
  | (_, d) => uptoBulk d + 1
 end
def uptoSmall : (H : Type) → List (DataW H) → Bool := fun _ ds => decide (uptoBulkAll ds ≤ 1048576)
def OpenSpec.upto (s : _root_.Go.ChangeSpec) : _root_.Go.OpenSpec := { _root_.Go.OpenSpec.ofChange s with cond := some uptoSmall }

/-- 'wainwrightlaw12.CodeNumbers', WHERE WHAT IT READS IS OF BULK AT MOST 1048576: true; the input reads as it did. -/
def codeNumbersUptoRow : OpenClaim := { program := "ytlnjikneepgpaaa", sum := "dfcaccdd925fb486f4a63151324f8dfcdd9bfa10c7304afdac3ca58a405c699f", func := "wainwright/wainwrightlaw12.CodeNumbers", spec := "codeNumbers", unfollowed := true, recurses := true, apart := false, narrowed := true }
def CodeNumbersUptoSaid : Prop := codeNumbersUptoRow.holds Try.pinned (OpenSpec.upto codeNumbersSpec)

/-- 'wainwrightlaw12.CodeBlocks', WHERE WHAT IT READS IS OF BULK AT MOST 1048576: true; the input reads as it did. -/
def codeBlocksUptoRow : OpenClaim := { program := "ytlnjikneepgpaaa", sum := "dfcaccdd925fb486f4a63151324f8dfcdd9bfa10c7304afdac3ca58a405c699f", func := "wainwright/wainwrightlaw12.CodeBlocks", spec := "codeBlocks", unfollowed := true, recurses := true, apart := false, narrowed := true }
def CodeBlocksUptoSaid : Prop := codeBlocksUptoRow.holds Try.pinned (OpenSpec.upto codeBlocksSpec)

/-- 'wainwrightlaw12.CodePlain', WHERE WHAT IT READS IS OF BULK AT MOST 1048576: true; the input reads as it did. -/
def codePlainUptoRow : OpenClaim := { program := "ytlnjikneepgpaaa", sum := "dfcaccdd925fb486f4a63151324f8dfcdd9bfa10c7304afdac3ca58a405c699f", func := "wainwright/wainwrightlaw12.CodePlain", spec := "codePlain", unfollowed := true, recurses := true, apart := false, narrowed := true }
def CodePlainUptoSaid : Prop := codePlainUptoRow.holds Try.pinned (OpenSpec.upto codePlainSpec)

/-- 'wainwrightlaw13.SoundAny', WHERE WHAT IT READS IS OF BULK AT MOST 1048576: true; the input reads as it did. -/
def soundAnyUptoRow : OpenClaim := { program := "ytlnjikneepgpaaa", sum := "dfcaccdd925fb486f4a63151324f8dfcdd9bfa10c7304afdac3ca58a405c699f", func := "wainwright/wainwrightlaw13.SoundAny", spec := "soundAny", apart := false, narrowed := true }
def SoundAnyUptoSaid : Prop := soundAnyUptoRow.holds Try.pinned (OpenSpec.upto soundAnySpec)

/-- 'wainwrightlaw13.SoundNumbers', WHERE WHAT IT READS IS OF BULK AT MOST 1048576: true; the input reads as it did. -/
def soundNumbersUptoRow : OpenClaim := { program := "ytlnjikneepgpaaa", sum := "dfcaccdd925fb486f4a63151324f8dfcdd9bfa10c7304afdac3ca58a405c699f", func := "wainwright/wainwrightlaw13.SoundNumbers", spec := "soundNumbers", recurses := true, apart := false, narrowed := true }
def SoundNumbersUptoSaid : Prop := soundNumbersUptoRow.holds Try.pinned (OpenSpec.upto soundNumbersSpec)

/-- 'wainwrightlaw13.SoundPiles', WHERE WHAT IT READS IS OF BULK AT MOST 1048576: true; the input reads as it did. -/
def soundPilesUptoRow : OpenClaim := { program := "ytlnjikneepgpaaa", sum := "dfcaccdd925fb486f4a63151324f8dfcdd9bfa10c7304afdac3ca58a405c699f", func := "wainwright/wainwrightlaw13.SoundPiles", spec := "soundPiles", apart := false, narrowed := true }
def SoundPilesUptoSaid : Prop := soundPilesUptoRow.holds Try.pinned (OpenSpec.upto soundPilesSpec)

/-- 'wainwrightlaw13.SoundArgs', WHERE WHAT IT READS IS OF BULK AT MOST 1048576: true; the input reads as it did. -/
def soundArgsUptoRow : OpenClaim := { program := "ytlnjikneepgpaaa", sum := "dfcaccdd925fb486f4a63151324f8dfcdd9bfa10c7304afdac3ca58a405c699f", func := "wainwright/wainwrightlaw13.SoundArgs", spec := "soundArgs", apart := false, narrowed := true }
def SoundArgsUptoSaid : Prop := soundArgsUptoRow.holds Try.pinned (OpenSpec.upto soundArgsSpec)

/-- 'wainwrightlaw13.SoundBig', WHERE WHAT IT READS IS OF BULK AT MOST 1048576: true; the input reads as it did. -/
def soundBigUptoRow : OpenClaim := { program := "ytlnjikneepgpaaa", sum := "dfcaccdd925fb486f4a63151324f8dfcdd9bfa10c7304afdac3ca58a405c699f", func := "wainwright/wainwrightlaw13.SoundBig", spec := "soundBig", apart := false, narrowed := true }
def SoundBigUptoSaid : Prop := soundBigUptoRow.holds Try.pinned (OpenSpec.upto soundBigSpec)

/-- 'wainwrightlaw15.PeepJoins', WHERE WHAT IT READS IS OF BULK AT MOST 1048576: true; the input reads as it did. -/
def peepJoinsUptoRow : OpenClaim := { program := "ytlnjikneepgpaaa", sum := "dfcaccdd925fb486f4a63151324f8dfcdd9bfa10c7304afdac3ca58a405c699f", func := "wainwright/wainwrightlaw15.PeepJoins", spec := "peepJoins", unfollowed := true, recurses := true, apart := false, narrowed := true }
def PeepJoinsUptoSaid : Prop := peepJoinsUptoRow.holds Try.pinned (OpenSpec.upto peepJoinsSpec)

/-- 'wainwrightlaw09.TableAll', WHERE WHAT IT READS IS OF BULK AT MOST 1048576: true; the input reads as it did. -/
def tableAllUptoRow : OpenClaim := { program := "ytlnjikneepgpaaa", sum := "dfcaccdd925fb486f4a63151324f8dfcdd9bfa10c7304afdac3ca58a405c699f", func := "wainwright/wainwrightlaw09.TableAll", spec := "tableAll", recurses := true, apart := false, narrowed := true }
def TableAllUptoSaid : Prop := tableAllUptoRow.holds Try.pinned (OpenSpec.upto tableAllSpec)

/-- 'wainwrightlaw09.TableShapes', WHERE WHAT IT READS IS OF BULK AT MOST 1048576: true; the input reads as it did. -/
def tableShapesUptoRow : OpenClaim := { program := "ytlnjikneepgpaaa", sum := "dfcaccdd925fb486f4a63151324f8dfcdd9bfa10c7304afdac3ca58a405c699f", func := "wainwright/wainwrightlaw09.TableShapes", spec := "tableShapes", recurses := true, apart := false, narrowed := true }
def TableShapesUptoSaid : Prop := tableShapesUptoRow.holds Try.pinned (OpenSpec.upto tableShapesSpec)

/-- 'wainwrightlaw09.TableKinds', WHERE WHAT IT READS IS OF BULK AT MOST 1048576: true; the input reads as it did. -/
def tableKindsUptoRow : OpenClaim := { program := "ytlnjikneepgpaaa", sum := "dfcaccdd925fb486f4a63151324f8dfcdd9bfa10c7304afdac3ca58a405c699f", func := "wainwright/wainwrightlaw09.TableKinds", spec := "tableKinds", recurses := true, apart := false, narrowed := true }
def TableKindsUptoSaid : Prop := tableKindsUptoRow.holds Try.pinned (OpenSpec.upto tableKindsSpec)

end Rows
end Go.Proofs.Ytlnjikneepgpaaa

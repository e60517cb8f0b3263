/-
  No cell of these rows narrows 'for every input' (looked for: loops, veiled, ifaces, maps, wideKeys, modest, calm, conditions, laid).
  DERIVED. THE GIVEN ROWS OF THIS SEAT. 8 by the template 'for every input the law returns true; each argument reads behind the call as it read before'; 0 by the template 'total and deterministic' (their statements: YtfoflieoeahhfaaGreatTotals.lean).
  GIVEN WITH THE SEED: the statements are not yours to turn. If you find one false, say at which input.
  Laid BY PROGRAM, IN A SANDBOX (cutbox-rows.mjs): the forced cells as the released guide's own fill.sh prints them over the translation 16fcbdc7a95ab4b3… (all of the seat's roots in one cut). By AI agents, Wed Nov 11 2026. No macro, syntax, notation, axiom, sorry.
-/
import Derived.Test.YtfoflieoeahhfaaGreatChecked
import GoSem.Claim
import GoSem.ClaimJoined
import GoSem.ClaimMapViews
import Derived.JoinedTies
import Derived.KernelRfl
namespace Go.Proofs.YtfoflieoeahhfaaGreat
/- THE CELL 'sum', in the pinned program and in every row, IS THE sha256 OF THE DUMP (.gsa) THAT YtfoflieoeahhfaaGreatProg.lean LOADS. Nothing in Lean hashes anything: it is a label: what it is worth is what the hold of that sum in a sandbox is worth. -/
noncomputable def Tryz.pinned : Pinned := { name := "ytfoflieoeahhfaagreat", sum := "16fcbdc7a95ab4b38d6a21c5f1452cda512211a47253cf05e8db059346eb3333", checked := Tryz.checked }
namespace Rows
def none {H : Type} : Left H := { results := [], args := [] }

/-- 'laws.FnExactLoad': WHATEVER THE INPUT: true; the input reads as it did. -/
def fnExactLoadSpec : ChangeSpec := { name := "fnExactLoad", fn := fun _ => fun
  | [d] => { results := [.lit (.bool true)], args := [d] }
  | _ => none }
def fnExactLoadRow : OpenClaim := { program := "ytfoflieoeahhfaagreat", sum := "16fcbdc7a95ab4b38d6a21c5f1452cda512211a47253cf05e8db059346eb3333", func := "loop.example/g00129/laws.FnExactLoad", spec := "fnExactLoad", unfollowed := true, recurses := true, apart := false }
def FnExactLoadSaid : Prop := fnExactLoadRow.holds Tryz.pinned (OpenSpec.ofChange fnExactLoadSpec)

/-- ITS FALSE NEIGHBOUR: 'it returns false'. Refute it at one input. -/
def fnExactLoadWrong : ChangeSpec := { name := "fnExactLoad", fn := fun _ => fun
  | [d] => { results := [.lit (.bool false)], args := [d] }
  | _ => none }
def FnExactLoadWrongFalsely : Prop := fnExactLoadRow.holds Tryz.pinned (OpenSpec.ofChange fnExactLoadWrong)

/-- 'laws.FnExactFaultCounts': WHATEVER THE INPUT: true; the input reads as it did. -/
def fnExactFaultCountsSpec : ChangeSpec := { name := "fnExactFaultCounts", fn := fun _ => fun
  | [d] => { results := [.lit (.bool true)], args := [d] }
  | _ => none }
def fnExactFaultCountsRow : OpenClaim := { program := "ytfoflieoeahhfaagreat", sum := "16fcbdc7a95ab4b38d6a21c5f1452cda512211a47253cf05e8db059346eb3333", func := "loop.example/g00129/laws.FnExactFaultCounts", spec := "fnExactFaultCounts", apart := false }
def FnExactFaultCountsSaid : Prop := fnExactFaultCountsRow.holds Tryz.pinned (OpenSpec.ofChange fnExactFaultCountsSpec)

/-- ITS FALSE NEIGHBOUR: 'it returns false'. Refute it at one input. -/
def fnExactFaultCountsWrong : ChangeSpec := { name := "fnExactFaultCounts", fn := fun _ => fun
  | [d] => { results := [.lit (.bool false)], args := [d] }
  | _ => none }
def FnExactFaultCountsWrongFalsely : Prop := fnExactFaultCountsRow.holds Tryz.pinned (OpenSpec.ofChange fnExactFaultCountsWrong)

/-- 'laws.FnExactEnough': WHATEVER THE INPUT: true; the input reads as it did. -/
def fnExactEnoughSpec : ChangeSpec := { name := "fnExactEnough", fn := fun _ => fun
  | [d] => { results := [.lit (.bool true)], args := [d] }
  | _ => none }
def fnExactEnoughRow : OpenClaim := { program := "ytfoflieoeahhfaagreat", sum := "16fcbdc7a95ab4b38d6a21c5f1452cda512211a47253cf05e8db059346eb3333", func := "loop.example/g00129/laws.FnExactEnough", spec := "fnExactEnough", unfollowed := true, recurses := true, apart := false }
def FnExactEnoughSaid : Prop := fnExactEnoughRow.holds Tryz.pinned (OpenSpec.ofChange fnExactEnoughSpec)

/-- ITS FALSE NEIGHBOUR: 'it returns false'. Refute it at one input. -/
def fnExactEnoughWrong : ChangeSpec := { name := "fnExactEnough", fn := fun _ => fun
  | [d] => { results := [.lit (.bool false)], args := [d] }
  | _ => none }
def FnExactEnoughWrongFalsely : Prop := fnExactEnoughRow.holds Tryz.pinned (OpenSpec.ofChange fnExactEnoughWrong)

/-- 'laws.FnExactWorldOk': WHATEVER THE INPUT: true; the input reads as it did. -/
def fnExactWorldOkSpec : ChangeSpec := { name := "fnExactWorldOk", fn := fun _ => fun
  | [d] => { results := [.lit (.bool true)], args := [d] }
  | _ => none }
def fnExactWorldOkRow : OpenClaim := { program := "ytfoflieoeahhfaagreat", sum := "16fcbdc7a95ab4b38d6a21c5f1452cda512211a47253cf05e8db059346eb3333", func := "loop.example/g00129/laws.FnExactWorldOk", spec := "fnExactWorldOk", unfollowed := true, recurses := true, apart := false }
def FnExactWorldOkSaid : Prop := fnExactWorldOkRow.holds Tryz.pinned (OpenSpec.ofChange fnExactWorldOkSpec)

/-- ITS FALSE NEIGHBOUR: 'it returns false'. Refute it at one input. -/
def fnExactWorldOkWrong : ChangeSpec := { name := "fnExactWorldOk", fn := fun _ => fun
  | [d] => { results := [.lit (.bool false)], args := [d] }
  | _ => none }
def FnExactWorldOkWrongFalsely : Prop := fnExactWorldOkRow.holds Tryz.pinned (OpenSpec.ofChange fnExactWorldOkWrong)

/-- 'laws.FnExactWorldNew': WHATEVER THE INPUT: true; the input reads as it did. -/
def fnExactWorldNewSpec : ChangeSpec := { name := "fnExactWorldNew", fn := fun _ => fun
  | [d1, d2] => { results := [.lit (.bool true)], args := [d1, d2] }
  | _ => none }
def fnExactWorldNewRow : OpenClaim := { program := "ytfoflieoeahhfaagreat", sum := "16fcbdc7a95ab4b38d6a21c5f1452cda512211a47253cf05e8db059346eb3333", func := "loop.example/g00129/laws.FnExactWorldNew", spec := "fnExactWorldNew", unfollowed := true, recurses := true, apart := false }
def FnExactWorldNewSaid : Prop := fnExactWorldNewRow.holds Tryz.pinned (OpenSpec.ofChange fnExactWorldNewSpec)

/-- ITS FALSE NEIGHBOUR: 'it returns false'. Refute it at one input. -/
def fnExactWorldNewWrong : ChangeSpec := { name := "fnExactWorldNew", fn := fun _ => fun
  | [d1, d2] => { results := [.lit (.bool false)], args := [d1, d2] }
  | _ => none }
def FnExactWorldNewWrongFalsely : Prop := fnExactWorldNewRow.holds Tryz.pinned (OpenSpec.ofChange fnExactWorldNewWrong)

/-- 'laws.FnExactFabricSwap': WHATEVER THE INPUT: true; the input reads as it did. -/
def fnExactFabricSwapSpec : ChangeSpec := { name := "fnExactFabricSwap", fn := fun _ => fun
  | [d1, d2] => { results := [.lit (.bool true)], args := [d1, d2] }
  | _ => none }
def fnExactFabricSwapRow : OpenClaim := { program := "ytfoflieoeahhfaagreat", sum := "16fcbdc7a95ab4b38d6a21c5f1452cda512211a47253cf05e8db059346eb3333", func := "loop.example/g00129/laws.FnExactFabricSwap", spec := "fnExactFabricSwap", unfollowed := true, recurses := true, apart := false }
def FnExactFabricSwapSaid : Prop := fnExactFabricSwapRow.holds Tryz.pinned (OpenSpec.ofChange fnExactFabricSwapSpec)

/-- ITS FALSE NEIGHBOUR: 'it returns false'. Refute it at one input. -/
def fnExactFabricSwapWrong : ChangeSpec := { name := "fnExactFabricSwap", fn := fun _ => fun
  | [d1, d2] => { results := [.lit (.bool false)], args := [d1, d2] }
  | _ => none }
def FnExactFabricSwapWrongFalsely : Prop := fnExactFabricSwapRow.holds Tryz.pinned (OpenSpec.ofChange fnExactFabricSwapWrong)

/-- 'laws.FnExactFabricAsk': WHATEVER THE INPUT: true; the input reads as it did. -/
def fnExactFabricAskSpec : ChangeSpec := { name := "fnExactFabricAsk", fn := fun _ => fun
  | [d1, d2, d3, d4, d5] => { results := [.lit (.bool true)], args := [d1, d2, d3, d4, d5] }
  | _ => none }
def fnExactFabricAskRow : OpenClaim := { program := "ytfoflieoeahhfaagreat", sum := "16fcbdc7a95ab4b38d6a21c5f1452cda512211a47253cf05e8db059346eb3333", func := "loop.example/g00129/laws.FnExactFabricAsk", spec := "fnExactFabricAsk", unfollowed := true, recurses := true, apart := false }
def FnExactFabricAskSaid : Prop := fnExactFabricAskRow.holds Tryz.pinned (OpenSpec.ofChange fnExactFabricAskSpec)

/-- ITS FALSE NEIGHBOUR: 'it returns false'. Refute it at one input. -/
def fnExactFabricAskWrong : ChangeSpec := { name := "fnExactFabricAsk", fn := fun _ => fun
  | [d1, d2, d3, d4, d5] => { results := [.lit (.bool false)], args := [d1, d2, d3, d4, d5] }
  | _ => none }
def FnExactFabricAskWrongFalsely : Prop := fnExactFabricAskRow.holds Tryz.pinned (OpenSpec.ofChange fnExactFabricAskWrong)

/-- 'laws.FnExactFabricTick': WHATEVER THE INPUT: true; the input reads as it did. -/
def fnExactFabricTickSpec : ChangeSpec := { name := "fnExactFabricTick", fn := fun _ => fun
  | [d] => { results := [.lit (.bool true)], args := [d] }
  | _ => none }
def fnExactFabricTickRow : OpenClaim := { program := "ytfoflieoeahhfaagreat", sum := "16fcbdc7a95ab4b38d6a21c5f1452cda512211a47253cf05e8db059346eb3333", func := "loop.example/g00129/laws.FnExactFabricTick", spec := "fnExactFabricTick", unfollowed := true, recurses := true, apart := false }
def FnExactFabricTickSaid : Prop := fnExactFabricTickRow.holds Tryz.pinned (OpenSpec.ofChange fnExactFabricTickSpec)

/-- ITS FALSE NEIGHBOUR: 'it returns false'. Refute it at one input. -/
def fnExactFabricTickWrong : ChangeSpec := { name := "fnExactFabricTick", fn := fun _ => fun
  | [d] => { results := [.lit (.bool false)], args := [d] }
  | _ => none }
def FnExactFabricTickWrongFalsely : Prop := fnExactFabricTickRow.holds Tryz.pinned (OpenSpec.ofChange fnExactFabricTickWrong)

/- THE SECOND FORM. 'bulk': how many values and letters a reading holds, each counted each time it is reached (what is shared counts as often as it is met; a slice's spare places count too). A statement '..UptoSaid' is the law's where the arguments, and the package variables that the reading takes, are together of bulk at most 1048576: NARROWER than '..Said'. Prove '..Said' where nothing that the law and all that it calls make is longer than what came in: it says more and counts as full. Else prove '..UptoSaid'. A law counts once. -/
mutual
def uptoBulk {H : Type} : DataW H → Nat
  | .lit (.string bytes) => bytes.length + 1
  | .lit _ => 1
  | .nil => 1
  | .ptr d => uptoBulk d + 1
  | .slice elems spare => uptoBulkAll elems + uptoBulkAll spare + 1
  | .agg parts => uptoBulkAll parts + 1
  | .iface _ d => uptoBulk d + 1
  | .map entries => uptoBulkEntries entries + 1
  | .held _ => 1
def uptoBulkAll {H : Type} : List (DataW H) → Nat
  | [] => 0
  | d :: r => uptoBulk d + uptoBulkAll r
def uptoBulkEntries {H : Type} : List (Lit × DataW H) → Nat
  | [] => 0
  | x :: r => uptoBulkEntry x + uptoBulkEntries r
def uptoBulkEntry {H : Type} : Lit × DataW H → Nat
  | (.string bytes, d) => bytes.length + uptoBulk d + 1
  | (_, d) => uptoBulk d + 1
 end
def uptoSmall : (H : Type) → List (DataW H) → Bool := fun _ ds => decide (uptoBulkAll ds ≤ 1048576)
def OpenSpec.upto (s : _root_.Go.ChangeSpec) : _root_.Go.OpenSpec := { _root_.Go.OpenSpec.ofChange s with cond := some uptoSmall }

/-- 'laws.FnExactLoad', WHERE WHAT IT READS IS OF BULK AT MOST 1048576: true; the input reads as it did. -/
def fnExactLoadUptoRow : OpenClaim := { program := "ytfoflieoeahhfaagreat", sum := "16fcbdc7a95ab4b38d6a21c5f1452cda512211a47253cf05e8db059346eb3333", func := "loop.example/g00129/laws.FnExactLoad", spec := "fnExactLoad", unfollowed := true, recurses := true, apart := false, narrowed := true }
def FnExactLoadUptoSaid : Prop := fnExactLoadUptoRow.holds Tryz.pinned (OpenSpec.upto fnExactLoadSpec)

/-- 'laws.FnExactFaultCounts', WHERE WHAT IT READS IS OF BULK AT MOST 1048576: true; the input reads as it did. -/
def fnExactFaultCountsUptoRow : OpenClaim := { program := "ytfoflieoeahhfaagreat", sum := "16fcbdc7a95ab4b38d6a21c5f1452cda512211a47253cf05e8db059346eb3333", func := "loop.example/g00129/laws.FnExactFaultCounts", spec := "fnExactFaultCounts", apart := false, narrowed := true }
def FnExactFaultCountsUptoSaid : Prop := fnExactFaultCountsUptoRow.holds Tryz.pinned (OpenSpec.upto fnExactFaultCountsSpec)

/-- 'laws.FnExactEnough', WHERE WHAT IT READS IS OF BULK AT MOST 1048576: true; the input reads as it did. -/
def fnExactEnoughUptoRow : OpenClaim := { program := "ytfoflieoeahhfaagreat", sum := "16fcbdc7a95ab4b38d6a21c5f1452cda512211a47253cf05e8db059346eb3333", func := "loop.example/g00129/laws.FnExactEnough", spec := "fnExactEnough", unfollowed := true, recurses := true, apart := false, narrowed := true }
def FnExactEnoughUptoSaid : Prop := fnExactEnoughUptoRow.holds Tryz.pinned (OpenSpec.upto fnExactEnoughSpec)

/-- 'laws.FnExactWorldOk', WHERE WHAT IT READS IS OF BULK AT MOST 1048576: true; the input reads as it did. -/
def fnExactWorldOkUptoRow : OpenClaim := { program := "ytfoflieoeahhfaagreat", sum := "16fcbdc7a95ab4b38d6a21c5f1452cda512211a47253cf05e8db059346eb3333", func := "loop.example/g00129/laws.FnExactWorldOk", spec := "fnExactWorldOk", unfollowed := true, recurses := true, apart := false, narrowed := true }
def FnExactWorldOkUptoSaid : Prop := fnExactWorldOkUptoRow.holds Tryz.pinned (OpenSpec.upto fnExactWorldOkSpec)

/-- 'laws.FnExactWorldNew', WHERE WHAT IT READS IS OF BULK AT MOST 1048576: true; the input reads as it did. -/
def fnExactWorldNewUptoRow : OpenClaim := { program := "ytfoflieoeahhfaagreat", sum := "16fcbdc7a95ab4b38d6a21c5f1452cda512211a47253cf05e8db059346eb3333", func := "loop.example/g00129/laws.FnExactWorldNew", spec := "fnExactWorldNew", unfollowed := true, recurses := true, apart := false, narrowed := true }
def FnExactWorldNewUptoSaid : Prop := fnExactWorldNewUptoRow.holds Tryz.pinned (OpenSpec.upto fnExactWorldNewSpec)

/-- 'laws.FnExactFabricSwap', WHERE WHAT IT READS IS OF BULK AT MOST 1048576: true; the input reads as it did. -/
def fnExactFabricSwapUptoRow : OpenClaim := { program := "ytfoflieoeahhfaagreat", sum := "16fcbdc7a95ab4b38d6a21c5f1452cda512211a47253cf05e8db059346eb3333", func := "loop.example/g00129/laws.FnExactFabricSwap", spec := "fnExactFabricSwap", unfollowed := true, recurses := true, apart := false, narrowed := true }
def FnExactFabricSwapUptoSaid : Prop := fnExactFabricSwapUptoRow.holds Tryz.pinned (OpenSpec.upto fnExactFabricSwapSpec)

/-- 'laws.FnExactFabricAsk', WHERE WHAT IT READS IS OF BULK AT MOST 1048576: true; the input reads as it did. -/
def fnExactFabricAskUptoRow : OpenClaim := { program := "ytfoflieoeahhfaagreat", sum := "16fcbdc7a95ab4b38d6a21c5f1452cda512211a47253cf05e8db059346eb3333", func := "loop.example/g00129/laws.FnExactFabricAsk", spec := "fnExactFabricAsk", unfollowed := true, recurses := true, apart := false, narrowed := true }
def FnExactFabricAskUptoSaid : Prop := fnExactFabricAskUptoRow.holds Tryz.pinned (OpenSpec.upto fnExactFabricAskSpec)

/-- 'laws.FnExactFabricTick', WHERE WHAT IT READS IS OF BULK AT MOST 1048576: true; the input reads as it did. -/
def fnExactFabricTickUptoRow : OpenClaim := { program := "ytfoflieoeahhfaagreat", sum := "16fcbdc7a95ab4b38d6a21c5f1452cda512211a47253cf05e8db059346eb3333", func := "loop.example/g00129/laws.FnExactFabricTick", spec := "fnExactFabricTick", unfollowed := true, recurses := true, apart := false, narrowed := true }
def FnExactFabricTickUptoSaid : Prop := fnExactFabricTickUptoRow.holds Tryz.pinned (OpenSpec.upto fnExactFabricTickSpec)

end Rows
end Go.Proofs.YtfoflieoeahhfaaGreat

/-
  No cell of these rows narrows 'for every input' (looked for: loops, veiled, ifaces, maps, wideKeys, modest, calm, conditions, laid).
  DERIVED. THE GIVEN ROWS OF THIS SEAT. 9 by the template 'for every input the law returns true; each argument reads behind the call as it read before'; 0 by the template 'total and deterministic' (their statements: YtecbfpngkfdkoaaGreatTotals.lean).
  GIVEN WITH THE SEED: the statements are not yours to turn. If you find one false, say at which input.
  Laid BY PROGRAM, IN A SANDBOX (cutbox-rows.mjs): the forced cells as the released guide's own fill.sh prints them over the translation ec80771bc87ae70d… (all of the seat's roots in one cut). By AI agents, Wed Nov 11 2026. No macro, syntax, notation, axiom, sorry.
-/
import Derived.Test.YtecbfpngkfdkoaaGreatChecked
import GoSem.Claim
import GoSem.ClaimJoined
import GoSem.ClaimMapViews
import Derived.JoinedTies
import Derived.KernelRfl
namespace Go.Proofs.YtecbfpngkfdkoaaGreat
/- THE CELL 'sum', in the pinned program and in every row, IS THE sha256 OF THE DUMP (.gsa) THAT YtecbfpngkfdkoaaGreatProg.lean LOADS. Nothing in Lean hashes anything: it is a label: what it is worth is what the hold of that sum in a sandbox is worth. -/
noncomputable def Tryz.pinned : Pinned := { name := "ytecbfpngkfdkoaagreat", sum := "ec80771bc87ae70d836a3cb37672b10e7a100d5a7ccc6c2a5744f2cc7e2404c3", checked := Tryz.checked }
namespace Rows
def none {H : Type} : Left H := { results := [], args := [] }

/-- 'refuterlaw30.LinearFind': WHATEVER THE INPUT: true; the input reads as it did. -/
def linearFindSpec : ChangeSpec := { name := "linearFind", fn := fun _ => fun
  | [d1, d2, d3, d4, d5] => { results := [.lit (.bool true)], args := [d1, d2, d3, d4, d5] }
  | _ => none }
def linearFindRow : OpenClaim := { program := "ytecbfpngkfdkoaagreat", sum := "ec80771bc87ae70d836a3cb37672b10e7a100d5a7ccc6c2a5744f2cc7e2404c3", func := "refuter/refuterlaw30.LinearFind", spec := "linearFind", unfollowed := true, recurses := true, apart := false }
def LinearFindSaid : Prop := linearFindRow.holds Tryz.pinned (OpenSpec.ofChange linearFindSpec)

/-- ITS FALSE NEIGHBOUR: 'it returns false'. Refute it at one input. -/
def linearFindWrong : ChangeSpec := { name := "linearFind", fn := fun _ => fun
  | [d1, d2, d3, d4, d5] => { results := [.lit (.bool false)], args := [d1, d2, d3, d4, d5] }
  | _ => none }
def LinearFindWrongFalsely : Prop := linearFindRow.holds Tryz.pinned (OpenSpec.ofChange linearFindWrong)

/-- 'refuterlaw30.LinearMany': WHATEVER THE INPUT: true; the input reads as it did. -/
def linearManySpec : ChangeSpec := { name := "linearMany", fn := fun _ => fun
  | [d1, d2] => { results := [.lit (.bool true)], args := [d1, d2] }
  | _ => none }
def linearManyRow : OpenClaim := { program := "ytecbfpngkfdkoaagreat", sum := "ec80771bc87ae70d836a3cb37672b10e7a100d5a7ccc6c2a5744f2cc7e2404c3", func := "refuter/refuterlaw30.LinearMany", spec := "linearMany", unfollowed := true, recurses := true, apart := false }
def LinearManySaid : Prop := linearManyRow.holds Tryz.pinned (OpenSpec.ofChange linearManySpec)

/-- ITS FALSE NEIGHBOUR: 'it returns false'. Refute it at one input. -/
def linearManyWrong : ChangeSpec := { name := "linearMany", fn := fun _ => fun
  | [d1, d2] => { results := [.lit (.bool false)], args := [d1, d2] }
  | _ => none }
def LinearManyWrongFalsely : Prop := linearManyRow.holds Tryz.pinned (OpenSpec.ofChange linearManyWrong)

/-- 'refuterlaw30.LinearRefute': WHATEVER THE INPUT: true; the input reads as it did. -/
def linearRefuteSpec : ChangeSpec := { name := "linearRefute", fn := fun _ => fun
  | [d1, d2, d3, d4, d5] => { results := [.lit (.bool true)], args := [d1, d2, d3, d4, d5] }
  | _ => none }
def linearRefuteRow : OpenClaim := { program := "ytecbfpngkfdkoaagreat", sum := "ec80771bc87ae70d836a3cb37672b10e7a100d5a7ccc6c2a5744f2cc7e2404c3", func := "refuter/refuterlaw30.LinearRefute", spec := "linearRefute", unfollowed := true, recurses := true, apart := false }
def LinearRefuteSaid : Prop := linearRefuteRow.holds Tryz.pinned (OpenSpec.ofChange linearRefuteSpec)

/-- ITS FALSE NEIGHBOUR: 'it returns false'. Refute it at one input. -/
def linearRefuteWrong : ChangeSpec := { name := "linearRefute", fn := fun _ => fun
  | [d1, d2, d3, d4, d5] => { results := [.lit (.bool false)], args := [d1, d2, d3, d4, d5] }
  | _ => none }
def LinearRefuteWrongFalsely : Prop := linearRefuteRow.holds Tryz.pinned (OpenSpec.ofChange linearRefuteWrong)

/-- 'refuterlaw30.LinearWider': WHATEVER THE INPUT: true; the input reads as it did. -/
def linearWiderSpec : ChangeSpec := { name := "linearWider", fn := fun _ => fun
  | [d1, d2, d3] => { results := [.lit (.bool true)], args := [d1, d2, d3] }
  | _ => none }
def linearWiderRow : OpenClaim := { program := "ytecbfpngkfdkoaagreat", sum := "ec80771bc87ae70d836a3cb37672b10e7a100d5a7ccc6c2a5744f2cc7e2404c3", func := "refuter/refuterlaw30.LinearWider", spec := "linearWider", unfollowed := true, recurses := true, apart := false }
def LinearWiderSaid : Prop := linearWiderRow.holds Tryz.pinned (OpenSpec.ofChange linearWiderSpec)

/-- ITS FALSE NEIGHBOUR: 'it returns false'. Refute it at one input. -/
def linearWiderWrong : ChangeSpec := { name := "linearWider", fn := fun _ => fun
  | [d1, d2, d3] => { results := [.lit (.bool false)], args := [d1, d2, d3] }
  | _ => none }
def LinearWiderWrongFalsely : Prop := linearWiderRow.holds Tryz.pinned (OpenSpec.ofChange linearWiderWrong)

/-- 'refuterlaw30.LinearCheck': WHATEVER THE INPUT: true; the input reads as it did. -/
def linearCheckSpec : ChangeSpec := { name := "linearCheck", fn := fun _ => fun
  | [d1, d2, d3, d4] => { results := [.lit (.bool true)], args := [d1, d2, d3, d4] }
  | _ => none }
def linearCheckRow : OpenClaim := { program := "ytecbfpngkfdkoaagreat", sum := "ec80771bc87ae70d836a3cb37672b10e7a100d5a7ccc6c2a5744f2cc7e2404c3", func := "refuter/refuterlaw30.LinearCheck", spec := "linearCheck", unfollowed := true, recurses := true, apart := false }
def LinearCheckSaid : Prop := linearCheckRow.holds Tryz.pinned (OpenSpec.ofChange linearCheckSpec)

/-- ITS FALSE NEIGHBOUR: 'it returns false'. Refute it at one input. -/
def linearCheckWrong : ChangeSpec := { name := "linearCheck", fn := fun _ => fun
  | [d1, d2, d3, d4] => { results := [.lit (.bool false)], args := [d1, d2, d3, d4] }
  | _ => none }
def LinearCheckWrongFalsely : Prop := linearCheckRow.holds Tryz.pinned (OpenSpec.ofChange linearCheckWrong)

/-- 'refuterlaw30.LinearDecided': WHATEVER THE INPUT: true; the input reads as it did. -/
def linearDecidedSpec : ChangeSpec := { name := "linearDecided", fn := fun _ => fun
  | [d1, d2] => { results := [.lit (.bool true)], args := [d1, d2] }
  | _ => none }
def linearDecidedRow : OpenClaim := { program := "ytecbfpngkfdkoaagreat", sum := "ec80771bc87ae70d836a3cb37672b10e7a100d5a7ccc6c2a5744f2cc7e2404c3", func := "refuter/refuterlaw30.LinearDecided", spec := "linearDecided", unfollowed := true, recurses := true, apart := false }
def LinearDecidedSaid : Prop := linearDecidedRow.holds Tryz.pinned (OpenSpec.ofChange linearDecidedSpec)

/-- ITS FALSE NEIGHBOUR: 'it returns false'. Refute it at one input. -/
def linearDecidedWrong : ChangeSpec := { name := "linearDecided", fn := fun _ => fun
  | [d1, d2] => { results := [.lit (.bool false)], args := [d1, d2] }
  | _ => none }
def LinearDecidedWrongFalsely : Prop := linearDecidedRow.holds Tryz.pinned (OpenSpec.ofChange linearDecidedWrong)

/-- 'refuterlaw30.LinearBytes': WHATEVER THE INPUT: true; the input reads as it did. -/
def linearBytesSpec : ChangeSpec := { name := "linearBytes", fn := fun _ => fun
  | [d1, d2, d3, d4, d5] => { results := [.lit (.bool true)], args := [d1, d2, d3, d4, d5] }
  | _ => none }
def linearBytesRow : OpenClaim := { program := "ytecbfpngkfdkoaagreat", sum := "ec80771bc87ae70d836a3cb37672b10e7a100d5a7ccc6c2a5744f2cc7e2404c3", func := "refuter/refuterlaw30.LinearBytes", spec := "linearBytes", unfollowed := true, recurses := true, apart := false }
def LinearBytesSaid : Prop := linearBytesRow.holds Tryz.pinned (OpenSpec.ofChange linearBytesSpec)

/-- ITS FALSE NEIGHBOUR: 'it returns false'. Refute it at one input. -/
def linearBytesWrong : ChangeSpec := { name := "linearBytes", fn := fun _ => fun
  | [d1, d2, d3, d4, d5] => { results := [.lit (.bool false)], args := [d1, d2, d3, d4, d5] }
  | _ => none }
def LinearBytesWrongFalsely : Prop := linearBytesRow.holds Tryz.pinned (OpenSpec.ofChange linearBytesWrong)

/-- 'refuterlaw30.LinearSequential': WHATEVER THE INPUT: true; the input reads as it did. -/
def linearSequentialSpec : ChangeSpec := { name := "linearSequential", fn := fun _ => fun
  | [d1, d2] => { results := [.lit (.bool true)], args := [d1, d2] }
  | _ => none }
def linearSequentialRow : OpenClaim := { program := "ytecbfpngkfdkoaagreat", sum := "ec80771bc87ae70d836a3cb37672b10e7a100d5a7ccc6c2a5744f2cc7e2404c3", func := "refuter/refuterlaw30.LinearSequential", spec := "linearSequential", unfollowed := true, recurses := true, apart := false }
def LinearSequentialSaid : Prop := linearSequentialRow.holds Tryz.pinned (OpenSpec.ofChange linearSequentialSpec)

/-- ITS FALSE NEIGHBOUR: 'it returns false'. Refute it at one input. -/
def linearSequentialWrong : ChangeSpec := { name := "linearSequential", fn := fun _ => fun
  | [d1, d2] => { results := [.lit (.bool false)], args := [d1, d2] }
  | _ => none }
def LinearSequentialWrongFalsely : Prop := linearSequentialRow.holds Tryz.pinned (OpenSpec.ofChange linearSequentialWrong)

/-- 'refuterlaw30.LinearAtomic': WHATEVER THE INPUT: true; the input reads as it did. -/
def linearAtomicSpec : ChangeSpec := { name := "linearAtomic", fn := fun _ => fun
  | [d1, d2, d3] => { results := [.lit (.bool true)], args := [d1, d2, d3] }
  | _ => none }
def linearAtomicRow : OpenClaim := { program := "ytecbfpngkfdkoaagreat", sum := "ec80771bc87ae70d836a3cb37672b10e7a100d5a7ccc6c2a5744f2cc7e2404c3", func := "refuter/refuterlaw30.LinearAtomic", spec := "linearAtomic", unfollowed := true, recurses := true, apart := false }
def LinearAtomicSaid : Prop := linearAtomicRow.holds Tryz.pinned (OpenSpec.ofChange linearAtomicSpec)

/-- ITS FALSE NEIGHBOUR: 'it returns false'. Refute it at one input. -/
def linearAtomicWrong : ChangeSpec := { name := "linearAtomic", fn := fun _ => fun
  | [d1, d2, d3] => { results := [.lit (.bool false)], args := [d1, d2, d3] }
  | _ => none }
def LinearAtomicWrongFalsely : Prop := linearAtomicRow.holds Tryz.pinned (OpenSpec.ofChange linearAtomicWrong)

/- THE SECOND FORM. 'bulk': how many values and letters a reading holds, each counted each time it is reached (what is shared counts as often as it is met; a slice's spare places count too). A statement '..UptoSaid' is the law's where the arguments, and the package variables that the reading takes, are together of bulk at most 1048576: NARROWER than '..Said'. Prove '..Said' where nothing that the law and all that it calls make is longer than what came in: it says more and counts as full. Else prove '..UptoSaid'. A law counts once. -/
mutual
def uptoBulk {H : Type} : DataW H → Nat
  | .lit (.string bytes) => bytes.length + 1
  | .lit _ => 1
  | .nil => 1
  | .ptr d => uptoBulk d + 1
  | .slice elems spare => uptoBulkAll elems + uptoBulkAll spare + 1
  | .agg parts => uptoBulkAll parts + 1
  | .iface _ d => uptoBulk d + 1
  | .map entries => uptoBulkEntries entries + 1
  | .held _ => 1
def uptoBulkAll {H : Type} : List (DataW H) → Nat
  | [] => 0
  | d :: r => uptoBulk d + uptoBulkAll r
def uptoBulkEntries {H : Type} : List (Lit × DataW H) → Nat
  | [] => 0
  | x :: r => uptoBulkEntry x + uptoBulkEntries r
def uptoBulkEntry {H : Type} : Lit × DataW H → Nat
  | (.string bytes, d) => bytes.length + uptoBulk d + 1
  | (_, d) => uptoBulk d + 1
 end
def uptoSmall : (H : Type) → List (DataW H) → Bool := fun _ ds => decide (uptoBulkAll ds ≤ 1048576)
def OpenSpec.upto (s : _root_.Go.ChangeSpec) : _root_.Go.OpenSpec := { _root_.Go.OpenSpec.ofChange s with cond := some uptoSmall }

/-- 'refuterlaw30.LinearFind', WHERE WHAT IT READS IS OF BULK AT MOST 1048576: true; the input reads as it did. -/
def linearFindUptoRow : OpenClaim := { program := "ytecbfpngkfdkoaagreat", sum := "ec80771bc87ae70d836a3cb37672b10e7a100d5a7ccc6c2a5744f2cc7e2404c3", func := "refuter/refuterlaw30.LinearFind", spec := "linearFind", unfollowed := true, recurses := true, apart := false, narrowed := true }
def LinearFindUptoSaid : Prop := linearFindUptoRow.holds Tryz.pinned (OpenSpec.upto linearFindSpec)

/-- 'refuterlaw30.LinearMany', WHERE WHAT IT READS IS OF BULK AT MOST 1048576: true; the input reads as it did. -/
def linearManyUptoRow : OpenClaim := { program := "ytecbfpngkfdkoaagreat", sum := "ec80771bc87ae70d836a3cb37672b10e7a100d5a7ccc6c2a5744f2cc7e2404c3", func := "refuter/refuterlaw30.LinearMany", spec := "linearMany", unfollowed := true, recurses := true, apart := false, narrowed := true }
def LinearManyUptoSaid : Prop := linearManyUptoRow.holds Tryz.pinned (OpenSpec.upto linearManySpec)

/-- 'refuterlaw30.LinearRefute', WHERE WHAT IT READS IS OF BULK AT MOST 1048576: true; the input reads as it did. -/
def linearRefuteUptoRow : OpenClaim := { program := "ytecbfpngkfdkoaagreat", sum := "ec80771bc87ae70d836a3cb37672b10e7a100d5a7ccc6c2a5744f2cc7e2404c3", func := "refuter/refuterlaw30.LinearRefute", spec := "linearRefute", unfollowed := true, recurses := true, apart := false, narrowed := true }
def LinearRefuteUptoSaid : Prop := linearRefuteUptoRow.holds Tryz.pinned (OpenSpec.upto linearRefuteSpec)

/-- 'refuterlaw30.LinearWider', WHERE WHAT IT READS IS OF BULK AT MOST 1048576: true; the input reads as it did. -/
def linearWiderUptoRow : OpenClaim := { program := "ytecbfpngkfdkoaagreat", sum := "ec80771bc87ae70d836a3cb37672b10e7a100d5a7ccc6c2a5744f2cc7e2404c3", func := "refuter/refuterlaw30.LinearWider", spec := "linearWider", unfollowed := true, recurses := true, apart := false, narrowed := true }
def LinearWiderUptoSaid : Prop := linearWiderUptoRow.holds Tryz.pinned (OpenSpec.upto linearWiderSpec)

/-- 'refuterlaw30.LinearCheck', WHERE WHAT IT READS IS OF BULK AT MOST 1048576: true; the input reads as it did. -/
def linearCheckUptoRow : OpenClaim := { program := "ytecbfpngkfdkoaagreat", sum := "ec80771bc87ae70d836a3cb37672b10e7a100d5a7ccc6c2a5744f2cc7e2404c3", func := "refuter/refuterlaw30.LinearCheck", spec := "linearCheck", unfollowed := true, recurses := true, apart := false, narrowed := true }
def LinearCheckUptoSaid : Prop := linearCheckUptoRow.holds Tryz.pinned (OpenSpec.upto linearCheckSpec)

/-- 'refuterlaw30.LinearDecided', WHERE WHAT IT READS IS OF BULK AT MOST 1048576: true; the input reads as it did. -/
def linearDecidedUptoRow : OpenClaim := { program := "ytecbfpngkfdkoaagreat", sum := "ec80771bc87ae70d836a3cb37672b10e7a100d5a7ccc6c2a5744f2cc7e2404c3", func := "refuter/refuterlaw30.LinearDecided", spec := "linearDecided", unfollowed := true, recurses := true, apart := false, narrowed := true }
def LinearDecidedUptoSaid : Prop := linearDecidedUptoRow.holds Tryz.pinned (OpenSpec.upto linearDecidedSpec)

/-- 'refuterlaw30.LinearBytes', WHERE WHAT IT READS IS OF BULK AT MOST 1048576: true; the input reads as it did. -/
def linearBytesUptoRow : OpenClaim := { program := "ytecbfpngkfdkoaagreat", sum := "ec80771bc87ae70d836a3cb37672b10e7a100d5a7ccc6c2a5744f2cc7e2404c3", func := "refuter/refuterlaw30.LinearBytes", spec := "linearBytes", unfollowed := true, recurses := true, apart := false, narrowed := true }
def LinearBytesUptoSaid : Prop := linearBytesUptoRow.holds Tryz.pinned (OpenSpec.upto linearBytesSpec)

/-- 'refuterlaw30.LinearSequential', WHERE WHAT IT READS IS OF BULK AT MOST 1048576: true; the input reads as it did. -/
def linearSequentialUptoRow : OpenClaim := { program := "ytecbfpngkfdkoaagreat", sum := "ec80771bc87ae70d836a3cb37672b10e7a100d5a7ccc6c2a5744f2cc7e2404c3", func := "refuter/refuterlaw30.LinearSequential", spec := "linearSequential", unfollowed := true, recurses := true, apart := false, narrowed := true }
def LinearSequentialUptoSaid : Prop := linearSequentialUptoRow.holds Tryz.pinned (OpenSpec.upto linearSequentialSpec)

/-- 'refuterlaw30.LinearAtomic', WHERE WHAT IT READS IS OF BULK AT MOST 1048576: true; the input reads as it did. -/
def linearAtomicUptoRow : OpenClaim := { program := "ytecbfpngkfdkoaagreat", sum := "ec80771bc87ae70d836a3cb37672b10e7a100d5a7ccc6c2a5744f2cc7e2404c3", func := "refuter/refuterlaw30.LinearAtomic", spec := "linearAtomic", unfollowed := true, recurses := true, apart := false, narrowed := true }
def LinearAtomicUptoSaid : Prop := linearAtomicUptoRow.holds Tryz.pinned (OpenSpec.upto linearAtomicSpec)

end Rows
end Go.Proofs.YtecbfpngkfdkoaaGreat

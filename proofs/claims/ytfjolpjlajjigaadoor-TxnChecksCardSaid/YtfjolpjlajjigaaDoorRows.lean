/-
  NARROWER THAN 'FOR EVERY INPUT', by the rows' own cells (each row's printed sentence says how): TxnOne: laid · TxnBack: loops, laid · TxnPacked: laid · TxnStairs: loops, laid · TxnNumbers: laid · TxnChecks: loops, laid · TxnRises: loops, laid.
  DERIVED. THE GIVEN ROWS OF THIS SEAT. 7 by the template 'for every input the law returns true; each argument reads behind the call as it read before'; 0 by the template 'total and deterministic' (their statements: YtfjolpjlajjigaaDoorTotals.lean).
  GIVEN WITH THE SEED: the statements are not yours to turn. If you find one false, say at which input.
  Laid BY PROGRAM, IN A SANDBOX (cutbox-rows.mjs): the forced cells as the released guide's own fill.sh prints them over the translation 81acbfb558ec3e9d… (all of the seat's roots in one cut). By AI agents, Wed Nov 11 2026. No macro, syntax, notation, axiom, sorry.
-/
import Derived.Test.YtfjolpjlajjigaaDoorChecked
import GoSem.Claim
import GoSem.ClaimJoined
import GoSem.ClaimMapViews
import Derived.JoinedTies
import Derived.KernelRfl
namespace Go.Proofs.YtfjolpjlajjigaaDoor
/- THE CELL 'sum', in the pinned program and in every row, IS THE sha256 OF THE DUMP (.gsa) THAT YtfjolpjlajjigaaDoorProg.lean LOADS. Nothing in Lean hashes anything: it is a label: what it is worth is what the hold of that sum in a sandbox is worth. -/
noncomputable def Tryd.pinned : Pinned := { name := "ytfjolpjlajjigaadoor", sum := "81acbfb558ec3e9da63f71962ef8027da091afbdec3bf7da5ca10f2b21c0776d", checked := Tryd.checked }
namespace Rows
def none {H : Type} : Left H := { results := [], args := [] }

/- WHAT THE LISTED PACKAGE-LEVEL VARIABLES READ AS WHEN THE CALL BEGINS. Each datum BY PROGRAM (the guide's laid-datum.mjs) off the statement by which the dump's own 'gosem.cut.vars' lays the variable. In a bare row this is a premise. The card (YtfjolpjlajjigaaDoorCards.lean) ties it to the program's text. -/
def laid_lagoon_txn_names {H : Type} : DataW H := .agg [.lit (.int .u64 0), .lit (.int .u64 183), .lit (.int .u64 169), .lit (.int .u64 171), .lit (.int .u64 173), .lit (.int .u64 169), .lit (.int .u64 416), .lit (.int .u64 64), .lit (.int .u64 32), .lit (.int .u64 161), .lit (.int .u64 161), .lit (.int .u64 161), .lit (.int .u64 161)]
def laid_math_bits_deBruijn32tab {H : Type} : DataW H := .agg [.lit (.int .u8 0), .lit (.int .u8 1), .lit (.int .u8 28), .lit (.int .u8 2), .lit (.int .u8 29), .lit (.int .u8 14), .lit (.int .u8 24), .lit (.int .u8 3), .lit (.int .u8 30), .lit (.int .u8 22), .lit (.int .u8 20), .lit (.int .u8 15), .lit (.int .u8 25), .lit (.int .u8 17), .lit (.int .u8 4), .lit (.int .u8 8), .lit (.int .u8 31), .lit (.int .u8 27), .lit (.int .u8 13), .lit (.int .u8 23), .lit (.int .u8 21), .lit (.int .u8 19), .lit (.int .u8 16), .lit (.int .u8 7), .lit (.int .u8 26), .lit (.int .u8 12), .lit (.int .u8 18), .lit (.int .u8 6), .lit (.int .u8 11), .lit (.int .u8 5), .lit (.int .u8 10), .lit (.int .u8 9)]
def laid_math_bits_deBruijn64tab {H : Type} : DataW H := .agg [.lit (.int .u8 0), .lit (.int .u8 1), .lit (.int .u8 56), .lit (.int .u8 2), .lit (.int .u8 57), .lit (.int .u8 49), .lit (.int .u8 28), .lit (.int .u8 3), .lit (.int .u8 61), .lit (.int .u8 58), .lit (.int .u8 42), .lit (.int .u8 50), .lit (.int .u8 38), .lit (.int .u8 29), .lit (.int .u8 17), .lit (.int .u8 4), .lit (.int .u8 62), .lit (.int .u8 47), .lit (.int .u8 59), .lit (.int .u8 36), .lit (.int .u8 45), .lit (.int .u8 43), .lit (.int .u8 51), .lit (.int .u8 22), .lit (.int .u8 53), .lit (.int .u8 39), .lit (.int .u8 33), .lit (.int .u8 30), .lit (.int .u8 24), .lit (.int .u8 18), .lit (.int .u8 12), .lit (.int .u8 5), .lit (.int .u8 63), .lit (.int .u8 55), .lit (.int .u8 48), .lit (.int .u8 27), .lit (.int .u8 60), .lit (.int .u8 41), .lit (.int .u8 37), .lit (.int .u8 16), .lit (.int .u8 46), .lit (.int .u8 35), .lit (.int .u8 44), .lit (.int .u8 21), .lit (.int .u8 52), .lit (.int .u8 32), .lit (.int .u8 23), .lit (.int .u8 11), .lit (.int .u8 54), .lit (.int .u8 26), .lit (.int .u8 40), .lit (.int .u8 15), .lit (.int .u8 34), .lit (.int .u8 20), .lit (.int .u8 31), .lit (.int .u8 10), .lit (.int .u8 25), .lit (.int .u8 14), .lit (.int .u8 19), .lit (.int .u8 9), .lit (.int .u8 13), .lit (.int .u8 8), .lit (.int .u8 7), .lit (.int .u8 6)]
def laid_internal_strconv_uint64pow10 {H : Type} : DataW H := .agg [.lit (.int .u64 1), .lit (.int .u64 10), .lit (.int .u64 100), .lit (.int .u64 1000), .lit (.int .u64 10000), .lit (.int .u64 100000), .lit (.int .u64 1000000), .lit (.int .u64 10000000), .lit (.int .u64 100000000), .lit (.int .u64 1000000000), .lit (.int .u64 10000000000), .lit (.int .u64 100000000000), .lit (.int .u64 1000000000000), .lit (.int .u64 10000000000000), .lit (.int .u64 100000000000000), .lit (.int .u64 1000000000000000), .lit (.int .u64 10000000000000000), .lit (.int .u64 100000000000000000), .lit (.int .u64 1000000000000000000), .lit (.int .u64 10000000000000000000)]

/-- 'lagoonlaw04.TxnOne': WHATEVER THE INPUT: true; the input reads as it did. -/
def txnOneSpec : ChangeSpec := { name := "txnOne", fn := fun _ => fun
  | [d1, d2, d3] => { results := [.lit (.bool true)], args := [d1, d2, d3] }
  | _ => none }
def txnOneRow : OpenClaim := { program := "ytfjolpjlajjigaadoor", sum := "81acbfb558ec3e9da63f71962ef8027da091afbdec3bf7da5ca10f2b21c0776d", func := "lagoon/lagoonlaw04.TxnOne", spec := "txnOne", unfollowed := true, recurses := true, named := ["lagoon/txn.names"], apart := false, laid := [("lagoon/txn.names", laid_lagoon_txn_names)] }
def TxnOneSaid : Prop := txnOneRow.holds Tryd.pinned (OpenSpec.ofChange txnOneSpec)

/-- ITS FALSE NEIGHBOUR: 'it returns false'. Refute it at one input. -/
def txnOneWrong : ChangeSpec := { name := "txnOne", fn := fun _ => fun
  | [d1, d2, d3] => { results := [.lit (.bool false)], args := [d1, d2, d3] }
  | _ => none }
def TxnOneWrongFalsely : Prop := txnOneRow.holds Tryd.pinned (OpenSpec.ofChange txnOneWrong)

/-- 'lagoonlaw04.TxnBack': WHATEVER THE INPUT: true; the input reads as it did. -/
def txnBackSpec : ChangeSpec := { name := "txnBack", fn := fun _ => fun
  | [d] => { results := [.lit (.bool true)], args := [d] }
  | _ => none }
def txnBackRow : OpenClaim := { program := "ytfjolpjlajjigaadoor", sum := "81acbfb558ec3e9da63f71962ef8027da091afbdec3bf7da5ca10f2b21c0776d", func := "lagoon/lagoonlaw04.TxnBack", spec := "txnBack", unfollowed := true, recurses := true, named := ["lagoon/txn.names"], loops := true, apart := false, laid := [("lagoon/txn.names", laid_lagoon_txn_names)] }
def TxnBackSaid : Prop := txnBackRow.holds Tryd.pinned (OpenSpec.ofChange txnBackSpec)

/-- ITS FALSE NEIGHBOUR: 'it returns false'. Refute it at one input. -/
def txnBackWrong : ChangeSpec := { name := "txnBack", fn := fun _ => fun
  | [d] => { results := [.lit (.bool false)], args := [d] }
  | _ => none }
def TxnBackWrongFalsely : Prop := txnBackRow.holds Tryd.pinned (OpenSpec.ofChange txnBackWrong)

/-- 'lagoonlaw04.TxnPacked': WHATEVER THE INPUT: true; the input reads as it did. -/
def txnPackedSpec : ChangeSpec := { name := "txnPacked", fn := fun _ => fun
  | [d1, d2] => { results := [.lit (.bool true)], args := [d1, d2] }
  | _ => none }
def txnPackedRow : OpenClaim := { program := "ytfjolpjlajjigaadoor", sum := "81acbfb558ec3e9da63f71962ef8027da091afbdec3bf7da5ca10f2b21c0776d", func := "lagoon/lagoonlaw04.TxnPacked", spec := "txnPacked", unfollowed := true, recurses := true, named := ["lagoon/txn.names"], apart := false, laid := [("lagoon/txn.names", laid_lagoon_txn_names)] }
def TxnPackedSaid : Prop := txnPackedRow.holds Tryd.pinned (OpenSpec.ofChange txnPackedSpec)

/-- ITS FALSE NEIGHBOUR: 'it returns false'. Refute it at one input. -/
def txnPackedWrong : ChangeSpec := { name := "txnPacked", fn := fun _ => fun
  | [d1, d2] => { results := [.lit (.bool false)], args := [d1, d2] }
  | _ => none }
def TxnPackedWrongFalsely : Prop := txnPackedRow.holds Tryd.pinned (OpenSpec.ofChange txnPackedWrong)

/-- 'lagoonlaw04.TxnStairs': WHATEVER THE INPUT: true; the input reads as it did. -/
def txnStairsSpec : ChangeSpec := { name := "txnStairs", fn := fun _ => fun
  | [d1, d2, d3] => { results := [.lit (.bool true)], args := [d1, d2, d3] }
  | _ => none }
def txnStairsRow : OpenClaim := { program := "ytfjolpjlajjigaadoor", sum := "81acbfb558ec3e9da63f71962ef8027da091afbdec3bf7da5ca10f2b21c0776d", func := "lagoon/lagoonlaw04.TxnStairs", spec := "txnStairs", unfollowed := true, recurses := true, named := ["lagoon/txn.names"], loops := true, apart := false, laid := [("lagoon/txn.names", laid_lagoon_txn_names)] }
def TxnStairsSaid : Prop := txnStairsRow.holds Tryd.pinned (OpenSpec.ofChange txnStairsSpec)

/-- ITS FALSE NEIGHBOUR: 'it returns false'. Refute it at one input. -/
def txnStairsWrong : ChangeSpec := { name := "txnStairs", fn := fun _ => fun
  | [d1, d2, d3] => { results := [.lit (.bool false)], args := [d1, d2, d3] }
  | _ => none }
def TxnStairsWrongFalsely : Prop := txnStairsRow.holds Tryd.pinned (OpenSpec.ofChange txnStairsWrong)

/-- 'lagoonlaw04.TxnNumbers': WHATEVER THE INPUT: true; the input reads as it did. -/
def txnNumbersSpec : ChangeSpec := { name := "txnNumbers", fn := fun _ => fun
  | [d1, d2, d3] => { results := [.lit (.bool true)], args := [d1, d2, d3] }
  | _ => none }
def txnNumbersRow : OpenClaim := { program := "ytfjolpjlajjigaadoor", sum := "81acbfb558ec3e9da63f71962ef8027da091afbdec3bf7da5ca10f2b21c0776d", func := "lagoon/lagoonlaw04.TxnNumbers", spec := "txnNumbers", unfollowed := true, recurses := true, named := ["lagoon/txn.names"], apart := false, laid := [("lagoon/txn.names", laid_lagoon_txn_names)] }
def TxnNumbersSaid : Prop := txnNumbersRow.holds Tryd.pinned (OpenSpec.ofChange txnNumbersSpec)

/-- ITS FALSE NEIGHBOUR: 'it returns false'. Refute it at one input. -/
def txnNumbersWrong : ChangeSpec := { name := "txnNumbers", fn := fun _ => fun
  | [d1, d2, d3] => { results := [.lit (.bool false)], args := [d1, d2, d3] }
  | _ => none }
def TxnNumbersWrongFalsely : Prop := txnNumbersRow.holds Tryd.pinned (OpenSpec.ofChange txnNumbersWrong)

/-- 'lagoonlaw04.TxnChecks': WHATEVER THE INPUT: true; the input reads as it did. -/
def txnChecksSpec : ChangeSpec := { name := "txnChecks", fn := fun _ => fun
  | [d] => { results := [.lit (.bool true)], args := [d] }
  | _ => none }
def txnChecksRow : OpenClaim := { program := "ytfjolpjlajjigaadoor", sum := "81acbfb558ec3e9da63f71962ef8027da091afbdec3bf7da5ca10f2b21c0776d", func := "lagoon/lagoonlaw04.TxnChecks", spec := "txnChecks", unfollowed := true, recurses := true, named := ["lagoon/txn.names", "internal/strconv.uint64pow10", "math/bits.deBruijn32tab", "math/bits.deBruijn64tab"], loops := true, apart := false, laid := [("math/bits.deBruijn32tab", laid_math_bits_deBruijn32tab), ("math/bits.deBruijn64tab", laid_math_bits_deBruijn64tab), ("internal/strconv.uint64pow10", laid_internal_strconv_uint64pow10), ("lagoon/txn.names", laid_lagoon_txn_names)] }
def TxnChecksSaid : Prop := txnChecksRow.holds Tryd.pinned (OpenSpec.ofChange txnChecksSpec)

/-- ITS FALSE NEIGHBOUR: 'it returns false'. Refute it at one input. -/
def txnChecksWrong : ChangeSpec := { name := "txnChecks", fn := fun _ => fun
  | [d] => { results := [.lit (.bool false)], args := [d] }
  | _ => none }
def TxnChecksWrongFalsely : Prop := txnChecksRow.holds Tryd.pinned (OpenSpec.ofChange txnChecksWrong)

/-- 'lagoonlaw04.TxnRises': WHATEVER THE INPUT: true; the input reads as it did. -/
def txnRisesSpec : ChangeSpec := { name := "txnRises", fn := fun _ => fun
  | [d1, d2] => { results := [.lit (.bool true)], args := [d1, d2] }
  | _ => none }
def txnRisesRow : OpenClaim := { program := "ytfjolpjlajjigaadoor", sum := "81acbfb558ec3e9da63f71962ef8027da091afbdec3bf7da5ca10f2b21c0776d", func := "lagoon/lagoonlaw04.TxnRises", spec := "txnRises", unfollowed := true, recurses := true, named := ["lagoon/txn.names", "internal/strconv.uint64pow10", "math/bits.deBruijn32tab", "math/bits.deBruijn64tab"], loops := true, apart := false, laid := [("math/bits.deBruijn32tab", laid_math_bits_deBruijn32tab), ("math/bits.deBruijn64tab", laid_math_bits_deBruijn64tab), ("internal/strconv.uint64pow10", laid_internal_strconv_uint64pow10), ("lagoon/txn.names", laid_lagoon_txn_names)] }
def TxnRisesSaid : Prop := txnRisesRow.holds Tryd.pinned (OpenSpec.ofChange txnRisesSpec)

/-- ITS FALSE NEIGHBOUR: 'it returns false'. Refute it at one input. -/
def txnRisesWrong : ChangeSpec := { name := "txnRises", fn := fun _ => fun
  | [d1, d2] => { results := [.lit (.bool false)], args := [d1, d2] }
  | _ => none }
def TxnRisesWrongFalsely : Prop := txnRisesRow.holds Tryd.pinned (OpenSpec.ofChange txnRisesWrong)

/- THE SECOND FORM. 'bulk': how many values and letters a reading holds, each counted each time it is reached (what is shared counts as often as it is met; a slice's spare places count too). A statement '..UptoSaid' is the law's where the arguments, and the package variables that the reading takes, are together of bulk at most 1048576: NARROWER than '..Said'. Prove '..Said' where nothing that the law and all that it calls make is longer than what came in: it says more and counts as full. Else prove '..UptoSaid'. A law counts once. -/
mutual
def uptoBulk {H : Type} : DataW H → Nat
  | .lit (.string bytes) => bytes.length + 1
  | .lit _ => 1
  | .nil => 1
  | .ptr d => uptoBulk d + 1
  | .slice elems spare => uptoBulkAll elems + uptoBulkAll spare + 1
  | .agg parts => uptoBulkAll parts + 1
  | .iface _ d => uptoBulk d + 1
  | .map entries => uptoBulkEntries entries + 1
  | .held _ => 1
def uptoBulkAll {H : Type} : List (DataW H) → Nat
  | [] => 0
  | d :: r => uptoBulk d + uptoBulkAll r
def uptoBulkEntries {H : Type} : List (Lit × DataW H) → Nat
  | [] => 0
  | x :: r => uptoBulkEntry x + uptoBulkEntries r
def uptoBulkEntry {H : Type} : Lit × DataW H → Nat
  | (.string bytes, d) => bytes.length + uptoBulk d + 1
  | (_, d) => uptoBulk d + 1
 end
def uptoSmall : (H : Type) → List (DataW H) → Bool := fun _ ds => decide (uptoBulkAll ds ≤ 1048576)
def OpenSpec.upto (s : _root_.Go.ChangeSpec) : _root_.Go.OpenSpec := { _root_.Go.OpenSpec.ofChange s with cond := some uptoSmall }

/-- 'lagoonlaw04.TxnOne', WHERE WHAT IT READS IS OF BULK AT MOST 1048576: true; the input reads as it did. -/
def txnOneUptoRow : OpenClaim := { program := "ytfjolpjlajjigaadoor", sum := "81acbfb558ec3e9da63f71962ef8027da091afbdec3bf7da5ca10f2b21c0776d", func := "lagoon/lagoonlaw04.TxnOne", spec := "txnOne", unfollowed := true, recurses := true, named := ["lagoon/txn.names"], apart := false, laid := [("lagoon/txn.names", laid_lagoon_txn_names)], narrowed := true }
def TxnOneUptoSaid : Prop := txnOneUptoRow.holds Tryd.pinned (OpenSpec.upto txnOneSpec)

/-- 'lagoonlaw04.TxnBack', WHERE WHAT IT READS IS OF BULK AT MOST 1048576: true; the input reads as it did. -/
def txnBackUptoRow : OpenClaim := { program := "ytfjolpjlajjigaadoor", sum := "81acbfb558ec3e9da63f71962ef8027da091afbdec3bf7da5ca10f2b21c0776d", func := "lagoon/lagoonlaw04.TxnBack", spec := "txnBack", unfollowed := true, recurses := true, named := ["lagoon/txn.names"], loops := true, apart := false, laid := [("lagoon/txn.names", laid_lagoon_txn_names)], narrowed := true }
def TxnBackUptoSaid : Prop := txnBackUptoRow.holds Tryd.pinned (OpenSpec.upto txnBackSpec)

/-- 'lagoonlaw04.TxnPacked', WHERE WHAT IT READS IS OF BULK AT MOST 1048576: true; the input reads as it did. -/
def txnPackedUptoRow : OpenClaim := { program := "ytfjolpjlajjigaadoor", sum := "81acbfb558ec3e9da63f71962ef8027da091afbdec3bf7da5ca10f2b21c0776d", func := "lagoon/lagoonlaw04.TxnPacked", spec := "txnPacked", unfollowed := true, recurses := true, named := ["lagoon/txn.names"], apart := false, laid := [("lagoon/txn.names", laid_lagoon_txn_names)], narrowed := true }
def TxnPackedUptoSaid : Prop := txnPackedUptoRow.holds Tryd.pinned (OpenSpec.upto txnPackedSpec)

/-- 'lagoonlaw04.TxnStairs', WHERE WHAT IT READS IS OF BULK AT MOST 1048576: true; the input reads as it did. -/
def txnStairsUptoRow : OpenClaim := { program := "ytfjolpjlajjigaadoor", sum := "81acbfb558ec3e9da63f71962ef8027da091afbdec3bf7da5ca10f2b21c0776d", func := "lagoon/lagoonlaw04.TxnStairs", spec := "txnStairs", unfollowed := true, recurses := true, named := ["lagoon/txn.names"], loops := true, apart := false, laid := [("lagoon/txn.names", laid_lagoon_txn_names)], narrowed := true }
def TxnStairsUptoSaid : Prop := txnStairsUptoRow.holds Tryd.pinned (OpenSpec.upto txnStairsSpec)

/-- 'lagoonlaw04.TxnNumbers', WHERE WHAT IT READS IS OF BULK AT MOST 1048576: true; the input reads as it did. -/
def txnNumbersUptoRow : OpenClaim := { program := "ytfjolpjlajjigaadoor", sum := "81acbfb558ec3e9da63f71962ef8027da091afbdec3bf7da5ca10f2b21c0776d", func := "lagoon/lagoonlaw04.TxnNumbers", spec := "txnNumbers", unfollowed := true, recurses := true, named := ["lagoon/txn.names"], apart := false, laid := [("lagoon/txn.names", laid_lagoon_txn_names)], narrowed := true }
def TxnNumbersUptoSaid : Prop := txnNumbersUptoRow.holds Tryd.pinned (OpenSpec.upto txnNumbersSpec)

/-- 'lagoonlaw04.TxnChecks', WHERE WHAT IT READS IS OF BULK AT MOST 1048576: true; the input reads as it did. -/
def txnChecksUptoRow : OpenClaim := { program := "ytfjolpjlajjigaadoor", sum := "81acbfb558ec3e9da63f71962ef8027da091afbdec3bf7da5ca10f2b21c0776d", func := "lagoon/lagoonlaw04.TxnChecks", spec := "txnChecks", unfollowed := true, recurses := true, named := ["lagoon/txn.names", "internal/strconv.uint64pow10", "math/bits.deBruijn32tab", "math/bits.deBruijn64tab"], loops := true, apart := false, laid := [("math/bits.deBruijn32tab", laid_math_bits_deBruijn32tab), ("math/bits.deBruijn64tab", laid_math_bits_deBruijn64tab), ("internal/strconv.uint64pow10", laid_internal_strconv_uint64pow10), ("lagoon/txn.names", laid_lagoon_txn_names)], narrowed := true }
def TxnChecksUptoSaid : Prop := txnChecksUptoRow.holds Tryd.pinned (OpenSpec.upto txnChecksSpec)

/-- 'lagoonlaw04.TxnRises', WHERE WHAT IT READS IS OF BULK AT MOST 1048576: true; the input reads as it did. -/
def txnRisesUptoRow : OpenClaim := { program := "ytfjolpjlajjigaadoor", sum := "81acbfb558ec3e9da63f71962ef8027da091afbdec3bf7da5ca10f2b21c0776d", func := "lagoon/lagoonlaw04.TxnRises", spec := "txnRises", unfollowed := true, recurses := true, named := ["lagoon/txn.names", "internal/strconv.uint64pow10", "math/bits.deBruijn32tab", "math/bits.deBruijn64tab"], loops := true, apart := false, laid := [("math/bits.deBruijn32tab", laid_math_bits_deBruijn32tab), ("math/bits.deBruijn64tab", laid_math_bits_deBruijn64tab), ("internal/strconv.uint64pow10", laid_internal_strconv_uint64pow10), ("lagoon/txn.names", laid_lagoon_txn_names)], narrowed := true }
def TxnRisesUptoSaid : Prop := txnRisesUptoRow.holds Tryd.pinned (OpenSpec.upto txnRisesSpec)

end Rows
end Go.Proofs.YtfjolpjlajjigaaDoor

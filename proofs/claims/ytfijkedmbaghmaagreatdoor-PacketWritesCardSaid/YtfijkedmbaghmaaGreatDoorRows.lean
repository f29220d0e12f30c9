/-
  NARROWER THAN 'FOR EVERY INPUT', by the rows' own cells (each row's printed sentence says how): PacketWrites: loops, laid · PacketReads: laid · PacketTurned: loops, laid · PacketEnds: loops, laid.
  DERIVED. THE GIVEN ROWS OF THIS SEAT. 4 by the template 'for every input the law returns true; each argument reads behind the call as it read before'; 0 by the template 'total and deterministic' (their statements: YtfijkedmbaghmaaGreatDoorTotals.lean).
  GIVEN WITH THE SEED: the statements are not yours to turn. If you find one false, say at which input.
  Laid BY PROGRAM, IN A SANDBOX (cutbox-rows.mjs): the forced cells as the released guide's own fill.sh prints them over the translation 7675f4f9dc88ca31… (all of the seat's roots in one cut). By AI agents, Wed Nov 11 2026. No macro, syntax, notation, axiom, sorry.
-/
import Derived.Test.YtfijkedmbaghmaaGreatDoorChecked
import GoSem.Claim
import GoSem.ClaimJoined
import GoSem.ClaimMapViews
import Derived.JoinedTies
import Derived.KernelRfl
namespace Go.Proofs.YtfijkedmbaghmaaGreatDoor
/- THE CELL 'sum', in the pinned program and in every row, IS THE sha256 OF THE DUMP (.gsa) THAT YtfijkedmbaghmaaGreatDoorProg.lean LOADS. Nothing in Lean hashes anything: it is a label: what it is worth is what the hold of that sum in a sandbox is worth. -/
noncomputable def Tryz.pinned : Pinned := { name := "ytfijkedmbaghmaagreatdoor", sum := "7675f4f9dc88ca31370c58b6442c3380b5409044a89796295a74dcdab4436a73", checked := Tryz.checked }
namespace Rows
def none {H : Type} : Left H := { results := [], args := [] }

/- WHAT THE LISTED PACKAGE-LEVEL VARIABLES READ AS WHEN THE CALL BEGINS. Each datum BY PROGRAM (the guide's laid-datum.mjs) off the statement by which the dump's own 'gosem.cut.vars' lays the variable. In a bare row this is a premise. The card (YtfijkedmbaghmaaGreatDoorCards.lean) ties it to the program's text. -/
def laid_math_bits_deBruijn32tab {H : Type} : DataW H := .agg [.lit (.int .u8 0), .lit (.int .u8 1), .lit (.int .u8 28), .lit (.int .u8 2), .lit (.int .u8 29), .lit (.int .u8 14), .lit (.int .u8 24), .lit (.int .u8 3), .lit (.int .u8 30), .lit (.int .u8 22), .lit (.int .u8 20), .lit (.int .u8 15), .lit (.int .u8 25), .lit (.int .u8 17), .lit (.int .u8 4), .lit (.int .u8 8), .lit (.int .u8 31), .lit (.int .u8 27), .lit (.int .u8 13), .lit (.int .u8 23), .lit (.int .u8 21), .lit (.int .u8 19), .lit (.int .u8 16), .lit (.int .u8 7), .lit (.int .u8 26), .lit (.int .u8 12), .lit (.int .u8 18), .lit (.int .u8 6), .lit (.int .u8 11), .lit (.int .u8 5), .lit (.int .u8 10), .lit (.int .u8 9)]
def laid_math_bits_deBruijn64tab {H : Type} : DataW H := .agg [.lit (.int .u8 0), .lit (.int .u8 1), .lit (.int .u8 56), .lit (.int .u8 2), .lit (.int .u8 57), .lit (.int .u8 49), .lit (.int .u8 28), .lit (.int .u8 3), .lit (.int .u8 61), .lit (.int .u8 58), .lit (.int .u8 42), .lit (.int .u8 50), .lit (.int .u8 38), .lit (.int .u8 29), .lit (.int .u8 17), .lit (.int .u8 4), .lit (.int .u8 62), .lit (.int .u8 47), .lit (.int .u8 59), .lit (.int .u8 36), .lit (.int .u8 45), .lit (.int .u8 43), .lit (.int .u8 51), .lit (.int .u8 22), .lit (.int .u8 53), .lit (.int .u8 39), .lit (.int .u8 33), .lit (.int .u8 30), .lit (.int .u8 24), .lit (.int .u8 18), .lit (.int .u8 12), .lit (.int .u8 5), .lit (.int .u8 63), .lit (.int .u8 55), .lit (.int .u8 48), .lit (.int .u8 27), .lit (.int .u8 60), .lit (.int .u8 41), .lit (.int .u8 37), .lit (.int .u8 16), .lit (.int .u8 46), .lit (.int .u8 35), .lit (.int .u8 44), .lit (.int .u8 21), .lit (.int .u8 52), .lit (.int .u8 32), .lit (.int .u8 23), .lit (.int .u8 11), .lit (.int .u8 54), .lit (.int .u8 26), .lit (.int .u8 40), .lit (.int .u8 15), .lit (.int .u8 34), .lit (.int .u8 20), .lit (.int .u8 31), .lit (.int .u8 10), .lit (.int .u8 25), .lit (.int .u8 14), .lit (.int .u8 19), .lit (.int .u8 9), .lit (.int .u8 13), .lit (.int .u8 8), .lit (.int .u8 7), .lit (.int .u8 6)]
def laid_internal_strconv_uint64pow10 {H : Type} : DataW H := .agg [.lit (.int .u64 1), .lit (.int .u64 10), .lit (.int .u64 100), .lit (.int .u64 1000), .lit (.int .u64 10000), .lit (.int .u64 100000), .lit (.int .u64 1000000), .lit (.int .u64 10000000), .lit (.int .u64 100000000), .lit (.int .u64 1000000000), .lit (.int .u64 10000000000), .lit (.int .u64 100000000000), .lit (.int .u64 1000000000000), .lit (.int .u64 10000000000000), .lit (.int .u64 100000000000000), .lit (.int .u64 1000000000000000), .lit (.int .u64 10000000000000000), .lit (.int .u64 100000000000000000), .lit (.int .u64 1000000000000000000), .lit (.int .u64 10000000000000000000)]
def laid_lagoon_txn_names {H : Type} : DataW H := .agg [.lit (.int .u64 0), .lit (.int .u64 183), .lit (.int .u64 169), .lit (.int .u64 171), .lit (.int .u64 173), .lit (.int .u64 169), .lit (.int .u64 416), .lit (.int .u64 64), .lit (.int .u64 32), .lit (.int .u64 161), .lit (.int .u64 161), .lit (.int .u64 161), .lit (.int .u64 161)]
def laid_lagoon_packet_named {H : Type} : DataW H := .agg [.lit (.int .i64 0), .lit (.int .i64 9), .lit (.int .i64 15), .lit (.int .i64 191), .lit (.int .i64 39), .lit (.int .i64 583), .lit (.int .i64 1287), .lit (.int .i64 47), .lit (.int .i64 15), .lit (.int .i64 39), .lit (.int .i64 583), .lit (.int .i64 39), .lit (.int .i64 39), .lit (.int .i64 519), .lit (.int .i64 2055)]

/-- 'lagoonlaw15.PacketWrites': WHATEVER THE INPUT: true; the input reads as it did. -/
def packetWritesSpec : ChangeSpec := { name := "packetWrites", fn := fun _ => fun
  | [d1, d2] => { results := [.lit (.bool true)], args := [d1, d2] }
  | _ => none }
def packetWritesRow : OpenClaim := { program := "ytfijkedmbaghmaagreatdoor", sum := "7675f4f9dc88ca31370c58b6442c3380b5409044a89796295a74dcdab4436a73", func := "lagoon/lagoonlaw15.PacketWrites", spec := "packetWrites", unfollowed := true, recurses := true, named := ["lagoon/packet.named", "lagoon/txn.names", "internal/strconv.uint64pow10", "math/bits.deBruijn32tab", "math/bits.deBruijn64tab"], loops := true, apart := false, laid := [("math/bits.deBruijn32tab", laid_math_bits_deBruijn32tab), ("math/bits.deBruijn64tab", laid_math_bits_deBruijn64tab), ("internal/strconv.uint64pow10", laid_internal_strconv_uint64pow10), ("lagoon/txn.names", laid_lagoon_txn_names), ("lagoon/packet.named", laid_lagoon_packet_named)] }
def PacketWritesSaid : Prop := packetWritesRow.holds Tryz.pinned (OpenSpec.ofChange packetWritesSpec)

/-- ITS FALSE NEIGHBOUR: 'it returns false'. Refute it at one input. -/
def packetWritesWrong : ChangeSpec := { name := "packetWrites", fn := fun _ => fun
  | [d1, d2] => { results := [.lit (.bool false)], args := [d1, d2] }
  | _ => none }
def PacketWritesWrongFalsely : Prop := packetWritesRow.holds Tryz.pinned (OpenSpec.ofChange packetWritesWrong)

/-- 'lagoonlaw15.PacketReads': WHATEVER THE INPUT: true; the input reads as it did. -/
def packetReadsSpec : ChangeSpec := { name := "packetReads", fn := fun _ => fun
  | [d] => { results := [.lit (.bool true)], args := [d] }
  | _ => none }
def packetReadsRow : OpenClaim := { program := "ytfijkedmbaghmaagreatdoor", sum := "7675f4f9dc88ca31370c58b6442c3380b5409044a89796295a74dcdab4436a73", func := "lagoon/lagoonlaw15.PacketReads", spec := "packetReads", unfollowed := true, recurses := true, named := ["lagoon/packet.named", "lagoon/txn.names", "internal/strconv.uint64pow10", "math/bits.deBruijn32tab", "math/bits.deBruijn64tab"], apart := false, laid := [("math/bits.deBruijn32tab", laid_math_bits_deBruijn32tab), ("math/bits.deBruijn64tab", laid_math_bits_deBruijn64tab), ("internal/strconv.uint64pow10", laid_internal_strconv_uint64pow10), ("lagoon/txn.names", laid_lagoon_txn_names), ("lagoon/packet.named", laid_lagoon_packet_named)] }
def PacketReadsSaid : Prop := packetReadsRow.holds Tryz.pinned (OpenSpec.ofChange packetReadsSpec)

/-- ITS FALSE NEIGHBOUR: 'it returns false'. Refute it at one input. -/
def packetReadsWrong : ChangeSpec := { name := "packetReads", fn := fun _ => fun
  | [d] => { results := [.lit (.bool false)], args := [d] }
  | _ => none }
def PacketReadsWrongFalsely : Prop := packetReadsRow.holds Tryz.pinned (OpenSpec.ofChange packetReadsWrong)

/-- 'lagoonlaw15.PacketTurned': WHATEVER THE INPUT: true; the input reads as it did. -/
def packetTurnedSpec : ChangeSpec := { name := "packetTurned", fn := fun _ => fun
  | [d1, d2, d3] => { results := [.lit (.bool true)], args := [d1, d2, d3] }
  | _ => none }
def packetTurnedRow : OpenClaim := { program := "ytfijkedmbaghmaagreatdoor", sum := "7675f4f9dc88ca31370c58b6442c3380b5409044a89796295a74dcdab4436a73", func := "lagoon/lagoonlaw15.PacketTurned", spec := "packetTurned", unfollowed := true, recurses := true, named := ["lagoon/packet.named", "lagoon/txn.names"], loops := true, apart := false, laid := [("lagoon/txn.names", laid_lagoon_txn_names), ("lagoon/packet.named", laid_lagoon_packet_named)] }
def PacketTurnedSaid : Prop := packetTurnedRow.holds Tryz.pinned (OpenSpec.ofChange packetTurnedSpec)

/-- ITS FALSE NEIGHBOUR: 'it returns false'. Refute it at one input. -/
def packetTurnedWrong : ChangeSpec := { name := "packetTurned", fn := fun _ => fun
  | [d1, d2, d3] => { results := [.lit (.bool false)], args := [d1, d2, d3] }
  | _ => none }
def PacketTurnedWrongFalsely : Prop := packetTurnedRow.holds Tryz.pinned (OpenSpec.ofChange packetTurnedWrong)

/-- 'lagoonlaw15.PacketEnds': WHATEVER THE INPUT: true; the input reads as it did. -/
def packetEndsSpec : ChangeSpec := { name := "packetEnds", fn := fun _ => fun
  | [d1, d2, d3] => { results := [.lit (.bool true)], args := [d1, d2, d3] }
  | _ => none }
def packetEndsRow : OpenClaim := { program := "ytfijkedmbaghmaagreatdoor", sum := "7675f4f9dc88ca31370c58b6442c3380b5409044a89796295a74dcdab4436a73", func := "lagoon/lagoonlaw15.PacketEnds", spec := "packetEnds", unfollowed := true, recurses := true, named := ["lagoon/packet.named", "lagoon/txn.names"], loops := true, apart := false, laid := [("lagoon/txn.names", laid_lagoon_txn_names), ("lagoon/packet.named", laid_lagoon_packet_named)] }
def PacketEndsSaid : Prop := packetEndsRow.holds Tryz.pinned (OpenSpec.ofChange packetEndsSpec)

/-- ITS FALSE NEIGHBOUR: 'it returns false'. Refute it at one input. -/
def packetEndsWrong : ChangeSpec := { name := "packetEnds", fn := fun _ => fun
  | [d1, d2, d3] => { results := [.lit (.bool false)], args := [d1, d2, d3] }
  | _ => none }
def PacketEndsWrongFalsely : Prop := packetEndsRow.holds Tryz.pinned (OpenSpec.ofChange packetEndsWrong)

/- THE SECOND FORM. 'bulk': how many values and letters a reading holds, each counted each time it is reached (what is shared counts as often as it is met; a slice's spare places count too). A statement '..UptoSaid' is the law's where the arguments, and the package variables that the reading takes, are together of bulk at most 1048576: NARROWER than '..Said'. Prove '..Said' where nothing that the law and all that it calls make is longer than what came in: it says more and counts as full. Else prove '..UptoSaid'. A law counts once. -/
mutual
def uptoBulk {H : Type} : DataW H → Nat
  | .lit (.string bytes) => bytes.length + 1
  | .lit _ => 1
  | .nil => 1
  | .ptr d => uptoBulk d + 1
  | .slice elems spare => uptoBulkAll elems + uptoBulkAll spare + 1
  | .agg parts => uptoBulkAll parts + 1
  | .iface _ d => uptoBulk d + 1
  | .map entries => uptoBulkEntries entries + 1
  | .held _ => 1
def uptoBulkAll {H : Type} : List (DataW H) → Nat
  | [] => 0
  | d :: r => uptoBulk d + uptoBulkAll r
def uptoBulkEntries {H : Type} : List (Lit × DataW H) → Nat
  | [] => 0
  | x :: r => uptoBulkEntry x + uptoBulkEntries r
def uptoBulkEntry {H : Type} : Lit × DataW H → Nat
  | (.string bytes, d) => bytes.length + uptoBulk d + 1
  | (_, d) => uptoBulk d + 1
 end
def uptoSmall : (H : Type) → List (DataW H) → Bool := fun _ ds => decide (uptoBulkAll ds ≤ 1048576)
def OpenSpec.upto (s : _root_.Go.ChangeSpec) : _root_.Go.OpenSpec := { _root_.Go.OpenSpec.ofChange s with cond := some uptoSmall }

/-- 'lagoonlaw15.PacketWrites', WHERE WHAT IT READS IS OF BULK AT MOST 1048576: true; the input reads as it did. -/
def packetWritesUptoRow : OpenClaim := { program := "ytfijkedmbaghmaagreatdoor", sum := "7675f4f9dc88ca31370c58b6442c3380b5409044a89796295a74dcdab4436a73", func := "lagoon/lagoonlaw15.PacketWrites", spec := "packetWrites", unfollowed := true, recurses := true, named := ["lagoon/packet.named", "lagoon/txn.names", "internal/strconv.uint64pow10", "math/bits.deBruijn32tab", "math/bits.deBruijn64tab"], loops := true, apart := false, laid := [("math/bits.deBruijn32tab", laid_math_bits_deBruijn32tab), ("math/bits.deBruijn64tab", laid_math_bits_deBruijn64tab), ("internal/strconv.uint64pow10", laid_internal_strconv_uint64pow10), ("lagoon/txn.names", laid_lagoon_txn_names), ("lagoon/packet.named", laid_lagoon_packet_named)], narrowed := true }
def PacketWritesUptoSaid : Prop := packetWritesUptoRow.holds Tryz.pinned (OpenSpec.upto packetWritesSpec)

/-- 'lagoonlaw15.PacketReads', WHERE WHAT IT READS IS OF BULK AT MOST 1048576: true; the input reads as it did. -/
def packetReadsUptoRow : OpenClaim := { program := "ytfijkedmbaghmaagreatdoor", sum := "7675f4f9dc88ca31370c58b6442c3380b5409044a89796295a74dcdab4436a73", func := "lagoon/lagoonlaw15.PacketReads", spec := "packetReads", unfollowed := true, recurses := true, named := ["lagoon/packet.named", "lagoon/txn.names", "internal/strconv.uint64pow10", "math/bits.deBruijn32tab", "math/bits.deBruijn64tab"], apart := false, laid := [("math/bits.deBruijn32tab", laid_math_bits_deBruijn32tab), ("math/bits.deBruijn64tab", laid_math_bits_deBruijn64tab), ("internal/strconv.uint64pow10", laid_internal_strconv_uint64pow10), ("lagoon/txn.names", laid_lagoon_txn_names), ("lagoon/packet.named", laid_lagoon_packet_named)], narrowed := true }
def PacketReadsUptoSaid : Prop := packetReadsUptoRow.holds Tryz.pinned (OpenSpec.upto packetReadsSpec)

/-- 'lagoonlaw15.PacketTurned', WHERE WHAT IT READS IS OF BULK AT MOST 1048576: true; the input reads as it did. -/
def packetTurnedUptoRow : OpenClaim := { program := "ytfijkedmbaghmaagreatdoor", sum := "7675f4f9dc88ca31370c58b6442c3380b5409044a89796295a74dcdab4436a73", func := "lagoon/lagoonlaw15.PacketTurned", spec := "packetTurned", unfollowed := true, recurses := true, named := ["lagoon/packet.named", "lagoon/txn.names"], loops := true, apart := false, laid := [("lagoon/txn.names", laid_lagoon_txn_names), ("lagoon/packet.named", laid_lagoon_packet_named)], narrowed := true }
def PacketTurnedUptoSaid : Prop := packetTurnedUptoRow.holds Tryz.pinned (OpenSpec.upto packetTurnedSpec)

/-- 'lagoonlaw15.PacketEnds', WHERE WHAT IT READS IS OF BULK AT MOST 1048576: true; the input reads as it did. -/
def packetEndsUptoRow : OpenClaim := { program := "ytfijkedmbaghmaagreatdoor", sum := "7675f4f9dc88ca31370c58b6442c3380b5409044a89796295a74dcdab4436a73", func := "lagoon/lagoonlaw15.PacketEnds", spec := "packetEnds", unfollowed := true, recurses := true, named := ["lagoon/packet.named", "lagoon/txn.names"], loops := true, apart := false, laid := [("lagoon/txn.names", laid_lagoon_txn_names), ("lagoon/packet.named", laid_lagoon_packet_named)], narrowed := true }
def PacketEndsUptoSaid : Prop := packetEndsUptoRow.holds Tryz.pinned (OpenSpec.upto packetEndsSpec)

end Rows
end Go.Proofs.YtfijkedmbaghmaaGreatDoor

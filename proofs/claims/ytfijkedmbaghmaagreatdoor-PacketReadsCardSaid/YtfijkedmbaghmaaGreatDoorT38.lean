import Derived.Test.YtfijkedmbaghmaaGreatDoorT33
/- TxnChecks: the walk. -/
set_option linter.unusedVariables false
set_option linter.unusedSimpArgs false
namespace Go.Proofs.YtfijkedmbaghmaaGreatDoor
open Go.Sh
section
variable (Z:PZ) {o w:World} {R As:List HProp}
end
end Go.Proofs.YtfijkedmbaghmaaGreatDoor

/- Lists of transactions with marks behind; TxnRises. -/
set_option linter.unusedVariables false
set_option linter.unusedSimpArgs false
namespace Go.Proofs.YtfijkedmbaghmaaGreatDoor
open Go.Sh
section
variable (Z:PZ) {o w:World} {R As:List HProp}
end
end Go.Proofs.YtfijkedmbaghmaaGreatDoor

/- TxnRises: the walk. -/
set_option linter.unusedVariables false
set_option linter.unusedSimpArgs false
namespace Go.Proofs.YtfijkedmbaghmaaGreatDoor
open Go.Sh
section
variable (Z:PZ) {o w:World} {R As:List HProp}
end
end Go.Proofs.YtfijkedmbaghmaaGreatDoor

/- The document's Write. -/
set_option linter.unusedVariables false
set_option linter.unusedSimpArgs false
namespace Go.Proofs.YtfijkedmbaghmaaGreatDoor
open Go.Sh
section
variable (Z:PZ) {o w:World} {R:List HProp} {l k:List UInt8}
end
end Go.Proofs.YtfijkedmbaghmaaGreatDoor

/- The document's Write: a request, a transaction. -/
set_option linter.unusedVariables false
set_option linter.unusedSimpArgs false
namespace Go.Proofs.YtfijkedmbaghmaaGreatDoor
open Go.Sh
inductive Gd:Rq→Prop where
 | mk (q:Rq):(1≤q.f.kd∧q.f.kd≤12)→WfF q.f→q.ops.length * 144≤140737488351232→(∀x ∈ q.ops,Gd x)→opsB q=lsB q.ops.length (q.ops.map (reqI true))→Gd q
theorem Gd.kd {q:Rq} (h:Gd q):1≤q.f.kd∧q.f.kd≤12:=by cases h; assumption
theorem Gd.flat {q:Rq} (h:Gd q):WfF q.f:=by cases h; assumption
theorem Gd.len {q:Rq} (h:Gd q):q.ops.length * 144≤140737488351232:=by cases h; assumption
theorem Gd.all {q:Rq} (h:Gd q):∀x ∈ q.ops,Gd x:=by cases h; assumption
theorem Gd.ops {q:Rq} (h:Gd q):opsB q=lsB q.ops.length (q.ops.map (reqI true)):=by cases h; assumption
section
variable (Z:PZ) {o w:World} {R:List HProp}
end

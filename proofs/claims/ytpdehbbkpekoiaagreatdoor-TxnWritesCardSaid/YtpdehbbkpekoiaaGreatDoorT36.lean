/- TxnChecks: the walk. -/
import Derived.Test.YtpdehbbkpekoiaaGreatDoorT33
set_option linter.unusedVariables false
set_option linter.unusedSimpArgs false
namespace Go.Proofs.YtpdehbbkpekoiaaGreatDoor
open Go.Sh
section
variable (Z : List PanicEntry → World → Prop) {o w : World} {R As : List HProp}
end
end Go.Proofs.YtpdehbbkpekoiaaGreatDoor

/- Lists of transactions with marks behind; TxnRises. -/
set_option linter.unusedVariables false
set_option linter.unusedSimpArgs false
namespace Go.Proofs.YtpdehbbkpekoiaaGreatDoor
open Go.Sh
def txM (i : Nat) : Tx := ⟨0, 0, 0, 0, -3000000 - (i : Int), .mk zf (.slice none 0 0) (.slice none 0 0) (.slice none 0 0) (.slice none 0 0) []⟩
def txK (t : Tx) : Hd × Qt := (t.hd, t.q.st)
def wdT (t : Tx) : HProp := WdQ t.q
theorem txK_hd {a b : List Tx} (h : a.map txK = b.map txK) : a.map Tx.hd = b.map Tx.hd := by
  have e : ∀ l : List Tx, l.map Tx.hd = (l.map txK).map Prod.fst := fun l => by rw [List.map_map]; rfl
  rw [e, e, h]
theorem txK_wf {a b : List Tx} (h : a.map txK = b.map txK) (hb : ∀ x ∈ b, WfQ x.q) : ∀ x ∈ a, WfQ x.q := by
  intro x hx
  have h1 : txK x ∈ b.map txK := by rw [← h]; exact List.mem_map_of_mem hx
  obtain ⟨y, hy, e⟩ := List.mem_map.1 h1
  exact WfQ_st _ _ (congrArg Prod.snd e) (hb y hy)
theorem wdTs_rd {o w : World} {R : List HProp} {g : Nat} {l : List Tx} (hl : l.length ≤ maxLen) (hwf : ∀ x ∈ l, WfQ x.q) (h : St o w (blk g 35 ((wide txM l).map Tx.cells).flatten :: satH (l.map wdT) :: R)) : RdT w (wv g l.length) l := by
  refine ⟨wide_rd Tx.cells_len hl h, fun t ht => ?_⟩
  obtain ⟨As, Bs, e⟩ := List.append_of_mem ht
  have h3 := h.swap
  rw [e, List.map_append, List.map_cons] at h3
  exact WdQ.rd _ (hwf t ht) h3.all_out
section
variable (Z : List PanicEntry → World → Prop) {o w : World} {R As : List HProp}
theorem cmpZ_ne {e n e' n' : Int} (hn : u32r n) (hn' : u32r n') : (cmpZ e n e' n' != -1) = !decide (ls e n e' n') := by
  rw [← ls_cmp hn hn']
  have h := (cmpZ_pack (e := e) (e' := e') hn hn').2.2.2
  by_cases h1 : cmpZ e n e' n' < 0
  · have : cmpZ e n e' n' = -1 := by omega
    rw [this]; rfl
  · rw [decide_eq_false h1]
    simp only [Bool.not_false, bne_iff_ne]
    omega
end
end Go.Proofs.YtpdehbbkpekoiaaGreatDoor

/- TxnRises: the walk. -/
set_option linter.unusedVariables false
set_option linter.unusedSimpArgs false
namespace Go.Proofs.YtpdehbbkpekoiaaGreatDoor
open Go.Sh
section
variable (Z : List PanicEntry → World → Prop) {o w : World} {R As : List HProp}
end
end Go.Proofs.YtpdehbbkpekoiaaGreatDoor

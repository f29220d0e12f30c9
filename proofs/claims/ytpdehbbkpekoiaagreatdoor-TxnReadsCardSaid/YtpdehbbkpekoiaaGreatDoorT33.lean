/- Lists with marks behind them: bytes, ids, entries. -/
import Derived.Test.YtpdehbbkpekoiaaGreatDoorT30
import Derived.Test.YtpdehbbkpekoiaaGreatDoorW1
set_option linter.unusedVariables false
set_option linter.unusedSimpArgs false
namespace Go.Proofs.YtpdehbbkpekoiaaGreatDoor
open Go.Sh
def mk (i : Nat) : List UInt8 := 33 :: Lib.itoa (-3000000 - (i : Int))
def idM (i : Nat) : Idd := ⟨[], mk i⟩
def enM (i : Nat) : En := ⟨0, [], mk i⟩
def wide {α : Type} (M : Nat → α) (l : List α) : List α := l ++ (List.range 64).map fun j => M (l.length + j)
section
variable (Z : List PanicEntry → World → Prop) {o w : World} {R As : List HProp}
end
end Go.Proofs.YtpdehbbkpekoiaaGreatDoor

/- Requests with marks behind each list. -/
set_option linter.unusedVariables false
set_option linter.unusedSimpArgs false
namespace Go.Proofs.YtpdehbbkpekoiaaGreatDoor
open Go.Sh
def rqM (i : Nat) : Rq := .mk ⟨0, [], [], [], 0, false, false, -3000000 - (i : Int), 0, []⟩ (.slice none 0 0) (.slice none 0 0) (.slice none 0 0) (.slice none 0 0) []
def wv (g n : Nat) : Value := .slice (some ⟨g, 0, none⟩) n (n + 64)
def WdF (f : Fl) (vd va vw : Value) : HProp := fun h => ∃ g1 g2 g3 : Nat, (vd = wv g1 f.data.length ∧ va = wv g2 f.acl.length ∧ vw = wv g3 f.who.length) ∧ sep (blk g1 5 (cb (f.data ++ marks f.data.length))) (sep (blk g2 122 ((wide enM f.acl).map enC).flatten) (blk g3 120 ((wide idM f.who).map idC).flatten)) h
mutual
def WdQ : Rq → HProp
  | .mk f vd va vw vo l => sep (WdF f vd va vw) (sep (fun h => ∃ g : Nat, vo = wv g l.length ∧ blk g 33 ((wide rqM l).map Rq.cells).flatten h) (WdS l))
def WdS : List Rq → HProp
  | [] => fun _ => True
  | x :: l => sep (WdQ x) (WdS l)
end
theorem WdS_sat (l : List Rq) : WdS l = satH (l.map WdQ) := by
  induction l with
  | nil => rfl
  | cons x l ih =>
    rw [WdS, ih]
    rfl
theorem WdQ_eq (q : Rq) : WdQ q = sep (WdF q.f q.vd q.va q.vw) (sep (fun h => ∃ g : Nat, q.vo = wv g q.ops.length ∧ blk g 33 ((wide rqM q.ops).map Rq.cells).flatten h) (satH (q.ops.map WdQ))) := by
  cases q with
  | mk f a b c d l => rw [WdQ, WdS_sat]; rfl
theorem wide_rd {α : Type} {o w : World} {R : List HProp} {M : Nat → α} {C : α → List Value} {sz : Nat} {e g : Nat} {l : List α} (hC : ∀ x, (C x).length = sz) (hl : l.length ≤ maxLen) (h : St o w (blk g e ((wide M l).map C).flatten :: R)) : Rd w sz (wv g l.length) l.length (l.map C).flatten :=
  h.rd_blk m0 _ (len_flatten_of (sz := sz) (fun d hd => by obtain ⟨y, _, rfl⟩ := List.mem_map.1 hd; exact hC y) |>.trans (by rw [List.length_map])) hl fun j v hv => by
    rw [Nat.zero_add]
    unfold wide
    rw [List.map_append, List.flatten_append, List.getElem?_append_left (List.getElem?_eq_some_iff.1 hv).1]
    exact hv
theorem WdF.open {o w : World} {R : List HProp} {f : Fl} {vd va vw : Value} (h : St o w (WdF f vd va vw :: R)) : ∃ g1 g2 g3 : Nat, (vd = wv g1 f.data.length ∧ va = wv g2 f.acl.length ∧ vw = wv g3 f.who.length) ∧
    St o w (blk g1 5 (cb (f.data ++ marks f.data.length)) :: blk g2 122 ((wide enM f.acl).map enC).flatten :: blk g3 120 ((wide idM f.who).map idC).flatten :: R) := by
  obtain ⟨g1, h⟩ := h.ex
  obtain ⟨g2, h⟩ := h.ex
  obtain ⟨g3, h⟩ := h.ex
  obtain ⟨hp, h⟩ := h.pure
  have a := h.sep
  have b := a.swap.sep
  exact ⟨g1, g2, g3, hp, b.pick 2⟩
theorem WdF.shut {o w : World} {R : List HProp} {f : Fl} {g1 g2 g3 : Nat} (h : St o w (blk g1 5 (cb (f.data ++ marks f.data.length)) :: blk g2 122 ((wide enM f.acl).map enC).flatten :: blk g3 120 ((wide idM f.who).map idC).flatten :: R)) : St o w (WdF f (wv g1 f.data.length) (wv g2 f.acl.length) (wv g3 f.who.length) :: R) := by
  have a := ((h.pick 1).pick 2).swap
  have b : St o w (blk g2 122 ((wide enM f.acl).map enC).flatten :: blk g3 120 ((wide idM f.who).map idC).flatten :: blk g1 5 (cb (f.data ++ marks f.data.length)) :: R) := a
  have c := b.sep_intro.swap.sep_intro
  exact (((c.pure_intro ⟨rfl, rfl, rfl⟩).ex_intro g3).ex_intro g2).ex_intro g1
theorem WfF.lens {f : Fl} (h : WfF f) : f.data.length ≤ maxLen ∧ f.acl.length ≤ maxLen ∧ f.who.length ≤ maxLen := by
  have h1 := h.data
  have h2 := h.acl.1
  have h3 := h.who.1
  simp only [maxLen]
  exact ⟨by omega, by omega, by omega⟩
theorem WdF.rd {o w : World} {R : List HProp} {f : Fl} {vd va vw : Value} (hw : WfF f) (h : St o w (WdF f vd va vw :: R)) : RdF w f vd va vw := by
  obtain ⟨g1, g2, g3, ⟨rfl, rfl, rfl⟩, k⟩ := WdF.open h
  obtain ⟨l1, l2, l3⟩ := hw.lens
  refine ⟨?_, wide_rd (fun x => rfl) l2 k.drop, wide_rd (fun x => rfl) l3 k.drop.drop⟩
  refine k.rd_blk m0 _ (by rw [cb_length, Nat.mul_one]) l1 fun j v hv => ?_
  rw [Nat.zero_add, cb_append, List.getElem?_append_left (List.getElem?_eq_some_iff.1 hv).1]
  exact hv
theorem WdQ.rd (q : Rq) : ∀ {o w : World} {R : List HProp}, WfQ q → St o w (WdQ q :: R) → RdQ w q := by
  induction q using Rq.ind with | h q ih => ?_
  intro o w R hw h
  rw [WdQ_eq] at h
  have h1 := h.sep
  have h2 := h1.swap.sep
  obtain ⟨g, h3⟩ := h2.ex
  obtain ⟨hg, h3⟩ := h3.pure
  have hl : q.ops.length ≤ maxLen := by have := hw.len; simp only [maxLen]; omega
  refine .mk q (WdF.rd hw.flat h1) (by rw [hg]; exact wide_rd Rq.cells_len hl h3) fun x hx => ?_
  obtain ⟨As, Bs, e⟩ := List.append_of_mem hx
  have h4 := h2.swap
  rw [e, List.map_append, List.map_cons] at h4
  exact ih x hx (hw.all x hx) h4.all_out
section
variable (Z : List PanicEntry → World → Prop) {o w : World} {R As : List HProp}
end
end Go.Proofs.YtpdehbbkpekoiaaGreatDoor

/- WideRequest, WideTxn; SpareRequest. -/
set_option linter.unusedVariables false
set_option linter.unusedSimpArgs false
namespace Go.Proofs.YtpdehbbkpekoiaaGreatDoor
open Go.Sh
section
variable (Z : List PanicEntry → World → Prop) {o w : World} {R As : List HProp}
end
end Go.Proofs.YtpdehbbkpekoiaaGreatDoor


/- strconv.Itoa, the marks behind strings, WideTexts. -/
import Derived.Test.YtcbbaiglcgemmaaGreatDoorP1
import Derived.Test.YtcbbaiglcgemmaaGreatDoorShelf
import Derived.Lib.AppendIntMem
import Derived.Lib.ItoaLen
import Derived.Lib.QuietBelow
import Derived.Laws.Concat
set_option linter.unusedVariables false
set_option linter.unusedSimpArgs false
namespace Go.Proofs.YtcbbaiglcgemmaaGreatDoor
open Go.Sh
theorem St.grow {o w w' : World} {R : List HProp} (h : St o w R) (hb : RowKit.Below w.heap.size w w') : St o w' R := by
  refine ⟨hb.os.trans h.os, hb.tape.trans h.tape, hb.output.trans h.output, Nat.le_trans h.size hb.size, ?_⟩
  have e : hp w = (hp w').on fun b => b < w.heap.size := by
    funext b
    by_cases hlt : b < w.heap.size
    · rw [Hp.on_yes (S := fun b => b < w.heap.size) _ hlt]
      exact (hb.block b hlt).symm
    · rw [Hp.on_no (S := fun b => b < w.heap.size) _ hlt]
      exact Array.getElem?_eq_none (by omega)
  have hs := h.sat
  rw [e] at hs
  exact satH_of_on R _ _ hs
theorem below_grows (w : World) (k : Nat) (os : Array Obj) : RowKit.Below w.heap.size w (Go.Sort.grow (w.drewN k) os) := ⟨rfl, rfl, rfl, by
    show w.heap.size ≤ (w.heap ++ os).size
    rw [Array.size_append]; omega, fun j hj => by
    show (w.heap ++ os)[j]? = w.heap[j]?
    rw [Array.getElem?_append_left hj]⟩
def Tab (o : World) : Prop := Lib.TabIs Tryz.prog o "internal/strconv.uint64pow10" .u64 Lib.pow10Tab
section
variable (Z : List PanicEntry → World → Prop) {o w : World} {R As : List HProp}
theorem itoa (hT : Tab o) (ho : old o ∈ R) (n : Int) (h0 : -9223372036854775808 ≤ n) (h1 : n ≤ 9223372036854775807) (h : St o w R) : CallV Tryz.prog Z 92 #[.int .i64 n] w fun r w' => r = .string (str (Lib.itoa n)) ∧ St o w' R :=
  ⟨(Tryz.strconv_Itoa n h0 h1 w (Lib.tabBelow_of_tabIs hT w (h.below ho))).mono fun e w' ⟨he, k, os, hw⟩ => by
    subst he
    refine ⟨rfl, St.grow h ?_⟩
    rw [hw]
    exact below_grows w k os⟩
theorem mark (hT : Tab o) (ho : old o ∈ R) (n : Int) (h0 : -9223372036854775808 ≤ n) (h1 : n ≤ 9223372036854775807) (h : St o w R) : CallV Tryz.prog Z 70 #[.int .i64 n] w fun r w' => r = .string (str (33 :: Lib.itoa n)) ∧ St o w' R := by
  refine f70.calls ?_
  unfold f70.sh
  refine (itoa Z hT ho n h0 h1 h).mono fun r w1 ⟨hr, hS⟩ => ?_
  subst hr
  have hl := Lib.itoa_length_le n h0 h1
  have e : (Op.stringOp .add ⟨#[33]⟩ (str (Lib.itoa n))).run Tryz.prog w1 = .ok (.string (str (33 :: Lib.itoa n))) w1 :=
    run_string_add_lists w1 [33] (Lib.itoa n) (by simp) (by omega)
  exact r1 (v := .string (str (33 :: Lib.itoa n))) e ⟨rfl, hS⟩
end
end Go.Proofs.YtcbbaiglcgemmaaGreatDoor

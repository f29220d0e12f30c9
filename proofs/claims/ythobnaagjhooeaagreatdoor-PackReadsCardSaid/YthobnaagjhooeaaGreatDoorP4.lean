/- The document's bytes of numbers. -/
import Derived.Test.YthobnaagjhooeaaGreatDoorP2
set_option linter.unusedVariables false
set_option linter.unusedSimpArgs false
namespace Go.Proofs.YthobnaagjhooeaaGreatDoor
open Go.Sh
theorem u8_some (v : Int) : ∃ b : UInt8, IntKind.u8.wrap v = (b.toNat : Int) := ⟨UInt8.ofNat (v % 256).toNat, by rw [byte_toNat, wrap_u8]⟩
theorem cb_set (l : List UInt8) (i : Nat) (b : UInt8) : (cb l).set i (.int .u8 b.toNat) = cb (l.set i b) := by simp [cb, List.map_set]
theorem blk_rd {o w : World} {As : List HProp} {g n c : Nat} {l k : List UInt8} (hS : St o w As) (hm : blk g 5 (cb (l ++ k)) ∈ As) (hn : n = l.length) (hl : l.length ≤ 140737488355328) : Rd w 1 (.slice (some ⟨g, 0, none⟩) n c) n (cb l) := by
  subst hn
  refine ⟨by simp [cb], by simp only [maxLen]; omega, .inr ⟨_, c, rfl, fun j u hu => ?_⟩⟩
  rw [add_addr, Nat.zero_add, cell_of_blk (hS.mem_blk hm), cb_append, List.getElem?_append_left (List.getElem?_eq_some_iff.1 hu).1]
  exact hu
theorem i32_range (x : Int) : -2147483648 ≤ IntKind.i32.wrap x ∧ IntKind.i32.wrap x ≤ 2147483647 := by
  simp only [IntKind.wrap, IntKind.bits, IntKind.signed]
  simp
  split <;> omega
section
variable (Z : List PanicEntry → World → Prop) {o w : World} {R : List HProp} {g : Nat} {l k : List UInt8}
end
end Go.Proofs.YthobnaagjhooeaaGreatDoor

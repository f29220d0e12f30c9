/- within: a request's flat fields. -/
import Derived.Test.YtfjolpjlajjigaaDoorT4
set_option linter.unusedVariables false
set_option linter.unusedSimpArgs false
namespace Go.Proofs.YtfjolpjlajjigaaDoor
open Go.Sh
theorem bit_int (n i : Nat) (hn : n < 512) (hi : i ≤ 8) (b : Int) (hb : b = ((2 ^ i : Nat) : Int)) : (IntKind.u64.wrap ((BitVec.ofInt IntKind.u64.bits (n : Int) &&& BitVec.ofInt IntKind.u64.bits b).toNat : Int) != 0) = n.testBit i := by
  subst hb
  have h2 : 2 ^ i ≤ 256 := by
    have : 2 ^ i ≤ 2 ^ 8 := Nat.pow_le_pow_right (by omega) hi
    omega
  have e : (BitVec.ofInt IntKind.u64.bits (n : Int) &&& BitVec.ofInt IntKind.u64.bits ((2 ^ i : Nat) : Int)).toNat = n &&& 2 ^ i := by
    rw [BitVec.ofInt_natCast, BitVec.ofInt_natCast, BitVec.toNat_and, BitVec.toNat_ofNat, BitVec.toNat_ofNat]
    have e1 : n % 2 ^ IntKind.u64.bits = n := Nat.mod_eq_of_lt (show n < 2 ^ 64 by omega)
    have e2 : 2 ^ i % 2 ^ IntKind.u64.bits = 2 ^ i := Nat.mod_eq_of_lt (show 2 ^ i < 2 ^ 64 by omega)
    rw [e1, e2]
  have key : ∀ n < 512, ∀ i < 9, ((n &&& 2 ^ i) != 0) = n.testBit i := by decide +kernel
  have hle : n &&& 2 ^ i ≤ n := Nat.and_le_left
  rw [e, wr_u64 (by omega) (by omega), ← key n hn i (by omega)]
  generalize n &&& 2 ^ i = x
  by_cases hx : x = 0
  · subst hx; rfl
  · have h1 : ((x : Int) != 0) = true := by simp; omega
    have h2 : (x != 0) = true := by simpa using hx
    rw [h1, h2]
theorem nm_lt (k : Nat) : nm k < 512 := by
  by_cases hk : k ≤ 12
  · obtain rfl | rfl | rfl | rfl | rfl | rfl | rfl | rfl | rfl | rfl | rfl | rfl | rfl : k = 0 ∨ k = 1 ∨ k = 2 ∨ k = 3 ∨ k = 4 ∨ k = 5 ∨ k = 6 ∨ k = 7 ∨ k = 8 ∨ k = 9 ∨ k = 10 ∨ k = 11 ∨ k = 12 := by omega
    all_goals decide
  · have : namesTab.getD k 0 = 0 := by rw [List.getD_eq_getElem?_getD, List.getElem?_eq_none (by simp [namesTab]; omega)]; rfl
    rw [nm, this]; decide
section
variable (Z : List PanicEntry → World → Prop) {o w : World} {R As : List HProp}
/-- has, a closure over what a kind names. -/
theorem hasBit {g : Nat} {kk : Value → World → Prop} (n i : Nat) (hn : n < 512) (hi : i ≤ 8) (b : Int) (hb : b = ((2 ^ i : Nat) : Int)) (hS : St o w As) (hm : blk g 85 [.int .u64 n] ∈ As) (hk : kk (.bool (n.testBit i)) w) :
    runX Tryd.prog Z (callVal (.func (.func 104) #[] #[.pointer (some ⟨g, 0, none⟩)]) #[.int .u64 b]) w kk := by
  refine r_callVal en104 (l1 := []) (l2 := [.int .u64 b]) (l3 := [.pointer (some ⟨g, 0, none⟩)]) rfl rfl rfl ?_
  refine f104.calls ?_
  unfold f104.sh
  refine r_load one85 (hS.at hm 0 rfl) ?_
  (try simp only [o_and, o_neq])
  rw [bit_int n i hn hi b hb]
  exact hk
end
end Go.Proofs.YtfjolpjlajjigaaDoor

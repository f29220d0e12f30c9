
/- The document's bytes of numbers. -/
import Derived.Test.YtbdfhfceffkhgaaGreatDoorP2
set_option linter.unusedVariables false
set_option linter.unusedSimpArgs false
namespace Go.Proofs.YtbdfhfceffkhgaaGreatDoor
open Go.Sh
theorem u8_wrap (v:Int):IntKind.u8.wrap v=((UInt8.ofNat (v % 256).toNat).toNat:Int):=by rw [byte_toNat,wrap_u8]
theorem i32_range (x:Int) : -2147483648≤IntKind.i32.wrap x∧IntKind.i32.wrap x≤2147483647:=by
 simp only [IntKind.wrap,IntKind.bits,IntKind.signed]
 simp
 split <;> omega
theorem enc_mod (n:Nat) (v:Int):enc n (v % 256 ^ n)=enc n v:=by
 suffices h:∀m,n≤m→enc n (v % 256 ^ m)=enc n v from h n (Nat.le_refl _)
 intro m hm
 induction n with
 | zero=>rfl
 | succ n ih=>
  simp only [enc]
  rw [ih (by omega)]
  congr 3
  obtain ⟨k,rfl⟩:∃k,m=n+(k+1):=⟨m - n - 1,by omega⟩
  have hp:(0:Int) < 256 ^ n:=Int.pow_pos (by omega)
  rw [Int.pow_add,Int.emod_def v (256 ^ n * 256 ^ (k+1)),Int.mul_assoc,Int.sub_eq_add_neg,← Int.mul_neg,Int.add_mul_ediv_left _ _ (by omega),Int.pow_succ]
  have e2 : -(256 ^ k * 256 * (v / (256 ^ n * (256 ^ k * 256))))=256 * (-(256 ^ k * (v / (256 ^ n * (256 ^ k * 256))))):=by
   rw [Int.mul_comm (256 ^ k) 256,Int.mul_assoc,Int.mul_neg]
  rw [e2]
  omega
section
variable (Z:PZ) {o w:World} {R:List HProp} {g:Nat} {l k:List UInt8}
end

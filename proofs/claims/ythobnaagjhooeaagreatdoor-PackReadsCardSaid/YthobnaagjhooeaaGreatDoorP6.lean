/- Readers: what each call answers of bytes, told as what a Writer would have put there. -/
import Derived.Test.YthobnaagjhooeaaGreatDoorP3
import Derived.Test.YthobnaagjhooeaaGreatDoorP5
set_option linter.unusedVariables false
set_option linter.unusedSimpArgs false
namespace Go.Proofs.YthobnaagjhooeaaGreatDoor
open Go.Sh
def Has (all : List UInt8) (off : Nat) (bs : List UInt8) : Prop := ∃ rest, all.drop off = bs ++ rest
theorem Has.le {all bs : List UInt8} {off : Nat} (h : Has all off bs) (ho : off ≤ all.length) : off + bs.length ≤ all.length := by
  obtain ⟨rest, h⟩ := h
  have := congrArg List.length h
  rw [List.length_drop, List.length_append] at this
  omega
theorem Has.take {all bs : List UInt8} {off : Nat} (h : Has all off bs) : (all.drop off).take bs.length = bs := by
  obtain ⟨rest, h⟩ := h
  rw [h, List.take_left]
theorem Has.split {all a b : List UInt8} {off : Nat} : Has all off (a ++ b) ↔ Has all off a ∧ Has all (off + a.length) b := by
  constructor
  · rintro ⟨rest, h⟩
    refine ⟨⟨b ++ rest, by rw [h, List.append_assoc]⟩, ⟨rest, ?_⟩⟩
    rw [← List.drop_drop, h, List.append_assoc, List.drop_left]
  · rintro ⟨⟨r, h⟩, ⟨rest, h2⟩⟩
    refine ⟨rest, ?_⟩
    rw [← List.drop_drop, h, List.drop_left] at h2
    rw [h, h2, List.append_assoc]
theorem wrap_i64 (v : Int) : IntKind.i64.wrap v = if v % 18446744073709551616 < 9223372036854775808 then v % 18446744073709551616 else v % 18446744073709551616 - 18446744073709551616 := by
  simp [IntKind.wrap, IntKind.bits, IntKind.signed]
  split <;> split <;> omega
theorem wrap_i32 (v : Int) : IntKind.i32.wrap v = if v % 4294967296 < 2147483648 then v % 4294967296 else v % 4294967296 - 4294967296 := by
  simp [IntKind.wrap, IntKind.bits, IntKind.signed]
  split <;> split <;> omega
theorem wrap_i8 (v : Int) : IntKind.i8.wrap v = if v % 256 < 128 then v % 256 else v % 256 - 256 := by
  simp [IntKind.wrap, IntKind.bits, IntKind.signed]
  split <;> split <;> omega
theorem wrap_u32 (v : Int) : IntKind.u32.wrap v = v % 4294967296 := by simp [IntKind.wrap, IntKind.bits, IntKind.signed]
structure Codec (n : Nat) (k : IntKind) (lo hi : Int) : Prop where
  range : ∀ x : Int, lo ≤ k.wrap x ∧ k.wrap x ≤ hi
  mod : ∀ x : Int, k.wrap x % 256 ^ n = x % 256 ^ n
  one : ∀ x : Int, lo ≤ x → x ≤ hi → k.wrap (x % 256 ^ n) = x
theorem codec_i8 : Codec 1 .i8 (-128) 127 := ⟨fun x => by rw [wrap_i8]; split <;> omega, fun x => by rw [wrap_i8]; split <;> omega, fun x h1 h2 => by rw [wrap_i8]; split <;> omega⟩
theorem codec_i32 : Codec 4 .i32 (-2147483648) 2147483647 := ⟨fun x => by rw [wrap_i32]; split <;> omega, fun x => by rw [wrap_i32]; split <;> omega, fun x h1 h2 => by rw [wrap_i32]; split <;> omega⟩
theorem codec_u32 : Codec 4 .u32 0 4294967295 := ⟨fun x => by rw [wrap_u32]; omega, fun x => by rw [wrap_u32]; omega, fun x h1 h2 => by rw [wrap_u32]; omega⟩
section
variable (Z : List PanicEntry → World → Prop) {o w : World} {R : List HProp} {g : Nat} {B : Option Nat} {all l : List UInt8} {off : Nat} {err : Int}
end
end Go.Proofs.YthobnaagjhooeaaGreatDoor

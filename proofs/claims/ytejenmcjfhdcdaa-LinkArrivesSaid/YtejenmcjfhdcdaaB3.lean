/- LinkNil: a nil net, a plain one. -/
import Derived.Test.YtejenmcjfhdcdaaB1
set_option linter.unusedVariables false
set_option linter.unusedSimpArgs false
namespace Go.Proofs.Ytejenmcjfhdcdaa
open Go.Sh
structure Lop where
  kd : Int
  on : Int
  fr : Int
  to_ : Int
  b : List UInt8
  pl : Int
  at_ : Int
  xr : Int
def i64r (n : Int) : Prop := -9223372036854775808 ≤ n ∧ n ≤ 9223372036854775807
def lcells (p : Lop) (v : Value) : List Value := [.int .i64 p.kd, .int .i64 p.on, .int .i8 p.fr, .int .i8 p.to_, v, .int .i64 p.pl, .int .i64 p.at_, .int .u8 p.xr]
def LopV (w : World) (p : Lop) (c : List Value) : Prop := ∃ v, c = lcells p v ∧ Rd w 1 v p.b.length (cb p.b) ∧ p.b.length ≤ 140737488351232 ∧ i64r p.kd ∧ i64r p.on ∧ (-128 ≤ p.fr ∧ p.fr ≤ 127) ∧ (-128 ≤ p.to_ ∧ p.to_ ≤ 127) ∧ i64r p.pl ∧ i64r p.at_ ∧ (0 ≤ p.xr ∧ p.xr ≤ 255)
def LopO (w : World) (c : List Value) : Prop := ∃ p, LopV w p c
theorem opn_LopO (w : World) : Opn Try.prog w 43 (LopO w) :=
  (opn_struct Try.underlying43 [(1, _), (1, _), (1, _), (1, _), (1, _), (1, _), (1, _), (1, _)] (by kernel_rfl) (by kernel_rfl)
    ⟨by kernel_rfl, opn_int Try.underlying3, by kernel_rfl, opn_int Try.underlying3, by kernel_rfl, opn_int Try.underlying31, by kernel_rfl, opn_int Try.underlying31, by kernel_rfl, opn_BytesO w, by kernel_rfl, opn_int Try.underlying3, by kernel_rfl, opn_int Try.underlying3, by kernel_rfl, opn_int Try.underlying5, trivial⟩).mono fun cs h => by
    obtain ⟨_, _, rfl, _, ⟨n1, rfl, a1, b1⟩, _, _, rfl, _, ⟨n2, rfl, a2, b2⟩, _, _, rfl, _, ⟨n3, rfl, a3, b3⟩, _, _, rfl, _, ⟨n4, rfl, a4, b4⟩, _, _, rfl, _, ⟨v, rfl, l, hlr, hl⟩, _, _, rfl, _, ⟨n5, rfl, a5, b5⟩, _, _, rfl, _, ⟨n6, rfl, a6, b6⟩, _, _, rfl, _, ⟨n7, rfl, a7, b7⟩, rfl⟩ := h
    simp only [IntKind.min, IntKind.max, IntKind.signed, IntKind.bits] at a1 b1 a2 b2 a3 b3 a4 b4 a5 b5 a6 b6 a7 b7
    simp at a1 b1 a2 b2 a3 b3 a4 b4 a5 b5 a6 b6 a7 b7
    exact ⟨⟨n1, n2, n3, n4, l, n5, n6, n7⟩, v, rfl, hl, hlr, ⟨a1, b1⟩, ⟨a2, b2⟩, ⟨a3, b3⟩, ⟨a4, b4⟩, ⟨a5, b5⟩, ⟨a6, b6⟩, ⟨a7, b7⟩⟩
end Go.Proofs.Ytejenmcjfhdcdaa

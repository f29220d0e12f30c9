/- A script of calls of Writers and Readers, as it comes in; its length. -/
import Derived.Test.YthobnaagjhooeaaGreatDoorA4
import Derived.Test.YthobnaagjhooeaaGreatDoorP5
set_option linter.unusedVariables false
set_option linter.unusedSimpArgs false
namespace Go.Proofs.YthobnaagjhooeaaGreatDoor
open Go.Sh
structure Pop where
  kd : Int
  on : Int
  n : Int
  f : Nat
  s : List UInt8
  b : List UInt8
def i64r (n : Int) : Prop := -9223372036854775808 ≤ n ∧ n ≤ 9223372036854775807
def pcells (p : Pop) (v : Value) : List Value := [.int .i64 p.kd, .int .i64 p.on, .int .i64 p.n, .float .f64 p.f, .string (str p.s), v]
structure Pop.ok (p : Pop) : Prop where
  kd : i64r p.kd
  n : i64r p.n
  f : p.f < 18446744073709551616
  s : p.s.length ≤ 140737488351232
  b : p.b.length ≤ 140737488351232
def PopV (w : World) (p : Pop) (c : List Value) : Prop := ∃ v, c = pcells p v ∧ Rd w 1 v p.b.length (cb p.b) ∧ p.ok
def PopO (w : World) (c : List Value) : Prop := ∃ p, PopV w p c
theorem wf_lt {b : Nat} (h : (Lit.float .f64 b).wf = true) : b < 18446744073709551616 := by
  simpa [Lit.wf] using h
theorem opn_PopO (w : World) : Opn Tryz.prog w 46 (PopO w) :=
  (opn_struct Tryz.underlying46 [(1, _), (1, _), (1, _), (1, _), (1, _), (1, _)] (by kernel_rfl) (by kernel_rfl)
    ⟨by kernel_rfl, opn_int Tryz.underlying3, by kernel_rfl, opn_int Tryz.underlying3, by kernel_rfl, opn_int Tryz.underlying2, by kernel_rfl, opn_float Tryz.underlying44, by kernel_rfl, opn_string Tryz.underlying9, by kernel_rfl, opn_BytesO w, trivial⟩).mono fun cs h => by
    obtain ⟨_, _, rfl, _, ⟨n1, rfl, a1, b1⟩, _, _, rfl, _, ⟨n2, rfl, a2, b2⟩, _, _, rfl, _, ⟨n3, rfl, a3, b3⟩, _, _, rfl, _, ⟨f, rfl, hf⟩, _, _, rfl, _, ⟨s, rfl, hs⟩, _, _, rfl, _, ⟨v, rfl, l, hlr, hl⟩, rfl⟩ := h
    simp only [IntKind.min, IntKind.max, IntKind.signed, IntKind.bits] at a1 b1 a2 b2 a3 b3
    simp at a1 b1 a2 b2 a3 b3
    exact ⟨⟨n1, n2, n3, f, s.data.toList, l⟩, v, rfl, hl, ⟨a1, b1⟩, ⟨a3, b3⟩, wf_lt hf, hs, hlr⟩
def PopsO (w : World) (cs : List Value) : Prop := ∃ v, cs = [v] ∧ ∃ ps : List Pop, RowR w 6 (PopV w) ps v
theorem opn_PopsO (w : World) : Opn Tryz.prog w 23 (PopsO w) := (opn_slice el23 (opn_PopO w)).mono fun cs ⟨v, h1, h2⟩ => ⟨v, h1, by
  obtain ⟨ps, h, _⟩ := rowR_of (Ψ := PopV w) h2 fun c _ h => h
  exact ⟨ps, h⟩⟩
section
variable (Z : List PanicEntry → World → Prop) {o w : World} {R As : List HProp} {l : List UInt8} {g : Nat}
theorem long {x : Value} {ps : List Pop} (hx : RowR w 6 (PopV o) ps x) : CallV Tryz.prog Z 5 #[x] w fun r w' => Drew w w' ∧ ∃ b, r = .bool b ∧ (b = false → ps.length ≤ 67108864 ∧ (ps.map fun p => 1 + p.s.length + p.b.length).sum ≤ 67108864) := by
  obtain ⟨xa, xc, hxf⟩ := hx.form
  have hle := hx.le
  simp only [maxLen] at hle
  have hx0 := hx
  subst hxf
  refine f5.calls ?_
  unfold f5.sh
  refine ⟨fun m a y w' => ∃ n i : Nat, a = .int .i64 n ∧ y = .int .i64 i ∧ m + i = ps.length ∧ n = ((ps.take i).map fun p => 1 + p.s.length + p.b.length).sum ∧ n ≤ 281474976702465 + 67108864 ∧ i ≤ n ∧ Drew w w',
    ⟨ps.length, 0, 0, rfl, rfl, rfl, by simp, by omega, by omega, Drew.refl w⟩, ?_⟩
  rintro m _ _ w1 ⟨n, i, rfl, rfl, hi, hn, hnb, hin, hd⟩ _
  by_cases h1 : (i : Int) < (ps.length : Int)
  · by_cases h2 : (n : Int) ≤ 67108864
    · have hil : i < ps.length := by omega
      (try simp only [o_add, o_addp, o_gtr, ln_23_3, o_lss, h1, decide_true, o_pickT, guardW_true, o_leq, h2, condT])
      refine ⟨fun w2 hd2 => ?_⟩
      have hd := hd.trans hd2
      obtain ⟨b, k, c, hp, hcl, ⟨v, rfl, hv, hok⟩, hc⟩ := hx.ix el23 .i64 i hil
      obtain ⟨va, vc, hvf⟩ := hv.form
      have hs := hok.s
      have hb := hok.b
      skip
      refine rp hp ?_
      (try simp only [fa_46_4p])
      refine rr_load one9 (v := .string (str ps[i].s)) (by rw [hd.cell]; exact hc 4 _ rfl) ?_
      (try simp only [ln_9_3p, o_addp])
      rw [str_size]
      refine rp hp ?_
      (try simp only [fa_46_5p])
      refine rr_load one22 (v := v) (by rw [hd.cell]; exact hc 5 _ rfl) ?_
      rw [hvf]
      (try simp only [ln_22_3p, o_addp])
      rw [wr_i64 (x := (n : Int) + 1) (by omega) (by omega), wr_i64 (x := (n : Int) + 1 + (ps[i].s.length : Int)) (by omega) (by omega), wr_i64 (x := (n : Int) + 1 + (ps[i].s.length : Int) + (ps[i].b.length : Int)) (by omega) (by omega), wr_i64 (x := (i : Int) + 1) (by omega) (by omega)]
      refine ⟨m - 1, by omega, n + (1 + ps[i].s.length + ps[i].b.length), i + 1, by congr 1; omega, rfl, by omega, ?_, by omega, by omega, hd⟩
      rw [List.take_succ_eq_append_getElem hil, List.map_append, List.sum_append, ← hn]
      simp
    · (try simp only [o_add, o_addp, o_gtr, ln_23_3, o_lss, h1, decide_true, o_pickT, guardW_true, o_leq, h2, decide_false, condF])
      have h3 : (67108864 : Int) < (n : Int) := by omega
      exact ⟨hd, _, rfl, fun hb => by simp [h3] at hb⟩
  · (try simp only [o_add, o_addp, o_gtr, ln_23_3, o_lss, h1, decide_false, o_pickF, condF, guardW_ft])
    refine ⟨hd, _, rfl, fun hb => ?_⟩
    have hn2 : ¬ (67108864 : Int) < (n : Int) := of_decide_eq_false hb
    have : i = ps.length := by omega
    subst this
    rw [List.take_length] at hn
    omega
end
end Go.Proofs.YthobnaagjhooeaaGreatDoor


/- Files that came in; how many bytes; what a disk reads. -/
import Derived.Test.YtcbbaiglcgemmaaGreatDoorO2
set_option linter.unusedVariables false
set_option linter.unusedSimpArgs false
namespace Go.Proofs.YtcbbaiglcgemmaaGreatDoor
open Go.Sh
def IntO (w : World) (cs : List Value) : Prop := ∃ n, cs = [.int .i64 n] ∧ -9223372036854775808 ≤ n ∧ n ≤ 9223372036854775807
theorem opn_IntO (w : World) : Opn Tryz.prog w 3 (IntO w) := (opn_int Tryz.underlying3).mono fun cs ⟨n, h, a, b⟩ => ⟨n, h, a, b⟩
def FiV (w : World) (p : Fi × Value) (c : List Value) : Prop := c = fic p ∧ Rd w 1 p.2 p.1.by_.length (cb p.1.by_) ∧ p.1.nm.length ≤ 140737488351232 ∧ p.1.by_.length ≤ 140737488351232
theorem opn_FileO (w : World) : Opn Tryz.prog w 71 (fun c => ∃ p, FiV w p c) :=
  (opn_struct Tryz.underlying71 [(1, _), (1, _), (1, _)] (by kernel_rfl) (by kernel_rfl)
    ⟨by kernel_rfl, opn_string Tryz.underlying9, by kernel_rfl, opn_BytesO w, by kernel_rfl, opn_int Tryz.underlying3, trivial⟩).mono fun cs h => by
    obtain ⟨_, _, rfl, _, ⟨s, rfl, hs⟩, _, _, rfl, _, ⟨v, rfl, l, hlr, hl⟩, _, _, rfl, _, ⟨n1, rfl, a1, b1⟩, rfl⟩ := h
    exact ⟨(⟨s.data.toList, l, n1⟩, v), rfl, hl, hs, hlr⟩
def FilesO (w : World) (cs : List Value) : Prop := ∃ v, cs = [v] ∧ ∃ l : List (Fi × Value), RdF w v l ∧ l.length ≤ 140737488351232 ∧ ∀ p ∈ l, p.1.nm.length ≤ 140737488351232 ∧ p.1.by_.length ≤ 140737488351232
theorem opn_FilesO (w : World) : Opn Tryz.prog w 22 (FilesO w) := (opn_slice el22 (opn_FileO w)).mono fun cs ⟨v, h1, h2⟩ => ⟨v, h1, by
  obtain ⟨l, ⟨css, hc1, hc2, hrd⟩, hb⟩ := rowR_of (Ψ := FiV w) h2 fun c _ h => h
  have hall : ∀ p ∈ l, Rd w 1 p.2 p.1.by_.length (cb p.1.by_) ∧ p.1.nm.length ≤ 140737488351232 ∧ p.1.by_.length ≤ 140737488351232 := fun p hp => by
    obtain ⟨i, hi, rfl⟩ := List.getElem_of_mem hp
    obtain ⟨_, _, h3, h4⟩ := hc2 i l[i] (css[i]'(by omega)) (List.getElem?_eq_getElem hi) (List.getElem?_eq_getElem (by omega))
    exact ⟨h3, h4⟩
  have hcs : css = l.map fic := by
    apply List.ext_getElem (by rw [List.length_map]; exact hc1)
    intro i h1 h2
    rw [List.getElem_map]
    exact (hc2 i l[i] css[i] (List.getElem?_eq_getElem (by omega)) (List.getElem?_eq_getElem h1)).2.1
  refine ⟨l, ⟨?_, fun p hp => (hall p hp).1⟩, by omega, fun p hp => (hall p hp).2⟩
  rw [hcs] at hrd
  rw [List.flatMap_def]
  exact hrd⟩
theorem frs_names {room : Nat} : ∀ (xs : List Fi) (fs : List Fil), (∀ f ∈ fs, nameOk f.nm = true) → ∀ f ∈ (frs room xs fs).2, nameOk f.nm = true
  | [], fs, h => h
  | x :: xs, fs, h => by
    unfold frs
    split
    · exact h
    rename_i he
    obtain ⟨h1, _⟩ := frE_ok (by simpa using he)
    refine frs_names xs _ fun f hf => ?_
    rcases insF_mem.1 hf with rfl | hf
    · exact h1
    · exact h f hf
theorem found_file {n : Nat} {fs : List Fil} (hs : Srt fs) (hn : ∀ f ∈ fs, nameOk f.nm = true) {f : Fil} (hf : f ∈ fs) : (dkF n fs).found f.nm = 0 ∧ (dkF n fs).bytes f.nm = f.by_ := by
  have h1 : isAt fs f.nm = true := (isAt_iff hs _).2 ⟨f, hf, rfl⟩
  constructor
  · unfold Dk.found Dk.asked dkF
    simp [hn f hf, h1]
  · obtain ⟨i, hi, rfl⟩ := List.getElem_of_mem hf
    unfold Dk.bytes dkF
    rw [hs.ix_at hi, List.getElem?_eq_getElem hi]
    rfl
section
variable (Z : List PanicEntry → World → Prop) {o w : World} {R As : List HProp} {g g2 : Nat} {d : Dk}
theorem filesB {x : Value} {l : List (Fi × Value)} (hx : RdF w x l) (hl : l.length ≤ 140737488351232) (hb : ∀ p ∈ l, p.1.nm.length ≤ 140737488351232 ∧ p.1.by_.length ≤ 140737488351232) :
    CallV Tryz.prog Z 4 #[x] w fun r w' => Drew w w' ∧ ∃ b, r = .bool b ∧ (b = false → l.length ≤ 2147483647 ∧ ∀ p ∈ l, p.1.nm.length ≤ 2147483647 ∧ p.1.by_.length ≤ 2147483647) := by
  obtain ⟨xa, xc, hxf⟩ := hx.1.form
  refine f4.calls ?_
  unfold f4.sh
  rw [hxf]
  (try simp only [ln_22_3])
  rw [← hxf]
  refine ⟨fun m a y w' => ∃ i n : Nat, y = .int .i64 i ∧ a = .int .i64 n ∧ m + i = l.length ∧ l.length ≤ n ∧ n ≤ 500000000000000 ∧ (∀ p ∈ l.take i, p.1.nm.length ≤ n ∧ p.1.by_.length ≤ n) ∧ Drew w w', ⟨l.length, 0, l.length, rfl, rfl, rfl, Nat.le_refl _, by omega, by simp, Drew.refl _⟩, ?_⟩
  rintro m _ _ w1 ⟨i, n, rfl, rfl, hi, hn1, hn2, hall, hd⟩ _
  rw [hxf]
  by_cases hlt : (i : Int) < (l.length : Int)
  · have hil : i < l.length := by omega
    by_cases hnb : (n : Int) < 2147483647
    · (try simp only [o_add, o_geq, o_lss, hlt, decide_true, o_pickT, guardW_true, hnb, condT])
      rw [← hxf]
      refine ⟨fun w2 hd2 => ?_⟩
      have hx2 := hx.drew (hd.trans hd2)
      obtain ⟨b, q, hp, hc⟩ := hx2.ix i hil
      obtain ⟨ba, bc, hbf⟩ := (hx2.2 l[i] (List.getElem_mem hil)).form
      obtain ⟨hb1, hb2⟩ := hb l[i] (List.getElem_mem hil)
      refine rp hp ?_
      (try simp only [fa_71_1p])
      refine rr_load one58 (hc w2 hx2 1 _ rfl) ?_
      rw [hbf]
      (try simp only [ln_58_3p, o_addp])
      refine rp hp ?_
      (try simp only [fa_71_0p, Nat.add_zero])
      refine rr_load one9 (hc w2 hx2 0 _ rfl) (rp (fun w => run_lenStr st9 _ rfl _ _ w) ?_)
      rw [str_size]
      (try simp only [o_addp])
      rw [wr_i64 (x := (n : Int) + (l[i].1.by_.length : Int)) (by omega) (by omega), wr_i64 (x := (n : Int) + (l[i].1.by_.length : Int) + (l[i].1.nm.length : Int)) (by omega) (by omega), wr_i64 (x := (i : Int) + 1) (by omega) (by omega)]
      refine ⟨m - 1, by omega, i + 1, n + l[i].1.by_.length + l[i].1.nm.length, rfl, by first | (congr 1; done) | (congr 1; omega), by omega, by omega, by omega, fun p hp => ?_, hd.trans hd2⟩
      rw [List.take_succ_eq_append_getElem hil, List.mem_append, List.mem_singleton] at hp
      rcases hp with hp | rfl
      · have := hall p hp; omega
      · omega
    · have hge : (2147483647 : Int) ≤ (n : Int) := by omega
      (try simp only [o_add, o_geq, hge, decide_true, o_lss, hlt, o_pickT, guardW_true, hnb, decide_false, condF])
      exact ⟨hd, true, rfl, fun h => by cases h⟩
  · obtain rfl : i = l.length := by omega
    rw [List.take_length] at hall
    (try simp only [o_add, o_geq, o_lss, hlt, decide_false, o_pickF, condF, guardW_ft])
    refine ⟨hd, _, rfl, fun hf => ?_⟩
    have hlt2 : ¬ (2147483647 : Int) ≤ (n : Int) := of_decide_eq_false hf
    exact ⟨by omega, fun p hp => by have := hall p hp; omega⟩
end
end Go.Proofs.YtcbbaiglcgemmaaGreatDoor

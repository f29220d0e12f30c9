
/- Bytes: what the small functions over rows of bytes answer. -/
import Derived.Test.YtcbbaiglcgemmaaGreatDoorS0
set_option linter.unusedVariables false
set_option linter.unusedSimpArgs false
namespace Go.Proofs.YtcbbaiglcgemmaaGreatDoor
open Go.Sh
def cb (l : List UInt8) : List Value := l.map fun b => .int .u8 b.toNat
theorem cb_length (l : List UInt8) : (cb l).length = l.length := by simp [cb]
theorem cb_append (l m : List UInt8) : cb (l ++ m) = cb l ++ cb m := by simp [cb]
theorem cb_at {l : List UInt8} {i : Nat} (h : i < l.length) : (cb l)[i]? = some (.int .u8 (l[i].toNat : Int)) := by simp [cb, h]
theorem cb_ones (l : List UInt8) : ones (cb l) := by
  intro u hu
  obtain ⟨b, _, rfl⟩ := List.mem_map.1 hu
  rfl
theorem rd_len {w : World} {v : Value} {n : Nat} {l : List UInt8} (h : Rd w 1 v n (cb l)) : n = l.length := by have := h.1; rw [cb_length] at this; omega
def BytesO (w : World) (cs : List Value) : Prop := ∃ v, cs = [v] ∧ ∃ l : List UInt8, l.length ≤ 140737488351232 ∧ Rd w 1 v l.length (cb l)
theorem opn_BytesO (w : World) : Opn Tryz.prog w 58 (BytesO w) := (opn_slice el58 (opn_int Tryz.underlying5)).mono fun cs ⟨v, h1, n, css, h2, hbt, h3, h4⟩ => by
  refine ⟨v, h1, ?_⟩
  have key : ∀ css : List (List Value), (∀ c ∈ css, c.length = 1 ∧ ∃ n, c = [.int .u8 n] ∧ IntKind.u8.min ≤ n ∧ n ≤ IntKind.u8.max) → ∃ l : List UInt8, l.length = css.length ∧ css.flatten = cb l := by
    intro css
    induction css with
    | nil => intro _; exact ⟨[], rfl, rfl⟩
    | cons c css ih =>
      intro h
      obtain ⟨l, hl, hf⟩ := ih fun c hc => h c (List.mem_cons_of_mem _ hc)
      obtain ⟨_, n, rfl, hn1, hn2⟩ := h c List.mem_cons_self
      simp only [IntKind.min, IntKind.max, IntKind.signed, IntKind.bits] at hn1 hn2
      simp at hn1 hn2
      refine ⟨UInt8.ofNat n.toNat :: l, by simp [hl], ?_⟩
      rw [List.flatten_cons, hf]
      simp only [cb, List.map_cons, List.singleton_append]
      congr 2
      rw [UInt8.toNat_ofNat']; omega
  obtain ⟨l, hl, hf⟩ := key css h3
  refine ⟨l, by omega, ?_⟩
  rw [hl, h2, ← hf]; exact h4
section
variable (Z : List PanicEntry → World → Prop) {o w : World} {R : List HProp}
theorem rd_index {v : Value} {n : Nat} {l : List UInt8} (h : Rd w 1 v n (cb l)) (i : Nat) (hi : i < l.length) : ∃ a, (∀ w, (Instr.indexAt 58 v (.int .i64 i)).run Tryz.prog w = .ok (.pointer (some a)) w) ∧ w.cell? a = some (.int .u8 (l[i].toNat : Int)) := by
  obtain ⟨a, h1, h2, _⟩ := h.index el58 .i64 i (by rw [rd_len h]; exact hi)
  exact ⟨a, h1, by rw [h2, cb_at hi]⟩
theorem eqBytes {x y : Value} {n m : Nat} {l k : List UInt8} (hx : Rd w 1 x n (cb l)) (hy : Rd w 1 y m (cb k)) :
    CallV Tryz.prog Z 17 #[x, y] w fun r w' => r = .bool (decide (l = k)) ∧ Drew w w' := by
  have hn := rd_len hx; have hm := rd_len hy
  obtain ⟨a, c, rfl⟩ := hx.form
  obtain ⟨b, d, rfl⟩ := hy.form
  have hlx : n ≤ 9223372036854775807 := hx.2.1
  subst hn hm
  refine f17.calls ?_
  unfold f17.sh
  (try simp only [ln_58_3, o_neq, cond_bne])
  refine ⟨fun hne => ⟨?_, Drew.refl _⟩, fun he => ?_⟩
  · have : l ≠ k := fun e => hne (by rw [e])
    simp [this]
  have he' : l.length = k.length := by omega
  refine ⟨fun m y w' => ∃ i : Nat, y = .int .i64 i ∧ m + i = l.length ∧ l.take i = k.take i ∧ Drew w w', ⟨l.length, 0, rfl, rfl, rfl, Drew.refl _⟩, ?_⟩
  rintro m _ w1 ⟨i, rfl, hi, ht, hd⟩ _
  (try simp only [o_add, o_lss, cond_decide])
  refine ⟨fun hlt => ⟨fun w2 hd2 => ?_⟩, fun hge => ?_⟩
  · have hi1 : i < l.length := by omega
    have hi2 : i < k.length := by omega
    obtain ⟨p, hp, hpc⟩ := rd_index (hx.drew (hd.trans hd2)) i hi1
    obtain ⟨q, hq, hqc⟩ := rd_index (hy.drew (hd.trans hd2)) i hi2
    refine rp hp (rr_load one5 hpc (rp hq (rr_load one5 hqc ?_)))
    (try simp only [o_neqp, cond_bne])
    refine ⟨fun hne => ⟨?_, hd.trans hd2⟩, fun he2 => ?_⟩
    · have : l ≠ k := fun e => hne (by subst e; rfl)
      simp [this]
    · have hb : l[i] = k[i] := UInt8.toNat_inj.1 (by omega)
      rw [wr_i64 (x := (i : Int) + 1) (by omega) (by omega)]
      refine ⟨m - 1, by omega, i + 1, rfl, by omega, ?_, hd.trans hd2⟩
      rw [List.take_succ_eq_append_getElem hi1, List.take_succ_eq_append_getElem hi2, ht, hb]
  · obtain rfl : i = l.length := by omega
    rw [List.take_length, he', List.take_length] at ht
    exact ⟨by simp [ht], hd⟩
theorem copyBytes {x : Value} {n : Nat} {l : List UInt8} (h : St o w R) (hx : Ent o R fun w => Rd w 1 x n (cb l)) (hl : l.length ≤ 140737488355328) :
    CallV Tryz.prog Z 31 #[x] w fun r w' => St o w' (own 5 1 r l.length (cb l) :: R) := by
  have h0 := hx w h
  have hn := rd_len h0
  obtain ⟨a, c, rfl⟩ := h0.form
  subst hn
  refine f31.calls ?_
  unfold f31.sh
  (try simp only [ln_58_3])
  refine ⟨fun m v y w' => ∃ i : Nat, y = .int .i64 i ∧ m + i = l.length ∧ St o w' (own 5 1 v i (cb (l.take i)) :: R), ⟨l.length, 0, rfl, rfl, by simpa [cb] using h.own_nil 5 1⟩, ?_⟩
  rintro m v _ w1 ⟨i, rfl, hi, hS⟩ _
  (try simp only [o_add, o_lss, cond_decide])
  refine ⟨fun hlt => ?_, fun hge => ?_⟩
  · have hi1 : i < l.length := by omega
    obtain ⟨p, hp, hpc⟩ := rd_index (hx w1 hS.drop) i hi1
    refine r1 (hp _) (r_load one5 hpc ?_)
    refine r_push el58 hS _ rfl (by omega) (by simp only [maxLen]; omega) fun v' w2 hS2 => ?_
    skip
    rw [wr_i64 (x := (i : Int) + 1) (by omega) (by omega)]
    refine ⟨m - 1, by omega, i + 1, rfl, by omega, ?_⟩
    rw [List.take_succ_eq_append_getElem hi1, cb_append]
    exact hS2
  · obtain rfl : i = l.length := by omega
    rw [List.take_length] at hS
    exact hS
end
end Go.Proofs.YtcbbaiglcgemmaaGreatDoor

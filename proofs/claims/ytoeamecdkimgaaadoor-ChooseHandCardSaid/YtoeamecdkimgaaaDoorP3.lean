/- Readers: what each call of a Reader answers, and leaves. -/
import Derived.Test.YtoeamecdkimgaaaDoorP2
set_option linter.unusedVariables false
set_option linter.unusedSimpArgs false
namespace Go.Proofs.YtoeamecdkimgaaaDoor
open Go.Sh
/-- A row of bytes in a block of one's own, whatever stands behind it. -/
def buf (B : Option Nat) (all : List UInt8) : HProp := fun h => match B with
  | none => all = []
  | some b => ∃ rest, blk b 5 (cb all ++ rest) h
/-- v: n elements of that row, from off on. -/
def Vw (B : Option Nat) (off n : Nat) (v : Value) : Prop := ∃ a c, v = .slice a n c ∧ n ≤ c ∧ n ≤ maxLen ∧ (n = 0 ∨ ∃ b, B = some b ∧ a = some ⟨b, off, none⟩)
section
variable {o w : World} {R As : List HProp} {g : Nat} {B : Option Nat} {all : List UInt8} {off n k : Nat} {v : Value} {err : Int}
theorem Vw.to (h : Vw B off n v) (k : Nat) (hk : k ≤ n) (q q' : IntKind) : ∃ x, (∀ w, (Instr.sliceAt 42 v none (some (.int q k)) (some (.int q' k))).run Tryd.prog w = .ok x w) ∧ Vw B off k x := by
  obtain ⟨a, c, rfl, h1, h2, h3⟩ := h
  refine ⟨_, fun w => run_slice_3 el42 a n c q q' k k (by omega) (by omega) (by omega) w, _, _, rfl, Nat.le_refl _, by omega, ?_⟩
  rcases h3 with rfl | ⟨b, rfl, rfl⟩
  · exact .inl (by omega)
  · exact .inr ⟨b, rfl, rfl⟩
theorem Vw.from (h : Vw B off n v) (k : Nat) (hk : k ≤ n) (q : IntKind) : ∃ x, (∀ w, (Instr.sliceAt 42 v (some (.int q k)) none none).run Tryd.prog w = .ok x w) ∧ Vw B (off + k) (n - k) x := by
  obtain ⟨a, c, rfl, h1, h2, h3⟩ := h
  refine ⟨_, fun w => run_slice_from el42 a n c q k (by omega) (by omega) w, _, _, rfl, by omega, by omega, ?_⟩
  rcases h3 with rfl | ⟨b, rfl, rfl⟩
  · exact .inl (by omega)
  · by_cases hc : c = k
    · exact .inl (by omega)
    · refine .inr ⟨b, rfl, ?_⟩
      simp [hc, add_addr]
theorem Vw.rd (h : Vw B off n v) (hS : St o w As) (hm : buf B all ∈ As) (hn : off + n ≤ all.length) : Rd w 1 v n (cb ((all.drop off).take n)) := by
  obtain ⟨a, c, rfl, h1, h2, h3⟩ := h
  refine ⟨by simp [cb]; omega, h2, ?_⟩
  rcases h3 with rfl | ⟨b, rfl, rfl⟩
  · cases a with
    | none => exact .inl ⟨c, rfl, rfl⟩
    | some a => exact .inr ⟨a, c, rfl, fun j u hu => by simp [cb] at hu⟩
  · refine .inr ⟨_, c, rfl, fun j u hu => ?_⟩
    obtain ⟨S, rest, hA⟩ := satH_mem hm hS.sat
    have hb : ob 5 (cb all ++ rest) w.heap[b]? := (blk_on hA).1
    have hj := (List.getElem?_eq_some_iff.1 hu).1
    rw [cb_length, List.length_take, List.length_drop] at hj
    rw [add_addr, cell_of_blk hb, List.getElem?_append_left (by rw [cb_length]; omega), ← hu]
    simp only [cb, List.getElem?_map, List.getElem?_take, List.getElem?_drop]
    rw [if_pos (by omega)]
theorem own_buf (h : St o w (own 5 1 v n (cb all) :: R)) : ∃ B, Vw B 0 n v ∧ St o w (buf B all :: R) := by
  obtain ⟨hl, ⟨rfl, rfl, h2⟩ | ⟨b, cap, rest, rfl, h1, h2, h3, hB⟩⟩ := h.own_open
  · refine ⟨none, ⟨none, 0, rfl, Nat.le_refl _, by simp [maxLen], .inl rfl⟩, ?_⟩
    have : all = [] := by simpa [cb] using hl
    subst this
    exact h2.emp.mono fun _ _ => rfl
  · exact ⟨some b, ⟨_, _, rfl, h1, Nat.le_trans h1 h2, .inr ⟨b, rfl, rfl⟩⟩, hB.mono fun _ hx => ⟨rest, hx⟩⟩
/-- A Reader at block g, over that row, standing at off. -/
def RdrAt (g : Nat) (B : Option Nat) (all : List UInt8) (off : Nat) (err : Int) : HProp := fun h => ∃ v, (Vw B off (all.length - off) v ∧ off ≤ all.length) ∧ sep (blk g 0 [.bool true, v, .int .i64 err]) (buf B all) h
theorem RdrAt.open (h : St o w (RdrAt g B all off err :: R)) : ∃ v, Vw B off (all.length - off) v ∧ off ≤ all.length ∧ St o w (blk g 0 [.bool true, v, .int .i64 err] :: buf B all :: R) := by
  obtain ⟨v, h⟩ := h.ex
  obtain ⟨⟨h1, h2⟩, h⟩ := h.pure
  exact ⟨v, h1, h2, h.sep⟩
theorem RdrAt.shut (hv : Vw B off (all.length - off) v) (ho : off ≤ all.length) (h : St o w (blk g 0 [.bool true, v, .int .i64 err] :: buf B all :: R)) : St o w (RdrAt g B all off err :: R) :=
  (h.sep_intro.pure_intro ⟨hv, ho⟩).ex_intro v
theorem RdrAt.le (h : St o w (RdrAt g B all off err :: R)) : off ≤ all.length := by obtain ⟨_, _, h, _⟩ := RdrAt.open h; exact h
/-- A Reader with these bytes ahead. -/
def Rdr (g : Nat) (rest : List UInt8) (err : Int) : HProp := fun h => ∃ B all off, rest = all.drop off ∧ RdrAt g B all off err h
theorem Rdr.open {rest : List UInt8} (h : St o w (Rdr g rest err :: R)) : ∃ B all off, rest = all.drop off ∧ St o w (RdrAt g B all off err :: R) := by
  obtain ⟨B, h⟩ := h.ex
  obtain ⟨all, h⟩ := h.ex
  obtain ⟨off, h⟩ := h.ex
  obtain ⟨h1, h⟩ := h.pure
  exact ⟨B, all, off, h1, h⟩
theorem Rdr.shut (h : St o w (RdrAt g B all off err :: R)) : St o w (Rdr g (all.drop off) err :: R) := ((((h.pure_intro rfl).ex_intro off).ex_intro all).ex_intro B)
theorem rd_one {w : World} {e sz n : Nat} {v : Value} {xs : List Value} (h : Rd w sz v n xs) : v.oneCell' = true := by obtain ⟨a, c, rfl⟩ := h.form; rfl
theorem Vw.one (h : Vw B off n v) : v.oneCell' = true := by obtain ⟨a, c, rfl, _⟩ := h; rfl
end
section
variable (Z : List PanicEntry → World → Prop) {o w : World} {R : List HProp} {g : Nat} {B : Option Nat} {all l : List UInt8} {off : Nat} {err : Int}
/-- The fault is set. -/
theorem rSet {k : World → Prop} (e : Int) (h : St o w (RdrAt g B all off err :: R)) (hk : ∀ w', St o w' (RdrAt g B all off e :: R) → k w') : run0 Tryd.prog Z (Instr.storeAt 34 (.pointer (some ⟨g, 2, none⟩)) (.int .i64 e)) w k := by
  obtain ⟨v, hv, ho, hS⟩ := RdrAt.open h
  exact r_store hS one34 (by simp) rfl fun w' hS => hk w' (RdrAt.shut hv ho hS)
/-- The place is set. -/
theorem rPut {k : World → Prop} {v : Value} {off' : Nat} (h : St o w (RdrAt g B all off err :: R)) (hv : Vw B off' (all.length - off') v) (ho : off' ≤ all.length) (hk : ∀ w', St o w' (RdrAt g B all off' err :: R) → k w') : run0 Tryd.prog Z (Instr.storeAt 42 (.pointer (some ⟨g, 1, none⟩)) v) w k := by
  obtain ⟨_, _, _, hS⟩ := RdrAt.open h
  exact r_store hS one42 (by simp) hv.one fun w' hS => hk w' (RdrAt.shut hv ho hS)
/-- Bytes as a number, the highest of them first. -/
def dec (l : List UInt8) : Nat := l.foldl (fun v x => v * 256 + x.toNat) 0
theorem dec_take {l : List UInt8} {i : Nat} (h : i < l.length) : dec (l.take (i + 1)) = dec (l.take i) * 256 + l[i].toNat := by
  rw [List.take_succ_eq_append_getElem h]
  unfold dec
  rw [List.foldl_append]
  rfl
theorem dec_lt (l : List UInt8) : dec l < 256 ^ l.length := by
  have key : ∀ (l : List UInt8) (v n : Nat), v < 256 ^ n → l.foldl (fun v x => v * 256 + x.toNat) v < 256 ^ (n + l.length) := by
    intro l
    induction l with
    | nil => intro v n h; simpa using h
    | cons x l ih =>
      intro v n h
      have hx := x.toNat_lt
      have := ih (v * 256 + x.toNat) (n + 1) (by rw [Nat.pow_succ]; omega)
      simpa [Nat.add_assoc, Nat.add_comm 1] using this
  have := key l 0 0 (by simp)
  rw [Nat.zero_add] at this
  exact this
theorem dec_or (a : Nat) (b : Nat) (ha : a < 2 ^ 56) (hb : b < 256) : IntKind.u64.wrap (BitVec.ofInt 64 (IntKind.u64.wrap ((a : Int) * 2 ^ 8)) ||| BitVec.ofInt 64 (b : Int)).toNat = ((a * 256 + b : Nat) : Int) := by
  have e1 : IntKind.u64.wrap ((a : Int) * 2 ^ 8) = ((a * 256 : Nat) : Int) := by
    rw [wr_u64 (by omega) (by omega)]; omega
  rw [e1, BitVec.ofInt_natCast, BitVec.ofInt_natCast, BitVec.toNat_or, BitVec.toNat_ofNat, BitVec.toNat_ofNat]
  have h1 : a * 256 % 2 ^ 64 = a * 256 := Nat.mod_eq_of_lt (by omega)
  have h2 : b % 2 ^ 64 = b := Nat.mod_eq_of_lt (by omega)
  rw [h1, h2]
  have h3 : a * 256 ||| b = a * 256 + b := by
    have := Nat.two_pow_add_eq_or_of_lt (i := 8) (b := b) (by omega) a
    rw [show a * 256 = 2 ^ 8 * a by omega, ← this]
  rw [h3, wr_u64 (by omega) (by omega)]
end
end Go.Proofs.YtoeamecdkimgaaaDoor

/- Data that came in: what the row's data say of cells, told by Lean's own data. Nothing of any one program stands here. -/
import Derived.Test.YtbccccpdnaeomaaGreatDoorShAgg
import Derived.OpenShut
import Derived.ChangeArms
import Derived.DataReads
import Derived.SizedLaws
namespace Go.Sh
open Go.RowKit
def Opn (P : Program) (w : World) (t : TypeId) (Φ : List Value → Prop) : Prop :=
  ∀ (H : Type) (enc : TypeId × Value → H) (fuel : Nat) (cs : List Value) (x : DataW H × List MemPlace), DataW.trod enc P w 0 (fun _ => true) true fuel t cs = some x → (∀ n ∈ x.1.weights P t, n ≤ 140737488351232) → Φ cs
def RowR {α : Type} (w : World) (sz : Nat) (Ψ : α → List Value → Prop) (as : List α) (v : Value) : Prop :=
  ∃ css : List (List Value), css.length = as.length ∧ (∀ (i : Nat) a c, as[i]? = some a → css[i]? = some c → c.length = sz ∧ Ψ a c) ∧ Rd w sz v as.length css.flatten
section
variable {P : Program} {w w' o : World} {t e : TypeId} {sz bt : Nat} {z v : Value} {Φ : List Value → Prop}
theorem Opn.mono {Φ' : List Value → Prop} (h : Opn P w t Φ) (hk : ∀ cs, Φ cs → Φ' cs) : Opn P w t Φ' := fun H enc fuel cs x hx hw => hk cs (h H enc fuel cs x hx hw)
theorem Opn.use {H : Type} {enc : TypeId × Value → H} {d : DataW H} {p : List MemPlace} (h : Opn P w t Φ) (hx : DataW.Trod enc P w 0 (fun _ => true) true t v d p) (hw : ∀ n ∈ d.weights P t, n ≤ 140737488351232) : Φ v.cells.toList := by
  obtain ⟨fuel, hx⟩ := hx
  exact h _ _ _ _ _ hx hw
theorem weights_part {H : Type} {ts : List TypeId} {ds : List (DataW H)} {d : DataW H} (h : (DataW.weightsEach P (t :: ts) (d :: ds)).all (· ≤ reachBytes) = true) : (∀ n ∈ d.weights P t, n ≤ 140737488351232) ∧ (DataW.weightsEach P ts ds).all (· ≤ reachBytes) = true := by
  rw [DataW.weightsEach, List.all_append, Bool.and_eq_true] at h
  exact ⟨fun n hn => of_decide_eq_true (List.all_eq_true.1 h.1 n hn), h.2⟩
theorem opn_int {k : IntKind} (ht : P.underlying t = some (.int k)) : Opn P w t fun cs => ∃ n, cs = [.int k n] ∧ k.min ≤ n ∧ n ≤ k.max := fun H enc fuel cs x hx hw => by
  obtain ⟨n, h1, _, h2⟩ := DataW.trod_int ht hx
  simp [Lit.wf] at h2
  exact ⟨n, h1, h2⟩
theorem len_flatten_of {css : List (List Value)} (h : ∀ c ∈ css, c.length = sz) : css.flatten.length = css.length * sz := by
  induction css with
  | nil => simp
  | cons c css ih =>
    rw [List.flatten_cons, List.length_append, h c List.mem_cons_self, ih fun c hc => h c (List.mem_cons_of_mem _ hc), List.length_cons, Nat.succ_mul]; omega
theorem flatten_at {css : List (List Value)} (h : ∀ c ∈ css, c.length = sz) : ∀ (i j : Nat) (c : List Value) (u : Value), css[i]? = some c → c[j]? = some u → css.flatten[i * sz + j]? = some u := by
  induction css with
  | nil => intro i j c u hc; simp at hc
  | cons d css ih =>
    intro i j c u hc hu
    have hd := h d List.mem_cons_self
    cases i with
    | zero =>
      simp only [List.getElem?_cons_zero, Option.some.injEq] at hc
      subst hc
      rw [Nat.zero_mul, Nat.zero_add, List.flatten_cons, List.getElem?_append_left (List.getElem?_eq_some_iff.1 hu).1]
      exact hu
    | succ i =>
      rw [List.getElem?_cons_succ] at hc
      rw [List.flatten_cons, List.getElem?_append_right (by rw [Nat.succ_mul]; omega), hd, show (i + 1) * sz + j - sz = i * sz + j by rw [Nat.succ_mul]; omega]
      exact ih (fun c hc => h c (List.mem_cons_of_mem _ hc)) i j c u hc hu
theorem flatten_cut {css : List (List Value)} (h : ∀ c ∈ css, c.length = sz) (i : Nat) (hi : i < css.length) : (css.flatten.drop (i * sz)).take sz = css[i] := by
  induction css generalizing i with
  | nil => simp at hi
  | cons d css ih =>
    have hd := h d List.mem_cons_self
    cases i with
    | zero => rw [Nat.zero_mul, List.drop_zero, List.flatten_cons, ← hd, List.take_left]; rfl
    | succ i =>
      rw [List.flatten_cons, Nat.succ_mul, Nat.add_comm, ← List.drop_drop, ← hd, List.drop_left, hd]
      exact ih (fun c hc => h c (List.mem_cons_of_mem _ hc)) i (by simpa using hi)
theorem RowR.form {α : Type} {Ψ : α → List Value → Prop} {as : List α} (h : RowR w sz Ψ as v) : ∃ a c, v = .slice a as.length c := by
  obtain ⟨_, _, _, h⟩ := h
  exact h.form
theorem RowR.le {α : Type} {Ψ : α → List Value → Prop} {as : List α} (h : RowR w sz Ψ as v) : as.length ≤ maxLen := by
  obtain ⟨_, _, _, h⟩ := h
  exact h.2.1
theorem RowR.of_old {α : Type} {Ψ : α → List Value → Prop} {as : List α} {As : List HProp} (h : RowR w sz Ψ as v) (hS : St o w' As) (hm : old w ∈ As) : RowR w' sz Ψ as v := by
  obtain ⟨css, h1, h2, h3⟩ := h
  exact ⟨css, h1, h2, h3.of_old hS hm⟩
theorem RowR.index {α : Type} {Ψ : α → List Value → Prop} {as : List α} (h : RowR w sz Ψ as v) (hel : El P t e sz bt z) (k : IntKind) (i : Nat) (hi : i < as.length) :
    ∃ a c, (∀ w, (Instr.indexAt t v (.int k i)).run P w = .ok (.pointer (some a)) w) ∧ c.length = sz ∧ Ψ as[i] c ∧ ∀ j u, c[j]? = some u → w.cell? (a.add j) = some u := by
  obtain ⟨css, h1, h2, h3⟩ := h
  have hic : i < css.length := by omega
  obtain ⟨hl, hp⟩ := h2 i as[i] css[i] (List.getElem?_eq_getElem hi) (List.getElem?_eq_getElem hic)
  obtain ⟨a, ha, hcell, _⟩ := h3.indexN hel k i hi
  refine ⟨a, css[i], ha, hl, hp, fun j u hu => hcell j u ?_⟩
  have hsz : ∀ c ∈ css, c.length = sz := fun c hc => by
    obtain ⟨q, hq⟩ := List.getElem?_of_mem hc
    have hqa : q < as.length := by have := (List.getElem?_eq_some_iff.1 hq).1; omega
    exact (h2 q as[q] c (List.getElem?_eq_getElem hqa) hq).1
  have hj := (List.getElem?_eq_some_iff.1 hu).1
  rw [List.getElem?_take_of_lt (by omega), List.getElem?_drop]
  exact flatten_at hsz i j css[i] u (List.getElem?_eq_getElem hic) hu
theorem addr_of_cell {a : Addr} {u : Value} (h : w.cell? a = some u) : a = ⟨a.block, a.off, none⟩ := by
  obtain ⟨b, i, s⟩ := a
  cases s with
  | none => rfl
  | some s =>
    unfold World.cell? at h
    split at h <;> simp at h
theorem RowR.ix {α : Type} {Ψ : α → List Value → Prop} {as : List α} (h : RowR w sz Ψ as v) (hel : El P t e sz bt z) (k : IntKind) (i : Nat) (hi : i < as.length) :
    ∃ b q c, (∀ w, (Instr.indexAt t v (.int k i)).run P w = .ok (.pointer (some ⟨b, q, none⟩)) w) ∧ c.length = sz ∧ Ψ as[i] c ∧ ∀ j u, c[j]? = some u → w.cell? ⟨b, q + j, none⟩ = some u := by
  obtain ⟨a, c, h1, h2, h3, h4⟩ := h.index hel k i hi
  have hpos := hel.pos
  have h0 := h4 0 c[0] (List.getElem?_eq_getElem (by omega))
  have e := addr_of_cell (a := a) (by simpa [Addr.add] using h0)
  rw [e] at h1 h4
  exact ⟨_, _, c, h1, h2, h3, fun j u hu => by have := h4 j u hu; rwa [add_addr] at this⟩
theorem Rd.ix {n : Nat} {xs : List Value} (h : Rd w sz v n xs) (hel : El P t e sz bt z) (k : IntKind) (i : Nat) (hi : i < n) :
    ∃ b q, (∀ w, (Instr.indexAt t v (.int k i)).run P w = .ok (.pointer (some ⟨b, q, none⟩)) w) ∧ (∀ j u, ((xs.drop (i * sz)).take sz)[j]? = some u → w.cell? ⟨b, q + j, none⟩ = some u) ∧ ((xs.drop (i * sz)).take sz).length = sz := by
  obtain ⟨a, h1, h2, h3⟩ := h.indexN hel k i hi
  have hpos := hel.pos
  have h0 := h2 0 _ (List.getElem?_eq_getElem (by rw [h3]; exact hpos))
  have e := addr_of_cell (a := a) (by simpa [Addr.add] using h0)
  rw [e] at h1 h2
  exact ⟨_, _, h1, fun j u hu => by have := h2 j u hu; rwa [add_addr] at this, h3⟩
end
end Go.Sh

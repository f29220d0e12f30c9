/- TxnOne: the walk. -/
import Derived.Test.YtpdehbbkpekoiaaGreatDoorT20
import Derived.Test.YtpdehbbkpekoiaaGreatDoorShRec
set_option linter.unusedVariables false
set_option linter.unusedSimpArgs false
namespace Go.Proofs.YtpdehbbkpekoiaaGreatDoor
open Go.Sh
theorem opn_cap {P : Program} {w : World} {t e : TypeId} (ht : P.underlying t = some (.slice e)) : Opn P w t fun cs => ∃ a n c, cs = [.slice a n c] ∧ n ≤ c := fun H enc fuel cs x hx hw => by
  rcases DataW.trod_slice ht hx with ⟨h0, _⟩ | ⟨a, len, cap, elems, rest, n, _, h0, _, _, hl, _⟩
  · exact ⟨none, 0, 0, h0, Nat.le_refl _⟩
  · exact ⟨some a, len, cap, h0, hl⟩
theorem Opn.and {P : Program} {w : World} {t : TypeId} {Φ Ψ : List Value → Prop} (h1 : Opn P w t Φ) (h2 : Opn P w t Ψ) : Opn P w t fun cs => Φ cs ∧ Ψ cs := fun H enc fuel cs x hx hw => ⟨h1 H enc fuel cs x hx hw, h2 H enc fuel cs x hx hw⟩
def BytesC (w : World) (cs : List Value) : Prop := BytesO w cs ∧ ∃ a n c, cs = [.slice a n c] ∧ n ≤ c
theorem opn_BytesC (w : World) : Opn Tryz.prog w 28 (BytesC w) := Opn.and (opn_BytesO w) (opn_cap Tryz.underlying28)
def U8O (w : World) (cs : List Value) : Prop := ∃ m : UInt8, cs = [.int .u8 (m.toNat : Int)]
theorem opn_U8O (w : World) : Opn Tryz.prog w 5 (U8O w) := (opn_int Tryz.underlying5).mono fun cs ⟨n, h, a, b⟩ => by
  simp only [IntKind.min, IntKind.max, IntKind.signed, IntKind.bits] at a b
  simp at a b
  refine ⟨UInt8.ofNat n.toNat, ?_⟩
  rw [h]
  congr 2
  rw [UInt8.toNat_ofNat']; omega
def IntO (w : World) (cs : List Value) : Prop := ∃ n, cs = [.int .i64 n] ∧ -9223372036854775808 ≤ n ∧ n ≤ 9223372036854775807
theorem opn_IntO (w : World) : Opn Tryz.prog w 3 (IntO w) := (opn_int Tryz.underlying3).mono fun cs ⟨n, h, a, b⟩ => ⟨n, h, a, b⟩
section
variable (Z : List PanicEntry → World → Prop) {o w : World} {R As : List HProp}
end
end Go.Proofs.YtpdehbbkpekoiaaGreatDoor

/- Requests and transactions that came in; Large; copies. -/
set_option linter.unusedVariables false
set_option linter.unusedSimpArgs false
namespace Go.Proofs.YtpdehbbkpekoiaaGreatDoor
open Go.Sh
def wfId (x : Idd) : Prop := x.sch.length ≤ 140737488351232 ∧ x.nam.length ≤ 140737488351232
def wfEn (x : En) : Prop := (-128 ≤ x.perms ∧ x.perms ≤ 127) ∧ wfId x.who
structure WfF (f : Fl) : Prop where
  kd : -128 ≤ f.kd ∧ f.kd ≤ 127
  path : f.path.length ≤ 140737488351232
  data : f.data.length ≤ 140737488351232
  acl : f.acl.length * 40 ≤ 140737488351232 ∧ ∀ x ∈ f.acl, wfEn x
  ver : -2147483648 ≤ f.ver ∧ f.ver ≤ 2147483647
  ses : -9223372036854775808 ≤ f.ses ∧ f.ses ≤ 9223372036854775807
  tmo : -2147483648 ≤ f.tmo ∧ f.tmo ≤ 2147483647
  who : f.who.length * 32 ≤ 140737488351232 ∧ ∀ x ∈ f.who, wfId x
inductive WfQ : Rq → Prop where
  | mk (q : Rq) : WfF q.f → q.ops.length * 144 ≤ 140737488351232 → (∀ x ∈ q.ops, WfQ x) → WfQ q
theorem WfQ.flat {q : Rq} (h : WfQ q) : WfF q.f := by cases h; assumption
theorem WfQ.len {q : Rq} (h : WfQ q) : q.ops.length * 144 ≤ 140737488351232 := by cases h; assumption
theorem WfQ.all {q : Rq} (h : WfQ q) : ∀ x ∈ q.ops, WfQ x := by cases h; assumption
def wfH (h : Hd) : Prop := hok h 5
theorem Rd.later {o w w' : World} {As : List HProp} {sz n : Nat} {v : Value} {xs : List Value} (h : Rd o sz v n xs) (hS : St o w As) (hm : old o ∈ As) : Rd w sz v n xs := h.of_old hS hm
theorem RdQ.of_old {o : World} (q : Rq) : ∀ {o' w : World} {As : List HProp}, RdQ o q → St o' w As → old o ∈ As → RdQ w q := by
  induction q using Rq.ind with | h q ih => ?_
  intro o' w As h hS hm
  exact .mk q ⟨h.flat.data.of_old hS hm, h.flat.acl.of_old hS hm, h.flat.who.of_old hS hm⟩ (h.row.of_old hS hm) fun x hx => ih x hx (h.all x hx) hS hm
end Go.Proofs.YtpdehbbkpekoiaaGreatDoor

/- Large; copies. -/
set_option linter.unusedVariables false
set_option linter.unusedSimpArgs false
namespace Go.Proofs.YtpdehbbkpekoiaaGreatDoor
open Go.Sh
section
variable (Z : List PanicEntry → World → Prop) {o w : World} {R As : List HProp}
end
end Go.Proofs.YtpdehbbkpekoiaaGreatDoor

/- Lists of transactions: LargeTxns, CopyTxns, Rises. -/
set_option linter.unusedVariables false
set_option linter.unusedSimpArgs false
namespace Go.Proofs.YtpdehbbkpekoiaaGreatDoor
open Go.Sh
def RdT (w : World) (v : Value) (ts : List Tx) : Prop := Rd w 16 v ts.length (ts.map Tx.cells).flatten ∧ ∀ t ∈ ts, RdQ w t.q
def WfT (ts : List Tx) : Prop := ts.length * 168 ≤ 140737488351232 ∧ ∀ t ∈ ts, wfH t.hd ∧ WfQ t.q
def OwT (ts : List Tx) : HProp := satH (ts.map fun t => OwQ t.q)
theorem OwT.rd {o w : World} {R : List HProp} {v : Value} {ts : List Tx} (h : St o w (own 35 16 v ts.length (ts.map Tx.cells).flatten :: OwT ts :: R)) : RdT w v ts := by
  refine ⟨h.own_rd m0, fun t ht => ?_⟩
  obtain ⟨As, Bs, e⟩ := List.append_of_mem ht
  have h3 := h.swap
  unfold OwT at h3
  rw [e, List.map_append, List.map_cons] at h3
  exact OwQ.rd _ h3.all_out
def ls (e n e' n' : Int) : Prop := e * 4294967296 + n < e' * 4294967296 + n'
instance (e n e' n' : Int) : Decidable (ls e n e' n') := by unfold ls; infer_instance
section
variable (Z : List PanicEntry → World → Prop) {o w : World} {R As : List HProp}
end
end Go.Proofs.YtpdehbbkpekoiaaGreatDoor

/- TxnStairs: the walk. -/
set_option linter.unusedVariables false
set_option linter.unusedSimpArgs false
namespace Go.Proofs.YtpdehbbkpekoiaaGreatDoor
open Go.Sh
theorem rd_takeN {α : Type} {w : World} {sz : Nat} {C : α → List Value} (hC : ∀ x, (C x).length = sz) {a : Option Addr} {c : Nat} {l : List α} (h : Rd w sz (.slice a l.length c) l.length (l.map C).flatten) (k : Nat) (hk : k ≤ l.length) : Rd w sz (.slice a k c) (l.take k).length ((l.take k).map C).flatten := by
  obtain ⟨h1, h2, h3⟩ := h
  have hl : (l.take k).length = k := by rw [List.length_take]; omega
  have e : (l.map C).flatten = ((l.take k).map C).flatten ++ ((l.drop k).map C).flatten := by
    rw [← List.flatten_append, ← List.map_append, List.take_append_drop]
  have hfl : ((l.take k).map C).flatten.length = k * sz := by
    rw [len_flatten_of (sz := sz) (fun c hc => by obtain ⟨x, _, rfl⟩ := List.mem_map.1 hc; exact hC x), List.length_map, hl]
  refine ⟨by rw [hfl, hl], by omega, ?_⟩
  rcases h3 with ⟨c', hq, hn⟩ | ⟨a', c', hq, hc⟩
  · injection hq with q1 q2 q3
    subst q1
    exact .inl ⟨c, by rw [show k = 0 by omega], by omega⟩
  · injection hq with q1 q2 q3
    subst q1
    refine .inr ⟨a', c, by rw [hl], fun j u hu => hc j u ?_⟩
    rw [e, List.getElem?_append_left (List.getElem?_eq_some_iff.1 hu).1]
    exact hu
theorem rd_dropN {α : Type} {w : World} {sz : Nat} {C : α → List Value} (hC : ∀ x, (C x).length = sz) {a : Option Addr} {c : Nat} {l : List α} (hnc : l.length ≤ c) (h : Rd w sz (.slice a l.length c) l.length (l.map C).flatten) (k : Nat) (hk : k ≤ l.length) : Rd w sz (.slice (if c = k then a else a.map (·.add (k * sz))) (l.length - k) (c - k)) (l.drop k).length ((l.drop k).map C).flatten := by
  obtain ⟨h1, h2, h3⟩ := h
  have hl : (l.drop k).length = l.length - k := List.length_drop
  have e : (l.map C).flatten = ((l.take k).map C).flatten ++ ((l.drop k).map C).flatten := by
    rw [← List.flatten_append, ← List.map_append, List.take_append_drop]
  have hfl : ((l.drop k).map C).flatten.length = (l.length - k) * sz := by
    rw [len_flatten_of (sz := sz) (fun c hc => by obtain ⟨x, _, rfl⟩ := List.mem_map.1 hc; exact hC x), List.length_map, hl]
  have hft : ((l.take k).map C).flatten.length = k * sz := by
    rw [len_flatten_of (sz := sz) (fun c hc => by obtain ⟨x, _, rfl⟩ := List.mem_map.1 hc; exact hC x), List.length_map, List.length_take, Nat.min_eq_left hk]
  refine ⟨by rw [hfl, hl], by omega, ?_⟩
  rcases h3 with ⟨c', hq, hn⟩ | ⟨a', c', hq, hc⟩
  · injection hq with q1 q2 q3
    subst q1
    refine .inl ⟨c - k, ?_, by omega⟩
    rw [show l.length - k = 0 by omega]
    simp
  · injection hq with q1 q2 q3
    subst q1
    by_cases he : k = l.length
    · have hx0 : ((l.drop k).map C).flatten = [] := List.eq_nil_of_length_eq_zero (by rw [hfl, he, Nat.sub_self, Nat.zero_mul])
      by_cases hck : c = k
      · rw [if_pos hck]
        exact .inr ⟨a', c - k, by rw [hl], fun j u hu => by rw [hx0] at hu; simp at hu⟩
      · rw [if_neg hck]
        exact .inr ⟨_, c - k, by rw [hl]; rfl, fun j u hu => by rw [hx0] at hu; simp at hu⟩
    · by_cases hck : c = k
      · omega
      · rw [if_neg hck]
        refine .inr ⟨a'.add (k * sz), c - k, by rw [hl]; rfl, fun j u hu => ?_⟩
        rw [addr_add2]
        refine hc _ u ?_
        rw [e, List.getElem?_append_right (by omega), hft, Nat.add_sub_cancel_left]
        exact hu
theorem RdT.take {w : World} {a : Option Addr} {c : Nat} {ts : List Tx} (h : RdT w (.slice a ts.length c) ts) (k : Nat) (hk : k ≤ ts.length) : RdT w (.slice a k c) (ts.take k) :=
  ⟨rd_takeN Tx.cells_len h.1 k hk, fun t ht => h.2 t (List.mem_of_mem_take ht)⟩
theorem RdT.drop {w : World} {a : Option Addr} {c : Nat} {ts : List Tx} (hnc : ts.length ≤ c) (h : RdT w (.slice a ts.length c) ts) (k : Nat) (hk : k ≤ ts.length) : RdT w (.slice (if c = k then a else a.map (·.add (k * 16))) (ts.length - k) (c - k)) (ts.drop k) :=
  ⟨rd_dropN Tx.cells_len hnc h.1 k hk, fun t ht => h.2 t (List.mem_of_mem_drop ht)⟩
theorem RdT.of_old {o o' w : World} {As : List HProp} {v : Value} {ts : List Tx} (h : RdT o v ts) (hS : St o' w As) (hm : old o ∈ As) : RdT w v ts := ⟨h.1.of_old hS hm, fun t ht => RdQ.of_old _ (h.2 t ht) hS hm⟩
theorem WfT.take {ts : List Tx} (h : WfT ts) (k : Nat) : WfT (ts.take k) := ⟨by have := h.1; rw [List.length_take]; omega, fun t ht => h.2 t (List.mem_of_mem_take ht)⟩
theorem WfT.drop {ts : List Tx} (h : WfT ts) (k : Nat) : WfT (ts.drop k) := ⟨by have := h.1; rw [List.length_drop]; omega, fun t ht => h.2 t (List.mem_of_mem_drop ht)⟩
theorem WfT.es {ts : List Tx} (h : WfT ts) : ∀ t ∈ ts, u32r t.e := fun t ht => hok_le (h.2 t ht).1 (show 0 < 5 by omega)
section
variable (Z : List PanicEntry → World → Prop) {o w : World} {R As : List HProp}
end
end Go.Proofs.YtpdehbbkpekoiaaGreatDoor

/- Same of package txn. -/
set_option linter.unusedVariables false
set_option linter.unusedSimpArgs false
namespace Go.Proofs.YtpdehbbkpekoiaaGreatDoor
open Go.Sh
section
variable (Z : List PanicEntry → World → Prop) {o w : World} {R As : List HProp}
end
end Go.Proofs.YtpdehbbkpekoiaaGreatDoor

/- TxnBack: the plain law and the walk. -/
set_option linter.unusedVariables false
set_option linter.unusedSimpArgs false
namespace Go.Proofs.YtpdehbbkpekoiaaGreatDoor
open Go.Sh
theorem st_of_key {x y : Rq} (hx : okR false x) (hy : okR false y) (h : keyQ x = keyQ y) : x.st = y.st := by
  have h1 : x.f = y.f := congrArg Prod.fst h
  have h2 : x.ops.map Rq.f = y.ops.map Rq.f := congrArg Prod.snd h
  have hox : ∀ q, okR false q → ∀ z ∈ q.ops, z.ops = [] := by
    intro q hq z hz
    have h3 := hq.2
    by_cases hb : bi false q.f 8 = true
    · rw [if_pos hb] at h3; exact (h3.2 z hz).2
    · rw [if_neg hb] at h3; rw [h3] at hz; cases hz
  have key : ∀ (l m : List Rq), (∀ z ∈ l, z.ops = []) → (∀ z ∈ m, z.ops = []) → l.map Rq.f = m.map Rq.f → l.map Rq.st = m.map Rq.st := by
    intro l
    induction l with
    | nil => intro m _ _ h; cases m with
      | nil => rfl
      | cons _ _ => simp at h
    | cons z l ih =>
      intro m hl hm h
      cases m with
      | nil => simp at h
      | cons z' m =>
        simp only [List.map_cons, List.cons.injEq] at h
        rw [List.map_cons, List.map_cons, ih m (fun z hz => hl z (List.mem_cons_of_mem _ hz)) (fun z hz => hm z (List.mem_cons_of_mem _ hz)) h.2]
        congr 1
        rw [st_iff, hl z List.mem_cons_self, hm z' List.mem_cons_self]
        exact ⟨h.1, rfl⟩
  exact (st_iff _ _).2 ⟨h1, key _ _ (hox x hx) (hox y hy) h2⟩
theorem within_spec {f : Fl} {m : Nat} (h : within f m = true) :
    (bt f 0 = false → f.path = []) ∧ (bt f 1 = false → f.data = []) ∧ (bt f 2 = false → f.acl = []) ∧ (bt f 3 = false → f.ver = 0) ∧ (bt f 4 = false → f.eph = false ∧ f.seq = false) ∧ (bt f 5 = false → f.ses = 0) ∧ (bt f 6 = false → f.tmo = 0) ∧ (bt f 7 = false → f.who = []) ∧ (bt f 8 = false → m = 0) := by
  simp only [within, Bool.and_eq_true, Bool.not_eq_true'] at h
  obtain ⟨h1, h2, _, _, _⟩ := h
  simp only [wg1, wg2, Bool.or_eq_false_iff, Bool.and_eq_false_iff, Bool.not_eq_false', decide_eq_true_eq, decide_eq_false_iff_not] at h1 h2
  obtain ⟨a0, a1, a2, a3⟩ := h1
  obtain ⟨a4, a5, a6, a7, a8⟩ := h2
  have z : ∀ {α : Type} {l : List α}, ¬ 0 < l.length → l = [] := fun {α} {l} h => List.eq_nil_of_length_eq_zero (by omega)
  refine ⟨fun h => ?_, fun h => ?_, fun h => ?_, fun h => ?_, fun h => ?_, fun h => ?_, fun h => ?_, fun h => ?_, fun h => ?_⟩
  · exact a0.resolve_left (by rw [h]; simp)
  · exact z (a1.resolve_left (by rw [h]; simp))
  · exact z (a2.resolve_left (by rw [h]; simp))
  · exact a3.resolve_left (by rw [h]; simp)
  · exact a4.resolve_left (by rw [h]; simp)
  · exact a5.resolve_left (by rw [h]; simp)
  · exact a6.resolve_left (by rw [h]; simp)
  · exact z (a7.resolve_left (by rw [h]; simp))
  · have := a8.resolve_left (by rw [h]; simp)
    omega
section
variable (Z : List PanicEntry → World → Prop) {o w : World} {R As : List HProp}
end
end Go.Proofs.YtpdehbbkpekoiaaGreatDoor

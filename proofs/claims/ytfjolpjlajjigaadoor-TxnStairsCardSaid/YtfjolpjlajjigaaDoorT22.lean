/- Requests and transactions that came in; Large; copies. -/
import Derived.Test.YtfjolpjlajjigaaDoorT21
import Derived.Test.YtfjolpjlajjigaaDoorShRec
set_option linter.unusedVariables false
set_option linter.unusedSimpArgs false
namespace Go.Proofs.YtfjolpjlajjigaaDoor
open Go.Sh
/-- An id's, an entry's, a request's flat fields are within what their types hold. -/
def wfId (x : Idd) : Prop := x.sch.length ≤ 140737488351232 ∧ x.nam.length ≤ 140737488351232
def wfEn (x : En) : Prop := (-128 ≤ x.perms ∧ x.perms ≤ 127) ∧ wfId x.who
structure WfF (f : Fl) : Prop where
  kd : -128 ≤ f.kd ∧ f.kd ≤ 127
  path : f.path.length ≤ 140737488351232
  data : f.data.length ≤ 140737488351232
  acl : f.acl.length * 40 ≤ 140737488351232 ∧ ∀ x ∈ f.acl, wfEn x
  ver : -2147483648 ≤ f.ver ∧ f.ver ≤ 2147483647
  ses : -9223372036854775808 ≤ f.ses ∧ f.ses ≤ 9223372036854775807
  tmo : -2147483648 ≤ f.tmo ∧ f.tmo ≤ 2147483647
  who : f.who.length * 32 ≤ 140737488351232 ∧ ∀ x ∈ f.who, wfId x
inductive WfQ : Rq → Prop where
  | mk (q : Rq) : WfF q.f → q.ops.length * 144 ≤ 140737488351232 → (∀ x ∈ q.ops, WfQ x) → WfQ q
theorem WfQ.flat {q : Rq} (h : WfQ q) : WfF q.f := by cases h; assumption
theorem WfQ.len {q : Rq} (h : WfQ q) : q.ops.length * 144 ≤ 140737488351232 := by cases h; assumption
theorem WfQ.all {q : Rq} (h : WfQ q) : ∀ x ∈ q.ops, WfQ x := by cases h; assumption
theorem rowO_list {α : Type} {w : World} {sz bt : Nat} {Φ : List Value → Prop} {v : Value} {C : α → List Value} {ok : α → Prop} (h : RowO w sz bt Φ v) (hc : ∀ c, Φ c → ∃ a, c = C a ∧ ok a) : ∃ ls : List α, ls.length * bt ≤ 140737488351232 ∧ (∀ a ∈ ls, ok a) ∧ Rd w sz v ls.length (ls.map C).flatten := by
  obtain ⟨n, css, hn, hbt, hall, hrd⟩ := h
  have key : ∀ css : List (List Value), (∀ c ∈ css, c.length = sz ∧ Φ c) → ∃ ls : List α, ls.map C = css ∧ ∀ a ∈ ls, ok a := by
    intro css
    induction css with
    | nil => intro _; exact ⟨[], rfl, by simp⟩
    | cons c css ih =>
      intro h
      obtain ⟨ls, h1, h2⟩ := ih fun c hc => h c (List.mem_cons_of_mem _ hc)
      obtain ⟨a, ha, hok⟩ := hc c (h c List.mem_cons_self).2
      refine ⟨a :: ls, by rw [List.map_cons, h1, ha], fun b hb => ?_⟩
      rcases List.mem_cons.1 hb with rfl | hb
      · exact hok
      · exact h2 b hb
  obtain ⟨ls, h1, h2⟩ := key css hall
  have hl : ls.length = n := by rw [← hn, ← h1, List.length_map]
  exact ⟨ls, by rw [hl]; exact hbt, h2, by rw [h1, hl]; exact hrd⟩
def TextO (cs : List Value) : Prop := ∃ l : List UInt8, cs = [.string (str l)] ∧ l.length ≤ 140737488351232
theorem opn_TextO (w : World) : Opn Tryd.prog w 9 TextO := (opn_string Tryd.underlying9).mono fun cs ⟨s, h, hs⟩ => ⟨s.data.toList, by rw [str_data]; exact h, hs⟩
def IdO (cs : List Value) : Prop := ∃ x : Idd, cs = idC x ∧ wfId x
theorem opn_IdO (w : World) : Opn Tryd.prog w 103 IdO := (opn_struct Tryd.underlying103 [(1, TextO), (1, TextO)] (by kernel_rfl) (by kernel_rfl)
  ⟨by kernel_rfl, opn_TextO w, by kernel_rfl, opn_TextO w, trivial⟩).mono fun cs ⟨c, d, h, _, ⟨a, h1, ha⟩, c2, d2, h2, _, ⟨b, h3, hb⟩, h4⟩ => ⟨⟨a, b⟩, by subst h; subst h1; subst h2; subst h3; simp only [Cut] at h4; subst h4; rfl, ha, hb⟩
def EnO (cs : List Value) : Prop := ∃ x : En, cs = enC x ∧ wfEn x
def NumO (k : IntKind) (lo hi : Int) (cs : List Value) : Prop := ∃ n : Int, cs = [.int k n] ∧ lo ≤ n ∧ n ≤ hi
theorem opn_i8 (w : World) : Opn Tryd.prog w 27 (NumO .i8 (-128) 127) := (opn_int Tryd.underlying27).mono fun cs ⟨n, h, a, b⟩ => ⟨n, h, a, b⟩
theorem opn_i32 (w : World) : Opn Tryd.prog w 21 (NumO .i32 (-2147483648) 2147483647) := (opn_int Tryd.underlying21).mono fun cs ⟨n, h, a, b⟩ => ⟨n, h, a, b⟩
theorem opn_i64 (w : World) : Opn Tryd.prog w 2 (NumO .i64 (-9223372036854775808) 9223372036854775807) := (opn_int Tryd.underlying2).mono fun cs ⟨n, h, a, b⟩ => ⟨n, h, a, b⟩
theorem opn_u32 (w : World) : Opn Tryd.prog w 24 (NumO .u32 0 4294967295) := (opn_int Tryd.underlying24).mono fun cs ⟨n, h, a, b⟩ => ⟨n, h, a, b⟩
def BoolO (cs : List Value) : Prop := ∃ b : Bool, cs = [.bool b]
theorem opn_EnO (w : World) : Opn Tryd.prog w 105 EnO := (opn_struct Tryd.underlying105 [(1, NumO .i8 (-128) 127), (2, IdO)] (by kernel_rfl) (by kernel_rfl)
  ⟨by kernel_rfl, opn_i8 w, by kernel_rfl, opn_IdO w, trivial⟩).mono fun cs ⟨c, d, h, _, ⟨n, h1, hn⟩, c2, d2, h2, _, ⟨x, h3, hx⟩, h4⟩ => ⟨⟨n, x⟩, by subst h; subst h1; subst h2; subst h3; simp only [Cut] at h4; subst h4; rw [List.append_nil]; rfl, hn, hx⟩
def AclO (w : World) (cs : List Value) : Prop := ∃ v, cs = [v] ∧ ∃ l : List En, l.length * 40 ≤ 140737488351232 ∧ (∀ x ∈ l, wfEn x) ∧ Rd w 3 v l.length (l.map enC).flatten
def WhoO (w : World) (cs : List Value) : Prop := ∃ v, cs = [v] ∧ ∃ l : List Idd, l.length * 32 ≤ 140737488351232 ∧ (∀ x ∈ l, wfId x) ∧ Rd w 2 v l.length (l.map idC).flatten
theorem opn_AclO (w : World) : Opn Tryd.prog w 30 (AclO w) := (opn_slice el30 (opn_EnO w)).mono fun cs ⟨v, h, hr⟩ => ⟨v, h, rowO_list hr fun c hc => hc⟩
theorem opn_WhoO (w : World) : Opn Tryd.prog w 31 (WhoO w) := (opn_slice el31 (opn_IdO w)).mono fun cs ⟨v, h, hr⟩ => ⟨v, h, rowO_list hr fun c hc => hc⟩
def RqO (w : World) (cs : List Value) : Prop := ∃ q : Rq, cs = q.cells ∧ RdQ w q ∧ WfQ q
def OpsO (w : World) (cs : List Value) : Prop := ∃ v, cs = [v] ∧ ∃ l : List Rq, l.length * 144 ≤ 140737488351232 ∧ (∀ x ∈ l, RdQ w x ∧ WfQ x) ∧ Rd w 11 v l.length (l.map Rq.cells).flatten
theorem opnN_RqO (w : World) (k : Nat) : OpnN Tryd.prog w k 34 (RqO w) := by
  induction k using Nat.strongRecOn with | ind k ih => ?_
  cases k with
  | zero => exact OpnN.zero
  | succ k =>
    have hops : OpnN Tryd.prog w k 32 (OpsO w) := by
      cases k with
      | zero => exact OpnN.zero
      | succ k => exact (opnN_slice el32 (ih k (by omega))).mono fun cs ⟨v, h, hr⟩ => ⟨v, h, rowO_list hr fun c ⟨q, h1, h2⟩ => ⟨q, h1, h2⟩⟩
    refine (opnN_struct Tryd.underlying34 [(1, NumO .i8 (-128) 127), (1, TextO), (1, BytesO w), (1, AclO w), (1, NumO .i32 (-2147483648) 2147483647), (1, BoolO), (1, BoolO), (1, NumO .i64 (-9223372036854775808) 9223372036854775807), (1, NumO .i32 (-2147483648) 2147483647), (1, WhoO w), (1, OpsO w)] (by kernel_rfl) (by kernel_rfl)
      ⟨by kernel_rfl, (opn_i8 w).fuel k, by kernel_rfl, (opn_TextO w).fuel k, by kernel_rfl, (opn_BytesO w).fuel k, by kernel_rfl, (opn_AclO w).fuel k, by kernel_rfl, (opn_i32 w).fuel k, by kernel_rfl, (opn_bool Tryd.underlying4).fuel k, by kernel_rfl, (opn_bool Tryd.underlying4).fuel k, by kernel_rfl, (opn_i64 w).fuel k, by kernel_rfl, (opn_i32 w).fuel k, by kernel_rfl, (opn_WhoO w).fuel k, by kernel_rfl, hops, trivial⟩).mono ?_
    rintro cs ⟨_, _, rfl, _, ⟨kd, rfl, hkd⟩, _, _, rfl, _, ⟨path, rfl, hpath⟩, _, _, rfl, _, ⟨vd, rfl, data, hdl, hd⟩, _, _, rfl, _, ⟨va, rfl, acl, hal, haw, ha⟩, _, _, rfl, _, ⟨ver, rfl, hver⟩, _, _, rfl, _, ⟨eph, rfl⟩, _, _, rfl, _, ⟨seq, rfl⟩, _, _, rfl, _, ⟨ses, rfl, hses⟩, _, _, rfl, _, ⟨tmo, rfl, htmo⟩, _, _, rfl, _, ⟨vw, rfl, who, hwl, hww, hw⟩, _, _, rfl, _, ⟨vo, rfl, ops, hol, how, ho⟩, hc⟩
    simp only [Cut] at hc
    subst hc
    exact ⟨.mk ⟨kd, path, data, acl, ver, eph, seq, ses, tmo, who⟩ vd va vw vo ops, rfl, .mk _ ⟨hd, ha, hw⟩ ho fun x hx => (how x hx).1, .mk _ ⟨hkd, hpath, hdl, ⟨hal, haw⟩, hver, hses, htmo, ⟨hwl, hww⟩⟩ hol fun x hx => (how x hx).2⟩
theorem opn_RqO (w : World) : Opn Tryd.prog w 34 (RqO w) := OpnN.all (opnN_RqO w)
/-- A transaction but for its request is within what its types hold. -/
def wfH (h : Hd) : Prop := hok h 5
def TxO (w : World) (cs : List Value) : Prop := ∃ t : Tx, cs = t.cells ∧ wfH t.hd ∧ RdQ w t.q ∧ WfQ t.q
def OrO (cs : List Value) : Prop := ∃ a b c : Int, cs = orC a b c ∧ (-128 ≤ a ∧ a ≤ 127) ∧ (0 ≤ b ∧ b ≤ 4294967295) ∧ (-9223372036854775808 ≤ c ∧ c ≤ 9223372036854775807)
theorem opn_OrO (w : World) : Opn Tryd.prog w 29 OrO := (opn_struct Tryd.underlying29 [(1, NumO .i8 (-128) 127), (1, NumO .u32 0 4294967295), (1, NumO .i64 (-9223372036854775808) 9223372036854775807)] (by kernel_rfl) (by kernel_rfl)
  ⟨by kernel_rfl, opn_i8 w, by kernel_rfl, opn_u32 w, by kernel_rfl, opn_i64 w, trivial⟩).mono (by
    rintro cs ⟨_, _, rfl, _, ⟨a, rfl, ha⟩, _, _, rfl, _, ⟨b, rfl, hb⟩, _, _, rfl, _, ⟨c, rfl, hc⟩, h4⟩
    simp only [Cut] at h4
    subst h4
    exact ⟨a, b, c, rfl, ha, hb, hc⟩)
theorem opn_TxO (w : World) : Opn Tryd.prog w 36 (TxO w) := (opn_struct Tryd.underlying36 [(2, ZxO w), (3, OrO), (11, RqO w)] (by kernel_rfl) (by kernel_rfl)
  ⟨by kernel_rfl, opn_ZxO w, by kernel_rfl, opn_OrO w, by kernel_rfl, opn_RqO w, trivial⟩).mono (by
    rintro cs ⟨_, _, rfl, _, ⟨e, n, rfl, he, hn⟩, _, _, rfl, _, ⟨a, b, c, rfl, ha, hb, hc⟩, _, _, rfl, _, ⟨q, rfl, hq, hw⟩, h4⟩
    simp only [Cut] at h4
    subst h4
    exact ⟨⟨e, n, a, b, c, q⟩, by rw [List.append_nil]; rfl, ⟨⟨⟨⟨⟨trivial, he⟩, hn⟩, ha⟩, hb⟩, hc⟩, hq, hw⟩)
def TxsO (w : World) (cs : List Value) : Prop := ∃ v, cs = [v] ∧ ∃ l : List Tx, l.length * 168 ≤ 140737488351232 ∧ (∀ t ∈ l, wfH t.hd ∧ RdQ w t.q ∧ WfQ t.q) ∧ Rd w 16 v l.length (l.map Tx.cells).flatten
theorem opn_TxsO (w : World) : Opn Tryd.prog w 56 (TxsO w) := (opn_slice el56 (opn_TxO w)).mono fun cs ⟨v, h, hr⟩ => ⟨v, h, rowO_list hr fun c ⟨t, h1, h2⟩ => ⟨t, h1, h2⟩⟩
theorem Rd.later {o w w' : World} {As : List HProp} {sz n : Nat} {v : Value} {xs : List Value} (h : Rd o sz v n xs) (hS : St o w As) (hm : old o ∈ As) : Rd w sz v n xs := h.of_old hS hm
theorem RdQ.of_old {o : World} (q : Rq) : ∀ {o' w : World} {As : List HProp}, RdQ o q → St o' w As → old o ∈ As → RdQ w q := by
  induction q using Rq.ind with | h q ih => ?_
  intro o' w As h hS hm
  exact .mk q ⟨h.flat.data.of_old hS hm, h.flat.acl.of_old hS hm, h.flat.who.of_old hS hm⟩ (h.row.of_old hS hm) fun x hx => ih x hx (h.all x hx) hS hm
end Go.Proofs.YtfjolpjlajjigaaDoor

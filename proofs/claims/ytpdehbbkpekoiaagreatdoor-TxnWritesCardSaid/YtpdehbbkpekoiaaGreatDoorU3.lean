/- A request's lists are written over where they lie. -/
import Derived.Test.YtpdehbbkpekoiaaGreatDoorT38
import Derived.Test.YtpdehbbkpekoiaaGreatDoorQ4
set_option linter.unusedVariables false
set_option linter.unusedSimpArgs false
namespace Go.Proofs.YtpdehbbkpekoiaaGreatDoor
open Go.Sh
theorem flat_set {α : Type} {C : α → List Value} {sz : Nat} (hC : ∀ x, (C x).length = sz) (A B : List α) (x y : α) (j : Nat) (u : Value) (hj : j < sz) (h : (C x).set j u = C y) :
    ((A ++ x :: B).map C).flatten.set (A.length * sz + j) u = ((A ++ y :: B).map C).flatten := by
  have hl : (A.map C).flatten.length = A.length * sz := by
    rw [len_flatten_of (sz := sz) (fun c hc => by obtain ⟨x, _, rfl⟩ := List.mem_map.1 hc; exact hC x), List.length_map]
  simp only [List.map_append, List.map_cons, List.flatten_append, List.flatten_cons]
  rw [List.set_append_right _ _ (by omega), hl, show A.length * sz + j - A.length * sz = j by omega, List.set_append_left _ _ (by rw [hC]; exact hj), h]
theorem wide_set {α : Type} {C : α → List Value} {sz : Nat} (hC : ∀ x, (C x).length = sz) (M : Nat → α) (l : List α) (i : Nat) (hi : i < l.length) (y : α) (j : Nat) (u : Value) (hj : j < sz) (h : (C l[i]).set j u = C y) :
    ((wide M l).map C).flatten.set (i * sz + j) u = ((wide M (l.set i y)).map C).flatten := by
  have e1 : wide M l = l.take i ++ l[i] :: (l.drop (i + 1) ++ (List.range 64).map fun k => M (l.length + k)) := by
    unfold wide
    conv => lhs; lhs; rw [← List.take_append_drop i l, List.drop_eq_getElem_cons hi]
    rw [List.append_assoc, List.cons_append]
  have e2 : wide M (l.set i y) = l.take i ++ y :: (l.drop (i + 1) ++ (List.range 64).map fun k => M (l.length + k)) := by
    unfold wide
    rw [List.length_set, List.set_eq_take_append_cons_drop, if_pos hi, List.append_assoc, List.cons_append]
  have hl : (l.take i).length = i := by rw [List.length_take]; omega
  rw [e1, e2, ← flat_set hC (l.take i) _ l[i] y j u hj h, hl]
theorem wide_at {α : Type} {C : α → List Value} {sz : Nat} (hC : ∀ x, (C x).length = sz) (M : Nat → α) (l : List α) (i : Nat) (hi : i < l.length) (j : Nat) (u : Value) (hu : (C l[i])[j]? = some u) : ((wide M l).map C).flatten[i * sz + j]? = some u :=
  flatM_at hC _ i j l[i] u (wide_lo _ _ _ hi) hu
theorem wide_flat_len {α : Type} {C : α → List Value} {sz : Nat} (hC : ∀ x, (C x).length = sz) (M : Nat → α) (l : List α) : ((wide M l).map C).flatten.length = (l.length + 64) * sz := by
  rw [len_flatten_of (sz := sz) (fun c hc => by obtain ⟨x, _, rfl⟩ := List.mem_map.1 hc; exact hC x), List.length_map, wide_len]
theorem run_wv (P : Program) {t e : TypeId} {sz bt : Nat} {z : Value} (hel : El P t e sz bt z) (g n i : Nat) (hi : i < n) (w : World) : (Instr.indexAt t (wv g n) (.int .i64 i)).run P w = .ok (.pointer (some ⟨g, i * sz, none⟩)) w := by
  obtain ⟨info, hinfo, hs, _, _⟩ := hel.info
  have := run_indexAt hel.ht hinfo g 0 n (n + 64) .i64 (i : Int) (by omega) (by omega) w
  rw [hs, Nat.zero_add, Int.toNat_natCast] at this
  exact this
/-- The same but for its path. -/
def pathed (x : Rq) (p : List UInt8) : Rq := .mk ⟨x.f.kd, p, x.f.data, x.f.acl, x.f.ver, x.f.eph, x.f.seq, x.f.ses, x.f.tmo, x.f.who⟩ x.vd x.va x.vw x.vo x.ops
theorem pathed_wd (x : Rq) (p : List UInt8) : WdQ (pathed x p) = WdQ x := by
  rw [WdQ_eq, WdQ_eq x]
  rfl
theorem pathed_wf {x : Rq} {p : List UInt8} (hp : p.length ≤ 140737488351232) (h : WfQ x) : WfQ (pathed x p) := by
  have hf := h.flat
  exact .mk _ ⟨hf.kd, hp, hf.data, hf.acl, hf.ver, hf.ses, hf.tmo, hf.who⟩ h.len h.all
theorem i8_range (x : Int) : -128 ≤ IntKind.i8.wrap x ∧ IntKind.i8.wrap x ≤ 127 := by
  rw [wrap_i8]
  split <;> omega
theorem mem_set_all {α : Type} {p : α → Prop} {l : List α} {i : Nat} {y : α} (h : ∀ x ∈ l, p x) (hy : p y) : ∀ x ∈ l.set i y, p x := fun x hx => by
  rcases List.mem_or_eq_of_mem_set hx with h1 | rfl
  · exact h x h1
  · exact hy
section
variable (Z : List PanicEntry → World → Prop) {o w : World} {R : List HProp}
set_option maxRecDepth 100000 in
theorem turnedC (q : Rq) (hw : WfQ q) (h : St o w (WdQ q :: R)) : CallV Tryz.prog Z 16 #[.agg q.cells.toArray] w fun r w' => ∃ q2 : Rq, q2.cells = q.cells ∧ WfQ q2 ∧ St o w' (WdQ q2 :: R) := by
  rw [WdQ_eq] at h
  cases q with
  | mk f vd va vw vo l =>
  have hf : WfF f := hw.flat
  have hlen : l.length * 144 ≤ 140737488351232 := hw.len
  have hall : ∀ x ∈ l, WfQ x := hw.all
  have h : St o w (sep (WdF f vd va vw) (sep (fun h => ∃ g : Nat, vo = wv g l.length ∧ blk g 33 ((wide rqM l).map Rq.cells).flatten h) (satH (l.map WdQ))) :: R) := h
  clear hw
  have h1 := h.sep
  have h2 := h1.swap.sep
  obtain ⟨g4, h3⟩ := h2.ex
  obtain ⟨hvo, h3⟩ := h3.pure
  obtain ⟨g1, g2, g3, ⟨hvd, hva, hvw⟩, h4⟩ := WdF.open (h3.pick 2)
  subst hvo hvd hva hvw
  clear h h1 h2 h3
  refine f16.calls ?_
  unfold f16.sh
  refine r_box _ _ h4 fun gx w1 hS => ?_
  clear h4
  obtain ⟨C, hC⟩ : ∃ C, C = rqC f (wv g1 f.data.length) (wv g2 f.acl.length) (wv g3 f.who.length) (wv g4 l.length) := ⟨_, rfl⟩
  have hS : St o w1 (blk gx 33 C :: blk g1 5 (cb (f.data ++ marks f.data.length)) :: blk g2 122 ((wide enM f.acl).map enC).flatten :: blk g3 120 ((wide idM f.who).map idC).flatten :: blk g4 33 ((wide rqM l).map Rq.cells).flatten :: satH (l.map WdQ) :: R) := by rw [hC]; exact hS
  have c2 : C[2]? = some (wv g1 f.data.length) := by rw [hC]; rfl
  have c3 : C[3]? = some (wv g2 f.acl.length) := by rw [hC]; rfl
  have c9 : C[9]? = some (wv g3 f.who.length) := by rw [hC]; rfl
  have c10 : C[10]? = some (wv g4 l.length) := by rw [hC]; rfl
  have n1 : f.data.length ≤ 140737488351232 := hf.data
  have n2 : f.acl.length * 40 ≤ 140737488351232 := hf.acl.1
  have n3 : f.who.length * 32 ≤ 140737488351232 := hf.who.1
  have n4 : l.length * 144 ≤ 140737488351232 := hlen
  refine ⟨fun m y w' => ∃ (i : Nat) (d : List UInt8), y = .int .i64 i ∧ m + i = f.data.length ∧ d.length = f.data.length ∧ St o w' (blk gx 33 C :: blk g1 5 (cb (d ++ marks f.data.length)) :: blk g2 122 ((wide enM f.acl).map enC).flatten :: blk g3 120 ((wide idM f.who).map idC).flatten :: blk g4 33 ((wide rqM l).map Rq.cells).flatten :: satH (l.map WdQ) :: R), ⟨f.data.length, 0, f.data, rfl, rfl, rfl, hS⟩, ?_⟩
  clear hS
  rintro m _ w2 ⟨i, d, rfl, hi, hd, hS⟩ _
  (try simp only [o_add, fa_33_2p, Nat.zero_add, fa_33_3p, fa_33_9, fa_33_10, fa_33_3, fa_33_2])
  refine r_load one28 (hS.at m0 2 c2) ?_
  refine r1 (run_lenS sl28 _ rfl _ _ _ _ _) ?_
  by_cases hlt : (i : Int) < (f.data.length : Int)
  · (try simp only [o_lss, hlt, decide_true, condT])
    refine ⟨fun w3 hdr => ?_⟩
    have hS := hS.drew hdr
    have hi1 : i < f.data.length := by omega
    refine rr_load one28 (hS.at m0 2 c2) ?_
    skip
    refine rr_load one28 (hS.at m0 2 c2) ?_
    refine rp (fun w => run_wv _ el28 g1 _ i hi1 w) ?_
    rw [Nat.mul_one]
    have hc : w3.cell? ⟨g1, i, none⟩ = some (.int .u8 (d[i].toNat : Int)) := hS.at m1 i (by rw [cb_append, List.getElem?_append_left (by rw [cb_length]; omega), cb_at (by omega)])
    refine rr_load one5 hc ?_
    refine rp (fun w => run_xor _ w _ _ _ _) ?_
    refine rp (fun w => run_wv _ el28 g1 _ i hi1 w) ?_
    rw [Nat.mul_one]
    obtain ⟨b, hb⟩ := u8_some ((BitVec.ofInt IntKind.u8.bits (d[i].toNat : Int) ^^^ BitVec.ofInt IntKind.u8.bits 3).toNat : Int)
    rw [hb]
    refine r_store (hS.pick 1) one5 (by rw [cb_length, List.length_append]; omega) rfl fun w4 hS => ?_
    rw [cb_set, List.set_append_left _ _ (by omega)] at hS
    skip
    rw [wr_i64 (x := (i : Int) + 1) (by omega) (by omega)]
    exact ⟨m - 1, by omega, i + 1, d.set i b, rfl, by omega, by rw [List.length_set]; exact hd, hS.swap⟩
  (try simp only [o_lss, hlt, decide_false, condF])
  refine ⟨fun m y w' => ∃ (i : Nat) (a : List En), y = .int .i64 i ∧ m + i = f.acl.length ∧ a.length = f.acl.length ∧ (∀ x ∈ a, wfEn x) ∧ St o w' (blk gx 33 C :: blk g1 5 (cb (d ++ marks f.data.length)) :: blk g2 122 ((wide enM a).map enC).flatten :: blk g3 120 ((wide idM f.who).map idC).flatten :: blk g4 33 ((wide rqM l).map Rq.cells).flatten :: satH (l.map WdQ) :: R), ⟨f.acl.length, 0, f.acl, rfl, rfl, rfl, hf.acl.2, hS⟩, ?_⟩
  clear hS
  rintro mB _ w3 ⟨i2, a, rfl, hi2, ha, hwa, hS⟩ _
  refine r_load one29 (hS.at m0 3 c3) ?_
  refine r1 (run_lenS sl29 _ rfl _ _ _ _ _) ?_
  by_cases hlt2 : (i2 : Int) < (f.acl.length : Int)
  · (try simp only [o_add, o_lss, hlt2, decide_true, condT])
    refine ⟨fun w4 hdr => ?_⟩
    have hS := hS.drew hdr
    have hi1 : i2 < f.acl.length := by omega
    have hia : i2 < a.length := by omega
    refine rr_load one29 (hS.at m0 3 c3) ?_
    skip
    refine rr_load one29 (hS.at m0 3 c3) ?_
    refine rp (fun w => run_wv _ el29 g2 _ i2 hi1 w) ?_
    (try simp only [fa_122_0p, Nat.add_zero])
    refine rr_load one25 (hS.at m2 (i2 * 3 + 0) (wide_at (C := enC) (sz := 3) (fun x => rfl) enM a i2 hia 0 (.int .i8 a[i2].perms) rfl)) ?_
    refine rp (fun w => run_xor _ w _ _ _ _) ?_
    refine rp (fun w => run_wv _ el29 g2 _ i2 hi1 w) ?_
    (try simp only [fa_122_0p, Nat.add_zero])
    have hrg := i8_range ((BitVec.ofInt IntKind.i8.bits a[i2].perms ^^^ BitVec.ofInt IntKind.i8.bits 1).toNat : Int)
    generalize IntKind.i8.wrap ((BitVec.ofInt IntKind.i8.bits a[i2].perms ^^^ BitVec.ofInt IntKind.i8.bits 1).toNat : Int) = pp at *
    refine r_store (hS.pick 2) one25 (show i2 * 3 + 0 < _ by rw [wide_flat_len (sz := 3) fun x => rfl]; omega) rfl fun w5 hS => ?_
    have eset := wide_set (C := enC) (sz := 3) (fun x => rfl) enM a i2 hia ⟨pp, a[i2].who⟩ 0 (.int .i8 pp) (by omega) rfl
    rw [Nat.add_zero] at eset
    rw [eset] at hS
    skip
    rw [wr_i64 (x := (i2 : Int) + 1) (by omega) (by omega)]
    have hwx := hwa _ (List.getElem_mem hia)
    exact ⟨mB - 1, by omega, i2 + 1, a.set i2 ⟨pp, a[i2].who⟩, rfl, by omega, by rw [List.length_set]; exact ha, mem_set_all hwa ⟨hrg, hwx.2⟩, hS.put 2⟩
  (try simp only [o_add, o_lss, hlt2, decide_false, condF])
  refine ⟨fun m y w' => ∃ (i : Nat) (u : List Idd), y = .int .i64 i ∧ m + i = f.who.length ∧ u.length = f.who.length ∧ (∀ x ∈ u, wfId x) ∧ St o w' (blk gx 33 C :: blk g1 5 (cb (d ++ marks f.data.length)) :: blk g2 122 ((wide enM a).map enC).flatten :: blk g3 120 ((wide idM u).map idC).flatten :: blk g4 33 ((wide rqM l).map Rq.cells).flatten :: satH (l.map WdQ) :: R), ⟨f.who.length, 0, f.who, rfl, rfl, rfl, hf.who.2, hS⟩, ?_⟩
  clear hS
  rintro m3' _ w4 ⟨i3, u, rfl, hi3, hu, hwu, hS⟩ _
  refine r_load one30 (hS.at m0 9 c9) ?_
  refine r1 (run_lenS sl30 _ rfl _ _ _ _ _) ?_
  by_cases hlt3 : (i3 : Int) < (f.who.length : Int)
  · (try simp only [o_add, o_lss, hlt3, decide_true, condT])
    have hi1 : i3 < f.who.length := by omega
    have hiu : i3 < u.length := by omega
    refine r_load one30 (hS.at m0 9 c9) ?_
    refine r1 (run_wv _ el30 g3 _ i3 hi1 _) ?_
    (try simp only [fa_120_1])
    refine r_store (hS.pick 3) one9 (show i3 * 2 + 1 < _ by rw [wide_flat_len (sz := 2) fun x => rfl]; omega) rfl fun w5 hS => ?_
    rw [wide_set (sz := 2) (fun x => rfl) idM u i3 hiu ⟨u[i3].sch, [120]⟩ 1 _ (by omega) rfl] at hS
    skip
    rw [wr_i64 (x := (i3 : Int) + 1) (by omega) (by omega)]
    have hwx := hwu _ (List.getElem_mem hiu)
    exact ⟨m3' - 1, by omega, i3 + 1, u.set i3 ⟨u[i3].sch, [120]⟩, rfl, by omega, by rw [List.length_set]; exact hu, mem_set_all hwu ⟨hwx.1, by simp⟩, hS.put 3⟩
  (try simp only [o_add, o_lss, hlt3, decide_false, condF])
  refine ⟨fun m y w' => ∃ (i : Nat) (k : List Rq), y = .int .i64 i ∧ m + i = l.length ∧ k.length = l.length ∧ (∀ x ∈ k, WfQ x) ∧ k.map WdQ = l.map WdQ ∧ St o w' (blk gx 33 C :: blk g1 5 (cb (d ++ marks f.data.length)) :: blk g2 122 ((wide enM a).map enC).flatten :: blk g3 120 ((wide idM u).map idC).flatten :: blk g4 33 ((wide rqM k).map Rq.cells).flatten :: satH (l.map WdQ) :: R), ⟨l.length, 0, l, rfl, rfl, rfl, hall, rfl, hS⟩, ?_⟩
  clear hS
  rintro m4' _ w5 ⟨i4, k, rfl, hi4, hk, hwk, hkm, hS⟩ _
  refine r_load one31 (hS.at m0 10 c10) ?_
  refine r1 (run_lenS sl31 _ rfl _ _ _ _ _) ?_
  by_cases hlt4 : (i4 : Int) < (l.length : Int)
  · (try simp only [o_add, o_lss, hlt4, decide_true, condT])
    have hi1 : i4 < l.length := by omega
    have hik : i4 < k.length := by omega
    refine r_load one31 (hS.at m0 10 c10) ?_
    refine r1 (run_wv _ el31 g4 _ i4 hi1 _) ?_
    (try simp only [fa_33_1])
    refine r_store (hS.pick 4) one9 (show i4 * 11 + 1 < _ by rw [wide_flat_len (sz := 11) Rq.cells_len]; omega) rfl fun w6 hS => ?_
    rw [wide_set (sz := 11) Rq.cells_len rqM k i4 hik (pathed k[i4] [47, 121]) 1 (.string { data := #[47, 121] }) (by omega) rfl] at hS
    skip
    rw [wr_i64 (x := (i4 : Int) + 1) (by omega) (by omega)]
    refine ⟨m4' - 1, by omega, i4 + 1, k.set i4 (pathed k[i4] [47, 121]), rfl, by omega, by rw [List.length_set]; exact hk, mem_set_all hwk (pathed_wf (by simp) (hwk _ (List.getElem_mem hik))), ?_, hS.put 4⟩
    rw [List.map_set, pathed_wd, ← hkm]
    have : WdQ k[i4] = (k.map WdQ)[i4]'(by rw [List.length_map]; exact hik) := by simp
    rw [this, List.set_getElem_self]
  (try simp only [o_add, o_lss, hlt4, decide_false, condF])
  refine ⟨.mk ⟨f.kd, f.path, d, a, f.ver, f.eph, f.seq, f.ses, f.tmo, u⟩ (wv g1 f.data.length) (wv g2 f.acl.length) (wv g3 f.who.length) (wv g4 l.length) k, rfl, .mk _ ⟨hf.kd, hf.path, by show d.length ≤ _; omega, ⟨by show a.length * 40 ≤ _; omega, hwa⟩, hf.ver, hf.ses, hf.tmo, ⟨by show u.length * 32 ≤ _; omega, hwu⟩⟩ (by show k.length * 144 ≤ _; omega) hwk, ?_⟩
  rw [WdQ_eq]
  rw [← hkm] at hS
  have b1 : St o w5 (blk g1 5 (cb (d ++ marks d.length)) :: blk g2 122 ((wide enM a).map enC).flatten :: blk g3 120 ((wide idM u).map idC).flatten :: blk g4 33 ((wide rqM k).map Rq.cells).flatten :: satH (k.map WdQ) :: R) := by rw [hd]; exact hS.drop
  have b2 := WdF.shut (f := ⟨f.kd, f.path, d, a, f.ver, f.eph, f.seq, f.ses, f.tmo, u⟩) b1
  have b3 : St o w5 ((fun h => ∃ g : Nat, wv g4 l.length = wv g k.length ∧ blk g 33 ((wide rqM k).map Rq.cells).flatten h) :: satH (k.map WdQ) :: WdF ⟨f.kd, f.path, d, a, f.ver, f.eph, f.seq, f.ses, f.tmo, u⟩ (wv g1 d.length) (wv g2 a.length) (wv g3 u.length) :: R) := (b2.put 2).mono fun h hh => ⟨g4, by rw [hk], hh⟩
  have b4 := b3.sep_intro.swap.sep_intro
  rw [hd, ha, hu] at b4
  exact b4
end
end Go.Proofs.YtpdehbbkpekoiaaGreatDoor

/- TxnWrites: the walk. -/
set_option linter.unusedVariables false
set_option linter.unusedSimpArgs false
namespace Go.Proofs.YtpdehbbkpekoiaaGreatDoor
open Go.Sh
section
variable (Z : List PanicEntry → World → Prop) {o w : World} {R As : List HProp}
/-- What Write answers, of whatever transaction: bytes of one's own, or none. -/
theorem write_own {t : Tx} {r : Value} {w' : World} (h : if chkT t then ∃ v, r = .tuple #[v, .int .i64 0] ∧ St o w' (own 5 1 v (txB t).length (cb (txB t)) :: R) else r = .tuple #[.slice none 0 0, .int .i64 40] ∧ St o w' R) :
    ∃ (v : Value) (l : List UInt8), l = (if chkT t then txB t else []) ∧ l.length ≤ 4096 ∧ r = .tuple #[v, .int .i64 (if chkT t then 0 else 40)] ∧ St o w' (own 5 1 v l.length (cb l) :: R) := by
  by_cases hc : chkT t = true
  · rw [if_pos hc] at h
    obtain ⟨v, hr, hS⟩ := h
    exact ⟨v, txB t, by rw [if_pos hc], txB_len hc, by rw [if_pos hc]; exact hr, hS⟩
  · rw [if_neg hc] at h
    exact ⟨.slice none 0 0, [], by rw [if_neg hc], by simp, by rw [if_neg hc]; exact h.1, h.2.own_nil _ _⟩
theorem row_own {v : Value} {l : List UInt8} {es : List (Value × Nat)} (hl : l.length ≤ 4096) (h : St o w (own 5 1 v l.length (cb l) :: rowsX 5 1 1 es :: R)) : St o w (rowsX 5 1 1 ((v, l.length) :: es) :: R) :=
  rows_cons (p := (v, l.length)) (by show l.length * 1 ≤ _; omega) h
set_option maxRecDepth 100000 in
theorem writesW (t : Tx) (hw : WfQ t.q) (hh : wfH t.hd) (hx : RdQ w t.q) (hN : Names w) (hT : Tab w) :
    CallV Tryz.prog Z 3 #[.agg t.cells.toArray] w fun r w' => r = .bool true ∧ St w w' [old w] := by
  refine f3.calls ?_
  unfold f3.sh
  refine r_box _ _ (St.start w) fun g1 w1 hS => ?_
  have hS : St w w1 (blk g1 35 t.cells :: [old w]) := hS
  refine (worksC Z hN m1 hS).mono fun r w2 ⟨hr, hS⟩ => ?_
  subst hr
  (try simp only [o_not, Bool.not_true, o_pickF, guardW_ff, fa_35_2, Nat.zero_add])
  refine r_loadN ag33 (xs := t.q.cells) rfl (hS.cells_at m0 5 (rq_at t)) ?_
  refine (largeC Z t.q (fun w' hw' => RdQ.of_old _ hx hw' m1) hS).mono fun r w3 ⟨⟨b, hr⟩, hS⟩ => ?_
  subst hr
  refine cond_or (fun _ => ⟨by first | rfl | trivial, hS.drop⟩) fun _ => ?_
  refine r_loadN ag35 (xs := t.cells) rfl (hS.cells_at m0 0 (whole_at _)) ?_
  refine (wideT Z hT m1 t hw (fun w' hw' => RdQ.of_old _ hx hw' m1) hS).mono fun r w4 ⟨t', hr, hh', hs', hS⟩ => ?_
  subst hr
  have hw' := WfQ_st _ _ hs'.symm hw
  have hc : chkT t' = chkT t := chkT_st hh' hs'
  have htb : txB t' = txB t := txB_st hh' hs'
  refine r_alloc hS ze35 fun g4 w5 hS => ?_
  have hqo := (WdQ.rd _ hw' hS.drop).ones
  refine r_storeN hS ag35 (xs := t'.cells) rfl (show 0 + 16 ≤ 16 from Nat.le_refl _) (txC_ones hqo) fun w6 hS => ?_
  rw [setL_all _ _ (by rfl)] at hS
  have hS := hS.put 1
  -- WdQ t'.q :: blk g4 :: blk g1 :: old
  refine r_loadN ag35 (xs := t'.cells) rfl (hS.cells_at m1 0 (whole_at _)) ?_
  refine (writeC Z t' hN m3 (fun w1 hw1 => WdQ.rd _ hw' hw1) hS).mono fun r w7 hr => ?_
  obtain ⟨a, la, hla, hal, hr, hS⟩ := write_own hr
  subst hr
  (try simp only [fa_35_2, Nat.zero_add, o_ext2_1, o_ext2_0])
  refine r_loadN ag35 (xs := t'.cells) rfl (hS.cells_at m2 0 (whole_at _)) ?_
  refine (writeC Z t' hN (by simp) (fun w1 hw1 => WdQ.rd _ hw' hw1.drop) hS).mono fun r w8 hr => ?_
  obtain ⟨b, lb, hlb, hbl, hr, hS⟩ := write_own hr
  subst hr
  (try simp only [o_ext2_1, o_ext2_0])
  refine r_loadN ag35 (xs := t.cells) rfl (hS.cells_at m4 0 (whole_at _)) ?_
  refine (refWrite Z t hh hw (fun w' hw' => RdQ.of_old _ hx hw' m5) hS).mono fun r w9 hr => ?_
  obtain ⟨c, lc, hlc, hcl, hr, hS⟩ := write_own hr
  subst hr
  rw [hc, htb] at hla hlb
  rw [hc]
  have e1 : la = lc := by rw [hla, hlc]
  have e2 : lb = lc := by rw [hlb, hlc]
  rw [e1, e2] at hS
  clear hla hlb hlc hal hbl e1 e2
  obtain ⟨E, hE⟩ : ∃ E : Int, E = if chkT t = true then 0 else 40 := ⟨_, rfl⟩
  rw [← hE]
  have hbn : ∀ x : Int, (x != x) = false := fun x => by simp
  have hbe : ∀ x : Int, (x == x) = true := fun x => by simp
  (try simp only [o_ext2_1, o_ext2_0])
  refine r_loadN ag35 (xs := t'.cells) rfl (hS.cells_at m4 0 (whole_at _)) ?_
  refine r_loadN ag35 (xs := t.cells) rfl (hS.cells_at m5 0 (whole_at _)) ?_
  refine (eqT Z t' t (fun w1 hw1 => WdQ.rd _ hw' hw1.drop.drop.drop) (fun w' hw' => RdQ.of_old _ hx hw' m6) hS).mono fun r w10 ⟨⟨b', hr, hb⟩, hS⟩ => ?_
  subst hr
  rw [hb.2 ⟨hh', hs'⟩]
  (try simp only [o_pickT, guardW_true])
  refine r_loadN ag33 (xs := t'.q.cells) rfl (hS.cells_at m4 5 (rq_at t')) ?_
  refine (spareQ Z hT t'.q hw' (by simp) (hS.pick 3)).mono fun r w11 ⟨hr, hS⟩ => ?_
  subst hr
  have hS := hS.put 3
  (try simp only [o_not, Bool.not_true, o_pickF, guardW_ff])
  refine (eqBytes Z (hS.own_rd m2) (hS.own_rd m0)).mono fun r w12 ⟨hr, hd⟩ => ?_
  subst hr
  have hS := hS.drew hd
  rw [decide_eq_true rfl]
  (try simp only [o_pickT, guardW_true])
  refine (eqBytes Z (hS.own_rd m1) (hS.own_rd m0)).mono fun r w13 ⟨hr, hd⟩ => ?_
  subst hr
  have hS := hS.drew hd
  rw [decide_eq_true rfl]
  (try simp only [o_not, Bool.not_true, o_pickF, guardW_ff, o_neq, hbn, condF])
  refine r_build (cells := (List.replicate 21 (.slice none 0 0)).toArray) (by kernel_rfl) ?_
  refine r_box _ _ hS fun gb w14 hS => ?_
  have hS := bag_new hS
  obtain ⟨aa, ca, eva⟩ := (hS.own_rd m3).form
  obtain ⟨ab, cb', evb⟩ := (hS.own_rd m2).form
  refine (bagAddBytes Z (by rw [eva]; rfl) hS).mono fun r w15 ⟨b', hb', hS⟩ => ?_
  have hb' : b' = [a] := by rw [hb', if_pos (by simp)]; rfl
  subst hb'
  have hS := row_own hcl (rows_empty (e := 5) (sz := 1) (bt := 1) (hS.pick 3)).swap
  refine (bagApart Z (es0 := [(a, lc.length)]) hT (by simp) (hS.pick 1)).mono fun r w16 ⟨hr, hS⟩ => ?_
  subst hr
  refine (eqBytes Z (hS.own_rd m3) (hS.own_rd m2)).mono fun r w17 ⟨hr, hd⟩ => ?_
  subst hr
  have hS := hS.drew hd
  rw [decide_eq_true rfl]
  (try simp only [o_pickT, guardW_true])
  have hS := (hS.pick 5).pick 5
  refine r_loadN ag33 (xs := t'.q.cells) rfl (hS.cells_at m1 5 (rq_at t')) ?_
  refine (turnedC Z t'.q hw' hS).mono fun r w18 ⟨q2, hq2, hw2, hS⟩ => ?_
  obtain ⟨t2, ht2⟩ : ∃ t2 : Tx, t2 = ⟨t'.e, t'.n, t'.sv, t'.bo, t'.nu, q2⟩ := ⟨_, rfl⟩
  have hcells : t'.cells = t2.cells := by rw [ht2]; unfold Tx.cells; rw [hq2]
  have hw2 : WfQ t2.q := by rw [ht2]; exact hw2
  have hh2 : wfH t2.hd := by
    have : t2.hd = t'.hd := by rw [ht2]; rfl
    rw [this, hh']; exact hh
  have hq : q2 = t2.q := by rw [ht2]
  rw [hcells, hq] at hS
  clear ht2 hq hq2
  refine r_loadN ag35 (xs := t2.cells) rfl (hS.cells_at m1 0 (whole_at _)) ?_
  refine (copyT Z t2 hw2 (fun w1 hw1 => WdQ.rd _ hw2 hw1) hS).mono fun r w19 ⟨t3, hr, hh3, hs3, hS⟩ => ?_
  subst hr
  have hw3 := WfQ_st _ _ hs3.symm hw2
  have hc3 : chkT t3 = chkT t2 := chkT_st hh3 hs3
  have htb3 : txB t3 = txB t2 := txB_st hh3 hs3
  refine r_alloc hS ze35 fun g5 w20 hS => ?_
  have hqo3 := (OwQ.rd _ hS.drop).ones
  refine r_storeN hS ag35 (xs := t3.cells) rfl (show 0 + 16 ≤ 16 from Nat.le_refl _) (txC_ones hqo3) fun w21 hS => ?_
  rw [setL_all _ _ (by rfl)] at hS
  -- blk g5 :: OwQ t3.q :: WdQ t2.q :: blk g4 :: ..
  refine r_loadN ag35 (xs := t2.cells) rfl (hS.cells_at m3 0 (whole_at _)) ?_
  refine (writeC Z t2 hN (by simp) (fun w1 hw1 => WdQ.rd _ hw2 hw1.drop.drop) hS).mono fun r w22 hr => ?_
  obtain ⟨d, ld, hld, hdl, hr, hS⟩ := write_own hr
  subst hr
  (try simp only [o_ext2_1, o_ext2_0])
  refine r_loadN ag35 (xs := t3.cells) rfl (hS.cells_at m1 0 (whole_at _)) ?_
  refine (refWrite Z t3 (by rw [hh3]; exact hh2) hw3 (fun w1 hw1 => OwQ.rd _ hw1.drop.drop) hS).mono fun r w23 hr => ?_
  obtain ⟨e, le, hle, hel, hr, hS⟩ := write_own hr
  subst hr
  rw [hc3, htb3] at hle
  rw [hc3]
  have e3 : ld = le := by rw [hld, hle]
  rw [e3] at hS
  clear hld hdl e3
  obtain ⟨E2, hE2⟩ : ∃ E : Int, E = if chkT t2 = true then 0 else 40 := ⟨_, rfl⟩
  rw [← hE2]
  (try simp only [o_ext2_1, o_ext2_0])
  -- own e :: own d :: blk g5 :: OwQ :: WdQ :: blk g4 :: bag :: rows (4) :: own c :: own b :: blk g1 :: old
  obtain ⟨ad, cd, evd⟩ := (hS.own_rd m1).form
  refine (bagAddBytes Z (l := b) (by rw [evb]; rfl) (hS.pick 6)).mono fun r w24 ⟨b', hb', hS⟩ => ?_
  have hb' : b' = [a, b] := by rw [hb', if_pos (by simp)]; rfl
  subst hb'
  refine (bagAddBytes Z (l := d) (by rw [evd]; rfl) hS).mono fun r w25 ⟨b', hb', hS⟩ => ?_
  have hb' : b' = [a, b, d] := by rw [hb', if_pos (by simp)]; rfl
  subst hb'
  -- bag :: own e :: own d :: blk g5 :: OwQ :: WdQ :: blk g4 :: rows (4) :: own c :: own b :: ..
  refine (eqBytes Z (hS.own_rd m2) (hS.own_rd m1)).mono fun r w26 ⟨hr, hd⟩ => ?_
  subst hr
  have hS := hS.drew hd
  rw [decide_eq_true rfl]
  (try simp only [o_pickT, guardW_true, o_eql, hbe])
  have hS := row_own hel (rows_empty (e := 5) (sz := 1) (bt := 1) (hS.pick 2)).swap
  -- rows d :: bag :: own e :: blk g5 :: OwQ :: WdQ :: blk g4 :: rows (4) :: own c :: own b :: ..
  have hS := row_own hcl ((hS.pick 9))
  have hS := rows_join (hS.pick 7)
  refine (bagApart Z (es0 := [(a, lc.length), (b, lc.length), (d, le.length)]) hT (by simp) (hS.pick 1)).mono fun r w27 ⟨hr, hS⟩ => ?_
  subst hr
  (try simp only [])
  exact ⟨by first | rfl | trivial, hS.drop.drop.drop.drop.drop.drop.drop.drop.drop⟩
end
end Go.Proofs.YtpdehbbkpekoiaaGreatDoor

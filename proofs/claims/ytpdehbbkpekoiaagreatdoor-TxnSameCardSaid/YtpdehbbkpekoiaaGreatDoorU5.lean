/- A request's lists are written over where they lie. -/
import Derived.Test.YtpdehbbkpekoiaaGreatDoorT38
import Derived.Test.YtpdehbbkpekoiaaGreatDoorQ2
import Derived.Test.YtpdehbbkpekoiaaGreatDoorShTwin
set_option linter.unusedVariables false
set_option linter.unusedSimpArgs false
namespace Go.Proofs.YtpdehbbkpekoiaaGreatDoor
open Go.Sh
theorem flat_set {α : Type} {C : α → List Value} {sz : Nat} (hC : ∀ x, (C x).length = sz) (A B : List α) (x y : α) (j : Nat) (u : Value) (hj : j < sz) (h : (C x).set j u = C y) :
    ((A ++ x :: B).map C).flatten.set (A.length * sz + j) u = ((A ++ y :: B).map C).flatten := by
  have hl : (A.map C).flatten.length = A.length * sz := by
    rw [len_flatten_of (sz := sz) (fun c hc => by obtain ⟨x, _, rfl⟩ := List.mem_map.1 hc; exact hC x), List.length_map]
  simp only [List.map_append, List.map_cons, List.flatten_append, List.flatten_cons]
  rw [List.set_append_right _ _ (by omega), hl, show A.length * sz + j - A.length * sz = j by omega, List.set_append_left _ _ (by rw [hC]; exact hj), h]
theorem wide_set {α : Type} {C : α → List Value} {sz : Nat} (hC : ∀ x, (C x).length = sz) (M : Nat → α) (l : List α) (i : Nat) (hi : i < l.length) (y : α) (j : Nat) (u : Value) (hj : j < sz) (h : (C l[i]).set j u = C y) :
    ((wide M l).map C).flatten.set (i * sz + j) u = ((wide M (l.set i y)).map C).flatten := by
  have e1 : wide M l = l.take i ++ l[i] :: (l.drop (i + 1) ++ (List.range 64).map fun k => M (l.length + k)) := by
    unfold wide
    conv => lhs; lhs; rw [← List.take_append_drop i l, List.drop_eq_getElem_cons hi]
    rw [List.append_assoc, List.cons_append]
  have e2 : wide M (l.set i y) = l.take i ++ y :: (l.drop (i + 1) ++ (List.range 64).map fun k => M (l.length + k)) := by
    unfold wide
    rw [List.length_set, List.set_eq_take_append_cons_drop, if_pos hi, List.append_assoc, List.cons_append]
  have hl : (l.take i).length = i := by rw [List.length_take]; omega
  rw [e1, e2, ← flat_set hC (l.take i) _ l[i] y j u hj h, hl]
theorem wide_at {α : Type} {C : α → List Value} {sz : Nat} (hC : ∀ x, (C x).length = sz) (M : Nat → α) (l : List α) (i : Nat) (hi : i < l.length) (j : Nat) (u : Value) (hu : (C l[i])[j]? = some u) : ((wide M l).map C).flatten[i * sz + j]? = some u :=
  flatM_at hC _ i j l[i] u (wide_lo _ _ _ hi) hu
theorem wide_flat_len {α : Type} {C : α → List Value} {sz : Nat} (hC : ∀ x, (C x).length = sz) (M : Nat → α) (l : List α) : ((wide M l).map C).flatten.length = (l.length + 64) * sz := by
  rw [len_flatten_of (sz := sz) (fun c hc => by obtain ⟨x, _, rfl⟩ := List.mem_map.1 hc; exact hC x), List.length_map, wide_len]
theorem run_wv (P : Program) {t e : TypeId} {sz bt : Nat} {z : Value} (hel : El P t e sz bt z) (g n i : Nat) (hi : i < n) (w : World) : (Instr.indexAt t (wv g n) (.int .i64 i)).run P w = .ok (.pointer (some ⟨g, i * sz, none⟩)) w := by
  obtain ⟨info, hinfo, hs, _, _⟩ := hel.info
  have := run_indexAt hel.ht hinfo g 0 n (n + 64) .i64 (i : Int) (by omega) (by omega) w
  rw [hs, Nat.zero_add, Int.toNat_natCast] at this
  exact this
def pathed (x : Rq) (p : List UInt8) : Rq := .mk ⟨x.f.kd, p, x.f.data, x.f.acl, x.f.ver, x.f.eph, x.f.seq, x.f.ses, x.f.tmo, x.f.who⟩ x.vd x.va x.vw x.vo x.ops
theorem pathed_wd (x : Rq) (p : List UInt8) : WdQ (pathed x p) = WdQ x := by
  rw [WdQ_eq, WdQ_eq x]
  rfl
theorem pathed_wf {x : Rq} {p : List UInt8} (hp : p.length ≤ 140737488351232) (h : WfQ x) : WfQ (pathed x p) := by
  have hf := h.flat
  exact .mk _ ⟨hf.kd, hp, hf.data, hf.acl, hf.ver, hf.ses, hf.tmo, hf.who⟩ h.len h.all
theorem i8_range (x : Int) : -128 ≤ IntKind.i8.wrap x ∧ IntKind.i8.wrap x ≤ 127 := by
  rw [wrap_i8]
  split <;> omega
theorem mem_set_all {α : Type} {p : α → Prop} {l : List α} {i : Nat} {y : α} (h : ∀ x ∈ l, p x) (hy : p y) : ∀ x ∈ l.set i y, p x := fun x hx => by
  rcases List.mem_or_eq_of_mem_set hx with h1 | rfl
  · exact h x h1
  · exact hy
section
variable (Z : List PanicEntry → World → Prop) {o w : World} {R : List HProp}
set_option maxRecDepth 100000 in
theorem turnedC (q : Rq) (hw : WfQ q) (h : St o w (WdQ q :: R)) : CallV Tryz.prog Z 16 #[.agg q.cells.toArray] w fun r w' => ∃ q2 : Rq, q2.cells = q.cells ∧ WfQ q2 ∧ St o w' (WdQ q2 :: R) := by
  rw [WdQ_eq] at h
  cases q with
  | mk f vd va vw vo l =>
  have hf : WfF f := hw.flat
  have hlen : l.length * 144 ≤ 140737488351232 := hw.len
  have hall : ∀ x ∈ l, WfQ x := hw.all
  have h : St o w (sep (WdF f vd va vw) (sep (fun h => ∃ g : Nat, vo = wv g l.length ∧ blk g 33 ((wide rqM l).map Rq.cells).flatten h) (satH (l.map WdQ))) :: R) := h
  clear hw
  have h1 := h.sep
  have h2 := h1.swap.sep
  obtain ⟨g4, h3⟩ := h2.ex
  obtain ⟨hvo, h3⟩ := h3.pure
  obtain ⟨g1, g2, g3, ⟨hvd, hva, hvw⟩, h4⟩ := WdF.open (h3.pick 2)
  subst hvo hvd hva hvw
  clear h h1 h2 h3
  refine f16.calls ?_
  unfold f16.sh
  refine r_box _ _ h4 fun gx w1 hS => ?_
  clear h4
  obtain ⟨C, hC⟩ : ∃ C, C = rqC f (wv g1 f.data.length) (wv g2 f.acl.length) (wv g3 f.who.length) (wv g4 l.length) := ⟨_, rfl⟩
  have hS : St o w1 (blk gx 33 C :: blk g1 5 (cb (f.data ++ marks f.data.length)) :: blk g2 122 ((wide enM f.acl).map enC).flatten :: blk g3 120 ((wide idM f.who).map idC).flatten :: blk g4 33 ((wide rqM l).map Rq.cells).flatten :: satH (l.map WdQ) :: R) := by rw [hC]; exact hS
  have c2 : C[2]? = some (wv g1 f.data.length) := by rw [hC]; rfl
  have c3 : C[3]? = some (wv g2 f.acl.length) := by rw [hC]; rfl
  have c9 : C[9]? = some (wv g3 f.who.length) := by rw [hC]; rfl
  have c10 : C[10]? = some (wv g4 l.length) := by rw [hC]; rfl
  have n1 : f.data.length ≤ 140737488351232 := hf.data
  have n2 : f.acl.length * 40 ≤ 140737488351232 := hf.acl.1
  have n3 : f.who.length * 32 ≤ 140737488351232 := hf.who.1
  have n4 : l.length * 144 ≤ 140737488351232 := hlen
  refine ⟨fun m y w' => ∃ (i : Nat) (d : List UInt8), y = .int .i64 i ∧ m + i = f.data.length ∧ d.length = f.data.length ∧ St o w' (blk gx 33 C :: blk g1 5 (cb (d ++ marks f.data.length)) :: blk g2 122 ((wide enM f.acl).map enC).flatten :: blk g3 120 ((wide idM f.who).map idC).flatten :: blk g4 33 ((wide rqM l).map Rq.cells).flatten :: satH (l.map WdQ) :: R), ⟨f.data.length, 0, f.data, rfl, rfl, rfl, hS⟩, ?_⟩
  clear hS
  rintro m _ w2 ⟨i, d, rfl, hi, hd, hS⟩ _
  (try simp only [o_add, fa_33_2p, Nat.zero_add, fa_33_3p, fa_33_9, fa_33_10, fa_33_3, fa_33_2])
  refine r_load one28 (hS.at m0 2 c2) ?_
  refine r1 (run_lenS sl28 _ rfl _ _ _ _ _) ?_
  by_cases hlt : (i : Int) < (f.data.length : Int)
  · (try simp only [o_lss, hlt, decide_true, condT])
    refine ⟨fun w3 hdr => ?_⟩
    have hS := hS.drew hdr
    have hi1 : i < f.data.length := by omega
    refine rr_load one28 (hS.at m0 2 c2) ?_
    skip
    refine rr_load one28 (hS.at m0 2 c2) ?_
    refine rp (fun w => run_wv _ el28 g1 _ i hi1 w) ?_
    rw [Nat.mul_one]
    have hc : w3.cell? ⟨g1, i, none⟩ = some (.int .u8 (d[i].toNat : Int)) := hS.at m1 i (by rw [cb_append, List.getElem?_append_left (by rw [cb_length]; omega), cb_at (by omega)])
    refine rr_load one5 hc ?_
    refine rp (fun w => run_xor _ w _ _ _ _) ?_
    refine rp (fun w => run_wv _ el28 g1 _ i hi1 w) ?_
    rw [Nat.mul_one]
    obtain ⟨b, hb⟩ := u8_some ((BitVec.ofInt IntKind.u8.bits (d[i].toNat : Int) ^^^ BitVec.ofInt IntKind.u8.bits 3).toNat : Int)
    rw [hb]
    refine r_store (hS.pick 1) one5 (by rw [cb_length, List.length_append]; omega) rfl fun w4 hS => ?_
    rw [cb_set, List.set_append_left _ _ (by omega)] at hS
    skip
    rw [wr_i64 (x := (i : Int) + 1) (by omega) (by omega)]
    exact ⟨m - 1, by omega, i + 1, d.set i b, rfl, by omega, by rw [List.length_set]; exact hd, hS.swap⟩
  (try simp only [o_lss, hlt, decide_false, condF])
  refine ⟨fun m y w' => ∃ (i : Nat) (a : List En), y = .int .i64 i ∧ m + i = f.acl.length ∧ a.length = f.acl.length ∧ (∀ x ∈ a, wfEn x) ∧ St o w' (blk gx 33 C :: blk g1 5 (cb (d ++ marks f.data.length)) :: blk g2 122 ((wide enM a).map enC).flatten :: blk g3 120 ((wide idM f.who).map idC).flatten :: blk g4 33 ((wide rqM l).map Rq.cells).flatten :: satH (l.map WdQ) :: R), ⟨f.acl.length, 0, f.acl, rfl, rfl, rfl, hf.acl.2, hS⟩, ?_⟩
  clear hS
  rintro mB _ w3 ⟨i2, a, rfl, hi2, ha, hwa, hS⟩ _
  refine r_load one29 (hS.at m0 3 c3) ?_
  refine r1 (run_lenS sl29 _ rfl _ _ _ _ _) ?_
  by_cases hlt2 : (i2 : Int) < (f.acl.length : Int)
  · (try simp only [o_add, o_lss, hlt2, decide_true, condT])
    refine ⟨fun w4 hdr => ?_⟩
    have hS := hS.drew hdr
    have hi1 : i2 < f.acl.length := by omega
    have hia : i2 < a.length := by omega
    refine rr_load one29 (hS.at m0 3 c3) ?_
    skip
    refine rr_load one29 (hS.at m0 3 c3) ?_
    refine rp (fun w => run_wv _ el29 g2 _ i2 hi1 w) ?_
    (try simp only [fa_122_0p, Nat.add_zero])
    refine rr_load one25 (hS.at m2 (i2 * 3 + 0) (wide_at (C := enC) (sz := 3) (fun x => rfl) enM a i2 hia 0 (.int .i8 a[i2].perms) rfl)) ?_
    refine rp (fun w => run_xor _ w _ _ _ _) ?_
    refine rp (fun w => run_wv _ el29 g2 _ i2 hi1 w) ?_
    (try simp only [fa_122_0p, Nat.add_zero])
    have hrg := i8_range ((BitVec.ofInt IntKind.i8.bits a[i2].perms ^^^ BitVec.ofInt IntKind.i8.bits 1).toNat : Int)
    generalize IntKind.i8.wrap ((BitVec.ofInt IntKind.i8.bits a[i2].perms ^^^ BitVec.ofInt IntKind.i8.bits 1).toNat : Int) = pp at *
    refine r_store (hS.pick 2) one25 (show i2 * 3 + 0 < _ by rw [wide_flat_len (sz := 3) fun x => rfl]; omega) rfl fun w5 hS => ?_
    have eset := wide_set (C := enC) (sz := 3) (fun x => rfl) enM a i2 hia ⟨pp, a[i2].who⟩ 0 (.int .i8 pp) (by omega) rfl
    rw [Nat.add_zero] at eset
    rw [eset] at hS
    skip
    rw [wr_i64 (x := (i2 : Int) + 1) (by omega) (by omega)]
    have hwx := hwa _ (List.getElem_mem hia)
    exact ⟨mB - 1, by omega, i2 + 1, a.set i2 ⟨pp, a[i2].who⟩, rfl, by omega, by rw [List.length_set]; exact ha, mem_set_all hwa ⟨hrg, hwx.2⟩, hS.put 2⟩
  (try simp only [o_add, o_lss, hlt2, decide_false, condF])
  refine ⟨fun m y w' => ∃ (i : Nat) (u : List Idd), y = .int .i64 i ∧ m + i = f.who.length ∧ u.length = f.who.length ∧ (∀ x ∈ u, wfId x) ∧ St o w' (blk gx 33 C :: blk g1 5 (cb (d ++ marks f.data.length)) :: blk g2 122 ((wide enM a).map enC).flatten :: blk g3 120 ((wide idM u).map idC).flatten :: blk g4 33 ((wide rqM l).map Rq.cells).flatten :: satH (l.map WdQ) :: R), ⟨f.who.length, 0, f.who, rfl, rfl, rfl, hf.who.2, hS⟩, ?_⟩
  clear hS
  rintro m3' _ w4 ⟨i3, u, rfl, hi3, hu, hwu, hS⟩ _
  refine r_load one30 (hS.at m0 9 c9) ?_
  refine r1 (run_lenS sl30 _ rfl _ _ _ _ _) ?_
  by_cases hlt3 : (i3 : Int) < (f.who.length : Int)
  · (try simp only [o_add, o_lss, hlt3, decide_true, condT])
    have hi1 : i3 < f.who.length := by omega
    have hiu : i3 < u.length := by omega
    refine r_load one30 (hS.at m0 9 c9) ?_
    refine r1 (run_wv _ el30 g3 _ i3 hi1 _) ?_
    (try simp only [fa_120_1])
    refine r_store (hS.pick 3) one9 (show i3 * 2 + 1 < _ by rw [wide_flat_len (sz := 2) fun x => rfl]; omega) rfl fun w5 hS => ?_
    rw [wide_set (sz := 2) (fun x => rfl) idM u i3 hiu ⟨u[i3].sch, [120]⟩ 1 _ (by omega) rfl] at hS
    skip
    rw [wr_i64 (x := (i3 : Int) + 1) (by omega) (by omega)]
    have hwx := hwu _ (List.getElem_mem hiu)
    exact ⟨m3' - 1, by omega, i3 + 1, u.set i3 ⟨u[i3].sch, [120]⟩, rfl, by omega, by rw [List.length_set]; exact hu, mem_set_all hwu ⟨hwx.1, by simp⟩, hS.put 3⟩
  (try simp only [o_add, o_lss, hlt3, decide_false, condF])
  refine ⟨fun m y w' => ∃ (i : Nat) (k : List Rq), y = .int .i64 i ∧ m + i = l.length ∧ k.length = l.length ∧ (∀ x ∈ k, WfQ x) ∧ k.map WdQ = l.map WdQ ∧ St o w' (blk gx 33 C :: blk g1 5 (cb (d ++ marks f.data.length)) :: blk g2 122 ((wide enM a).map enC).flatten :: blk g3 120 ((wide idM u).map idC).flatten :: blk g4 33 ((wide rqM k).map Rq.cells).flatten :: satH (l.map WdQ) :: R), ⟨l.length, 0, l, rfl, rfl, rfl, hall, rfl, hS⟩, ?_⟩
  clear hS
  rintro m4' _ w5 ⟨i4, k, rfl, hi4, hk, hwk, hkm, hS⟩ _
  refine r_load one31 (hS.at m0 10 c10) ?_
  refine r1 (run_lenS sl31 _ rfl _ _ _ _ _) ?_
  by_cases hlt4 : (i4 : Int) < (l.length : Int)
  · (try simp only [o_add, o_lss, hlt4, decide_true, condT])
    have hi1 : i4 < l.length := by omega
    have hik : i4 < k.length := by omega
    refine r_load one31 (hS.at m0 10 c10) ?_
    refine r1 (run_wv _ el31 g4 _ i4 hi1 _) ?_
    (try simp only [fa_33_1])
    refine r_store (hS.pick 4) one9 (show i4 * 11 + 1 < _ by rw [wide_flat_len (sz := 11) Rq.cells_len]; omega) rfl fun w6 hS => ?_
    rw [wide_set (sz := 11) Rq.cells_len rqM k i4 hik (pathed k[i4] [47, 121]) 1 (.string { data := #[47, 121] }) (by omega) rfl] at hS
    skip
    rw [wr_i64 (x := (i4 : Int) + 1) (by omega) (by omega)]
    refine ⟨m4' - 1, by omega, i4 + 1, k.set i4 (pathed k[i4] [47, 121]), rfl, by omega, by rw [List.length_set]; exact hk, mem_set_all hwk (pathed_wf (by simp) (hwk _ (List.getElem_mem hik))), ?_, hS.put 4⟩
    rw [List.map_set, pathed_wd, ← hkm]
    have : WdQ k[i4] = (k.map WdQ)[i4]'(by rw [List.length_map]; exact hik) := by simp
    rw [this, List.set_getElem_self]
  (try simp only [o_add, o_lss, hlt4, decide_false, condF])
  refine ⟨.mk ⟨f.kd, f.path, d, a, f.ver, f.eph, f.seq, f.ses, f.tmo, u⟩ (wv g1 f.data.length) (wv g2 f.acl.length) (wv g3 f.who.length) (wv g4 l.length) k, rfl, .mk _ ⟨hf.kd, hf.path, by show d.length ≤ _; omega, ⟨by show a.length * 40 ≤ _; omega, hwa⟩, hf.ver, hf.ses, hf.tmo, ⟨by show u.length * 32 ≤ _; omega, hwu⟩⟩ (by show k.length * 144 ≤ _; omega) hwk, ?_⟩
  rw [WdQ_eq]
  rw [← hkm] at hS
  have b1 : St o w5 (blk g1 5 (cb (d ++ marks d.length)) :: blk g2 122 ((wide enM a).map enC).flatten :: blk g3 120 ((wide idM u).map idC).flatten :: blk g4 33 ((wide rqM k).map Rq.cells).flatten :: satH (k.map WdQ) :: R) := by rw [hd]; exact hS.drop
  have b2 := WdF.shut (f := ⟨f.kd, f.path, d, a, f.ver, f.eph, f.seq, f.ses, f.tmo, u⟩) b1
  have b3 : St o w5 ((fun h => ∃ g : Nat, wv g4 l.length = wv g k.length ∧ blk g 33 ((wide rqM k).map Rq.cells).flatten h) :: satH (k.map WdQ) :: WdF ⟨f.kd, f.path, d, a, f.ver, f.eph, f.seq, f.ses, f.tmo, u⟩ (wv g1 d.length) (wv g2 a.length) (wv g3 u.length) :: R) := (b2.put 2).mono fun h hh => ⟨g4, by rw [hk], hh⟩
  have b4 := b3.sep_intro.swap.sep_intro
  rw [hd, ha, hu] at b4
  exact b4
end
end Go.Proofs.YtpdehbbkpekoiaaGreatDoor

/- A request's lists are put into a Bag. -/
set_option linter.unusedVariables false
set_option linter.unusedSimpArgs false
namespace Go.Proofs.YtpdehbbkpekoiaaGreatDoor
open Go.Sh
def newR (n0 n1 n2 n3 : List (Value × Nat)) : HProp := satH [rowsX 5 1 1 n0, rowsX 120 2 32 n1, rowsX 122 3 40 n2, rowsX 33 11 144 n3]
section
variable {o w : World} {R : List HProp} {n0 n1 n2 n3 k0 k1 k2 k3 : List (Value × Nat)}
theorem newR.open (h : St o w (newR n0 n1 n2 n3 :: R)) : St o w (rowsX 5 1 1 n0 :: rowsX 120 2 32 n1 :: rowsX 122 3 40 n2 :: rowsX 33 11 144 n3 :: R) := h.all
theorem newR.shut (h : St o w (rowsX 5 1 1 n0 :: rowsX 120 2 32 n1 :: rowsX 122 3 40 n2 :: rowsX 33 11 144 n3 :: R)) : St o w (newR n0 n1 n2 n3 :: R) := St.all_intro h
theorem newR.none (h : St o w R) : St o w (newR [] [] [] [] :: R) := newR.shut (rows_empty (rows_empty (rows_empty (rows_empty h))))
theorem newR.join (h : St o w (newR n0 n1 n2 n3 :: newR k0 k1 k2 k3 :: R)) : St o w (newR (n0 ++ k0) (n1 ++ k1) (n2 ++ k2) (n3 ++ k3) :: R) := by
  have a := newR.open ((newR.open h).pick 4)
  -- k0 k1 k2 k3 n0 n1 n2 n3
  have a := (rows_join (a.pick 4)).put 6
  -- k1 k2 k3 n1 n2 n3 j0
  have a := (rows_join (a.pick 3)).put 5
  -- k2 k3 n2 n3 j0 j1
  have a := (rows_join (a.pick 2)).put 4
  -- k3 n3 j0 j1 j2
  have a := (rows_join (a.pick 1)).put 3
  exact newR.shut a
theorem add_row {e : TypeId} {sz bt n : Nat} {l : Value} {xs b b' : List Value} (hb : b' = if b.length < 600 then b ++ [l] else b) (hbd : n * bt ≤ 140737488351232) (h : St o w (own e sz l n xs :: R)) : ∃ nn : List (Value × Nat), b' = b ++ nn.map Prod.fst ∧ St o w (rowsX e sz bt nn :: R) := by
  by_cases hl : b.length < 600
  · rw [if_pos hl] at hb
    exact ⟨[(l, n)], hb, rows_cons (p := (l, n)) hbd ((rows_empty h).swap)⟩
  · rw [if_neg hl] at hb
    exact ⟨[], by rw [hb]; simp, rows_empty h.drop⟩
end
section
variable (Z : List PanicEntry → World → Prop) {o w : World} {R : List HProp} {g : Nat} {b0 b1 b2 b3 : List Value}
def AddsQ (g : Nat) (o : World) (q : Rq) : Prop := ∀ {w : World} {R : List HProp} {b0 b1 b2 b3 : List Value}, St o w (bagP g b0 b1 b2 b3 :: OwQ q :: R) → CallV Tryz.prog Z 22 #[.pointer (some ⟨g, 0, none⟩), .agg q.cells.toArray] w fun r w' =>
    ∃ n0 n1 n2 n3 : List (Value × Nat), St o w' (bagP g (b0 ++ n0.map Prod.fst) (b1 ++ n1.map Prod.fst) (b2 ++ n2.map Prod.fst) (b3 ++ n3.map Prod.fst) :: newR n0 n1 n2 n3 :: R)
set_option maxRecDepth 100000 in
theorem addReqs {v : Value} (l : List Rq) (hwl : l.length * 144 ≤ 140737488351232) (ih : ∀ x ∈ l, AddsQ Z g o x) (h : St o w (bagP g b0 b1 b2 b3 :: own 33 11 v l.length (l.map Rq.cells).flatten :: satH (l.map OwQ) :: R)) :
    CallV Tryz.prog Z 80 #[.pointer (some ⟨g, 0, none⟩), v] w fun r w' =>
      ∃ n0 n1 n2 n3 : List (Value × Nat), St o w' (bagP g (b0 ++ n0.map Prod.fst) (b1 ++ n1.map Prod.fst) (b2 ++ n2.map Prod.fst) (b3 ++ n3.map Prod.fst) :: newR n0 n1 n2 n3 :: R) := by
  obtain ⟨a, c, rfl⟩ := (h.own_rd m1).form
  refine f80.calls ?_
  unfold f80.sh
  intro j hj
  refine bagPushRequests Z rfl h fun b' w1 hb hS => ?_
  refine hj w1 fun _ => ?_
  clear hj h
  refine ⟨fun m y w' => ∃ (i : Nat) (n0 n1 n2 n3 : List (Value × Nat)), y = .int .i64 i ∧ m + i = l.length ∧ St o w' (bagP g (b0 ++ n0.map Prod.fst) (b1 ++ n1.map Prod.fst) (b2 ++ n2.map Prod.fst) (b' ++ n3.map Prod.fst) :: newR n0 n1 n2 n3 :: own 33 11 (.slice a l.length c) l.length (l.map Rq.cells).flatten :: satH ((l.drop i).map OwQ) :: R),
    ⟨l.length, 0, [], [], [], [], rfl, rfl, ?_⟩, ?_⟩
  · simp only [List.map_nil, List.append_nil, List.drop_zero]
    exact (newR.none hS).swap
  clear hS
  rintro m _ w2 ⟨i, n0, n1, n2, n3, rfl, hi, hS⟩ _
  have fin : ∃ n0 n1 n2 n3 : List (Value × Nat), St o w2 (bagP g (b0 ++ n0.map Prod.fst) (b1 ++ n1.map Prod.fst) (b2 ++ n2.map Prod.fst) (b3 ++ n3.map Prod.fst) :: newR n0 n1 n2 n3 :: R) := by
    have hS := (hS.pick 3).drop
    by_cases hl : b3.length < 600
    · rw [if_pos hl] at hb
      have a1 := newR.open (hS.swap)
      -- r0 r1 r2 r3 bag own R
      have a2 := rows_cons (bt := 144) (p := (.slice a l.length c, l.length)) hwl ((a1.pick 3).pick 5)
      refine ⟨n0, n1, n2, (.slice a l.length c, l.length) :: n3, ?_⟩
      rw [hb] at a2
      have e : b3 ++ ((Value.slice a l.length c, l.length) :: n3).map Prod.fst = (b3 ++ [.slice a l.length c]) ++ n3.map Prod.fst := by simp
      rw [e]
      exact (newR.shut (a2.put 3)).swap
    · rw [if_neg hl] at hb
      rw [hb] at hS
      exact ⟨n0, n1, n2, n3, (hS.pick 2).drop⟩
  by_cases hlt : (i : Int) < (l.length : Int)
  · by_cases h6 : (i : Int) < 600
    · have hil : i < l.length := by omega
      have hmem : l[i] ∈ l := List.getElem_mem hil
      (try simp only [o_add, ln_31_3, o_lss, hlt, decide_true, o_pickT, guardW_true, h6, condT])
      clear fin
      obtain ⟨b, p, cs, hp, _, hcv, hc⟩ := (rowR_rd (c := Rq.cells) Rq.cells_len (hS.own_rd m2) rfl).ix el31 .i64 i hil
      subst hcv
      refine r1 (hp _) (r_loadN ag33 (xs := l[i].cells) rfl (fun j u hu => by rw [add_addr]; exact hc j u hu) ?_)
      have hS := hS.pick 3
      rw [List.drop_eq_getElem_cons hil, List.map_cons] at hS
      have hS := (hS.all_cons).pick 2
      refine (ih l[i] hmem hS).mono fun r w3 ⟨k0, k1, k2, k3, hS⟩ => ?_
      -- bag :: newR k :: satH :: newR n :: own :: R
      have hS := newR.join ((hS.pick 1).pick 3)
      -- newR (n ++ k) :: bag :: satH :: own :: R
      skip
      rw [wr_i64 (x := (i : Int) + 1) (by omega) (by omega)]
      refine ⟨m - 1, by omega, i + 1, n0 ++ k0, n1 ++ k1, n2 ++ k2, n3 ++ k3, rfl, by omega, ?_⟩
      simp only [List.map_append, ← List.append_assoc]
      (try simp? only [List.map_append, ← List.append_assoc] at hS)
      exact (hS.swap).pick 3 |>.put 2 |>.pick 0
    · (try simp only [o_add, ln_31_3, o_lss, hlt, decide_true, o_pickT, guardW_true, h6, decide_false, condF])
      exact fin
  · (try simp only [o_add, ln_31_3, o_lss, hlt, decide_false, o_pickF, condF, guardW_ft])
    exact fin
theorem addReq (q : Rq) (hw : WfQ q) : AddsQ Z g o q := by
  induction q using Rq.ind with | h q ih => ?_
  intro w R b0 b1 b2 b3 h
  have hf := hw.flat
  have hwl := hw.len
  refine f22.calls ?_
  unfold f22.sh
  have h := h.swap
  rw [OwQ_eq] at h
  have hd := h.sep.sep
  have h2 := hd.swap.sep
  -- acl :: ids :: bytes :: sep ops :: bag :: R
  have h3 := (h2.pick 3).sep
  -- ops :: satH :: acl :: ids :: bytes :: bag :: R
  have o0 := St.own_one h3
  have o1 := St.own_one (h3.pick 2)
  have o2 := St.own_one (h3.pick 3)
  have o3 := St.own_one (h3.pick 4)
  refine r_box _ _ h3 fun gx w1 hS => ?_
  have hS : St o w1 (blk gx 33 q.cells :: _) := hS
  (try simp only [fa_33_10, Nat.zero_add, fa_33_9, fa_33_3, fa_33_2])
  refine r_load one28 (hS.at m0 2 rfl) ?_
  -- blk :: ops :: satH :: acl :: ids :: bytes :: bag :: R
  refine (bagAddBytes Z o3 (hS.pick 6)).mono fun r w2 ⟨c0, hc0, hS⟩ => ?_
  obtain ⟨n0, e0, hS⟩ := add_row (bt := 1) hc0 (by have := hf.data; omega) (hS.pick 6)
  subst e0
  -- rows0 :: bag :: blk :: ops :: satH :: acl :: ids :: R
  skip
  refine r_load one29 (hS.at m2 3 rfl) ?_
  refine (bagAddAcl Z o1 (hS.pick 1)).mono fun r w3 ⟨c2, hc2, hS⟩ => ?_
  obtain ⟨n2, e2, hS⟩ := add_row (bt := 40) hc2 (by exact hf.acl.1) (hS.pick 5)
  subst e2
  -- rows2 :: bag :: rows0 :: blk :: ops :: satH :: ids :: R
  skip
  refine r_load one30 (hS.at m3 9 rfl) ?_
  refine (bagAddIds Z o2 (hS.pick 1)).mono fun r w4 ⟨c1, hc1, hS⟩ => ?_
  obtain ⟨n1, e1, hS⟩ := add_row (bt := 32) hc1 (by exact hf.who.1) (hS.pick 6)
  subst e1
  -- rows1 :: bag :: rows2 :: rows0 :: blk :: ops :: satH :: R
  skip
  refine r_load one31 (hS.at m4 10 rfl) ?_
  have hS := ((hS.pick 6).pick 6).pick 3
  -- bag :: ops :: satH :: rows1 :: rows2 :: rows0 :: blk :: R
  refine (addReqs Z q.ops hwl (fun x hx => ih x hx (hw.all x hx)) hS).mono fun r w5 ⟨k0, k1, k2, k3, hS⟩ => ?_
  -- bag :: newR k :: rows1 :: rows2 :: rows0 :: blk :: R
  have a := rows_empty (e := 33) (sz := 11) (bt := 144) hS
  -- rows3 :: bag :: newR :: rows1 :: rows2 :: rows0 :: blk
  have a := ((a.pick 4).pick 4).pick 5
  -- rows0 rows1 rows2 rows3 bag newR blk
  have a := newR.shut a
  have a := newR.join (a.pick 2 |>.swap)
  refine ⟨n0 ++ k0, n1 ++ k1, n2 ++ k2, [] ++ k3, ?_⟩
  simp only [List.map_append, ← List.append_assoc] at a ⊢
  simp only [List.nil_append, List.map_nil, List.append_nil] at a ⊢
  exact (a.pick 2).drop.swap
end
end Go.Proofs.YtpdehbbkpekoiaaGreatDoor

/- Clone. -/
set_option linter.unusedVariables false
set_option linter.unusedSimpArgs false
namespace Go.Proofs.YtpdehbbkpekoiaaGreatDoor
open Go.Sh
theorem r_slice0 {P : Program} {Z : List PanicEntry → World → Prop} {o w : World} {kk : Value → World → Prop} {R : List HProp} {t e : TypeId} {sz bt : Nat} {z : Value} (hel : El P t e sz bt z) (h : St o w R)
    (hk : ∀ g w', St o w' (own e sz (.slice (some ⟨g, 0, none⟩) 0 0) 0 [] :: R) → kk (.slice (some ⟨g, 0, none⟩) 0 0) w') : run1 P Z (Instr.buildSlice t 0 #[]) w kk := by
  obtain ⟨i, hi, hs, _, hz⟩ := hel.info
  have hcs : P.cellsOf e = sz := by simp [Program.cellsOf, hi, hs]
  have hrun : (Instr.buildSlice t 0 #[]).run P w = .ok (.slice (some ⟨w.heap.size, 0, none⟩) 0 0) (w.alloc (.cells #[] e)) := by
    unfold Instr.buildSlice
    simp only [Sem.run_bind, run_underlying hel.ht, Result.andThen_ok, run_sizeOf _ hi, hcs]
    have e0 : Array.map (fun _ => (default : Value)) (Array.range 0) = #[] := Array.eq_empty_of_size_eq_zero (by simp)
    simp [Instr.fill, newRow, newObj, Sem.run, World.alloc_eq, e0]
  refine r1 hrun (hk _ _ ?_)
  have ha := h.alloc e []
  have hmk := ha.own_mk (sz := sz) (cap := 0) 0 (Nat.le_refl _) (Nat.zero_le _) (by simp)
  simpa using hmk
theorem flat_setL {α : Type} {C : α → List Value} {sz : Nat} (hC : ∀ x, (C x).length = sz) (A B : List α) (x y : α) : setL (((A ++ x :: B).map C).flatten) (A.length * sz) (C y) = ((A ++ y :: B).map C).flatten := by
  have hl : (A.map C).flatten.length = A.length * sz := by
    rw [len_flatten_of (sz := sz) (fun c hc => by obtain ⟨x, _, rfl⟩ := List.mem_map.1 hc; exact hC x), List.length_map]
  simp only [List.map_append, List.map_cons, List.flatten_append, List.flatten_cons]
  have h := setL_mid (A.map C).flatten (C x) (C y) (B.map C).flatten (by rw [hC, hC])
  rw [hl] at h
  exact h
section
variable (Z : List PanicEntry → World → Prop) {o w : World} {R : List HProp}
theorem clone_go {t e : TypeId} {sz bt : Nat} {z : Value} {x : Value} {n : Nat} {xs : List Value} {kk : Value → World → Prop} (hel : El Tryz.prog t e sz bt z) (hs : isSliceT Tryz.prog t = true) (h1 : ones xs) (hb : n * bt ≤ 140737488355328) (hx : Ent o R fun w => Rd w sz x n xs) (h : St o w R)
    (hk : ∀ r w', St o w' (own e sz r n xs :: R) → kk r w') :
    run1 Tryz.prog Z (eqOp BinOp.eql t false true x (Value.slice none 0 0)) w fun t4 w => CondV t4 (kk (Value.slice none 0 0) w) (run1 Tryz.prog Z (Instr.buildSlice t 0 #[]) w fun t5 w => run1 Tryz.prog Z (Builtin.append_ #[t, t] t #[t5, x]) w kk) := by
  have h0 := hx w h
  have hn := h0.2.1
  obtain ⟨a, c, rfl⟩ := h0.form
  refine r1 (run_eql_slice_nil' hs _ _ _ _ _ _) ?_
  cases a with
  | none =>
    simp only [Option.isNone_none, condT]
    obtain ⟨hl, _, ⟨c', _, hz⟩ | ⟨_, _, hc, _⟩⟩ := h0
    · subst hz
      have : xs = [] := List.eq_nil_of_length_eq_zero (by simpa using hl)
      subst this
      exact hk _ _ (h.own_nil _ _)
    · cases hc
  | some a =>
    simp only [Option.isNone_some, condF]
    refine r_slice0 hel h fun g w1 hS => ?_
    refine r_append hel hS ((hx w1 hS.drop).src hel.ht h1) (by rw [Nat.zero_add]; exact hb) (by rw [Nat.zero_add]; exact hn) fun v' w2 hS => ?_
    rw [Nat.zero_add, List.nil_append] at hS
    exact hk _ _ hS
theorem cloneBytes {x : Value} {l : List UInt8} (hl : l.length ≤ 140737488355328) (hx : Ent o R fun w => Rd w 1 x l.length (cb l)) (h : St o w R) : CallV Tryz.prog Z 159 #[x] w fun r w' => St o w' (own 5 1 r l.length (cb l) :: R) := by
  refine f159.calls ?_
  unfold f159.sh
  exact clone_go Z el28 sl28 (cb_ones _) (by omega) hx h fun r w' hS => hS
theorem cloneAcl {x : Value} {l : List En} (hl : l.length * 40 ≤ 140737488355328) (hx : Ent o R fun w => Rd w 3 x l.length (l.map enC).flatten) (h : St o w R) : CallV Tryz.prog Z 160 #[x] w fun r w' => St o w' (own 122 3 r l.length (l.map enC).flatten :: R) := by
  refine f160.calls ?_
  unfold f160.sh
  exact clone_go Z el29 sl29 (fun u hu => by obtain ⟨c, hc, hu⟩ := List.mem_flatten.1 hu; obtain ⟨x, _, rfl⟩ := List.mem_map.1 hc; exact enB_ones _ u hu) hl hx h fun r w' hS => hS
theorem cloneIds {x : Value} {l : List Idd} (hl : l.length * 32 ≤ 140737488355328) (hx : Ent o R fun w => Rd w 2 x l.length (l.map idC).flatten) (h : St o w R) : CallV Tryz.prog Z 161 #[x] w fun r w' => St o w' (own 120 2 r l.length (l.map idC).flatten :: R) := by
  refine f161.calls ?_
  unfold f161.sh
  exact clone_go Z el30 sl30 (fun u hu => by obtain ⟨c, hc, hu⟩ := List.mem_flatten.1 hu; obtain ⟨x, _, rfl⟩ := List.mem_map.1 hc; exact idB_ones _ u hu) hl hx h fun r w' hS => hS
theorem cloneReqs {x : Value} {l : List Rq} (hl : l.length * 144 ≤ 140737488355328) (hx : Ent o R fun w => Rd w 11 x l.length (l.map Rq.cells).flatten ∧ ∀ y ∈ l, RdQ w y) (h : St o w R) : CallV Tryz.prog Z 162 #[x] w fun r w' => St o w' (own 33 11 r l.length (l.map Rq.cells).flatten :: R) := by
  have hr := (hx w h).2
  refine f162.calls ?_
  unfold f162.sh
  exact clone_go Z el31 sl31 (fun u hu => by obtain ⟨c, hc, hu⟩ := List.mem_flatten.1 hu; obtain ⟨x, hx, rfl⟩ := List.mem_map.1 hc; exact (hr x hx).ones u hu) hl (fun w hw => (hx w hw).1) h fun r w' hS => hS
theorem clone_split {l : List Rq} {xs : List Rq} {i : Nat} (hi : i < l.length) : xs ++ l.drop i = xs ++ l[i] :: l.drop (i + 1) := by rw [List.drop_eq_getElem_cons hi]
theorem cloneQ (q : Rq) (hw : WfQ q) : ∀ {w : World} {R : List HProp}, (Ent o R fun w => RdQ w q) → St o w R → CallV Tryz.prog Z 82 #[.agg q.cells.toArray] w fun r w' => ∃ q', r = .agg q'.cells.toArray ∧ q'.st = q.st ∧ St o w' (OwQ q' :: R) := by
  induction q using Rq.ind with | h q ih => ?_
  intro w R hx h
  have hfl := hw.flat
  have hwl := hw.len
  refine f82.calls ?_
  unfold f82.sh
  refine r_box _ _ h fun g1 w1 hS => ?_
  refine r_alloc hS ze33 fun g2 w2 hS => ?_
  have hS : St o w2 (blk g2 33 (rqC zf (.slice none 0 0) (.slice none 0 0) (.slice none 0 0) (.slice none 0 0)) :: blk g1 33 q.cells :: R) := hS
  refine ⟨fun w3 hd => ?_⟩
  have hS := hS.drew hd
  (try simp only [fa_33_10p, Nat.zero_add, fa_33_10, fa_33_9p, fa_33_3p, fa_33_2p])
  refine rr_load one28 (hS.at m1 2 rfl) ?_
  skip
  refine rr_load one29 (hS.at m1 3 rfl) ?_
  skip
  refine rr_load one30 (hS.at m1 9 rfl) ?_
  skip
  refine rr_load one31 (hS.at m1 10 rfl) ?_
  refine (cloneBytes Z (l := q.f.data) (by have := hfl.data; omega) (fun w hS => (hx w hS.drop.drop).flat.data) hS).mono fun vd w4 hS => ?_
  refine rs_load one31 (hS.at m2 10 rfl) (rs_load one30 (hS.at m2 9 rfl) (rs_load one29 (hS.at m2 3 rfl) ?_))
  skip
  refine (cloneAcl Z (l := q.f.acl) (by have := hfl.acl.1; omega) (fun w hS => (hx w hS.drop.drop.drop).flat.acl) hS).mono fun va w5 hS => ?_
  refine rs_load one31 (hS.at m3 10 rfl) (rs_load one30 (hS.at m3 9 rfl) ?_)
  refine (cloneIds Z (l := q.f.who) (by have := hfl.who.1; omega) (fun w hS => (hx w hS.drop.drop.drop.drop).flat.who) hS).mono fun vw w6 hS => ?_
  refine rs_load one31 (hS.at m4 10 rfl) ?_
  refine (cloneReqs Z (l := q.ops) (by omega) (fun w hS => ⟨(hx w hS.drop.drop.drop.drop.drop).row, (hx w hS.drop.drop.drop.drop.drop).all⟩) hS).mono fun vo w7 hS => ?_
  have h1 := St.own_one (hS.pick 3)
  have h2 := St.own_one (hS.pick 2)
  have h3 := St.own_one (hS.pick 1)
  have h4 := St.own_one hS
  refine r_store (hS.pick 5) one28 (by simp [Rq.cells, rqC]) h1 fun w8 hS => ?_
  skip
  refine r_store hS one29 (by simp [Rq.cells, rqC]) h2 fun w9 hS => ?_
  skip
  refine r_store hS one30 (by simp [Rq.cells, rqC]) h3 fun w10 hS => ?_
  skip
  refine r_store hS one31 (by simp [Rq.cells, rqC]) h4 fun w11 hS => ?_
  have hS : St o w11 (blk g1 33 (rqC q.f vd va vw vo) :: own 33 11 vo q.ops.length (q.ops.map Rq.cells).flatten :: own 120 2 vw q.f.who.length (q.f.who.map idC).flatten :: own 122 3 va q.f.acl.length (q.f.acl.map enC).flatten :: own 5 1 vd q.f.data.length (cb q.f.data) :: blk g2 33 (rqC zf (.slice none 0 0) (.slice none 0 0) (.slice none 0 0) (.slice none 0 0)) :: R) := hS
  have hS : St o w11 (OwF q.f vd va vw :: blk g1 33 (rqC q.f vd va vw vo) :: own 33 11 vo q.ops.length (q.ops.map Rq.cells).flatten :: blk g2 33 (rqC zf (.slice none 0 0) (.slice none 0 0) (.slice none 0 0) (.slice none 0 0)) :: R) := by
    have a1 := (((hS.pick 2).pick 3).pick 4)
    have a2 : St o w11 (own 122 3 va q.f.acl.length (q.f.acl.map enC).flatten :: own 120 2 vw q.f.who.length (q.f.who.map idC).flatten :: own 5 1 vd q.f.data.length (cb q.f.data) :: _) := a1.put 2
    exact ((a2.sep_intro).swap).sep_intro
  skip
  refine r_load one31 (hS.at m1 10 rfl) ?_
  refine r1 ((hS.own_rd m2).len sl31 _ rfl _ _) ?_
  refine ⟨fun m y w' => ∃ (i : Nat) (xs : List Rq), y = .int .i64 i ∧ m + i = q.ops.length ∧ xs.length = i ∧ xs.map Rq.st = (q.ops.take i).map Rq.st ∧
      St o w' (own 33 11 vo q.ops.length ((xs ++ q.ops.drop i).map Rq.cells).flatten :: satH (xs.map OwQ) :: OwF q.f vd va vw :: blk g1 33 (rqC q.f vd va vw vo) :: blk g2 33 (rqC zf (.slice none 0 0) (.slice none 0 0) (.slice none 0 0) (.slice none 0 0)) :: R),
    ⟨q.ops.length, 0, [], rfl, rfl, rfl, rfl, (((hS.emp.mono fun _ _ => (trivial : satH (([] : List Rq).map OwQ) _))).pick 3)⟩, ?_⟩
  clear hS
  rintro m _ w12 ⟨i, xs, rfl, hi, hxl, hst, hS⟩ _
  by_cases hlt : (i : Int) < (q.ops.length : Int)
  · have hil : i < q.ops.length := by omega
    have hmem : q.ops[i] ∈ q.ops := List.getElem_mem hil
    (try simp only [o_add, o_lss, hlt, decide_true, condT])
    refine ⟨fun w13 hd => ?_⟩
    have hS := hS.drew hd
    rw [clone_split hil] at hS
    obtain ⟨b, p, hp, hc⟩ := (hS.own_rd m0).adr el31 .i64 i hil
    have hcell : ∀ j u, q.ops[i].cells[j]? = some u → w13.cell? ⟨b, p + j, none⟩ = some u := fun j u hu => hc w13 (hS.own_rd m0) j u (by
      have e : ((((xs ++ q.ops[i] :: q.ops.drop (i + 1)).map Rq.cells).flatten).drop (i * 11)).take 11 = q.ops[i].cells := by
        have := flatten_cut (sz := 11) (css := (xs ++ q.ops[i] :: q.ops.drop (i + 1)).map Rq.cells) (fun c hc => by obtain ⟨x, _, rfl⟩ := List.mem_map.1 hc; rfl) i (by simp; omega)
        rw [this]
        simp [hxl, List.getElem_append_right]
      rw [e]; exact hu)
    refine rr_load one31 (hS.at m3 10 rfl) ?_
    skip
    refine rr_load one31 (hS.at m3 10 rfl) ?_
    refine rp hp (rr_loadN ag33 (xs := q.ops[i].cells) rfl (fun j u hu => by rw [add_addr]; exact hcell j u hu) ?_)
    refine (ih q.ops[i] hmem (hw.all _ hmem) (fun w hw => (hx w hw.drop.drop.drop.drop.drop).all _ hmem) hS).mono fun r w14 ⟨x', hr, hxst, hS⟩ => ?_
    subst hr
    have hxo := (OwQ.rd _ hS).ones
    refine rs_load one31 (hS.at m4 10 rfl) (rs_load one31 (hS.at m4 10 rfl) ?_)
    refine rp hp ?_
    refine r_store_ixN (hS.pick 1) el31 ag33 .i64 i hil (hp _) (us := x'.cells) rfl hxo fun w15 hS => ?_
    have e1 := flat_setL Rq.cells_len xs (q.ops.drop (i + 1)) q.ops[i] x'
    rw [hxl] at e1
    rw [e1] at hS
    skip
    rw [wr_i64 (x := (i : Int) + 1) (by omega) (by omega)]
    refine ⟨m - 1, by omega, i + 1, xs ++ [x'], rfl, by omega, by simp [hxl], ?_, ?_⟩
    · rw [List.take_succ_eq_append_getElem hil, List.map_append, List.map_append, hst]
      simp [hxst]
    · have e2 : (xs ++ [x']) ++ q.ops.drop (i + 1) = xs ++ x' :: q.ops.drop (i + 1) := by simp
      have e3 : (xs ++ [x']).map OwQ = xs.map OwQ ++ [OwQ x'] := by simp
      rw [e2, e3]
      exact ((((hS.pick 1).pick 2).all_snoc).swap)
  · have hil : i = q.ops.length := by omega
    subst hil
    rw [List.take_length] at hst
    rw [List.drop_length, List.append_nil] at hS
    have hones : ones (rqC q.f vd va vw vo) := rqC_ones h1 h2 h3 h4
    (try simp only [o_add, o_lss, hlt, decide_false, condF])
    refine r_loadN ag33 (xs := rqC q.f vd va vw vo) rfl (hS.cells_at m3 0 (whole_at _)) ?_
    refine r_storeN (hS.pick 4) ag33 (xs := rqC q.f vd va vw vo) rfl (show 0 + 11 ≤ 11 from Nat.le_refl _) hones fun w13 hS => ?_
    rw [setL_all _ _ (by rfl)] at hS
    refine r_resN ag33 (xs := rqC q.f vd va vw vo) rfl (hS.cells_at m0 0 (whole_at _)) ?_
    refine ⟨.mk q.f vd va vw vo xs, rfl, (st_iff _ _).2 ⟨rfl, hst⟩, ?_⟩
    rw [OwQ_eq]
    have b1 := hS.drop.sep_intro.swap.sep_intro
    rw [← hxl] at b1
    exact (b1.swap.drop)
theorem cloneT (t : Tx) (hw : WfQ t.q) (hx : Ent o R fun w => RdQ w t.q) (h : St o w R) : CallV Tryz.prog Z 25 #[.agg t.cells.toArray] w fun r w' => ∃ t' : Tx, r = .agg t'.cells.toArray ∧ t'.hd = t.hd ∧ t'.q.st = t.q.st ∧ St o w' (OwQ t'.q :: R) := by
  refine f25.calls ?_
  unfold f25.sh
  refine r_box _ _ h fun g1 w1 hS => ?_
  refine r_alloc hS ze35 fun g2 w2 hS => ?_
  have hS : St o w2 (blk g2 35 zTx :: blk g1 35 t.cells :: R) := hS
  (try simp only [fa_35_2, Nat.zero_add])
  refine r_loadN ag33 (xs := t.q.cells) rfl (hS.cells_at m1 5 (rq_at t)) ?_
  refine (cloneQ Z t.q hw (fun w hw => hx w hw.drop.drop) hS).mono fun r w3 ⟨q', hr, hst, hS⟩ => ?_
  subst hr
  have hqo := (OwQ.rd _ hS).ones
  skip
  refine r_storeN (hS.pick 2) ag33 (xs := q'.cells) rfl (show 5 + 11 ≤ 16 from Nat.le_refl _) hqo fun w4 hS => ?_
  have hS : St o w4 (blk g1 35 (Tx.cells ⟨t.e, t.n, t.sv, t.bo, t.nu, q'⟩) :: OwQ q' :: blk g2 35 zTx :: R) := hS
  refine r_loadN ag35 (xs := Tx.cells ⟨t.e, t.n, t.sv, t.bo, t.nu, q'⟩) rfl (hS.cells_at m0 0 (whole_at _)) ?_
  refine r_storeN (hS.pick 2) ag35 (xs := Tx.cells ⟨t.e, t.n, t.sv, t.bo, t.nu, q'⟩) rfl (show 0 + 16 ≤ 16 from Nat.le_refl _) (txC_ones hqo) fun w5 hS => ?_
  rw [setL_all _ _ (by rfl)] at hS
  refine r_resN ag35 (xs := Tx.cells ⟨t.e, t.n, t.sv, t.bo, t.nu, q'⟩) rfl (hS.cells_at m0 0 (whole_at _)) ?_
  exact ⟨⟨t.e, t.n, t.sv, t.bo, t.nu, q'⟩, rfl, rfl, hst, hS.drop.drop⟩
end
end Go.Proofs.YtpdehbbkpekoiaaGreatDoor

/- TxnSame: the walk. -/
set_option linter.unusedVariables false
set_option linter.unusedSimpArgs false
namespace Go.Proofs.YtpdehbbkpekoiaaGreatDoor
open Go.Sh
section
variable (Z : List PanicEntry → World → Prop) {o w : World} {R As : List HProp}
set_option maxRecDepth 100000 in
theorem sameW (t s : Tx) (hwt : WfQ t.q) (hws : WfQ s.q) (hxt : RdQ w t.q) (hxs : RdQ w s.q) (hN : Names w) (hT : Tab w) :
    CallV Tryz.prog Z 5 #[.agg t.cells.toArray, .agg s.cells.toArray] w fun r w' => r = .bool true ∧ St w w' [old w] := by
  refine f5.calls ?_
  unfold f5.sh
  refine r_box _ _ (St.start w) fun ga w1 hS => ?_
  have hS : St w w1 (blk ga 35 t.cells :: [old w]) := hS
  refine r_box _ _ hS fun gb w2 hS => ?_
  have hS : St w w2 (blk gb 35 s.cells :: blk ga 35 t.cells :: [old w]) := hS
  refine (worksC Z hN m2 hS).mono fun r w3 ⟨hr, hS⟩ => ?_
  subst hr
  (try simp only [fa_35_2, Nat.zero_add, o_pickT, guardW_true])
  refine r_loadN ag33 (xs := t.q.cells) rfl (hS.cells_at m1 5 (rq_at t)) ?_
  refine (largeC Z t.q (fun w' hw' => RdQ.of_old _ hxt hw' m2) hS).mono fun r w4 ⟨⟨b1, hr⟩, hS⟩ => ?_
  subst hr
  cases b1 with
  | true =>
    (try simp only [o_pickT, condT, guardW_tf])
    exact ⟨by first | rfl | trivial, hS.drop.drop⟩
  | false =>
  (try simp only [o_pickF, guardW_ff])
  refine r_loadN ag33 (xs := s.q.cells) rfl (hS.cells_at m0 5 (rq_at s)) ?_
  refine (largeC Z s.q (fun w' hw' => RdQ.of_old _ hxs hw' m2) hS).mono fun r w5 ⟨⟨b2, hr⟩, hS⟩ => ?_
  subst hr
  cases b2 with
  | true =>
    (try simp only [condT])
    exact ⟨by first | rfl | trivial, hS.drop.drop⟩
  | false =>
  (try simp only [condF])
  refine r_loadN ag35 (xs := t.cells) rfl (hS.cells_at m1 0 (whole_at _)) ?_
  refine (wideT Z hT m2 t hwt (fun w' hw' => RdQ.of_old _ hxt hw' m2) hS).mono fun r w6 ⟨x, hr, hhx, hsx, hS⟩ => ?_
  subst hr
  have hwx := WfQ_st _ _ hsx.symm hwt
  refine r_alloc hS ze35 fun gx w7 hS => ?_
  have hxo := (WdQ.rd _ hwx hS.drop).ones
  refine r_storeN hS ag35 (xs := x.cells) rfl (show 0 + 16 ≤ 16 from Nat.le_refl _) (txC_ones hxo) fun w8 hS => ?_
  rw [setL_all _ _ (by rfl)] at hS
  have hS := hS.put 1
  -- Wx gx gb ga old
  refine r_loadN ag35 (xs := s.cells) rfl (hS.cells_at m2 0 (whole_at _)) ?_
  refine (wideT Z hT m4 s hws (fun w' hw' => RdQ.of_old _ hxs hw' m4) hS).mono fun r w9 ⟨y, hr, hhy, hsy, hS⟩ => ?_
  subst hr
  have hwy := WfQ_st _ _ hsy.symm hws
  refine r_alloc hS ze35 fun gy w10 hS => ?_
  have hyo := (WdQ.rd _ hwy hS.drop).ones
  refine r_storeN hS ag35 (xs := y.cells) rfl (show 0 + 16 ≤ 16 from Nat.le_refl _) (txC_ones hyo) fun w11 hS => ?_
  rw [setL_all _ _ (by rfl)] at hS
  -- gy Wy Wx gx gb ga old
  refine r_loadN ag35 (xs := x.cells) rfl (hS.cells_at m3 0 (whole_at _)) ?_
  refine r_loadN ag35 (xs := y.cells) rfl (hS.cells_at m0 0 (whole_at _)) ?_
  refine (sameT Z x y (fun w1 hw1 => WdQ.rd _ hwx hw1.drop.drop) (fun w1 hw1 => WdQ.rd _ hwy hw1.drop) hS).mono fun r w12 ⟨⟨bs, hr, hbs⟩, hS⟩ => ?_
  subst hr
  refine r_loadN ag35 (xs := x.cells) rfl (hS.cells_at m3 0 (whole_at _)) ?_
  refine (cloneT Z x hwx (fun w1 hw1 => WdQ.rd _ hwx hw1.drop.drop) hS).mono fun r w13 ⟨c, hr, hhc, hsc, hS⟩ => ?_
  subst hr
  have hwc := WfQ_st _ _ hsc.symm hwx
  refine r_alloc hS ze35 fun gc w14 hS => ?_
  have hco := (OwQ.rd _ hS.drop).ones
  refine r_storeN hS ag35 (xs := c.cells) rfl (show 0 + 16 ≤ 16 from Nat.le_refl _) (txC_ones hco) fun w15 hS => ?_
  rw [setL_all _ _ (by rfl)] at hS
  -- gc Oc gy Wy Wx gx gb ga old
  refine r_loadN ag35 (xs := x.cells) rfl (hS.cells_at m5 0 (whole_at _)) ?_
  refine (cloneT Z x hwx (fun w1 hw1 => WdQ.rd _ hwx hw1.drop.drop.drop.drop) hS).mono fun r w16 ⟨d, hr, hhd, hsd, hS⟩ => ?_
  subst hr
  have hwd := WfQ_st _ _ hsd.symm hwx
  refine r_alloc hS ze35 fun gd w17 hS => ?_
  have hdo := (OwQ.rd _ hS.drop).ones
  refine r_storeN hS ag35 (xs := d.cells) rfl (show 0 + 16 ≤ 16 from Nat.le_refl _) (txC_ones hdo) fun w18 hS => ?_
  rw [setL_all _ _ (by rfl)] at hS
  -- gd Od gc Oc gy Wy Wx gx gb ga old
  refine r_loadN ag35 (xs := x.cells) rfl (hS.cells_at m7 0 (whole_at _)) ?_
  refine r_loadN ag35 (xs := c.cells) rfl (hS.cells_at m2 0 (whole_at _)) ?_
  refine (sameT Z x c (fun w1 hw1 => WdQ.rd _ hwx hw1.drop.drop.drop.drop.drop.drop) (fun w1 hw1 => OwQ.rd _ hw1.drop.drop.drop) hS).mono fun r w19 ⟨⟨bm, hr, hbm⟩, hS⟩ => ?_
  subst hr
  have hbm : bm = true := hbm.2 ⟨hhc.symm, hsc.symm⟩
  subst hbm
  refine r_loadN ag35 (xs := x.cells) rfl (hS.cells_at m7 0 (whole_at _)) ?_
  refine r_loadN ag35 (xs := t.cells) rfl (hS.cells_at (.tail _ m8) 0 (whole_at _)) ?_
  refine (eqT Z x t (fun w1 hw1 => WdQ.rd _ hwx hw1.drop.drop.drop.drop.drop.drop) (fun w1 hw1 => RdQ.of_old _ hxt hw1 (.tail _ (.tail _ m8))) hS).mono fun r w20 ⟨⟨b3, hr, hb3⟩, hS⟩ => ?_
  subst hr
  have hb3 : b3 = true := hb3.2 ⟨hhx, hsx⟩
  subst hb3
  (try simp only [fa_35_2, Nat.zero_add, o_pickT, guardW_true])
  refine r_loadN ag35 (xs := y.cells) rfl (hS.cells_at m4 0 (whole_at _)) ?_
  skip
  refine r_loadN ag35 (xs := s.cells) rfl (hS.cells_at m8 0 (whole_at _)) ?_
  skip
  refine (eqT Z y s (fun w1 hw1 => WdQ.rd _ hwy hw1.drop.drop.drop.drop.drop) (fun w1 hw1 => RdQ.of_old _ hxs hw1 (.tail _ (.tail _ m8))) hS).mono fun r w21 ⟨⟨b4, hr, hb4⟩, hS⟩ => ?_
  subst hr
  have hb4 : b4 = true := hb4.2 ⟨hhy, hsy⟩
  subst hb4
  (try simp only [o_pickT, guardW_true])
  refine r_loadN ag33 (xs := x.q.cells) rfl (hS.cells_at m7 5 (rq_at x)) ?_
  skip
  refine (spareQ Z hT x.q hwx (by simp) (hS.pick 6)).mono fun r w22 ⟨hr, hS⟩ => ?_
  subst hr
  have hS := hS.put 6
  (try simp only [o_pickT, guardW_true])
  refine r_loadN ag33 (xs := y.q.cells) rfl (hS.cells_at m4 5 (rq_at y)) ?_
  skip
  refine (spareQ Z hT y.q hwy (by simp) (hS.pick 5)).mono fun r w23 ⟨hr, hS⟩ => ?_
  subst hr
  have hS := hS.put 5
  (try simp only [o_pickT, guardW_true])
  -- twin
  refine r_loadN ag35 (xs := c.cells) rfl (hS.cells_at m2 0 (whole_at _)) ?_
  refine r_loadN ag35 (xs := t.cells) rfl (hS.cells_at (.tail _ m8) 0 (whole_at _)) ?_
  refine (eqT Z c t (fun w1 hw1 => OwQ.rd _ hw1.drop.drop.drop) (fun w1 hw1 => RdQ.of_old _ hxt hw1 (.tail _ (.tail _ m8))) hS).mono fun r w24 ⟨⟨b5, hr, hb5⟩, hS⟩ => ?_
  subst hr
  have hb5 : b5 = true := hb5.2 ⟨hhc.trans hhx, hsc.trans hsx⟩
  subst hb5
  (try simp only [o_pickT, guardW_true])
  refine r_loadN ag35 (xs := d.cells) rfl (hS.cells_at m0 0 (whole_at _)) ?_
  skip
  refine r_loadN ag35 (xs := t.cells) rfl (hS.cells_at (.tail _ m8) 0 (whole_at _)) ?_
  skip
  refine (eqT Z d t (fun w1 hw1 => OwQ.rd _ hw1.drop) (fun w1 hw1 => RdQ.of_old _ hxt hw1 (.tail _ (.tail _ m8))) hS).mono fun r w25 ⟨⟨b6, hr, hb6⟩, hS⟩ => ?_
  subst hr
  have hb6 : b6 = true := hb6.2 ⟨hhd.trans hhx, hsd.trans hsx⟩
  subst hb6
  (try simp only [o_pickT, guardW_true])
  have hS := ((hS.pick 4).drop.pick 4).drop
  -- gd Od gc Oc Wx gx gb ga old
  refine r_build (cells := (List.replicate 21 (.slice none 0 0)).toArray) (by kernel_rfl) ?_
  refine r_box _ _ hS fun gB w26 hS => ?_
  have hS := bag_new hS
  skip
  -- bag gd Od gc Oc Wx gx gb ga old
  refine r_loadN ag33 (xs := c.q.cells) rfl (hS.cells_at m3 5 (rq_at c)) ?_
  refine (addReq Z c.q hwc ((hS.pick 4).swap)).mono fun r w27 ⟨n0, n1, n2, n3, hS⟩ => ?_
  rw [List.nil_append, List.nil_append, List.nil_append, List.nil_append] at hS
  have hS := (hS.pick 4).drop
  -- bag new gd Od Wx gx gb ga old
  have hS := (newR.open hS.swap).pick 4
  refine (bagApart Z hT (by simp) hS).mono fun r w28 ⟨hr, hS⟩ => ?_
  subst hr
  have hS := (newR.shut (hS.put 4)).swap
  (try simp only [o_pickT, guardW_true])
  -- still
  refine r_loadN ag35 (xs := d.cells) rfl (hS.cells_at m2 0 (whole_at _)) ?_
  refine r_loadN ag35 (xs := t.cells) rfl (hS.cells_at m7 0 (whole_at _)) ?_
  refine (eqT Z d t (fun w1 hw1 => OwQ.rd _ hw1.drop.drop.drop) (fun w1 hw1 => RdQ.of_old _ hxt hw1 m8) hS).mono fun r w29 ⟨⟨b7, hr, hb7⟩, hS⟩ => ?_
  subst hr
  have hb7 : b7 = true := hb7.2 ⟨hhd.trans hhx, hsd.trans hsx⟩
  subst hb7
  (try simp only [o_pickT, guardW_true])
  refine r_loadN ag35 (xs := x.cells) rfl (hS.cells_at m5 0 (whole_at _)) ?_
  skip
  refine r_loadN ag35 (xs := t.cells) rfl (hS.cells_at m7 0 (whole_at _)) ?_
  skip
  refine (eqT Z x t (fun w1 hw1 => WdQ.rd _ hwx hw1.drop.drop.drop.drop) (fun w1 hw1 => RdQ.of_old _ hxt hw1 m8) hS).mono fun r w30 ⟨⟨b8, hr, hb8⟩, hS⟩ => ?_
  subst hr
  have hb8 : b8 = true := hb8.2 ⟨hhx, hsx⟩
  subst hb8
  (try simp only [o_pickT, guardW_true])
  refine r_loadN ag33 (xs := x.q.cells) rfl (hS.cells_at m5 5 (rq_at x)) ?_
  skip
  refine (spareQ Z hT x.q hwx (by simp) (hS.pick 4)).mono fun r w31 ⟨hr, hS⟩ => ?_
  subst hr
  have hS := hS.put 4
  (try simp only [o_pickT, guardW_true])
  refine r_loadN ag33 (xs := x.q.cells) rfl (hS.cells_at m5 5 (rq_at x)) ?_
  refine (turnedC Z x.q hwx (hS.pick 4)).mono fun r w32 ⟨q2, hq2, hw2, hS⟩ => ?_
  obtain ⟨x2, hx2⟩ : ∃ t2 : Tx, t2 = ⟨x.e, x.n, x.sv, x.bo, x.nu, q2⟩ := ⟨_, rfl⟩
  have hcells : x.cells = x2.cells := by rw [hx2]; unfold Tx.cells; rw [hq2]
  have hw2 : WfQ x2.q := by rw [hx2]; exact hw2
  have hq : q2 = x2.q := by rw [hx2]
  rw [hcells, hq] at hS
  clear hx2 hq hq2
  have hS := hS.put 4
  -- bag new gd Od Wx gx gb ga old
  refine r_loadN ag35 (xs := x2.cells) rfl (hS.cells_at m5 0 (whole_at _)) ?_
  refine (copyT Z x2 hw2 (fun w1 hw1 => WdQ.rd _ hw2 hw1.drop.drop.drop.drop) hS).mono fun r w33 ⟨u, hr, hhu, hsu, hS⟩ => ?_
  subst hr
  refine r_alloc hS ze35 fun gu w34 hS => ?_
  have huo := (OwQ.rd _ hS.drop).ones
  refine r_storeN hS ag35 (xs := u.cells) rfl (show 0 + 16 ≤ 16 from Nat.le_refl _) (txC_ones huo) fun w35 hS => ?_
  rw [setL_all _ _ (by rfl)] at hS
  -- gu Ou bag new gd Od Wx gx gb ga old
  refine r_loadN ag35 (xs := x2.cells) rfl (hS.cells_at m7 0 (whole_at _)) ?_
  refine (cloneT Z x2 hw2 (fun w1 hw1 => WdQ.rd _ hw2 hw1.drop.drop.drop.drop.drop.drop) hS).mono fun r w36 ⟨e, hr, hhe, hse, hS⟩ => ?_
  subst hr
  have hwe := WfQ_st _ _ hse.symm hw2
  refine r_alloc hS ze35 fun ge w37 hS => ?_
  have heo := (OwQ.rd _ hS.drop).ones
  refine r_storeN hS ag35 (xs := e.cells) rfl (show 0 + 16 ≤ 16 from Nat.le_refl _) (txC_ones heo) fun w38 hS => ?_
  rw [setL_all _ _ (by rfl)] at hS
  -- ge Oe gu Ou bag new gd Od Wx gx gb ga old
  refine r_loadN ag35 (xs := e.cells) rfl (hS.cells_at m0 0 (whole_at _)) ?_
  refine r_loadN ag35 (xs := u.cells) rfl (hS.cells_at m2 0 (whole_at _)) ?_
  refine (eqT Z e u (fun w1 hw1 => OwQ.rd _ hw1.drop) (fun w1 hw1 => OwQ.rd _ hw1.drop.drop.drop) hS).mono fun r w39 ⟨⟨b9, hr, hb9⟩, hS⟩ => ?_
  subst hr
  have hb9 : b9 = true := hb9.2 ⟨hhe.trans hhu.symm, hse.trans hsu.symm⟩
  subst hb9
  (try simp only [fa_35_2, Nat.zero_add, o_pickT, guardW_true])
  refine r_loadN ag35 (xs := d.cells) rfl (hS.cells_at m6 0 (whole_at _)) ?_
  skip
  refine r_loadN ag35 (xs := t.cells) rfl (hS.cells_at (.tail _ (.tail _ (.tail _ m8))) 0 (whole_at _)) ?_
  skip
  refine (eqT Z d t (fun w1 hw1 => OwQ.rd _ hw1.drop.drop.drop.drop.drop.drop.drop) (fun w1 hw1 => RdQ.of_old _ hxt hw1 (.tail _ (.tail _ (.tail _ (.tail _ m8))))) hS).mono fun r w40 ⟨⟨b10, hr, hb10⟩, hS⟩ => ?_
  subst hr
  have hb10 : b10 = true := hb10.2 ⟨hhd.trans hhx, hsd.trans hsx⟩
  subst hb10
  (try simp only [o_pickT, guardW_true])
  refine r_loadN ag33 (xs := d.q.cells) rfl (hS.cells_at m6 5 (rq_at d)) ?_
  have hS := (hS.pick 7).pick 5
  -- bag Od ge Oe gu Ou new gd Wx gx gb ga old
  refine (addReq Z d.q hwd hS).mono fun r w41 ⟨k0, k1, k2, k3, hS⟩ => ?_
  skip
  -- bag newk ge Oe gu Ou newn gd Wx gx gb ga old
  refine r_loadN ag33 (xs := e.q.cells) rfl (hS.cells_at m2 5 (rq_at e)) ?_
  refine (addReq Z e.q hwe ((hS.pick 3).swap)).mono fun r w42 ⟨l0, l1, l2, l3, hS⟩ => ?_
  -- bag newl newk ge gu Ou newn gd Wx gx gb ga old
  have hS := newR.join ((hS.pick 6).pick 3).swap
  have hS := newR.join (hS.pick 2).swap
  -- new bag ge gu Ou gd Wx gx gb ga old
  rw [← List.map_append, ← List.map_append, ← List.map_append, ← List.map_append, ← List.map_append, ← List.map_append, ← List.map_append, ← List.map_append] at hS
  have hS := (newR.open hS).pick 4
  refine (bagApart Z hT (by simp) hS).mono fun r w43 ⟨hr, hS⟩ => ?_
  subst hr
  have hS := (newR.shut (hS.put 4)).drop.drop.drop.drop.drop.drop.drop.drop
  -- gb ga old
  (try simp only [o_pickT, guardW_true])
  refine r_loadN ag35 (xs := t.cells) rfl (hS.cells_at m1 0 (whole_at _)) ?_
  skip
  refine r_loadN ag35 (xs := s.cells) rfl (hS.cells_at m0 0 (whole_at _)) ?_
  skip
  refine (eqT Z t s (fun w1 hw1 => RdQ.of_old _ hxt hw1 m2) (fun w1 hw1 => RdQ.of_old _ hxs hw1 m2) hS).mono fun r w44 ⟨⟨b11, hr, hb11⟩, hS⟩ => ?_
  subst hr
  have hbb : bs = b11 := by
    have : bs = true ↔ b11 = true := by rw [hbs, hb11, hhx, hhy, hsx, hsy]
    cases bs <;> cases b11 <;> simp_all
  subst hbb
  (try simp only [eqlb_4, beq_self_eq_true])
  exact ⟨by first | rfl | trivial | simp, hS.drop.drop⟩
end
end Go.Proofs.YtpdehbbkpekoiaaGreatDoor

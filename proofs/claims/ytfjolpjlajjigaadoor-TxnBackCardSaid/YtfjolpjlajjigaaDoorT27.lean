/- TxnBack: the plain law and the walk. -/
import Derived.Test.YtfjolpjlajjigaaDoorT26
set_option linter.unusedVariables false
set_option linter.unusedSimpArgs false
namespace Go.Proofs.YtfjolpjlajjigaaDoor
open Go.Sh
theorem map_st {α : Type} {k : Rq → α} (hk : ∀ x y : Rq, x.st = y.st → k x = k y) : ∀ (l m : List Rq), l.map Rq.st = m.map Rq.st → l.map k = m.map k
  | [], [], _ => rfl
  | [], _ :: _, h => by simp at h
  | _ :: _, [], h => by simp at h
  | x :: l, y :: m, h => by
    simp only [List.map_cons, List.cons.injEq] at h
    rw [List.map_cons, List.map_cons, hk _ _ h.1, map_st hk l m h.2]
theorem st_f {x y : Rq} (h : x.st = y.st) : x.f = y.f := ((st_iff _ _).1 h).1
theorem st_ops {x y : Rq} (h : x.st = y.st) : x.ops.map Rq.st = y.ops.map Rq.st := ((st_iff _ _).1 h).2
theorem st_len {x y : Rq} (h : x.st = y.st) : x.ops.length = y.ops.length := by have := congrArg List.length (st_ops h); simpa using this
theorem isOp_st (x y : Rq) (h : x.st = y.st) : isOp x = isOp y := by unfold isOp; rw [st_f h, st_len h]
theorem all_map {α : Type} (p : α → Bool) (l : List α) : l.all p = (l.map p).all id := by rw [List.all_map]; rfl
theorem chkQ_st {x y : Rq} (h : x.st = y.st) : chkQ x = chkQ y := by
  unfold chkQ
  rw [st_f h, st_len h, all_map isOp, all_map isOp, map_st isOp_st _ _ (st_ops h)]
theorem chkT_st {x y : Tx} (h : x.hd = y.hd) (hs : x.q.st = y.q.st) : chkT x = chkT y := by
  have h1 : x.e = y.e := congrArg Hd.e h
  have h2 : x.n = y.n := congrArg Hd.n h
  have h3 : x.sv = y.sv := congrArg Hd.sv h
  have h4 : x.nu = y.nu := congrArg Hd.nu h
  unfold chkT
  rw [h1, h2, h3, h4, st_f hs, chkQ_st hs]
theorem keyQ_st {x y : Rq} (h : x.st = y.st) : keyQ x = keyQ y := by
  unfold keyQ
  rw [st_f h, map_st (fun a b => st_f) _ _ (st_ops h)]
theorem txB_st {x y : Tx} (h : x.hd = y.hd) (hs : x.q.st = y.q.st) : txB x = txB y := by
  rw [txB_pre, txB_pre, h, keyQ_bytes _ _ (keyQ_st hs)]
theorem st_of_key {x y : Rq} (hx : okR false x) (hy : okR false y) (h : keyQ x = keyQ y) : x.st = y.st := by
  have h1 : x.f = y.f := congrArg Prod.fst h
  have h2 : x.ops.map Rq.f = y.ops.map Rq.f := congrArg Prod.snd h
  have hox : ∀ q, okR false q → ∀ z ∈ q.ops, z.ops = [] := by
    intro q hq z hz
    have h3 := hq.2
    by_cases hb : bi false q.f 8 = true
    · rw [if_pos hb] at h3; exact (h3.2 z hz).2
    · rw [if_neg hb] at h3; rw [h3] at hz; cases hz
  have key : ∀ (l m : List Rq), (∀ z ∈ l, z.ops = []) → (∀ z ∈ m, z.ops = []) → l.map Rq.f = m.map Rq.f → l.map Rq.st = m.map Rq.st := by
    intro l
    induction l with
    | nil => intro m _ _ h; cases m with
      | nil => rfl
      | cons _ _ => simp at h
    | cons z l ih =>
      intro m hl hm h
      cases m with
      | nil => simp at h
      | cons z' m =>
        simp only [List.map_cons, List.cons.injEq] at h
        rw [List.map_cons, List.map_cons, ih m (fun z hz => hl z (List.mem_cons_of_mem _ hz)) (fun z hz => hm z (List.mem_cons_of_mem _ hz)) h.2]
        congr 1
        rw [st_iff, hl z List.mem_cons_self, hm z' List.mem_cons_self]
        exact ⟨h.1, rfl⟩
  exact (st_iff _ _).2 ⟨h1, key _ _ (hox x hx) (hox y hy) h2⟩
/-- What within says, one by one. -/
theorem within_spec {f : Fl} {m : Nat} (h : within f m = true) :
    (bt f 0 = false → f.path = []) ∧ (bt f 1 = false → f.data = []) ∧ (bt f 2 = false → f.acl = []) ∧ (bt f 3 = false → f.ver = 0) ∧ (bt f 4 = false → f.eph = false ∧ f.seq = false) ∧ (bt f 5 = false → f.ses = 0) ∧ (bt f 6 = false → f.tmo = 0) ∧ (bt f 7 = false → f.who = []) ∧ (bt f 8 = false → m = 0) := by
  simp only [within, Bool.and_eq_true, Bool.not_eq_true'] at h
  obtain ⟨h1, h2, _, _, _⟩ := h
  simp only [wg1, wg2, Bool.or_eq_false_iff, Bool.and_eq_false_iff, Bool.not_eq_false', decide_eq_true_eq, decide_eq_false_iff_not] at h1 h2
  obtain ⟨a0, a1, a2, a3⟩ := h1
  obtain ⟨a4, a5, a6, a7, a8⟩ := h2
  have z : ∀ {α : Type} {l : List α}, ¬ 0 < l.length → l = [] := fun {α} {l} h => List.eq_nil_of_length_eq_zero (by omega)
  refine ⟨fun h => ?_, fun h => ?_, fun h => ?_, fun h => ?_, fun h => ?_, fun h => ?_, fun h => ?_, fun h => ?_, fun h => ?_⟩
  · exact a0.resolve_left (by rw [h]; simp)
  · exact z (a1.resolve_left (by rw [h]; simp))
  · exact z (a2.resolve_left (by rw [h]; simp))
  · exact a3.resolve_left (by rw [h]; simp)
  · exact a4.resolve_left (by rw [h]; simp)
  · exact a5.resolve_left (by rw [h]; simp)
  · exact a6.resolve_left (by rw [h]; simp)
  · exact z (a7.resolve_left (by rw [h]; simp))
  · have := a8.resolve_left (by rw [h]; simp)
    omega
theorem bi_false (f : Fl) (i : Nat) : bi false f i = bt f i := rfl
theorem bi_true (f : Fl) (hk : 0 ≤ f.kd ∧ f.kd ≤ 12) (i : Nat) (hi : i ≤ 8) : bi true f i = (bt f i && !(i == 5 || i == 7)) := by
  obtain ⟨k, hk'⟩ : ∃ k : Nat, f.kd = k := ⟨f.kd.toNat, by omega⟩
  unfold bi bt
  rw [hk', Int.toNat_natCast]
  have key : ∀ k < 13, ∀ i < 9, (nmF true k).testBit i = ((nm k).testBit i && !(i == 5 || i == 7)) := by decide +kernel
  exact key k (by omega) i (by omega)
theorem okL_of {n : Int} {l : List UInt8} (h : (l.length : Int) ≤ n) (hn : n ≤ 2147483647) : okL n l := ⟨h, by omega⟩
theorem okId_of {x : Idd} (h : idMay x = true) : okId x := by
  simp only [idMay, Bool.and_eq_true, decide_eq_true_eq] at h
  exact ⟨okL_of (by omega) (by omega), okL_of (by omega) (by omega)⟩
theorem okTo_of {inner : Bool} {f : Fl} {m : Nat} (hk : 1 ≤ f.kd ∧ f.kd ≤ 12 ∧ (inner = true → f.kd ≤ 5)) (hw : within f m = true) (hf : WfF f) (h5 : inner = true → f.ses = 0 ∧ f.who = []) : okTo inner f 8 := by
  obtain ⟨b, _⟩ := bnd_of hw
  obtain ⟨s0, s1, s2, s3, s4, s5, s6, s7, _⟩ := within_spec hw
  have hbit : ∀ i, i ≤ 8 → bi inner f i = false → bt f i = false ∨ (inner = true ∧ (i = 5 ∨ i = 7)) := by
    intro i hi h
    cases inner with
    | false => exact .inl h
    | true =>
      rw [bi_true f (by omega) i hi] at h
      by_cases e : i = 5 ∨ i = 7
      · exact .inr ⟨rfl, e⟩
      · left
        have : (i == 5 || i == 7) = false := by
          simp only [Bool.or_eq_false_iff, beq_eq_false_iff_ne]
          omega
        rw [this] at h
        simpa using h
  refine ⟨⟨⟨⟨⟨⟨⟨⟨hk, ?_⟩, ?_⟩, ?_⟩, ?_⟩, ?_⟩, ?_⟩, ?_⟩, ?_⟩
  · simp only [okc]
    split
    · exact okL_of (by have := b.path; omega) (by omega)
    · rename_i h
      rcases hbit 0 (by omega) (by simpa using h) with h | ⟨_, h⟩
      · exact s0 h
      · omega
  · simp only [okc]
    split
    · exact okL_of (by have := b.data; omega) (by omega)
    · rename_i h
      rcases hbit 1 (by omega) (by simpa using h) with h | ⟨_, h⟩
      · exact s1 h
      · omega
  · simp only [okc]
    split
    · exact ⟨b.acl, fun x hx => ⟨(hf.acl.2 x hx).1, okId_of (List.all_eq_true.1 b.ea x hx)⟩⟩
    · rename_i h
      rcases hbit 2 (by omega) (by simpa using h) with h | ⟨_, h⟩
      · exact s2 h
      · omega
  · simp only [okc]
    split
    · exact hf.ver
    · rename_i h
      rcases hbit 3 (by omega) (by simpa using h) with h | ⟨_, h⟩
      · exact s3 h
      · omega
  · simp only [okc]
    split
    · trivial
    · rename_i h
      rcases hbit 4 (by omega) (by simpa using h) with h | ⟨_, h⟩
      · exact s4 h
      · omega
  · simp only [okc]
    split
    · exact hf.ses
    · rename_i h
      rcases hbit 5 (by omega) (by simpa using h) with h | ⟨hi, h⟩
      · exact s5 h
      · exact (h5 hi).1
  · simp only [okc]
    split
    · exact hf.tmo
    · rename_i h
      rcases hbit 6 (by omega) (by simpa using h) with h | ⟨_, h⟩
      · exact s6 h
      · omega
  · simp only [okc]
    split
    · exact ⟨b.who, fun x hx => okId_of (List.all_eq_true.1 b.ew x hx)⟩
    · rename_i h
      rcases hbit 7 (by omega) (by simpa using h) with h | ⟨hi, h⟩
      · exact s7 h
      · exact (h5 hi).2
theorem bt8 {f : Fl} (h : 1 ≤ f.kd ∧ f.kd ≤ 5) : bt f 8 = false := by
  have := bi8 f ⟨by omega, h.2⟩
  rw [bi_true f (by omega) 8 (by omega)] at this
  simpa using this
theorem okI_of {x : Rq} (h : isOp x = true) (hw : WfQ x) : okTo true x.f 8 ∧ x.ops = [] := by
  obtain ⟨h1, h2, h3, h4⟩ := isOp_spec h
  have h8 := (within_spec h4).2.2.2.2.2.2.2.2 (bt8 h1)
  exact ⟨okTo_of ⟨h1.1, by omega, fun _ => h1.2⟩ h4 hw.flat fun _ => ⟨h2, List.eq_nil_of_length_eq_zero h3⟩, List.eq_nil_of_length_eq_zero h8⟩
theorem okR_chk {q : Rq} (h : chkQ q = true) (hw : WfQ q) : okR false q := by
  obtain ⟨h1, h2, h3⟩ := chkQ_spec h
  obtain ⟨_, hm⟩ := bnd_of h2
  refine ⟨okTo_of ⟨h1.1, h1.2, (fun h => by cases h)⟩ h2 hw.flat (fun h => by cases h), ?_⟩
  split
  · exact ⟨hm, fun x hx => okI_of (List.all_eq_true.1 h3 x hx) (hw.all x hx)⟩
  · rename_i h
    have h8 : bt q.f 8 = false := by rw [← bi_false]; simpa using h
    exact List.eq_nil_of_length_eq_zero ((within_spec h2).2.2.2.2.2.2.2.2 h8)
theorem okT_chk {t : Tx} (h : chkT t = true) (hh : wfH t.hd) (hw : WfQ t.q) : okT t := by
  refine ⟨hh, okR_chk ?_ hw⟩
  unfold chkT at h
  simp only [Bool.and_eq_true] at h
  exact h.2.2.2
theorem multi {f : Fl} (hk : 1 ≤ f.kd ∧ f.kd ≤ 12) (h : bt f 8 = true) : bt f 0 = false ∧ bt f 1 = false ∧ bt f 2 = false ∧ bt f 3 = false ∧ bt f 4 = false ∧ bt f 6 = false := by
  obtain ⟨k, hk'⟩ : ∃ k : Nat, f.kd = k := ⟨f.kd.toNat, by omega⟩
  unfold bt at *
  have hkn : f.kd.toNat = k := by omega
  rw [hkn] at h ⊢
  have key : ∀ k < 13, (nm k).testBit 8 = true → (nm k).testBit 0 = false ∧ (nm k).testBit 1 = false ∧ (nm k).testBit 2 = false ∧ (nm k).testBit 3 = false ∧ (nm k).testBit 4 = false ∧ (nm k).testBit 6 = false := by decide +kernel
  exact key k (by omega) h
theorem opB_len' {x : Rq} (h : isOp x = true) : (opB x).length ≤ 407 := by
  obtain ⟨h1, h2, h3, h4⟩ := isOp_spec h
  obtain ⟨b, _⟩ := bnd_of h4
  have b5 : bi true x.f 5 = false := by rw [bi_true _ (by omega) 5 (by omega)]; simp
  have b7 : bi true x.f 7 = false := by rw [bi_true _ (by omega) 7 (by omega)]; simp
  have b6 : bi true x.f 6 = false := by
    obtain ⟨k, hk⟩ : ∃ k : Nat, x.f.kd = k := ⟨x.f.kd.toNat, by omega⟩
    unfold bi
    rw [hk, Int.toNat_natCast]
    have key : ∀ k < 6, (nmF true k).testBit 6 = false := by decide +kernel
    exact key k (by omega)
  have e0 : (p0 true x.f).length ≤ 68 := ite_len (by rw [encL_len]; have := b.path; omega)
  have e1 : (p1 true x.f).length ≤ 100 := ite_len (by rw [encL_len]; have := b.data; omega)
  have e2 : (p2 true x.f).length ≤ 232 := ite_len (by
    have := lsB_len enB 57 x.f.acl fun y hy => enB_len y (List.all_eq_true.1 b.ea _ hy)
    have := b.acl
    omega)
  have e3 : (p3 true x.f).length ≤ 4 := ite_len (by rw [enc_length]; omega)
  have e4 : (p4 true x.f).length ≤ 2 := ite_len (by simp [encB])
  have e5 : p5 true x.f = [] := by rw [p5, b5]; rfl
  have e6 : p6 true x.f = [] := by rw [p6, b6]; rfl
  have e7 : p7 true x.f = [] := by rw [p7, b7]; rfl
  simp only [opB, flB, List.length_append, enc_length, e5, e6, e7, List.length_nil]
  omega
theorem txB_len {t : Tx} (h : chkT t = true) : (txB t).length ≤ 4096 := by
  have hq : chkQ t.q = true := by
    unfold chkT at h
    simp only [Bool.and_eq_true] at h
    exact h.2.2.2
  obtain ⟨h1, h2, h3⟩ := chkQ_spec hq
  obtain ⟨b, hm⟩ := bnd_of h2
  have hr : (reqB t.q).length ≤ 3600 := by
    unfold reqB
    cases h8 : bi false t.q.f 8 with
    | false =>
      have := flB_len false b
      simp only [Bool.false_eq_true, if_false, List.append_nil]
      omega
    | true =>
      obtain ⟨z0, z1, z2, z3, z4, z6⟩ := multi h1 h8
      have e0 : p0 false t.q.f = [] := by rw [p0, bi_false, z0]; rfl
      have e1 : p1 false t.q.f = [] := by rw [p1, bi_false, z1]; rfl
      have e2 : p2 false t.q.f = [] := by rw [p2, bi_false, z2]; rfl
      have e3 : p3 false t.q.f = [] := by rw [p3, bi_false, z3]; rfl
      have e4 : p4 false t.q.f = [] := by rw [p4, bi_false, z4]; rfl
      have e6 : p6 false t.q.f = [] := by rw [p6, bi_false, z6]; rfl
      have e5 : (p5 false t.q.f).length ≤ 8 := ite_len (by rw [enc_length]; omega)
      have e7 : (p7 false t.q.f).length ≤ 240 := ite_len (who_len b)
      have e8 := lsB_len opB 407 t.q.ops fun x hx => opB_len' (List.all_eq_true.1 h3 _ hx)
      simp only [if_true, List.length_append, flB, e0, e1, e2, e3, e4, e6, enc_length, List.length_nil, opsB]
      omega
  simp only [txB, List.length_append, enc_length]
  omega
section
variable (Z : List PanicEntry → World → Prop) {o w : World} {R As : List HProp}
theorem back (t : Tx) (hw : WfQ t.q) (hh : wfH t.hd) (hx : RdQ w t.q) (hN : Names w) :
    CallV Tryd.prog Z 4 #[.agg t.cells.toArray] w fun r w' => r = .bool true ∧ St w w' [old w] := by
  refine f4.calls ?_
  unfold f4.sh
  refine r_box _ _ (St.start w) fun g1 w1 hS => ?_
  have hS : St w w1 (blk g1 36 t.cells :: [old w]) := hS
  refine (worksC Z hN m1 hS).mono fun r w2 ⟨hr, hS⟩ => ?_
  subst hr
  (try simp only [o_pickT, guardW_true, fa_36_2, Nat.zero_add])
  refine r_loadN ag34 (xs := t.q.cells) rfl (hS.cells_at m0 5 (rq_at t)) ?_
  refine (largeC Z t.q (fun w' hw' => RdQ.of_old _ hx hw' m1) hS).mono fun r w3 ⟨⟨b, hr⟩, hS⟩ => ?_
  subst hr
  refine cond_or (fun _ => ⟨by first | rfl | trivial, hS.drop⟩) fun _ => ?_
  refine r_loadN ag36 (xs := t.cells) rfl (hS.cells_at m0 0 (whole_at _)) ?_
  refine (copyT Z t hw (fun w' hw' => RdQ.of_old _ hx hw' m1) hS).mono fun r w4 ⟨t1, hr, hh1, hs1, hS⟩ => ?_
  subst hr
  have hc1 : chkT t1 = chkT t := chkT_st hh1 hs1
  have hb1 : txB t1 = txB t := txB_st hh1 hs1
  refine (writeC Z t1 hN m2 (fun w' hw' => OwQ.rd _ hw') hS).mono fun r w5 hr => ?_
  have z0 : ((0 : Int) != 0) = false := rfl
  have z4 : ((40 : Int) != 0) = true := rfl
  have z2 : ((0 : Int) == 0) = true := rfl
  have z3 : ((40 : Int) == 40) = true := rfl
  rw [hc1, hb1] at hr
  cases hc : chkT t with
  | false =>
    rw [hc, if_neg (by simp)] at hr
    obtain ⟨rfl, hS⟩ := hr
    (try simp only [o_ext2_1, o_neq, Int.reduceBNe, condT, o_ext2_0])
    refine r_loadN ag36 (xs := t.cells) rfl (hS.cells_at m1 0 (whole_at _)) ?_
    refine (copyT Z t hw (fun w' hw' => RdQ.of_old _ hx hw' m2) hS).mono fun r w6 ⟨t2, hr, hh2, hs2, hS⟩ => ?_
    subst hr
    have hc2 : chkT t2 = false := by rw [chkT_st hh2 hs2, hc]
    refine (chkTx Z t2 hN m3 (fun w' hw' => OwQ.rd _ hw') hS).mono fun r w7 ⟨hr, hS⟩ => ?_
    rw [hc2] at hr
    subst hr
    simp only [Bool.false_eq_true, if_false]
    (try simp only [o_eql, z3, o_pickT, guardW_true, ln_22_3])
    exact ⟨by first | rfl | trivial, hS.drop.drop.drop⟩
  | true =>
    rw [hc, if_pos rfl] at hr
    obtain ⟨v, rfl, hS⟩ := hr
    obtain ⟨av, cv, rfl⟩ := hS.own_form
    (try simp only [o_ext2_1, o_neq, bne_self_eq_false, condF, o_ext2_0])
    refine r_loadN ag36 (xs := t.cells) rfl (hS.cells_at m2 0 (whole_at _)) ?_
    refine (copyT Z t hw (fun w' hw' => RdQ.of_old _ hx hw' m3) hS).mono fun r w6 ⟨t2, hr, hh2, hs2, hS⟩ => ?_
    subst hr
    have hc2 : chkT t2 = true := by rw [chkT_st hh2 hs2, hc]
    refine (chkTx Z t2 hN m4 (fun w' hw' => OwQ.rd _ hw') hS).mono fun r w7 ⟨hr, hS⟩ => ?_
    rw [hc2] at hr
    subst hr
    simp only [if_true]
    (try simp only [o_eql, beq_self_eq_true, o_pickT, guardW_true])
    have hlen := txB_len hc
    refine (readC Z (l := txB t) hN m4 (fun w hw => hw.drop.own_rd m0) (by omega) hS).mono fun r w8 hr => ?_
    have hok := okT_chk hc hh hw
    rcases hr with ⟨u, huk, huc, hl, hu, rfl, hS⟩ | ⟨hno, _⟩
    case inr => exact absurd rfl (hno t hok hc)
    obtain ⟨k1, k2⟩ := hu t hok ⟨[], by rw [List.append_nil]; rfl⟩
    have hus : t.q.st = u.q.st := st_of_key hok.2 huk.2 k2
    (try simp only [o_ext2_1, o_eql, beq_self_eq_true, o_pickT, guardW_true, o_ext2_0])
    refine r_alloc hS ze36 fun g2 w9 hS => ?_
    have huo := (OwQ.rd _ hS.drop).ones
    refine r_storeN hS ag36 (xs := u.cells) rfl (show 0 + 16 ≤ 16 from Nat.le_refl _) (txC_ones huo) fun w10 hS => ?_
    rw [setL_all _ _ (by rfl)] at hS
    refine ⟨fun w11 hd => ?_⟩
    have hS := hS.drew hd
    refine rr_loadN ag36 (xs := t.cells) rfl (hS.cells_at m5 0 (whole_at _)) ?_
    refine rr_loadN ag36 (xs := u.cells) rfl (hS.cells_at m0 0 (whole_at _)) ?_
    refine (copyT Z t hw (fun w' hw' => RdQ.of_old _ hx hw' m6) hS).mono fun r w12 ⟨t3, hr, hh3, hs3, hS⟩ => ?_
    subst hr
    refine rs_loadN ag36 (xs := u.cells) rfl (hS.cells_at m1 0 (whole_at _)) ?_
    refine (sameT Z t3 u (fun w' hw' => OwQ.rd _ hw') (fun w' hw' => OwQ.rd _ hw'.drop.drop) hS).mono fun r w13 ⟨⟨b, hr, hb⟩, hS⟩ => ?_
    subst hr
    rw [hb.2 ⟨by rw [hh3, k1], by rw [hs3, hus]⟩]
    (try simp only [o_pickT, guardW_true])
    refine r_loadN ag36 (xs := t.cells) rfl (hS.cells_at m6 0 (whole_at _)) ?_
    refine r_loadN ag36 (xs := u.cells) rfl (hS.cells_at m1 0 (whole_at _)) ?_
    refine (eqT Z t u (fun w' hw' => RdQ.of_old _ hx hw' m7) (fun w' hw' => OwQ.rd _ hw'.drop.drop) hS).mono fun r w14 ⟨⟨b, hr, hb⟩, hS⟩ => ?_
    subst hr
    rw [hb.2 ⟨k1, hus⟩]
    have hli : ((txB t).length : Int) ≤ 4096 := by omega
    (try simp only [o_pickT, guardW_true, ln_22_3, o_leq, hli, decide_true])
    exact ⟨by first | rfl | trivial | simp [hli], hS.drop.drop.drop.drop.drop.drop.drop⟩
end
end Go.Proofs.YtfjolpjlajjigaaDoor

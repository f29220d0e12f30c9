/- What get reads of ids, entries and lists of them. -/
import Derived.Test.YtoeamecdkimgaaaDoorT14
set_option linter.unusedVariables false
set_option linter.unusedSimpArgs false
namespace Go.Proofs.YtoeamecdkimgaaaDoor
open Go.Sh
/-- What a call answers that reads an element. -/
def GetsE {α β : Type} (e : α → List UInt8) (ok : α → Prop) (κ : α → β) (cells : α → List Value) (Own : α → HProp) (sz : Nat) (g : Nat) (B : Option Nat) (all : List UInt8) (off : Nat) (err : Int) (o : World) (R : List HProp) (r : Value) (w' : World) : Prop :=
  (∃ x, ok x ∧ err = 0 ∧ Has all off (e x) ∧ (∀ y, ok y → Has all off (e y) → κ y = κ x) ∧ r = .agg (cells x).toArray ∧ (cells x).length = sz ∧ ones (cells x) ∧ St o w' (RdrAt g B all (off + (e x).length) 0 :: Own x :: R)) ∨
  ((∃ xs : List Value, r = .agg xs.toArray ∧ xs.length = sz ∧ ones xs) ∧ (∀ x, ok x → ¬ (err = 0 ∧ Has all off (e x))) ∧ ∃ off' e', e' ≠ 0 ∧ St o w' (RdrAt g B all off' e' :: R))
/-- What a call answers that reads a list. -/
def GetsL {α β : Type} (e : α → List UInt8) (ok : α → Prop) (κ : α → β) (cells : α → List Value) (Own : α → HProp) (sz t most : Nat) (g : Nat) (B : Option Nat) (all : List UInt8) (off : Nat) (err : Int) (o : World) (R : List HProp) (r : Value) (w' : World) : Prop :=
  (∃ xs : List α, xs.length ≤ most ∧ (∀ x ∈ xs, ok x) ∧ err = 0 ∧ Has all off (lsB xs.length (xs.map e)) ∧ (∀ ys : List α, ys.length ≤ most → (∀ y ∈ ys, ok y) → Has all off (lsB ys.length (ys.map e)) → ys.map κ = xs.map κ) ∧
    St o w' (RdrAt g B all (off + (lsB xs.length (xs.map e)).length) 0 :: own t sz r xs.length (xs.map cells).flatten :: satH (xs.map Own) :: R)) ∨
  (r = .slice none 0 0 ∧ (∀ xs : List α, xs.length ≤ most → (∀ x ∈ xs, ok x) → ¬ (err = 0 ∧ Has all off (lsB xs.length (xs.map e)))) ∧ ∃ off' e', e' ≠ 0 ∧ St o w' (RdrAt g B all off' e' :: R))
def okId (x : Idd) : Prop := okL 24 x.sch ∧ okL 24 x.nam
def okEn (x : En) : Prop := (-128 ≤ x.perms ∧ x.perms ≤ 127) ∧ okId x.who
theorem Has.left {all a b : List UInt8} {off : Nat} (h : Has all off (a ++ b)) : Has all off a := (Has.split.1 h).1
theorem Has.right {all a b : List UInt8} {off : Nat} (h : Has all off (a ++ b)) : Has all (off + a.length) b := (Has.split.1 h).2
/-- Two lists, read element by element. -/
theorem flat_pos {α : Type} {e : α → List UInt8} {ok : α → Prop} (h1 : ∀ x, ok x → 1 ≤ (e x).length) : ∀ (ys : List α), (∀ y ∈ ys, ok y) → ys.length ≤ ((ys.map e).flatten).length
  | [], _ => by simp
  | y :: ys, h => by
    have := flat_pos h1 ys fun z hz => h z (List.mem_cons_of_mem _ hz)
    have := h1 y (h y List.mem_cons_self)
    rw [List.map_cons, List.flatten_cons, List.length_append, List.length_cons]; omega
theorem flat_split {α : Type} (e : α → List UInt8) (ys : List α) (i : Nat) (hi : i < ys.length) : ∃ rest, (ys.map e).flatten = ((ys.take i).map e).flatten ++ (e ys[i] ++ rest) := by
  refine ⟨((ys.drop (i + 1)).map e).flatten, ?_⟩
  rw [← List.append_assoc, ← flat_take e ys i hi, ← List.flatten_append, ← List.map_append, List.take_append_drop]
theorem map_flat {α β : Type} {e : α → List UInt8} {κ : α → β} (hk : ∀ x y, κ x = κ y → e x = e y) : ∀ (xs ys : List α), xs.map κ = ys.map κ → (xs.map e).flatten = (ys.map e).flatten
  | [], [], _ => rfl
  | [], _ :: _, h => by simp at h
  | _ :: _, [], h => by simp at h
  | x :: xs, y :: ys, h => by
    simp only [List.map_cons, List.cons.injEq] at h
    rw [List.map_cons, List.map_cons, List.flatten_cons, List.flatten_cons, hk _ _ h.1, map_flat hk xs ys h.2]
section
variable (Z : List PanicEntry → World → Prop) {o w : World} {R : List HProp} {g : Nat} {B : Option Nat} {all : List UInt8} {off : Nat} {err : Int}
end
end Go.Proofs.YtoeamecdkimgaaaDoor

/- What get reads of a request: its form, field by field. -/
set_option linter.unusedVariables false
set_option linter.unusedSimpArgs false
namespace Go.Proofs.YtoeamecdkimgaaaDoor
open Go.Sh
/-- A request's lists, each of its own. -/
def OwF (f : Fl) (vd va vw : Value) : HProp := sep (own 5 1 vd f.data.length (cb f.data)) (sep (own 116 3 va f.acl.length (f.acl.map enC).flatten) (own 114 2 vw f.who.length (f.who.map idC).flatten))
mutual
def OwQ : Rq → HProp
  | .mk f vd va vw vo l => sep (OwF f vd va vw) (sep (own 47 11 vo l.length (l.map Rq.cells).flatten) (OwS l))
def OwS : List Rq → HProp
  | [] => fun _ => True
  | x :: l => sep (OwQ x) (OwS l)
end
theorem OwS_sat (l : List Rq) : OwS l = satH (l.map OwQ) := by
  induction l with
  | nil => rfl
  | cons x l ih =>
    rw [OwS, ih]
    rfl
theorem OwQ_eq (q : Rq) : OwQ q = sep (OwF q.f q.vd q.va q.vw) (sep (own 47 11 q.vo q.ops.length (q.ops.map Rq.cells).flatten) (satH (q.ops.map OwQ))) := by
  cases q with
  | mk f a b c d l => rw [OwQ, OwS_sat]; rfl
/-- The fields up to i. -/
def cut : Nat → Fl → Fl
  | 0, f => ⟨f.kd, [], [], [], 0, false, false, 0, 0, []⟩
  | 1, f => ⟨f.kd, f.path, [], [], 0, false, false, 0, 0, []⟩
  | 2, f => ⟨f.kd, f.path, f.data, [], 0, false, false, 0, 0, []⟩
  | 3, f => ⟨f.kd, f.path, f.data, f.acl, 0, false, false, 0, 0, []⟩
  | 4, f => ⟨f.kd, f.path, f.data, f.acl, f.ver, false, false, 0, 0, []⟩
  | 5, f => ⟨f.kd, f.path, f.data, f.acl, f.ver, f.eph, f.seq, 0, 0, []⟩
  | 6, f => ⟨f.kd, f.path, f.data, f.acl, f.ver, f.eph, f.seq, f.ses, 0, []⟩
  | 7, f => ⟨f.kd, f.path, f.data, f.acl, f.ver, f.eph, f.seq, f.ses, f.tmo, []⟩
  | _, f => f
/-- Field i as bytes. -/
def pc (inner : Bool) (f : Fl) : Nat → List UInt8
  | 0 => p0 inner f
  | 1 => p1 inner f
  | 2 => p2 inner f
  | 3 => p3 inner f
  | 4 => p4 inner f
  | 5 => p5 inner f
  | 6 => p6 inner f
  | _ => p7 inner f
def pre (inner : Bool) (f : Fl) : Nat → List UInt8
  | 0 => enc 1 f.kd
  | i + 1 => pre inner f i ++ pc inner f i
/-- Field i may stand there. -/
def okc (inner : Bool) (f : Fl) : Nat → Prop
  | 0 => if bi inner f 0 then okL 64 f.path else f.path = []
  | 1 => if bi inner f 1 then okL 96 f.data else f.data = []
  | 2 => if bi inner f 2 then f.acl.length ≤ 4 ∧ ∀ x ∈ f.acl, okEn x else f.acl = []
  | 3 => if bi inner f 3 then -2147483648 ≤ f.ver ∧ f.ver ≤ 2147483647 else f.ver = 0
  | 4 => if bi inner f 4 then True else f.eph = false ∧ f.seq = false
  | 5 => if bi inner f 5 then -9223372036854775808 ≤ f.ses ∧ f.ses ≤ 9223372036854775807 else f.ses = 0
  | 6 => if bi inner f 6 then -2147483648 ≤ f.tmo ∧ f.tmo ≤ 2147483647 else f.tmo = 0
  | _ => if bi inner f 7 then f.who.length ≤ 4 ∧ ∀ x ∈ f.who, okId x else f.who = []
def okTo (inner : Bool) (f : Fl) : Nat → Prop
  | 0 => 1 ≤ f.kd ∧ f.kd ≤ 12 ∧ (inner = true → f.kd ≤ 5)
  | i + 1 => okTo inner f i ∧ okc inner f i
def reqI (inner : Bool) (q : Rq) : List UInt8 := flB inner q.f ++ if bi inner q.f 8 then opsB q else []
def okR (inner : Bool) (q : Rq) : Prop := okTo inner q.f 8 ∧ if bi inner q.f 8 then q.ops.length ≤ 8 ∧ ∀ x ∈ q.ops, okTo true x.f 8 ∧ x.ops = [] else q.ops = []
def keyQ (q : Rq) : Fl × List Fl := (q.f, q.ops.map Rq.f)
theorem lt8 {i : Nat} (h : i < 8) : i = 0 ∨ i = 1 ∨ i = 2 ∨ i = 3 ∨ i = 4 ∨ i = 5 ∨ i = 6 ∨ i = 7 := by omega
theorem cut_kd (i : Nat) (f : Fl) : (cut i f).kd = f.kd := by
  by_cases h : i < 8
  · obtain rfl | rfl | rfl | rfl | rfl | rfl | rfl | rfl := lt8 h <;> rfl
  · obtain ⟨k, rfl⟩ : ∃ k, i = k + 8 := ⟨i - 8, by omega⟩
    rfl
theorem cut_bi (inner : Bool) (i j : Nat) (f : Fl) : bi inner (cut i f) j = bi inner f j := by unfold bi; rw [cut_kd]
theorem flB_pre (inner : Bool) (f : Fl) : flB inner f = pre inner f 8 := rfl
theorem pre_cut (inner : Bool) (i : Nat) (hi : i < 8) (f : Fl) : pre inner (cut i f) i = pre inner f i := by
  obtain rfl | rfl | rfl | rfl | rfl | rfl | rfl | rfl := lt8 hi <;> rfl
theorem pre_add (inner : Bool) (f : Fl) (j : Nat) : ∀ k, ∃ rest, pre inner f (j + k) = pre inner f j ++ rest
  | 0 => ⟨[], by rw [List.append_nil]; rfl⟩
  | k + 1 => by
    obtain ⟨rest, h⟩ := pre_add inner f j k
    exact ⟨rest ++ pc inner f (j + k), by rw [← Nat.add_assoc, pre, h, List.append_assoc]⟩
theorem pre_more (inner : Bool) (f : Fl) (i : Nat) (hi : i < 8) : ∃ rest, pre inner f 8 = pre inner f i ++ (pc inner f i ++ rest) := by
  obtain ⟨rest, h⟩ := pre_add inner f (i + 1) (7 - i)
  have e : pre inner f (i + 1) = pre inner f i ++ pc inner f i := rfl
  rw [show i + 1 + (7 - i) = 8 by omega, e, List.append_assoc] at h
  exact ⟨rest, h⟩
theorem okTo_le {inner : Bool} {f : Fl} {i j : Nat} (h : okTo inner f j) (hi : i < j) : okc inner f i := by
  induction j with
  | zero => omega
  | succ j ih =>
    by_cases e : i = j
    · subst e; exact h.2
    · exact ih h.1 (by omega)
theorem okTo_kd {inner : Bool} {f : Fl} {j : Nat} (h : okTo inner f j) : 1 ≤ f.kd ∧ f.kd ≤ 12 ∧ (inner = true → f.kd ≤ 5) := by
  induction j with
  | zero => exact h
  | succ j ih => exact ih h.1
/-- A request's field i, behind those that are known. -/
theorem piece_at {inner : Bool} {all : List UInt8} {off i : Nat} {f : Fl} {y : Rq} (hi : i < 8) (hc : cut i y.f = f) (h : Has all off (reqI inner y)) : Has all (off + (pre inner f i).length) (pc inner y.f i) := by
  have h1 := h.left
  rw [flB_pre] at h1
  obtain ⟨rest, hr⟩ := pre_more inner y.f i hi
  rw [hr] at h1
  have h2 := h1.right.left
  rwa [← pre_cut inner i hi, hc] at h2
/-- A field that isn't laid stays zero. -/
theorem cut_skip {inner : Bool} {f : Fl} {i : Nat} (hi : i < 8) (hb : bi inner f i = false) (h : okc inner f i) : cut (i + 1) f = cut i f := by
  obtain rfl | rfl | rfl | rfl | rfl | rfl | rfl | rfl := lt8 hi
  all_goals simp only [okc, hb, Bool.false_eq_true, if_false] at h
  all_goals cases f; simp_all [cut]
theorem okc_zero {inner : Bool} {f : Fl} {i : Nat} (hi : i < 8) (hb : bi inner f i = false) (h : cut i f = f) : okc inner f i := by
  obtain rfl | rfl | rfl | rfl | rfl | rfl | rfl | rfl := lt8 hi
  all_goals simp only [okc, hb, Bool.false_eq_true, if_false]
  all_goals rw [← h]; first | rfl | exact ⟨rfl, rfl⟩
theorem pc_skip {inner : Bool} {f : Fl} {i : Nat} (hi : i < 8) (hb : bi inner f i = false) : pc inner f i = [] := by
  obtain rfl | rfl | rfl | rfl | rfl | rfl | rfl | rfl := lt8 hi
  all_goals simp [pc, p0, p1, p2, p3, p4, p5, p6, p7, hb]
section
variable {o w : World} {R : List HProp} {g g2 : Nat} {B : Option Nat} {all : List UInt8} {off : Nat} {err : Int} {inner : Bool} {kd : Int}
/-- Behind the fields before i: all is well so far; or a fault was seen. -/
def Sg (inner : Bool) (kd : Int) (g g2 : Nat) (B : Option Nat) (all : List UInt8) (off : Nat) (o : World) (R : List HProp) (i : Nat) (w : World) : Prop :=
  (∃ f vd va vw, f.kd = kd ∧ cut i f = f ∧ okTo inner f i ∧ Has all off (pre inner f i) ∧ (∀ y, okR inner y → Has all off (reqI inner y) → cut i y.f = f) ∧
    St o w (RdrAt g B all (off + (pre inner f i).length) 0 :: blk g2 47 (rqC f vd va vw (.slice none 0 0)) :: OwF f vd va vw :: R)) ∨
  ((∀ y, okR inner y → ¬ Has all off (reqI inner y)) ∧ ∃ off' e' xs, e' ≠ 0 ∧ xs.length = 11 ∧ ones xs ∧ St o w (RdrAt g B all off' e' :: blk g2 47 xs :: R))
theorem Sg.skip {i : Nat} (hi : i < 8) {f0 : Fl} (hf : f0.kd = kd) (hb : bi inner f0 i = false) (h : Sg inner kd g g2 B all off o R i w) : Sg inner kd g g2 B all off o R (i + 1) w := by
  have hbk : ∀ f : Fl, f.kd = kd → bi inner f i = false := fun f hk => by
    have : bi inner f i = bi inner f0 i := by unfold bi; rw [hk, hf]
    rw [this]; exact hb
  rcases h with ⟨f, vd, va, vw, hk, hc, hok, hh, hu, hS⟩ | hbad
  · have hb1 := hbk f hk
    have hoc := okc_zero hi hb1 hc
    have hp := pc_skip hi hb1
    refine .inl ⟨f, vd, va, vw, hk, by rw [cut_skip hi hb1 hoc, hc], ⟨hok, hoc⟩, ?_, fun y hy hhy => ?_, ?_⟩
    · rw [pre, hp, List.append_nil]; exact hh
    · have h1 := hu y hy hhy
      have hky : y.f.kd = kd := by rw [← hk, ← h1, cut_kd]
      rw [cut_skip hi (hbk _ hky) (okTo_le hy.1 hi), h1]
    · rw [pre, hp, List.append_nil]; exact hS
  · exact .inr hbad
theorem OwF.data {f : Fl} {vd va vw v : Value} {k : List UInt8} (h : St o w (own 5 1 v k.length (cb k) :: OwF f vd va vw :: R)) : St o w (OwF { f with data := k } v va vw :: R) := by
  have h1 := (h.swap.sep.drop).swap
  exact h1.sep_intro
theorem OwF.acl {f : Fl} {vd va vw v : Value} {k : List En} (h : St o w (own 116 3 v k.length (k.map enC).flatten :: OwF f vd va vw :: R)) : St o w (OwF { f with acl := k } vd v vw :: R) := by
  have h1 := h.swap.sep.swap.sep.drop
  have h2 : St o w (own 116 3 v k.length (k.map enC).flatten :: own 114 2 vw f.who.length (f.who.map idC).flatten :: own 5 1 vd f.data.length (cb f.data) :: R) := h1.pick 2
  exact h2.sep_intro.swap.sep_intro
theorem OwF.who {f : Fl} {vd va vw v : Value} {k : List Idd} (h : St o w (own 114 2 v k.length (k.map idC).flatten :: OwF f vd va vw :: R)) : St o w (OwF { f with who := k } vd va v :: R) := by
  have h1 := h.swap.sep.swap.sep.swap.drop
  have h2 : St o w (own 116 3 va f.acl.length (f.acl.map enC).flatten :: own 114 2 v k.length (k.map idC).flatten :: own 5 1 vd f.data.length (cb f.data) :: R) := (h1.pick 2).swap
  exact h2.sep_intro.swap.sep_intro
theorem OwF.plain (kd : Int) (h : St o w R) : St o w (OwF (cut 0 ⟨kd, [], [], [], 0, false, false, 0, 0, []⟩) (.slice none 0 0) (.slice none 0 0) (.slice none 0 0) :: R) := by
  have h1 := ((h.own_nil 114 2).own_nil 116 3).sep_intro.own_nil 5 1
  exact h1.sep_intro
theorem OwF.rd {f : Fl} {vd va vw : Value} (h : St o w (OwF f vd va vw :: R)) : RdF w f vd va vw := by
  have h1 := h.sep
  have h2 := h1.swap.sep
  exact ⟨h1.own_rd m0, h2.own_rd m0, h2.own_rd m1⟩
theorem OwQ.rd (q : Rq) : ∀ {R : List HProp}, St o w (OwQ q :: R) → RdQ w q := by
  induction q using Rq.ind with | h q ih => ?_
  intro R h
  rw [OwQ_eq] at h
  have h1 := h.sep
  have h2 := h1.swap.sep
  refine .mk q (OwF.rd h1) (h2.own_rd m0) fun x hx => ?_
  obtain ⟨As, Bs, e⟩ := List.append_of_mem hx
  have h3 := h2.swap
  rw [e, List.map_append, List.map_cons] at h3
  exact ih x hx h3.all_out
end
end Go.Proofs.YtoeamecdkimgaaaDoor

/- get: what is read of a request; Read. -/
set_option linter.unusedVariables false
set_option linter.unusedSimpArgs false
namespace Go.Proofs.YtoeamecdkimgaaaDoor
open Go.Sh
theorem okTo_cut (inner : Bool) (i : Nat) (hi : i < 8) (f : Fl) : okTo inner (cut i f) i = okTo inner f i := by
  obtain rfl | rfl | rfl | rfl | rfl | rfl | rfl | rfl := lt8 hi <;> rfl
theorem good_step {inner : Bool} {all : List UInt8} {off : Nat} {i : Nat} (hi : i < 8) {f f' : Fl} (hcf : cut i f' = f) (hok : okTo inner f i) (hokc : okc inner f' i) (hh : Has all off (pre inner f i)) (hpc : Has all (off + (pre inner f i).length) (pc inner f' i))
    (hu : ∀ y, okR inner y → Has all off (reqI inner y) → cut i y.f = f) (hu2 : ∀ y, okR inner y → cut i y.f = f → Has all (off + (pre inner f i).length) (pc inner y.f i) → cut (i + 1) y.f = f') :
    okTo inner f' (i + 1) ∧ Has all off (pre inner f' (i + 1)) ∧ (∀ y, okR inner y → Has all off (reqI inner y) → cut (i + 1) y.f = f') ∧ off + (pre inner f' (i + 1)).length = off + (pre inner f i).length + (pc inner f' i).length := by
  have hp : pre inner f' i = pre inner f i := by rw [← pre_cut inner i hi f', hcf]
  refine ⟨⟨?_, hokc⟩, ?_, fun y hy hhy => hu2 y hy (hu y hy hhy) ?_, ?_⟩
  · rw [← okTo_cut inner i hi f', hcf]; exact hok
  · rw [pre, hp]; exact Has.split.2 ⟨hh, hpc⟩
  · exact piece_at hi (hu y hy hhy) hhy
  · rw [pre, hp, List.length_append]; omega
def okK (inner : Bool) (kd : Int) : Bool := (decide (1 ≤ kd ∧ kd ≤ 12)) && !(inner && decide (5 < kd))
def zf : Fl := ⟨0, [], [], [], 0, false, false, 0, 0, []⟩
def kf (kd : Int) : Fl := ⟨kd, [], [], [], 0, false, false, 0, 0, []⟩
theorem kf_cut (kd : Int) : cut 0 (kf kd) = kf kd := rfl
theorem rqC_ones {f : Fl} {vd va vw vo : Value} (h1 : vd.oneCell' = true) (h2 : va.oneCell' = true) (h3 : vw.oneCell' = true) (h4 : vo.oneCell' = true) : ones (rqC f vd va vw vo) := by
  intro u hu
  simp only [rqC, List.mem_cons, List.not_mem_nil, or_false] at hu
  rcases hu with rfl | rfl | rfl | rfl | rfl | rfl | rfl | rfl | rfl | rfl | rfl <;> first | assumption | rfl
theorem ones_set {xs : List Value} {i : Nat} {v : Value} (h : ones xs) (hv : v.oneCell' = true) : ones (xs.set i v) := by
  intro u hu
  rcases List.mem_or_eq_of_mem_set hu with hu | rfl
  · exact h u hu
  · exact hv
theorem okTo_ops {q : Rq} (h : okR true q) : q.ops = [] ∧ reqI true q = opB q := by
  have hk := okTo_kd h.1
  have h8 := bi8 q.f ⟨by omega, hk.2.2 rfl⟩
  have h2 := h.2
  rw [h8] at h2
  refine ⟨by simpa using h2, ?_⟩
  unfold reqI
  rw [h8]
  simp [opB]
theorem keyQ_bytes {inner : Bool} (x y : Rq) (h : keyQ x = keyQ y) : reqI inner x = reqI inner y := by
  have h1 : x.f = y.f := congrArg Prod.fst h
  have h2 : x.ops.map Rq.f = y.ops.map Rq.f := congrArg Prod.snd h
  have hl : x.ops.length = y.ops.length := by have := congrArg List.length h2; simpa using this
  have h3 : x.ops.map opB = y.ops.map opB := by
    have : ∀ l : List Rq, l.map opB = (l.map Rq.f).map (flB true) := fun l => by rw [List.map_map]; rfl
    rw [this, this, h2]
  unfold reqI opsB
  rw [h1, hl, h3]
theorem okR_of {x : Rq} (h : okTo true x.f 8 ∧ x.ops = []) : okR true x := by
  have hk := okTo_kd h.1
  refine ⟨h.1, ?_⟩
  rw [bi8 x.f ⟨by omega, hk.2.2 rfl⟩]
  simpa using h.2
theorem opsB_req {q : Rq} (h : ∀ x ∈ q.ops, okR true x) : opsB q = lsB q.ops.length (q.ops.map (reqI true)) := by
  unfold opsB
  rw [List.map_congr_left fun x hx => (okTo_ops (h x hx)).2.symm]
theorem enB_pos (x : En) (_ : okEn x) : 1 ≤ (enB x).length := by rw [enB, List.length_append, enc_length]; omega
theorem idB_pos (x : Idd) (_ : okId x) : 1 ≤ (idB x).length := by rw [idB, List.length_append, encL_len]; omega
theorem reqI_pos (inner : Bool) (x : Rq) (_ : okR inner x) : 1 ≤ (reqI inner x).length := by
  simp only [reqI, flB, List.length_append, enc_length]; omega
/-- Behind all fields. -/
def Sq (inner : Bool) (g g2 : Nat) (B : Option Nat) (all : List UInt8) (off : Nat) (o : World) (R : List HProp) (w : World) : Prop :=
  (∃ q, okR inner q ∧ Has all off (reqI inner q) ∧ (∀ y, okR inner y → Has all off (reqI inner y) → keyQ y = keyQ q) ∧ St o w (RdrAt g B all (off + (reqI inner q).length) 0 :: blk g2 47 q.cells :: OwQ q :: R)) ∨
  ((∀ y, okR inner y → ¬ Has all off (reqI inner y)) ∧ ∃ off' e' xs, e' ≠ 0 ∧ xs.length = 11 ∧ ones xs ∧ St o w (RdrAt g B all off' e' :: blk g2 47 xs :: R))
section
variable (Z : List PanicEntry → World → Prop) {o w : World} {R As : List HProp} {g : Nat} {B : Option Nat} {all : List UInt8} {off : Nat} {err : Int}
end
end Go.Proofs.YtoeamecdkimgaaaDoor

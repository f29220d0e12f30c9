
/- Disks, plainly: what each call makes of a disk's files. -/
import Derived.Test.YtcbbaiglcgemmaaGreatDoorS0
set_option linter.unusedVariables false
set_option linter.unusedSimpArgs false
namespace Go.Proofs.YtcbbaiglcgemmaaGreatDoor
open Go.Sh
abbrev Bs := List UInt8
def blt (a b : Bs) : Bool := Op.bytesLess a b
theorem blt_cons (a b : UInt8) (x y : Bs) : blt (a :: x) (b :: y) = (decide (a < b) || (a == b && blt x y)) := rfl
theorem blt_irr : ∀ a : Bs, blt a a = false
  | [] => rfl
  | a :: x => by rw [blt_cons, blt_irr x]; simp
theorem blt_trans : ∀ {a b c : Bs}, blt a b = true → blt b c = true → blt a c = true
  | _, _, [], _, h => by cases ‹Bs› <;> simp [blt, Op.bytesLess] at h
  | [], _, _ :: _, _, _ => rfl
  | _ :: _, [], _ :: _, h, _ => by simp [blt, Op.bytesLess] at h
  | a :: x, b :: y, c :: z, h1, h2 => by
    rw [blt_cons] at h1 h2 ⊢
    simp only [Bool.or_eq_true, decide_eq_true_eq, Bool.and_eq_true, beq_iff_eq] at h1 h2 ⊢
    rcases h1 with h1 | ⟨rfl, h1⟩
    · rcases h2 with h2 | ⟨rfl, h2⟩
      · exact .inl (by rw [UInt8.lt_iff_toNat_lt] at *; omega)
      · exact .inl h1
    · rcases h2 with h2 | ⟨rfl, h2⟩
      · exact .inl h2
      · exact .inr ⟨rfl, blt_trans h1 h2⟩
theorem blt_tri : ∀ {a b : Bs}, blt a b = false → blt b a = false → a = b
  | [], [], _, _ => rfl
  | [], _ :: _, h, _ => by simp [blt, Op.bytesLess] at h
  | _ :: _, [], _, h => by simp [blt, Op.bytesLess] at h
  | a :: x, b :: y, h1, h2 => by
    rw [blt_cons] at h1 h2
    simp only [Bool.or_eq_false_iff, decide_eq_false_iff_not, Bool.and_eq_false_imp, beq_iff_eq] at h1 h2
    have e : a = b := by
      have p1 := h1.1
      have p2 := h2.1
      rw [UInt8.lt_iff_toNat_lt] at p1 p2
      exact UInt8.toNat_inj.1 (by omega)
    subst e
    rw [blt_tri (h1.2 rfl) (h2.2 rfl)]
theorem blt_asymm {a b : Bs} (h : blt a b = true) : blt b a = false := by
  cases hb : blt b a with
  | false => rfl
  | true => have := blt_trans h hb; rw [blt_irr] at this; cases this
structure Fil where
  nm : Bs
  by_ : Bs
  sy : Nat
def Srt (fs : List Fil) : Prop := fs.Pairwise fun a b => blt a.nm b.nm = true
def ix : List Fil → Bs → Nat
  | [], _ => 0
  | f :: fs, n => if blt f.nm n then ix fs n + 1 else 0
def isAt (fs : List Fil) (n : Bs) : Bool := match fs[ix fs n]? with
  | some f => decide (f.nm = n)
  | none => false
theorem ix_le : ∀ (fs : List Fil) (n : Bs), ix fs n ≤ fs.length
  | [], _ => Nat.le_refl _
  | f :: fs, n => by unfold ix; have := ix_le fs n; split <;> simp <;> omega
theorem ix_of : ∀ (fs : List Fil) (n : Bs) (lo : Nat), lo ≤ fs.length → (∀ j (hj : j < fs.length), j < lo → blt fs[j].nm n = true) → (∀ (h : lo < fs.length), blt fs[lo].nm n = false) → ix fs n = lo
  | [], _, lo, hl, _, _ => by simp at hl; subst hl; rfl
  | f :: fs, n, 0, _, _, h => by
    have := h (by simp)
    simp only [List.getElem_cons_zero] at this
    simp [ix, this]
  | f :: fs, n, lo + 1, hl, h1, h2 => by
    have h0 := h1 0 (by simp) (by omega)
    simp only [List.getElem_cons_zero] at h0
    rw [ix, if_pos h0, ix_of fs n lo (by simpa using hl) (fun j hj hlt => h1 (j + 1) (by simpa using hj) (by omega)) (fun h => h2 (by simpa using h))]
theorem ix_lt : ∀ (fs : List Fil) (n : Bs) (j : Nat) (hj : j < fs.length), j < ix fs n → blt fs[j].nm n = true
  | f :: fs, n, j, hj, h => by
    unfold ix at h
    split at h
    · rename_i hb
      cases j with
      | zero => exact hb
      | succ j => simpa using ix_lt fs n j (by simpa using hj) (by omega)
    · omega
theorem ix_ge : ∀ (fs : List Fil) (n : Bs) (h : ix fs n < fs.length), blt fs[ix fs n].nm n = false
  | f :: fs, n, h => by
    by_cases hb : blt f.nm n = true
    · have e : ix (f :: fs) n = ix fs n + 1 := by simp [ix, hb]
      have h' : ix fs n < fs.length := by rw [e] at h; simpa using h
      have := ix_ge fs n h'
      simpa [e] using this
    · have e : ix (f :: fs) n = 0 := by simp [ix, hb]
      have hb' : blt f.nm n = false := by simpa using hb
      simpa [e] using hb'
theorem Srt.lt {fs : List Fil} (h : Srt fs) {i j : Nat} (hi : i < fs.length) (hj : j < fs.length) (hij : i < j) : blt fs[i].nm fs[j].nm = true := List.pairwise_iff_getElem.1 h i j hi hj hij
theorem Srt.ix_at {fs : List Fil} (h : Srt fs) {i : Nat} (hi : i < fs.length) : ix fs fs[i].nm = i :=
  ix_of fs _ i (by omega) (fun j hj hlt => h.lt hj hi hlt) (fun h => blt_irr _)
theorem isAt_iff {fs : List Fil} (h : Srt fs) (n : Bs) : isAt fs n = true ↔ ∃ f ∈ fs, f.nm = n := by
  unfold isAt
  constructor
  · intro hh
    split at hh
    · rename_i f hf
      exact ⟨f, List.mem_of_getElem? hf, of_decide_eq_true hh⟩
    · cases hh
  · rintro ⟨f, hf, rfl⟩
    obtain ⟨i, hi, rfl⟩ := List.getElem_of_mem hf
    rw [h.ix_at hi, List.getElem?_eq_getElem hi]
    simp
theorem isAt_some {fs : List Fil} {n : Bs} (h : isAt fs n = true) : ∃ hi : ix fs n < fs.length, fs[ix fs n].nm = n := by
  unfold isAt at h
  split at h
  · rename_i f hf
    obtain ⟨hi, e⟩ := List.getElem?_eq_some_iff.1 hf
    exact ⟨hi, by rw [e]; exact of_decide_eq_true h⟩
  · cases h
def total (fs : List Fil) : Nat := (fs.map fun f => f.by_.length).sum
theorem total_append (a b : List Fil) : total (a ++ b) = total a + total b := by unfold total; rw [List.map_append, List.sum_append]
theorem total_cons (f : Fil) (b : List Fil) : total (f :: b) = f.by_.length + total b := rfl
theorem total_ge {fs : List Fil} {f : Fil} (h : f ∈ fs) : f.by_.length ≤ total fs := by
  obtain ⟨a, b, rfl⟩ := List.append_of_mem h
  rw [total_append, total_cons]; omega
def insF (fs : List Fil) (f : Fil) : List Fil := fs.take (ix fs f.nm) ++ f :: fs.drop (ix fs f.nm)
theorem insF_length (fs : List Fil) (f : Fil) : (insF fs f).length = fs.length + 1 := by
  unfold insF
  have := ix_le fs f.nm
  simp; omega
theorem insF_total (fs : List Fil) (f : Fil) : total (insF fs f) = total fs + f.by_.length := by
  unfold insF
  rw [total_append, total_cons]
  have : total fs = total (fs.take (ix fs f.nm)) + total (fs.drop (ix fs f.nm)) := by rw [← total_append, List.take_append_drop]
  omega
theorem insF_mem {fs : List Fil} {f g : Fil} : g ∈ insF fs f ↔ g = f ∨ g ∈ fs := by
  unfold insF
  conv => rhs; rhs; rw [← List.take_append_drop (ix fs f.nm) fs]
  simp only [List.mem_append, List.mem_cons]
  constructor
  · rintro (h | h | h)
    · exact .inr (.inl h)
    · exact .inl h
    · exact .inr (.inr h)
  · rintro (h | h | h)
    · exact .inr (.inl h)
    · exact .inl h
    · exact .inr (.inr h)
theorem insF_srt {fs : List Fil} {f : Fil} (h : Srt fs) (hn : isAt fs f.nm = false) : Srt (insF fs f) := by
  have hlt : ∀ g ∈ fs.take (ix fs f.nm), blt g.nm f.nm = true := fun g hg => by
    obtain ⟨j, hj, rfl⟩ := List.getElem_of_mem hg
    rw [List.getElem_take]
    have := hj
    rw [List.length_take] at this
    exact ix_lt fs f.nm j (by omega) (by omega)
  have hgt : ∀ g ∈ fs.drop (ix fs f.nm), blt f.nm g.nm = true := fun g hg => by
    obtain ⟨j, hj, rfl⟩ := List.getElem_of_mem hg
    rw [List.length_drop] at hj
    rw [List.getElem_drop]
    have h0 : ix fs f.nm < fs.length := by omega
    have h1 := ix_ge fs f.nm h0
    have h2 : fs[ix fs f.nm].nm ≠ f.nm := fun e => by
      unfold isAt at hn
      rw [List.getElem?_eq_getElem h0] at hn
      exact absurd e (of_decide_eq_false hn)
    have h3 : blt f.nm fs[ix fs f.nm].nm = true := by
      cases hb : blt f.nm fs[ix fs f.nm].nm with
      | true => rfl
      | false => exact absurd (blt_tri h1 hb) h2
    cases j with
    | zero => exact h3
    | succ j => exact blt_trans h3 (h.lt h0 (by omega) (by omega))
  unfold insF Srt
  rw [List.pairwise_append, List.pairwise_cons]
  refine ⟨List.Pairwise.sublist (List.take_sublist _ _) h, ⟨hgt, List.Pairwise.sublist (List.drop_sublist _ _) h⟩, fun a ha b hb => ?_⟩
  rcases List.mem_cons.1 hb with rfl | hb
  · exact hlt a ha
  · exact blt_trans (hlt a ha) (hgt b hb)
theorem total_set {fs : List Fil} {i : Nat} (hi : i < fs.length) (f : Fil) : total (fs.set i f) + fs[i].by_.length = total fs + f.by_.length := by
  have h1 : fs = fs.take i ++ fs[i] :: fs.drop (i + 1) := by simp
  have h2 : total fs = total (fs.take i) + (fs[i].by_.length + total (fs.drop (i + 1))) := by
    conv => lhs; rw [h1]
    rw [total_append, total_cons]
  have h3 : fs.set i f = fs.take i ++ f :: fs.drop (i + 1) := List.set_eq_take_append_cons_drop .. |>.trans (if_pos hi)
  rw [h3, total_append, total_cons]; omega
theorem Srt.set {fs : List Fil} (h : Srt fs) {i : Nat} (hi : i < fs.length) (f : Fil) (hn : f.nm = fs[i].nm) : Srt (fs.set i f) := by
  unfold Srt
  rw [List.pairwise_iff_getElem]
  intro a b ha hb hab
  simp only [List.length_set] at ha hb
  have := h.lt ha hb hab
  rw [List.getElem_set, List.getElem_set]
  split <;> split
  · omega
  · subst_vars; rw [hn]; exact this
  · subst_vars; rw [hn]; exact this
  · exact this
structure Dk where
  room : Nat
  fs : List Fil
  on : Bool
  armed : Bool
  more : Int
  writes : Int
structure Dk.ok (d : Dk) : Prop where
  room : d.room ≤ 16777216
  used : total d.fs ≤ d.room
  srt : Srt d.fs
  sy : ∀ f ∈ d.fs, f.sy ≤ f.by_.length
  many : d.fs.length ≤ 64
def okc (b : UInt8) : Bool := (decide (97 ≤ b.toNat) && decide (b.toNat ≤ 122)) || (decide (48 ≤ b.toNat) && decide (b.toNat ≤ 57)) || decide (b.toNat = 46)
def nameOk (s : Bs) : Bool := s.all okc && (decide (1 ≤ s.length) && decide (s.length ≤ 24))
def Dk.new (room : Nat) : Dk := ⟨room, [], true, false, 0, 0⟩
def Dk.stops (d : Dk) : Bool := d.armed && d.more == 0
def Dk.off (d : Dk) : Dk := { d with on := false, armed := false }
def Dk.wrote (d : Dk) : Dk := { d with more := IntKind.i64.wrap (d.more - 1), writes := IntKind.i64.wrap (d.writes + 1) }
def Dk.asked (d : Dk) (ns : List Bs) : Int := if d.on = false then 23 else if ns.all nameOk = false then 22 else 0
def Dk.found (d : Dk) (n : Bs) : Int := if d.asked [n] ≠ 0 then d.asked [n] else if isAt d.fs n then 0 else 20
def makeF (fs : List Fil) (n : Bs) : List Fil := if isAt fs n then fs else insF fs ⟨n, [], 0⟩
def Dk.append (d : Dk) (n p : Bs) : Int × Dk :=
  if d.asked [n] ≠ 0 then (d.asked [n], d)
  else if isAt d.fs n = false ∧ 64 ≤ d.fs.length then (22, d)
  else if d.room < total d.fs + p.length then (21, d)
  else if d.stops then (23, d.off)
  else (0, { d.wrote with fs := (makeF d.fs n).modify (ix d.fs n) fun f => { f with by_ := f.by_ ++ p } })
def Dk.sync (d : Dk) (n : Bs) : Int × Dk :=
  if d.found n ≠ 0 then (d.found n, d)
  else if d.stops then (23, d.off)
  else (0, { d.wrote with fs := d.fs.modify (ix d.fs n) fun f => { f with sy := f.by_.length } })
def left (tail : Nat) (k : Int) : Nat := min tail k.toNat
def keepF : List Fil → List Int → List Fil
  | [], _ => []
  | f :: fs, [] => { f with by_ := f.by_.take f.sy } :: keepF fs []
  | f :: fs, k :: ks => { f with by_ := f.by_.take (f.sy + left (f.by_.length - f.sy) k), sy := f.sy + left (f.by_.length - f.sy) k } :: keepF fs ks
def Dk.start (d : Dk) (ks : List Int) : Dk := if d.on then d else { d with on := true, fs := keepF d.fs ks }
theorem Dk.off_ok {d : Dk} (h : d.ok) : d.off.ok := ⟨h.room, h.used, h.srt, h.sy, h.many⟩
theorem Dk.wrote_ok {d : Dk} (h : d.ok) : d.wrote.ok := ⟨h.room, h.used, h.srt, h.sy, h.many⟩
theorem modify_set {fs : List Fil} {i : Nat} (hi : i < fs.length) (F : Fil → Fil) : fs.modify i F = fs.set i (F fs[i]) := by
  apply List.ext_getElem?
  intro j
  rw [List.getElem?_modify, List.getElem?_set]
  by_cases e : i = j
  · subst e; simp [hi]
  · simp [e]
theorem makeF_srt {fs : List Fil} (h : Srt fs) (n : Bs) : Srt (makeF fs n) := by
  unfold makeF
  split
  · exact h
  · rename_i hb
    exact insF_srt h (by simpa using hb)
theorem ix_insF {fs : List Fil} (n : Bs) (f : Fil) (hf : f.nm = n) : (insF fs f)[ix fs n]? = some f := by
  unfold insF
  subst hf
  have := ix_le fs f.nm
  rw [List.getElem?_append_right (by rw [List.length_take]; omega), List.length_take, show ix fs f.nm - min (ix fs f.nm) fs.length = 0 by omega]
  rfl
theorem makeF_at {fs : List Fil} (n : Bs) : ∃ hi : ix fs n < (makeF fs n).length, (makeF fs n)[ix fs n].nm = n := by
  unfold makeF
  by_cases h : isAt fs n = true
  · rw [if_pos h]; exact isAt_some h
  · rw [if_neg h]
    have := ix_insF (fs := fs) n ⟨n, [], 0⟩ rfl
    obtain ⟨hi, e⟩ := List.getElem?_eq_some_iff.1 this
    exact ⟨hi, by rw [e]⟩
theorem makeF_total (fs : List Fil) (n : Bs) : total (makeF fs n) = total fs := by
  unfold makeF
  split
  · rfl
  · rw [insF_total]; rfl
theorem makeF_sy {fs : List Fil} (h : ∀ f ∈ fs, f.sy ≤ f.by_.length) (n : Bs) : ∀ f ∈ makeF fs n, f.sy ≤ f.by_.length := by
  unfold makeF
  split
  · exact h
  · intro f hf
    rcases insF_mem.1 hf with rfl | hf
    · exact Nat.le_refl _
    · exact h f hf
theorem set_all {fs : List Fil} {p : Fil → Prop} (h : ∀ f ∈ fs, p f) {i : Nat} {g : Fil} (hg : p g) : ∀ f ∈ fs.set i g, p f := fun f hf => by
  rcases List.mem_or_eq_of_mem_set hf with hf | rfl
  · exact h f hf
  · exact hg
theorem Dk.append_ok {d : Dk} (h : d.ok) (n p : Bs) : (d.append n p).2.ok := by
  unfold Dk.append
  split
  · exact h
  split
  · exact h
  split
  · exact h
  split
  · exact Dk.off_ok h
  rename_i h1 h2 h3 h4
  obtain ⟨hi, hn⟩ := makeF_at (fs := d.fs) n
  have ht := makeF_total d.fs n
  have hs := total_set hi { (makeF d.fs n)[ix d.fs n] with by_ := (makeF d.fs n)[ix d.fs n].by_ ++ p }
  simp only [List.length_append] at hs
  refine ⟨h.room, ?_, ?_, ?_, ?_⟩
  · show total ((makeF d.fs n).modify _ _) ≤ d.room
    rw [modify_set hi]; omega
  · show Srt ((makeF d.fs n).modify _ _)
    rw [modify_set hi]; exact (makeF_srt h.srt n).set hi _ rfl
  · show ∀ f ∈ (makeF d.fs n).modify _ _, _
    rw [modify_set hi]
    have hm := makeF_sy h.sy n
    refine set_all hm ?_
    have := hm _ (List.getElem_mem hi)
    simp; omega
  · show ((makeF d.fs n).modify _ _).length ≤ 64
    rw [List.length_modify]
    unfold makeF
    split
    · exact h.many
    · rename_i hb
      rw [insF_length]
      have hb : isAt d.fs n = false := by simpa using hb
      have : ¬ 64 ≤ d.fs.length := fun hh => h2 ⟨hb, hh⟩
      omega
theorem Dk.sync_ok {d : Dk} (h : d.ok) (n : Bs) : (d.sync n).2.ok := by
  unfold Dk.sync
  split
  · exact h
  split
  · exact Dk.off_ok h
  by_cases hi : ix d.fs n < d.fs.length
  · have hs := total_set hi { d.fs[ix d.fs n] with sy := d.fs[ix d.fs n].by_.length }
    refine ⟨h.room, ?_, ?_, ?_, ?_⟩
    · show total (d.fs.modify _ _) ≤ d.room
      rw [modify_set hi]; have := h.used; simp at hs; omega
    · show Srt (d.fs.modify _ _)
      rw [modify_set hi]; exact h.srt.set hi _ rfl
    · show ∀ f ∈ d.fs.modify _ _, _
      rw [modify_set hi]
      exact set_all h.sy (Nat.le_refl _)
    · show (d.fs.modify _ _).length ≤ 64
      rw [List.length_modify]; exact h.many
  · have : d.fs.modify (ix d.fs n) (fun f => { f with sy := f.by_.length }) = d.fs := List.modify_eq_self (by omega)
    rw [this]; exact Dk.wrote_ok h
end Go.Proofs.YtcbbaiglcgemmaaGreatDoor

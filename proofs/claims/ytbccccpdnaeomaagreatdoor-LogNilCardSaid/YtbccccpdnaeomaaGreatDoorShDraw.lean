/- A region that draws its order: what is asked of its operations in the order of the text so that every order comes to the same. Nothing of any one program stands here. -/
import Derived.Test.YtbccccpdnaeomaaGreatDoorShVc
namespace Go.Sh
variable {ds : List Deferred}
abbrev Gd := List (Nat × Sem Next × Value)
def waits (ops : Array Oper) (j i : Nat) : Bool :=
  match ops[j]? with
  | some o => o.after.toList.any fun e => bif Region.binds .any e then Nat.beq e.on i else false
  | none => false
def dropG (ops : Array Oper) (j : Nat) : Gd → Gd
  | [] => []
  | g :: G => bif waits ops j g.1 then dropG ops j G else g :: dropG ops j G
def gAll (P : Program) (G : Gd) (w : World) : Prop := ∀ g, g ∈ G → g.2.1.run P w = .ok (.value g.2.2) w
structure Still (P : Program) (s : Sem Next) (v : Value) (w : World) (A : Prop) : Prop where
  now : s.run P w = .ok (.value v) w
  out : A
abbrev gAnd (P : Program) (w : World) : Gd → Prop → Prop
  | [], A => A
  | g :: G, A => Still P g.2.1 g.2.2 w (gAnd P w G A)
theorem gAnd_spec {P : Program} {w : World} {G : Gd} {A : Prop} (h : gAnd P w G A) : gAll P G w ∧ A := by
  induction G with
  | nil => exact ⟨fun g hg => by simp at hg, h⟩
  | cons g G ih =>
    obtain ⟨h1, h2⟩ := h
    obtain ⟨h3, h4⟩ := ih h2
    exact ⟨fun x hx => (List.mem_cons.1 hx).elim (fun e => e ▸ h1) (h3 x), h4⟩
theorem mem_dropG {ops : Array Oper} {j : Nat} {G : Gd} {g : Nat × Sem Next × Value} (h : g ∈ dropG ops j G) : g ∈ G := by
  induction G with
  | nil => exact h
  | cons x G ih =>
    simp only [dropG] at h
    cases hw : waits ops j x.1 with
    | true => rw [hw] at h; exact List.mem_cons_of_mem _ (ih h)
    | false =>
      rw [hw] at h
      rcases List.mem_cons.1 h with rfl | h
      · exact List.mem_cons_self
      · exact List.mem_cons_of_mem _ (ih h)
theorem dropG_append (ops : Array Oper) (j : Nat) (G H : Gd) : dropG ops j (G ++ H) = dropG ops j G ++ dropG ops j H := by
  induction G with
  | nil => rfl
  | cons x G ih =>
    simp only [List.cons_append, dropG]
    cases waits ops j x.1
    · simp [ih]
    · simpa using ih
theorem dropG_keep {ops : Array Oper} {i j : Nat} {G : Gd} (hw : waits ops j i = false) (hG : ∀ g, g ∈ G → g.1 = i) : dropG ops j G = G := by
  induction G with
  | nil => rfl
  | cons x G ih =>
    simp only [dropG, hG x List.mem_cons_self, hw]
    rw [ih fun g hg => hG g (List.mem_cons_of_mem _ hg)]
    rfl
section
variable {P : Program} {ops : Array Oper} {Q : Exit → Act → World → Prop}
def wpAnyG (P : Program) (ops : Array Oper) (Q : Exit → Act → World → Prop) : Nat → Array Bool → Gd → Act → World → Prop
  | 0, listed, G, a, w => gAll P G w ∧ Region.ready .any ops listed = [] ∧ Q .normal a w
  | fuel + 1, listed, G, a, w => gAll P G w ∧ (Region.ready .any ops listed = [] → Q .normal a w) ∧
    ∀ i ∈ Region.ready .any ops listed, wpOp P ops Q i (wpAnyG P ops Q fuel (listed.setIfInBounds i true) (dropG ops i G)) a w
theorem wpAnyG.all : ∀ {fuel : Nat} {listed : Array Bool} {G : Gd} {a : Act} {w : World}, wpAnyG P ops Q fuel listed G a w → gAll P G w
  | 0, _, _, _, _, h => h.1
  | _ + 1, _, _, _, _, h => h.1
theorem wpAnyG.any : ∀ {fuel : Nat} {listed : Array Bool} {G : Gd} {a : Act} {w : World}, wpAnyG P ops Q fuel listed G a w → wpAny P .any ops Q fuel listed a w
  | 0, _, _, _, _, h => h.2
  | _ + 1, _, _, _, _, h => ⟨h.2.1, fun i hi => wpOp_mono (fun _ _ hh => wpAnyG.any hh) (h.2.2 i hi)⟩
theorem dropG_sub {ops : Array Oper} {j : Nat} : ∀ {G G' : Gd}, (∀ g, g ∈ G' → g ∈ G) → ∀ g, g ∈ dropG ops j G' → g ∈ dropG ops j G := by
  have key : ∀ (G : Gd) (g : Nat × Sem Next × Value), g ∈ dropG ops j G ↔ g ∈ G ∧ waits ops j g.1 = false := by
    intro G
    induction G with
    | nil => intro g; simp [dropG]
    | cons x G ih =>
      intro g
      simp only [dropG]
      cases hw : waits ops j x.1 with
      | true =>
        simp only [cond_true, ih, List.mem_cons]
        constructor
        · rintro ⟨h1, h2⟩; exact ⟨.inr h1, h2⟩
        · rintro ⟨rfl | h1, h2⟩
          · rw [hw] at h2; cases h2
          · exact ⟨h1, h2⟩
      | false =>
        simp only [cond_false, List.mem_cons, ih]
        constructor
        · rintro (rfl | ⟨h1, h2⟩)
          · exact ⟨.inl rfl, hw⟩
          · exact ⟨.inr h1, h2⟩
        · rintro ⟨rfl | h1, h2⟩
          · exact .inl rfl
          · exact .inr ⟨h1, h2⟩
  intro G G' h g hg
  rw [key] at hg ⊢
  exact ⟨h g hg.1, hg.2⟩
theorem wpAnyG.weaken : ∀ {fuel : Nat} {listed : Array Bool} {G G' : Gd} {a : Act} {w : World}, (∀ g, g ∈ G' → g ∈ G) → wpAnyG P ops Q fuel listed G a w → wpAnyG P ops Q fuel listed G' a w
  | 0, _, _, _, _, _, hs, h => ⟨fun g hg => h.1 g (hs g hg), h.2⟩
  | _ + 1, _, _, _, _, _, hs, h => ⟨fun g hg => h.1 g (hs g hg), h.2.1, fun i hi => wpOp_mono (fun _ _ hh => wpAnyG.weaken (dropG_sub hs) hh) (h.2.2 i hi)⟩
def SameOp (ops : Array Oper) (o : Oper) (a a' : Act) : Prop := execOp a'.eval o = execOp a.eval o ∧ Region.wanted o (yielded ops a'.tmps) = Region.wanted o (yielded ops a.tmps)
theorem wpOp_put' {j : Nat} {oi oj : Oper} {v : Value} (hj : ops[j]? = some oj) (hap : oi.apart ops oj = true)
    (hsi : ∀ cs b, oi.op ≠ .select cs b) (hsj : ∀ cs b, oj.op ≠ .select cs b)
    (hQ : ∀ c a w, Q (.panic c) (a.put oi.dst v) w → Q (.panic c) a w) {K : Act → World → Prop} {a : Act} {w : World}
    (h : wpOp P ops Q j K (a.put oi.dst v) w) : wpOp P ops Q j (fun a' w' => SameOp ops oi a a' ∧ K (a'.put oi.dst v) w') a w := by
  obtain ⟨h1, h2, h3⟩ := Oper.apart_spec hap
  have keep : ∀ (b : Act), SameOp ops oi a b → ∀ u, SameOp ops oi a (b.put oj.dst u) := fun b hy u =>
    ⟨(execOp_put oi hsi b oj.dst u h3).trans hy.1, (wanted_put oi b oj.dst u h3).trans hy.2⟩
  have k0 : SameOp ops oi a a := ⟨rfl, rfl⟩
  have keepD : ∀ d, SameOp ops oi a { a with defers := d :: a.defers } := fun d => ⟨rfl, rfl⟩
  unfold wpOp at *
  simp only [hj] at *
  rw [wanted_put oj a oi.dst v h1] at h
  split
  · rename_i hw
    simp only [hw, if_true] at h
    rcases h with h | ⟨hasks, hlets⟩
    case inr => exact .inr ⟨by unfold Oper.asks at *; rw [execOp_put oj hsj a oi.dst v h1] at hasks; exact hasks, hlets⟩
    refine .inl ?_
    unfold Oper.wp at *
    rw [execOp_put oj hsj a oi.dst v h1] at h
    generalize (execOp a.eval oj).run P w = r at *
    cases r with
    | ok n w' =>
      cases n <;> simp only [Oper.upon] at h ⊢
      case value u => exact ⟨keep a k0 u, by rw [← Act.put_comm a v u h2]; exact h⟩
      case skip => exact ⟨keep a k0 _, by rw [← Act.put_comm a v undef h2]; exact h⟩
      case defer d =>
        refine ⟨keep _ (keepD d) _, ?_⟩
        rw [← Act.put_comm _ v undef h2, ← Act.put_defers]
        exact h
      case enter f args =>
        refine Calls.mono h fun e w'' he => ?_
        cases e with
        | returned u => exact ⟨keep a k0 u, by rw [← Act.put_comm a v u h2]; exact he⟩
        | panicked c => exact hQ _ _ _ he
        | outgrown => exact he
      case row row args => exact Rows.mono h fun u w'' he => ⟨keep a k0 u, by rw [← Act.put_comm a v u h2]; exact he⟩
    | halt x w' =>
      cases x <;> simp only [Oper.upon] at h ⊢
      case panic u => exact hQ _ _ _ h
  · rename_i hw
    simp only [hw] at h
    exact ⟨keep a k0 _, by rw [← Act.put_comm a v undef h2]; exact h⟩
theorem waits_spec {i j : Nat} {oj : Oper} (hj : ops[j]? = some oj) (h : ∀ e ∈ oj.after, Region.binds .any e = true → e.on ≠ i) : waits ops j i = false := by
  unfold waits
  rw [hj]
  simp only
  rw [List.any_eq_false]
  intro e he
  cases hb : Region.binds .any e with
  | false => simp
  | true =>
    have := h e (by simpa using he) hb
    rw [beq_false_of_ne this]; simp
theorem wpAnyG_first {C : World → Prop} {i : Nat} {oi : Oper} {v : Value} {Gi : Gd} (hi : ops[i]? = some oi) (hsel : ∀ (j : Nat) (o : Oper) cs b, ops[j]? = some o → o.op ≠ .select cs b)
    (hQ : ∀ c a w, Q (.panic c) (a.put oi.dst v) w → Q (.panic c) a w) (hGi : ∀ g, g ∈ Gi → g.1 = i) (hC : ∀ w, gAll P Gi w → C w) :
    ∀ (fuel : Nat) (listed : Array Bool) (G : Gd) (a : Act) (w : World),
      (∀ j oj, ops[j]? = some oj → j ≠ i → listed.getD j true = false → (∀ e ∈ oj.after, Region.binds .any e = true → e.on ≠ i) → oi.apart ops oj = true) →
      i ∈ Region.ready .any ops listed →
      ((Region.wanted oi (yielded ops a.tmps) = true ∧ ∀ w, C w → (execOp a.eval oi).run P w = .ok (.value v) w) ∨ (Region.wanted oi (yielded ops a.tmps) = false ∧ v = undef)) →
      C w → gAll P G w → wpAnyG P ops Q fuel (listed.setIfInBounds i true) (Gi ++ G) (a.put oi.dst v) w → wpAnyG P ops Q (fuel + 1) listed G a w := by
  intro fuel
  have self : ∀ {K : Act → World → Prop} {a : Act} {w : World}, ((Region.wanted oi (yielded ops a.tmps) = true ∧ ∀ w, C w → (execOp a.eval oi).run P w = .ok (.value v) w) ∨ (Region.wanted oi (yielded ops a.tmps) = false ∧ v = undef)) → C w → K (a.put oi.dst v) w → wpOp P ops Q i K a w := by
    intro K a w hy hc hk
    unfold wpOp
    simp only [hi]
    rcases hy with ⟨hw, hv⟩ | ⟨hw, rfl⟩
    · simp only [hw, if_true, Oper.wp, hv w hc, Oper.upon]; exact .inl hk
    · simp only [hw, Bool.false_eq_true, if_false]; exact hk
  induction fuel with
  | zero =>
    intro listed G a w _ hr hy hc hG H
    refine ⟨hG, fun h => (by rw [h] at hr; cases hr), fun j hj => ?_⟩
    by_cases hji : j = i
    · subst hji
      exact self hy hc (H.weaken fun g hg => List.mem_append_right _ (mem_dropG hg))
    · have := ready_mono hj hji
      rw [H.2.1] at this
      cases this
  | succ fuel ih =>
    intro listed G a w hfree hr hy hc hG H
    refine ⟨hG, fun h => (by rw [h] at hr; cases hr), fun j hj => ?_⟩
    by_cases hji : j = i
    · subst hji
      exact self hy hc (H.weaken fun g hg => List.mem_append_right _ (mem_dropG hg))
    · have h1 := H.2.2 j (ready_mono hj hji)
      obtain ⟨hjun, oj, hoj, hall⟩ := mem_ready.1 hj
      have hnot : ∀ e ∈ oj.after, Region.binds .any e = true → e.on ≠ i := fun e he hb heq => by
        have h1 := hall e he hb
        have h0 := (mem_ready.1 hr).1
        rw [heq] at h1
        rcases Nat.lt_or_ge i listed.size with h' | h'
        · simp [h'] at h0 h1; rw [h0] at h1; cases h1
        · simp [Array.getElem?_eq_none h'] at h1
      rw [dropG_append, dropG_keep (waits_spec hoj hnot) hGi] at h1
      have h2 := wpOp_put' hoj (hfree j oj hoj hji hjun hnot) (fun cs b => hsel i oi cs b hi) (fun cs b => hsel j oj cs b hoj) hQ h1
      have hfree' : ∀ k ok, ops[k]? = some ok → k ≠ i → (listed.setIfInBounds j true).getD k true = false →
          (∀ e ∈ ok.after, Region.binds .any e = true → e.on ≠ i) → oi.apart ops ok = true := fun k ok hk hki hun hno => by
        refine hfree k ok hk hki ?_ hno
        by_cases hjk : j = k
        · subst hjk; exact hjun
        · rw [getD_set_ne true hjk] at hun; exact hun
      refine wpOp_mono (fun a' w' h3 => ?_) h2
      have hall' := h3.2.all
      refine ih (listed.setIfInBounds j true) (dropG ops j G) a' w' hfree' (ready_mono hr (Ne.symm hji)) ?_ (hC w' fun g hg => hall' g (List.mem_append_left _ hg)) (fun g hg => hall' g (List.mem_append_right _ hg)) ?_
      · unfold SameOp at h3
        rw [h3.1.1, h3.1.2]; exact hy
      · rw [Array.setIfInBounds_comm _ _ hji]
        exact h3.2
end

abbrev opAt : List Oper → Nat → Option Oper
  | [], _ => none
  | o :: _, 0 => some o
  | _ :: os, j + 1 => opAt os j
theorem opAt_list : ∀ (os : List Oper) (j : Nat), opAt os j = os[j]?
  | [], j => by simp [opAt]
  | o :: os, 0 => by simp [opAt]
  | o :: os, j + 1 => by simp [opAt, opAt_list os j]
theorem opAt_eq (ops : Array Oper) (j : Nat) : opAt ops.toList j = ops[j]? := by rw [opAt_list, Array.getElem?_toList]
abbrev allE (f : Edge → Bool) : List Edge → Bool
  | [] => true
  | e :: es => bif f e then allE f es else false
abbrev anyE (f : Edge → Bool) : List Edge → Bool
  | [] => false
  | e :: es => bif f e then true else anyE f es
theorem allE_spec {f : Edge → Bool} : ∀ {es : List Edge}, allE f es = true ↔ ∀ e, e ∈ es → f e = true
  | [] => by simp [allE]
  | e :: es => by
    simp only [allE, List.mem_cons, forall_eq_or_imp]
    cases f e with
    | true => simpa using allE_spec (es := es)
    | false => simp
theorem anyE_false {f : Edge → Bool} : ∀ {es : List Edge}, anyE f es = false ↔ ∀ e, e ∈ es → f e = false
  | [] => by simp [anyE]
  | e :: es => by
    simp only [anyE, List.mem_cons, forall_eq_or_imp]
    cases f e with
    | true => simp
    | false => simpa using anyE_false (es := es)
abbrev waitsO (o : Oper) (i : Nat) : Bool := anyE (fun e => bif Region.binds .any e then Nat.beq e.on i else false) o.after.toList
abbrev readyO (done : List Nat) (i : Nat) (o : Oper) : Bool := bif memN i done then false else allE (fun e => bif Region.binds .any e then memN e.on done else true) o.after.toList
abbrev onlyReady (done l : List Nat) : List Oper → Nat → Bool
  | [], _ => true
  | o :: os, k => bif (bif memN k l then true else !readyO done k o) then onlyReady done l os (k + 1) else false
abbrev looksO (os : List Oper) (o : Oper) : List Nat :=
  (match o.guard with
   | some (g, _) => (match dstAt os g with | some t => [t] | none => [])
   | none => []) ++ o.op.operands.toList.filterMap fun | .tmp t => some t | _ => none
abbrev apartO (os : List Oper) (lx : List Nat) (dx : Option Tmp) (y : Oper) : Bool :=
  bif (match dx with
   | some d => bif memN d (looksO os y) then false else (match y.dst with | some e => !Nat.beq e d | none => true)
   | none => true) then (match y.dst with
   | some d => !memN d lx
   | none => true) else false
abbrev freeO (os0 : List Oper) (done : List Nat) (i : Nat) (lx : List Nat) (dx : Option Tmp) : List Oper → Nat → Bool
  | [], _ => true
  | o :: os, k => bif (bif Nat.beq k i then true else bif memN k done then true else bif waitsO o i then true else apartO os0 lx dx o) then freeO os0 done i lx dx os (k + 1) else false
theorem memN_iff {t : Nat} {xs : List Nat} : memN t xs = true ↔ t ∈ xs := by
  induction xs with
  | nil => simp [memN]
  | cons x xs ih =>
    simp only [memN, List.mem_cons]
    by_cases h : t = x
    · subst h; simp [Nat.beq_refl]
    · rw [beq_false_of_ne h]; simp [h, ih]
theorem memN_false {t : Nat} {xs : List Nat} : memN t xs = false ↔ t ∉ xs := by
  rw [← memN_iff]; cases memN t xs <;> simp
theorem waitsO_spec {ops : Array Oper} {i j : Nat} {o : Oper} (ho : ops[j]? = some o) : waitsO o i = waits ops j i := by
  unfold waits waitsO
  rw [ho]
  simp only
  cases h : anyE (fun e => bif Region.binds .any e then Nat.beq e.on i else false) o.after.toList with
  | false =>
    rw [anyE_false] at h
    exact (List.any_eq_false.2 fun e he => by rw [h e he]; simp).symm
  | true =>
    refine (List.any_eq_true.2 ?_).symm
    cases hh : o.after.toList.any fun e => bif Region.binds .any e then Nat.beq e.on i else false with
    | true => exact List.any_eq_true.1 hh
    | false =>
      rw [List.any_eq_false] at hh
      have : anyE (fun e => bif Region.binds .any e then Nat.beq e.on i else false) o.after.toList = false := anyE_false.2 fun e he => Bool.eq_false_iff.2 (hh e he)
      rw [this] at h; cases h
theorem looks_mem {ops : Array Oper} {o : Oper} {d : Nat} : d ∈ o.looksAt ops ↔ d ∈ looksO ops.toList o := by
  unfold Oper.looksAt looksO
  rw [List.mem_append, List.mem_append, or_comm]
  refine or_congr ?_ Iff.rfl
  cases o.guard with
  | none => exact Iff.rfl
  | some g =>
    obtain ⟨g, b⟩ := g
    simp only [dstAt_eq]
    cases (ops[g]?).bind (·.dst) <;> simp
theorem apartO_spec {ops : Array Oper} {x y : Oper} (h : apartO ops.toList (looksO ops.toList x) x.dst y = true) : x.apart ops y = true := by
  unfold apartO at h
  unfold Oper.apart
  rw [Bool.and_eq_true]
  have h1 : (match x.dst with
   | some d => bif memN d (looksO ops.toList y) then false else (match y.dst with | some e => !Nat.beq e d | none => true)
   | none => true) = true := by
    cases hh : (match x.dst with
     | some d => bif memN d (looksO ops.toList y) then false else (match y.dst with | some e => !Nat.beq e d | none => true)
     | none => true) with
    | true => rfl
    | false => rw [hh] at h; cases h
  rw [h1] at h
  refine ⟨?_, ?_⟩
  · cases hx : x.dst with
    | none => rfl
    | some d =>
      simp only [hx] at h1
      cases hm : memN d (looksO ops.toList y) with
      | true => rw [hm] at h1; cases h1
      | false =>
        rw [hm] at h1
        have hn : d ∉ y.looksAt ops := fun hh => memN_false.1 hm (looks_mem.1 hh)
        simp only [Bool.and_eq_true, Bool.not_eq_true', bne_iff_ne, ne_eq]
        refine ⟨by simpa using hn, fun e => ?_⟩
        simp only [e, cond_false] at h1
        rw [Nat.beq_refl] at h1; cases h1
  · cases hy : y.dst with
    | none => rfl
    | some d =>
      simp only [hy, cond_true] at h
      have hm : memN d (looksO ops.toList x) = false := by cases hh : memN d (looksO ops.toList x) <;> simp [hh] at h ⊢
      have hn : d ∉ x.looksAt ops := fun hh => memN_false.1 hm (looks_mem.1 hh)
      simpa using hn
theorem freeO_spec {os0 : List Oper} {done : List Nat} {i : Nat} {lx : List Nat} {dx : Option Tmp} : ∀ {os : List Oper} {k : Nat}, freeO os0 done i lx dx os k = true → ∀ (j : Nat) (o : Oper), os[j]? = some o → k + j ≠ i → memN (k + j) done = false → waitsO o i = false → apartO os0 lx dx o = true
  | [], _, _, j, o, ho, _, _, _ => by simp at ho
  | x :: os, k, h, j, o, ho, hne, hd, hw => by
    unfold freeO at h
    cases j with
    | zero =>
      simp at ho
      subst ho
      rw [Nat.add_zero] at hne hd
      rw [beq_false_of_ne hne, hd, hw] at h
      simp only [cond_false] at h
      cases ha : apartO os0 lx dx x with
      | true => rfl
      | false => rw [ha] at h; cases h
    | succ j =>
      have h2 : freeO os0 done i lx dx os (k + 1) = true := by
        cases hc : (bif Nat.beq k i then true else bif memN k done then true else bif waitsO x i then true else apartO os0 lx dx x) with
        | true => rw [hc] at h; exact h
        | false => rw [hc] at h; cases h
      exact freeO_spec h2 j o (by simpa using ho) (by omega) (by rw [show k + 1 + j = k + (j + 1) from by omega]; exact hd) hw
theorem onlyReady_spec {done l : List Nat} : ∀ {os : List Oper} {k : Nat}, onlyReady done l os k = true → ∀ (j : Nat) (o : Oper), os[j]? = some o → readyO done (k + j) o = true → k + j ∈ l
  | [], _, _, j, o, ho, _ => by simp at ho
  | x :: os, k, h, j, o, ho, hr => by
    unfold onlyReady at h
    cases j with
    | zero =>
      simp at ho
      subst ho
      rw [Nat.add_zero] at hr ⊢
      cases hm : memN k l with
      | true => exact memN_iff.1 hm
      | false => rw [hm, hr] at h; cases h
    | succ j =>
      have h2 : onlyReady done l os (k + 1) = true := by
        cases hc : (bif memN k l then true else !readyO done k x) with
        | true => rw [hc] at h; exact h
        | false => rw [hc] at h; cases h
      have := onlyReady_spec h2 j o (by simpa using ho) (by rw [show k + 1 + j = k + (j + 1) from by omega]; exact hr)
      rw [show k + 1 + j = k + (j + 1) from by omega] at this
      exact this
structure LR (ops : Array Oper) (done : List Nat) (listed : Array Bool) : Prop where
  size : listed.size = ops.size
  get : ∀ i, i < ops.size → listed.getD i true = memN i done
theorem LR.put {ops : Array Oper} {done : List Nat} {listed : Array Bool} (h : LR ops done listed) (i : Nat) : LR ops (i :: done) (listed.setIfInBounds i true) := by
  refine ⟨by simp [h.size], fun j hj => ?_⟩
  simp only [memN]
  by_cases e : j = i
  · subst e; rw [Nat.beq_refl]; simp [h.size, hj]
  · rw [beq_false_of_ne e, getD_set_ne true (Ne.symm e)]; exact h.get j hj
theorem LR.get' {ops : Array Oper} {done : List Nat} {listed : Array Bool} (h : LR ops done listed) {i : Nat} (hm : i ∈ done) (hi : i < ops.size) : listed.getD i false = true := by
  have := h.get i hi
  rw [memN_iff.2 hm] at this
  simp [h.size, hi] at this ⊢; exact this
theorem LR.lt {ops : Array Oper} {done : List Nat} {listed : Array Bool} (h : LR ops done listed) {i : Nat} (hm : listed.getD i false = true) : i < ops.size := by
  rcases Nat.lt_or_ge i listed.size with h' | h'
  · rw [← h.size]; exact h'
  · simp [Array.getElem?_eq_none h'] at hm
def okDone (ops : Array Oper) (done : List Nat) : Prop := ∀ i, i ∈ done → i < ops.size
theorem mem_readyO {ops : Array Oper} {done : List Nat} {listed : Array Bool} (h : LR ops done listed) (hd : okDone ops done) {i : Nat} {o : Oper} (ho : ops[i]? = some o) : i ∈ Region.ready .any ops listed ↔ readyO done i o = true := by
  rw [mem_ready]
  have hlt : i < ops.size := (Array.getElem?_eq_some_iff.1 ho).1
  unfold readyO
  simp only [ho, Option.some.injEq, exists_eq_left', h.get i hlt]
  cases hm : memN i done with
  | true => simp
  | false =>
    simp only [true_and, cond_false, allE_spec, Array.mem_toList_iff]
    constructor
    · intro hh e he
      cases hb : Region.binds .any e with
      | false => rfl
      | true =>
        have h1 := hh e he hb
        have h2 := h.lt h1
        simp only [cond_true]
        have h3 := h.get e.on h2
        rw [← h3]
        simp [h.size, h2] at h1 ⊢; exact h1
    · intro hh e he hb
      have h1 := hh e he
      rw [hb] at h1
      simp only [cond_true] at h1
      have h2 := memN_iff.1 h1
      exact h.get' h2 (hd _ h2)
theorem ready_lt {ops : Array Oper} {listed : Array Bool} {i : Nat} (h : i ∈ Region.ready .any ops listed) : ∃ o, ops[i]? = some o := by
  obtain ⟨_, o, ho, _⟩ := mem_ready.1 h
  exact ⟨o, ho⟩
structure PureV (P : Program) (s : Sem Next) (k : Value → Prop) : Prop where
  out : ∃ v, (∀ w, s.run P w = .ok (.value v) w) ∧ k v
structure ReadV (P : Program) (s : Sem Next) (w : World) (k : Value → Prop) : Prop where
  out : ∃ v, s.run P w = .ok (.value v) w ∧ k v
structure Pure1 (P : Program) (s : Sem Value) (k : Value → Prop) : Prop where
  out : ∃ v, (∀ w, (nx s).run P w = .ok (.value v) w) ∧ k v
structure Read1 (P : Program) (s : Sem Value) (w : World) (k : Value → Prop) : Prop where
  out : ∃ v, (nx s).run P w = .ok (.value v) w ∧ k v
def gSem (v : Value) (want : Bool) (s : Sem Next) : Sem Next := bif isB v want then s else pure (.value undef)
abbrev gSemE (n : Nat) (os : List Oper) (ρ : Env) (o : Oper) (s : Sem Next) : Sem Next :=
  match o.guard with
  | none => s
  | some (j, want) => match dstAt os j with
    | some d => gSem (evT n ρ d) want s
    | none => pure (.value undef)
theorem gSem_yes {n : Nat} {ops : Array Oper} {ρ : Env} {o : Oper} {a : Act} {s : Sem Next} (hr : Rel ds n a ρ) (hw : Region.wanted o (yielded ops a.tmps) = true) : gSemE n ops.toList ρ o s = s := by
  unfold gSemE
  cases hg : o.guard with
  | none => rfl
  | some gw =>
    obtain ⟨j, want⟩ := gw
    simp only [dstAt_eq]
    cases hd : (ops[j]?).bind (·.dst) with
    | none => rw [wanted_none hr hg hd] at hw; cases hw
    | some d =>
      simp only
      unfold gSem
      cases hc : isB (evT n ρ d) want with
      | true => rfl
      | false =>
        rcases guard_spec (A := False) (B := True) hr hg hd (by rw [hc]; trivial) with ⟨_, h⟩ | ⟨h, _⟩
        · exact h.elim
        · rw [h] at hw; cases hw
theorem gSem_no {n : Nat} {ops : Array Oper} {ρ : Env} {o : Oper} {a : Act} {s : Sem Next} (hr : Rel ds n a ρ) (hw : Region.wanted o (yielded ops a.tmps) = false) : gSemE n ops.toList ρ o s = pure (.value undef) := by
  unfold gSemE
  cases hg : o.guard with
  | none => simp [Region.wanted, hg] at hw
  | some gw =>
    obtain ⟨j, want⟩ := gw
    simp only [dstAt_eq]
    cases hd : (ops[j]?).bind (·.dst) with
    | none => rfl
    | some d =>
      simp only
      unfold gSem
      cases hc : isB (evT n ρ d) want with
      | false => rfl
      | true =>
        rcases guard_spec (A := True) (B := False) hr hg hd (by rw [hc]; trivial) with ⟨h, _⟩ | ⟨_, h⟩
        · rw [h] at hw; cases hw
        · exact h.elim
abbrev dropO (o : Oper) : Gd → Gd
  | [] => []
  | g :: G => bif waitsO o g.1 then dropO o G else g :: dropO o G
theorem dropO_eq {ops : Array Oper} {j : Nat} {o : Oper} (ho : ops[j]? = some o) : ∀ (G : Gd), dropO o G = dropG ops j G
  | [] => rfl
  | g :: G => by simp only [dropO, dropG, waitsO_spec ho, dropO_eq ho G]
abbrev vcD (P : Program) (n : Nat) (Z : List PanicEntry → World → Prop) (cal : List Nat) (os : List Oper) (Q : Env → World → Prop) : Plan → List Nat → Gd → Env → World → Prop
  | .fin, done, _, ρ, w => bif onlyReady done [] os 0 then Q ρ w else False
  | .take i rd p, done, G, ρ, w => match opAt os i with
    | none => False
    | some o => bif (bif readyO done i o then freeO os done i (looksO os o) o.dst os 0 else false) then
        bif rd then match valSem (ev n ρ) o with
          | some s => guardP n os ρ o
            (fun k => Read1 P s w k)
            (fun v => vcD P n Z cal os Q p (i :: done) ((i, gSemE n os ρ o (nx s), v) :: G) (putD ρ o.dst v) w)
          | none => False
        else guardP n os ρ o
            (fun k => match o.op with
              | .move x => k (ev n ρ x)
              | .assign x => k (ev n ρ x)
              | .nilCheck x => PureV P (nilChk (ev n ρ x)) k
              | _ => match valSem (ev n ρ) o with
                | some s => Pure1 P s k
                | none => False)
            (fun v => vcD P n Z cal os Q p (i :: done) G (putD ρ o.dst v) w)
      else False
  | .one j p, done, G, ρ, w => match opAt os j with
    | none => False
    | some o => bif (bif readyO done j o then onlyReady done [j] os 0 else false) then
        guardE n os ρ o (fun k => opE P n Z cal ρ o w k) (fun v w' => gAnd P w' (dropO o G) (vcD P n Z cal os Q p (j :: done) (dropO o G) (putD ρ o.dst v) w')) w
      else False
  | .two j p k q, done, G, ρ, w => match opAt os j with
    | none => False
    | some o => match opAt os k with
      | none => False
      | some u => bif (bif readyO done j o then onlyReady done [j, k] os 0 else false) then
          guardE n os ρ o (fun k => opE P n Z cal ρ o w k) (fun v w' => gAnd P w' (dropO o G) (vcD P n Z cal os Q p (j :: done) (dropO o G) (putD ρ o.dst v) w')) w ∧
          guardE n os ρ u (fun k => opE P n Z cal ρ u w k) (fun v w' => gAnd P w' (dropO u G) (vcD P n Z cal os Q q (k :: done) (dropO u G) (putD ρ u.dst v) w')) w
        else False
abbrev noSel : List Oper → Bool
  | [] => true
  | o :: os => match o.op with
    | .select .. => false
    | _ => noSel os
theorem noSel_spec : ∀ {os : List Oper}, noSel os = true → ∀ o, o ∈ os → ∀ cs b, o.op ≠ .select cs b
  | [], _, o, ho, _, _ => by cases ho
  | x :: os, h, o, ho, cs, b => by
    intro e
    unfold noSel at h
    rcases List.mem_cons.1 ho with rfl | ho
    · rw [e] at h; cases h
    · split at h
      · cases h
      · exact noSel_spec h o ho cs b e
abbrev Plan.size : Plan → Nat
  | .fin => 0
  | .take _ _ p => p.size + 1
  | .one _ p => p.size + 1
  | .two _ p _ q => max p.size q.size + 1
section
variable {P : Program} {n : Nat} {Z : List PanicEntry → World → Prop} {cal : List Nat} {ops : Array Oper} {K : Env → World → Prop} {Q : Exit → Act → World → Prop} {ρ0 : Env}
theorem wpAnyG_stop {fuel : Nat} {listed : Array Bool} {G : Gd} {a : Act} {w : World} (h0 : Region.ready .any ops listed = []) (hG : gAll P G w) (hq : Q .normal a w) : wpAnyG P ops Q fuel listed G a w := by
  cases fuel with
  | zero => exact ⟨hG, h0, hq⟩
  | succ fuel => exact ⟨hG, fun _ => hq, fun i hi => by rw [h0] at hi; cases hi⟩
theorem vcD_sound (hcal : ∀ f, memN f cal = true → Enters P f) (hs : noSel ops.toList = true)
    (hQ : ∀ a ρ w, Rel ds n a ρ → Agree (dsts ops.toList) ρ0 ρ → K ρ w → Q .normal a w) (hZ : ∀ ch a ρ w, Rel ds n a ρ → Agree (dsts ops.toList) ρ0 ρ → Z ch w → Q (.panic ch) a w) (hQp : ∀ ch (i : Nat) (o : Oper) v a w, ops[i]? = some o → Q (.panic ch) (a.put o.dst v) w → Q (.panic ch) a w) :
    ∀ (p : Plan) (fuel : Nat) (done : List Nat) (G : Gd) (ρ : Env) (w : World) (a : Act) (listed : Array Bool), p.size ≤ fuel → vcD P n Z cal ops.toList K p done G ρ w → LR ops done listed → okDone ops done → Rel ds n a ρ → Agree (dsts ops.toList) ρ0 ρ → gAll P G w →
      wpAnyG P ops Q fuel listed G a w := by
  have hsel : ∀ (j : Nat) (o : Oper) cs b, ops[j]? = some o → o.op ≠ .select cs b := fun j o cs b ho =>
    noSel_spec hs o (Array.mem_toList_iff.2 (Array.mem_of_getElem? ho)) cs b
  have only : ∀ {done l : List Nat} {listed : Array Bool}, LR ops done listed → okDone ops done → onlyReady done l ops.toList 0 = true → ∀ i, i ∈ Region.ready .any ops listed → i ∈ l := by
    intro done l listed h1 h2 h3 i hi
    obtain ⟨o, ho⟩ := ready_lt hi
    have := onlyReady_spec h3 i o (by rw [Array.getElem?_toList]; exact ho) (by rw [Nat.zero_add]; exact (mem_readyO h1 h2 ho).1 hi)
    rwa [Nat.zero_add] at this
  -- one operation that must be next
  have next : ∀ {done : List Nat} {G : Gd} {ρ : Env} {w : World} {a : Act} {listed : Array Bool} {fuel j : Nat} {o : Oper} {p : Plan},
      (∀ (done : List Nat) (G : Gd) (ρ : Env) (w : World) (a : Act) (listed : Array Bool), vcD P n Z cal ops.toList K p done G ρ w → LR ops done listed → okDone ops done → Rel ds n a ρ → Agree (dsts ops.toList) ρ0 ρ → gAll P G w → wpAnyG P ops Q fuel listed G a w) →
      ops[j]? = some o → LR ops done listed → okDone ops done → Rel ds n a ρ → Agree (dsts ops.toList) ρ0 ρ →
      guardE n ops.toList ρ o (fun k => opE P n Z cal ρ o w k) (fun v w' => gAnd P w' (dropO o G) (vcD P n Z cal ops.toList K p (j :: done) (dropO o G) (putD ρ o.dst v) w')) w →
      wpOp P ops Q j (wpAnyG P ops Q fuel (listed.setIfInBounds j true) (dropG ops j G)) a w := by
    intro done G ρ w a listed fuel j o p ih ho hl hd hr hag h1
    have hilt : j < ops.size := (Array.getElem?_eq_some_iff.1 ho).1
    have hd' : okDone ops (j :: done) := fun k hk => (List.mem_cons.1 hk).elim (fun e => e ▸ hilt) (hd k)
    rw [dropO_eq ho] at h1
    unfold wpOp
    simp only [ho]
    rcases guardE_spec hr h1 with ⟨hw, hA⟩ | ⟨hw, hB⟩
    · rw [if_pos hw]
      refine .inl ?_
      unfold Oper.wp
      rw [hr.eval]
      refine opV_upon (opE_sound hcal hA) (fun v w' hk => ?_) (fun ch w' hz => hZ ch a ρ w' hr hag hz)
      obtain ⟨hg, hk⟩ := gAnd_spec hk
      exact ih _ _ _ w' _ _ hk (hl.put j) hd' (hr.put o.dst v) (hag.trans (agree_putD ho ρ v)) hg
    · rw [hw]
      obtain ⟨hg, hk⟩ := gAnd_spec hB
      exact ih _ _ _ w _ _ hk (hl.put j) hd' (hr.put o.dst undef) (hag.trans (agree_putD ho ρ undef)) hg
  intro p
  induction p with
  | fin =>
    intro fuel done G ρ w a listed _ h hl hd hr hag hG
    unfold vcD at h
    cases hc : onlyReady done [] ops.toList 0 with
    | false => rw [hc] at h; exact h.elim
    | true =>
      rw [hc] at h
      exact wpAnyG_stop (List.eq_nil_iff_forall_not_mem.2 fun i hi => by cases only hl hd hc i hi) hG (hQ a ρ w hr hag h)
  | take i rd p ih =>
    intro fuel done G ρ w a listed hf h hl hd hr hag hG
    simp only [Plan.size] at hf
    obtain ⟨fuel, rfl⟩ : ∃ m, fuel = m + 1 := ⟨fuel - 1, by omega⟩
    unfold vcD at h
    rw [opAt_eq] at h
    split at h
    · exact h.elim
    · rename_i o ho
      have hilt : i < ops.size := (Array.getElem?_eq_some_iff.1 ho).1
      have hd' : okDone ops (i :: done) := fun k hk => (List.mem_cons.1 hk).elim (fun e => e ▸ hilt) (hd k)
      cases hrd0 : readyO done i o with
      | false => rw [hrd0] at h; exact h.elim
      | true =>
      have hrd := (mem_readyO hl hd ho).2 hrd0
      rw [hrd0] at h
      simp only [cond_true] at h
      cases hfr : freeO ops.toList done i (looksO ops.toList o) o.dst ops.toList 0 with
      | false => rw [hfr] at h; exact h.elim
      | true =>
        rw [hfr] at h
        simp only [cond_true] at h
        have hfree : ∀ j oj, ops[j]? = some oj → j ≠ i → listed.getD j true = false → (∀ e ∈ oj.after, Region.binds .any e = true → e.on ≠ i) → o.apart ops oj = true := by
          intro j oj hj hne hun hno
          have hjlt : j < ops.size := (Array.getElem?_eq_some_iff.1 hj).1
          have hnd : memN j done = false := by rw [← hl.get j hjlt]; exact hun
          exact apartO_spec (freeO_spec hfr j oj (by rw [Array.getElem?_toList]; exact hj) (by rw [Nat.zero_add]; exact hne) (by rw [Nat.zero_add]; exact hnd) (by rw [waitsO_spec hj]; exact waits_spec hj hno))
        have ih' := fun done G ρ w a listed => ih fuel done G ρ w a listed (by omega)
        cases rd with
        | false =>
          simp only [cond_false] at h
          rcases guardP_spec hr h with ⟨hw, hA⟩ | ⟨hw, hB⟩
          · have key : ∃ v, (∀ w, (execOp (ev n ρ) o).run P w = .ok (.value v) w) ∧ vcD P n Z cal ops.toList K p (i :: done) G (putD ρ o.dst v) w := by
              split at hA
              · rename_i x hx; exact ⟨_, fun w => by simp only [execOp, hx]; rfl, hA⟩
              · rename_i x hx; exact ⟨_, fun w => by simp only [execOp, hx]; rfl, hA⟩
              · rename_i x hx
                obtain ⟨v, hv, hA⟩ := hA.out
                refine ⟨v, fun w => ?_, hA⟩
                have := hv w
                simp only [nilChk, execOp] at this
                simp only [execOp, hx]
                exact this
              · split at hA
                · rename_i s hs
                  obtain ⟨v, hv, hA⟩ := hA.out; exact ⟨v, fun w => by rw [valSem_spec hs]; exact hv w, hA⟩
                · exact hA.elim
            obtain ⟨v, hv, hA⟩ := key
            refine wpAnyG_first (C := fun _ => True) (Gi := []) (v := v) ho hsel (fun c a w hq => hQp _ _ _ _ _ _ ho hq) (fun g hg => by cases hg) (fun _ _ => trivial) fuel listed G a w hfree hrd (.inl ⟨hw, fun w _ => by rw [hr.eval]; exact hv w⟩) trivial hG ?_
            exact ih' _ _ _ w _ _ hA (hl.put i) hd' (hr.put o.dst _) (hag.trans (agree_putD ho ρ _)) hG
          · refine wpAnyG_first (C := fun _ => True) (Gi := []) (v := undef) ho hsel (fun c a w hq => hQp _ _ _ _ _ _ ho hq) (fun g hg => by cases hg) (fun _ _ => trivial) fuel listed G a w hfree hrd (.inr ⟨hw, rfl⟩) trivial hG ?_
            exact ih' _ _ _ w _ _ hB (hl.put i) hd' (hr.put o.dst undef) (hag.trans (agree_putD ho ρ undef)) hG
        | true =>
          simp only [cond_true] at h
          split at h
          case h_2 => exact h.elim
          rename_i s hs
          rcases guardP_spec hr h with ⟨hw, hA⟩ | ⟨hw, hB⟩
          · obtain ⟨v, hv, hA⟩ := hA.out
            have hv' : (gSemE n ops.toList ρ o (nx s)).run P w = .ok (.value v) w := by rw [gSem_yes hr hw]; exact hv
            refine wpAnyG_first (C := fun w => (gSemE n ops.toList ρ o (nx s)).run P w = .ok (.value v) w) (Gi := [(i, gSemE n ops.toList ρ o (nx s), v)]) (v := v) ho hsel (fun c a w hq => hQp _ _ _ _ _ _ ho hq) (fun g hg => by simp at hg; subst hg; rfl)
              (fun w hg => hg _ List.mem_cons_self) fuel listed G a w hfree hrd (.inl ⟨hw, fun w hc => by rw [hr.eval, valSem_spec hs]; rw [gSem_yes hr hw] at hc; exact hc⟩) hv' hG ?_
            refine ih' _ _ _ w _ _ hA (hl.put i) hd' (hr.put o.dst _) (hag.trans (agree_putD ho ρ _)) fun g hg => ?_
            exact (List.mem_cons.1 hg).elim (fun e => e ▸ hv') (hG g)
          · have hv' : (gSemE n ops.toList ρ o (nx s)).run P w = .ok (.value undef) w := by rw [gSem_no hr hw]; rfl
            refine wpAnyG_first (C := fun w => (gSemE n ops.toList ρ o (nx s)).run P w = .ok (.value undef) w) (Gi := [(i, gSemE n ops.toList ρ o (nx s), undef)]) (v := undef) ho hsel (fun c a w hq => hQp _ _ _ _ _ _ ho hq) (fun g hg => by simp at hg; subst hg; rfl)
              (fun w hg => hg _ List.mem_cons_self) fuel listed G a w hfree hrd (.inr ⟨hw, rfl⟩) hv' hG ?_
            refine ih' _ _ _ w _ _ hB (hl.put i) hd' (hr.put o.dst undef) (hag.trans (agree_putD ho ρ undef)) fun g hg => ?_
            exact (List.mem_cons.1 hg).elim (fun e => e ▸ hv') (hG g)
  | one j p ih =>
    intro fuel done G ρ w a listed hf h hl hd hr hag hG
    simp only [Plan.size] at hf
    obtain ⟨fuel, rfl⟩ : ∃ m, fuel = m + 1 := ⟨fuel - 1, by omega⟩
    unfold vcD at h
    rw [opAt_eq] at h
    split at h
    · exact h.elim
    · rename_i o ho
      have hilt : j < ops.size := (Array.getElem?_eq_some_iff.1 ho).1
      cases hrd : readyO done j o with
      | false => rw [hrd] at h; exact h.elim
      | true =>
      cases hc : onlyReady done [j] ops.toList 0 with
      | false => rw [hrd, hc] at h; exact h.elim
      | true =>
        rw [hrd, hc] at h
        simp only [cond_true] at h
        have hop := next (p := p) (fun done G ρ w a listed => ih fuel done G ρ w a listed (by omega)) ho hl hd hr hag h
        refine ⟨hG, fun h0 => ?_, fun i hi => ?_⟩
        · have := (mem_readyO hl hd ho).2 hrd; rw [h0] at this; cases this
        · have := only hl hd hc i hi
          simp at this
          subst this
          exact hop
  | two j p k q ihp ihq =>
    intro fuel done G ρ w a listed hf h hl hd hr hag hG
    simp only [Plan.size] at hf
    obtain ⟨fuel, rfl⟩ : ∃ m, fuel = m + 1 := ⟨fuel - 1, by omega⟩
    unfold vcD at h
    rw [opAt_eq, opAt_eq] at h
    split at h
    · exact h.elim
    · rename_i o ho
      split at h
      · exact h.elim
      · rename_i u hu
        cases hrd : readyO done j o with
        | false => rw [hrd] at h; exact h.elim
        | true =>
        cases hc : onlyReady done [j, k] ops.toList 0 with
        | false => rw [hrd, hc] at h; exact h.elim
        | true =>
          rw [hrd, hc] at h
          simp only [cond_true] at h
          have hop := next (p := p) (fun done G ρ w a listed => ihp fuel done G ρ w a listed (by omega)) ho hl hd hr hag h.1
          have hoq := next (p := q) (fun done G ρ w a listed => ihq fuel done G ρ w a listed (by omega)) hu hl hd hr hag h.2
          refine ⟨hG, fun h0 => ?_, fun i hi => ?_⟩
          · have := (mem_readyO hl hd ho).2 hrd; rw [h0] at this; cases this
          · have := only hl hd hc i hi
            simp at this
            rcases this with rfl | rfl
            · exact hop
            · exact hoq
end
structure Drew (w w' : World) : Prop where
  heap : w'.heap = w.heap
  os : w'.os = w.os
  tape : w'.tape = w.tape
  output : w'.output = w.output
structure Drawn (w : World) (K : World → Prop) : Prop where
  out : ∀ w', Drew w w' → K w'
abbrev drawD : DrawRule := fun p P n Z cal ops Q ρ w => bif (bif Nat.ble p.size ops.toList.length then noSel ops.toList else false) then Drawn w fun w' => vcD P n Z cal ops.toList Q p [] [] ρ w' else False
theorem drawD_sound : drawD.sound := by
  intro ds p P n Z cal id ops K ρ w a Q hm hcal h hr hQ hZ
  unfold drawD at h
  cases hp : Nat.ble p.size ops.toList.length with
  | false => rw [hp] at h; exact h.elim
  | true =>
  cases hs : noSel ops.toList with
  | false => rw [hp, hs] at h; exact h.elim
  | true =>
    rw [hp, hs] at h
    have h1 := h.out { w with drawn := w.drawn + 1 } ⟨rfl, rfl, rfl, rfl⟩
    let Q' : Exit → Act → World → Prop := fun e a w => match e with
      | .normal => Q .normal a w
      | .panic ch => Kept ds n (dsts ops.toList) ρ a ∧ Z ch w
      | _ => False
    have h2 := vcD_sound (Q := Q') (ρ0 := ρ) hcal hs (fun a' ρ' w' hr' hag hk => hQ a' ρ' w' hr' hag hk) (fun ch a' ρ' w' hr' hag hz => ⟨hr'.kept hag, hz⟩)
      (fun ch i o v a' w' ho hq => ⟨hq.1.unput fun t ht => memN_of_mem (mem_dsts (Array.mem_toList_iff.2 (Array.mem_of_getElem? ho)) ht), hq.2⟩) p ops.size [] [] ρ { w with drawn := w.drawn + 1 } a (Array.replicate ops.size false) (by simpa using Nat.le_of_ble_eq_true hp) h1
      ⟨by simp, fun i hi => by simp [hi, memN]⟩ (fun i hi => by cases hi) hr (Agree.refl _ _) (fun g hg => by cases hg)
    refine wp_mono (wp_region_any hm h2.any) fun e a' w' hq => ?_
    cases e with
    | normal => exact hq
    | panic ch => exact hZ ch a' w' hq.1 hq.2
    | _ => exact hq.elim
end Go.Sh

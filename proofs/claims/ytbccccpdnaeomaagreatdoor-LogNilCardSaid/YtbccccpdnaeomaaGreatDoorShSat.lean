/- Memory as a list of parts that share nothing: each part tells of blocks of its own. Nothing of any one program stands here. -/
import Derived.Test.YtbccccpdnaeomaaGreatDoorShDraw
import Derived.Below
import Derived.Laws.IdiomCopy
namespace Go.Sh
open Go.RowKit
theorem via {T G : Prop} (h : T → G) (t : T) : G := h t
abbrev Hp := Nat → Option Obj
abbrev HProp := Hp → Prop
open Classical in
noncomputable def Hp.on (h : Hp) (S : Nat → Prop) : Hp := fun b => if S b then h b else none
theorem Hp.on_on (h : Hp) (S T : Nat → Prop) : (h.on S).on T = h.on fun b => S b ∧ T b := by
  funext b
  unfold Hp.on
  by_cases h1 : S b <;> by_cases h2 : T b <;> simp [h1, h2]
theorem Hp.on_congr (h : Hp) {S T : Nat → Prop} (e : ∀ b, S b ↔ T b) : h.on S = h.on T := by
  funext b
  unfold Hp.on
  by_cases h1 : S b
  · rw [if_pos h1, if_pos ((e b).1 h1)]
  · rw [if_neg h1, if_neg fun h2 => h1 ((e b).2 h2)]
theorem Hp.on_yes (h : Hp) {S : Nat → Prop} {b : Nat} (hs : S b) : h.on S b = h b := if_pos hs
theorem Hp.on_no (h : Hp) {S : Nat → Prop} {b : Nat} (hs : ¬ S b) : h.on S b = none := if_neg hs
def satH : List HProp → Hp → Prop
  | [], _ => True
  | A :: As, h => ∃ S : Nat → Prop, A (h.on S) ∧ satH As (h.on fun b => ¬ S b)
theorem satH_swap {A B : HProp} {As : List HProp} {h : Hp} (hs : satH (A :: B :: As) h) : satH (B :: A :: As) h := by
  obtain ⟨S, hA, T, hB, hR⟩ := hs
  rw [Hp.on_on] at hB hR
  refine ⟨fun b => ¬ S b ∧ T b, hB, fun b => S b, ?_, ?_⟩
  · rw [Hp.on_on]
    rw [Hp.on_congr h (T := S) (fun b => ⟨fun x => x.2, fun x => ⟨fun y => y.1 x, x⟩⟩)]
    exact hA
  · rw [Hp.on_on]
    rw [Hp.on_congr h (T := fun b => ¬ S b ∧ ¬ T b) (fun b => ⟨fun x => ⟨x.2, fun t => x.1 ⟨x.2, t⟩⟩, fun x => ⟨fun y => x.2 y.2, x.1⟩⟩)]
    exact hR
theorem satH_cons {A B : HProp} {As Bs : List HProp} {h : Hp} (hA : ∀ h, A h → B h) (hR : ∀ h, satH As h → satH Bs h) (hs : satH (A :: As) h) : satH (B :: Bs) h :=
  let ⟨S, h1, h2⟩ := hs
  ⟨S, hA _ h1, hR _ h2⟩
theorem satH_perm {As Bs : List HProp} (p : As.Perm Bs) : ∀ h, satH As h → satH Bs h := by
  induction p with
  | nil => exact fun _ h => h
  | cons A _ ih => exact fun h hs => satH_cons (fun _ h => h) ih hs
  | swap A B l => exact fun h hs => satH_swap hs
  | trans _ _ ih1 ih2 => exact fun h hs => ih2 h (ih1 h hs)
theorem satH_of_on : ∀ (As : List HProp) (h : Hp) (S : Nat → Prop), satH As (h.on S) → satH As h
  | [], _, _, _ => trivial
  | A :: As, h, S, ⟨T, hA, hR⟩ => by
    rw [Hp.on_on] at hA hR
    refine ⟨fun b => S b ∧ T b, hA, ?_⟩
    refine satH_of_on As _ S ?_
    rw [Hp.on_on]
    rw [Hp.on_congr h (T := fun b => S b ∧ ¬ T b) (fun b => ⟨fun x => ⟨x.2, fun t => x.1 ⟨x.2, t⟩⟩, fun x => ⟨fun y => x.2 y.2, x.1⟩⟩)]
    exact hR
theorem satH_drop {A : HProp} {As : List HProp} {h : Hp} (hs : satH (A :: As) h) : satH As h :=
  let ⟨_, _, h2⟩ := hs
  satH_of_on As h _ h2
theorem satH_mem {A : HProp} : ∀ {As : List HProp} {h : Hp}, A ∈ As → satH As h → ∃ S, A (h.on S)
  | B :: As, h, hm, hs => by
    obtain ⟨S, h1, h2⟩ := hs
    rcases List.mem_cons.1 hm with rfl | hm
    · exact ⟨S, h1⟩
    · obtain ⟨T, hT⟩ := satH_mem hm h2
      rw [Hp.on_on] at hT
      exact ⟨_, hT⟩

def hp (w : World) : Hp := fun b => w.heap[b]?
structure St (o w : World) (As : List HProp) : Prop where
  os : w.os = o.os
  tape : w.tape = o.tape
  output : w.output = o.output
  size : o.heap.size ≤ w.heap.size
  sat : satH As (hp w)
def old (o : World) : HProp := fun h => ∀ b, h b = o.heap[b]?
def ob (t : TypeId) (xs : List Value) (x : Option Obj) : Prop := ∃ f : Nat × Nat, (f = (0, 0) ∨ xs.length ≤ f.1) ∧ x = some (.cells xs.toArray t f)
def blk (b : Nat) (t : TypeId) (xs : List Value) : HProp := fun h => ob t xs (h b)
theorem ob_none {t : TypeId} {xs : List Value} (h : ob t xs none) : False := by obtain ⟨_, _, h⟩ := h; cases h
theorem blk_on {b : Nat} {t : TypeId} {xs : List Value} {h : Hp} {S : Nat → Prop} (hb : blk b t xs (h.on S)) : blk b t xs h ∧ S b := by
  unfold blk at *
  by_cases hs : S b
  · rw [Hp.on_yes _ hs] at hb; exact ⟨hb, hs⟩
  · rw [Hp.on_no _ hs] at hb; exact (ob_none hb).elim
theorem St.start (o : World) : St o o [old o] := ⟨rfl, rfl, rfl, Nat.le_refl _, fun _ => True, fun b => by rw [Hp.on_yes _ trivial]; rfl, trivial⟩
theorem m0 {A : HProp} {R : List HProp} : A ∈ A :: R := List.mem_cons_self
theorem m1 {A B : HProp} {R : List HProp} : B ∈ A :: B :: R := List.mem_cons_of_mem _ List.mem_cons_self
theorem m2 {A B C : HProp} {R : List HProp} : C ∈ A :: B :: C :: R := List.mem_cons_of_mem _ (List.mem_cons_of_mem _ List.mem_cons_self)
theorem m3 {A B C D : HProp} {R : List HProp} : D ∈ A :: B :: C :: D :: R := List.mem_cons_of_mem _ (List.mem_cons_of_mem _ (List.mem_cons_of_mem _ List.mem_cons_self))
theorem m4 {A B C D E : HProp} {R : List HProp} : E ∈ A :: B :: C :: D :: E :: R := List.mem_cons_of_mem _ (List.mem_cons_of_mem _ (List.mem_cons_of_mem _ (List.mem_cons_of_mem _ List.mem_cons_self)))
theorem m5 {A B C D E F : HProp} {R : List HProp} : F ∈ A :: B :: C :: D :: E :: F :: R := List.mem_cons_of_mem _ (List.mem_cons_of_mem _ (List.mem_cons_of_mem _ (List.mem_cons_of_mem _ (List.mem_cons_of_mem _ List.mem_cons_self))))
theorem m6 {A B C D E F G : HProp} {R : List HProp} : G ∈ A :: B :: C :: D :: E :: F :: G :: R := List.mem_cons_of_mem _ (List.mem_cons_of_mem _ (List.mem_cons_of_mem _ (List.mem_cons_of_mem _ (List.mem_cons_of_mem _ (List.mem_cons_of_mem _ List.mem_cons_self)))))
theorem m7 {A B C D E F G H : HProp} {R : List HProp} : H ∈ A :: B :: C :: D :: E :: F :: G :: H :: R := List.mem_cons_of_mem _ (List.mem_cons_of_mem _ (List.mem_cons_of_mem _ (List.mem_cons_of_mem _ (List.mem_cons_of_mem _ (List.mem_cons_of_mem _ (List.mem_cons_of_mem _ List.mem_cons_self))))))
theorem m8 {A B C D E F G H I : HProp} {R : List HProp} : I ∈ A :: B :: C :: D :: E :: F :: G :: H :: I :: R := List.mem_cons_of_mem _ (List.mem_cons_of_mem _ (List.mem_cons_of_mem _ (List.mem_cons_of_mem _ (List.mem_cons_of_mem _ (List.mem_cons_of_mem _ (List.mem_cons_of_mem _ (List.mem_cons_of_mem _ List.mem_cons_self)))))))
section
variable {o w w' : World} {A B : HProp} {As Bs R : List HProp}
theorem St.drew (h : St o w As) (hd : Drew w w') : St o w' As := ⟨hd.os.trans h.os, hd.tape.trans h.tape, hd.output.trans h.output, by rw [hd.heap]; exact h.size, by
  have : hp w' = hp w := by funext b; simp only [hp, hd.heap]
  rw [this]; exact h.sat⟩
theorem Drew.refl (w : World) : Drew w w := ⟨rfl, rfl, rfl, rfl⟩
theorem Drew.cell {w w' : World} (hd : Drew w w') (a : Addr) : w'.cell? a = w.cell? a := by unfold World.cell?; rw [hd.heap]
theorem Drew.trans {a b c : World} (h : Drew a b) (k : Drew b c) : Drew a c := ⟨k.heap.trans h.heap, k.os.trans h.os, k.tape.trans h.tape, k.output.trans h.output⟩
theorem St.perm (h : St o w As) (p : As.Perm Bs) : St o w Bs := ⟨h.os, h.tape, h.output, h.size, satH_perm p _ h.sat⟩
theorem St.drop (h : St o w (A :: As)) : St o w As := ⟨h.os, h.tape, h.output, h.size, satH_drop h.sat⟩
theorem St.swap (h : St o w (A :: B :: R)) : St o w (B :: A :: R) := ⟨h.os, h.tape, h.output, h.size, satH_swap h.sat⟩
theorem St.mono (h : St o w (A :: R)) (hA : ∀ h, A h → B h) : St o w (B :: R) := ⟨h.os, h.tape, h.output, h.size, satH_cons hA (fun _ h => h) h.sat⟩
abbrev pickL {α : Type} : Nat → List α → List α
  | 0, l => l
  | _ + 1, [] => []
  | i + 1, a :: l => match pickL i l with
    | x :: r => x :: a :: r
    | [] => [a]
theorem pickL_perm {α : Type} : ∀ (i : Nat) (l : List α), l.Perm (pickL i l)
  | 0, _ => List.Perm.refl _
  | _ + 1, [] => List.Perm.nil
  | i + 1, a :: r => by
    have ih := pickL_perm i r
    simp only [pickL]
    cases hp : pickL i r with
    | nil => rw [hp] at ih; rw [ih.eq_nil]
    | cons x r => rw [hp] at ih; exact (List.Perm.cons a ih).trans (List.Perm.swap x a r)
theorem St.pick (h : St o w As) (i : Nat) : St o w (pickL i As) := h.perm (pickL_perm i As)
abbrev putL {α : Type} (a : α) : Nat → List α → List α
  | 0, l => a :: l
  | _ + 1, [] => [a]
  | i + 1, b :: l => b :: putL a i l
theorem putL_perm {α : Type} (a : α) : ∀ (i : Nat) (l : List α), (a :: l).Perm (putL a i l)
  | 0, _ => List.Perm.refl _
  | _ + 1, [] => List.Perm.refl _
  | i + 1, b :: l => (List.Perm.swap b a l).trans (List.Perm.cons b (putL_perm a i l))
theorem St.put (h : St o w (A :: As)) (i : Nat) : St o w (putL A i As) := h.perm (putL_perm A i As)
theorem St.ex {α : Type} {F : α → HProp} (h : St o w ((fun h => ∃ x, F x h) :: R)) : ∃ x, St o w (F x :: R) := by
  obtain ⟨h1, h2, h3, h4, S, ⟨x, hx⟩, hR⟩ := h
  exact ⟨x, h1, h2, h3, h4, S, hx, hR⟩
theorem St.ex_intro {α : Type} {F : α → HProp} (x : α) (h : St o w (F x :: R)) : St o w ((fun h => ∃ x, F x h) :: R) := h.mono fun _ hx => ⟨x, hx⟩
theorem St.pure {p : Prop} (h : St o w ((fun h => p ∧ A h) :: R)) : p ∧ St o w (A :: R) := by
  obtain ⟨h1, h2, h3, h4, S, ⟨hp, hx⟩, hR⟩ := h
  exact ⟨hp, h1, h2, h3, h4, S, hx, hR⟩
theorem St.pure_intro {p : Prop} (hp : p) (h : St o w (A :: R)) : St o w ((fun h => p ∧ A h) :: R) := h.mono fun _ hx => ⟨hp, hx⟩
def sep (A B : HProp) : HProp := fun h => ∃ S : Nat → Prop, A (h.on S) ∧ B (h.on fun b => ¬ S b)
theorem St.sep (h : St o w (sep A B :: R)) : St o w (A :: B :: R) := by
  obtain ⟨h1, h2, h3, h4, S, ⟨T, hA, hB⟩, hR⟩ := h
  rw [Hp.on_on] at hA hB
  refine ⟨h1, h2, h3, h4, fun b => S b ∧ T b, hA, fun b => S b, ?_, ?_⟩
  · rw [Hp.on_on]
    rw [Hp.on_congr (hp w) (T := fun b => S b ∧ ¬ T b) (fun b => ⟨fun x => ⟨x.2, fun t => x.1 ⟨x.2, t⟩⟩, fun x => ⟨fun y => x.2 y.2, x.1⟩⟩)]
    exact hB
  · rw [Hp.on_on]
    rw [Hp.on_congr (hp w) (T := fun b => ¬ S b) (fun b => ⟨fun x => x.2, fun x => ⟨fun y => x y.1, x⟩⟩)]
    exact hR
theorem St.sep_intro (h : St o w (A :: B :: R)) : St o w (Sh.sep A B :: R) := by
  obtain ⟨h1, h2, h3, h4, S, hA, T, hB, hR⟩ := h
  rw [Hp.on_on] at hB hR
  refine ⟨h1, h2, h3, h4, fun b => S b ∨ T b, ⟨S, ?_, ?_⟩, ?_⟩
  · rw [Hp.on_on]
    rw [Hp.on_congr (hp w) (T := S) (fun b => ⟨fun x => x.2, fun x => ⟨.inl x, x⟩⟩)]
    exact hA
  · rw [Hp.on_on]
    rw [Hp.on_congr (hp w) (T := fun b => ¬ S b ∧ T b) (fun b => ⟨fun x => ⟨x.2, x.1.resolve_left x.2⟩, fun x => ⟨.inr x.2, x.1⟩⟩)]
    exact hB
  · rw [Hp.on_congr (hp w) (T := fun b => ¬ S b ∧ ¬ T b) (fun b => ⟨fun x => ⟨fun y => x (.inl y), fun y => x (.inr y)⟩, fun x y => y.elim x.1 x.2⟩)]
    exact hR
theorem St.all : ∀ {As R : List HProp}, St o w (satH As :: R) → St o w (As ++ R)
  | [], _, h => h.drop
  | A :: As, R, h => by
    have h1 : St o w (Sh.sep A (satH As) :: R) := h
    exact (St.all h1.sep.swap).perm List.perm_middle
def emp : HProp := fun _ => True
theorem St.emp (h : St o w R) : St o w (emp :: R) := ⟨h.os, h.tape, h.output, h.size, fun _ => False, trivial, by
  rw [Hp.on_congr (hp w) (T := fun _ => True) (fun b => by simp)]
  have : (hp w).on (fun _ => True) = hp w := by funext b; rw [Hp.on_yes _ trivial]
  rw [this]; exact h.sat⟩
theorem St.all_intro : ∀ {As R : List HProp}, St o w (As ++ R) → St o w (satH As :: R)
  | [], _, h => h.emp.mono fun _ _ => trivial
  | A :: As, R, h => (St.all_intro (As := As) (R := A :: R) (h.perm (List.perm_middle (l₁ := As)).symm)).swap.sep_intro
theorem St.all_snoc {As R : List HProp} {A : HProp} (h : St o w (satH As :: A :: R)) : St o w (satH (As ++ [A]) :: R) := by
  refine St.all_intro ?_
  rw [List.append_assoc]
  exact h.all
theorem St.all_out {As Bs R : List HProp} {A : HProp} (h : St o w (satH (As ++ A :: Bs) :: R)) : St o w (A :: satH (As ++ Bs) :: R) := by
  have h := h.all
  rw [List.append_assoc, List.cons_append] at h
  have h := h.perm (List.perm_middle (l₁ := As))
  rw [← List.append_assoc] at h
  exact (St.all_intro (R := A :: R) (h.perm (List.perm_middle (l₁ := As ++ Bs)).symm)).swap
theorem St.all_in {As Bs R : List HProp} {A : HProp} (h : St o w (A :: satH (As ++ Bs) :: R)) : St o w (satH (As ++ A :: Bs) :: R) := by
  have h := h.swap.all
  refine St.all_intro (h.perm ?_)
  rw [List.append_assoc, List.append_assoc, List.cons_append]
  refine List.Perm.append_left As ?_
  exact List.perm_middle
theorem St.nil (h : St o w R) : St o w [] := ⟨h.os, h.tape, h.output, h.size, trivial⟩
theorem St.mem_blk (h : St o w As) {b : Nat} {t : TypeId} {xs : List Value} (hm : blk b t xs ∈ As) : ob t xs w.heap[b]? := by
  obtain ⟨S, hS⟩ := satH_mem hm h.sat
  exact (blk_on hS).1
theorem St.head_blk {b : Nat} {t : TypeId} {xs : List Value} (h : St o w (blk b t xs :: R)) : ob t xs w.heap[b]? := h.mem_blk List.mem_cons_self
theorem lt_of_heap {w : World} {b : Nat} {x : Obj} (h : w.heap[b]? = some x) : b < w.heap.size := (Array.getElem?_eq_some_iff.1 h).1
theorem St.mem_old {o' : World} (h : St o w As) (hm : old o' ∈ As) {b : Nat} (hb : b < o'.heap.size) : w.heap[b]? = o'.heap[b]? := by
  obtain ⟨S, hS⟩ := satH_mem hm h.sat
  have h1 := hS b
  by_cases hs : S b
  · rwa [Hp.on_yes _ hs] at h1
  · rw [Hp.on_no _ hs] at h1
    rw [Array.getElem?_eq_getElem hb] at h1
    cases h1
theorem St.below (h : St o w As) (hm : old o ∈ As) : Below o.heap.size o w := ⟨h.os, h.tape, h.output, h.size, fun _ hk => h.mem_old hm hk⟩
theorem cell_of_blk {w : World} {b : Nat} {t : TypeId} {xs : List Value} (h : ob t xs w.heap[b]?) (i : Nat) : w.cell? ⟨b, i, none⟩ = xs[i]? := by
  obtain ⟨f, _, h⟩ := h
  unfold World.cell?
  rw [h]; simp
theorem frozen_of_blk {w : World} {b : Nat} {t : TypeId} {xs : List Value} (h : ob t xs w.heap[b]?) (i : Nat) (hi : i < xs.length) : w.frozen? ⟨b, i, none⟩ = false := by
  obtain ⟨⟨f, g⟩, hf, h⟩ := h
  unfold World.frozen?
  rw [h]
  rcases hf with hf | hf
  · cases hf; simp
  · simp at hf ⊢; omega
theorem hp_alloc (w : World) (x : Obj) (b : Nat) : hp (w.alloc x) b = if b = w.heap.size then some x else hp w b := by
  unfold hp World.alloc
  simp only [Array.getElem?_push]
theorem hp_setCell (w : World) (a : Addr) (v : Value) (b : Nat) (h : b ≠ a.block) : hp (w.setCell a v) b = hp w b := Below.heap_setCell w a v b h
theorem St.alloc_ob {w' : World} {b : Nat} {t : TypeId} {xs : List Value} (h : St o w R) (hb : b = w.heap.size) (h1 : w'.os = w.os) (h2 : w'.tape = w.tape) (h3 : w'.output = w.output) (h4 : w'.heap.size = w.heap.size + 1) (hold : ∀ j, j < w.heap.size → w'.heap[j]? = w.heap[j]?) (hnew : ob t xs w'.heap[b]?) : St o w' (blk b t xs :: R) := by
  subst hb
  refine ⟨h1.trans h.os, h2.trans h.tape, h3.trans h.output, by have := h.size; omega, fun b => b = w.heap.size, ?_, ?_⟩
  · unfold blk
    rw [Hp.on_yes (S := fun b => b = w.heap.size) _ rfl]
    exact hnew
  · have : (hp w').on (fun b => ¬ b = w.heap.size) = hp w := by
      funext b
      by_cases hb : b = w.heap.size
      · rw [Hp.on_no _ (not_not_intro hb)]
        subst hb
        simp [hp]
      · rw [Hp.on_yes _ hb]
        by_cases hl : b < w.heap.size
        · exact hold b hl
        · unfold hp
          rw [Array.getElem?_eq_none (by omega), Array.getElem?_eq_none (by omega)]
    rw [this]; exact h.sat
theorem St.alloc (h : St o w R) (t : TypeId) (xs : List Value) : St o (w.alloc (.cells xs.toArray t)) (blk w.heap.size t xs :: R) := by
  refine ⟨h.os, h.tape, h.output, Nat.le_trans h.size (show w.heap.size ≤ (w.heap.push _).size by simp), fun b => b = w.heap.size, ?_, ?_⟩
  · unfold blk
    rw [Hp.on_yes (S := fun b => b = w.heap.size) _ rfl, hp_alloc, if_pos rfl]
    exact ⟨(0, 0), .inl rfl, rfl⟩
  · have : (hp (w.alloc (.cells xs.toArray t))).on (fun b => ¬ b = w.heap.size) = hp w := by
      funext b
      by_cases hb : b = w.heap.size
      · rw [Hp.on_no _ (not_not_intro hb)]
        subst hb
        simp [hp]
      · rw [Hp.on_yes _ hb, hp_alloc, if_neg hb]
    rw [this]; exact h.sat
theorem heap_setCell_blk {w : World} {b i : Nat} {t : TypeId} {xs : List Value} (h : ob t xs w.heap[b]?) (v : Value) : ob t (xs.set i v) (w.setCell ⟨b, i, none⟩ v).heap[b]? := by
  obtain ⟨f, hf, h⟩ := h
  refine ⟨f, by simpa using hf, ?_⟩
  simp only [World.setCell, Array.getElem?_modify, if_true, h]
  simp
theorem St.setCell {b : Nat} {t : TypeId} {xs : List Value} (h : St o w (blk b t xs :: R)) (i : Nat) (v : Value) : St o (w.setCell ⟨b, i, none⟩ v) (blk b t (xs.set i v) :: R) := by
  have hb := h.head_blk
  obtain ⟨h1, h2, h3, h4, S, hA, hR⟩ := h
  have hS : S b := (blk_on hA).2
  refine ⟨h1, h2, h3, by simpa [World.setCell] using h4, S, ?_, ?_⟩
  · unfold blk
    rw [Hp.on_yes _ hS]
    exact heap_setCell_blk hb v
  · have : (hp (w.setCell ⟨b, i, none⟩ v)).on (fun b => ¬ S b) = (hp w).on fun b => ¬ S b := by
      funext k
      by_cases hk : S k
      · rw [Hp.on_no _ (not_not_intro hk), Hp.on_no _ (not_not_intro hk)]
      · rw [Hp.on_yes _ hk, Hp.on_yes _ hk]
        exact hp_setCell _ _ _ _ fun e => hk (e ▸ hS)
    rw [this]; exact hR
def setL (xs : List Value) (i : Nat) : List Value → List Value
  | [] => xs
  | v :: vs => setL (xs.set i v) (i + 1) vs
theorem setL_length (xs : List Value) (i : Nat) (vs : List Value) : (setL xs i vs).length = xs.length := by
  induction vs generalizing xs i with
  | nil => rfl
  | cons v vs ih => rw [setL, ih]; simp
theorem setL_append (xs : List Value) (ys zs : List Value) (h : ys.length ≤ zs.length) : setL (xs ++ zs) xs.length ys = xs ++ (ys ++ zs.drop ys.length) := by
  induction ys generalizing xs zs with
  | nil => simp [setL]
  | cons y ys ih =>
    cases zs with
    | nil => simp at h
    | cons z zs =>
      rw [setL]
      have e : (xs ++ z :: zs).set xs.length y = (xs ++ [y]) ++ zs := by
        rw [List.set_append_right _ _ (Nat.le_refl _)]
        simp
      rw [e]
      have := ih (xs ++ [y]) zs (by simpa using h)
      simp only [List.length_append, List.length_cons, List.length_nil, Nat.zero_add] at this
      rw [this]
      simp
theorem St.setCells {b : Nat} {t : TypeId} : ∀ (vs : List Value) {w : World} {xs : List Value} (i : Nat), St o w (blk b t xs :: R) → St o (w.setCells b i vs) (blk b t (setL xs i vs) :: R)
  | [], _, _, _, h => h
  | v :: vs, _, _, i, h => St.setCells vs (i + 1) (h.setCell i v)
end
end Go.Sh

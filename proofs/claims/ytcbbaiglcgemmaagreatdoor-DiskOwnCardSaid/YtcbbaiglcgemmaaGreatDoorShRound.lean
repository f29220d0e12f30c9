/- Rounds of a loop over a function: the record in memory, yield, one round. Nothing of any one program stands here. -/
import Derived.Test.YtcbbaiglcgemmaaGreatDoorShRng
import Derived.Test.YtcbbaiglcgemmaaGreatDoorShOps
namespace Go.Sh
def obP (b : Nat) (x : Obj) : HProp := fun h => h b = some x
section
variable {o w w' : World} {As R : List HProp} {b : Nat} {x y : Obj}
theorem St.alloc_obj (h : St o w R) (x : Obj) : St o (w.alloc x) (obP w.heap.size x :: R) := by
  refine ⟨h.os, h.tape, h.output, Nat.le_trans h.size (show w.heap.size ≤ (w.heap.push _).size by simp), fun b => b = w.heap.size, ?_, ?_⟩
  · unfold obP
    rw [Hp.on_yes (S := fun b => b = w.heap.size) _ rfl, hp_alloc, if_pos rfl]
  · have : (hp (w.alloc x)).on (fun b => ¬ b = w.heap.size) = hp w := by
      funext b
      by_cases hb : b = w.heap.size
      · rw [Hp.on_no _ (not_not_intro hb)]
        subst hb
        simp [hp]
      · rw [Hp.on_yes _ hb, hp_alloc, if_neg hb]
    rw [this]; exact h.sat
end
section
variable {P : Program} {n : Nat} {Z : List PanicEntry → World → Prop} {cal : List Nat} {o w w' : World} {As R : List HProp}
theorem runY.mono {s : Sem Next} {k k' : Value → World → Prop} (h : runY P (fun _ _ => False) s w k) (hk : ∀ v w, k v w → k' v w) : runY P Z s w k' := by
  refine ⟨?_⟩
  have h := h.out
  unfold opVR at h ⊢
  split at h
  · exact RoundIn.mono h fun e w' he => by
      cases e with
      | returned v => exact hk _ _ he
      | panicked ch => exact he.elim
      | outgrown => exact he.elim
  · unfold opV at h ⊢
    split at h
    · exact hk _ _ h
    · exact hk _ _ h
    · exact Calls.mono h fun e w' he => by
        cases e with
        | returned v => exact hk _ _ he
        | panicked ch => exact he.elim
        | outgrown => exact he.elim
    · exact Rows.mono h fun v w' he => hk _ _ he
    · exact h.elim
    · exact h.elim
end
end Go.Sh

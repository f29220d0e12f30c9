/- Data that came in, fuel by fuel (for types that hold themselves). Nothing of any one program stands here. -/
import Derived.Test.YtbccccpdnaeomaaGreatDoorShOpen
namespace Go.Sh
open Go.RowKit
def OpnN (P : Program) (w : World) (k : Nat) (t : TypeId) (Φ : List Value → Prop) : Prop :=
  ∀ (H : Type) (enc : TypeId × Value → H) (fuel : Nat) (cs : List Value) (x : DataW H × List MemPlace), fuel ≤ k → DataW.trod enc P w 0 (fun _ => true) true fuel t cs = some x → (∀ n ∈ x.1.weights P t, n ≤ 140737488351232) → Φ cs
section
variable {P : Program} {w w' o : World} {t e : TypeId} {sz bt : Nat} {z v : Value} {Φ : List Value → Prop}
theorem Opn.fuel (h : Opn P w t Φ) (k : Nat) : OpnN P w k t Φ := fun H enc fuel cs x _ hx hw => h H enc fuel cs x hx hw
theorem OpnN.mono {k : Nat} {Φ' : List Value → Prop} (h : OpnN P w k t Φ) (hk : ∀ cs, Φ cs → Φ' cs) : OpnN P w k t Φ' := fun H enc fuel cs x hf hx hw => hk cs (h H enc fuel cs x hf hx hw)
theorem OpnN.less {k j : Nat} (h : OpnN P w k t Φ) (hj : j ≤ k) : OpnN P w j t Φ := fun H enc fuel cs x hf hx hw => h H enc fuel cs x (by omega) hx hw
theorem OpnN.zero : OpnN P w 0 t Φ := fun H enc fuel cs x hf hx hw => by
  obtain rfl : fuel = 0 := by omega
  simp [DataW.trod] at hx
theorem OpnN.all (h : ∀ k, OpnN P w k t Φ) : Opn P w t Φ := fun H enc fuel cs x hx hw => h fuel H enc fuel cs x (Nat.le_refl _) hx hw
end
end Go.Sh

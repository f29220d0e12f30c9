/- PacketTurned: the plain law and the walk. -/
import Derived.Test.YtfijkedmbaghmaaGreatDoorG11
set_option linter.unusedVariables false
set_option linter.unusedSimpArgs false
namespace Go.Proofs.YtfijkedmbaghmaaGreatDoor
open Go.Sh
theorem pkB_len {p : Pk} (hw : WfP p) (hok : okP p = true) : (pkB p).length ≤ 60000 := by
  have h : (body p).length ≤ 1 + 12 * 4200 := fpre_len hok hw 12 (by omega)
  rw [pkB, summed, List.length_append, enc_length]
  omega
theorem CallV.pure {P : Program} {f : FuncId} {args : Array Value} {w : World} {φ : Prop} (h : CallV P (fun _ _ => False) f args w fun _ _ => φ) : φ := by
  obtain ⟨e, w', fr, hR, _⟩ := h.out []
  cases e with
  | returned v => exact hR
  | panicked _ => exact hR.elim
  | outgrown => exact hR.elim
theorem own_cap {o w : World} {R : List HProp} {e : TypeId} {sz n : Nat} {v : Value} {xs : List Value} (h : St o w (own e sz v n xs :: R)) : CapOk v := by
  obtain ⟨_, ⟨rfl, _⟩ | ⟨g, cap, rest, rfl, h1, _⟩⟩ := h.own_open
  · intro a n c e; injection e with _ h1 h2; omega
  · intro a n c e; injection e with _ h2 h3; omega
section
variable (Z : List PanicEntry → World → Prop) {o w : World} {R As : List HProp} {g : Nat} {p : Pk}
end
end Go.Proofs.YtfijkedmbaghmaaGreatDoor

/- No transaction. -/
import Derived.Test.YtfafkgbipjhcaaaGreatDoorT27
set_option linter.unusedVariables false
set_option linter.unusedSimpArgs false
namespace Go.Proofs.YtfafkgbipjhcaaaGreatDoor
open Go.Sh
theorem okc_path {inner : Bool} {f : Fl} (h : okc inner f 0) : f.path.length ≤ 140737488351232 := by
  have h : if bi inner f 0 then okL 64 f.path else f.path = [] := h
  split at h
  · have := h.1; omega
  · rw [h]; simp
theorem okc_data {inner : Bool} {f : Fl} (h : okc inner f 1) : f.data.length ≤ 140737488351232 := by
  have h : if bi inner f 1 then okL 96 f.data else f.data = [] := h
  split at h
  · have := h.1; omega
  · rw [h]; simp
theorem okId_wf {x : Idd} (h : okId x) : wfId x := by
  have h1 := h.1.1
  have h2 := h.2.1
  exact ⟨by omega, by omega⟩
theorem okTo_wf {inner : Bool} {f : Fl} (h : okTo inner f 8) : WfF f := by
  have hk := okTo_kd h
  refine ⟨by omega, okc_path (okTo_le h (by omega)), okc_data (okTo_le h (by omega)), ?_, ?_, ?_, ?_, ?_⟩
  · have h2 : if bi inner f 2 then f.acl.length ≤ 4 ∧ ∀ x ∈ f.acl, okEn x else f.acl = [] := okTo_le h (show 2 < 8 by omega)
    split at h2
    · exact ⟨by omega, fun x hx => ⟨(h2.2 x hx).1, okId_wf (h2.2 x hx).2⟩⟩
    · rw [h2]; simp
  · have h2 : if bi inner f 3 then -2147483648 ≤ f.ver ∧ f.ver ≤ 2147483647 else f.ver = 0 := okTo_le h (show 3 < 8 by omega)
    split at h2
    · exact h2
    · omega
  · have h2 : if bi inner f 5 then -9223372036854775808 ≤ f.ses ∧ f.ses ≤ 9223372036854775807 else f.ses = 0 := okTo_le h (show 5 < 8 by omega)
    split at h2
    · exact h2
    · omega
  · have h2 : if bi inner f 6 then -2147483648 ≤ f.tmo ∧ f.tmo ≤ 2147483647 else f.tmo = 0 := okTo_le h (show 6 < 8 by omega)
    split at h2
    · exact h2
    · omega
  · have h2 : if bi inner f 7 then f.who.length ≤ 4 ∧ ∀ x ∈ f.who, okId x else f.who = [] := okTo_le h (show 7 < 8 by omega)
    split at h2
    · exact ⟨by omega, fun x hx => okId_wf (h2.2 x hx)⟩
    · rw [h2]; simp
theorem okR_wf {q : Rq} (h : okR false q) : WfQ q := by
  have h2 := h.2
  refine .mk q (okTo_wf h.1) ?_ fun x hx => ?_
  · split at h2
    · omega
    · rw [h2]; simp
  · split at h2
    · have h3 := h2.2 x hx
      exact .mk x (okTo_wf h3.1) (by rw [h3.2]; simp) (fun y hy => by rw [h3.2] at hy; cases hy)
    · rw [h2] at hx; cases hx
def qz : Rq := .mk zf (.slice none 0 0) (.slice none 0 0) (.slice none 0 0) (.slice none 0 0) []
def tz : Tx := ⟨0, 0, 0, 0, 0, qz⟩
theorem qz_wf : WfQ qz := .mk _ ⟨by decide, by decide, by decide, ⟨by decide, fun x hx => by cases hx⟩, by decide, by decide, by decide, ⟨by decide, fun x hx => by cases hx⟩⟩ (by decide) (fun x hx => by cases hx)
section
variable {o w : World} {R : List HProp}
theorem tz_own (h : St o w R) : St o w (OwQ tz.q :: R) := by
  show St o w (OwQ qz :: R)
  rw [OwQ_eq]
  have h1 := (h.emp.mono fun _ _ => (trivial : satH (([] : List Rq).map OwQ) _)).own_nil 35 11
  exact (OwF.plain 0 h1.sep_intro).sep_intro
end
end Go.Proofs.YtfafkgbipjhcaaaGreatDoor

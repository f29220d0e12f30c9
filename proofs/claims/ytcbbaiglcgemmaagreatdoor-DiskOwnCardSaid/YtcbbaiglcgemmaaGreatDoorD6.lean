
/- Disks, plainly: cut, a loss of power, what stays as it must be. -/
import Derived.Test.YtcbbaiglcgemmaaGreatDoorD5
set_option linter.unusedVariables false
set_option linter.unusedSimpArgs false
namespace Go.Proofs.YtcbbaiglcgemmaaGreatDoor
open Go.Sh
theorem keepF_nm : ∀ (fs : List Fil) (ks : List Int), (keepF fs ks).map (·.nm) = fs.map (·.nm)
  | [], _ => rfl
  | f :: fs, [] => by simp only [keepF, List.map_cons, keepF_nm fs []]
  | f :: fs, k :: ks => by simp only [keepF, List.map_cons, keepF_nm fs ks]
theorem srt_nm {fs gs : List Fil} (h : Srt fs) (e : gs.map (·.nm) = fs.map (·.nm)) : Srt gs := by
  have h1 : (fs.map (·.nm)).Pairwise fun a b => blt a b = true := List.pairwise_map.2 h
  rw [← e] at h1
  exact List.pairwise_map.1 h1
theorem keepF_has : ∀ {fs : List Fil} {ks : List Int} {g : Fil}, g ∈ keepF fs ks → ∃ f ∈ fs, f.nm = g.nm ∧ ∃ l, l ≤ f.by_.length - f.sy ∧ g.by_ = f.by_.take (f.sy + l) ∧ g.sy = f.sy + l
  | [], _, g, h => by cases h
  | f :: fs, [], g, h => by
    simp only [keepF, List.mem_cons] at h
    rcases h with rfl | h
    · exact ⟨f, List.mem_cons_self, rfl, 0, Nat.zero_le _, rfl, rfl⟩
    · obtain ⟨f', hf, r⟩ := keepF_has h
      exact ⟨f', List.mem_cons_of_mem _ hf, r⟩
  | f :: fs, k :: ks, g, h => by
    simp only [keepF, List.mem_cons] at h
    rcases h with rfl | h
    · exact ⟨f, List.mem_cons_self, rfl, left (f.by_.length - f.sy) k, Nat.min_le_left _ _, rfl, rfl⟩
    · obtain ⟨f', hf, r⟩ := keepF_has h
      exact ⟨f', List.mem_cons_of_mem _ hf, r⟩
theorem keepF_total : ∀ (fs : List Fil) (ks : List Int), total (keepF fs ks) ≤ total fs
  | [], _ => Nat.le_refl _
  | f :: fs, [] => by
    have := keepF_total fs []
    simp only [keepF, total_cons, List.length_take]; omega
  | f :: fs, k :: ks => by
    have := keepF_total fs ks
    simp only [keepF, total_cons, List.length_take]; omega
theorem Dk.start_ok {d : Dk} (h : d.ok) (ks : List Int) : (d.start ks).ok := by
  unfold Dk.start
  split
  · exact h
  refine ⟨h.room, Nat.le_trans (keepF_total _ _) h.used, srt_nm h.srt (keepF_nm _ _), ?_, ?_⟩
  · intro g hg
    obtain ⟨f, hf, _, l, hl, hb, hs⟩ := keepF_has hg
    have := h.sy f hf
    rw [hb, hs, List.length_take]; omega
  · have := congrArg List.length (keepF_nm d.fs ks)
    rw [List.length_map, List.length_map] at this
    show (keepF d.fs ks).length ≤ 64
    rw [this]; exact h.many
theorem Dk.new_ok {n : Nat} (h : n ≤ 16777216) : (Dk.new n).ok := ⟨h, Nat.zero_le _, List.Pairwise.nil, (fun f hf => by cases hf), Nat.zero_le _⟩
end Go.Proofs.YtcbbaiglcgemmaaGreatDoor

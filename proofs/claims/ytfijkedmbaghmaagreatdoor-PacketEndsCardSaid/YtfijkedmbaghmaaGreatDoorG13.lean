/- PacketEnds: behind, Summed; the plain law; the walk. -/
import Derived.Test.YtfijkedmbaghmaaGreatDoorG12
set_option linter.unusedVariables false
set_option linter.unusedSimpArgs false
namespace Go.Proofs.YtfijkedmbaghmaaGreatDoor
open Go.Sh
theorem Rd.head {w : World} {a : Option Addr} {n c : Nat} {l : List UInt8} (h : Rd w 1 (.slice a n c) n (cb l)) (k : Nat) (hk : k ≤ n) : Rd w 1 (.slice a k c) k (cb (l.take k)) := by
  have hn := rd_len h
  obtain ⟨h1, h2, h3⟩ := h
  refine ⟨by rw [cb_length, List.length_take]; omega, by omega, ?_⟩
  have hcb : cb (l.take k) = (cb l).take k := by simp [cb]
  rw [hcb]
  rcases h3 with ⟨c', e, hz⟩ | ⟨b, c', e, hc⟩
  · obtain ⟨rfl, _, _⟩ := Value.slice.inj e
    have hk0 : k = 0 := by omega
    subst hk0
    exact .inl ⟨_, rfl, rfl⟩
  · obtain ⟨rfl, _, rfl⟩ := Value.slice.inj e
    refine .inr ⟨b, _, rfl, fun j u hj => hc j u ?_⟩
    by_cases hjk : j < k
    · rwa [List.getElem?_take_of_lt hjk] at hj
    · rw [List.getElem?_take_eq_none (by omega)] at hj; cases hj
theorem body_pos (p : Pk) : 0 < (body p).length := by
  obtain ⟨rest, e⟩ := fpre_add p.kd.toNat p 0 12
  have e : body p = enc 1 p.kd ++ rest := e
  rw [e, List.length_append, enc_length]; omega
theorem body_same {y p : Pk} (h : sameP y p) : body y = body p := fpre_same h.1 12 (Nat.le_refl _) fun j hj _ => h.2 j hj
theorem pkB_length (p : Pk) : (pkB p).length = 4 + (body p).length := by rw [pkB, summed, List.length_append, enc_length]
theorem drop_cut (l : List UInt8) (k n : Nat) (h : k ≤ n) : l.drop k = (l.take n).drop k ++ l.drop n := by
  conv => lhs; rw [← List.take_append_drop n l]
  by_cases hl : n ≤ l.length
  · rw [List.drop_append_of_le_length (by rw [List.length_take]; omega)]
  · rw [List.take_of_length_le (by omega), List.drop_of_length_le (show l.length ≤ n by omega), List.append_nil, List.append_nil]
def Uniq (L : List UInt8) : Prop := ∀ u u' : Pk, WfP u → okP u = true → WfP u' → okP u' = true → L = pkB u' → Has L 4 (body u) → body u = body u'
theorem ends_key {p u : Pk} {n : Nat} (hU : Uniq (pkB p)) (hp : WfP p) (hpo : okP p = true) (hu : WfP u) (huo : okP u = true) (h4 : 4 ≤ n) (hn : n < (pkB p).length) : ((pkB p).take n).drop 4 ≠ body u := by
  intro e
  have h1 : Has (pkB p) 4 (body u) := ⟨(pkB p).drop n, by rw [← e]; exact drop_cut _ _ _ h4⟩
  have h2 := hU u p hu huo hp hpo rfl h1
  have h3 := congrArg List.length e
  rw [h2, List.length_drop, List.length_take] at h3
  have h4 := pkB_length p
  omega
theorem ends_take {p u : Pk} {n : Nat} (hU : Uniq (pkB p)) (hp : WfP p) (hpo : okP p = true) (hu : WfP u) (huo : okP u = true) (hn : n < (pkB p).length) : (pkB p).take n ≠ pkB u := by
  intro e
  have h1 := congrArg List.length e
  rw [List.length_take, pkB_length u] at h1
  refine ends_key hU hp hpo hu huo (show 4 ≤ n by omega) hn ?_
  rw [e, pkB, summed_drop]
theorem ends_more {p u : Pk} {more : List UInt8} (hU : Uniq (pkB p ++ more)) (hp : WfP p) (hpo : okP p = true) (hu : WfP u) (huo : okP u = true) (hm : more ≠ []) : pkB p ++ more ≠ pkB u := by
  intro e
  have h1 : Has (pkB p ++ more) 4 (body p) := ⟨more, by rw [List.drop_append_of_le_length (by rw [pkB_length]; omega), pkB, summed_drop]⟩
  have h2 := hU p u hp hpo hu huo e h1
  have h3 := congrArg List.length e
  rw [List.length_append, pkB_length, pkB_length, h2] at h3
  exact hm (List.eq_nil_of_length_eq_zero (by omega))
theorem ends_summed {p u : Pk} {more : List UInt8} (hU : Uniq (summed (body p ++ more))) (hp : WfP p) (hpo : okP p = true) (hu : WfP u) (huo : okP u = true) (hm : more ≠ []) : summed (body p ++ more) ≠ pkB u := by
  intro e
  have h1 : Has (summed (body p ++ more)) 4 (body p) := ⟨more, by rw [summed_drop]⟩
  have h2 := hU p u hp hpo hu huo e h1
  have h3 := congrArg List.length (summed_inj e)
  rw [List.length_append, h2] at h3
  exact hm (List.eq_nil_of_length_eq_zero (by omega))
section
variable (Z : List PanicEntry → World → Prop) {o w : World} {R As : List HProp} {g : Nat} {p : Pk}
theorem behindC {x y : Value} {n : Nat} {l k : List UInt8} (h : St o w (own 5 1 x l.length (cb l) :: R)) (hy : Ent o R fun w => Rd w 1 y n (cb k)) (hl : l.length + k.length ≤ 140737488355328) :
    CallV Tryz.prog Z 72 #[x, y] w fun r w' => St o w' (own 5 1 r (l ++ k).length (cb (l ++ k)) :: R) := by
  have h0 := hy w h.drop
  have hn := rd_len h0
  obtain ⟨a, c, rfl⟩ := h0.form
  subst hn
  refine f72.calls ?_
  unfold f72.sh
  refine ⟨fun m v y w' => ∃ i : Nat, y = .int .i64 i ∧ m + i = k.length ∧ St o w' (own 5 1 v (l.length + i) (cb (l ++ k.take i)) :: R), ⟨k.length, 0, rfl, rfl, by simpa using h⟩, ?_⟩
  rintro m v _ w1 ⟨i, rfl, hi, hS⟩ _
  (try simp only [o_add, ln_30_3, o_lss, cond_decide])
  refine ⟨fun hlt => ?_, fun hge => ?_⟩
  · have hi1 : i < k.length := by omega
    obtain ⟨p, hp, hpc⟩ := rd_index (hy w1 hS.drop) i hi1
    refine r1 (hp _) (r_load one5 hpc ?_)
    refine r_push el30 hS _ rfl (by omega) (by simp only [maxLen]; omega) fun v' w2 hS2 => ?_
    skip
    rw [wr_i64 (x := (i : Int) + 1) (by omega) (by omega)]
    refine ⟨m - 1, by omega, i + 1, rfl, by omega, ?_⟩
    rw [List.take_succ_eq_append_getElem hi1, ← List.append_assoc, cb_append]
    exact hS2
  · obtain rfl : i = k.length := by omega
    rw [List.take_length] at hS
    rw [List.length_append]
    exact hS
theorem summedC {x : Value} {n : Nat} {l : List UInt8} (h : St o w R) (hx : Ent o R fun w => Rd w 1 x n (cb l)) (hl : l.length ≤ 100000000000000) :
    CallV Tryz.prog Z 22 #[x] w fun r w' => St o w' (own 5 1 r (summed l).length (cb (summed l)) :: R) := by
  refine f22.calls ?_
  unfold f22.sh
  refine (refSum Z (hx w h)).mono fun r w1 ⟨hr, hw⟩ => ?_
  subst hr; subst hw
  have had := adler_lt l
  refine (refUint32 Z (adler l) (by omega) h).mono fun r w2 hS => ?_
  have hS : St o w2 (own 5 1 r (enc 4 (adler l)).length (cb (enc 4 (adler l))) :: R) := by rw [enc_length]; exact hS
  exact behindC Z hS hx (by rw [enc_length]; omega)
theorem readE {x : Value} {n : Nat} {l : List UInt8} (e : Int) (he : (e = 0 ∧ ∃ u, WfP u ∧ okP u = true ∧ l = pkB u) ∨ (e = 150 ∧ ∀ u, WfP u → okP u = true → l ≠ pkB u)) (hN : Names o) (hM : Named o) (ho : old o ∈ R) (hx : Ent o R fun w => Rd w 1 x n (cb l)) (hxc : CapOk x) (hl : l.length ≤ 140737488355328) (h : St o w R) :
    CallV Tryz.prog Z 23 #[x] w fun r w' => (∃ u : Pk, r = .tuple #[.agg u.cells.toArray, .int .i64 e] ∧ ones u.cells) ∧ St o w' R := by
  refine (readP Z hN hM ho hx hxc hl h).mono fun r w' hq => ?_
  rcases hq with ⟨u, h1, h2, h3, _, rfl, hS⟩ | ⟨hno, rfl, hS⟩
  · rcases he with ⟨rfl, _⟩ | ⟨_, hn⟩
    · exact ⟨⟨u, rfl, RdP.ones (w := w') ⟨OwQ.rd _ hS, hS.own_rd m1⟩⟩, hS.drop.drop⟩
    · exact absurd h3 (hn u h2 h1)
  · rcases he with ⟨_, u, h1, h2, h3⟩ | ⟨rfl, _⟩
    · exact absurd h3 (hno u h1 h2)
    · exact ⟨⟨pz, rfl, RdP.ones (w := w') ⟨qz_rd w', rd0 w' 1⟩⟩, hS⟩
theorem uniqL {x : Value} {n : Nat} {l : List UInt8} (hN : Names o) (hM : Named o) (ho : old o ∈ R) (hx : Ent o R fun w => Rd w 1 x n (cb l)) (hxc : CapOk x) (hl : l.length ≤ 140737488355328) (h : St o w R) : Uniq l :=
  CallV.pure (φ := Uniq l) (w := w) ((readP (fun _ _ => False) hN hM ho hx hxc hl h).mono fun r w' hq => by
    intro u u' hu huo hu' huo' e hh
    rcases hq with ⟨v, h1, h2, h3, h4, _⟩ | ⟨hno, _⟩
    · rw [body_same (h4 u hu huo hh), body_same (h4 u' hu' huo' (pk_has e))]
    · exact absurd e (hno u' hu' huo'))
end
end Go.Proofs.YtfijkedmbaghmaaGreatDoor

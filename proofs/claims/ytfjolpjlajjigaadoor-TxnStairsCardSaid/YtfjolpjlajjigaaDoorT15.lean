/- What get reads of ids, entries and lists of them. -/
import Derived.Test.YtfjolpjlajjigaaDoorT14
set_option linter.unusedVariables false
set_option linter.unusedSimpArgs false
namespace Go.Proofs.YtfjolpjlajjigaaDoor
open Go.Sh
/-- What a call answers that reads an element. -/
def GetsE {α β : Type} (e : α → List UInt8) (ok : α → Prop) (κ : α → β) (cells : α → List Value) (Own : α → HProp) (sz : Nat) (g : Nat) (B : Option Nat) (all : List UInt8) (off : Nat) (err : Int) (o : World) (R : List HProp) (r : Value) (w' : World) : Prop :=
  (∃ x, ok x ∧ err = 0 ∧ Has all off (e x) ∧ (∀ y, ok y → Has all off (e y) → κ y = κ x) ∧ r = .agg (cells x).toArray ∧ (cells x).length = sz ∧ ones (cells x) ∧ St o w' (RdrAt g B all (off + (e x).length) 0 :: Own x :: R)) ∨
  ((∃ xs : List Value, r = .agg xs.toArray ∧ xs.length = sz ∧ ones xs) ∧ (∀ x, ok x → ¬ (err = 0 ∧ Has all off (e x))) ∧ ∃ off' e', e' ≠ 0 ∧ St o w' (RdrAt g B all off' e' :: R))
/-- What a call answers that reads a list. -/
def GetsL {α β : Type} (e : α → List UInt8) (ok : α → Prop) (κ : α → β) (cells : α → List Value) (Own : α → HProp) (sz t most : Nat) (g : Nat) (B : Option Nat) (all : List UInt8) (off : Nat) (err : Int) (o : World) (R : List HProp) (r : Value) (w' : World) : Prop :=
  (∃ xs : List α, xs.length ≤ most ∧ (∀ x ∈ xs, ok x) ∧ err = 0 ∧ Has all off (lsB xs.length (xs.map e)) ∧ (∀ ys : List α, ys.length ≤ most → (∀ y ∈ ys, ok y) → Has all off (lsB ys.length (ys.map e)) → ys.map κ = xs.map κ) ∧
    St o w' (RdrAt g B all (off + (lsB xs.length (xs.map e)).length) 0 :: own t sz r xs.length (xs.map cells).flatten :: satH (xs.map Own) :: R)) ∨
  (r = .slice none 0 0 ∧ (∀ xs : List α, xs.length ≤ most → (∀ x ∈ xs, ok x) → ¬ (err = 0 ∧ Has all off (lsB xs.length (xs.map e)))) ∧ ∃ off' e', e' ≠ 0 ∧ St o w' (RdrAt g B all off' e' :: R))
def okId (x : Idd) : Prop := okL 24 x.sch ∧ okL 24 x.nam
def okEn (x : En) : Prop := (-128 ≤ x.perms ∧ x.perms ≤ 127) ∧ okId x.who
theorem Has.left {all a b : List UInt8} {off : Nat} (h : Has all off (a ++ b)) : Has all off a := (Has.split.1 h).1
theorem Has.right {all a b : List UInt8} {off : Nat} (h : Has all off (a ++ b)) : Has all (off + a.length) b := (Has.split.1 h).2
/-- Two lists, read element by element. -/
theorem flat_pos {α : Type} {e : α → List UInt8} {ok : α → Prop} (h1 : ∀ x, ok x → 1 ≤ (e x).length) : ∀ (ys : List α), (∀ y ∈ ys, ok y) → ys.length ≤ ((ys.map e).flatten).length
  | [], _ => by simp
  | y :: ys, h => by
    have := flat_pos h1 ys fun z hz => h z (List.mem_cons_of_mem _ hz)
    have := h1 y (h y List.mem_cons_self)
    rw [List.map_cons, List.flatten_cons, List.length_append, List.length_cons]; omega
theorem flat_split {α : Type} (e : α → List UInt8) (ys : List α) (i : Nat) (hi : i < ys.length) : ∃ rest, (ys.map e).flatten = ((ys.take i).map e).flatten ++ (e ys[i] ++ rest) := by
  refine ⟨((ys.drop (i + 1)).map e).flatten, ?_⟩
  rw [← List.append_assoc, ← flat_take e ys i hi, ← List.flatten_append, ← List.map_append, List.take_append_drop]
theorem map_flat {α β : Type} {e : α → List UInt8} {κ : α → β} (hk : ∀ x y, κ x = κ y → e x = e y) : ∀ (xs ys : List α), xs.map κ = ys.map κ → (xs.map e).flatten = (ys.map e).flatten
  | [], [], _ => rfl
  | [], _ :: _, h => by simp at h
  | _ :: _, [], h => by simp at h
  | x :: xs, y :: ys, h => by
    simp only [List.map_cons, List.cons.injEq] at h
    rw [List.map_cons, List.map_cons, List.flatten_cons, List.flatten_cons, hk _ _ h.1, map_flat hk xs ys h.2]
section
variable (Z : List PanicEntry → World → Prop) {o w : World} {R : List HProp} {g : Nat} {B : Option Nat} {all : List UInt8} {off : Nat} {err : Int}
theorem gId (h : St o w (RdrAt g B all off err :: R)) : CallV Tryd.prog Z 76 #[.pointer (some ⟨g, 0, none⟩)] w fun r w' => GetsE idB okId id idC (fun _ => emp) 2 g B all off err o R r w' := by
  refine f76.calls ?_
  unfold f76.sh
  refine r_alloc h ze103 fun ga w1 hS => ?_
  have fin : ∀ {w : World} {R' : List HProp} (a b : List UInt8) (Q : Value → World → Prop), St o w (blk ga 103 [.string ByteArray.empty, .string ByteArray.empty] :: R') → (∀ w', St o w' R' → Q (.agg (idC ⟨a, b⟩).toArray) w') →
      run1 Tryd.prog Z (Instr.build 103 #[(0, .string (str a)), (1, .string (str b))]) w fun t9 w => run0 Tryd.prog Z (Instr.storeAt 103 (.pointer (some ⟨ga, 0, none⟩)) t9) w fun w =>
        ∃ r, (do loadVar 103 (← asAddr (.pointer (some ⟨ga, 0, none⟩))) : Sem Value).run Tryd.prog w = .ok r w ∧ Q r w := by
    intro w R' a b Q hS hQ
    generalize hsa : str a = sa
    generalize hsb : str b = sb
    refine r_build (cells := #[.string sa, .string sb]) (by kernel_rfl) ?_
    subst hsa; subst hsb
    refine r_storeN hS ag103 (xs := idC ⟨a, b⟩) rfl (show 0 + 2 ≤ 2 from Nat.le_refl _) (idB_ones _) fun w2 hS => ?_
    rw [setL_all _ _ (by rfl)] at hS
    exact r_resN ag103 (xs := idC ⟨a, b⟩) rfl (hS.cells_at m0 0 (whole_at _)) (hQ _ hS.drop)
  have hS : St o w1 (blk ga 103 [.string ByteArray.empty, .string ByteArray.empty] :: RdrAt g B all off err :: R) := hS
  refine (gText Z 24 hS.swap).mono fun r w2 hq => ?_
  rcases hq with ⟨a, ha, rfl, hh, hu, rfl, hS⟩ | ⟨rfl, hno, off', e', ⟨he', _⟩, hS⟩
  · refine (gText Z 24 hS).mono fun r w3 hq => ?_
    rcases hq with ⟨b, hb, _, hh2, hu2, rfl, hS⟩ | ⟨rfl, hno, off', e', ⟨he', _⟩, hS⟩
    · refine fin a b _ hS.swap fun w4 hS => .inl ⟨⟨a, b⟩, ⟨ha, hb⟩, rfl, Has.split.2 ⟨hh, hh2⟩, fun y hy hhy => ?_, rfl, rfl, idB_ones _, ?_⟩
      · have h1 := hu _ hy.1 hhy.left
        have h2 := hhy.right
        rw [h1] at h2
        have h2 := hu2 _ hy.2 h2
        cases y; simp_all
      · have e1 : (idB ⟨a, b⟩).length = (encL a).length + (encL b).length := by rw [idB, List.length_append]
        rw [e1, ← Nat.add_assoc]
        exact hS.emp.swap
    · refine fin a [] _ hS.swap fun w4 hS => .inr ⟨⟨_, rfl, rfl, idB_ones _⟩, fun y hy ⟨_, hhy⟩ => ?_, off', e', he', hS⟩
      have h1 := hu _ hy.1 hhy.left
      have h2 := hhy.right
      rw [h1] at h2
      exact hno _ hy.2 ⟨rfl, h2⟩
  · refine (gText Z 24 hS).mono fun r w3 hq => ?_
    rcases hq with ⟨b, hb, he0, _⟩ | ⟨rfl, _, off2, e2, ⟨he2, _⟩, hS⟩
    · exact absurd he0 he'
    · exact fin [] [] _ hS.swap fun w4 hS => .inr ⟨⟨_, rfl, rfl, idB_ones _⟩, fun y hy ⟨h0, hhy⟩ => hno _ hy.1 ⟨h0, hhy.left⟩, off2, e2, he2, hS⟩
theorem gEn (h : St o w (RdrAt g B all off err :: R)) : CallV Tryd.prog Z 72 #[.pointer (some ⟨g, 0, none⟩)] w fun r w' => GetsE enB okEn id enC (fun _ => emp) 3 g B all off err o R r w' := by
  refine f72.calls ?_
  unfold f72.sh
  refine r_alloc h ze105 fun ga w1 hS => ?_
  have fin : ∀ {w : World} {R' : List HProp} (p : Int) (xs : List Value) (Q : Value → World → Prop), xs.length = 2 → ones xs → St o w (blk ga 105 [.int .i8 0, .string ByteArray.empty, .string ByteArray.empty] :: R') → (∀ w', St o w' R' → Q (.agg (Value.int .i8 p :: xs).toArray) w') →
      run1 Tryd.prog Z (Instr.build 105 #[(0, .int .i8 p), (1, .agg xs.toArray)]) w fun t9 w => run0 Tryd.prog Z (Instr.storeAt 105 (.pointer (some ⟨ga, 0, none⟩)) t9) w fun w =>
        ∃ r, (do loadVar 105 (← asAddr (.pointer (some ⟨ga, 0, none⟩))) : Sem Value).run Tryd.prog w = .ok r w ∧ Q r w := by
    intro w R' p xs Q hl ho hS hQ
    obtain ⟨a, b, rfl⟩ : ∃ a b, xs = [a, b] := by
      match xs, hl with
      | [a, b], _ => exact ⟨a, b, rfl⟩
    have ha := ho a (by simp)
    have hb := ho b (by simp)
    refine r_build (cells := #[.int .i8 p, a, b]) (by kernel_rfl) ?_
    refine r_storeN hS ag105 (xs := [.int .i8 p, a, b]) rfl (show 0 + 3 ≤ 3 from Nat.le_refl _) (by intro u hu; simp at hu; rcases hu with rfl | rfl | rfl; rfl; exact ha; exact hb) fun w2 hS => ?_
    rw [setL_all _ _ (by rfl)] at hS
    exact r_resN ag105 (xs := [.int .i8 p, a, b]) rfl (hS.cells_at m0 0 (whole_at _)) (hQ _ hS.drop)
  have hS : St o w1 (blk ga 105 [.int .i8 0, .string ByteArray.empty, .string ByteArray.empty] :: RdrAt g B all off err :: R) := hS
  refine (gInt8 Z hS.swap).mono fun r w2 hq => ?_
  rcases hq with ⟨p, hp, rfl, hh, hu, rfl, hS⟩ | ⟨rfl, hno, off', e', ⟨he', _⟩, hS⟩
  · refine (gId Z hS).mono fun r w3 hq => ?_
    rcases hq with ⟨x, hx, _, hh2, hu2, rfl, hl, hon, hS⟩ | ⟨⟨xs, rfl, hl, hon⟩, hno, off', e', he', hS⟩
    · refine fin p (idC x) _ hl hon (hS.pick 2) fun w4 hS => .inl ⟨⟨p, x⟩, ⟨hp, hx⟩, rfl, Has.split.2 ⟨hh, hh2⟩, fun y hy hhy => ?_, rfl, rfl, enB_ones _, ?_⟩
      · have h1 := hu _ hy.1 hhy.left
        have h2 := hhy.right
        rw [h1] at h2
        have h2 := hu2 _ hy.2 h2
        cases y; simp_all
      · have e1 : (enB ⟨p, x⟩).length = (enc 1 p).length + (idB x).length := by rw [enB, List.length_append]
        rw [e1, ← Nat.add_assoc]
        exact hS
    · refine fin p xs _ hl hon hS.swap fun w4 hS => .inr ⟨⟨_, rfl, by simp [hl], fun u hu => ?_⟩, fun y hy ⟨_, hhy⟩ => ?_, off', e', he', hS⟩
      · rcases List.mem_cons.1 hu with rfl | hu
        · rfl
        · exact hon u hu
      · have h1 := hu _ hy.1 hhy.left
        have h2 := hhy.right
        rw [h1] at h2
        exact hno _ hy.2 ⟨rfl, h2⟩
  · refine (gId Z hS).mono fun r w3 hq => ?_
    rcases hq with ⟨x, hx, he0, _⟩ | ⟨⟨xs, rfl, hl, hon⟩, _, off2, e2, he2, hS⟩
    · exact absurd he0 he'
    · refine fin 0 xs _ hl hon hS.swap fun w4 hS => .inr ⟨⟨_, rfl, by simp [hl], fun u hu => ?_⟩, fun y hy ⟨h0, hhy⟩ => hno _ hy.1 ⟨h0, hhy.left⟩, off2, e2, he2, hS⟩
      rcases List.mem_cons.1 hu with rfl | hu
      · rfl
      · exact hon u hu
theorem gLId {α β : Type} (e : α → List UInt8) (ok : α → Prop) (κ : α → β) (cells : α → List Value) (Own : α → HProp) (most : Nat) (hm : most ≤ 8) (f : FuncId) (first : List Value) (hf : ∀ args w, (callFunc f args).run Tryd.prog w = .ok (.enter f args) w)
    (h1 : ∀ x, ok x → 1 ≤ (e x).length) (hκ : ∀ x y, κ x = κ y → e x = e y) (hall : all.length ≤ 140737488355328) (ho : old o ∈ R)
    (hE : ∀ (w : World) (R' : List HProp) (off : Nat), old o ∈ R' → St o w (RdrAt g B all off 0 :: R') → CallV Tryd.prog Z f (first ++ [Value.pointer (some ⟨g, 0, none⟩)] ++ []).toArray w fun r w' => GetsE e ok κ cells Own 2 g B all off 0 o R' r w')
    (h : St o w (RdrAt g B all off err :: R)) :
    CallV Tryd.prog Z 75 #[.pointer (some ⟨g, 0, none⟩), .int .i64 most, .func (.func f) first.toArray #[]] w fun r w' => GetsL e ok κ cells Own 2 103 most g B all off err o R r w' := by
  have hoff := RdrAt.le h
  refine f75.calls ?_
  unfold f75.sh
  refine (rMark Z h).mono fun at_ w1 ⟨hv, hw⟩ => ?_
  subst hw
  refine (gInt32 Z h).mono fun r2 w2 hq => ?_
  have hpre : ∀ ys : List α, Has all off (lsB ys.length (ys.map e)) → Has all off (enc 4 (IntKind.i32.wrap ys.length)) := fun ys hh => hh.left
  rcases hq with ⟨x, ⟨hx1, hx2⟩, rfl, hhas, huniq, rfl, hS⟩ | ⟨rfl, hno, off', e', ⟨he', _⟩, hS⟩
  case inr =>
    have hbe : (e' == 0) = false := by simpa using he'
    (try simp only [eqlf_109, condF, o_chk, fa_94_1, Nat.zero_add, cv_21_3, o_lss])
    refine (rOpen Z hS).mono fun r w3 ⟨hr, hw⟩ => ?_
    subst hr; subst hw
    (try simp only [hbe, o_not, Bool.not_false, condT])
    exact .inr ⟨by first | rfl | trivial, fun ys hy _ ⟨h0, hh⟩ => hno _ (i32_range _) ⟨h0, hpre ys hh⟩, off', e', he', hS⟩
  rw [enc_length] at hS
  have hle4 := hhas.le hoff
  rw [enc_length] at hle4
  have hlen : ∀ ys : List α, ys.length ≤ most → Has all off (lsB ys.length (ys.map e)) → (ys.length : Int) = x := fun ys hy hh => by
    have := huniq _ (i32_range _) (hpre ys hh)
    rw [wr_i32 (by omega) (by omega)] at this
    exact this
  have hmi : (most : Int) ≤ 8 := by omega
  (try simp only [eqlf_109, condF, o_chk, fa_94_1, Nat.zero_add, cv_21_3, o_lss])
  rw [wr_i64 (x := x) (by omega) (by omega)]
  refine (rOpen Z hS).mono fun r w3 ⟨hr, hw⟩ => ?_
  subst hr; subst hw
  simp only [beq_self_eq_true]
  by_cases c1 : x < 0
  · (try simp only [c1, decide_true, o_pickT, condT, guardW_tf, o_not, Bool.not_true, condF])
    refine (rBack Z 11 hS hv hoff).mono fun r4 w4 hS => .inr ⟨by first | rfl | trivial, fun ys hy _ ⟨_, hh⟩ => ?_, off, 11, by omega, hS⟩
    have := hlen ys hy hh
    omega
  by_cases c2 : (most : Int) < x
  · (try simp only [c1, decide_false, o_pickF, guardW_ff, o_gtr, c2, decide_true, condT, o_not, Bool.not_true, condF])
    refine (rBack Z 11 hS hv hoff).mono fun r4 w4 hS => .inr ⟨by first | rfl | trivial, fun ys hy _ ⟨_, hh⟩ => ?_, off, 11, by omega, hS⟩
    have := hlen ys hy hh
    omega
  (try simp only [c1, decide_false, o_pickF, guardW_ff, o_gtr, c2, condF, o_not, Bool.not_true])
  obtain ⟨n, rfl⟩ : ∃ n : Nat, x = n := ⟨x.toNat, by omega⟩
  obtain ⟨v, hv5, ho5, hO⟩ := RdrAt.open hS
  refine r_load one22 (hO.at m0 1 rfl) ?_
  obtain ⟨av, cv, rfl, _⟩ := hv5
  by_cases c3 : ((all.length - (off + 4) : Nat) : Int) < (n : Int)
  · (try simp only [ln_22_3, o_gtr, c3, decide_true, condT])
    refine (rBack Z 10 hS hv hoff).mono fun r4 w4 hS => .inr ⟨by first | rfl | trivial, fun ys hy hys ⟨_, hh⟩ => ?_, off, 10, by omega, hS⟩
    have h3 := hlen ys hy hh
    have h4 := hh.right.le (by rw [enc_length]; omega)
    have h5 := flat_pos h1 ys hys
    rw [enc_length] at h4
    omega
  (try simp only [ln_22_3, o_gtr, c3, decide_false, condF])
  clear hO
  have hb0 : Has all off (enc 4 (IntKind.i32.wrap (n : Int))) := by rw [wr_i32 (by omega) (by omega)]; exact hhas
  refine ⟨fun m v y w' => ∃ (i : Nat) (xs : List α), y = .int .i64 i ∧ m + i = n ∧ xs.length = i ∧ (∀ x ∈ xs, ok x) ∧ Has all (off + 4) ((xs.map e).flatten) ∧
      (∀ ys : List α, ys.length ≤ most → (∀ y ∈ ys, ok y) → Has all off (lsB ys.length (ys.map e)) → (ys.take i).map κ = xs.map κ) ∧
      St o w' (RdrAt g B all (off + 4 + ((xs.map e).flatten).length) 0 :: own 103 2 v i (xs.map cells).flatten :: satH (xs.map Own) :: R),
    ⟨n, 0, [], rfl, rfl, rfl, by simp, ⟨_, rfl⟩, fun ys _ _ _ => rfl, ?_⟩, ?_⟩
  · have h0 : St o w3 (satH (([] : List α).map Own) :: R) → True := fun _ => trivial
    exact ((hS.emp.mono fun _ _ => (trivial : satH (([] : List α).map Own) _)).swap.put 0 |> fun hS => (((hS.swap).own_nil 103 2).pick 2))
  clear hS h
  rintro m v _ w4 ⟨i, xs, rfl, hi, hxl, hok, hhx, hux, hS⟩ _
  subst hxl
  by_cases hlt : (xs.length : Int) < (n : Int)
  · (try simp only [o_add, o_lss, hlt, decide_true, condT])
    refine r_callVal hf (l1 := first) (l2 := [_]) (l3 := []) rfl rfl rfl ?_
    refine (hE _ _ _ (List.mem_cons_of_mem _ (List.mem_cons_of_mem _ ho)) hS).mono fun r w5 hq => ?_
    rcases hq with ⟨x, hx, _, hh2, hu2, rfl, hcl, hon, hS⟩ | ⟨⟨zs, rfl, hcl, hon⟩, hno, off', e', he', hS⟩
    · refine r_alloc hS ze103 fun ge w6 hS => ?_
      refine r_storeN hS ag103 (xs := cells x) hcl (by rw [Nat.zero_add]; exact Nat.le_refl _) hon fun w7 hS => ?_
      rw [setL_all _ _ (by rw [hcl]; rfl)] at hS
      refine (rOpen Z hS.swap).mono fun r w8 ⟨hr, hw⟩ => ?_
      subst hr; subst hw
      simp only [beq_self_eq_true]
      (try simp only [o_not, Bool.not_true, condF])
      refine r_loadN ag103 (xs := cells x) hcl (hS.cells_at m0 0 (whole_at _)) ?_
      refine r_pushN el31 ((hS.drop).pick 2) (cells x) hcl hon (by omega) (by omega) (by simp only [maxLen]; omega) fun v' w9 hS => ?_
      skip
      rw [wr_i64 (x := (xs.length : Int) + 1) (by omega) (by omega)]
      refine ⟨m - 1, by omega, xs.length + 1, xs ++ [x], rfl, by omega, by simp, ?_, ?_, ?_, ?_⟩
      · intro y hy
        rcases List.mem_append.1 hy with hy | hy
        · exact hok y hy
        · rw [List.mem_singleton.1 hy]; exact hx
      · rw [List.map_append, List.flatten_append]
        exact Has.split.2 ⟨hhx, by simpa using hh2⟩
      · intro ys hy hys hh
        have hu := hux ys hy hys hh
        have h3 := hlen ys hy hh
        have hil : xs.length < ys.length := by omega
        obtain ⟨rest, hr⟩ := flat_split e ys xs.length hil
        have h6 := hh.right
        rw [hr, map_flat hκ _ _ hu, enc_length] at h6
        have h7 := hu2 _ (hys _ (List.getElem_mem hil)) h6.right.left
        rw [List.take_succ_eq_append_getElem hil, List.map_append, List.map_append, hu]
        simp [h7]
      · have hS := (((hS.pick 2).pick 3).all_snoc.swap).pick 2
        have e1 : ((xs ++ [x]).map e).flatten.length = ((xs.map e).flatten).length + (e x).length := by simp
        have e2 : ((xs ++ [x]).map cells).flatten = (xs.map cells).flatten ++ cells x := by simp
        have e3 : (xs ++ [x]).map Own = xs.map Own ++ [Own x] := by simp
        rw [e1, e2, e3, ← Nat.add_assoc]
        exact hS
    · refine r_alloc hS ze103 fun ge w6 hS => ?_
      refine r_storeN hS ag103 (xs := zs) hcl (by rw [Nat.zero_add]; exact Nat.le_refl _) hon fun w7 hS => ?_
      have hbe : (e' == 0) = false := by simpa using he'
      refine (rOpen Z hS.swap).mono fun r w8 ⟨hr, hw⟩ => ?_
      subst hr; subst hw
      (try simp only [hbe, o_not, Bool.not_false, condT])
      refine .inr ⟨by first | rfl | trivial, fun ys hy hys ⟨_, hh⟩ => ?_, off', e', he', (hS.drop.pick 0).put 0 |> fun hS => ((hS.swap.drop).swap.drop)⟩
      have hu := hux ys hy hys hh
      have h3 := hlen ys hy hh
      have hil : xs.length < ys.length := by omega
      obtain ⟨rest, hr⟩ := flat_split e ys xs.length hil
      have h6 := hh.right
      rw [hr, map_flat hκ _ _ hu, enc_length] at h6
      exact hno _ (hys _ (List.getElem_mem hil)) ⟨rfl, h6.right.left⟩
  · have hn : n = xs.length := by omega
    subst hn
    (try simp only [o_add, o_lss, hlt, decide_false, condF])
    refine .inl ⟨xs, by omega, hok, by first | rfl | trivial, Has.split.2 ⟨hb0, by rw [enc_length]; exact hhx⟩, fun ys hy hys hh => ?_, ?_⟩
    · have h3 := hlen ys hy hh
      have := hux ys hy hys hh
      rwa [List.take_of_length_le (by omega)] at this
    · rw [show off + (lsB xs.length (xs.map e)).length = off + 4 + ((xs.map e).flatten).length by rw [lsB, List.length_append, enc_length]; omega]
      exact hS
theorem gLEn {α β : Type} (e : α → List UInt8) (ok : α → Prop) (κ : α → β) (cells : α → List Value) (Own : α → HProp) (most : Nat) (hm : most ≤ 8) (f : FuncId) (first : List Value) (hf : ∀ args w, (callFunc f args).run Tryd.prog w = .ok (.enter f args) w)
    (h1 : ∀ x, ok x → 1 ≤ (e x).length) (hκ : ∀ x y, κ x = κ y → e x = e y) (hall : all.length ≤ 140737488355328) (ho : old o ∈ R)
    (hE : ∀ (w : World) (R' : List HProp) (off : Nat), old o ∈ R' → St o w (RdrAt g B all off 0 :: R') → CallV Tryd.prog Z f (first ++ [Value.pointer (some ⟨g, 0, none⟩)] ++ []).toArray w fun r w' => GetsE e ok κ cells Own 3 g B all off 0 o R' r w')
    (h : St o w (RdrAt g B all off err :: R)) :
    CallV Tryd.prog Z 71 #[.pointer (some ⟨g, 0, none⟩), .int .i64 most, .func (.func f) first.toArray #[]] w fun r w' => GetsL e ok κ cells Own 3 105 most g B all off err o R r w' := by
  have hoff := RdrAt.le h
  refine f71.calls ?_
  unfold f71.sh
  refine (rMark Z h).mono fun at_ w1 ⟨hv, hw⟩ => ?_
  subst hw
  refine (gInt32 Z h).mono fun r2 w2 hq => ?_
  have hpre : ∀ ys : List α, Has all off (lsB ys.length (ys.map e)) → Has all off (enc 4 (IntKind.i32.wrap ys.length)) := fun ys hh => hh.left
  rcases hq with ⟨x, ⟨hx1, hx2⟩, rfl, hhas, huniq, rfl, hS⟩ | ⟨rfl, hno, off', e', ⟨he', _⟩, hS⟩
  case inr =>
    have hbe : (e' == 0) = false := by simpa using he'
    (try simp only [eqlf_106, condF, o_chk, fa_94_1, Nat.zero_add, cv_21_3, o_lss])
    refine (rOpen Z hS).mono fun r w3 ⟨hr, hw⟩ => ?_
    subst hr; subst hw
    (try simp only [hbe, o_not, Bool.not_false, condT])
    exact .inr ⟨by first | rfl | trivial, fun ys hy _ ⟨h0, hh⟩ => hno _ (i32_range _) ⟨h0, hpre ys hh⟩, off', e', he', hS⟩
  rw [enc_length] at hS
  have hle4 := hhas.le hoff
  rw [enc_length] at hle4
  have hlen : ∀ ys : List α, ys.length ≤ most → Has all off (lsB ys.length (ys.map e)) → (ys.length : Int) = x := fun ys hy hh => by
    have := huniq _ (i32_range _) (hpre ys hh)
    rw [wr_i32 (by omega) (by omega)] at this
    exact this
  have hmi : (most : Int) ≤ 8 := by omega
  (try simp only [eqlf_106, condF, o_chk, fa_94_1, Nat.zero_add, cv_21_3, o_lss])
  rw [wr_i64 (x := x) (by omega) (by omega)]
  refine (rOpen Z hS).mono fun r w3 ⟨hr, hw⟩ => ?_
  subst hr; subst hw
  simp only [beq_self_eq_true]
  by_cases c1 : x < 0
  · (try simp only [c1, decide_true, o_pickT, condT, guardW_tf, o_not, Bool.not_true, condF])
    refine (rBack Z 11 hS hv hoff).mono fun r4 w4 hS => .inr ⟨by first | rfl | trivial, fun ys hy _ ⟨_, hh⟩ => ?_, off, 11, by omega, hS⟩
    have := hlen ys hy hh
    omega
  by_cases c2 : (most : Int) < x
  · (try simp only [c1, decide_false, o_pickF, guardW_ff, o_gtr, c2, decide_true, condT, o_not, Bool.not_true, condF])
    refine (rBack Z 11 hS hv hoff).mono fun r4 w4 hS => .inr ⟨by first | rfl | trivial, fun ys hy _ ⟨_, hh⟩ => ?_, off, 11, by omega, hS⟩
    have := hlen ys hy hh
    omega
  (try simp only [c1, decide_false, o_pickF, guardW_ff, o_gtr, c2, condF, o_not, Bool.not_true])
  obtain ⟨n, rfl⟩ : ∃ n : Nat, x = n := ⟨x.toNat, by omega⟩
  obtain ⟨v, hv5, ho5, hO⟩ := RdrAt.open hS
  refine r_load one22 (hO.at m0 1 rfl) ?_
  obtain ⟨av, cv, rfl, _⟩ := hv5
  by_cases c3 : ((all.length - (off + 4) : Nat) : Int) < (n : Int)
  · (try simp only [ln_22_3, o_gtr, c3, decide_true, condT])
    refine (rBack Z 10 hS hv hoff).mono fun r4 w4 hS => .inr ⟨by first | rfl | trivial, fun ys hy hys ⟨_, hh⟩ => ?_, off, 10, by omega, hS⟩
    have h3 := hlen ys hy hh
    have h4 := hh.right.le (by rw [enc_length]; omega)
    have h5 := flat_pos h1 ys hys
    rw [enc_length] at h4
    omega
  (try simp only [ln_22_3, o_gtr, c3, decide_false, condF])
  clear hO
  have hb0 : Has all off (enc 4 (IntKind.i32.wrap (n : Int))) := by rw [wr_i32 (by omega) (by omega)]; exact hhas
  refine ⟨fun m v y w' => ∃ (i : Nat) (xs : List α), y = .int .i64 i ∧ m + i = n ∧ xs.length = i ∧ (∀ x ∈ xs, ok x) ∧ Has all (off + 4) ((xs.map e).flatten) ∧
      (∀ ys : List α, ys.length ≤ most → (∀ y ∈ ys, ok y) → Has all off (lsB ys.length (ys.map e)) → (ys.take i).map κ = xs.map κ) ∧
      St o w' (RdrAt g B all (off + 4 + ((xs.map e).flatten).length) 0 :: own 105 3 v i (xs.map cells).flatten :: satH (xs.map Own) :: R),
    ⟨n, 0, [], rfl, rfl, rfl, by simp, ⟨_, rfl⟩, fun ys _ _ _ => rfl, ?_⟩, ?_⟩
  · have h0 : St o w3 (satH (([] : List α).map Own) :: R) → True := fun _ => trivial
    exact ((hS.emp.mono fun _ _ => (trivial : satH (([] : List α).map Own) _)).swap.put 0 |> fun hS => (((hS.swap).own_nil 105 3).pick 2))
  clear hS h
  rintro m v _ w4 ⟨i, xs, rfl, hi, hxl, hok, hhx, hux, hS⟩ _
  subst hxl
  by_cases hlt : (xs.length : Int) < (n : Int)
  · (try simp only [o_add, o_lss, hlt, decide_true, condT])
    refine r_callVal hf (l1 := first) (l2 := [_]) (l3 := []) rfl rfl rfl ?_
    refine (hE _ _ _ (List.mem_cons_of_mem _ (List.mem_cons_of_mem _ ho)) hS).mono fun r w5 hq => ?_
    rcases hq with ⟨x, hx, _, hh2, hu2, rfl, hcl, hon, hS⟩ | ⟨⟨zs, rfl, hcl, hon⟩, hno, off', e', he', hS⟩
    · refine r_alloc hS ze105 fun ge w6 hS => ?_
      refine r_storeN hS ag105 (xs := cells x) hcl (by rw [Nat.zero_add]; exact Nat.le_refl _) hon fun w7 hS => ?_
      rw [setL_all _ _ (by rw [hcl]; rfl)] at hS
      refine (rOpen Z hS.swap).mono fun r w8 ⟨hr, hw⟩ => ?_
      subst hr; subst hw
      simp only [beq_self_eq_true]
      (try simp only [o_not, Bool.not_true, condF])
      refine r_loadN ag105 (xs := cells x) hcl (hS.cells_at m0 0 (whole_at _)) ?_
      refine r_pushN el30 ((hS.drop).pick 2) (cells x) hcl hon (by omega) (by omega) (by simp only [maxLen]; omega) fun v' w9 hS => ?_
      skip
      rw [wr_i64 (x := (xs.length : Int) + 1) (by omega) (by omega)]
      refine ⟨m - 1, by omega, xs.length + 1, xs ++ [x], rfl, by omega, by simp, ?_, ?_, ?_, ?_⟩
      · intro y hy
        rcases List.mem_append.1 hy with hy | hy
        · exact hok y hy
        · rw [List.mem_singleton.1 hy]; exact hx
      · rw [List.map_append, List.flatten_append]
        exact Has.split.2 ⟨hhx, by simpa using hh2⟩
      · intro ys hy hys hh
        have hu := hux ys hy hys hh
        have h3 := hlen ys hy hh
        have hil : xs.length < ys.length := by omega
        obtain ⟨rest, hr⟩ := flat_split e ys xs.length hil
        have h6 := hh.right
        rw [hr, map_flat hκ _ _ hu, enc_length] at h6
        have h7 := hu2 _ (hys _ (List.getElem_mem hil)) h6.right.left
        rw [List.take_succ_eq_append_getElem hil, List.map_append, List.map_append, hu]
        simp [h7]
      · have hS := (((hS.pick 2).pick 3).all_snoc.swap).pick 2
        have e1 : ((xs ++ [x]).map e).flatten.length = ((xs.map e).flatten).length + (e x).length := by simp
        have e2 : ((xs ++ [x]).map cells).flatten = (xs.map cells).flatten ++ cells x := by simp
        have e3 : (xs ++ [x]).map Own = xs.map Own ++ [Own x] := by simp
        rw [e1, e2, e3, ← Nat.add_assoc]
        exact hS
    · refine r_alloc hS ze105 fun ge w6 hS => ?_
      refine r_storeN hS ag105 (xs := zs) hcl (by rw [Nat.zero_add]; exact Nat.le_refl _) hon fun w7 hS => ?_
      have hbe : (e' == 0) = false := by simpa using he'
      refine (rOpen Z hS.swap).mono fun r w8 ⟨hr, hw⟩ => ?_
      subst hr; subst hw
      (try simp only [hbe, o_not, Bool.not_false, condT])
      refine .inr ⟨by first | rfl | trivial, fun ys hy hys ⟨_, hh⟩ => ?_, off', e', he', (hS.drop.pick 0).put 0 |> fun hS => ((hS.swap.drop).swap.drop)⟩
      have hu := hux ys hy hys hh
      have h3 := hlen ys hy hh
      have hil : xs.length < ys.length := by omega
      obtain ⟨rest, hr⟩ := flat_split e ys xs.length hil
      have h6 := hh.right
      rw [hr, map_flat hκ _ _ hu, enc_length] at h6
      exact hno _ (hys _ (List.getElem_mem hil)) ⟨rfl, h6.right.left⟩
  · have hn : n = xs.length := by omega
    subst hn
    (try simp only [o_add, o_lss, hlt, decide_false, condF])
    refine .inl ⟨xs, by omega, hok, by first | rfl | trivial, Has.split.2 ⟨hb0, by rw [enc_length]; exact hhx⟩, fun ys hy hys hh => ?_, ?_⟩
    · have h3 := hlen ys hy hh
      have := hux ys hy hys hh
      rwa [List.take_of_length_le (by omega)] at this
    · rw [show off + (lsB xs.length (xs.map e)).length = off + 4 + ((xs.map e).flatten).length by rw [lsB, List.length_append, enc_length]; omega]
      exact hS
theorem gLRq {α β : Type} (e : α → List UInt8) (ok : α → Prop) (κ : α → β) (cells : α → List Value) (Own : α → HProp) (most : Nat) (hm : most ≤ 8) (f : FuncId) (first : List Value) (hf : ∀ args w, (callFunc f args).run Tryd.prog w = .ok (.enter f args) w)
    (h1 : ∀ x, ok x → 1 ≤ (e x).length) (hκ : ∀ x y, κ x = κ y → e x = e y) (hall : all.length ≤ 140737488355328) (ho : old o ∈ R)
    (hE : ∀ (w : World) (R' : List HProp) (off : Nat), old o ∈ R' → St o w (RdrAt g B all off 0 :: R') → CallV Tryd.prog Z f (first ++ [Value.pointer (some ⟨g, 0, none⟩)] ++ []).toArray w fun r w' => GetsE e ok κ cells Own 11 g B all off 0 o R' r w')
    (h : St o w (RdrAt g B all off err :: R)) :
    CallV Tryd.prog Z 77 #[.pointer (some ⟨g, 0, none⟩), .int .i64 most, .func (.func f) first.toArray #[]] w fun r w' => GetsL e ok κ cells Own 11 34 most g B all off err o R r w' := by
  have hoff := RdrAt.le h
  refine f77.calls ?_
  unfold f77.sh
  refine (rMark Z h).mono fun at_ w1 ⟨hv, hw⟩ => ?_
  subst hw
  refine (gInt32 Z h).mono fun r2 w2 hq => ?_
  have hpre : ∀ ys : List α, Has all off (lsB ys.length (ys.map e)) → Has all off (enc 4 (IntKind.i32.wrap ys.length)) := fun ys hh => hh.left
  rcases hq with ⟨x, ⟨hx1, hx2⟩, rfl, hhas, huniq, rfl, hS⟩ | ⟨rfl, hno, off', e', ⟨he', _⟩, hS⟩
  case inr =>
    have hbe : (e' == 0) = false := by simpa using he'
    (try simp only [eqlf_72, condF, o_chk, fa_94_1, Nat.zero_add, cv_21_3, o_lss])
    refine (rOpen Z hS).mono fun r w3 ⟨hr, hw⟩ => ?_
    subst hr; subst hw
    (try simp only [hbe, o_not, Bool.not_false, condT])
    exact .inr ⟨by first | rfl | trivial, fun ys hy _ ⟨h0, hh⟩ => hno _ (i32_range _) ⟨h0, hpre ys hh⟩, off', e', he', hS⟩
  rw [enc_length] at hS
  have hle4 := hhas.le hoff
  rw [enc_length] at hle4
  have hlen : ∀ ys : List α, ys.length ≤ most → Has all off (lsB ys.length (ys.map e)) → (ys.length : Int) = x := fun ys hy hh => by
    have := huniq _ (i32_range _) (hpre ys hh)
    rw [wr_i32 (by omega) (by omega)] at this
    exact this
  have hmi : (most : Int) ≤ 8 := by omega
  (try simp only [eqlf_72, condF, o_chk, fa_94_1, Nat.zero_add, cv_21_3, o_lss])
  rw [wr_i64 (x := x) (by omega) (by omega)]
  refine (rOpen Z hS).mono fun r w3 ⟨hr, hw⟩ => ?_
  subst hr; subst hw
  simp only [beq_self_eq_true]
  by_cases c1 : x < 0
  · (try simp only [c1, decide_true, o_pickT, condT, guardW_tf, o_not, Bool.not_true, condF])
    refine (rBack Z 11 hS hv hoff).mono fun r4 w4 hS => .inr ⟨by first | rfl | trivial, fun ys hy _ ⟨_, hh⟩ => ?_, off, 11, by omega, hS⟩
    have := hlen ys hy hh
    omega
  by_cases c2 : (most : Int) < x
  · (try simp only [c1, decide_false, o_pickF, guardW_ff, o_gtr, c2, decide_true, condT, o_not, Bool.not_true, condF])
    refine (rBack Z 11 hS hv hoff).mono fun r4 w4 hS => .inr ⟨by first | rfl | trivial, fun ys hy _ ⟨_, hh⟩ => ?_, off, 11, by omega, hS⟩
    have := hlen ys hy hh
    omega
  (try simp only [c1, decide_false, o_pickF, guardW_ff, o_gtr, c2, condF, o_not, Bool.not_true])
  obtain ⟨n, rfl⟩ : ∃ n : Nat, x = n := ⟨x.toNat, by omega⟩
  obtain ⟨v, hv5, ho5, hO⟩ := RdrAt.open hS
  refine r_load one22 (hO.at m0 1 rfl) ?_
  obtain ⟨av, cv, rfl, _⟩ := hv5
  by_cases c3 : ((all.length - (off + 4) : Nat) : Int) < (n : Int)
  · (try simp only [ln_22_3, o_gtr, c3, decide_true, condT])
    refine (rBack Z 10 hS hv hoff).mono fun r4 w4 hS => .inr ⟨by first | rfl | trivial, fun ys hy hys ⟨_, hh⟩ => ?_, off, 10, by omega, hS⟩
    have h3 := hlen ys hy hh
    have h4 := hh.right.le (by rw [enc_length]; omega)
    have h5 := flat_pos h1 ys hys
    rw [enc_length] at h4
    omega
  (try simp only [ln_22_3, o_gtr, c3, decide_false, condF])
  clear hO
  have hb0 : Has all off (enc 4 (IntKind.i32.wrap (n : Int))) := by rw [wr_i32 (by omega) (by omega)]; exact hhas
  refine ⟨fun m v y w' => ∃ (i : Nat) (xs : List α), y = .int .i64 i ∧ m + i = n ∧ xs.length = i ∧ (∀ x ∈ xs, ok x) ∧ Has all (off + 4) ((xs.map e).flatten) ∧
      (∀ ys : List α, ys.length ≤ most → (∀ y ∈ ys, ok y) → Has all off (lsB ys.length (ys.map e)) → (ys.take i).map κ = xs.map κ) ∧
      St o w' (RdrAt g B all (off + 4 + ((xs.map e).flatten).length) 0 :: own 34 11 v i (xs.map cells).flatten :: satH (xs.map Own) :: R),
    ⟨n, 0, [], rfl, rfl, rfl, by simp, ⟨_, rfl⟩, fun ys _ _ _ => rfl, ?_⟩, ?_⟩
  · have h0 : St o w3 (satH (([] : List α).map Own) :: R) → True := fun _ => trivial
    exact ((hS.emp.mono fun _ _ => (trivial : satH (([] : List α).map Own) _)).swap.put 0 |> fun hS => (((hS.swap).own_nil 34 11).pick 2))
  clear hS h
  rintro m v _ w4 ⟨i, xs, rfl, hi, hxl, hok, hhx, hux, hS⟩ _
  subst hxl
  by_cases hlt : (xs.length : Int) < (n : Int)
  · (try simp only [o_add, o_lss, hlt, decide_true, condT])
    refine r_callVal hf (l1 := first) (l2 := [_]) (l3 := []) rfl rfl rfl ?_
    refine (hE _ _ _ (List.mem_cons_of_mem _ (List.mem_cons_of_mem _ ho)) hS).mono fun r w5 hq => ?_
    rcases hq with ⟨x, hx, _, hh2, hu2, rfl, hcl, hon, hS⟩ | ⟨⟨zs, rfl, hcl, hon⟩, hno, off', e', he', hS⟩
    · refine r_alloc hS ze34 fun ge w6 hS => ?_
      refine r_storeN hS ag34 (xs := cells x) hcl (by rw [Nat.zero_add]; exact Nat.le_refl _) hon fun w7 hS => ?_
      rw [setL_all _ _ (by rw [hcl]; rfl)] at hS
      refine (rOpen Z hS.swap).mono fun r w8 ⟨hr, hw⟩ => ?_
      subst hr; subst hw
      simp only [beq_self_eq_true]
      (try simp only [o_not, Bool.not_true, condF])
      refine r_loadN ag34 (xs := cells x) hcl (hS.cells_at m0 0 (whole_at _)) ?_
      refine r_pushN el32 ((hS.drop).pick 2) (cells x) hcl hon (by omega) (by omega) (by simp only [maxLen]; omega) fun v' w9 hS => ?_
      skip
      rw [wr_i64 (x := (xs.length : Int) + 1) (by omega) (by omega)]
      refine ⟨m - 1, by omega, xs.length + 1, xs ++ [x], rfl, by omega, by simp, ?_, ?_, ?_, ?_⟩
      · intro y hy
        rcases List.mem_append.1 hy with hy | hy
        · exact hok y hy
        · rw [List.mem_singleton.1 hy]; exact hx
      · rw [List.map_append, List.flatten_append]
        exact Has.split.2 ⟨hhx, by simpa using hh2⟩
      · intro ys hy hys hh
        have hu := hux ys hy hys hh
        have h3 := hlen ys hy hh
        have hil : xs.length < ys.length := by omega
        obtain ⟨rest, hr⟩ := flat_split e ys xs.length hil
        have h6 := hh.right
        rw [hr, map_flat hκ _ _ hu, enc_length] at h6
        have h7 := hu2 _ (hys _ (List.getElem_mem hil)) h6.right.left
        rw [List.take_succ_eq_append_getElem hil, List.map_append, List.map_append, hu]
        simp [h7]
      · have hS := (((hS.pick 2).pick 3).all_snoc.swap).pick 2
        have e1 : ((xs ++ [x]).map e).flatten.length = ((xs.map e).flatten).length + (e x).length := by simp
        have e2 : ((xs ++ [x]).map cells).flatten = (xs.map cells).flatten ++ cells x := by simp
        have e3 : (xs ++ [x]).map Own = xs.map Own ++ [Own x] := by simp
        rw [e1, e2, e3, ← Nat.add_assoc]
        exact hS
    · refine r_alloc hS ze34 fun ge w6 hS => ?_
      refine r_storeN hS ag34 (xs := zs) hcl (by rw [Nat.zero_add]; exact Nat.le_refl _) hon fun w7 hS => ?_
      have hbe : (e' == 0) = false := by simpa using he'
      refine (rOpen Z hS.swap).mono fun r w8 ⟨hr, hw⟩ => ?_
      subst hr; subst hw
      (try simp only [hbe, o_not, Bool.not_false, condT])
      refine .inr ⟨by first | rfl | trivial, fun ys hy hys ⟨_, hh⟩ => ?_, off', e', he', (hS.drop.pick 0).put 0 |> fun hS => ((hS.swap.drop).swap.drop)⟩
      have hu := hux ys hy hys hh
      have h3 := hlen ys hy hh
      have hil : xs.length < ys.length := by omega
      obtain ⟨rest, hr⟩ := flat_split e ys xs.length hil
      have h6 := hh.right
      rw [hr, map_flat hκ _ _ hu, enc_length] at h6
      exact hno _ (hys _ (List.getElem_mem hil)) ⟨rfl, h6.right.left⟩
  · have hn : n = xs.length := by omega
    subst hn
    (try simp only [o_add, o_lss, hlt, decide_false, condF])
    refine .inl ⟨xs, by omega, hok, by first | rfl | trivial, Has.split.2 ⟨hb0, by rw [enc_length]; exact hhx⟩, fun ys hy hys hh => ?_, ?_⟩
    · have h3 := hlen ys hy hh
      have := hux ys hy hys hh
      rwa [List.take_of_length_le (by omega)] at this
    · rw [show off + (lsB xs.length (xs.map e)).length = off + 4 + ((xs.map e).flatten).length by rw [lsB, List.length_append, enc_length]; omega]
      exact hS
end
end Go.Proofs.YtfjolpjlajjigaaDoor

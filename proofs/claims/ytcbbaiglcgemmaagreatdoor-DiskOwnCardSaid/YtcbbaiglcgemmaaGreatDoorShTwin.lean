/- Rows that are grown while the shorter ones are still looked at; lists of rows. Nothing of any one program stands here. -/
import Derived.Test.YtcbbaiglcgemmaaGreatDoorShOpen
namespace Go.Sh
open Go.RowKit
def rep (n : Nat) (c : List Value) : List Value := (List.replicate n c).flatten
theorem rep_succ (n : Nat) (c : List Value) : rep (n + 1) c = rep n c ++ c := by
  unfold rep
  rw [List.replicate_succ', List.flatten_append]
  simp
theorem rep_add (n m : Nat) (c : List Value) : rep (n + m) c = rep n c ++ rep m c := by
  unfold rep
  rw [← List.replicate_append_replicate, List.flatten_append]
theorem rep_len (n : Nat) (c : List Value) : (rep n c).length = n * c.length := by
  induction n with
  | zero => simp [rep]
  | succ n ih => rw [rep_succ, List.length_append, ih, Nat.succ_mul]
theorem rep_at {n : Nat} {c rest : List Value} {i : Nat} (h : i < n) : (((rep n c) ++ rest).drop (i * c.length)).take c.length = c := by
  have e : rep n c = rep i c ++ (c ++ rep (n - i - 1) c) := by
    have h1 : n = i + (1 + (n - i - 1)) := by omega
    conv => lhs; rw [h1]
    rw [rep_add, rep_add]
    congr 2
    simp [rep]
  rw [e, List.append_assoc, ← rep_len i c, List.drop_left, List.append_assoc, List.take_left]
theorem rep_at2 {n m : Nat} {c d : List Value} {i : Nat} (hc : d.length = c.length) (h : n ≤ i) (hi : i < n + m) : (((rep n c) ++ rep m d).drop (i * c.length)).take c.length = d := by
  have e : i * c.length = (rep n c).length + (i - n) * d.length := by
    rw [rep_len, hc, ← Nat.add_mul]
    congr 1
    omega
  rw [e, ← List.drop_drop, List.drop_left]
  have := rep_at (n := m) (c := d) (rest := []) (i := i - n) (by omega)
  rw [List.append_nil] at this
  rw [← hc]
  exact this
section
variable {P : Program} {Z : List PanicEntry → World → Prop} {o w w' : World} {kk : Value → World → Prop} {R As : List HProp} {t tx e ty : TypeId} {sz bt n m k : Nat} {z v v2 x : Value} {xs ys us : List Value}
theorem r_append2 (hel : El P t e sz bt z) (h : St o w (own e sz v n xs :: R)) (hs : Src P sz tx x m ys w) (hb : (n + m) * bt ≤ 140737488355328) (hm : n + m ≤ maxLen)
    (hk : ∀ v' w', ((∃ g cap rest, v = .slice (some ⟨g, 0, none⟩) n cap ∧ v' = .slice (some ⟨g, 0, none⟩) (n + m) cap ∧ n + m ≤ cap ∧ cap ≤ maxLen ∧ (xs ++ ys ++ rest).length = cap * sz ∧ St o w' (blk g e (xs ++ ys ++ rest) :: R)) ∨ St o w' (own e sz v' (n + m) (xs ++ ys) :: own e sz v n xs :: R)) → kk v' w') :
    run1 P Z (Builtin.append_ #[t, tx] ty #[v, x]) w kk := by
  obtain ⟨i, hi, rfl, rfl, hz⟩ := hel.info
  obtain ⟨hl, hv⟩ := h.own_open
  have hyl := hs.newsLen
  have hm63 : ((n + m : Nat) : Int) ≤ 9223372036854775807 := by simp only [maxLen] at hm; omega
  have hlen : (xs ++ ys).length = (n + m) * i.size := by rw [List.length_append, hl, hyl, Nat.add_mul]
  have grown : ∀ (base : Option Addr) (cap : Nat), v = .slice base n cap → cap < n + m → (Builtin.firstCells i.size n (.slice base n cap)).run P w.drew = .ok xs.toArray w.drew → run1 P Z (Builtin.append_ #[t, tx] ty #[v, x]) w kk := by
    intro base cap hv hlt hold
    subst hv
    have hrun := run_append_grow_src (P := P) w t tx ty e i z hel.ht hi hz base n cap xs hold x m ys hs hlt hm63 (nextcap_bound _ _ _ hlt hb)
    refine r1 hrun (hk _ _ (.inr ?_))
    have hge := grownCap_ge w (n + m) cap e
    have hle := grownCap_le_maxLen w (n + m) cap e hm
    have ha := (h.drew (drawn_drew w)).alloc e ((xs ++ ys) ++ (Builtin.zeroCells z.cells (grownCap w (n + m) cap e - (n + m))).toList)
    have hbk : ((xs ++ ys) ++ (Builtin.zeroCells z.cells (grownCap w (n + m) cap e - (n + m))).toList).toArray = (xs ++ ys).toArray ++ Builtin.zeroCells z.cells (grownCap w (n + m) cap e - (n + m)) := by
      apply Array.ext'; simp
    rw [hbk] at ha
    have hcl : ((xs ++ ys) ++ (Builtin.zeroCells z.cells (grownCap w (n + m) cap e - (n + m))).toList).length = grownCap w (n + m) cap e * i.size := by
      rw [List.length_append, hlen, Array.length_toList, size_zeroCells, hel.hz, ← Nat.add_mul]
      congr 1; omega
    have hmk := ha.own_mk (sz := i.size) (n + m) hge hle hcl
    rw [← hlen, List.take_left'] at hmk
    · exact hmk
    · rfl
  rcases hv with ⟨rfl, rfl, hR⟩ | ⟨g, cap, rest, rfl, h1, h2, h3, hB⟩
  · obtain rfl : xs = [] := List.eq_nil_of_length_eq_zero (by simpa using hl)
    rcases Nat.eq_zero_or_pos m with rfl | hmp
    · obtain rfl : ys = [] := List.eq_nil_of_length_eq_zero (by simpa using hyl)
      exact r1 (run_append_nothing w t tx ty e i hel.ht hi none 0 0 (Nat.le_refl _) x hs) (hk _ _ (.inr (h.own_nil e i.size)))
    · exact grown none 0 rfl (by omega) (by simpa using run_firstCells_none w.drew i.size 0 0 0)
  · by_cases hroom : n + m ≤ cap
    · have hcells := hB.head_blk
      have hrest : ys.length ≤ rest.length := by
        have : (n + m) * i.size ≤ cap * i.size := Nat.mul_le_mul_right _ hroom
        rw [List.length_append] at h3 hlen
        omega
      have hrun := run_append_room_src (P := P) w t tx ty e i hel.ht hi g 0 n cap x m ys hs hroom (fun j hj => by
          rw [cell_of_blk hcells]
          have : 0 + n * i.size + j < (xs ++ rest).length := by rw [List.length_append, hl]; omega
          rw [List.getElem?_eq_getElem this]; rfl) (fun j hj => frozen_of_blk hcells _ (by rw [List.length_append, hl]; omega))
      refine r1 hrun (hk _ _ (.inl ⟨g, cap, rest.drop ys.length, rfl, rfl, hroom, h2, ?_, ?_⟩))
      · rw [List.length_append, List.length_drop]
        rw [List.length_append] at h3 ⊢
        omega
      · have hset := hB.setCells ys (0 + n * i.size)
        rw [Nat.zero_add, ← hl, setL_append xs ys rest hrest, ← List.append_assoc] at hset
        rw [Nat.zero_add, ← hl]
        exact hset
    · refine grown _ cap rfl (by omega) ?_
      have hcells := hB.head_blk
      refine run_firstCells_some w.drew i.size n _ n cap xs hl fun j u hu => ?_
      have : w.drew.cell? ((⟨g, 0, none⟩ : Addr).add j) = w.cell? ((⟨g, 0, none⟩ : Addr).add j) := rfl
      rw [this, add_addr, Nat.zero_add, cell_of_blk hcells, List.getElem?_append_left (List.getElem?_eq_some_iff.1 hu).1]
      exact hu
def twin (e : TypeId) (sz : Nat) (v : Value) (n : Nat) (m : Value) (k : Nat) (xs ys : List Value) : HProp := fun h =>
  (xs.length = n * sz ∧ ys.length = k * sz ∧ ∃ g cap rest, v = .slice (some ⟨g, 0, none⟩) n cap ∧ m = .slice (some ⟨g, 0, none⟩) (n + k) cap ∧ n + k ≤ cap ∧ cap ≤ maxLen ∧ (xs ++ ys ++ rest).length = cap * sz ∧ blk g e (xs ++ ys ++ rest) h) ∨ sep (own e sz m (n + k) (xs ++ ys)) (own e sz v n xs) h
theorem St.twin_open {m : Value} (h : St o w (twin e sz v n m k xs ys :: R)) :
    (xs.length = n * sz ∧ ys.length = k * sz ∧ ∃ g cap rest, v = .slice (some ⟨g, 0, none⟩) n cap ∧ m = .slice (some ⟨g, 0, none⟩) (n + k) cap ∧ n + k ≤ cap ∧ cap ≤ maxLen ∧ (xs ++ ys ++ rest).length = cap * sz ∧ St o w (blk g e (xs ++ ys ++ rest) :: R)) ∨ St o w (own e sz m (n + k) (xs ++ ys) :: own e sz v n xs :: R) := by
  obtain ⟨h1, h2, h3, h4, S, hA, hR⟩ := h
  rcases hA with ⟨e1, e2, g, cap, rest, a1, a2, a3, a4, a5, hb⟩ | hA
  · exact .inl ⟨e1, e2, g, cap, rest, a1, a2, a3, a4, a5, h1, h2, h3, h4, S, hb, hR⟩
  · have : St o w (Sh.sep (own e sz m (n + k) (xs ++ ys)) (own e sz v n xs) :: R) := ⟨h1, h2, h3, h4, S, hA, hR⟩
    exact .inr this.sep
theorem St.twin_start (h : St o w (own e sz v n xs :: R)) : St o w (twin e sz v n v 0 xs [] :: R) := by
  obtain ⟨hl, ⟨rfl, rfl, hR⟩ | ⟨g, cap, rest, rfl, a1, a2, a3, hB⟩⟩ := h.own_open
  · obtain rfl : xs = [] := List.eq_nil_of_length_eq_zero (by simpa using hl)
    exact ((h.own_nil e sz).sep_intro).mono fun _ hx => .inr hx
  · refine hB.mono fun _ hx => .inl ⟨hl, by simp, g, cap, rest, rfl, rfl, a1, a2, ?_, ?_⟩
    · rw [List.append_nil]; exact a3
    · rw [List.append_nil]; exact hx
theorem rd_of_own {S : Nat → Prop} (h : own e sz v n xs ((hp w).on S)) : Rd w sz v n xs := by
  obtain ⟨hl, hA⟩ := h
  rcases hA with ⟨rfl, rfl⟩ | ⟨g, cap, rest, rfl, a1, a2, a3, a4⟩
  · exact ⟨hl, by unfold maxLen; omega, .inl ⟨0, rfl, rfl⟩⟩
  · refine ⟨hl, Nat.le_trans a1 a2, .inr ⟨_, cap, rfl, fun j u hu => ?_⟩⟩
    have hb : ob e (xs ++ rest) w.heap[g]? := (blk_on a4).1
    rw [add_addr, Nat.zero_add, cell_of_blk hb]
    rw [List.getElem?_append_left (List.getElem?_eq_some_iff.1 hu).1]
    exact hu
theorem rd_of_twin {m : Value} {S : Nat → Prop} (h : twin e sz v n m k xs ys ((hp w).on S)) : Rd w sz v n xs ∧ Rd w sz m (n + k) (xs ++ ys) := by
  rcases h with ⟨e1, e2, g, cap, rest, rfl, rfl, a3, a4, a5, hb⟩ | ⟨T, h1, h2⟩
  · have hb : ob e (xs ++ ys ++ rest) w.heap[g]? := (blk_on hb).1
    refine ⟨⟨e1, by omega, .inr ⟨_, cap, rfl, fun j u hu => ?_⟩⟩, ⟨by rw [List.length_append, e1, e2, Nat.add_mul], by omega, .inr ⟨_, cap, rfl, fun j u hu => ?_⟩⟩⟩
    · rw [add_addr, Nat.zero_add, cell_of_blk hb, List.append_assoc, List.getElem?_append_left (List.getElem?_eq_some_iff.1 hu).1]
      exact hu
    · rw [add_addr, Nat.zero_add, cell_of_blk hb, List.getElem?_append_left (List.getElem?_eq_some_iff.1 hu).1]
      exact hu
  · rw [Hp.on_on] at h1 h2
    exact ⟨rd_of_own h2, rd_of_own h1⟩
theorem r_twin {mv : Value} {j : Nat} (hel : El P t e sz bt z) (h : St o w (twin e sz v n mv k xs ys :: R)) (hs : Src P sz tx x j us w) (hb : (n + k + j) * bt ≤ 140737488355328) (hm : n + k + j ≤ maxLen)
    (hk : ∀ v' w', St o w' (twin e sz v n v' (k + j) xs (ys ++ us) :: R) → kk v' w') : run1 P Z (Builtin.append_ #[t, tx] ty #[mv, x]) w kk := by
  have hul := hs.newsLen
  have two : ∀ (v' : Value) (w' : World), St o w' (own e sz v' (n + k + j) (xs ++ ys ++ us) :: own e sz v n xs :: R) → kk v' w' := fun v' w' hS => by
    refine hk v' w' (hS.sep_intro.mono fun _ hx => .inr ?_)
    rw [← Nat.add_assoc, ← List.append_assoc]
    exact hx
  rcases h.twin_open with ⟨e1, e2, g, cap, rest, rfl, rfl, a3, a4, a5, hB⟩ | h
  · have hown : St o w (own e sz (.slice (some ⟨g, 0, none⟩) (n + k) cap) (n + k) (xs ++ ys) :: R) := hB.mono fun _ hx => ⟨by rw [List.length_append, e1, e2, Nat.add_mul], .inr ⟨g, cap, rest, rfl, a3, a4, a5, hx⟩⟩
    refine r_append2 hel hown hs hb hm fun v' w' hS => ?_
    rcases hS with ⟨g', cap', rest', q1, rfl, q3, q4, q5, hS⟩ | hS
    · injection q1 with q1 _ q2
      injection q1 with q1
      injection q1 with q1
      subst q1; subst q2
      refine hk _ w' (hS.mono fun _ hx => .inl ⟨e1, ?_, g, cap, rest', rfl, ?_, ?_, q4, ?_, ?_⟩)
      · rw [List.length_append, e2, hul, Nat.add_mul]
      · rw [Nat.add_assoc]
      · omega
      · rw [← List.append_assoc]; exact q5
      · rw [← List.append_assoc]; exact hx
    · refine two v' w' (hS.swap.mono (B := own e sz (.slice (some ⟨g, 0, none⟩) n cap) n xs) fun _ hx => ?_).swap
      obtain ⟨b1, hx⟩ := hx
      refine ⟨e1, .inr ?_⟩
      rcases hx with ⟨c1, _⟩ | ⟨g', cap', rest', c1, c2, c3, c4, c5⟩
      · cases c1
      · injection c1 with c1 _ c6
        injection c1 with c1
        injection c1 with c1
        subst c1; subst c6
        exact ⟨g, cap, ys ++ rest', rfl, by omega, c3, by rw [← List.append_assoc]; exact c4, by rw [← List.append_assoc]; exact c5⟩
  · refine r_append2 hel h hs hb hm fun v' w' hS => ?_
    rcases hS with ⟨g', cap', rest', q1, rfl, q3, q4, q5, hS⟩ | hS
    · refine two _ w' (hS.mono fun _ hx => ⟨?_, .inr ⟨g', cap', rest', rfl, q3, q4, q5, hx⟩⟩)
      have := (h.own_open).1
      rw [List.length_append, this, hul, ← Nat.add_mul]
    · exact two _ w' (hS.pick 1).drop
theorem St.all_cons {A : HProp} {As : List HProp} (h : St o w (satH (A :: As) :: R)) : St o w (A :: satH As :: R) := (show St o w (Sh.sep A (satH As) :: R) from h).sep
theorem St.all_cons_in {A : HProp} {As : List HProp} (h : St o w (A :: satH As :: R)) : St o w (satH (A :: As) :: R) := (show St o w (Sh.sep A (satH As) :: R) from h.sep_intro)
theorem St.in_all {A : HProp} {As Bs : List HProp} (h : St o w Bs) (hm : satH As ∈ Bs) (hA : A ∈ As) : ∃ S, A ((hp w).on S) := by
  obtain ⟨S, hS⟩ := satH_mem hm h.sat
  obtain ⟨T, hT⟩ := satH_mem hA hS
  rw [Hp.on_on] at hT
  exact ⟨_, hT⟩
theorem St.all_snoc' {As : List HProp} {A B : HProp} (h : St o w (satH As :: A :: R)) (hA : ∀ x, A x → B x) : St o w (satH (As ++ [B]) :: R) := (h.swap.mono hA).swap.all_snoc
theorem St.all_append {As Bs : List HProp} (h : St o w (satH (As ++ Bs) :: R)) : St o w (satH As :: satH Bs :: R) := by
  have h1 := h.all
  rw [List.append_assoc] at h1
  exact (St.all_intro (As := Bs) (R := satH As :: R) ((St.all_intro h1).perm List.perm_middle.symm)).swap
theorem St.all_join {As Bs : List HProp} (h : St o w (satH As :: satH Bs :: R)) : St o w (satH (As ++ Bs) :: R) := by
  have h1 := (h.all.perm List.perm_middle).all
  refine St.all_intro ?_
  rw [List.append_assoc]
  exact h1.perm (List.perm_append_comm_assoc Bs As R)
theorem satH_mono {As Bs : List HProp} (hl : As.length = Bs.length) (h : ∀ i (h1 : i < As.length) (h2 : i < Bs.length) x, As[i] x → Bs[i] x) : ∀ x, satH As x → satH Bs x := by
  induction As generalizing Bs with
  | nil =>
    cases Bs with
    | nil => exact fun _ hx => hx
    | cons _ _ => simp at hl
  | cons A As ih =>
    cases Bs with
    | nil => simp at hl
    | cons B Bs =>
      refine fun x hx => satH_cons (fun y hy => h 0 (by simp) (by simp) y hy) (fun y hy => ih (by simpa using hl) (fun i h1 h2 z hz => ?_) y hy) hx
      have := h (i + 1) (by simpa using h1) (by simpa using h2) z
      simpa using this hz
theorem own_on {S : Nat → Prop} {h : Hp} (ho : own e sz v n xs (h.on S)) : own e sz v n xs h := by
  obtain ⟨hl, hA⟩ := ho
  refine ⟨hl, ?_⟩
  rcases hA with hA | ⟨g, cap, rest, a1, a2, a3, a4, a5⟩
  · exact .inl hA
  · exact .inr ⟨g, cap, rest, a1, a2, a3, a4, (blk_on a5).1⟩
theorem own_of_twin {m : Value} {h : Hp} (ht : twin e sz v n m k xs ys h) : own e sz v n xs h := by
  rcases ht with ⟨e1, e2, g, cap, rest, rfl, rfl, a3, a4, a5, hb⟩ | ⟨S, _, h2⟩
  · refine ⟨e1, .inr ⟨g, cap, ys ++ rest, rfl, by omega, a4, ?_, ?_⟩⟩
    · rw [← List.append_assoc]; exact a5
    · rw [← List.append_assoc]; exact hb
  · exact own_on h2
def rowX (e : TypeId) (sz bt : Nat) (p : Value × Nat) : HProp := fun h => p.2 * bt ≤ 140737488351232 ∧ ∃ xs, own e sz p.1 p.2 xs h
def rowM (e : TypeId) (sz bt : Nat) (mk : Nat → List Value) (x : (Value × Nat) × Nat) : HProp := fun h => x.1.2 * bt ≤ 140737488351232 ∧ own e sz x.1.1 x.1.2 (rep x.1.2 (mk x.2)) h
def pairM (e : TypeId) (sz bt : Nat) (mk mk' : Nat → List Value) (k : Nat) (x : ((Value × Nat) × Value) × Nat) : HProp := fun h => x.1.1.2 * bt ≤ 140737488351232 ∧ twin e sz x.1.1.1 x.1.1.2 x.1.2 k (rep x.1.1.2 (mk x.2)) (rep k (mk' x.2)) h
def rowsX (e : TypeId) (sz bt : Nat) (es : List (Value × Nat)) : HProp := satH (es.map (rowX e sz bt))
def rowsM (e : TypeId) (sz bt : Nat) (mk : Nat → List Value) (i : Nat) (es : List (Value × Nat)) : HProp := satH ((es.zipIdx i).map (rowM e sz bt mk))
def pairsM (e : TypeId) (sz bt : Nat) (mk mk' : Nat → List Value) (k : Nat) (ds : List ((Value × Nat) × Value)) : HProp := satH ((ds.zipIdx 0).map (pairM e sz bt mk mk' k))
variable {es : List (Value × Nat)} {ds : List ((Value × Nat) × Value)} {mk mk' : Nat → List Value} {i : Nat}
theorem rows_empty (h : St o w R) : St o w (rowsX e sz bt [] :: R) := h.emp.mono fun _ _ => trivial
theorem rows_cons {p : Value × Nat} (hb : p.2 * bt ≤ 140737488351232) (h : St o w (own e sz p.1 p.2 xs :: rowsX e sz bt es :: R)) : St o w (rowsX e sz bt (p :: es) :: R) :=
  St.all_cons_in (h.mono fun _ hx => ⟨hb, xs, hx⟩)
theorem rows_join {es' : List (Value × Nat)} (h : St o w (rowsX e sz bt es :: rowsX e sz bt es' :: R)) : St o w (rowsX e sz bt (es ++ es') :: R) := by
  unfold rowsX at *
  rw [List.map_append]
  exact h.all_join
theorem mark_step (h : St o w (rowsM e sz bt mk 0 (es.take i) :: rowsX e sz bt (es.drop i) :: R)) (hi : i < es.length) : ∃ xs, es[i].2 * bt ≤ 140737488351232 ∧ xs.length = es[i].2 * sz ∧
    St o w (own e sz es[i].1 es[i].2 xs :: rowsM e sz bt mk 0 (es.take i) :: rowsX e sz bt (es.drop (i + 1)) :: R) := by
  have h := h.swap
  unfold rowsX at h
  rw [List.drop_eq_getElem_cons hi, List.map_cons] at h
  have h := h.all_cons
  obtain ⟨h1, h2, h3, h4, S, ⟨hb, xs, hx⟩, hR⟩ := h
  have h : St o w (own e sz es[i].1 es[i].2 xs :: satH ((es.drop (i + 1)).map (rowX e sz bt)) :: rowsM e sz bt mk 0 (es.take i) :: R) := ⟨h1, h2, h3, h4, S, hx, hR⟩
  exact ⟨xs, hb, hx.1, h.perm (List.Perm.cons _ (List.Perm.swap _ _ _))⟩
theorem zip_snoc {α : Type} (l : List α) (x : α) (i : Nat) : (l ++ [x]).zipIdx i = l.zipIdx i ++ [(x, i + l.length)] := by
  rw [List.zipIdx_append]; rfl
theorem mark_done (hi : i < es.length) (hb : es[i].2 * bt ≤ 140737488351232) (h : St o w (own e sz es[i].1 es[i].2 (rep es[i].2 (mk i)) :: rowsM e sz bt mk 0 (es.take i) :: rowsX e sz bt (es.drop (i + 1)) :: R)) :
    St o w (rowsM e sz bt mk 0 (es.take (i + 1)) :: rowsX e sz bt (es.drop (i + 1)) :: R) := by
  unfold rowsM at *
  rw [List.take_succ_eq_append_getElem hi, zip_snoc, List.map_append]
  have hl : (es.take i).length = i := by rw [List.length_take]; omega
  rw [hl, Nat.zero_add]
  exact (h.swap).all_snoc' (fun _ hx => ⟨hb, hx⟩)
theorem grow_step (h : St o w (pairsM e sz bt mk mk' k ds :: rowsM e sz bt mk i (es.drop i) :: R)) (hi : i < es.length) : es[i].2 * bt ≤ 140737488351232 ∧
    St o w (own e sz es[i].1 es[i].2 (rep es[i].2 (mk i)) :: pairsM e sz bt mk mk' k ds :: rowsM e sz bt mk (i + 1) (es.drop (i + 1)) :: R) := by
  have h := h.swap
  unfold rowsM at h
  rw [List.drop_eq_getElem_cons hi, List.zipIdx_cons, List.map_cons] at h
  have h := h.all_cons
  obtain ⟨h1, h2, h3, h4, S, ⟨hb, hx⟩, hR⟩ := h
  have h : St o w (own e sz es[i].1 es[i].2 (rep es[i].2 (mk i)) :: satH (((es.drop (i + 1)).zipIdx (i + 1)).map (rowM e sz bt mk)) :: pairsM e sz bt mk mk' k ds :: R) := ⟨h1, h2, h3, h4, S, hx, hR⟩
  exact ⟨hb, h.perm (List.Perm.cons _ (List.Perm.swap _ _ _))⟩
theorem grow_done {m : Value} (hi : i < es.length) (hl : ds.length = i) (hb : es[i].2 * bt ≤ 140737488351232) (h : St o w (twin e sz es[i].1 es[i].2 m k (rep es[i].2 (mk i)) (rep k (mk' i)) :: pairsM e sz bt mk mk' k ds :: R)) :
    St o w (pairsM e sz bt mk mk' k (ds ++ [(es[i], m)]) :: R) := by
  unfold pairsM at *
  rw [zip_snoc, List.map_append, hl, Nat.zero_add]
  exact (h.swap).all_snoc' (fun _ hx => ⟨hb, hx⟩)
theorem pairs_rd (hl : ds.map Prod.fst = es) (hm : pairsM e sz bt mk mk' k ds ∈ As) (h : St o w As) (hi : i < es.length) : ∃ (hd : i < ds.length), es[i].2 * bt ≤ 140737488351232 ∧ Rd w sz es[i].1 es[i].2 (rep es[i].2 (mk i)) ∧
    Rd w sz ds[i].2 (es[i].2 + k) (rep es[i].2 (mk i) ++ rep k (mk' i)) := by
  subst hl
  rw [List.length_map] at hi
  refine ⟨hi, ?_⟩
  simp only [List.getElem_map]
  have hmem : (ds[i], i) ∈ ds.zipIdx 0 := by
    rw [List.mem_zipIdx_iff_getElem?]
    simp [hi]
  obtain ⟨S, hb, hx⟩ := h.in_all hm (List.mem_map_of_mem hmem)
  obtain ⟨r1, r2⟩ := rd_of_twin hx
  exact ⟨hb, r1, r2⟩
theorem pairs_end (hl : ds.map Prod.fst = es) (h : St o w (pairsM e sz bt mk mk' k ds :: R)) : St o w (rowsM e sz bt mk 0 es :: R) := by
  subst hl
  refine h.mono (satH_mono (by simp) fun i h1 h2 x hx => ?_)
  simp only [List.getElem_map, List.getElem_zipIdx, Nat.zero_add] at hx ⊢
  exact ⟨hx.1, own_of_twin hx.2⟩
theorem rowsM_end (h : St o w (rowsM e sz bt mk 0 es :: R)) : St o w (rowsX e sz bt es :: R) := by
  refine h.mono (satH_mono (by simp) fun i h1 h2 x hx => ?_)
  simp only [List.getElem_map, List.getElem_zipIdx, Nat.zero_add] at hx ⊢
  exact ⟨hx.1, _, hx.2⟩
theorem mark_set {c : List Value} {k n : Nat} (hc : c.length = sz) (hx : xs.length = n * sz) (hk : k < n) : setL (rep k c ++ xs.drop (k * sz)) (k * sz) c = rep (k + 1) c ++ xs.drop ((k + 1) * sz) := by
  have hl : (rep k c).length = k * sz := by rw [rep_len, hc]
  have hle : k * sz + sz ≤ xs.length := by
    rw [hx, ← Nat.succ_mul]; exact Nat.mul_le_mul_right _ hk
  have h := setL_append (rep k c) c (xs.drop (k * sz)) (by rw [hc, List.length_drop]; omega)
  rw [hl] at h
  rw [h, rep_succ, List.drop_drop, hc, ← Nat.succ_mul, List.append_assoc]
theorem at_one {α : Type} (xs : List α) (i : Nat) : ((xs.drop (i * 1)).take 1)[0]? = xs[i]? := by
  rw [Nat.mul_one, List.getElem?_take_of_lt (by omega), List.getElem?_drop]; rfl
theorem Rd.len (h : Rd w sz v n xs) (hs : isSliceT P t = true) (ts : Array TypeId) (ht : ts[0]? = some t) (ty : TypeId) (w' : World) : (Builtin.len_ ts ty #[v]).run P w' = .ok (.int .i64 n) w' := by
  obtain ⟨a, c, rfl⟩ := h.form
  exact run_lenS hs ts ht ty a n c w'
theorem Rd.adr (h : Rd w sz v n xs) (hel : El P t e sz bt z) (q : IntKind) (i : Nat) (hi : i < n) : ∃ b p, (∀ w, (Instr.indexAt t v (.int q i)).run P w = .ok (.pointer (some ⟨b, p, none⟩)) w) ∧
    ∀ (w' : World), Rd w' sz v n xs → ∀ j u, ((xs.drop (i * sz)).take sz)[j]? = some u → w'.cell? ⟨b, p + j, none⟩ = some u := by
  obtain ⟨b, p, hp, _, _⟩ := h.ix hel q i hi
  refine ⟨b, p, hp, fun w' h' j u hu => ?_⟩
  obtain ⟨b', p', hp', hc', _⟩ := h'.ix hel q i hi
  have := (hp w).symm.trans (hp' w)
  injection this with this _
  injection this with this
  injection this with this
  injection this with e1 e2
  subst e1; subst e2
  exact hc' j u hu
theorem St.twin_one {m : Value} (h : St o w (twin e sz v n m k xs ys :: R)) : m.oneCell' = true := by
  obtain ⟨S, hA, _⟩ := h.sat
  obtain ⟨_, h2⟩ := rd_of_twin hA
  obtain ⟨a, c, rfl⟩ := h2.form
  rfl
theorem tdv_lo (i : Nat) (d : Nat) : -9223372036854775808 ≤ (i : Int).tdiv d := by
  have := Int.tdiv_nonneg (a := (i : Int)) (b := (d : Int)) (by omega) (by omega); omega
theorem tdv_hi {i d l : Nat} (hl : l ≤ 600) (hi : i < l) (_ : 1 ≤ d) : (i : Int).tdiv d ≤ 9223372036854775807 := by
  have : (i : Int).tdiv d = ((i / d : Nat) : Int) := rfl
  rw [this]
  have := Nat.div_le_self i d
  omega
theorem tmh_lo (x : Int) : -9223372036854775808 ≤ 100 + x.tmod 100 := by
  have h2 := Int.lt_tmod_of_pos x (show (0 : Int) < 100 by decide); omega
theorem tmh_hi (x : Int) : 100 + x.tmod 100 ≤ 9223372036854775807 := by
  have h1 := Int.tmod_lt_of_pos x (show (0 : Int) < 100 by decide); omega
theorem run_eql_strB (t : TypeId) (cx cy : Bool) (a : ByteArray) (w : World) : (eqOp .eql t cx cy (.string a) (.string a)).run P w = .ok (.bool true) w := by
  rw [run_eql_str]
  simp
theorem bne_self (x : Int) : (x != x) = false := by simp
end
end Go.Sh

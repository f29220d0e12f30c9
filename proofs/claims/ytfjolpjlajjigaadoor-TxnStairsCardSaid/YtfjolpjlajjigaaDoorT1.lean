/- Numbers of zxids. -/
import Derived.Test.YtfjolpjlajjigaaDoorP1
set_option linter.unusedVariables false
set_option linter.unusedSimpArgs false
namespace Go.Proofs.YtfjolpjlajjigaaDoor
open Go.Sh
def zx (e n : Int) : List Value := [.int .u32 e, .int .u32 n]
def u32r (n : Int) : Prop := 0 ≤ n ∧ n ≤ 4294967295
def packV (e n : Int) : Value := if 2147483647 < e then .tuple #[.int .i64 0, .int .i64 1] else .tuple #[.int .i64 (e * 4294967296 + n), .int .i64 0]
theorem or_i64 (a b : Nat) (ha : a < 2147483648) (hb : b < 4294967296) : IntKind.i64.wrap (BitVec.ofInt 64 (IntKind.i64.wrap ((a : Int) * 2 ^ 32)) ||| BitVec.ofInt 64 (b : Int)).toNat = ((a * 4294967296 + b : Nat) : Int) := by
  have e1 : IntKind.i64.wrap ((a : Int) * 2 ^ 32) = ((a * 4294967296 : Nat) : Int) := by
    rw [wr_i64 (by omega) (by omega)]; omega
  rw [e1, BitVec.ofInt_natCast, BitVec.ofInt_natCast, BitVec.toNat_or, BitVec.toNat_ofNat, BitVec.toNat_ofNat]
  have h1 : a * 4294967296 % 2 ^ 64 = a * 4294967296 := Nat.mod_eq_of_lt (by omega)
  have h2 : b % 2 ^ 64 = b := Nat.mod_eq_of_lt (by omega)
  rw [h1, h2]
  have h3 : a * 4294967296 ||| b = a * 4294967296 + b := by
    have := Nat.two_pow_add_eq_or_of_lt (i := 32) (b := b) (by omega) a
    rw [show a * 4294967296 = 2 ^ 32 * a by omega, ← this]
  rw [h3, wr_i64 (by omega) (by omega)]
def unpV (n : Int) : Value := if n < 0 then .tuple #[.agg (zx 0 0).toArray, .int .i64 1] else .tuple #[.agg (zx (n / 4294967296) (n % 4294967296)).toArray, .int .i64 0]
theorem zx_ones (e n : Int) : ones (zx e n) := by intro u hu; simp [zx] at hu; rcases hu with rfl | rfl <;> rfl
theorem wrap_u32' (x : Int) : IntKind.u32.wrap x = x % 4294967296 := by simp [IntKind.wrap, IntKind.bits, IntKind.signed]
def nextV (e n l : Int) : Value := if e = 0 ∨ 2147483647 < e then .tuple #[.agg (zx 0 0).toArray, .int .i64 1] else if l ≤ n then .tuple #[.agg (zx 0 0).toArray, .int .i64 2] else .tuple #[.agg (zx e (n + 1)).toArray, .int .i64 0]
section
variable (Z : List PanicEntry → World → Prop) {o w : World} {R As : List HProp}
theorem refPack {e n : Int} (he : u32r e) (hn : u32r n) (h : St o w R) : CallV Tryd.prog Z 27 #[.agg (zx e n).toArray] w fun r w' => r = packV e n ∧ St o w' R := by
  unfold u32r at he hn
  refine f27.calls ?_
  unfold f27.sh
  refine r_box _ _ h fun g w1 hS => ?_
  have hS : St o w1 (blk g 26 (zx e n) :: R) := hS
  (try simp only [fa_26_1, Nat.zero_add, fa_26_0, Nat.add_zero])
  refine r_load one24 (hS.at m0 0 rfl) ?_
  (try simp only [cv_24_2, o_gtr, cond_decide])
  rw [wr_i64 (x := e) (by omega) (by omega)]
  refine ⟨fun hgt => ⟨by rw [packV, if_pos hgt], hS.drop⟩, fun hle => ?_⟩
  refine r_load one24 (hS.at m0 0 rfl) ?_
  (try simp only [cv_24_2, o_mul])
  refine r_load one24 (hS.at m0 1 rfl) ?_
  (try simp only [cv_24_2, o_add])
  rw [wr_i64 (x := e) (by omega) (by omega), wr_i64 (x := n) (by omega) (by omega), wr_i64 (x := e * 4294967296) (by omega) (by omega), wr_i64 (x := e * 4294967296 + n) (by omega) (by omega)]
  exact ⟨by rw [packV, if_neg hle], hS.drop⟩
theorem txnPack {e n : Int} (he : u32r e) (hn : u32r n) (h : St o w R) : CallV Tryd.prog Z 20 #[.agg (zx e n).toArray] w fun r w' => r = packV e n ∧ St o w' R := by
  unfold u32r at he hn
  obtain ⟨a, rfl⟩ : ∃ a : Nat, e = a := ⟨e.toNat, by omega⟩
  obtain ⟨b, rfl⟩ : ∃ b : Nat, n = b := ⟨n.toNat, by omega⟩
  refine f20.calls ?_
  unfold f20.sh
  refine r_box _ _ h fun g w1 hS => ?_
  have hS : St o w1 (blk g 26 (zx a b) :: R) := hS
  (try simp only [fa_26_1, Nat.zero_add, fa_26_0, Nat.add_zero])
  refine r_load one24 (hS.at m0 0 rfl) ?_
  (try simp only [o_gtr, cond_decide])
  refine ⟨fun hgt => ⟨by rw [packV, if_pos hgt], hS.drop⟩, fun hle => ?_⟩
  refine r_load one24 (hS.at m0 0 rfl) ?_
  (try simp only [cv_24_2])
  rw [wr_i64 (x := (a : Int)) (by omega) (by omega)]
  refine r1 (run_shl _ _ _ .i64 .u64 _ 32 (by omega)) ?_
  skip
  refine r_load one24 (hS.at m0 1 rfl) ?_
  (try simp only [cv_24_2, o_or])
  rw [wr_i64 (x := (b : Int)) (by omega) (by omega)]
  have key := or_i64 a b (by omega) (by omega)
  refine ⟨?_, hS.drop⟩
  rw [packV, if_neg hle]
  have e2 : IntKind.i64.wrap (BitVec.ofInt IntKind.i64.bits (IntKind.i64.wrap ((a : Int) * 2 ^ min (32 : Int).toNat IntKind.i64.bits)) ||| BitVec.ofInt IntKind.i64.bits (b : Int)).toNat = (a : Int) * 4294967296 + b := by
    refine Eq.trans key ?_
    omega
  rw [e2]
theorem txnUnpack {n : Int} (hn : -9223372036854775808 ≤ n ∧ n ≤ 9223372036854775807) (h : St o w R) : CallV Tryd.prog Z 21 #[.int .i64 n] w fun r w' => r = unpV n ∧ St o w' R := by
  refine f21.calls ?_
  unfold f21.sh
  refine r_alloc h ze26 fun g w1 hS => ?_
  have hS : St o w1 (blk g 26 (zx 0 0) :: R) := hS
  (try simp only [cv_2_24, o_lss, cond_decide])
  refine ⟨fun hneg => ?_, fun hpos => ?_⟩
  · refine r_build (cells := (zx 0 0).toArray) (by kernel_rfl) ?_
    refine r_storeN hS ag26 (xs := zx 0 0) rfl (by simp [zx]) (zx_ones _ _) fun w2 hS => ?_
    rw [setL_all _ _ (by simp [zx])] at hS
    refine r_resN ag26 (xs := zx 0 0) rfl (hS.cells_at m0 0 (whole_at _)) ?_
    exact ⟨by rw [unpV, if_pos hneg], hS.drop⟩
  · refine r1 (run_shr _ _ _ .i64 .u64 _ 32 (by omega)) ?_
    (try simp only [cv_2_24])
    have e1 : IntKind.u32.wrap (n.fdiv (2 ^ min (32 : Int).toNat IntKind.i64.bits)) = n / 4294967296 := by
      have : n.fdiv (2 ^ min (32 : Int).toNat IntKind.i64.bits) = n / 4294967296 := Int.fdiv_eq_ediv_of_nonneg _ (by decide)
      rw [this, wrap_u32']; omega
    rw [e1, wrap_u32']
    have hu : unpV n = .tuple #[.agg (zx (n / 4294967296) (n % 4294967296)).toArray, .int .i64 0] := by rw [unpV, if_neg hpos]
    rw [hu]
    generalize n / 4294967296 = hi
    refine r_build (cells := (zx hi (n % 4294967296)).toArray) (by kernel_rfl) ?_
    refine r_storeN hS ag26 (xs := zx hi (n % 4294967296)) rfl (by simp [zx]) (zx_ones _ _) fun w2 hS => ?_
    rw [setL_all _ _ (by simp [zx])] at hS
    refine r_resN ag26 (xs := zx hi (n % 4294967296)) rfl (hS.cells_at m0 0 (whole_at _)) ?_
    exact ⟨rfl, hS.drop⟩
theorem refUnpack {n : Int} (hn : -9223372036854775808 ≤ n ∧ n ≤ 9223372036854775807) (h : St o w R) : CallV Tryd.prog Z 28 #[.int .i64 n] w fun r w' => r = unpV n ∧ St o w' R := by
  refine f28.calls ?_
  unfold f28.sh
  refine r_alloc h ze26 fun g w1 hS => ?_
  have hS : St o w1 (blk g 26 (zx 0 0) :: R) := hS
  (try simp only [o_lss, cond_decide])
  refine ⟨fun hneg => ?_, fun hpos => ?_⟩
  · refine r_build (cells := (zx 0 0).toArray) (by kernel_rfl) ?_
    refine r_storeN hS ag26 (xs := zx 0 0) rfl (by simp [zx]) (zx_ones _ _) fun w2 hS => ?_
    rw [setL_all _ _ (by simp [zx])] at hS
    refine r_resN ag26 (xs := zx 0 0) rfl (hS.cells_at m0 0 (whole_at _)) ?_
    exact ⟨by rw [unpV, if_pos hneg], hS.drop⟩
  · refine r1 (run_quo _ _ _ .i64 n 4294967296 (by omega)) ?_
    (try simp only [cv_2_24])
    refine r1 (run_rem _ _ _ .i64 n 4294967296 (by omega)) ?_
    (try simp only [cv_2_24])
    have q1 : n.tdiv 4294967296 = n / 4294967296 := Int.tdiv_eq_ediv_of_nonneg (by omega)
    have q2 : n.tmod 4294967296 = n % 4294967296 := Int.tmod_eq_emod_of_nonneg (by omega)
    have e1 : IntKind.u32.wrap (IntKind.i64.wrap (n.tdiv 4294967296)) = n / 4294967296 := by rw [q1, wr_i64 (by omega) (by omega), wrap_u32']; omega
    have e2 : IntKind.u32.wrap (n.tmod 4294967296) = n % 4294967296 := by rw [q2, wrap_u32']; omega
    rw [e1, e2]
    have hu : unpV n = .tuple #[.agg (zx (n / 4294967296) (n % 4294967296)).toArray, .int .i64 0] := by rw [unpV, if_neg hpos]
    rw [hu]
    generalize n / 4294967296 = hi
    refine r_build (cells := (zx hi (n % 4294967296)).toArray) (by kernel_rfl) ?_
    refine r_storeN hS ag26 (xs := zx hi (n % 4294967296)) rfl (by simp [zx]) (zx_ones _ _) fun w2 hS => ?_
    rw [setL_all _ _ (by simp [zx])] at hS
    refine r_resN ag26 (xs := zx hi (n % 4294967296)) rfl (hS.cells_at m0 0 (whole_at _)) ?_
    exact ⟨rfl, hS.drop⟩
theorem txnNext {e n l : Int} (he : u32r e) (hn : u32r n) (hl : u32r l) (h : St o w R) : CallV Tryd.prog Z 26 #[.agg (zx e n).toArray, .int .u32 l] w fun r w' => r = nextV e n l ∧ St o w' R := by
  unfold u32r at he hn hl
  refine f26.calls ?_
  unfold f26.sh
  refine r_box _ _ h fun g w1 hS => ?_
  refine r_alloc hS ze26 fun g2 w2 hS => ?_
  have hS : St o w2 (blk g2 26 (zx 0 0) :: blk g 26 (zx e n) :: R) := hS
  have fin : ∀ (a b c : Int), nextV e n l = .tuple #[.agg (zx a b).toArray, .int .i64 c] → run0 Tryd.prog Z (Instr.storeAt 26 (.pointer (some ⟨g2, 0, none⟩)) (.agg (zx a b).toArray)) w2 fun w => ∃ r, (do loadVar 26 (← asAddr (.pointer (some ⟨g2, 0, none⟩))) : Sem Value).run Tryd.prog w = .ok r w ∧ Value.tuple #[r, .int .i64 c] = nextV e n l ∧ St o w R := fun a b c hv => by
    refine r_storeN hS ag26 (xs := zx a b) rfl (by simp [zx]) (zx_ones _ _) fun w3 hS => ?_
    rw [setL_all _ _ (by simp [zx])] at hS
    refine r_resN ag26 (xs := zx a b) rfl (hS.cells_at m0 0 (whole_at _)) ?_
    exact ⟨hv.symm, hS.drop.drop⟩
  (try simp only [fa_26_0, Nat.add_zero, fa_26_1, Nat.zero_add])
  refine r_load one24 (hS.at m1 0 rfl) ?_
  by_cases h0 : e = 0
  · subst h0
    (try simp only [o_eql, beq_self_eq_true, o_pickT, condT, guardW_tf])
    exact r_build (cells := (zx 0 0).toArray) (by kernel_rfl) (fin 0 0 1 (by rw [nextV, if_pos (.inl rfl)]))
  have h0' : (e == 0) = false := by simpa using h0
  (try simp only [o_eql, h0', o_pickF, guardW_ff])
  refine r_load one24 (hS.at m1 0 rfl) ?_
  skip
  (try simp only [o_gtr, cond_decide])
  refine ⟨fun hgt => ?_, fun hle => ?_⟩
  · exact r_build (cells := (zx 0 0).toArray) (by kernel_rfl) (fin 0 0 1 (by rw [nextV, if_pos (.inr hgt)]))
  have hno : ¬ (e = 0 ∨ 2147483647 < e) := by omega
  refine r_load one24 (hS.at m1 1 rfl) ?_
  (try simp only [o_geq, cond_decide])
  refine ⟨fun hge => ?_, fun hlt => ?_⟩
  · exact r_build (cells := (zx 0 0).toArray) (by kernel_rfl) (fin 0 0 2 (by rw [nextV, if_neg hno, if_pos hge]))
  refine r_load one24 (hS.at m1 0 rfl) ?_
  skip
  refine r_load one24 (hS.at m1 1 rfl) ?_
  (try simp only [o_add])
  rw [wr_u32 (x := n + 1) (by omega) (by omega)]
  refine r_build (cells := (zx e (n + 1)).toArray) (by kernel_rfl) (fin e (n + 1) 0 (by rw [nextV, if_neg hno, if_neg hlt]))
theorem refNext {e n l : Int} (he : u32r e) (hn : u32r n) (hl : u32r l) (h : St o w R) : CallV Tryd.prog Z 29 #[.agg (zx e n).toArray, .int .u32 l] w fun r w' => r = nextV e n l ∧ St o w' R := by
  unfold u32r at he hn hl
  refine f29.calls ?_
  unfold f29.sh
  refine r_box _ _ h fun g w1 hS => ?_
  refine r_alloc hS ze26 fun g2 w2 hS => ?_
  have hS : St o w2 (blk g2 26 (zx 0 0) :: blk g 26 (zx e n) :: R) := hS
  have fin : ∀ (a b c : Int), nextV e n l = .tuple #[.agg (zx a b).toArray, .int .i64 c] → run0 Tryd.prog Z (Instr.storeAt 26 (.pointer (some ⟨g2, 0, none⟩)) (.agg (zx a b).toArray)) w2 fun w => ∃ r, (do loadVar 26 (← asAddr (.pointer (some ⟨g2, 0, none⟩))) : Sem Value).run Tryd.prog w = .ok r w ∧ Value.tuple #[r, .int .i64 c] = nextV e n l ∧ St o w R := fun a b c hv => by
    refine r_storeN hS ag26 (xs := zx a b) rfl (by simp [zx]) (zx_ones _ _) fun w3 hS => ?_
    rw [setL_all _ _ (by simp [zx])] at hS
    refine r_resN ag26 (xs := zx a b) rfl (hS.cells_at m0 0 (whole_at _)) ?_
    exact ⟨hv.symm, hS.drop.drop⟩
  (try simp only [fa_26_0, Nat.add_zero, fa_26_1, Nat.zero_add])
  refine r_load one24 (hS.at m1 0 rfl) ?_
  by_cases h0 : e = 0
  · subst h0
    (try simp only [o_eql, beq_self_eq_true, o_pickT, condT, guardW_tf])
    exact r_build (cells := (zx 0 0).toArray) (by kernel_rfl) (fin 0 0 1 (by rw [nextV, if_pos (.inl rfl)]))
  have h0' : (e == 0) = false := by simpa using h0
  (try simp only [o_eql, h0', o_pickF, guardW_ff])
  refine r_load one24 (hS.at m1 0 rfl) ?_
  (try simp only [cv_24_2, o_gtr, cond_decide])
  rw [wr_i64 (x := e) (by omega) (by omega)]
  skip
  refine ⟨fun hgt => ?_, fun hle => ?_⟩
  · exact r_build (cells := (zx 0 0).toArray) (by kernel_rfl) (fin 0 0 1 (by rw [nextV, if_pos (.inr hgt)]))
  have hno : ¬ (e = 0 ∨ 2147483647 < e) := by omega
  refine r_load one24 (hS.at m1 1 rfl) ?_
  (try simp only [o_geq, cond_decide])
  refine ⟨fun hge => ?_, fun hlt => ?_⟩
  · exact r_build (cells := (zx 0 0).toArray) (by kernel_rfl) (fin 0 0 2 (by rw [nextV, if_neg hno, if_pos hge]))
  refine r_load one24 (hS.at m1 0 rfl) ?_
  skip
  refine r_load one24 (hS.at m1 1 rfl) ?_
  (try simp only [o_add])
  rw [wr_u32 (x := n + 1) (by omega) (by omega)]
  refine r_build (cells := (zx e (n + 1)).toArray) (by kernel_rfl) (fin e (n + 1) 0 (by rw [nextV, if_neg hno, if_neg hlt]))
end
end Go.Proofs.YtfjolpjlajjigaaDoor

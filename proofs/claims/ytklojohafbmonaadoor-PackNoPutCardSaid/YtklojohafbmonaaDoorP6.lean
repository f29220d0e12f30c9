/- Readers: what each call answers of bytes, told as what a Writer would have put there. -/
import Derived.Test.YtklojohafbmonaaDoorP3
import Derived.Test.YtklojohafbmonaaDoorP5
set_option linter.unusedVariables false
set_option linter.unusedSimpArgs false
namespace Go.Proofs.YtklojohafbmonaaDoor
open Go.Sh
/-- These bytes stand at off. -/
def Has (all : List UInt8) (off : Nat) (bs : List UInt8) : Prop := ∃ rest, all.drop off = bs ++ rest
theorem Has.le {all bs : List UInt8} {off : Nat} (h : Has all off bs) (ho : off ≤ all.length) : off + bs.length ≤ all.length := by
  obtain ⟨rest, h⟩ := h
  have := congrArg List.length h
  rw [List.length_drop, List.length_append] at this
  omega
theorem Has.take {all bs : List UInt8} {off : Nat} (h : Has all off bs) : (all.drop off).take bs.length = bs := by
  obtain ⟨rest, h⟩ := h
  rw [h, List.take_left]
theorem has_of {all : List UInt8} {off n : Nat} {bs : List UInt8} (h : (all.drop off).take n = bs) : Has all off bs := ⟨(all.drop off).drop n, by rw [← h, List.take_append_drop]⟩
theorem Has.split {all a b : List UInt8} {off : Nat} : Has all off (a ++ b) ↔ Has all off a ∧ Has all (off + a.length) b := by
  constructor
  · rintro ⟨rest, h⟩
    refine ⟨⟨b ++ rest, by rw [h, List.append_assoc]⟩, ⟨rest, ?_⟩⟩
    rw [← List.drop_drop, h, List.append_assoc, List.drop_left]
  · rintro ⟨⟨r, h⟩, ⟨rest, h2⟩⟩
    refine ⟨rest, ?_⟩
    rw [← List.drop_drop, h, List.drop_left] at h2
    rw [h, h2, List.append_assoc]
theorem dec_cons (x : UInt8) (l : List UInt8) : dec (x :: l) = x.toNat * 256 ^ l.length + dec l := by
  have key : ∀ (l : List UInt8) (v : Nat), l.foldl (fun v x => v * 256 + x.toNat) v = v * 256 ^ l.length + l.foldl (fun v x => v * 256 + x.toNat) 0 := by
    intro l
    induction l with
    | nil => intro v; simp
    | cons y l ih =>
      intro v
      rw [List.foldl_cons, ih, List.foldl_cons, ih (0 * 256 + y.toNat), List.length_cons, Nat.pow_succ, Nat.add_mul, Nat.zero_mul, Nat.zero_add, Nat.mul_assoc, Nat.mul_comm 256]
      omega
  unfold dec
  rw [List.foldl_cons, key, Nat.zero_mul, Nat.zero_add]
theorem enc_dec : ∀ (l : List UInt8), enc l.length (dec l : Int) = l
  | [] => rfl
  | x :: l => by
    have ih := enc_dec l
    have hlt := dec_lt l
    have hx := x.toNat_lt
    rw [dec_cons, List.length_cons, enc]
    have hp : 0 < 256 ^ l.length := Nat.pos_of_neZero _
    have e1 : ((x.toNat * 256 ^ l.length + dec l : Nat) : Int) / 256 ^ l.length % 256 = (x.toNat : Int) := by
      have : (x.toNat * 256 ^ l.length + dec l) / 256 ^ l.length = x.toNat := by
        rw [Nat.mul_comm, Nat.mul_add_div hp, Nat.div_eq_of_lt hlt, Nat.add_zero]
      have h2 : ((256 : Int) ^ l.length) = ((256 ^ l.length : Nat) : Int) := by rw [Int.natCast_pow]; rfl
      rw [h2, ← Int.natCast_ediv, this]
      omega
    rw [e1]
    congr 1
    · simp
    · have e2 : enc l.length ((x.toNat * 256 ^ l.length + dec l : Nat) : Int) = enc l.length (dec l : Int) := by
        rw [← enc_mod l.length ((x.toNat * 256 ^ l.length + dec l : Nat) : Int)]
        congr 1
        have h2 : ((256 : Int) ^ l.length) = ((256 ^ l.length : Nat) : Int) := by rw [Int.natCast_pow]; rfl
        rw [h2, ← Int.natCast_emod, Nat.add_comm, Nat.add_mul_mod_self_right, Nat.mod_eq_of_lt hlt]
      rw [e2, ih]
theorem dec_enc (n : Nat) (v : Int) : (dec (enc n v) : Int) = v % 256 ^ n := by
  induction n with
  | zero => simp [enc, dec]
  | succ n ih =>
    rw [enc, dec_cons, enc_length]
    rw [Int.natCast_add, ih, Int.natCast_mul, byte_toNat, Int.natCast_pow]
    have hp : (0 : Int) < 256 ^ n := Int.pow_pos (by omega)
    have h1 := Int.mul_ediv_add_emod v (256 ^ n)
    have h2 := Int.mul_ediv_add_emod (v / 256 ^ n) 256
    have h3 := Int.emod_nonneg v (Int.ne_of_gt hp)
    have h4 := Int.emod_lt_of_pos v hp
    have h5 := Int.emod_nonneg (v / 256 ^ n) (show (256 : Int) ≠ 0 by omega)
    have h6 := Int.emod_lt_of_pos (v / 256 ^ n) (show (0 : Int) < 256 by omega)
    rw [Int.pow_succ]
    have e : v / (256 ^ n * 256) = v / 256 ^ n / 256 := (Int.ediv_ediv_of_nonneg (Int.le_of_lt hp)).symm
    rw [Int.emod_def v (256 ^ n * 256), e]
    have h7 : v / 256 ^ n % 256 * 256 ^ n = v / 256 ^ n * 256 ^ n - 256 ^ n * 256 * (v / 256 ^ n / 256) := by
      have : v / 256 ^ n % 256 = v / 256 ^ n - 256 * (v / 256 ^ n / 256) := Int.emod_def _ _
      rw [this, Int.sub_mul]
      congr 1
      rw [Int.mul_comm (256 ^ n) 256, Int.mul_assoc, Int.mul_assoc, Int.mul_comm (v / 256 ^ n / 256)]
    have h8 : ((256 : Nat) : Int) ^ n = 256 ^ n := rfl
    rw [h8, h7, Int.mul_comm (v / 256 ^ n)]
    omega
theorem wrap_i64 (v : Int) : IntKind.i64.wrap v = if v % 18446744073709551616 < 9223372036854775808 then v % 18446744073709551616 else v % 18446744073709551616 - 18446744073709551616 := by
  simp [IntKind.wrap, IntKind.bits, IntKind.signed]
  split <;> split <;> omega
theorem wrap_i32 (v : Int) : IntKind.i32.wrap v = if v % 4294967296 < 2147483648 then v % 4294967296 else v % 4294967296 - 4294967296 := by
  simp [IntKind.wrap, IntKind.bits, IntKind.signed]
  split <;> split <;> omega
theorem wrap_i8 (v : Int) : IntKind.i8.wrap v = if v % 256 < 128 then v % 256 else v % 256 - 256 := by
  simp [IntKind.wrap, IntKind.bits, IntKind.signed]
  split <;> split <;> omega
theorem wrap_u32 (v : Int) : IntKind.u32.wrap v = v % 4294967296 := by simp [IntKind.wrap, IntKind.bits, IntKind.signed]
/-- How a kind of n bytes stands to its bytes. -/
structure Codec (n : Nat) (k : IntKind) (lo hi : Int) : Prop where
  range : ∀ x : Int, lo ≤ k.wrap x ∧ k.wrap x ≤ hi
  mod : ∀ x : Int, k.wrap x % 256 ^ n = x % 256 ^ n
  one : ∀ x : Int, lo ≤ x → x ≤ hi → k.wrap (x % 256 ^ n) = x
theorem codec_i8 : Codec 1 .i8 (-128) 127 := ⟨fun x => by rw [wrap_i8]; split <;> omega, fun x => by rw [wrap_i8]; split <;> omega, fun x h1 h2 => by rw [wrap_i8]; split <;> omega⟩
theorem codec_i32 : Codec 4 .i32 (-2147483648) 2147483647 := ⟨fun x => by rw [wrap_i32]; split <;> omega, fun x => by rw [wrap_i32]; split <;> omega, fun x h1 h2 => by rw [wrap_i32]; split <;> omega⟩
theorem codec_u32 : Codec 4 .u32 0 4294967295 := ⟨fun x => by rw [wrap_u32]; omega, fun x => by rw [wrap_u32]; omega, fun x h1 h2 => by rw [wrap_u32]; omega⟩
theorem codec_i64 : Codec 8 .i64 (-9223372036854775808) 9223372036854775807 := ⟨fun x => by rw [wrap_i64]; split <;> omega, fun x => by rw [wrap_i64]; split <;> omega, fun x h1 h2 => by rw [wrap_i64]; split <;> omega⟩
/-- What a call answers that reads a value of a code. -/
def Gets {α : Type} (e : α → List UInt8) (ok : α → Prop) (val : α → Value) (zero : Value) (g : Nat) (B : Option Nat) (all : List UInt8) (off : Nat) (err : Int) (o : World) (R : List HProp) (r : Value) (w' : World) : Prop :=
  (∃ x, ok x ∧ err = 0 ∧ Has all off (e x) ∧ (∀ y, ok y → Has all off (e y) → y = x) ∧ r = val x ∧ St o w' (RdrAt g B all (off + (e x).length) 0 :: R)) ∨
  (r = zero ∧ (∀ x, ok x → ¬ (err = 0 ∧ Has all off (e x))) ∧ ∃ off' e', (e' ≠ 0 ∧ off' = off) ∧ St o w' (RdrAt g B all off' e' :: R))
section
variable (Z : List PanicEntry → World → Prop) {o w : World} {R : List HProp} {g : Nat} {B : Option Nat} {all l : List UInt8} {off : Nat} {err : Int}
/-- Behind whole: the number of a kind. -/
theorem gets_int {n : Nat} {k : IntKind} {lo hi : Int} (hc : Codec n k lo hi) {w' : World} {r : Value} (ho : off ≤ all.length)
    (h : (r = .int k (k.wrap (dec ((all.drop off).take n))) ∧ err = 0 ∧ off + n ≤ all.length ∧ St o w' (RdrAt g B all (off + n) 0 :: R)) ∨
    (r = .int k (k.wrap 0) ∧ ¬ (err = 0 ∧ off + n ≤ all.length) ∧ St o w' (RdrAt g B all off (if err = 0 then 10 else err) :: R))) :
    Gets (enc n) (fun x => lo ≤ x ∧ x ≤ hi) (fun x => .int k x) (.int k (k.wrap 0)) g B all off err o R r w' := by
  rcases h with ⟨rfl, rfl, hle, hS⟩ | ⟨rfl, hno, hS⟩
  · have hl : ((all.drop off).take n).length = n := by rw [List.length_take, List.length_drop]; omega
    have hed : enc n (k.wrap (dec ((all.drop off).take n) : Int)) = (all.drop off).take n := by
      rw [← enc_mod n, hc.mod, enc_mod]
      have := enc_dec ((all.drop off).take n)
      rwa [hl] at this
    refine .inl ⟨_, hc.range _, rfl, ?_, fun y hy hh => ?_, rfl, by rw [enc_length]; exact hS⟩
    · rw [hed]; exact has_of rfl
    · have ht := hh.take
      rw [enc_length] at ht
      have h2 := dec_enc n y
      rw [← ht] at h2
      rw [h2, hc.one y hy.1 hy.2]
  · refine .inr ⟨rfl, fun x _ ⟨he, hh⟩ => hno ⟨he, ?_⟩, off, _, ?_, hS⟩
    · have := hh.le ho
      rwa [enc_length] at this
    · by_cases he : err = 0
      · rw [if_pos he]; exact ⟨by omega, rfl⟩
      · rw [if_neg he]; exact ⟨he, rfl⟩
theorem gInt32 (h : St o w (RdrAt g B all off err :: R)) : CallV Tryd.prog Z 30 #[.pointer (some ⟨g, 0, none⟩)] w fun r w' => Gets (enc 4) (fun x => -2147483648 ≤ x ∧ x ≤ 2147483647) (fun x => .int .i32 x) (.int .i32 0) g B all off err o R r w' := by
  refine f30.calls ?_
  unfold f30.sh
  refine (rWhole Z 4 (by omega) h).mono fun r w' hq => ?_
  rcases hq with ⟨rfl, h1, h2, hS⟩ | ⟨rfl, h1, hS⟩
  · (try simp only [ln_22_3, ln_22_3p, cv_3_21, cv_3_21p, eqlp_31, eqlp_31p, eqln_31, eqln_31p, ln_34_3, ln_34_3p, ln_25_3, ln_25_3p, fa_50_2, fa_50_2p, eqlp_24, eqlp_24p, eqln_24, eqln_24p, eqlf_83, eqlf_83p, eqlf0_83, eqlf0_83p, cv_21_2, cv_21_2p, cv_2_85, cv_2_85p, cv_21_3, cv_21_3p, fa_87_1, fa_87_1p, eqlf_88, eqlf_88p, eqlf0_88, eqlf0_88p, fa_87_2, fa_87_2p, fa_27_0, fa_27_0p, eqlf_45, eqlf_45p, eqlf0_45, eqlf0_45p, fa_50_1, fa_50_1p, fa_50_0, fa_50_0p, fa_76_2, fa_76_2p, ln_56_3, ln_56_3p, fa_76_0, fa_76_0p, fa_76_1, fa_76_1p, fa_76_3, fa_76_3p, fa_76_4, fa_76_4p, fa_76_5, fa_76_5p, fa_76_6, fa_76_6p, fa_76_7, fa_76_7p, fa_76_8, fa_76_8p, fa_76_9, fa_76_9p, fa_76_10, fa_76_10p, fa_76_11, fa_76_11p, fa_76_12, fa_76_12p, fa_76_13, fa_76_13p, fa_76_14, fa_76_14p, fa_76_15, fa_76_15p, fa_76_16, fa_76_16p, fa_76_17, fa_76_17p, fa_76_18, fa_76_18p, fa_76_19, fa_76_19p, fa_76_20, fa_76_20p, cv_21_85, cv_21_85p, cv_85_21, cv_85_21p, cv_5_81, cv_5_81p, cv_85_5, cv_85_5p, fa_87_0, fa_87_0p, cv_85_2, cv_85_2p, cv_2_21, cv_2_21p, ln_54_3, ln_54_3p, cv_3_5, cv_3_5p, ln_55_3, ln_55_3p, ln_119_3, ln_119_3p, ln_57_3, ln_57_3p, ln_58_3, ln_58_3p, ln_123_3, ln_123_3p, ln_59_3, ln_59_3p, ln_127_3, ln_127_3p, ln_60_3, ln_60_3p, ln_131_3, ln_131_3p, ln_61_3, ln_61_3p, ln_135_3, ln_135_3p, ln_62_3, ln_62_3p, ln_143_3, ln_143_3p, ln_63_3, ln_63_3p, ln_149_3, ln_149_3p, ln_64_3, ln_64_3p, ln_153_3, ln_153_3p, ln_65_3, ln_65_3p, ln_157_3, ln_157_3p, ln_66_3, ln_66_3p, ln_161_3, ln_161_3p, ln_67_3, ln_67_3p, ln_165_3, ln_165_3p, ln_68_3, ln_68_3p, ln_171_3, ln_171_3p, ln_69_3, ln_69_3p, ln_175_3, ln_175_3p, ln_70_3, ln_70_3p, ln_179_3, ln_179_3p, ln_71_3, ln_71_3p, ln_183_3, ln_183_3p, ln_72_3, ln_72_3p, ln_187_3, ln_187_3p, ln_73_3, ln_73_3p, ln_191_3, ln_191_3p, ln_74_3, ln_74_3p, cv_5_85, cv_5_85p, fa_125_1, fa_125_1p, fa_129_1, fa_129_1p, fa_133_7, fa_133_7p, fa_141_1, fa_141_1p, fa_137_2, fa_137_2p, fa_147_6, fa_147_6p, fa_151_0, fa_151_0p, fa_155_0, fa_155_0p, fa_159_1, fa_159_1p, fa_163_0, fa_163_0p, fa_169_3, fa_169_3p, fa_173_2, fa_173_2p, fa_177_0, fa_177_0p, fa_181_0, fa_181_0p, fa_185_6, fa_185_6p, fa_189_1, fa_189_1p, fa_193_4, fa_193_4p, cv_85_81, cv_85_81p, cv_81_5, cv_81_5p, cv_3_115, cv_3_115p, cv_3_85, cv_3_85p, cv_5_3, cv_5_3p, cv_115_81, cv_115_81p, o_add, o_addp, o_sub, o_subp, o_mul, o_mulp, o_lss, o_lssp, o_leq, o_leqp, o_gtr, o_gtrp, o_geq, o_geqp, o_eql, o_eqlp, o_neq, o_neqp, os_eql, os_eqlp, os_neq, os_neqp, o_and, o_andp, o_or, o_orp, o_xor, o_xorp, o_not, o_notp, o_pickT, o_pickTp, o_pickF, o_pickFp, o_ext1_0, o_ext1_0p, o_ext2_0, o_ext2_0p, o_ext2_1, o_ext2_1p, o_ext3_0, o_ext3_0p, o_ext3_1, o_ext3_1p, o_ext3_2, o_ext3_2p, o_ext4_0, o_ext4_0p, o_ext4_1, o_ext4_1p, o_ext4_2, o_ext4_2p, o_ext4_3, o_ext4_3p, o_ext5_0, o_ext5_0p, o_ext5_1, o_ext5_1p, o_ext5_2, o_ext5_2p, o_ext5_3, o_ext5_3p, o_ext5_4, o_ext5_4p, o_max, o_maxp, o_min, o_minp, o_fn, o_fnp, o_chk, o_chkp, condT, condF, cond_decide, cond_beq, cond_bne, cond_not, guardW_true, guardW_ff, guardW_tf, guardW_ft, guardV_true, guardV_ff, guardV_tf, guardV_ft, still_tt, still_ff, still_tf, still_ft, guardV_u, guardW_u, still_u, Nat.zero_add, Nat.add_zero, beq_self_eq_true, bne_self_eq_false, Int.reduceBEq, Int.reduceBNe, Int.reduceLT, Int.reduceLE, decide_true, decide_false, Bool.not_true, Bool.not_false])
    exact gets_int codec_i32 (RdrAt.le h) (.inl ⟨rfl, h1, h2, hS⟩)
  · (try simp only [ln_22_3, ln_22_3p, cv_3_21, cv_3_21p, eqlp_31, eqlp_31p, eqln_31, eqln_31p, ln_34_3, ln_34_3p, ln_25_3, ln_25_3p, fa_50_2, fa_50_2p, eqlp_24, eqlp_24p, eqln_24, eqln_24p, eqlf_83, eqlf_83p, eqlf0_83, eqlf0_83p, cv_21_2, cv_21_2p, cv_2_85, cv_2_85p, cv_21_3, cv_21_3p, fa_87_1, fa_87_1p, eqlf_88, eqlf_88p, eqlf0_88, eqlf0_88p, fa_87_2, fa_87_2p, fa_27_0, fa_27_0p, eqlf_45, eqlf_45p, eqlf0_45, eqlf0_45p, fa_50_1, fa_50_1p, fa_50_0, fa_50_0p, fa_76_2, fa_76_2p, ln_56_3, ln_56_3p, fa_76_0, fa_76_0p, fa_76_1, fa_76_1p, fa_76_3, fa_76_3p, fa_76_4, fa_76_4p, fa_76_5, fa_76_5p, fa_76_6, fa_76_6p, fa_76_7, fa_76_7p, fa_76_8, fa_76_8p, fa_76_9, fa_76_9p, fa_76_10, fa_76_10p, fa_76_11, fa_76_11p, fa_76_12, fa_76_12p, fa_76_13, fa_76_13p, fa_76_14, fa_76_14p, fa_76_15, fa_76_15p, fa_76_16, fa_76_16p, fa_76_17, fa_76_17p, fa_76_18, fa_76_18p, fa_76_19, fa_76_19p, fa_76_20, fa_76_20p, cv_21_85, cv_21_85p, cv_85_21, cv_85_21p, cv_5_81, cv_5_81p, cv_85_5, cv_85_5p, fa_87_0, fa_87_0p, cv_85_2, cv_85_2p, cv_2_21, cv_2_21p, ln_54_3, ln_54_3p, cv_3_5, cv_3_5p, ln_55_3, ln_55_3p, ln_119_3, ln_119_3p, ln_57_3, ln_57_3p, ln_58_3, ln_58_3p, ln_123_3, ln_123_3p, ln_59_3, ln_59_3p, ln_127_3, ln_127_3p, ln_60_3, ln_60_3p, ln_131_3, ln_131_3p, ln_61_3, ln_61_3p, ln_135_3, ln_135_3p, ln_62_3, ln_62_3p, ln_143_3, ln_143_3p, ln_63_3, ln_63_3p, ln_149_3, ln_149_3p, ln_64_3, ln_64_3p, ln_153_3, ln_153_3p, ln_65_3, ln_65_3p, ln_157_3, ln_157_3p, ln_66_3, ln_66_3p, ln_161_3, ln_161_3p, ln_67_3, ln_67_3p, ln_165_3, ln_165_3p, ln_68_3, ln_68_3p, ln_171_3, ln_171_3p, ln_69_3, ln_69_3p, ln_175_3, ln_175_3p, ln_70_3, ln_70_3p, ln_179_3, ln_179_3p, ln_71_3, ln_71_3p, ln_183_3, ln_183_3p, ln_72_3, ln_72_3p, ln_187_3, ln_187_3p, ln_73_3, ln_73_3p, ln_191_3, ln_191_3p, ln_74_3, ln_74_3p, cv_5_85, cv_5_85p, fa_125_1, fa_125_1p, fa_129_1, fa_129_1p, fa_133_7, fa_133_7p, fa_141_1, fa_141_1p, fa_137_2, fa_137_2p, fa_147_6, fa_147_6p, fa_151_0, fa_151_0p, fa_155_0, fa_155_0p, fa_159_1, fa_159_1p, fa_163_0, fa_163_0p, fa_169_3, fa_169_3p, fa_173_2, fa_173_2p, fa_177_0, fa_177_0p, fa_181_0, fa_181_0p, fa_185_6, fa_185_6p, fa_189_1, fa_189_1p, fa_193_4, fa_193_4p, cv_85_81, cv_85_81p, cv_81_5, cv_81_5p, cv_3_115, cv_3_115p, cv_3_85, cv_3_85p, cv_5_3, cv_5_3p, cv_115_81, cv_115_81p, o_add, o_addp, o_sub, o_subp, o_mul, o_mulp, o_lss, o_lssp, o_leq, o_leqp, o_gtr, o_gtrp, o_geq, o_geqp, o_eql, o_eqlp, o_neq, o_neqp, os_eql, os_eqlp, os_neq, os_neqp, o_and, o_andp, o_or, o_orp, o_xor, o_xorp, o_not, o_notp, o_pickT, o_pickTp, o_pickF, o_pickFp, o_ext1_0, o_ext1_0p, o_ext2_0, o_ext2_0p, o_ext2_1, o_ext2_1p, o_ext3_0, o_ext3_0p, o_ext3_1, o_ext3_1p, o_ext3_2, o_ext3_2p, o_ext4_0, o_ext4_0p, o_ext4_1, o_ext4_1p, o_ext4_2, o_ext4_2p, o_ext4_3, o_ext4_3p, o_ext5_0, o_ext5_0p, o_ext5_1, o_ext5_1p, o_ext5_2, o_ext5_2p, o_ext5_3, o_ext5_3p, o_ext5_4, o_ext5_4p, o_max, o_maxp, o_min, o_minp, o_fn, o_fnp, o_chk, o_chkp, condT, condF, cond_decide, cond_beq, cond_bne, cond_not, guardW_true, guardW_ff, guardW_tf, guardW_ft, guardV_true, guardV_ff, guardV_tf, guardV_ft, still_tt, still_ff, still_tf, still_ft, guardV_u, guardW_u, still_u, Nat.zero_add, Nat.add_zero, beq_self_eq_true, bne_self_eq_false, Int.reduceBEq, Int.reduceBNe, Int.reduceLT, Int.reduceLE, decide_true, decide_false, Bool.not_true, Bool.not_false])
    exact gets_int codec_i32 (RdrAt.le h) (.inr ⟨rfl, h1, hS⟩)
/-- Bytes behind their number. -/
def encL (k : List UInt8) : List UInt8 := enc 4 (IntKind.i32.wrap k.length) ++ k
def okL (most : Int) (k : List UInt8) : Prop := (k.length : Int) ≤ most ∧ k.length ≤ 2147483647
theorem encL_uniq {all : List UInt8} {off : Nat} {k m : List UInt8} (hk : k.length ≤ 2147483647) (hm : m.length ≤ 2147483647) (h1 : Has all off (encL k)) (h2 : Has all off (encL m)) : k = m := by
  obtain ⟨a1, b1⟩ := Has.split.1 h1
  obtain ⟨a2, b2⟩ := Has.split.1 h2
  have t1 := a1.take
  have t2 := a2.take
  rw [enc_length] at t1 t2 b1 b2
  have e := t1.symm.trans t2
  have d1 := dec_enc 4 (IntKind.i32.wrap k.length)
  have d2 := dec_enc 4 (IntKind.i32.wrap m.length)
  rw [e, d2, wr_i32 (by omega) (by omega), wr_i32 (by omega) (by omega)] at d1
  have hl : k.length = m.length := by omega
  have u1 := b1.take
  have u2 := b2.take
  rw [← u1, ← u2, hl]
/-- What a call answers that reads bytes into memory of their own. -/
def GetsB (e : List UInt8 → List UInt8) (ok : List UInt8 → Prop) (g : Nat) (B : Option Nat) (all : List UInt8) (off : Nat) (err : Int) (o : World) (R : List HProp) (r : Value) (w' : World) : Prop :=
  (∃ k, ok k ∧ err = 0 ∧ Has all off (e k) ∧ (∀ y, ok y → Has all off (e y) → y = k) ∧ St o w' (own 5 1 r k.length (cb k) :: RdrAt g B all (off + (e k).length) 0 :: R)) ∨
  ((∀ x, ok x → ¬ (err = 0 ∧ Has all off (e x))) ∧ ∃ off' e', (e' ≠ 0 ∧ off' = off) ∧ St o w' (own 5 1 r 0 (cb []) :: RdrAt g B all off' e' :: R))
end
end Go.Proofs.YtklojohafbmonaaDoor

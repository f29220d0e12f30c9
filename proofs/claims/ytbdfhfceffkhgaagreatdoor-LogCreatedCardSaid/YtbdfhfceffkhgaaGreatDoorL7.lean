
/- Numbers to the base 16: FormatInt; the names of segments. -/
import Derived.Test.YtbdfhfceffkhgaaGreatDoorL2
import Derived.Test.YtbdfhfceffkhgaaGreatDoorT6
import Derived.Test.YtbdfhfceffkhgaaGreatDoorShIns
import Derived.Laws.Concat
set_option linter.unusedVariables false
set_option linter.unusedSimpArgs false
namespace Go.Proofs.YtbdfhfceffkhgaaGreatDoor
open Go.Sh
open Tryz renaming prog → π
def dbTab:List Int:=[0,1,56,2,57,49,28,3,61,58,42,50,38,29,17,4,62,47,59,36,45,43,51,22,53,39,33,30,24,18,12,5,63,55,48,27,60,41,37,16,46,35,44,21,52,32,23,11,54,26,40,15,34,20,31,10,25,14,19,9,13,8,7,6]
def Bits (o:World):Prop:=Lib.TabIs π o "math/bits.deBruijn64tab" .u8 dbTab
def digs:List UInt8:=[48,49,50,51,52,53,54,55,56,57,97,98,99,100,101,102,103,104,105,106,107,108,109,110,111,112,113,114,115,116,117,118,119,120,121,122]
theorem fdN (n m:Nat) (h:0 < m):((n:Int)).fdiv (m:Int)=((n / m:Nat):Int):=by
 rw [Int.fdiv_eq_ediv_of_nonneg _ (Int.natCast_nonneg _)]; rfl
theorem rk {P:Program} {Z:PZ} {s:Sem Value} {w:World} {v:Value} {kk:PQ} (h:s.run P w=.ok v w) (hk:kk v w):rN P Z s w kk:=r1 h hk
section
variable (Z:PZ) {o w:World} {R As:List HProp}
theorem tz16 (hB:Bits o) (ho:old o ∈ R) (h:St o w R):CallV π Z 192 #[.int .u64 16] w fun r w'=>r=.int .i64 4∧w'=w:=by
 refine f192.calls ?_
 unfold f192.sh
 (try simp only [cv_131_37,condF])
 refine f205.calls ?_
 unfold f205.sh
 refine rk (v:=.bool false) (by kernel_rfl) ?_
 rw [condF]
 refine rk (v:=.int .u64 18446744073709551600) (by kernel_rfl) (rk (v:=.int .u64 16) (by kernel_rfl) (rk (v:=.int .u64 4573923408821661840) (by kernel_rfl) (rk (v:=.int .u64 15) (by kernel_rfl) ?_)))
 have hl:π.arrayLen 255=64:=by kernel_rfl
 have he:π.elem 255=5:=by kernel_rfl
 have hs:(sizeOf 5).run π w=.ok 1 w:=by kernel_rfl
 have hT:Lib.TabIs π w "math/bits.deBruijn64tab" .u8 dbTab:=Lib.tabBelow_of_tabIs hB w (h.below ho)
 have hc:w.cell? ⟨5,15,none⟩=some (.int .u8 4):=hT.cell (by kernel_rfl) 15 (by decide)
 have hix:(Instr.indexAt 255 (.pointer (some ⟨5,0,none⟩)) (.int .u64 15)).run π w=.ok (.pointer (some ⟨5,15,none⟩)) w:=by
  rw [run_indexAt_array _ _ _ _ _ (by kernel_rfl),hl,he,hs,if_pos ⟨by omega,by omega⟩]
  rfl
 refine r1 hix (r_load one5 hc (rk (v:=.int .i64 4) (by kernel_rfl) ?_))
 exact ⟨rfl,rfl⟩
theorem run_ix65 (b:Nat) (i:Nat) (hi:i < 65) (w:World):(Instr.indexAt 240 (.pointer (some ⟨b,0,none⟩)) (.int .i64 i)).run π w=.ok (.pointer (some ⟨b,i,none⟩)) w:=by
 have hl:π.arrayLen 240=65:=by kernel_rfl
 have he:π.elem 240=5:=by kernel_rfl
 have hs:(sizeOf 5).run π w=.ok 1 w:=by kernel_rfl
 rw [run_indexAt_array _ _ _ _ _ (by kernel_rfl),hl,he,hs,if_pos ⟨by omega,by omega⟩]
 simp [Result.andThen,Addr.add]
 intro h0
 omega
theorem run_arr65 (b i:Nat) (hi:i < 65) (w:World):(Instr.sliceAt 240 (.pointer (some ⟨b,0,none⟩)) (some (.int .i64 i)) none none).run π w=.ok (.slice (some ⟨b,i,none⟩) (65 - i) (65 - i)) w:=by
 have hs:(sizeOf 5).run π w=.ok 1 w:=by kernel_rfl
 have h1:i≤65:=by omega
 have h2:¬ 65=i:=by omega
 simp [Instr.sliceAt,run_underlying Tryz.underlying240,Instr.sureAddr,Instr.sliceBounds,Instr.sliceBound,asIntOf,hs,Addr.add,h1,h2]
 intro h; omega
theorem digs_at {d:Nat} (h:d < 16):∃hi:d < digs.length,digs[d]=hexd d:=by
 have key:∀d:Fin 16,digs[d.1]? = some (hexd d.1):=by decide
 have hi:d < digs.length:=by simp [digs]; omega
 have:=key ⟨d,h⟩
 rw [List.getElem?_eq_getElem hi] at this
 exact ⟨hi,Option.some.inj this⟩
theorem and15 (v:Nat) (hv:v < 9223372036854775808):IntKind.u64.wrap (BitVec.ofInt IntKind.u64.bits (v:Int) &&& BitVec.ofInt IntKind.u64.bits (15:Int)).toNat=((v % 16:Nat):Int):=by
 have e:(BitVec.ofInt 64 (v:Int) &&& BitVec.ofInt 64 ((15:Nat):Int)).toNat=v % 16:=by
  rw [BitVec.ofInt_natCast,BitVec.ofInt_natCast,BitVec.toNat_and,BitVec.toNat_ofNat,BitVec.toNat_ofNat,Nat.mod_eq_of_lt (a:=v) (by omega),Nat.mod_eq_of_lt (a:=15) (by omega)]
  exact Nat.and_two_pow_sub_one_eq_mod v 4
 have e2:(BitVec.ofInt IntKind.u64.bits (v:Int) &&& BitVec.ofInt IntKind.u64.bits (15:Int)).toNat=v % 16:=e
 rw [e2]
 exact wr_u64 (by omega) (by omega)
theorem fmtBits (n:Nat) (hn:n < 9223372036854775808) (hB:Bits o) (ho:old o ∈ R) (h:St o w R):CallV π Z 145 #[.slice none 0 0,.int .u64 n,.int .i64 16,.bool false,.bool false] w fun r w'=>r=.tuple #[.slice none 0 0,.string (str (hexL n))]∧St o w' R:=by
 refine f145.calls ?_
 unfold f145.sh
 intro j1 hj1
 (try simp only [o_lss,Int.reduceLT,decide_false,o_pickF,guardW_ff,o_eql,Int.reduceBEq,o_gtr,condF])
 refine hj1 _ fun _=>?_
 refine r_alloc h ze240 fun g w1 hS=>?_
 intro j3 hj3
 (try simp only [condF])
 refine hj3 _ _ fun _=>?_
 intro j5 hj5
 have hpow:CallV π Z 191 #[.int .i64 16] w1 fun r w'=>r=.bool true∧w'=w1:=by
  refine f191.calls ?_
  unfold f191.sh
  refine rk (v:=.int .i64 15) (by kernel_rfl) (rk (v:=.int .i64 0) (by kernel_rfl) (rk (v:=.bool true) (by kernel_rfl) ⟨rfl,rfl⟩))
 refine hpow.mono fun r w2 ⟨hr,hw⟩=>?_
 subst hr hw
 rw [condT]
 refine rk (v:=.int .u64 16) (by kernel_rfl) ?_
 refine (tz16 Z hB (List.mem_cons_of_mem _ ho) hS).mono fun r w2 ⟨hr,hw⟩=>?_
 subst hr hw
 refine rk (v:=.int .u64 4) (by kernel_rfl) (rk (v:=.int .u64 16) (by kernel_rfl) (rk (v:=.int .u64 16) (by kernel_rfl) (rk (v:=.int .u64 15) (by kernel_rfl) ?_)))
 have hdig:(Value.string { data:=#[48,49,50,51,52,53,54,55,56,57,97,98,99,100,101,102,103,104,105,106,107,108,109,110,111,112,113,114,115,116,117,118,119,120,121,122] })=.string (str digs):=rfl
 have put:∀(v:Nat) (pre:List Value) (suf:List UInt8) (w:World) (kk:World→Prop),v < 16→pre.length=65 - suf.length→suf.length≤16→St o w (blk g 240 (pre++cb suf)::R)→(∀w',St o w' (blk g 240 (pre.take (64 - suf.length)++cb (hexd v::suf))::R)→kk w') →
   rO π Z (Instr.storeAt 5 (.pointer (some ⟨g,64 - suf.length,none⟩)) (.int .u8 ((hexd v).toNat:Int))) w kk:=fun v pre suf w kk hv hp hs hS hk=>by
  refine r_store hS one5 (by rw [List.length_append,hp]; omega) rfl fun w' hS=>hk w' ?_
  have e:(pre++cb suf).set (64 - suf.length) (.int .u8 ((hexd v).toNat:Int))=pre.take (64 - suf.length)++cb (hexd v::suf):=by
   rw [List.set_append_left _ _ (by omega),List.set_eq_take_append_cons_drop,if_pos (by omega),List.drop_eq_nil_of_le (by omega),List.append_assoc]
   rfl
  rw [e] at hS
  exact hS
 have fin:∀(pre:List Value) (suf:List UInt8) (w:World),pre.length=64 - (suf.length - 1)→suf.length≤16→1≤suf.length→suf=hexL n→St o w (blk g 240 (pre++cb suf)::R)→j5 (.int .i64 ((65 - suf.length:Nat):Int)) w:=fun pre suf w hp hs hs1 he hS=>by
  refine hj5 _ _ fun _=>?_
  intro j7 hj7
  rw [condF]
  refine hj7 _ _ fun _=>?_
  rw [condF]
  refine r1 (run_arr65 g (65 - suf.length) (by omega) _) ?_
  have hrd:Rd w 1 (.slice (some ⟨g,65 - suf.length,none⟩) suf.length suf.length) suf.length (cb suf):=⟨by rw [cb_length,Nat.mul_one],by simp only [maxLen]; omega,.inr ⟨_,_,rfl,fun j u hu=>by
   rw [add_addr,cell_of_blk (hS.mem_blk m0),List.getElem?_append_right (by omega),show 65 - suf.length+j - pre.length=j by omega]
   exact hu⟩⟩
  rw [show 65 - (65 - suf.length)=suf.length by omega]
  refine r1 (run_toString Tryz.underlying43 Tryz.underlying5 Tryz.underlying9 (l:=suf) hrd) ?_
  rw [he]
  exact ⟨rfl,hS.drop⟩
 refine ⟨fun m t23 t24 w=>∃(k v:Nat) (pre:List Value) (suf:List UInt8),t23=.int .u64 v∧t24=.int .i64 ((65 - suf.length:Nat):Int)∧m=v∧v≤n∧v < 16 ^ k∧k+suf.length=16∧1≤k∧hexR k v++suf=hexL n∧pre.length=65 - suf.length∧St o w (blk g 240 (pre++cb suf)::R),
  ⟨n,16,n,List.replicate 65 (.int .u8 0),[],rfl,rfl,rfl,Nat.le_refl _,by omega,rfl,by omega,by simp [hexL],by simp,?_⟩,?_⟩
 ·have e:List.replicate 65 (Value.int .u8 0)++cb []=(Value.agg #[.int .u8 0,.int .u8 0,.int .u8 0,.int .u8 0,.int .u8 0,.int .u8 0,.int .u8 0,.int .u8 0,.int .u8 0,.int .u8 0,.int .u8 0,.int .u8 0,.int .u8 0,.int .u8 0,.int .u8 0,.int .u8 0,.int .u8 0,.int .u8 0,.int .u8 0,.int .u8 0,.int .u8 0,.int .u8 0,.int .u8 0,.int .u8 0,.int .u8 0,.int .u8 0,.int .u8 0,.int .u8 0,.int .u8 0,.int .u8 0,.int .u8 0,.int .u8 0,.int .u8 0,.int .u8 0,.int .u8 0,.int .u8 0,.int .u8 0,.int .u8 0,.int .u8 0,.int .u8 0,.int .u8 0,.int .u8 0,.int .u8 0,.int .u8 0,.int .u8 0,.int .u8 0,.int .u8 0,.int .u8 0,.int .u8 0,.int .u8 0,.int .u8 0,.int .u8 0,.int .u8 0,.int .u8 0,.int .u8 0,.int .u8 0,.int .u8 0,.int .u8 0,.int .u8 0,.int .u8 0,.int .u8 0,.int .u8 0,.int .u8 0,.int .u8 0,.int .u8 0]).cells.toList:=by kernel_rfl
  rw [e]
  exact hS
 rintro m _ _ w2 ⟨k,v,pre,suf,rfl,rfl,rfl,hvn,hvk,hk,hk1,he,hp,hS⟩ _
 refine r1 (run_geq _ _ _ _ _ _) ?_
 have hi64:IntKind.i64.wrap (((65 - suf.length:Nat):Int) - 1)=((64 - suf.length:Nat):Int):=by rw [wr_i64 (by omega) (by omega)]; omega
 by_cases hge:16≤m
 ·rw [decide_eq_true (by omega:(16:Int)≤(m:Int)),condT]
  refine r1 (run_sub _ _ _ _ _ _) ?_
  rw [hi64]
  refine r1 (run_and _ _ _ _ _ _) ?_
  rw [and15 m (by omega),hdig]
  obtain ⟨hd,hde⟩:=digs_at (d:=m % 16) (Nat.mod_lt _ (by omega))
  refine r1 (run_indexStr st9 .u64 digs _ hd _) ?_
  rw [hde]
  refine r1 (run_ix65 g (64 - suf.length) (by omega) _) ?_
  refine put (m % 16) pre suf _ _ (Nat.mod_lt _ (by omega)) hp (by omega) hS fun w3 hS=>?_
  refine r1 (run_shr _ _ _ .u64 .u64 _ 4 (by omega)) ?_
  rw [show ((2:Int) ^ min (Int.toNat 4) IntKind.u64.bits)=((16:Nat):Int) by decide,fdN m 16 (by decide)]
  obtain ⟨k',rfl⟩:∃k',k=k'+1:=⟨k - 1,by omega⟩
  have hk2:1≤k':=by
   rcases Nat.eq_zero_or_pos k' with h0 | h0
   ·subst h0; simp at hvk; omega
   ·exact h0
  refine ⟨m / 16,by omega,k',m / 16,pre.take (64 - suf.length),hexd (m % 16)::suf,rfl,?_,rfl,by omega,by rw [Nat.pow_succ] at hvk; omega,by simp; omega,hk2,?_,by rw [List.length_take,List.length_cons]; omega,hS⟩
  ·rw [List.length_cons]; congr 2; omega
  ·rw [← he,hexR,if_neg (by omega),List.append_assoc]; rfl
 ·rw [decide_eq_false (by omega:¬ (16:Int)≤(m:Int)),condF]
  refine r1 (run_sub _ _ _ _ _ _) ?_
  rw [hi64,hdig]
  obtain ⟨hd,hde⟩:=digs_at (d:=m) (by omega)
  refine r1 (run_indexStr st9 .u64 digs _ hd _) ?_
  rw [hde]
  refine r1 (run_ix65 g (64 - suf.length) (by omega) _) ?_
  refine put m pre suf _ _ (by omega) hp (by omega) hS fun w3 hS=>?_
  have:=fin (pre.take (64 - suf.length)) (hexd m::suf) w3 (by rw [List.length_take,List.length_cons]; omega) (by simp; omega) (by simp) (by
   obtain ⟨k',rfl⟩:∃k',k=k'+1:=⟨k - 1,by omega⟩
   rw [← he,hexR,if_pos (by omega)]; rfl) hS
  rw [List.length_cons,show 65 - (suf.length+1)=64 - suf.length by omega] at this
  exact this
theorem fmtInt (n:Int) (h0:0≤n) (h1:n≤9223372036854775807) (hB:Bits o) (ho:old o ∈ R) (h:St o w R):CallV π Z 68 #[.int .i64 n,.int .i64 16] w fun r w'=>r=.string (str (hexL n.toNat))∧St o w' R:=by
 obtain ⟨k,rfl⟩:∃k:Nat,n=k:=⟨n.toNat,by omega⟩
 refine f68.calls ?_
 unfold f68.sh
 refine f92.calls ?_
 unfold f92.sh
 refine rk (v:=.bool false) (by kernel_rfl) ?_
 rw [condF]
 (try simp only [o_lss,cv_2_162])
 rw [wr_u64 (x:=(k:Int)) (by omega) (by omega),decide_eq_false (by omega:¬ (k:Int) < 0)]
 refine (fmtBits Z k (by omega) hB ho h).mono fun r w1 ⟨hr,hS⟩=>?_
 subst hr
 (try simp only [o_ext2_1,o_ext2_0])
 exact ⟨by first | rfl | trivial,hS⟩
theorem lPrefix (n:Int) (h0:0≤n) (h1:n≤9223372036854775807) (hB:Bits o) (ho:old o ∈ R) (h:St o w R):CallV π Z 61 #[.int .i64 n] w fun r w'=>r=.string (str (preB n.toNat))∧St o w' R:=by
 refine f61.calls ?_
 unfold f61.sh
 refine (fmtInt Z n h0 h1 hB ho h).mono fun r w1 ⟨hr,hS⟩=>?_
 subst hr
 have hl:(hexL n.toNat).length≤16:=hexR_len _ _
 have e1:∀w,(Op.stringOp .add (str [108,111,103,46]) (str (hexL n.toNat))).run π w=.ok (.string (str ([108,111,103,46]++hexL n.toNat))) w:=fun w=>run_string_add_lists w [108,111,103,46] (hexL n.toNat) (by simp) (by omega)
 refine r1 (e1 _) ?_
 have e2:∀w,(Op.stringOp .add (str ([108,111,103,46]++hexL n.toNat)) (str [46])).run π w=.ok (.string (str (([108,111,103,46]++hexL n.toNat)++[46]))) w:=fun w=>run_string_add_lists w _ [46] (by rw [List.length_append]; simp; omega) (by simp)
 refine r1 (e2 _) ⟨?_,hS⟩
 simp [preB]
theorem lName (a k:Int) (ha : -9223372036854775808≤a∧a≤9223372036854775807) (hk : -9223372036854775808≤k∧k≤9223372036854775807) (hB:Bits o) (ho:old o ∈ R) (h:St o w R):CallV π Z 42 #[.int .i64 a,.int .i64 k] w fun r w'=>r=.string (str (nameI a k))∧St o w' R:=by
 refine f42.calls ?_
 unfold f42.sh
 unfold nameI
 by_cases b1:a < 1
 ·rw [if_pos (.inl b1)]
  (try simp only [o_lss,b1,decide_true,o_pickT,condT,guardW_tf])
  exact ⟨by first | rfl | trivial,h⟩
 by_cases b2:k < 1
 ·rw [if_pos (.inr (.inl b2))]
  (try simp only [o_lss,b1,decide_false,o_pickF,guardW_ff,b2,decide_true,o_pickT,condT,guardW_tf])
  exact ⟨by first | rfl | trivial,h⟩
 by_cases b3:4095 < k
 ·rw [if_pos (.inr (.inr b3))]
  (try simp only [o_lss,b1,decide_false,o_pickF,guardW_ff,b2,o_gtr,b3,decide_true,condT])
  exact ⟨by first | rfl | trivial,h⟩
 rw [if_neg (by omega)]
 (try simp only [o_lss,b1,decide_false,o_pickF,guardW_ff,b2,o_gtr,b3,condF])
 refine (lPrefix Z a (by omega) ha.2 hB ho h).mono fun r w1 ⟨hr,hS⟩=>?_
 subst hr
 refine (fmtInt Z k (by omega) hk.2 hB ho hS).mono fun r w2 ⟨hr,hS⟩=>?_
 subst hr
 have h1:(hexL a.toNat).length≤16:=hexR_len _ _
 have h2:(hexL k.toNat).length≤16:=hexR_len _ _
 have e:(Op.stringOp .add (str (preB a.toNat)) (str (hexL k.toNat))).run π w2=.ok (.string (str (preB a.toNat++hexL k.toNat))) w2:=run_string_add_lists w2 _ _ (by simp [preB]; omega) (by omega)
 exact r1 e ⟨rfl,hS⟩
end
end Go.Proofs.YtbdfhfceffkhgaaGreatDoor


/- Numbers to the base 16: CutPrefix, ParseInt. -/
set_option linter.unusedVariables false
set_option linter.unusedSimpArgs false
namespace Go.Proofs.YtbdfhfceffkhgaaGreatDoor
open Go.Sh
open Tryz renaming prog → π
def isHex (s:List UInt8):Prop:=∀c ∈ s,∃d,d < 16∧c=hexd d
theorem hexL_hex {n:Nat} (h:n < 18446744073709551616):isHex (hexL n):=hexR_all 16 n (by have:=p16; omega)
theorem unhex_take {s:List UInt8} (hs:isHex s):∀i,i≤s.length→unhex (s.take i) < 16 ^ i
 | 0,_=>by simp [unhex]
 | i+1,hi=>by
  have ih:=unhex_take hs i (by omega)
  obtain ⟨d,hd,e⟩:=hs s[i] (List.getElem_mem _)
  rw [List.take_succ_eq_append_getElem (by omega),unhex_snoc,e,dv_hexd hd,Nat.pow_succ]
  omega
section
variable (Z:PZ) {o w:World} {R As:List HProp}
theorem or32 {d:Nat} (h:10≤d∧d < 16) (w:World):(binOp .or 5 (.int .u8 ((hexd d).toNat:Int)) (.int .u8 32)).run π w=.ok (.int .u8 ((hexd d).toNat:Int)) w:=by
 have key:∀d:Fin 16,10≤d.1→IntKind.u8.wrap ((BitVec.ofInt IntKind.u8.bits ((hexd d.1).toNat:Int) ||| BitVec.ofInt IntKind.u8.bits (32:Int)).toNat:Int)=((hexd d.1).toNat:Int):=by decide
 rw [run_or,key ⟨d,h.2⟩ h.1]
theorem lowerC {d:Nat} (h:10≤d∧d < 16):CallV π Z 166 #[.int .u8 ((hexd d).toNat:Int)] w fun r w'=>r=.int .u8 ((hexd d).toNat:Int)∧w'=w:=by
 refine f166.calls ?_
 unfold f166.sh
 exact r1 (or32 h w) ⟨rfl,rfl⟩
theorem parseU (s:List UInt8) (hs:isHex s) (h1:1≤s.length) (h2:s.length≤15) (h:St o w R) :
  CallV π Z 117 #[.string (str s),.int .i64 16,.int .i64 64] w fun r w'=>r=.tuple #[.int .u64 (unhex s:Nat),.nilIface]∧St o w' R:=by
 have hne:decide (s=[])=false:=by simp; intro e; subst e; simp at h1
 refine f117.calls ?_
 unfold f117.sh
 refine r1 (run_eql_strS _ _ _ s [] _) ?_
 rw [hne,condF]
 refine rk (v:=.bool false) (by kernel_rfl) ?_
 intro j4 hj4
 (try simp only [ln_9_3,o_geq,o_eql,Int.reduceBEq,condF,o_leq,Int.reduceLE,decide_true,o_pickT,guardW_true,condT])
 refine hj4 _ _ _ fun _=>?_
 intro j7 hj7
 (try simp only [o_lss,Int.reduceLT,decide_false,o_pickF,guardW_ff,o_gtr,condF,o_eql,Int.reduceBEq])
 refine hj7 _ _ fun _=>?_
 intro j9 hj9
 (try simp only [cv_3_162,o_eql,beq_self_eq_true,condT,Int.reduceBEq,condF])
 refine hj9 _ _ fun _=>?_
 clear hj4 hj7 hj9
 refine rk (v:=.int .u64 64) (by kernel_rfl) (rk (v:=.int .u64 0) (by kernel_rfl) (rk (v:=.int .u64 18446744073709551615) (by kernel_rfl) ?_))
 refine r_toBytes (str s) h Tryz.underlying9 el43 Tryz.underlying5 (by rw [str_size]; simp only [maxLen]; omega) fun v w1 hS=>?_
 have hS:St o w1 (own 5 1 v s.length (cb s)::R):=hS
 obtain ⟨va,vc,rfl⟩:=hS.own_form
 (try simp only [cv_3_162,cv_3_5,ln_43_3])
 refine ⟨fun m t17 t18 t19 w=>∃i:Nat,t17=.bool false∧t18=.int .u64 (unhex (s.take i):Nat)∧t19=.int .i64 i∧m+i=s.length∧St o w (own 5 1 (.slice va s.length vc) s.length (cb s)::R),⟨s.length,0,rfl,rfl,rfl,rfl,hS⟩,?_⟩
 rintro m _ _ _ w2 ⟨i,rfl,rfl,rfl,hm,hS⟩ _
 by_cases hlt:i < s.length
 case neg=>
  have e1:¬ (i:Int) < (s.length:Int):=by omega
  (try simp only [o_add,o_mul,o_geq,cond_decide,o_pickF,condF,guardW_ft,o_lss,e1,decide_false])
  rw [List.take_of_length_le (by omega)]
  exact ⟨by first | rfl | trivial,hS.drop⟩
 have e1:(i:Int) < (s.length:Int):=by omega
 (try simp only [o_add,o_mul,o_geq,cond_decide,o_pickF,condF,guardW_ft,o_lss,e1,decide_true,condT])
 intro j21 hj21
 obtain ⟨p,hp,hpc⟩:=rd_index (hS.own_rd m0) i hlt
 refine r1 (hp _) (r_load one5 hpc ?_)
 obtain ⟨d,hd,he⟩:=hs s[i] (List.getElem_mem _)
 have hto:=hexd_to hd
 rw [he]
 intro j27 hj27
 have hv1:=unhex_take hs i (by omega)
 have hv2:=unhex_take hs (i+1) (by omega)
 have hv:unhex (s.take (i+1))=unhex (s.take i) * 16+d:=by
  rw [List.take_succ_eq_append_getElem hlt,unhex_snoc,he,dv_hexd hd]
 have hb1:16 ^ i≤16 ^ 14:=Nat.pow_le_pow_right (by omega) (by omega)
 have hb2:16 ^ (i+1)≤16 ^ 15:=Nat.pow_le_pow_right (by omega) (by omega)
 have p14:16 ^ 14=72057594037927936:=by decide
 have p15:16 ^ 15=1152921504606846976:=by decide
 have next:j27 (.bool false) (.int .u8 d) w2:=by
  refine hj27 _ _ _ fun _=>?_
  have c1:IntKind.u8.wrap 16=16:=by decide
  have c2:IntKind.u64.wrap 16=16:=by decide
  have c3:IntKind.u64.wrap (((unhex (s.take i):Nat):Int) * 16)=((unhex (s.take i):Nat):Int) * 16:=wr_u64 (by omega) (by omega)
  have c4:IntKind.u64.wrap (d:Int)=d:=wr_u64 (by omega) (by omega)
  have c5:IntKind.u64.wrap (((unhex (s.take i):Nat):Int) * 16+(d:Int))=((unhex (s.take i):Nat):Int) * 16+(d:Int):=wr_u64 (by omega) (by omega)
  have e0:¬ (16:Int)≤(d:Int):=by omega
  have e1:¬ (1152921504606846976:Int)≤((unhex (s.take i):Nat):Int):=by omega
  have e2:¬ ((unhex (s.take i):Nat):Int) * 16+(d:Int) < ((unhex (s.take i):Nat):Int) * 16:=by omega
  have e3:¬ (18446744073709551615:Int) < ((unhex (s.take i):Nat):Int) * 16+(d:Int):=by omega
  rw [c1,c2,c3]
  refine r1 (run_geq _ _ _ _ _ _) ?_
  rw [decide_eq_false e0,condF]
  refine ⟨fun h=>absurd h e1,fun _=>?_⟩
  (try simp only [cv_5_162,c4,o_add,c5,o_lss,e2,decide_false,o_pickF,guardW_ff,o_gtr,e3,condF])
  refine hj21 _ _ _ fun _=>?_
  rw [wr_i64 (x:=(i:Int)+1) (by omega) (by omega)]
  exact ⟨m - 1,by omega,i+1,rfl,by rw [hv]; congr 1,rfl,by omega,hS⟩
 have e95:(((hexd d).toNat:Int) == 95)=false:=by
  rw [hto,beq_eq_false_iff_ne]
  split <;> omega
 by_cases h10:d < 10
 ·rw [if_pos h10] at hto
  have e2:(48:Int)≤((hexd d).toNat:Int):=by omega
  have e3:((hexd d).toNat:Int)≤57:=by omega
  (try simp only [o_sub,o_leq,e2,decide_true,o_pickT,guardW_true,e3,condT,o_eql,e95,o_pickF,condF,guardW_ft])
  rw [hto,show ((48+d:Nat):Int) - 48=d by omega,wr_u8 (x:=(d:Int)) (by omega) (by omega)]
  exact next
 ·rw [if_neg h10] at hto
  have e2:(48:Int)≤((hexd d).toNat:Int):=by omega
  have e3:¬ ((hexd d).toNat:Int)≤57:=by omega
  have e4:(97:Int)≤((hexd d).toNat:Int):=by omega
  have e5:((hexd d).toNat:Int)≤122:=by omega
  (try simp only [o_sub,o_leq,e2,decide_true,o_pickT,guardW_true,e3,decide_false,condF,o_eql,e95,o_pickF,guardW_ft])
  refine (lowerC Z (w:=w2) (d:=d) ⟨by omega,hd⟩).mono fun r w3 ⟨hr,hw⟩=>?_
  subst hr hw
  (try simp only [o_leq,e4,decide_true,o_pickT,guardW_true])
  refine (lowerC Z (w:=w3) (d:=d) ⟨by omega,hd⟩).mono fun r w4 ⟨hr,hw⟩=>?_
  subst hr hw
  (try simp only [o_leq,e5,decide_true,condT])
  refine (lowerC Z (w:=w4) (d:=d) ⟨by omega,hd⟩).mono fun r w5 ⟨hr,hw⟩=>?_
  subst hr hw
  (try simp only [o_sub,o_add])
  rw [hto,show ((87+d:Nat):Int) - 97=(d:Int) - 10 by omega,wr_u8 (x:=(d:Int) - 10) (by omega) (by omega),wr_u8 (x:=(d:Int) - 10+10) (by omega) (by omega),show (d:Int) - 10+10=d by omega]
  exact next
theorem parseI (s:List UInt8) (hs:isHex s) (h1:1≤s.length) (h2:s.length≤15) (h:St o w R) :
  CallV π Z 62 #[.string (str s),.int .i64 16,.int .i64 64] w fun r w'=>r=.tuple #[.int .i64 (unhex s:Nat),.nilIface]∧St o w' R:=by
 have hne:decide (s=[])=false:=by simp; intro e; subst e; simp at h1
 have hv:=unhex_take hs s.length (Nat.le_refl _)
 rw [List.take_length] at hv
 have hb:16 ^ s.length≤16 ^ 15:=Nat.pow_le_pow_right (by omega) h2
 have p15:16 ^ 15=1152921504606846976:=by decide
 refine f62.calls ?_
 unfold f62.sh
 apply CallV.mono (k:=fun r w'=>r=.tuple #[.int .i64 (unhex s:Nat),.nilIface]∧St o w' R)
 case hk=>
  rintro r w1 ⟨rfl,hS⟩
  (try simp only [o_ext2_1,o_ext2_0])
  refine rk (v:=.bool false) (by kernel_rfl) ?_
  rw [condF]
  exact ⟨by first | rfl | trivial,hS⟩
 refine f83.calls ?_
 unfold f83.sh
 refine r1 (run_eql_strS _ _ _ s [] _) ?_
 rw [hne,condF]
 intro j3 hj3
 refine r1 (run_indexStr st9 .i64 s 0 (by omega) _) ?_
 obtain ⟨d,hd,he⟩:=hs s[0] (List.getElem_mem _)
 have hto:=hexd_to hd
 have e43:(((hexd d).toNat:Int) == 43)=false:=by
  rw [hto,beq_eq_false_iff_ne]
  split <;> omega
 have e45:(((hexd d).toNat:Int) == 45)=false:=by
  rw [hto,beq_eq_false_iff_ne]
  split <;> omega
 rw [he]
 refine r1 (run_eql_int _ _ _ _ _ _ _ _) ?_
 rw [e43,condF]
 refine r1 (run_eql_int _ _ _ _ _ _ _ _) ?_
 rw [e45,condF]
 refine hj3 _ _ _ fun _=>?_
 refine (parseU Z s hs h1 h2 h).mono fun r w1 ⟨hr,hS⟩=>?_
 subst hr
 (try simp only [condF,o_pickF,guardW_ft,o_not,Bool.not_false,o_pickT,guardW_true,o_eql,Int.reduceBEq,o_ext2_1,o_ext2_0,cv_162_2])
 refine rk (v:=.bool false) (by kernel_rfl) ?_
 (try simp only [o_pickF,condF,guardW_ft])
 intro j14 hj14
 refine hj14 _ _ fun _=>?_
 refine rk (v:=.int .i64 63) (by kernel_rfl) (rk (v:=.int .u64 63) (by kernel_rfl) (rk (v:=.int .u64 9223372036854775808) (by kernel_rfl) ?_))
 refine r1 (run_geq _ _ _ _ _ _) ?_
 rw [decide_eq_false (by omega:¬ (9223372036854775808:Int)≤((unhex s:Nat):Int)),condF]
 intro j35 hj35
 refine hj35 _ _ fun _=>?_
 rw [wr_i64 (x:=((unhex s:Nat):Int)) (by omega) (by omega)]
 exact ⟨rfl,hS⟩
theorem run_sliceStr {t:TypeId} (h:isStrT π t=true) (l:List UInt8) (i:Nat) (hi:i≤l.length) (w:World):(Instr.sliceAt t (.string (str l)) (some (.int .i64 i)) none none).run π w=.ok (.string (str (l.drop i))) w:=by
 have hu:=isStrT_spec h
 have hsz:(str l).size=l.length:=rfl
 have e:(str l).extract i (str l).size=str (l.drop i):=by
  apply ByteArray.ext
  rw [ByteArray.data_extract]
  apply Array.ext'
  simp [str,hsz]
  show List.take (l.length - i) _=_
  exact List.take_of_length_le (by rw [List.length_drop]; exact Nat.le_refl _)
 simp [Instr.sliceAt,run_underlying hu,Instr.slice,Instr.sliceBounds,Instr.sliceBound,asIntOf,hsz,hi]
 rw [← hsz,e]
theorem run_sliceStrTo {t:TypeId} (h:isStrT π t=true) (l:List UInt8) (i:Nat) (hi:i≤l.length) (w:World):(Instr.sliceAt t (.string (str l)) none (some (.int .i64 i)) none).run π w=.ok (.string (str (l.take i))) w:=by
 have hu:=isStrT_spec h
 have hsz:(str l).size=l.length:=rfl
 have e:(str l).extract 0 i=str (l.take i):=by
  apply ByteArray.ext
  rw [ByteArray.data_extract]
  apply Array.ext'
  simp [str]
 simp [Instr.sliceAt,run_underlying hu,Instr.slice,Instr.sliceBounds,Instr.sliceBound,asIntOf,hsz,hi]
 rw [e]
theorem hasPre (s p:List UInt8):CallV π Z 116 #[.string (str s),.string (str p)] w fun r w'=>r=.bool (decide (s.take p.length=p))∧w'=w:=by
 refine f116.calls ?_
 unfold f116.sh
 by_cases hl:p.length≤s.length
 ·have e1:(p.length:Int)≤(s.length:Int):=by omega
  (try simp only [ln_9_3,str_size,o_geq,e1,decide_true,o_pickT,guardW_true])
  refine r1 (run_sliceStrTo st9 s p.length hl _) ?_
  (try simp only [os_eql])
  refine ⟨?_,by first | rfl | trivial⟩
  rw [str_toList,str_toList]
  congr 1
  rw [Bool.eq_iff_iff]
  simp
 ·have e1:¬ (p.length:Int)≤(s.length:Int):=by omega
  have e2:decide (s.take p.length=p)=false:=by
   rw [decide_eq_false_iff_not]
   intro e
   have:=congrArg List.length e
   rw [List.length_take] at this; omega
  rw [e2]
  (try simp only [ln_9_3,str_size,o_geq,e1,decide_false,o_pickF,guardW_ft])
  exact ⟨by first | rfl | trivial,by first | rfl | trivial⟩
theorem cutPre (s p:List UInt8):CallV π Z 60 #[.string (str s),.string (str p)] w fun r w'=>r=(if s.take p.length=p then .tuple #[.string (str (s.drop p.length)),.bool true] else .tuple #[.string (str s),.bool false])∧w'=w:=by
 refine f60.calls ?_
 unfold f60.sh
 apply CallV.mono (k:=fun r w'=>r=(if s.take p.length=p then .tuple #[.string (str (s.drop p.length)),.bool true] else .tuple #[.string (str s),.bool false])∧w'=w)
 case hk=>
  rintro r w1 ⟨rfl,rfl⟩
  split
  ·(try simp only [o_ext2_1,o_ext2_0])
   exact ⟨by first | rfl | trivial,by first | rfl | trivial⟩
  ·(try simp only [o_ext2_1,o_ext2_0])
   exact ⟨by first | rfl | trivial,by first | rfl | trivial⟩
 refine f82.calls ?_
 unfold f82.sh
 refine (hasPre Z s p).mono fun r w1 ⟨hr,hw⟩=>?_
 subst hr hw
 by_cases hp:s.take p.length=p
 ·rw [if_pos hp,decide_eq_true hp]
  have hl:p.length≤s.length:=by
   have:=congrArg List.length hp
   rw [List.length_take] at this; omega
  (try simp only [ln_9_3,o_not,Bool.not_true,condF])
  refine r1 (run_sliceStr st9 s p.length hl _) ?_
  exact ⟨by first | rfl | trivial,by first | rfl | trivial⟩
 ·rw [if_neg hp,decide_eq_false hp]
  (try simp only [ln_9_3,o_not,Bool.not_false,condT])
  exact ⟨by first | rfl | trivial,by first | rfl | trivial⟩
end

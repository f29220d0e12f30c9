/- Readers, to the letter: what each call answers, where the reader stands, which fault. -/
import Derived.Test.YtfijkedmbaghmaaGreatDoorP6
import Derived.Test.YtfijkedmbaghmaaGreatDoorShTwin
set_option linter.unusedVariables false
set_option linter.unusedSimpArgs false
namespace Go.Proofs.YtfijkedmbaghmaaGreatDoor
open Go.Sh
open Tryz renaming prog → π
def nmV (n:Nat) (all:List UInt8) (off:Nat) (err:Int):Nat × Nat × Int:=
 if err=0∧off+n≤all.length then (dec ((all.drop off).take n),off+n,0) else (0,off,if err=0 then 10 else err)
def szV (most:Int) (all:List UInt8) (off:Nat) (err:Int):List UInt8 × Nat × Int:=
 if err=0∧off+4≤all.length then
  if IntKind.i32.wrap (dec ((all.drop off).take 4)) < 0∨most < IntKind.i32.wrap (dec ((all.drop off).take 4)) then ([],off,11)
  else if off+4+(IntKind.i32.wrap (dec ((all.drop off).take 4))).toNat≤all.length then ((all.drop (off+4)).take (IntKind.i32.wrap (dec ((all.drop off).take 4))).toNat,off+4+(IntKind.i32.wrap (dec ((all.drop off).take 4))).toNat,0)
  else ([],off,10)
 else ([],off,if err=0 then 10 else err)
def blV (all:List UInt8) (off:Nat) (err:Int):Bool × Nat × Int:=
 if err=0∧off+1≤all.length then
  if 1 < dec ((all.drop off).take 1) then (false,off,12) else (dec ((all.drop off).take 1) == 1,off+1,0)
 else (false,off,if err=0 then 10 else err)
def ctV (most:Int) (all:List UInt8) (off:Nat) (err:Int):Int × Nat × Int:=
 if err=0∧off+4≤all.length then
  if IntKind.i32.wrap (dec ((all.drop off).take 4)) < 0∨most < IntKind.i32.wrap (dec ((all.drop off).take 4)) then (-1,off,11)
  else if off+4+(IntKind.i32.wrap (dec ((all.drop off).take 4))).toNat≤all.length then (IntKind.i32.wrap (dec ((all.drop off).take 4)),off+4,0)
  else (-1,off,10)
 else (-1,off,if err=0 then 10 else err)
theorem err_ne {err:Int}:((if err=0 then (10:Int) else err) == 0)=false:=by
 by_cases h:err=0
 ·rw [if_pos h]; rfl
 ·rw [if_neg h]; simpa using h
section
variable (Z:PZ) {o w:World} {R:List HProp} {g:Nat} {B:Option Nat} {all l:List UInt8} {off:Nat} {err:Int}
end
end Go.Proofs.YtfijkedmbaghmaaGreatDoor

/- The document's Reader, to the letter. -/
set_option linter.unusedVariables false
set_option linter.unusedSimpArgs false
namespace Go.Proofs.YtfijkedmbaghmaaGreatDoor
open Go.Sh
open Tryz renaming prog → π
def RefR (g:Nat) (all:List UInt8) (off:Nat) (err:Int):HProp:=fun h=>∃v,(off≤all.length∧all.length≤140737488355328)∧sep (blk g 235 [v,.int .i64 off,.int .i64 err]) (own 5 1 v all.length (cb all)) h
section
variable {o w:World} {R As:List HProp} {g:Nat} {all:List UInt8} {off:Nat} {err:Int}
theorem RefR.open (h:St o w (RefR g all off err::R)):∃v,(off≤all.length∧all.length≤140737488355328)∧St o w (blk g 235 [v,.int .i64 off,.int .i64 err]::own 5 1 v all.length (cb all)::R):=by
 obtain ⟨v,h⟩:=h.ex
 obtain ⟨h1,h⟩:=h.pure
 exact ⟨v,h1,h.sep⟩
theorem RefR.shut {v:Value} (h1:off≤all.length) (h2:all.length≤140737488355328) (h:St o w (blk g 235 [v,.int .i64 off,.int .i64 err]::own 5 1 v all.length (cb all)::R)):St o w (RefR g all off err::R):=(h.sep_intro.pure_intro ⟨h1,h2⟩).ex_intro v
theorem drop_dec {all:List UInt8} {off i:Nat} (h:off+i < all.length):dec ((all.drop off).take (i+1))=dec ((all.drop off).take i) * 256+(all[off+i]'h).toNat:=by
 rw [List.take_succ_eq_append_getElem (by rw [List.length_drop]; omega)]
 unfold dec
 rw [List.foldl_append]
 simp
theorem dec_take_lt (all:List UInt8) (off i:Nat) (hi:i≤7):dec ((all.drop off).take i) < 72057594037927936:=by
 have h1:=dec_lt ((all.drop off).take i)
 have h2:(256:Nat) ^ ((all.drop off).take i).length≤256 ^ 7:=Nat.pow_le_pow_right (by omega) (by rw [List.length_take]; omega)
 omega
theorem i32_shift (x:Int):IntKind.i32.wrap (x - 4294967296)=IntKind.i32.wrap x:=by
 rw [wrap_i32,wrap_i32]
 have h:(x - 4294967296) % 4294967296=x % 4294967296:=by omega
 rw [h]
theorem midB {v:Value} (hS:St o w (own 5 1 v all.length (cb all)::R)) (i n:Nat) (hi:i+n≤all.length) (q q':IntKind) :
  ∃x,(∀w,(Instr.sliceAt 30 v (some (.int q (i:Int))) (some (.int q' ((i+n:Nat):Int))) none).run π w=.ok x w)∧∀w':World,Rd w' 1 v all.length (cb all)→Rd w' 1 x ((all.drop i).take n).length (cb ((all.drop i).take n)):=by
 have hl:((all.drop i).take n).length=n:=by rw [List.length_take,List.length_drop]; omega
 obtain ⟨_,⟨hv,h0,_⟩ | ⟨b,cap,rest,hv,h1,h2,_,_⟩⟩:=hS.own_open
 ·have hn:n=0:=by omega
  have hi0:i=0:=by omega
  subst hv hn hi0
  refine ⟨.slice none 0 0,fun w=>?_,fun w' _=>?_⟩
  ·have:=run_slice_mid (P:=π) el30 none 0 0 q q' (0:Int) (0:Int) (Int.le_refl _) (Int.le_refl _) (Int.le_refl _) w
   exact this
  ·rw [List.take_zero]
   exact ⟨rfl,Nat.zero_le _,.inl ⟨0,rfl,rfl⟩⟩
 ·subst hv
  refine ⟨_,fun w=>run_slice_mid (P:=π) el30 (some ⟨b,0,none⟩) all.length cap q q' (i:Int) ((i+n:Nat):Int) (by omega) (by omega) (by omega) w,fun w' hr=>?_⟩
  have e1:((i+n:Nat):Int).toNat - (i:Int).toNat=n:=by omega
  have e2:(i:Int).toNat=i:=by omega
  rw [e1,e2,hl]
  obtain ⟨_,_,⟨_,hc,_⟩ | ⟨a,c,hc,hcell⟩⟩:=hr
  ·cases hc
  ·injection hc with hc1 _ hc2
   injection hc1 with hc1
   subst hc1; subst hc2
   by_cases hci:cap=i
   ·have hn:n=0:=by omega
    subst hn
    rw [if_pos hci,List.take_zero]
    exact ⟨rfl,Nat.zero_le _,.inr ⟨_,_,rfl,fun j u hu=>by simp [cb] at hu⟩⟩
   ·rw [if_neg hci]
    refine ⟨by rw [cb_length,hl,Nat.mul_one],by omega,.inr ⟨_,_,rfl,fun j u hu=>?_⟩⟩
    have hj:=(List.getElem?_eq_some_iff.1 hu).1
    rw [cb_length,hl] at hj
    have hh:=hcell (i+j) u (by
     rw [← hu]
     simp only [cb,List.getElem?_map,List.getElem?_take,List.getElem?_drop]
     rw [if_pos hj])
    rw [Nat.mul_one]
    rw [add_addr] at hh
    show w'.cell? (((⟨b,0,none⟩:Addr).add i).add j)=some u
    rw [add_addr,add_addr,show 0+i+j=0+(i+j) by omega]
    exact hh
end
section
variable (Z:PZ) {o w:World} {R:List HProp} {g:Nat} {all l:List UInt8} {off:Nat} {err:Int}
theorem dNumber (n:Nat) (hn:n≤8) (h:St o w (RefR g all off err::R)):CallV π Z 207 #[.pointer (some ⟨g,0,none⟩),.int .i64 n] w fun r w'=>
  ∃x off' e' b,nmV n all off err=(x,off',e')∧(b=true ↔ e'=0)∧r=.tuple #[.int .u64 (x:Int),.bool b]∧St o w' (RefR g all off' e'::R):=by
 obtain ⟨v,⟨h1,h2⟩,hS⟩:=RefR.open h
 refine f207.calls ?_
 unfold f207.sh
 (try simp only [o_chk,fa_235_2,Nat.zero_add,fa_235_1,o_chkp,fa_235_1p,fa_235_0p,Nat.add_zero])
 refine r_load one43 (hS.at m0 2 rfl) ?_
 by_cases he:err=0
 case neg=>
  have hb:(err != 0)=true:=by simp [he]
  (try simp only [o_neq,hb,condT])
  exact ⟨0,off,err,false,by unfold nmV; rw [if_neg (fun h=>he h.1),if_neg he],by simp [he],by first | rfl | trivial,RefR.shut h1 h2 hS⟩
 subst he
 (try simp only [o_neq,bne_self_eq_false,condF])
 refine ⟨fun w1 hd=>?_⟩
 have hS:=hS.drew hd
 refine rr_load one30 (hS.at m0 0 rfl) ?_
 refine rp (fun w=>(hS.own_rd m1).len sl30 _ rfl _ w) ?_
 skip
 refine rr_load one3 (hS.at m0 1 rfl) ?_
 refine rp (fun w=>run_sub _ w _ _ _ _) ?_
 rw [wr_i64 (x:=(all.length:Int) - (off:Int)) (by omega) (by omega)]
 by_cases hlt:(all.length:Int) - (off:Int) < (n:Int)
 ·(try simp only [o_lssp,hlt,decide_true,condT])
  refine r_store hS one43 (show 2 < 3 by omega) rfl fun w2 hS=>?_
  exact ⟨0,off,10,false,by unfold nmV; rw [if_neg (fun h=>by omega)]; rfl,by simp,by first | rfl | trivial,RefR.shut h1 h2 hS⟩
 have hle:off+n≤all.length:=by omega
 (try simp only [o_lssp,hlt,decide_false,condF])
 refine ⟨fun m x y w'=>∃i:Nat,x=.int .u64 (dec ((all.drop off).take i):Int)∧y=.int .i64 i∧m+i=n∧St o w' (blk g 235 [v,.int .i64 (off+i:Nat),.int .i64 0]::own 5 1 v all.length (cb all)::R),⟨n,0,rfl,rfl,rfl,hS⟩,?_⟩
 clear hS
 rintro m _ _ w2 ⟨i,rfl,rfl,hi,hS⟩ _
 by_cases hlt2:(i:Int) < (n:Int)
 ·(try simp only [o_add,o_mulp,o_lss,hlt2,decide_true,condT])
  refine ⟨fun w3 hd=>?_⟩
  have hS:=hS.drew hd
  have hb:=dec_take_lt all off i (by omega)
  have hoi:off+i < all.length:=by omega
  have hby:=all[off+i].toNat_lt
  rw [wr_u64 (x:=(dec ((all.drop off).take i):Int) * 256) (by omega) (by omega)]
  skip
  refine rr_load one30 (hS.at m0 0 rfl) ?_
  skip
  refine rr_load one3 (hS.at m0 1 rfl) ?_
  obtain ⟨p,hp,hpc⟩:=rd_index (hS.own_rd m1) (off+i) hoi
  refine rp hp (rr_load one5 hpc ?_)
  (try simp only [cv_5_147p,o_addp])
  rw [wr_u64 (x:=(all[off+i].toNat:Int)) (by omega) (by omega),wr_u64 (x:=(dec ((all.drop off).take i):Int) * 256+(all[off+i].toNat:Int)) (by omega) (by omega)]
  refine r_load one3 (hS.at m0 1 rfl) ?_
  (try simp only [o_add])
  rw [wr_i64 (x:=((off+i:Nat):Int)+1) (by omega) (by omega)]
  refine r_store hS one3 (show 1 < 3 by omega) rfl fun w4 hS=>?_
  skip
  rw [wr_i64 (x:=(i:Int)+1) (by omega) (by omega)]
  refine ⟨m - 1,by omega,i+1,?_,rfl,by omega,?_⟩
  ·rw [drop_dec hoi,Int.natCast_add,Int.natCast_mul]; rfl
  ·have e:(((off+i:Nat):Int)+1)=((off+(i+1):Nat):Int):=by omega
   rw [e] at hS
   exact hS
 ·have hin:i=n:=by omega
  subst hin
  (try simp only [o_add,o_mulp,o_lss,hlt2,decide_false,condF])
  exact ⟨dec ((all.drop off).take i),off+i,0,true,by unfold nmV; rw [if_pos ⟨rfl,hle⟩],by simp,by first | rfl | trivial,RefR.shut (by omega) h2 hS⟩
theorem dInt32 (h:St o w (RefR g all off err::R)):CallV π Z 236 #[.pointer (some ⟨g,0,none⟩)] w fun r w'=>∃x off' e',nmV 4 all off err=(x,off',e')∧r=.int .i32 (IntKind.i32.wrap x)∧St o w' (RefR g all off' e'::R):=by
 refine f236.calls ?_
 unfold f236.sh
 refine (dNumber Z 4 (by omega) h).mono fun r w1 ⟨x,off',e',b,hv,_,hr,hS⟩=>?_
 subst hr
 have hx:x < 4294967296:=by
  unfold nmV at hv
  split at hv
  ·injection hv with hv _
   have h1:=dec_lt ((all.drop off).take 4)
   have h2:(256:Nat) ^ ((all.drop off).take 4).length≤256 ^ 4:=Nat.pow_le_pow_right (by omega) (by rw [List.length_take]; omega)
   omega
  ·injection hv with hv _; omega
 (try simp only [o_ext2_1,o_ext2_0,cv_147_2,o_sub,o_gtr,cond_decide])
 rw [wr_i64 (x:=(x:Int)) (by omega) (by omega)]
 intro j hj
 refine ⟨fun hgt=>?_,fun hgt=>?_⟩
 ·rw [wr_i64 (x:=(x:Int) - 4294967296) (by omega) (by omega)]
  refine hj _ _ fun _=>?_
  (try simp only [cv_2_21])
  exact ⟨x,off',e',hv,by rw [i32_shift],hS⟩
 ·refine hj _ _ fun _=>?_
  (try simp only [cv_2_21])
  exact ⟨x,off',e',hv,rfl,hS⟩
theorem dFault (at_:Nat) (e:Int) (hat:at_≤all.length) (h:St o w (RefR g all off err::R)):CallV π Z 234 #[.pointer (some ⟨g,0,none⟩),.int .i64 at_,.int .i64 e] w fun r w'=>St o w' (RefR g all at_ e::R):=by
 obtain ⟨v,⟨h1,h2⟩,hS⟩:=RefR.open h
 refine f234.calls ?_
 unfold f234.sh
 (try simp only [o_chk,fa_235_2,Nat.zero_add,fa_235_1])
 refine r_store hS one3 (show 1 < 3 by omega) rfl fun w2 hS=>?_
 skip
 refine r_store hS one43 (show 2 < 3 by omega) rfl fun w2 hS=>?_
 exact RefR.shut hat h2 hS
theorem dCount (most:Int) (h:St o w (RefR g all off err::R)):CallV π Z 259 #[.pointer (some ⟨g,0,none⟩),.int .i64 most] w fun r w'=>∃c off' e',ctV most all off err=(c,off',e')∧r=.int .i64 c∧St o w' (RefR g all off' e'::R):=by
 obtain ⟨v,⟨h1,h2⟩,hS⟩:=RefR.open h
 refine f259.calls ?_
 unfold f259.sh
 (try simp only [o_chkp,fa_235_1p,Nat.zero_add,fa_235_0p,Nat.add_zero,o_chk,fa_235_2,fa_235_1])
 refine r_load one3 (hS.at m0 1 rfl) ?_
 refine (dInt32 Z (RefR.shut h1 h2 hS)).mono fun r w1 ⟨x,off2,e2,hnm,hr,hS⟩=>?_
 subst hr
 have hrg:=i32_range (x:Int)
 unfold nmV at hnm
 by_cases h0:err=0∧off+4≤all.length
 ·rw [if_pos h0] at hnm
  injection hnm with hx hnm
  injection hnm with ho he
  subst ho he
  have hct:∀c off' e',(if IntKind.i32.wrap (x:Int) < 0∨most < IntKind.i32.wrap (x:Int) then ((-1:Int),off,(11:Int))
    else if off+4+(IntKind.i32.wrap (x:Int)).toNat≤all.length then (IntKind.i32.wrap (x:Int),off+4,0)
    else (-1,off,10))=(c,off',e')→ctV most all off err=(c,off',e'):=fun c off' e' hh=>by
   unfold ctV
   rw [if_pos h0,hx]
   exact hh
  generalize IntKind.i32.wrap (x:Int)=y at *
  obtain ⟨v,⟨h1,h2⟩,hO⟩:=RefR.open hS
  (try simp only [cv_21_3,o_lss])
  rw [wr_i64 (x:=y) (by omega) (by omega)]
  refine r_load one43 (hO.at m0 2 rfl) ?_
  (try simp only [o_neq,bne_self_eq_false,condF])
  by_cases hy1:y < 0
  ·(try simp only [hy1,decide_true,o_pickT,condT,guardW_tf])
   exact (dFault Z off 11 (by omega) hS).mono fun r4 w4 hS=>⟨-1,off,11,hct _ _ _ (by rw [if_pos (.inl hy1)]),rfl,hS⟩
  by_cases hy2:most < y
  ·(try simp only [hy1,decide_false,o_pickF,guardW_ff,o_gtr,hy2,decide_true,condT])
   exact (dFault Z off 11 (by omega) hS).mono fun r4 w4 hS=>⟨-1,off,11,hct _ _ _ (by rw [if_pos (.inr hy2)]),rfl,hS⟩
  have hno:¬ (y < 0∨most < y):=by omega
  (try simp only [hy1,decide_false,o_pickF,guardW_ff,o_gtr,hy2,condF])
  refine ⟨fun w2 hd=>?_⟩
  have hS:=hS.drew hd
  have hO:=hO.drew hd
  refine rr_load one30 (hO.at m0 0 rfl) ?_
  refine rp (fun w=>(hO.own_rd m1).len sl30 _ rfl _ w) ?_
  skip
  refine rr_load one3 (hO.at m0 1 rfl) ?_
  refine rp (fun w=>run_sub _ w _ _ _ _) ?_
  rw [wr_i64 (x:=(all.length:Int) - ((off+4:Nat):Int)) (by omega) (by omega)]
  by_cases hlt:(all.length:Int) - ((off+4:Nat):Int) < y
  ·(try simp only [o_gtrp,hlt,decide_true,condT])
   exact (dFault Z off 10 (by omega) hS).mono fun r4 w4 hS=>⟨-1,off,10,hct _ _ _ (by rw [if_neg hno,if_neg (by omega)]),rfl,hS⟩
  ·(try simp only [o_gtrp,hlt,decide_false,condF])
   exact ⟨y,off+4,0,hct _ _ _ (by rw [if_neg hno,if_pos (by omega)]),rfl,hS⟩
 ·rw [if_neg h0] at hnm
  injection hnm with hx hnm
  injection hnm with ho he
  subst hx ho he
  obtain ⟨v,⟨h1,h2⟩,hO⟩:=RefR.open hS
  have hbe:((if err=0 then (10:Int) else err) != 0)=true:=by
   have:=err_ne (err:=err)
   simpa [bne] using this
  (try simp only [cv_21_3,o_lss])
  refine r_load one43 (hO.at m0 2 rfl) ?_
  (try simp only [o_neq,hbe,condT])
  exact ⟨-1,off,_,by unfold ctV; rw [if_neg h0],rfl,hS⟩
theorem dBuffer (most:Int) (h:St o w (RefR g all off err::R)):CallV π Z 212 #[.pointer (some ⟨g,0,none⟩),.int .i64 most] w fun r w'=>∃k off' e',szV most all off err=(k,off',e')∧St o w' (own 5 1 r k.length (cb k)::RefR g all off' e'::R):=by
 obtain ⟨v,⟨h1,h2⟩,hS⟩:=RefR.open h
 refine f212.calls ?_
 unfold f212.sh
 (try simp only [o_chk,fa_235_1,Nat.zero_add,o_chkp,fa_235_1p,fa_235_0p,Nat.add_zero,fa_235_2])
 refine r_load one3 (hS.at m0 1 rfl) ?_
 refine (dInt32 Z (RefR.shut h1 h2 hS)).mono fun r w1 ⟨x,off2,e2,hnm,hr,hS⟩=>?_
 subst hr
 have hrg:=i32_range (x:Int)
 unfold nmV at hnm
 by_cases h0:err=0∧off+4≤all.length
 ·rw [if_pos h0] at hnm
  injection hnm with hx hnm
  injection hnm with ho he
  subst ho he
  have hsz:∀k off' e',(if IntKind.i32.wrap (x:Int) < 0∨most < IntKind.i32.wrap (x:Int) then (([]:List UInt8),off,(11:Int))
    else if off+4+(IntKind.i32.wrap (x:Int)).toNat≤all.length then ((all.drop (off+4)).take (IntKind.i32.wrap (x:Int)).toNat,off+4+(IntKind.i32.wrap (x:Int)).toNat,0)
    else ([],off,10))=(k,off',e')→szV most all off err=(k,off',e'):=fun k off' e' hh=>by
   unfold szV
   rw [if_pos h0,hx]
   exact hh
  generalize IntKind.i32.wrap (x:Int)=y at *
  obtain ⟨v,⟨h1,h2⟩,hO⟩:=RefR.open hS
  (try simp only [cv_21_3,o_lss])
  rw [wr_i64 (x:=y) (by omega) (by omega)]
  refine r_load one43 (hO.at m0 2 rfl) ?_
  (try simp only [o_neq,bne_self_eq_false,condF])
  by_cases hy1:y < 0
  ·(try simp only [hy1,decide_true,o_pickT,condT,guardW_tf])
   exact (dFault Z off 11 (by omega) hS).mono fun r4 w4 hS=>⟨[],off,11,hsz _ _ _ (by rw [if_pos (.inl hy1)]),hS.own_nil 5 1⟩
  by_cases hy2:most < y
  ·(try simp only [hy1,decide_false,o_pickF,guardW_ff,o_gtr,hy2,decide_true,condT])
   exact (dFault Z off 11 (by omega) hS).mono fun r4 w4 hS=>⟨[],off,11,hsz _ _ _ (by rw [if_pos (.inr hy2)]),hS.own_nil 5 1⟩
  have hno:¬ (y < 0∨most < y):=by omega
  obtain ⟨n,rfl⟩:∃n:Nat,y=n:=⟨y.toNat,by omega⟩
  (try simp only [hy1,decide_false,o_pickF,guardW_ff,o_gtr,hy2,condF])
  refine ⟨fun w2 hd=>?_⟩
  have hS:=hS.drew hd
  have hO:=hO.drew hd
  refine rr_load one30 (hO.at m0 0 rfl) ?_
  refine rp (fun w=>(hO.own_rd m1).len sl30 _ rfl _ w) ?_
  skip
  refine rr_load one3 (hO.at m0 1 rfl) ?_
  refine rp (fun w=>run_sub _ w _ _ _ _) ?_
  rw [wr_i64 (x:=(all.length:Int) - ((off+4:Nat):Int)) (by omega) (by omega)]
  by_cases hlt:(all.length:Int) - ((off+4:Nat):Int) < (n:Int)
  ·(try simp only [o_lssp,hlt,decide_true,condT])
   exact (dFault Z off 10 (by omega) hS).mono fun r4 w4 hS=>⟨[],off,10,hsz _ _ _ (by rw [if_neg hno,if_neg (by omega)]),hS.own_nil 5 1⟩
  have hle:off+4+n≤all.length:=by omega
  (try simp only [o_lssp,hlt,decide_false,condF])
  refine ⟨fun w3 hd=>?_⟩
  have hS:=hS.drew hd
  have hO:=hO.drew hd
  refine rr_load one30 (hO.at m0 0 rfl) ?_
  skip
  refine rr_load one3 (hO.at m0 1 rfl) ?_
  skip
  refine rr_load one3 (hO.at m0 1 rfl) ?_
  (try simp only [o_addp])
  rw [wr_i64 (x:=((off+4:Nat):Int)+(n:Int)) (by omega) (by omega)]
  obtain ⟨x2,hx2,hr2⟩:=midB (hO.pick 1) (off+4) n hle .i64 .i64
  have e1:((off+4:Nat):Int)+(n:Int)=((off+4+n:Nat):Int):=by omega
  rw [e1]
  refine rp hx2 ?_
  have hl:((all.drop (off+4)).take n).length=n:=by rw [List.length_take,List.length_drop]; omega
  refine (copyBytes Z hO (fun w hw=>hr2 w (hw.own_rd m1)) (by omega)).mono fun r w4 hO=>?_
  refine rs_load one3 (hO.at m1 1 rfl) ?_
  refine rs_load one3 (hO.at m1 1 rfl) ?_
  refine rs_load one30 (hO.at m1 0 rfl) ?_
  skip
  refine r_load one3 (hO.at m1 1 rfl) ?_
  (try simp only [o_add])
  rw [wr_i64 (x:=((off+4:Nat):Int)+(n:Int)) (by omega) (by omega),e1]
  refine r_store (hO.pick 1) one3 (show 1 < 3 by omega) rfl fun w5 hO=>?_
  exact ⟨(all.drop (off+4)).take n,off+4+n,0,hsz _ _ _ (by rw [if_neg hno,Int.toNat_natCast,if_pos hle]),(RefR.shut hle h2 (hO.pick 1 |>.put 2)).swap⟩
 ·rw [if_neg h0] at hnm
  injection hnm with hx hnm
  injection hnm with ho he
  subst hx ho he
  obtain ⟨v,⟨h1,h2⟩,hO⟩:=RefR.open hS
  have hbe:((if err=0 then (10:Int) else err) != 0)=true:=by
   have:=err_ne (err:=err)
   simpa [bne] using this
  (try simp only [cv_21_3,o_lss])
  refine r_load one43 (hO.at m0 2 rfl) ?_
  (try simp only [o_neq,hbe,condT])
  exact ⟨[],off,_,by unfold szV; rw [if_neg h0],hS.own_nil 5 1⟩
theorem dText (most:Int) (h:St o w (RefR g all off err::R)):CallV π Z 258 #[.pointer (some ⟨g,0,none⟩),.int .i64 most] w fun r w'=>∃k off' e',szV most all off err=(k,off',e')∧r=.string (str k)∧St o w' (RefR g all off' e'::R):=by
 refine f258.calls ?_
 unfold f258.sh
 refine (dBuffer Z most h).mono fun r w1 ⟨k,off',e',hz,hS⟩=>?_
 refine r1 (run_toString Tryz.underlying30 Tryz.underlying5 Tryz.underlying9 (l:=k) (hS.own_rd m0)) ?_
 exact ⟨k,off',e',hz,rfl,hS.drop⟩
theorem dEnd (h:St o w (RefR g all off err::R)):CallV π Z 167 #[.pointer (some ⟨g,0,none⟩)] w fun r w'=>r=.int .i64 (if err=0∧off < all.length then 13 else err)∧St o w' (RefR g all off err::R):=by
 obtain ⟨v,⟨h1,h2⟩,hS⟩:=RefR.open h
 refine f167.calls ?_
 unfold f167.sh
 refine ⟨fun w1 hd=>?_⟩
 have hS:=hS.drew hd
 (try simp only [o_chk,fa_235_2,Nat.zero_add,o_chkp,fa_235_2p])
 refine rr_load one43 (hS.at m0 2 rfl) ?_
 by_cases he:err=0
 ·subst he
  (try simp only [o_eqlp,beq_self_eq_true,o_pickTp,guardV_true,o_chkp,fa_235_0p,Nat.add_zero,fa_235_1p,Nat.zero_add])
  refine rr_load one3 (hS.at m0 1 rfl) ?_
  skip
  refine rr_load one30 (hS.at m0 0 rfl) ?_
  refine rp (fun w=>(hS.own_rd m1).len sl30 _ rfl _ w) ?_
  by_cases hlt:(off:Int) < (all.length:Int)
  ·(try simp only [o_lssp,hlt,decide_true,condT])
   exact ⟨by rw [if_pos ⟨trivial,by omega⟩],RefR.shut h1 h2 hS⟩
  ·(try simp only [o_lssp,hlt,decide_false,condF])
   refine r_load one43 (hS.at m0 2 rfl) ?_
   exact ⟨by rw [if_neg (fun h=>by omega)],RefR.shut h1 h2 hS⟩
 ·have hb:(err == 0)=false:=by simp [he]
  (try simp only [o_eqlp,hb,o_pickFp,condF,guardV_ft])
  refine r_load one43 (hS.at m0 2 rfl) ?_
  exact ⟨by rw [if_neg (fun h=>he h.1)],RefR.shut h1 h2 hS⟩
theorem dNew {x:Value} {n:Nat} (h:St o w R) (hx:Ent o R fun w=>Rd w 1 x n (cb l)) (hl:l.length≤140737488355328):CallV π Z 163 #[x] w fun r w'=>∃g,r=.pointer (some ⟨g,0,none⟩)∧St o w' (RefR g l 0 0::R):=by
 refine f163.calls ?_
 unfold f163.sh
 refine (copyBytes Z h hx hl).mono fun r w1 hS=>?_
 obtain ⟨a,c,rfl⟩:=hS.own_form
 refine r_build (cells:=#[.slice a l.length c,.int .i64 0,.int .i64 0]) (by kernel_rfl) ?_
 refine r_box _ _ hS fun g w2 hS=>?_
 exact ⟨g,rfl,RefR.shut (by omega) hl hS⟩
end
end Go.Proofs.YtfijkedmbaghmaaGreatDoor

/- The document's Reader, to the letter: the rest of its numbers, bools, faults. -/
set_option linter.unusedVariables false
set_option linter.unusedSimpArgs false
namespace Go.Proofs.YtfijkedmbaghmaaGreatDoor
open Go.Sh
open Tryz renaming prog → π
theorem nmV_lt {n:Nat} {all:List UInt8} {off x off':Nat} {err e':Int} (hv:nmV n all off err=(x,off',e')):x < 256 ^ n:=by
 unfold nmV at hv
 split at hv
 ·injection hv with hv _
  have h1:=dec_lt ((all.drop off).take n)
  have h2:(256:Nat) ^ ((all.drop off).take n).length≤256 ^ n:=Nat.pow_le_pow_right (by omega) (by rw [List.length_take]; omega)
  omega
 ·injection hv with hv _
  have:=Nat.pow_pos (n:=n) (show 0 < 256 by omega)
  omega
theorem i8_shift (x:Int):IntKind.i8.wrap (x - 256)=IntKind.i8.wrap x:=by
 rw [wrap_i8,wrap_i8]
 have:(x - 256) % 256=x % 256:=by omega
 rw [this]
section
variable (Z:PZ) {o w:World} {R:List HProp} {g:Nat} {all:List UInt8} {off:Nat} {err:Int}
theorem RefR.le (h:St o w (RefR g all off err::R)):off≤all.length:=by
 obtain ⟨v,⟨h1,_⟩,_⟩:=RefR.open h
 exact h1
theorem dInt8 (h:St o w (RefR g all off err::R)):CallV π Z 165 #[.pointer (some ⟨g,0,none⟩)] w fun r w'=>∃x off' e',nmV 1 all off err=(x,off',e')∧r=.int .i8 (IntKind.i8.wrap x)∧St o w' (RefR g all off' e'::R):=by
 refine f165.calls ?_
 unfold f165.sh
 refine (dNumber Z 1 (by omega) h).mono fun r w1 ⟨x,off',e',b,hv,_,hr,hS⟩=>?_
 subst hr
 have hx:=nmV_lt hv
 (try simp only [o_ext2_1,o_ext2_0,cv_147_3,o_sub,o_gtr,cond_decide])
 rw [wr_i64 (x:=(x:Int)) (by omega) (by omega)]
 intro j hj
 refine ⟨fun hgt=>?_,fun hgt=>?_⟩
 ·rw [wr_i64 (x:=(x:Int) - 256) (by omega) (by omega)]
  refine hj _ _ fun _=>?_
  (try simp only [cv_3_22])
  exact ⟨x,off',e',hv,by rw [i8_shift],hS⟩
 ·refine hj _ _ fun _=>?_
  (try simp only [cv_3_22])
  exact ⟨x,off',e',hv,rfl,hS⟩
theorem dUint32 (h:St o w (RefR g all off err::R)):CallV π Z 164 #[.pointer (some ⟨g,0,none⟩)] w fun r w'=>∃x off' e',nmV 4 all off err=(x,off',e')∧r=.int .u32 (IntKind.u32.wrap x)∧St o w' (RefR g all off' e'::R):=by
 refine f164.calls ?_
 unfold f164.sh
 refine (dNumber Z 4 (by omega) h).mono fun r w1 ⟨x,off',e',b,hv,_,hr,hS⟩=>?_
 subst hr
 (try simp only [o_ext2_1,o_ext2_0,cv_147_23])
 exact ⟨x,off',e',hv,rfl,hS⟩
theorem dInt64 (h:St o w (RefR g all off err::R)):CallV π Z 209 #[.pointer (some ⟨g,0,none⟩)] w fun r w'=>∃x off' e',nmV 8 all off err=(x,off',e')∧r=.int .i64 (IntKind.i64.wrap x)∧St o w' (RefR g all off' e'::R):=by
 refine f209.calls ?_
 unfold f209.sh
 refine (dNumber Z 8 (by omega) h).mono fun r w1 ⟨x,off',e',b,hv,_,hr,hS⟩=>?_
 subst hr
 have hx:=nmV_lt hv
 have hx:x < 18446744073709551616:=by simpa using hx
 (try simp only [o_ext2_1,o_ext2_0,o_sub,cv_147_2,o_gtr,cond_decide])
 refine ⟨fun hgt=>?_,fun hgt=>?_⟩
 ·rw [wr_u64 (x:=(18446744073709551615:Int) - x) (by omega) (by omega),wr_i64 (x:=(18446744073709551615:Int) - x) (by omega) (by omega),wr_i64 (x:=(-1:Int) - (18446744073709551615 - x)) (by omega) (by omega)]
  refine ⟨x,off',e',hv,?_,hS⟩
  rw [wrap_i64,if_neg (by omega)]
  congr 1
  omega
 ·exact ⟨x,off',e',hv,rfl,hS⟩
theorem dBool (h:St o w (RefR g all off err::R)):CallV π Z 210 #[.pointer (some ⟨g,0,none⟩)] w fun r w'=>∃b off' e',blV all off err=(b,off',e')∧r=.bool b∧St o w' (RefR g all off' e'::R):=by
 obtain ⟨v,⟨h1,h2⟩,hS⟩:=RefR.open h
 refine f210.calls ?_
 unfold f210.sh
 (try simp only [o_chk,fa_235_1,Nat.zero_add])
 refine r_load one3 (hS.at m0 1 rfl) ?_
 refine (dNumber Z 1 (by omega) (RefR.shut h1 h2 hS)).mono fun r w1 ⟨x,off',e',b,hv,hb,hr,hS⟩=>?_
 subst hr
 unfold nmV at hv
 by_cases h0:err=0∧off+1≤all.length
 ·rw [if_pos h0] at hv
  injection hv with hx hv
  injection hv with ho he
  subst ho he
  obtain rfl:b=true:=hb.2 rfl
  have hbl:∀b off' e',(if 1 < x then (false,off,(12:Int)) else (x == 1,off+1,0))=(b,off',e')→blV all off err=(b,off',e'):=fun b off' e' hh=>by
   unfold blV
   rw [if_pos h0,hx]
   exact hh
  clear hx
  (try simp only [o_ext2_1,o_pickT,guardW_true,o_ext2_0,o_eql,o_gtr,cond_decide])
  refine ⟨fun hgt=>?_,fun hgt=>?_⟩
  ·have hgt':1 < x:=by omega
   refine (dFault Z off 12 h1 hS).mono fun r w2 hS=>?_
   exact ⟨false,off,12,hbl _ _ _ (by rw [if_pos hgt']),by first | rfl | trivial,hS⟩
  ·have hgt':¬ 1 < x:=by omega
   refine ⟨x == 1,off+1,0,hbl _ _ _ (by rw [if_neg hgt']),?_,hS⟩
   obtain rfl | rfl:x=0∨x=1:=by omega
   ·rfl
   ·rfl
 ·rw [if_neg h0] at hv
  injection hv with hx hv
  injection hv with ho he
  subst ho hx
  have hbf:b=false:=by
   cases b
   ·rfl
   ·have:=hb.1 rfl
    have h3:=err_ne (err:=err)
    rw [he,this] at h3
    simp at h3
  subst hbf
  (try simp only [o_ext2_1,o_pickF,condF,guardW_ft,o_ext2_0,o_eql])
  exact ⟨false,off,e',by unfold blV; rw [if_neg h0,he],by first | rfl | trivial,hS⟩
theorem dFail (e:Int) (h:St o w (RefR g all off err::R)):CallV π Z 213 #[.pointer (some ⟨g,0,none⟩),.int .i64 e] w fun r w'=>St o w' (RefR g all off (if err=0 then e else err)::R):=by
 obtain ⟨v,⟨h1,h2⟩,hS⟩:=RefR.open h
 refine f213.calls ?_
 unfold f213.sh
 (try simp only [o_chk,fa_235_2,Nat.zero_add])
 refine r_load one43 (hS.at m0 2 rfl) ?_
 by_cases he:err=0
 ·subst he
  (try simp only [o_eql,beq_self_eq_true,condT])
  refine r_store hS one43 (show 2 < 3 by omega) rfl fun w2 hS=>?_
  exact RefR.shut h1 h2 hS
 ·have hb:(err == 0)=false:=by simpa using he
  (try simp only [o_eql,hb,condF])
  rw [if_neg he]
  exact RefR.shut h1 h2 hS
end

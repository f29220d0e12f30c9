
/- Readers: what each call answers of bytes, told as what a Writer would have put there. -/
import Derived.Test.YtbdfhfceffkhgaaGreatDoorP4
import Derived.Test.YtbdfhfceffkhgaaGreatDoorP5
set_option linter.unusedVariables false
set_option linter.unusedSimpArgs false
namespace Go.Proofs.YtbdfhfceffkhgaaGreatDoor
open Go.Sh
open Tryz renaming prog → π
def Has (all:List UInt8) (off:Nat) (bs:List UInt8):Prop:=∃rest,all.drop off=bs++rest
theorem Has.le {all bs:List UInt8} {off:Nat} (h:Has all off bs) (ho:off≤all.length):off+bs.length≤all.length:=by
 obtain ⟨rest,h⟩:=h
 have:=congrArg List.length h
 rw [List.length_drop,List.length_append] at this
 omega
theorem Has.take {all bs:List UInt8} {off:Nat} (h:Has all off bs):(all.drop off).take bs.length=bs:=by
 obtain ⟨rest,h⟩:=h
 rw [h,List.take_left]
theorem has_of {all:List UInt8} {off n:Nat} {bs:List UInt8} (h:(all.drop off).take n=bs):Has all off bs:=⟨(all.drop off).drop n,by rw [← h,List.take_append_drop]⟩
theorem Has.split {all a b:List UInt8} {off:Nat}:Has all off (a++b) ↔ Has all off a∧Has all (off+a.length) b:=by
 constructor
 ·rintro ⟨rest,h⟩
  refine ⟨⟨b++rest,by rw [h,List.append_assoc]⟩,⟨rest,?_⟩⟩
  rw [← List.drop_drop,h,List.append_assoc,List.drop_left]
 ·rintro ⟨⟨r,h⟩,⟨rest,h2⟩⟩
  refine ⟨rest,?_⟩
  rw [← List.drop_drop,h,List.drop_left] at h2
  rw [h,h2,List.append_assoc]
theorem dec_cons (x:UInt8) (l:List UInt8):dec (x::l)=x.toNat * 256 ^ l.length+dec l:=by
 have key:∀(l:List UInt8) (v:Nat),l.foldl (fun v x=>v * 256+x.toNat) v=v * 256 ^ l.length+l.foldl (fun v x=>v * 256+x.toNat) 0:=by
  intro l
  induction l with
  | nil=>intro v; simp
  | cons y l ih=>
   intro v
   rw [List.foldl_cons,ih,List.foldl_cons,ih (0 * 256+y.toNat),List.length_cons,Nat.pow_succ,Nat.add_mul,Nat.zero_mul,Nat.zero_add,Nat.mul_assoc,Nat.mul_comm 256]
   omega
 unfold dec
 rw [List.foldl_cons,key,Nat.zero_mul,Nat.zero_add]
theorem enc_dec:∀(l:List UInt8),enc l.length (dec l:Int)=l
 | []=>rfl
 | x::l=>by
  have ih:=enc_dec l
  have hlt:=dec_lt l
  have hx:=x.toNat_lt
  rw [dec_cons,List.length_cons,enc]
  have hp:0 < 256 ^ l.length:=Nat.pos_of_neZero _
  have e1:((x.toNat * 256 ^ l.length+dec l:Nat):Int) / 256 ^ l.length % 256=(x.toNat:Int):=by
   have:(x.toNat * 256 ^ l.length+dec l) / 256 ^ l.length=x.toNat:=by
    rw [Nat.mul_comm,Nat.mul_add_div hp,Nat.div_eq_of_lt hlt,Nat.add_zero]
   have h2:((256:Int) ^ l.length)=((256 ^ l.length:Nat):Int):=by rw [Int.natCast_pow]; rfl
   rw [h2,← Int.natCast_ediv,this]
   omega
  rw [e1]
  congr 1
  ·simp
  ·have e2:enc l.length ((x.toNat * 256 ^ l.length+dec l:Nat):Int)=enc l.length (dec l:Int):=by
    rw [← enc_mod l.length ((x.toNat * 256 ^ l.length+dec l:Nat):Int)]
    congr 1
    have h2:((256:Int) ^ l.length)=((256 ^ l.length:Nat):Int):=by rw [Int.natCast_pow]; rfl
    rw [h2,← Int.natCast_emod,Nat.add_comm,Nat.add_mul_mod_self_right,Nat.mod_eq_of_lt hlt]
   rw [e2,ih]
theorem dec_enc (n:Nat) (v:Int):(dec (enc n v):Int)=v % 256 ^ n:=by
 induction n with
 | zero=>simp [enc,dec]
 | succ n ih=>
  rw [enc,dec_cons,enc_length]
  rw [Int.natCast_add,ih,Int.natCast_mul,byte_toNat,Int.natCast_pow]
  have hp:(0:Int) < 256 ^ n:=Int.pow_pos (by omega)
  have h1:=Int.mul_ediv_add_emod v (256 ^ n)
  have h2:=Int.mul_ediv_add_emod (v / 256 ^ n) 256
  have h3:=Int.emod_nonneg v (Int.ne_of_gt hp)
  have h4:=Int.emod_lt_of_pos v hp
  have h5:=Int.emod_nonneg (v / 256 ^ n) (show (256:Int) ≠ 0 by omega)
  have h6:=Int.emod_lt_of_pos (v / 256 ^ n) (show (0:Int) < 256 by omega)
  rw [Int.pow_succ]
  have e:v / (256 ^ n * 256)=v / 256 ^ n / 256:=(Int.ediv_ediv_of_nonneg (Int.le_of_lt hp)).symm
  rw [Int.emod_def v (256 ^ n * 256),e]
  have h7:v / 256 ^ n % 256 * 256 ^ n=v / 256 ^ n * 256 ^ n - 256 ^ n * 256 * (v / 256 ^ n / 256):=by
   have:v / 256 ^ n % 256=v / 256 ^ n - 256 * (v / 256 ^ n / 256):=Int.emod_def _ _
   rw [this,Int.sub_mul]
   congr 1
   rw [Int.mul_comm (256 ^ n) 256,Int.mul_assoc,Int.mul_assoc,Int.mul_comm (v / 256 ^ n / 256)]
  have h8:((256:Nat):Int) ^ n=256 ^ n:=rfl
  rw [h8,h7,Int.mul_comm (v / 256 ^ n)]
  omega
theorem wrap_i64 (v:Int):IntKind.i64.wrap v=if v % 18446744073709551616 < 9223372036854775808 then v % 18446744073709551616 else v % 18446744073709551616 - 18446744073709551616:=by
 simp [IntKind.wrap,IntKind.bits,IntKind.signed]
 split <;> split <;> omega
theorem wrap_i32 (v:Int):IntKind.i32.wrap v=if v % 4294967296 < 2147483648 then v % 4294967296 else v % 4294967296 - 4294967296:=by
 simp [IntKind.wrap,IntKind.bits,IntKind.signed]
 split <;> split <;> omega
theorem wrap_i8 (v:Int):IntKind.i8.wrap v=if v % 256 < 128 then v % 256 else v % 256 - 256:=by
 simp [IntKind.wrap,IntKind.bits,IntKind.signed]
 split <;> split <;> omega
theorem wrap_u32 (v:Int):IntKind.u32.wrap v=v % 4294967296:=by simp [IntKind.wrap,IntKind.bits,IntKind.signed]
structure Codec (n:Nat) (k:IntKind) (lo hi:Int):Prop where
 range:∀x:Int,lo≤k.wrap x∧k.wrap x≤hi
 mod:∀x:Int,k.wrap x % 256 ^ n=x % 256 ^ n
 one:∀x:Int,lo≤x→x≤hi→k.wrap (x % 256 ^ n)=x
theorem codec_i8:Codec 1 .i8 (-128) 127:=⟨fun x=>by rw [wrap_i8]; split <;> omega,fun x=>by rw [wrap_i8]; split <;> omega,fun x h1 h2=>by rw [wrap_i8]; split <;> omega⟩
theorem codec_i32:Codec 4 .i32 (-2147483648) 2147483647:=⟨fun x=>by rw [wrap_i32]; split <;> omega,fun x=>by rw [wrap_i32]; split <;> omega,fun x h1 h2=>by rw [wrap_i32]; split <;> omega⟩
theorem codec_u32:Codec 4 .u32 0 4294967295:=⟨fun x=>by rw [wrap_u32]; omega,fun x=>by rw [wrap_u32]; omega,fun x h1 h2=>by rw [wrap_u32]; omega⟩
theorem codec_i64:Codec 8 .i64 (-9223372036854775808) 9223372036854775807:=⟨fun x=>by rw [wrap_i64]; split <;> omega,fun x=>by rw [wrap_i64]; split <;> omega,fun x h1 h2=>by rw [wrap_i64]; split <;> omega⟩
def Gets {α:Type} (e:α→List UInt8) (ok:α→Prop) (val:α→Value) (zero:Value) (g:Nat) (B:Option Nat) (all:List UInt8) (off:Nat) (err:Int) (o:World) (R:List HProp) (r:Value) (w':World):Prop:=
 (∃x,ok x∧err=0∧Has all off (e x)∧(∀y,ok y→Has all off (e y)→y=x)∧r=val x∧St o w' (RdrAt g B all (off+(e x).length) 0::R)) ∨
 (r=zero∧(∀x,ok x→¬ (err=0∧Has all off (e x)))∧∃off' e',(e' ≠ 0∧off'=off)∧St o w' (RdrAt g B all off' e'::R))
section
variable (Z:PZ) {o w:World} {R:List HProp} {g:Nat} {B:Option Nat} {all l:List UInt8} {off:Nat} {err:Int}
theorem gets_int {n:Nat} {k:IntKind} {lo hi:Int} (hc:Codec n k lo hi) {w':World} {r:Value} (ho:off≤all.length)
  (h:(r=.int k (k.wrap (dec ((all.drop off).take n)))∧err=0∧off+n≤all.length∧St o w' (RdrAt g B all (off+n) 0::R)) ∨
  (r=.int k (k.wrap 0)∧¬ (err=0∧off+n≤all.length)∧St o w' (RdrAt g B all off (if err=0 then 10 else err)::R))) :
  Gets (enc n) (fun x=>lo≤x∧x≤hi) (fun x=>.int k x) (.int k (k.wrap 0)) g B all off err o R r w':=by
 rcases h with ⟨rfl,rfl,hle,hS⟩ | ⟨rfl,hno,hS⟩
 ·have hl:((all.drop off).take n).length=n:=by rw [List.length_take,List.length_drop]; omega
  have hed:enc n (k.wrap (dec ((all.drop off).take n):Int))=(all.drop off).take n:=by
   rw [← enc_mod n,hc.mod,enc_mod]
   have:=enc_dec ((all.drop off).take n)
   rwa [hl] at this
  refine .inl ⟨_,hc.range _,rfl,?_,fun y hy hh=>?_,rfl,by rw [enc_length]; exact hS⟩
  ·rw [hed]; exact has_of rfl
  ·have ht:=hh.take
   rw [enc_length] at ht
   have h2:=dec_enc n y
   rw [← ht] at h2
   rw [h2,hc.one y hy.1 hy.2]
 ·refine .inr ⟨rfl,fun x _ ⟨he,hh⟩=>hno ⟨he,?_⟩,off,_,?_,hS⟩
  ·have:=hh.le ho
   rwa [enc_length] at this
  ·by_cases he:err=0
   ·rw [if_pos he]; exact ⟨by omega,rfl⟩
   ·rw [if_neg he]; exact ⟨he,rfl⟩
theorem gInt8 (h:St o w (RdrAt g B all off err::R)):CallV π Z 98 #[.pointer (some ⟨g,0,none⟩)] w fun r w'=>Gets (enc 1) (fun x => -128≤x∧x≤127) (fun x=>.int .i8 x) (.int .i8 0) g B all off err o R r w':=by
 refine f98.calls ?_
 unfold f98.sh
 refine (rWhole Z 1 (by omega) h).mono fun r w' hq=>?_
 rcases hq with ⟨rfl,h1,h2,hS⟩ | ⟨rfl,h1,hS⟩
 ·(try simp only [cv_162_40])
  exact gets_int codec_i8 (RdrAt.le h) (.inl ⟨rfl,h1,h2,hS⟩)
 ·(try simp only [cv_162_40])
  exact gets_int codec_i8 (RdrAt.le h) (.inr ⟨rfl,h1,hS⟩)
theorem gInt32 (h:St o w (RdrAt g B all off err::R)):CallV π Z 155 #[.pointer (some ⟨g,0,none⟩)] w fun r w'=>Gets (enc 4) (fun x => -2147483648≤x∧x≤2147483647) (fun x=>.int .i32 x) (.int .i32 0) g B all off err o R r w':=by
 refine f155.calls ?_
 unfold f155.sh
 refine (rWhole Z 4 (by omega) h).mono fun r w' hq=>?_
 rcases hq with ⟨rfl,h1,h2,hS⟩ | ⟨rfl,h1,hS⟩
 ·(try simp only [cv_162_21])
  exact gets_int codec_i32 (RdrAt.le h) (.inl ⟨rfl,h1,h2,hS⟩)
 ·(try simp only [cv_162_21])
  exact gets_int codec_i32 (RdrAt.le h) (.inr ⟨rfl,h1,hS⟩)
theorem gUint32 (h:St o w (RdrAt g B all off err::R)):CallV π Z 97 #[.pointer (some ⟨g,0,none⟩)] w fun r w'=>Gets (enc 4) (fun x=>0≤x∧x≤4294967295) (fun x=>.int .u32 x) (.int .u32 0) g B all off err o R r w':=by
 refine f97.calls ?_
 unfold f97.sh
 refine (rWhole Z 4 (by omega) h).mono fun r w' hq=>?_
 rcases hq with ⟨rfl,h1,h2,hS⟩ | ⟨rfl,h1,hS⟩
 ·(try simp only [cv_162_37])
  exact gets_int codec_u32 (RdrAt.le h) (.inl ⟨rfl,h1,h2,hS⟩)
 ·(try simp only [cv_162_37])
  exact gets_int codec_u32 (RdrAt.le h) (.inr ⟨rfl,h1,hS⟩)
theorem gInt64 (h:St o w (RdrAt g B all off err::R)):CallV π Z 99 #[.pointer (some ⟨g,0,none⟩)] w fun r w'=>Gets (enc 8) (fun x => -9223372036854775808≤x∧x≤9223372036854775807) (fun x=>.int .i64 x) (.int .i64 0) g B all off err o R r w':=by
 refine f99.calls ?_
 unfold f99.sh
 refine (rWhole Z 8 (by omega) h).mono fun r w' hq=>?_
 rcases hq with ⟨rfl,h1,h2,hS⟩ | ⟨rfl,h1,hS⟩
 ·(try simp only [cv_162_2])
  exact gets_int codec_i64 (RdrAt.le h) (.inl ⟨rfl,h1,h2,hS⟩)
 ·(try simp only [cv_162_2])
  exact gets_int codec_i64 (RdrAt.le h) (.inr ⟨rfl,h1,hS⟩)
def encB (b:Bool):List UInt8:=[if b then 1 else 0]
theorem gBool (h:St o w (RdrAt g B all off err::R)):CallV π Z 156 #[.pointer (some ⟨g,0,none⟩)] w fun r w'=>Gets encB (fun _=>True) (fun x=>.bool x) (.bool false) g B all off err o R r w':=by
 have hoff:=RdrAt.le h
 refine f156.calls ?_
 unfold f156.sh
 refine (rAhead Z 1 h).mono fun r w1 hq=>?_
 rcases hq with ⟨x,rfl,rfl,hle,hvx,hS⟩ | ⟨rfl,hno,hS⟩
 ·(try simp only [o_chk,fa_198_2,Nat.zero_add,fa_198_1,o_ext2_1,o_not,Bool.not_true,condF,o_ext2_0])
  have hll:((all.drop off).take 1).length=1:=by rw [List.length_take,List.length_drop]; omega
  obtain ⟨_,_,_,hO⟩:=RdrAt.open hS
  obtain ⟨p,hp,hpc⟩:=rd_index (hvx.rd hO (List.mem_cons_of_mem _ List.mem_cons_self) hle) 0 (by omega)
  refine r1 (hp _) (r_load one5 hpc ?_)
  obtain ⟨b,hb⟩:∃b,(all.drop off).take 1=[b]:=List.length_eq_one_iff.1 hll
  have hbt:=b.toNat_lt
  simp only [hb,List.getElem_cons_zero]
  have hany:∀y:Bool,Has all off (encB y)→(if y then (1:UInt8) else 0)=b:=fun y hh=>by
   have ht:(all.drop off).take 1=encB y:=hh.take
   rw [hb] at ht
   simpa [encB] using ht.symm
  (try simp only [o_gtr,cond_decide])
  refine ⟨fun hgt=>?_,fun hle1=>?_⟩
  ·refine rSet Z 12 hS fun w2 hS=>.inr ⟨rfl,fun y _ ⟨_,hh⟩=>?_,off,12,by omega,hS⟩
   have:=hany y hh
   subst this
   cases y <;> simp at hgt
  ·obtain ⟨v,hv,ho,hO⟩:=RdrAt.open hS
   refine r_load one43 (hO.at List.mem_cons_self 1 rfl) ?_
   obtain ⟨x2,hx2,hvx2⟩:=hv.from 1 (by omega) .i64
   refine r1 (hx2 _) ?_
   skip
   have hvx3:Vw B (off+1) (all.length - (off+1)) x2:=by rw [show all.length - (off+1)=all.length - off - 1 by omega]; exact hvx2
   refine rPut Z hS hvx3 (by omega) fun w2 hS=>?_
   obtain ⟨_,_,_,hO⟩:=RdrAt.open hS
   obtain ⟨p,hp,hpc⟩:=rd_index (hvx.rd hO (List.mem_cons_of_mem _ List.mem_cons_self) hle) 0 (by omega)
   refine r1 (hp _) (r_load one5 hpc ?_)
   simp only [hb,List.getElem_cons_zero]
   (try simp only [o_eql])
   have hcase:b=0∨b=1:=by
    have:b.toNat=0∨b.toNat=1:=by omega
    rcases this with h | h
    ·exact .inl (UInt8.toNat_inj.1 h)
    ·exact .inr (UInt8.toNat_inj.1 h)
   rcases hcase with rfl | rfl
   ·exact .inl ⟨false,trivial,rfl,has_of hb,fun y _ hh=>by have:=hany y hh; cases y; rfl; simp at this,rfl,hS⟩
   ·exact .inl ⟨true,trivial,rfl,has_of hb,fun y _ hh=>by have:=hany y hh; cases y; simp at this; rfl,rfl,hS⟩
 ·(try simp only [o_chk,fa_198_2,Nat.zero_add,fa_198_1,o_ext2_1,o_not,Bool.not_false,condT,o_ext2_0])
  refine .inr ⟨rfl,fun y _ ⟨he,hh⟩=>hno ⟨he,hh.le hoff⟩,off,_,?_,hS⟩
  by_cases he:err=0
  ·rw [if_pos he]; exact ⟨by omega,rfl⟩
  ·rw [if_neg he]; exact ⟨he,rfl⟩
def encL (k:List UInt8):List UInt8:=enc 4 (IntKind.i32.wrap k.length)++k
def okL (most:Int) (k:List UInt8):Prop:=(k.length:Int)≤most∧k.length≤2147483647
theorem encL_uniq {all:List UInt8} {off:Nat} {k m:List UInt8} (hk:k.length≤2147483647) (hm:m.length≤2147483647) (h1:Has all off (encL k)) (h2:Has all off (encL m)):k=m:=by
 obtain ⟨a1,b1⟩:=Has.split.1 h1
 obtain ⟨a2,b2⟩:=Has.split.1 h2
 have t1:=a1.take
 have t2:=a2.take
 rw [enc_length] at t1 t2 b1 b2
 have e:=t1.symm.trans t2
 have d1:=dec_enc 4 (IntKind.i32.wrap k.length)
 have d2:=dec_enc 4 (IntKind.i32.wrap m.length)
 rw [e,d2,wr_i32 (by omega) (by omega),wr_i32 (by omega) (by omega)] at d1
 have hl:k.length=m.length:=by omega
 have u1:=b1.take
 have u2:=b2.take
 rw [← u1,← u2,hl]
theorem gSized (most:Int) (h:St o w (RdrAt g B all off err::R)):CallV π Z 195 #[.pointer (some ⟨g,0,none⟩),.int .i64 most] w fun r w'=>
  (∃k,okL most k∧err=0∧Has all off (encL k)∧Vw B (off+4) k.length r∧St o w' (RdrAt g B all (off+(encL k).length) 0::R)) ∨
  (r=.slice none 0 0∧(∀k,okL most k→¬ (err=0∧Has all off (encL k)))∧∃off' e',(e' ≠ 0∧off'=off)∧St o w' (RdrAt g B all off' e'::R)):=by
 have hoff:=RdrAt.le h
 refine f195.calls ?_
 unfold f195.sh
 refine (rMark Z h).mono fun at_ w1 ⟨hv,hw⟩=>?_
 subst hw
 refine (gInt32 Z h).mono fun r2 w2 hq=>?_
 have hpre:∀k:List UInt8,Has all off (encL k)→Has all off (enc 4 (IntKind.i32.wrap k.length)):=fun k hh=>(Has.split.1 hh).1
 rcases hq with ⟨x,⟨hx1,hx2⟩,rfl,hhas,huniq,rfl,hS⟩ | ⟨rfl,hno,off',e',he',hS⟩
 ·rw [enc_length] at hS
  have hle4:=hhas.le hoff
  rw [enc_length] at hle4
  have hlen:∀k,okL most k→Has all off (encL k)→(k.length:Int)=x:=fun k hk hh=>by
   have:=huniq _ (i32_range _) (hpre k hh)
   rw [wr_i32 (by have:=hk.2; omega) (by have:=hk.2; omega)] at this
   exact this
  (try simp only [o_chk,fa_198_1,Nat.zero_add,cv_21_3,o_lss])
  rw [wr_i64 (x:=x) (by omega) (by omega)]
  refine (rOpen Z hS).mono fun r w3 ⟨hr,hw⟩=>?_
  subst hr; subst hw
  simp only [beq_self_eq_true]
  by_cases h1:x < 0
  ·(try simp only [h1,decide_true,o_pickT,condT,guardW_tf,o_not,Bool.not_true,condF])
   refine (rBack Z 11 hS hv hoff).mono fun r4 w4 hS=>.inr ⟨trivial,fun k hk ⟨_,hh⟩=>?_,off,11,by omega,hS⟩
   have:=hlen k hk hh
   omega
  by_cases h2:most < x
  ·(try simp only [h1,decide_false,o_pickF,guardW_ff,o_gtr,h2,decide_true,condT,o_not,Bool.not_true,condF])
   refine (rBack Z 11 hS hv hoff).mono fun r4 w4 hS=>.inr ⟨trivial,fun k hk ⟨_,hh⟩=>?_,off,11,by omega,hS⟩
   have:=hlen k hk hh
   have:=hk.1
   omega
  (try simp only [h1,decide_false,o_pickF,guardW_ff,o_gtr,h2,condF,o_not,Bool.not_true])
  obtain ⟨n,rfl⟩:∃n:Nat,x=n:=⟨x.toNat,by omega⟩
  refine (rAhead Z n hS).mono fun r5 w5 hq=>?_
  rcases hq with ⟨y,rfl,_,hle,hvy,hS⟩ | ⟨rfl,hno,hS⟩
  ·(try simp only [o_ext2_1,o_not,Bool.not_true,condF,o_ext2_0])
   obtain ⟨v,hv5,ho5,hO⟩:=RdrAt.open hS
   refine r_load one43 (hO.at List.mem_cons_self 1 rfl) ?_
   obtain ⟨x2,hx2',hvx2⟩:=hv5.from n (by omega) .i64
   refine r1 (hx2' _) ?_
   skip
   have hvx3:Vw B (off+4+n) (all.length - (off+4+n)) x2:=by rw [show all.length - (off+4+n)=all.length - (off+4) - n by omega]; exact hvx2
   refine rPut Z hS hvx3 (by omega) fun w6 hS=>.inl ⟨(all.drop (off+4)).take n,?_,trivial,?_,?_,?_⟩
   ·have hl:((all.drop (off+4)).take n).length=n:=by rw [List.length_take,List.length_drop]; omega
    exact ⟨by rw [hl]; omega,by rw [hl]; omega⟩
   ·have hl:((all.drop (off+4)).take n).length=n:=by rw [List.length_take,List.length_drop]; omega
    refine Has.split.2 ⟨?_,?_⟩
    ·rw [hl,wr_i32 (by omega) (by omega)]; exact hhas
    ·rw [enc_length]; exact has_of rfl
   ·have hl:((all.drop (off+4)).take n).length=n:=by rw [List.length_take,List.length_drop]; omega
    rw [hl]; exact hvy
   ·have hl:((all.drop (off+4)).take n).length=n:=by rw [List.length_take,List.length_drop]; omega
    have:off+(encL ((all.drop (off+4)).take n)).length=off+4+n:=by unfold encL; rw [List.length_append,enc_length,hl]; omega
    rw [this]; exact hS
  ·(try simp only [o_ext2_1,o_not,Bool.not_false,condT,o_ext2_0])
   refine (rBack Z 10 hS hv hoff).mono fun r6 w6 hS=>.inr ⟨trivial,fun k hk ⟨_,hh⟩=>hno ⟨rfl,?_⟩,off,10,by omega,hS⟩
   have h3:=hlen k hk hh
   have h4:=(Has.split.1 hh).2.le (by rw [enc_length]; omega)
   rw [enc_length] at h4
   omega
 ·have hbe:(e' == 0)=false:=by simpa using he'.1
  (try simp only [o_chk,fa_198_1,Nat.zero_add,cv_21_3,o_lss])
  refine (rOpen Z hS).mono fun r w3 ⟨hr,hw⟩=>?_
  subst hr; subst hw
  (try simp only [hbe,o_not,Bool.not_false,condT])
  refine .inr ⟨trivial,fun k hk ⟨he,hh⟩=>hno _ (i32_range _) ⟨he,hpre k hh⟩,off',e',he',hS⟩
theorem gText (most:Int) (h:St o w (RdrAt g B all off err::R)):CallV π Z 151 #[.pointer (some ⟨g,0,none⟩),.int .i64 most] w fun r w'=>Gets encL (okL most) (fun k=>.string (str k)) (.string (str [])) g B all off err o R r w':=by
 refine f151.calls ?_
 unfold f151.sh
 refine (gSized Z most h).mono fun r w1 hq=>?_
 rcases hq with ⟨k,hk,he,hh,hv,hS⟩ | ⟨rfl,hno,hS⟩
 ·obtain ⟨_,_,hle,hO⟩:=RdrAt.open hS
  have h2:=(Has.split.1 hh).2
  rw [enc_length] at h2
  have hl4:off+4+k.length≤all.length:=by unfold encL at hle; rw [List.length_append,enc_length] at hle; omega
  have hrd:=hv.rd hO (List.mem_cons_of_mem _ List.mem_cons_self) hl4
  rw [h2.take] at hrd
  refine r1 (run_toString Tryz.underlying43 Tryz.underlying5 Tryz.underlying9 (l:=k) hrd) ?_
  exact .inl ⟨k,hk,he,hh,fun y hy hhy=>encL_uniq hy.2 hk.2 hhy hh,rfl,hS⟩
 ·refine r1 (run_toString Tryz.underlying43 Tryz.underlying5 Tryz.underlying9 (l:=[]) ⟨rfl,by simp [maxLen],.inl ⟨0,rfl,rfl⟩⟩) ?_
  exact .inr ⟨rfl,hno,hS⟩
def GetsB (e:List UInt8→List UInt8) (ok:List UInt8→Prop) (g:Nat) (B:Option Nat) (all:List UInt8) (off:Nat) (err:Int) (o:World) (R:List HProp) (r:Value) (w':World):Prop:=
 (∃k,ok k∧err=0∧Has all off (e k)∧(∀y,ok y→Has all off (e y)→y=k)∧St o w' (own 5 1 r k.length (cb k)::RdrAt g B all (off+(e k).length) 0::R)) ∨
 ((∀x,ok x→¬ (err=0∧Has all off (e x)))∧∃off' e',(e' ≠ 0∧off'=off)∧St o w' (own 5 1 r 0 (cb [])::RdrAt g B all off' e'::R))
theorem gBuffer (most:Int) (hall:all.length≤140737488355328) (h:St o w (RdrAt g B all off err::R)):CallV π Z 152 #[.pointer (some ⟨g,0,none⟩),.int .i64 most] w fun r w'=>GetsB encL (okL most) g B all off err o R r w':=by
 refine f152.calls ?_
 unfold f152.sh
 refine (gSized Z most h).mono fun r w1 hq=>?_
 rcases hq with ⟨k,hk,he,hh,hv,hS⟩ | ⟨rfl,hno,off',e',he',hS⟩
 ·obtain ⟨_,_,hle,hO⟩:=RdrAt.open hS
  have h2:=(Has.split.1 hh).2
  rw [enc_length] at h2
  have hl4:off+4+k.length≤all.length:=by unfold encL at hle; rw [List.length_append,enc_length] at hle; omega
  have hrd:=hv.rd hO (List.mem_cons_of_mem _ List.mem_cons_self) hl4
  rw [h2.take] at hrd
  refine r_append el43 (hS.own_nil 5 1) (hrd.src Tryz.underlying43 (cb_ones _)) (by have:=hk.2; omega) (by have:=hk.2; simp only [maxLen]; omega) fun v' w2 hS=>?_
  rw [List.nil_append,Nat.zero_add] at hS
  exact .inl ⟨k,hk,he,hh,fun y hy hhy=>encL_uniq hy.2 hk.2 hhy hh,hS⟩
 ·have hz:Rd w1 1 (.slice none 0 0) 0 (cb []):=⟨rfl,by simp [maxLen],.inl ⟨0,rfl,rfl⟩⟩
  refine r_append el43 (hS.own_nil 5 1) (hz.src Tryz.underlying43 (cb_ones _)) (by omega) (by simp only [maxLen]; omega) fun v' w2 hS=>?_
  exact .inr ⟨hno,off',e',he',hS⟩
end

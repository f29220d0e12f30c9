
/- Readers: what each call of a Reader answers, and leaves. -/
import Derived.Test.YtbdfhfceffkhgaaGreatDoorP2
set_option linter.unusedVariables false
set_option linter.unusedSimpArgs false
namespace Go.Proofs.YtbdfhfceffkhgaaGreatDoor
open Go.Sh
open Tryz renaming prog → π
def buf (B:Option Nat) (all:List UInt8):HProp:=fun h=>match B with
 | none=>all=[]
 | some b=>∃rest,blk b 5 (cb all++rest) h
def Vw (B:Option Nat) (off n:Nat) (v:Value):Prop:=∃a c,v=.slice a n c∧n≤c∧n≤maxLen∧(n=0∨∃b,B=some b∧a=some ⟨b,off,none⟩)
section
variable {o w:World} {R As:List HProp} {g:Nat} {B:Option Nat} {all:List UInt8} {off n k:Nat} {v:Value} {err:Int}
theorem Vw.to (h:Vw B off n v) (k:Nat) (hk:k≤n) (q q':IntKind):∃x,(∀w,(Instr.sliceAt 43 v none (some (.int q k)) (some (.int q' k))).run π w=.ok x w)∧Vw B off k x:=by
 obtain ⟨a,c,rfl,h1,h2,h3⟩:=h
 refine ⟨_,fun w=>run_slice_3 el43 a n c q q' k k (by omega) (by omega) (by omega) w,_,_,rfl,Nat.le_refl _,by omega,?_⟩
 rcases h3 with rfl | ⟨b,rfl,rfl⟩
 ·exact .inl (by omega)
 ·exact .inr ⟨b,rfl,rfl⟩
theorem Vw.from (h:Vw B off n v) (k:Nat) (hk:k≤n) (q:IntKind):∃x,(∀w,(Instr.sliceAt 43 v (some (.int q k)) none none).run π w=.ok x w)∧Vw B (off+k) (n - k) x:=by
 obtain ⟨a,c,rfl,h1,h2,h3⟩:=h
 refine ⟨_,fun w=>run_slice_from el43 a n c q k (by omega) (by omega) w,_,_,rfl,by omega,by omega,?_⟩
 rcases h3 with rfl | ⟨b,rfl,rfl⟩
 ·exact .inl (by omega)
 ·by_cases hc:c=k
  ·exact .inl (by omega)
  ·refine .inr ⟨b,rfl,?_⟩
   simp [hc,add_addr]
theorem Vw.rd (h:Vw B off n v) (hS:St o w As) (hm:buf B all ∈ As) (hn:off+n≤all.length):Rd w 1 v n (cb ((all.drop off).take n)):=by
 obtain ⟨a,c,rfl,h1,h2,h3⟩:=h
 refine ⟨by simp [cb]; omega,h2,?_⟩
 rcases h3 with rfl | ⟨b,rfl,rfl⟩
 ·cases a with
  | none=>exact .inl ⟨c,rfl,rfl⟩
  | some a=>exact .inr ⟨a,c,rfl,fun j u hu=>by simp [cb] at hu⟩
 ·refine .inr ⟨_,c,rfl,fun j u hu=>?_⟩
  obtain ⟨S,rest,hA⟩:=satH_mem hm hS.sat
  have hb:ob 5 (cb all++rest) w.heap[b]? := (blk_on hA).1
  have hj:=(List.getElem?_eq_some_iff.1 hu).1
  rw [cb_length,List.length_take,List.length_drop] at hj
  rw [add_addr,cell_of_blk hb,List.getElem?_append_left (by rw [cb_length]; omega),← hu]
  simp only [cb,List.getElem?_map,List.getElem?_take,List.getElem?_drop]
  rw [if_pos (by omega)]
theorem own_buf (h:St o w (own 5 1 v n (cb all)::R)):∃B,Vw B 0 n v∧St o w (buf B all::R):=by
 obtain ⟨hl,⟨rfl,rfl,h2⟩ | ⟨b,cap,rest,rfl,h1,h2,h3,hB⟩⟩:=h.own_open
 ·refine ⟨none,⟨none,0,rfl,Nat.le_refl _,by simp [maxLen],.inl rfl⟩,?_⟩
  have:all=[]:=by simpa [cb] using hl
  subst this
  exact h2.emp.mono fun _ _=>rfl
 ·exact ⟨some b,⟨_,_,rfl,h1,Nat.le_trans h1 h2,.inr ⟨b,rfl,rfl⟩⟩,hB.mono fun _ hx=>⟨rest,hx⟩⟩
def RdrAt (g:Nat) (B:Option Nat) (all:List UInt8) (off:Nat) (err:Int):HProp:=fun h=>∃v,(Vw B off (all.length - off) v∧off≤all.length)∧sep (blk g 198 [.bool true,v,.int .i64 err]) (buf B all) h
theorem RdrAt.open (h:St o w (RdrAt g B all off err::R)):∃v,Vw B off (all.length - off) v∧off≤all.length∧St o w (blk g 198 [.bool true,v,.int .i64 err]::buf B all::R):=by
 obtain ⟨v,h⟩:=h.ex
 obtain ⟨⟨h1,h2⟩,h⟩:=h.pure
 exact ⟨v,h1,h2,h.sep⟩
theorem RdrAt.shut (hv:Vw B off (all.length - off) v) (ho:off≤all.length) (h:St o w (blk g 198 [.bool true,v,.int .i64 err]::buf B all::R)):St o w (RdrAt g B all off err::R):=
 (h.sep_intro.pure_intro ⟨hv,ho⟩).ex_intro v
theorem RdrAt.le (h:St o w (RdrAt g B all off err::R)):off≤all.length:=by obtain ⟨_,_,h,_⟩:=RdrAt.open h; exact h
def Rdr (g:Nat) (rest:List UInt8) (err:Int):HProp:=fun h=>∃B all off,rest=all.drop off∧RdrAt g B all off err h
theorem Rdr.open {rest:List UInt8} (h:St o w (Rdr g rest err::R)):∃B all off,rest=all.drop off∧St o w (RdrAt g B all off err::R):=by
 obtain ⟨B,h⟩:=h.ex
 obtain ⟨all,h⟩:=h.ex
 obtain ⟨off,h⟩:=h.ex
 obtain ⟨h1,h⟩:=h.pure
 exact ⟨B,all,off,h1,h⟩
theorem Rdr.shut (h:St o w (RdrAt g B all off err::R)):St o w (Rdr g (all.drop off) err::R):=((((h.pure_intro rfl).ex_intro off).ex_intro all).ex_intro B)
theorem Vw.one (h:Vw B off n v):v.oneCell'=true:=by obtain ⟨a,c,rfl,_⟩:=h; rfl
end
section
variable (Z:PZ) {o w:World} {R:List HProp} {g:Nat} {B:Option Nat} {all l:List UInt8} {off:Nat} {err:Int}
theorem rNew {x:Value} {n:Nat} (h:St o w R) (hx:Ent o R fun w=>Rd w 1 x n (cb l)) (hl:l.length≤140737488355328) :
  CallV π Z 96 #[x] w fun r w'=>∃g B,r=.pointer (some ⟨g,0,none⟩)∧St o w' (RdrAt g B l 0 0::R):=by
 have h0:=hx w h
 have hn:=rd_len h0
 subst hn
 refine f96.calls ?_
 unfold f96.sh
 refine r_append el43 (h.own_nil 5 1) (h0.src Tryz.underlying43 (cb_ones _)) (by omega) (by simp only [maxLen]; omega) fun v' w1 hS=>?_
 rw [List.nil_append,Nat.zero_add] at hS
 obtain ⟨a,c,rfl⟩:=hS.own_form
 refine r1 (run_build w1 198 _ #[.bool true,.slice a l.length c,.int .i64 0] (by kernel_rfl)) ?_
 obtain ⟨B,hv,hS⟩:=own_buf hS
 refine r_box 198 _ hS fun g w2 hS=>?_
 exact ⟨g,B,rfl,RdrAt.shut (off:=0) (by simpa using hv) (by omega) hS⟩
theorem rNone (h:St o w (RdrAt g B all off err::R)):CallV π Z 198 #[.pointer (some ⟨g,0,none⟩)] w fun r w'=>r=.bool false∧w'=w:=by
 refine f198.calls ?_
 unfold f198.sh
 obtain ⟨v,hv,ho,hS⟩:=RdrAt.open h
 (try simp only [eqlp_142,o_pickF,guardW_ff,o_chk,fa_198_0,Nat.add_zero])
 refine r_load one4 (hS.at List.mem_cons_self 0 rfl) ?_
 (try simp only [o_not,Bool.not_true])
 exact ⟨trivial,trivial⟩
theorem rOpen (h:St o w (RdrAt g B all off err::R)):CallV π Z 160 #[.pointer (some ⟨g,0,none⟩)] w fun r w'=>r=.bool (err == 0)∧w'=w:=by
 refine f160.calls ?_
 unfold f160.sh
 refine (rNone Z h).mono fun r w' ⟨hr,hw⟩=>?_
 subst hr; subst hw
 obtain ⟨v,hv,ho,hS⟩:=RdrAt.open h
 (try simp only [o_not,Bool.not_false,o_pickT,guardW_true,o_chk,fa_198_2,Nat.zero_add])
 refine r_load one30 (hS.at List.mem_cons_self 2 rfl) ?_
 (try simp only [o_eql])
 exact ⟨trivial,trivial⟩
theorem rMark (h:St o w (RdrAt g B all off err::R)):CallV π Z 196 #[.pointer (some ⟨g,0,none⟩)] w fun r w'=>Vw B off (all.length - off) r∧w'=w:=by
 refine f196.calls ?_
 unfold f196.sh
 refine (rNone Z h).mono fun r w' ⟨hr,hw⟩=>?_
 subst hr; subst hw
 obtain ⟨v,hv,ho,hS⟩:=RdrAt.open h
 (try simp only [o_chk,fa_198_1,Nat.zero_add,condF])
 refine r_load one43 (hS.at List.mem_cons_self 1 rfl) ?_
 exact ⟨hv,rfl⟩
theorem rErr (h:St o w (RdrAt g B all off err::R)):CallV π Z 161 #[.pointer (some ⟨g,0,none⟩)] w fun r w'=>r=.int .i64 err∧w'=w:=by
 refine f161.calls ?_
 unfold f161.sh
 refine (rNone Z h).mono fun r w' ⟨hr,hw⟩=>?_
 subst hr; subst hw
 obtain ⟨v,hv,ho,hS⟩:=RdrAt.open h
 (try simp only [o_chk,fa_198_2,Nat.zero_add,condF])
 refine r_load one30 (hS.at List.mem_cons_self 2 rfl) ?_
 exact ⟨rfl,rfl⟩
theorem rEnd (h:St o w (RdrAt g B all off err::R)):CallV π Z 101 #[.pointer (some ⟨g,0,none⟩)] w fun r w'=>r=.int .i64 (if err=0∧off < all.length then 13 else err)∧w'=w:=by
 refine f101.calls ?_
 unfold f101.sh
 refine (rOpen Z h).mono fun r w' ⟨hr,hw⟩=>?_
 subst hr; subst hw
 obtain ⟨v,hv,ho,hS⟩:=RdrAt.open h
 by_cases he:err=0
 ·subst he
  obtain ⟨a,c,rfl,_⟩:=hv
  (try simp only [beq_self_eq_true,o_pickT,guardW_true,o_chk,fa_198_1,Nat.zero_add])
  skip
  skip
  refine r_load one43 (hS.at List.mem_cons_self 1 rfl) ?_
  (try simp only [ln_43_3,o_gtr,cond_decide])
  refine ⟨fun hlt=>⟨by rw [if_pos ⟨trivial,by omega⟩],trivial⟩,fun hge=>?_⟩
  refine (rErr Z h).mono fun r w' ⟨hr,hw⟩=>?_
  subst hr; subst hw
  exact ⟨by rw [if_neg (by omega)],rfl⟩
 ·have:(err == 0)=false:=by simpa using he
  rw [this]
  (try simp only [o_pickF,condF,guardW_ft])
  refine (rErr Z h).mono fun r w' ⟨hr,hw⟩=>?_
  subst hr; subst hw
  exact ⟨by rw [if_neg (by omega)],rfl⟩
theorem rSet {k:World→Prop} (e:Int) (h:St o w (RdrAt g B all off err::R)) (hk:∀w',St o w' (RdrAt g B all off e::R)→k w'):rO π Z (Instr.storeAt 30 (.pointer (some ⟨g,2,none⟩)) (.int .i64 e)) w k:=by
 obtain ⟨v,hv,ho,hS⟩:=RdrAt.open h
 exact r_store hS one30 (by simp) rfl fun w' hS=>hk w' (RdrAt.shut hv ho hS)
theorem rPut {k:World→Prop} {v:Value} {off':Nat} (h:St o w (RdrAt g B all off err::R)) (hv:Vw B off' (all.length - off') v) (ho:off'≤all.length) (hk:∀w',St o w' (RdrAt g B all off' err::R)→k w'):rO π Z (Instr.storeAt 43 (.pointer (some ⟨g,1,none⟩)) v) w k:=by
 obtain ⟨_,_,_,hS⟩:=RdrAt.open h
 exact r_store hS one43 (by simp) hv.one fun w' hS=>hk w' (RdrAt.shut hv ho hS)
theorem rFail (e:Int) (h:St o w (RdrAt g B all off err::R)):CallV π Z 149 #[.pointer (some ⟨g,0,none⟩),.int .i64 e] w fun r w'=>St o w' (RdrAt g B all off (if err=0 then e else err)::R):=by
 refine f149.calls ?_
 unfold f149.sh
 refine (rOpen Z h).mono fun r w' ⟨hr,hw⟩=>?_
 subst hr; subst hw
 by_cases he:err=0
 ·subst he
  simp only [beq_self_eq_true,if_true]
  (try simp only [o_chk,fa_198_2,Nat.zero_add,condT])
  exact rSet Z e h fun w' hS=>hS
 ·have:(err == 0)=false:=by simpa using he
  rw [this,if_neg he]
  (try simp only [o_chk,fa_198_2,Nat.zero_add,condF])
  exact h
theorem rBack {v:Value} {off':Nat} (e:Int) (h:St o w (RdrAt g B all off err::R)) (hv:Vw B off' (all.length - off') v) (ho:off'≤all.length):CallV π Z 197 #[.pointer (some ⟨g,0,none⟩),v,.int .i64 e] w fun r w'=>St o w' (RdrAt g B all off' e::R):=by
 refine f197.calls ?_
 unfold f197.sh
 (try simp only [o_chk,fa_198_2,Nat.zero_add,fa_198_1])
 refine rPut Z h hv ho fun w1 hS=>?_
 skip
 exact rSet Z e hS fun w' hS=>hS
theorem rAhead (n:Nat) (h:St o w (RdrAt g B all off err::R)):CallV π Z 194 #[.pointer (some ⟨g,0,none⟩),.int .i64 n] w fun r w'=>
  (∃x,r=.tuple #[x,.bool true]∧err=0∧off+n≤all.length∧Vw B off n x∧St o w' (RdrAt g B all off 0::R)) ∨
  (r=.tuple #[.slice none 0 0,.bool false]∧¬ (err=0∧off+n≤all.length)∧St o w' (RdrAt g B all off (if err=0 then 10 else err)::R)):=by
 refine f194.calls ?_
 unfold f194.sh
 refine (rOpen Z h).mono fun r w' ⟨hr,hw⟩=>?_
 subst hr; subst hw
 obtain ⟨v,hv,ho,hS⟩:=RdrAt.open h
 by_cases he:err=0
 ·subst he
  obtain ⟨a,c,rfl,hv'⟩:=id hv
  (try simp only [beq_self_eq_true])
  (try simp only [o_chk,fa_198_2,Nat.zero_add,fa_198_1,o_not,Bool.not_true,condF])
  refine r_load one43 (hS.at List.mem_cons_self 1 rfl) ?_
  (try simp only [ln_43_3,o_lss,cond_decide])
  refine ⟨fun hlt=>?_,fun hge=>?_⟩
  ·refine rSet Z 10 h fun w' hS=>.inr ⟨trivial,by omega,hS⟩
  ·refine r_load one43 (hS.at List.mem_cons_self 1 rfl) ?_
   obtain ⟨x,hx,hvx⟩:=hv.to n (by omega) .i64 .i64
   exact r1 (hx _) (.inl ⟨x,rfl,trivial,by omega,hvx,h⟩)
 ·have:(err == 0)=false:=by simpa using he
  rw [this]
  (try simp only [o_chk,fa_198_2,Nat.zero_add,fa_198_1,o_not,Bool.not_false,condT])
  exact .inr ⟨trivial,by omega,by rw [if_neg he]; exact h⟩
def dec (l:List UInt8):Nat:=l.foldl (fun v x=>v * 256+x.toNat) 0
theorem dec_take {l:List UInt8} {i:Nat} (h:i < l.length):dec (l.take (i+1))=dec (l.take i) * 256+l[i].toNat:=by
 rw [List.take_succ_eq_append_getElem h]
 unfold dec
 rw [List.foldl_append]
 rfl
theorem dec_lt (l:List UInt8):dec l < 256 ^ l.length:=by
 have key:∀(l:List UInt8) (v n:Nat),v < 256 ^ n→l.foldl (fun v x=>v * 256+x.toNat) v < 256 ^ (n+l.length):=by
  intro l
  induction l with
  | nil=>intro v n h; simpa using h
  | cons x l ih=>
   intro v n h
   have hx:=x.toNat_lt
   have:=ih (v * 256+x.toNat) (n+1) (by rw [Nat.pow_succ]; omega)
   simpa [Nat.add_assoc,Nat.add_comm 1] using this
 have:=key l 0 0 (by simp)
 rw [Nat.zero_add] at this
 exact this
theorem dec_or (a:Nat) (b:Nat) (ha:a < 2 ^ 56) (hb:b < 256):IntKind.u64.wrap (BitVec.ofInt 64 (IntKind.u64.wrap ((a:Int) * 2 ^ 8)) ||| BitVec.ofInt 64 (b:Int)).toNat=((a * 256+b:Nat):Int):=by
 have e1:IntKind.u64.wrap ((a:Int) * 2 ^ 8)=((a * 256:Nat):Int):=by
  rw [wr_u64 (by omega) (by omega)]; omega
 rw [e1,BitVec.ofInt_natCast,BitVec.ofInt_natCast,BitVec.toNat_or,BitVec.toNat_ofNat,BitVec.toNat_ofNat]
 have h1:a * 256 % 2 ^ 64=a * 256:=Nat.mod_eq_of_lt (by omega)
 have h2:b % 2 ^ 64=b:=Nat.mod_eq_of_lt (by omega)
 rw [h1,h2]
 have h3:a * 256 ||| b=a * 256+b:=by
  have:=Nat.two_pow_add_eq_or_of_lt (i:=8) (b:=b) (by omega) a
  rw [show a * 256=2 ^ 8 * a by omega,← this]
 rw [h3,wr_u64 (by omega) (by omega)]
theorem rWhole (n:Nat) (hn:n≤8) (h:St o w (RdrAt g B all off err::R)):CallV π Z 148 #[.pointer (some ⟨g,0,none⟩),.int .i64 n] w fun r w'=>
  (r=.int .u64 (dec ((all.drop off).take n))∧err=0∧off+n≤all.length∧St o w' (RdrAt g B all (off+n) 0::R)) ∨
  (r=.int .u64 0∧¬ (err=0∧off+n≤all.length)∧St o w' (RdrAt g B all off (if err=0 then 10 else err)::R)):=by
 refine f148.calls ?_
 unfold f148.sh
 refine (rAhead Z n h).mono fun r w1 hq=>?_
 rcases hq with ⟨x,rfl,rfl,hle,hvx,hS⟩ | ⟨rfl,hno,hS⟩
 ·obtain ⟨a,c,rfl,_⟩:=id hvx
  (try simp only [o_chk,fa_198_1,Nat.zero_add,o_ext2_1,o_not,Bool.not_true,condF,o_ext2_0,ln_43_3])
  refine ⟨fun m y z w'=>∃i:Nat,y=.int .u64 (dec (((all.drop off).take n).take i))∧z=.int .i64 i∧m+i=n∧w'=w1,⟨n,0,rfl,rfl,rfl,rfl⟩,?_⟩
  rintro m _ _ w2 ⟨i,rfl,rfl,hi,rfl⟩ _
  have hll:((all.drop off).take n).length=n:=by rw [List.length_take,List.length_drop]; omega
  (try simp only [o_add,o_lss,cond_decide])
  refine ⟨fun hlt=>?_,fun hge=>?_⟩
  ·obtain ⟨_,_,_,hO⟩:=RdrAt.open hS
   have hi1:i < ((all.drop off).take n).length:=by omega
   obtain ⟨p,hp,hpc⟩:=rd_index (hvx.rd hO (List.mem_cons_of_mem _ List.mem_cons_self) hle) i hi1
   refine r1 (hp _) (r_load one5 hpc ?_)
   refine r1 (run_shl _ _ _ .u64 .u64 _ 8 (by omega)) ?_
   have hb:=((all.drop off).take n)[i].toNat_lt
   have hd:=dec_lt (((all.drop off).take n).take i)
   have hd2:dec (((all.drop off).take n).take i) < 2 ^ 56:=by
    refine Nat.lt_of_lt_of_le hd ?_
    have:(256:Nat) ^ (((all.drop off).take n).take i).length≤256 ^ 7:=Nat.pow_le_pow_right (by omega) (by rw [List.length_take]; omega)
    omega
   (try simp only [cv_5_162,o_or])
   rw [wr_u64 (x:=((((all.drop off).take n)[i].toNat:Nat):Int)) (by omega) (by omega),wr_i64 (x:=(i:Int)+1) (by omega) (by omega)]
   refine ⟨m - 1,by omega,i+1,?_,rfl,by omega,trivial⟩
   rw [dec_take hi1]
   exact congrArg _ (dec_or _ _ hd2 (by omega))
  ·obtain rfl:i=n:=by omega
   rw [List.take_take,Nat.min_self]
   obtain ⟨v,hv,ho,hO⟩:=RdrAt.open hS
   refine r_load one43 (hO.at List.mem_cons_self 1 rfl) ?_
   obtain ⟨x,hx,hvx2⟩:=hv.from i (by omega) .i64
   refine r1 (hx _) ?_
   (try simp only [])
   refine rPut Z hS (by rwa [show all.length - off - i=all.length - (off+i) by omega] at hvx2) hle fun w3 hS3=>?_
   exact .inl ⟨trivial,trivial,hle,hS3⟩
 ·(try simp only [o_chk,fa_198_1,Nat.zero_add,o_ext2_1,o_not,Bool.not_false,condT,o_ext2_0])
  exact .inr ⟨trivial,hno,hS⟩
end

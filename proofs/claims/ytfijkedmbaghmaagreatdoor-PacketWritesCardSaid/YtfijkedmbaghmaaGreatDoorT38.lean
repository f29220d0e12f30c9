import Derived.Test.YtfijkedmbaghmaaGreatDoorT33
/- TxnChecks: the walk. -/
set_option linter.unusedVariables false
set_option linter.unusedSimpArgs false
namespace Go.Proofs.YtfijkedmbaghmaaGreatDoor
open Go.Sh
open Tryz renaming prog → π
section
variable (Z:PZ) {o w:World} {R As:List HProp}
end
end Go.Proofs.YtfijkedmbaghmaaGreatDoor

/- Lists of transactions with marks behind; TxnRises. -/
set_option linter.unusedVariables false
set_option linter.unusedSimpArgs false
namespace Go.Proofs.YtfijkedmbaghmaaGreatDoor
open Go.Sh
open Tryz renaming prog → π
section
variable (Z:PZ) {o w:World} {R As:List HProp}
end
end Go.Proofs.YtfijkedmbaghmaaGreatDoor

/- TxnRises: the walk. -/
set_option linter.unusedVariables false
set_option linter.unusedSimpArgs false
namespace Go.Proofs.YtfijkedmbaghmaaGreatDoor
open Go.Sh
open Tryz renaming prog → π
section
variable (Z:PZ) {o w:World} {R As:List HProp}
end
end Go.Proofs.YtfijkedmbaghmaaGreatDoor

/- The document's Write. -/
set_option linter.unusedVariables false
set_option linter.unusedSimpArgs false
namespace Go.Proofs.YtfijkedmbaghmaaGreatDoor
open Go.Sh
open Tryz renaming prog → π
def letB (inner:Bool) (q:Rq) (c:UInt8):List UInt8:=
 if c=112 then encL q.f.path else if c=100 then encL q.f.data else if c=97 then lsB q.f.acl.length (q.f.acl.map enB) else if c=118 then enc 4 q.f.ver
 else if c=102 then encB q.f.eph++encB q.f.seq else if c=115 then (if inner then [] else enc 8 q.f.ses) else if c=116 then enc 4 q.f.tmo
 else if c=119 then (if inner then [] else lsB q.f.who.length (q.f.who.map idB)) else if c=111 then lsB q.ops.length (q.ops.map (reqI true)) else []
theorem lets_req (inner:Bool) (q:Rq) (hk:1≤q.f.kd∧q.f.kd≤12) (ho:opsB q=lsB q.ops.length (q.ops.map (reqI true))):enc 1 q.f.kd++((letsI q.f.kd).map (letB inner q)).flatten=reqI inner q:=by
 obtain ⟨k,hk'⟩:∃k:Nat,q.f.kd=k:=⟨q.f.kd.toNat,by omega⟩
 have hb:∀i,bi inner q.f i=(nmF inner k).testBit i:=fun i=>by unfold bi; rw [hk',Int.toNat_natCast]
 unfold reqI flB p0 p1 p2 p3 p4 p5 p6 p7
 rw [ho]
 simp only [hb]
 have hl:letsI q.f.kd=lets k:=by unfold letsI; rw [if_pos hk,hk',Int.toNat_natCast]
 rw [hl]
 have hbit:∀b:Bool,∀k < 13,∀i < 9,(nmF b k).testBit i=((lets k).elem (letter i) && !(b && (i == 5 || i == 7))):=by decide +kernel
 have hb':∀i,i < 9→(nmF inner k).testBit i=((lets k).elem (letter i) && !(inner && (i == 5 || i == 7))):=fun i hi=>hbit inner k (by omega) i hi
 rw [hb' 0 (by omega),hb' 1 (by omega),hb' 2 (by omega),hb' 3 (by omega),hb' 4 (by omega),hb' 5 (by omega),hb' 6 (by omega),hb' 7 (by omega),hb' 8 (by omega)]
 obtain rfl | rfl | rfl | rfl | rfl | rfl | rfl | rfl | rfl | rfl | rfl | rfl:k=1∨k=2∨k=3∨k=4∨k=5∨k=6∨k=7∨k=8∨k=9∨k=10∨k=11∨k=12:=by omega
 all_goals cases inner <;> simp [lets,letter,letB]
theorem flat_le {α:Type} (e:α→List UInt8) (l:List α) (i:Nat):((l.take i).map e).flatten.length≤(l.map e).flatten.length:=by
 have h:((l.take i).map e).flatten++((l.drop i).map e).flatten=(l.map e).flatten:=by rw [← List.flatten_append,← List.map_append,List.take_append_drop]
 rw [← h,List.length_append]; omega
section
variable (Z:PZ) {o w:World} {R:List HProp} {l k:List UInt8}
theorem behindC {v x:Value} {n:Nat} (hn:n=k.length) (hl:l.length+k.length≤140737488355328) (h:St o w (own 5 1 x n (cb k)::own 5 1 v l.length (cb l)::R)) :
  CallV π Z 214 #[v,x] w fun r w'=>St o w' (own 5 1 r (l++k).length (cb (l++k))::R):=by
 subst hn
 obtain ⟨a,c,rfl⟩:=h.own_form
 refine f214.calls ?_
 unfold f214.sh
 (try simp only [ln_30_3])
 refine ⟨fun m v y w'=>∃i:Nat,y=.int .i64 i∧m+i=k.length∧St o w' (own 5 1 v (l.length+i) (cb (l++k.take i))::own 5 1 (.slice a k.length c) k.length (cb k)::R),⟨k.length,0,rfl,rfl,by simpa using h.swap⟩,?_⟩
 clear h
 rintro m v _ w1 ⟨i,rfl,hi,hS⟩ _
 (try simp only [o_add,o_lss,cond_decide])
 refine ⟨fun hlt=>?_,fun hge=>?_⟩
 ·have hi1:i < k.length:=by omega
  obtain ⟨p,hp,hpc⟩:=rd_index (hS.own_rd m1) i hi1
  refine r1 (hp _) (r_load one5 hpc ?_)
  refine r_push el30 hS _ rfl (by omega) (by simp only [maxLen]; omega) fun v' w2 hS2=>?_
  skip
  rw [wr_i64 (x:=(i:Int)+1) (by omega) (by omega)]
  refine ⟨m - 1,by omega,i+1,rfl,by omega,?_⟩
  rw [List.take_succ_eq_append_getElem hi1,← List.append_assoc,cb_append]
  exact hS2
 ·obtain rfl:i=k.length:=by omega
  rw [List.take_length] at hS
  rw [List.length_append]
  exact hS.swap.drop
theorem refText' (x:List UInt8) (h:St o w R) (hl:4+x.length≤140737488355328):CallV π Z 237 #[.string (str x)] w fun r w'=>St o w' (own 5 1 r (encL x).length (cb (encL x))::R):=by
 have e:(str x).data.toList=x:=rfl
 refine (refText Z (str x) h (by rw [str_size]; omega)).mono fun r w' hS=>?_
 rw [str_size,e] at hS
 rw [encL_len]
 exact hS
theorem putIdC {v:Value} (x:Idd) (hl:l.length+(idB x).length≤100000000) (h:St o w (own 5 1 v l.length (cb l)::R)) :
  CallV π Z 238 #[v,.agg (idC x).toArray] w fun r w'=>St o w' (own 5 1 r (l++idB x).length (cb (l++idB x))::R):=by
 simp only [idB,List.length_append,encL_len] at hl
 refine f238.calls ?_
 unfold f238.sh
 refine r_box _ _ h fun g w1 hS=>?_
 have hS:St o w1 (blk g 175 (idC x)::own 5 1 v l.length (cb l)::R):=hS
 (try simp only [fa_175_1,Nat.zero_add,fa_175_0,Nat.add_zero])
 refine r_load one9 (hS.at m0 0 rfl) ?_
 refine (refText' Z x.sch hS.swap (by omega)).mono fun r w2 hS=>?_
 refine (behindC Z rfl (by rw [encL_len]; omega) hS).mono fun r2 w3 hS=>?_
 skip
 refine r_load one9 (hS.at m1 1 rfl) ?_
 refine (refText' Z x.nam hS (by omega)).mono fun r3 w4 hS=>?_
 refine (behindC Z rfl (by rw [List.length_append,encL_len,encL_len]; omega) hS).mono fun r4 w5 hS=>?_
 rw [List.append_assoc] at hS
 exact hS.swap.drop
end
end Go.Proofs.YtfijkedmbaghmaaGreatDoor

/- The document's Write: a request, a transaction. -/
set_option linter.unusedVariables false
set_option linter.unusedSimpArgs false
namespace Go.Proofs.YtfijkedmbaghmaaGreatDoor
open Go.Sh
open Tryz renaming prog → π
inductive Gd:Rq→Prop where
 | mk (q:Rq):(1≤q.f.kd∧q.f.kd≤12)→WfF q.f→q.ops.length * 144≤140737488351232→(∀x ∈ q.ops,Gd x)→opsB q=lsB q.ops.length (q.ops.map (reqI true))→Gd q
theorem Gd.kd {q:Rq} (h:Gd q):1≤q.f.kd∧q.f.kd≤12:=by cases h; assumption
theorem Gd.flat {q:Rq} (h:Gd q):WfF q.f:=by cases h; assumption
theorem Gd.len {q:Rq} (h:Gd q):q.ops.length * 144≤140737488351232:=by cases h; assumption
theorem Gd.all {q:Rq} (h:Gd q):∀x ∈ q.ops,Gd x:=by cases h; assumption
theorem Gd.ops {q:Rq} (h:Gd q):opsB q=lsB q.ops.length (q.ops.map (reqI true)):=by cases h; assumption
theorem gd_op {x:Rq} (h:isOp x=true) (hw:WfQ x):Gd x:=by
 obtain ⟨h1,_,_,_⟩:=isOp_spec h
 have h2:=(okI_of h hw).2
 refine .mk x ⟨h1.1,by omega⟩ hw.flat hw.len (fun y hy=>?_) ?_
 ·rw [h2] at hy; cases hy
 ·unfold opsB; rw [h2,List.map_nil,List.map_nil]
theorem gd_chk {q:Rq} (h:chkQ q=true) (hw:WfQ q):Gd q:=by
 obtain ⟨h1,h2,h3⟩:=chkQ_spec h
 refine .mk q h1 hw.flat hw.len (fun y hy=>gd_op (List.all_eq_true.1 h3 y hy) (hw.all y hy)) ?_
 exact opsB_req fun x hx=>okR_of (okI_of (List.all_eq_true.1 h3 x hx) (hw.all x hx))
section
variable (Z:PZ) {o w:World} {R:List HProp}
set_option maxRecDepth 100000 in
theorem refReq (q:Rq):∀(inner:Bool) {w:World} {R:List HProp} {l:List UInt8} {v:Value},Gd q→l.length+(reqI inner q).length≤10000000→(Ent o R fun w=>RdQ w q)→St o w (own 5 1 v l.length (cb l)::R) →
  CallV π Z 215 #[v,.agg q.cells.toArray,.bool inner] w fun r w'=>St o w' (own 5 1 r (l++reqI inner q).length (cb (l++reqI inner q))::R):=by
 induction q using Rq.ind with | h q ih=>?_
 intro inner w R l v hg hl hx h
 have hreq:=lets_req inner q hg.kd hg.ops
 refine f215.calls ?_
 unfold f215.sh
 refine r_box _ _ h fun g w1 hS=>?_
 have hS:St o w1 (blk g 35 q.cells::own 5 1 v l.length (cb l)::R):=hS
 have hS:=hS.swap
 have hx':Ent o (blk g 35 q.cells::R) fun w=>RdQ w q:=fun w hw=>hx w hw.drop
 obtain ⟨ad,cd,ed⟩:=(hx' w1 hS.drop).flat.data.form
 obtain ⟨aa,ca,ea⟩:=(hx' w1 hS.drop).flat.acl.form
 obtain ⟨aw,cw,ew⟩:=(hx' w1 hS.drop).flat.who.form
 obtain ⟨ao,co,eo⟩:=(hx' w1 hS.drop).row.form
 have hwf:=hg.flat
 have hwd:=hwf.data
 have hwp:=hwf.path
 have hwa:=hwf.acl.1
 have hww:=hwf.who.1
 have hwo:=hg.len
 (try simp only [fa_35_1,Nat.zero_add,fa_35_2,fa_35_3,fa_35_4,fa_35_6,fa_35_5,fa_35_7,o_not,cond_not,fa_35_8,fa_35_9,fa_35_10,fa_35_0,Nat.add_zero])
 refine r_load one22 (hS.at m1 0 rfl) ?_
 refine (lettersC Z q.f.kd).mono fun r w2 ⟨hr,hw⟩=>?_
 subst hr; subst hw
 refine r_load one22 (hS.at m1 0 rfl) ?_
 refine (refInt8 Z _ hwf.kd hS).mono fun r w3 hS=>?_
 rw [← hreq] at hl ⊢
 simp only [List.length_append,enc_length] at hl
 refine (behindC Z (k:=enc 1 q.f.kd) (by rw [enc_length]) (by rw [enc_length]; omega) hS).mono fun r w4 hS=>?_
 refine ⟨fun m v y w'=>∃i:Nat,y=.int .i64 i∧m+i=(letsI q.f.kd).length∧St o w' (own 5 1 v (l++enc 1 q.f.kd++(((letsI q.f.kd).take i).map (letB inner q)).flatten).length (cb (l++enc 1 q.f.kd++(((letsI q.f.kd).take i).map (letB inner q)).flatten))::blk g 35 q.cells::R),⟨(letsI q.f.kd).length,0,rfl,rfl,by simpa using hS⟩,?_⟩
 clear hS h
 rintro m v _ w1 ⟨i,rfl,hi,hS⟩ _
 have hll:(letsI q.f.kd).length≤1000:=by
  unfold letsI
  rw [if_pos hg.kd]
  have key:∀k < 13,(lets k).length≤1000:=by decide +kernel
  exact key _ (by have:=hg.kd; omega)
 by_cases hlt:(i:Int) < ((letsI q.f.kd).length:Int)
 case neg=>
  obtain rfl:i=(letsI q.f.kd).length:=by omega
  (try simp only [o_add,ln_9_3,str_size,o_lss,hlt,decide_false,condF])
  rw [List.take_length,List.append_assoc] at hS
  exact hS.swap.drop
 have hil:i < (letsI q.f.kd).length:=by omega
 (try simp only [o_add,ln_9_3,str_size,o_lss,hlt,decide_true,condT])
 -- what was written so far
 obtain ⟨p,hp⟩:∃p,p=l++enc 1 q.f.kd++(((letsI q.f.kd).take i).map (letB inner q)).flatten:=⟨_,rfl⟩
 have hpl:p.length+(letB inner q (letsI q.f.kd)[i]).length≤10000000:=by
  have h1:=flat_le (letB inner q) (letsI q.f.kd) (i+1)
  rw [flat_take _ _ _ hil,List.length_append] at h1
  rw [hp,List.length_append,List.length_append,enc_length]; omega
 rw [← hp] at hS
 intro j hj
 have HJ:∀(v:Value) (w':World),St o w' (own 5 1 v (p++letB inner q (letsI q.f.kd)[i]).length (cb (p++letB inner q (letsI q.f.kd)[i]))::blk g 35 q.cells::R)→j v w':=by
  intro v w' hS
  refine hj v w' fun _=>?_
  skip
  rw [wr_i64 (x:=(i:Int)+1) (by omega) (by omega)]
  refine ⟨m - 1,by omega,i+1,rfl,by omega,?_⟩
  rw [flat_take _ _ _ hil,← List.append_assoc,← hp]
  exact hS
 clear hj hp
 refine r1 (run_indexStr st9 .i64 _ i hil _) ?_
 generalize (letsI q.f.kd)[i]=c at hpl HJ ⊢
 have ec:∀n:Nat,n < 256→((c.toNat:Int) == (n:Int))=true→c=UInt8.ofNat n:=fun n hn h=>by
  have:=eq_of_beq h
  apply UInt8.toNat_inj.1
  rw [UInt8.toNat_ofNat']
  omega
 have nc:∀n:Nat,n < 256→((c.toNat:Int) == (n:Int))=false→c ≠ UInt8.ofNat n:=fun n hn h e=>by
  rw [e,UInt8.toNat_ofNat',show (n % 2 ^ 8:Nat)=n by omega] at h
  simp at h
 refine r1 (run_eql_int _ _ _ _ _ _ _ _) (cond_or (fun h=>?_) fun h=>?_)
 ·have e:=ec 112 (by omega) h
  have el:letB inner q c=encL q.f.path:=by rw [e]; rfl
  rw [el] at hpl HJ
  rw [encL_len] at hpl
  skip
  refine r_load one9 (hS.at m1 1 rfl) ?_
  refine (refText' Z q.f.path hS (by omega)).mono fun r w2 hS=>?_
  refine (behindC Z rfl (by rw [encL_len]; omega) hS).mono fun r2 w3 hS=>?_
  exact HJ _ _ hS
 have n1:c ≠ 112:=nc 112 (by omega) h
 clear h
 refine r1 (run_eql_int _ _ _ _ _ _ _ _) (cond_or (fun h=>?_) fun h=>?_)
 ·have e:=ec 100 (by omega) h
  have el:letB inner q c=encL q.f.data:=by rw [e]; rfl
  rw [el] at hpl HJ
  rw [encL_len] at hpl
  skip
  refine r_load one30 (hS.at m1 2 rfl) ?_
  refine (refBuffer Z (k:=q.f.data) hS (fun w hw=>(hx' w hw.drop).flat.data) (by omega)).mono fun r w2 hS=>?_
  have hS:St o w2 (own 5 1 r (4+q.f.data.length) (cb (encL q.f.data))::own 5 1 v p.length (cb p)::blk g 35 q.cells::R):=hS
  rw [← encL_len] at hS
  refine (behindC Z rfl (by rw [encL_len]; omega) hS).mono fun r2 w3 hS=>?_
  exact HJ _ _ hS
 have n2:c ≠ 100:=nc 100 (by omega) h
 clear h
 refine r1 (run_eql_int _ _ _ _ _ _ _ _) (cond_or (fun h=>?_) fun h=>?_)
 ·have e:=ec 97 (by omega) h
  have el:letB inner q c=lsB q.f.acl.length (q.f.acl.map enB):=by rw [e]; rfl
  rw [el] at hpl HJ
  simp only [lsB,List.length_append,enc_length] at hpl
  skip
  refine r_load one31 (hS.at m1 3 (congrArg some ea)) ?_
  (try simp only [ln_31_3,cv_3_21])
  refine (refInt32 Z _ (i32_range _) hS).mono fun r w2 hS=>?_
  refine (behindC Z (k:=enc 4 _) (by rw [enc_length]) (by rw [enc_length]; omega) hS).mono fun r2 w3 hS=>?_
  refine ⟨fun m v y w'=>∃i:Nat,y=.int .i64 i∧m+i=q.f.acl.length∧St o w' (own 5 1 v (p++enc 4 (IntKind.i32.wrap q.f.acl.length)++((q.f.acl.take i).map enB).flatten).length (cb (p++enc 4 (IntKind.i32.wrap q.f.acl.length)++((q.f.acl.take i).map enB).flatten))::blk g 35 q.cells::R),⟨q.f.acl.length,0,rfl,rfl,by simpa using hS⟩,?_⟩
  clear hS
  rintro m v _ w1 ⟨i,rfl,hi,hS⟩ _
  refine r_load one31 (hS.at m1 3 (congrArg some ea)) ?_
  (try simp only [o_add,ln_31_3,o_lss,cond_decide])
  refine ⟨fun hlt=>?_,fun hlt=>?_⟩
  ·have hil:i < q.f.acl.length:=by omega
   have hacl:=(hx' w1 hS.drop).flat.acl
   rw [ea] at hacl
   obtain ⟨b,p1,cs,hp,_,hcv,hc⟩:=(rowR_rd (c:=enC) (fun x=>rfl) hacl rfl).ix el31 .i64 i hil
   subst hcv
   have hfl:=flat_le enB q.f.acl (i+1)
   rw [flat_take _ _ _ hil,List.length_append] at hfl
   have hen:(enB q.f.acl[i]).length=1+(idB q.f.acl[i].who).length:=by rw [enB,List.length_append,enc_length]
   have hwe:=hwf.acl.2 _ (List.getElem_mem hil)
   refine r_load one31 (hS.at m1 3 (congrArg some ea)) ?_
   refine r1 (hp _) ?_
   (try simp only [fa_178_0,Nat.add_zero])
   refine r_load one22 (hc 0 _ rfl) ?_
   refine (refInt8 Z _ hwe.1 hS).mono fun r3 w4 hS=>?_
   refine (behindC Z (k:=enc 1 _) (by rw [enc_length]) (by simp only [List.length_append,enc_length]; omega) hS).mono fun r4 w5 hS=>?_
   have hacl:=(hx' w5 hS.drop).flat.acl
   rw [ea] at hacl
   obtain ⟨b,p1,cs,hp,_,hcv,hc⟩:=(rowR_rd (c:=enC) (fun x=>rfl) hacl rfl).ix el31 .i64 i hil
   subst hcv
   refine r_load one31 (hS.at m1 3 (congrArg some ea)) ?_
   refine r1 (hp _) ?_
   (try simp only [fa_178_1])
   refine r_loadN ag175 (xs:=idC q.f.acl[i].who) rfl (fun j u hu=>by rw [add_addr,Nat.add_assoc]; exact hc (1+j) u (by rw [Nat.add_comm]; exact hu)) ?_
   refine (putIdC Z _ (by simp only [List.length_append,enc_length]; omega) hS).mono fun r5 w6 hS=>?_
   rw [wr_i64 (x:=(i:Int)+1) (by omega) (by omega)]
   refine ⟨m - 1,by omega,i+1,rfl,by omega,?_⟩
   rw [flat_take _ _ _ hil,enB,← List.append_assoc,← List.append_assoc]
   exact hS
  ·obtain rfl:i=q.f.acl.length:=by omega
   rw [List.take_length,List.append_assoc] at hS
   exact HJ _ _ hS
 have n3:c ≠ 97:=nc 97 (by omega) h
 clear h
 refine r1 (run_eql_int _ _ _ _ _ _ _ _) (cond_or (fun h=>?_) fun h=>?_)
 ·have e:=ec 118 (by omega) h
  have el:letB inner q c=enc 4 q.f.ver:=by rw [e]; rfl
  rw [el] at hpl HJ
  rw [enc_length] at hpl
  skip
  refine r_load one21 (hS.at m1 4 rfl) ?_
  refine (refInt32 Z _ hwf.ver hS).mono fun r w2 hS=>?_
  refine (behindC Z (k:=enc 4 _) (by rw [enc_length]) (by rw [enc_length]; omega) hS).mono fun r2 w3 hS=>?_
  exact HJ _ _ hS
 have n4:c ≠ 118:=nc 118 (by omega) h
 clear h
 refine r1 (run_eql_int _ _ _ _ _ _ _ _) (cond_or (fun h=>?_) fun h=>?_)
 ·have e:=ec 102 (by omega) h
  have el:letB inner q c=encB q.f.eph++encB q.f.seq:=by rw [e]; rfl
  rw [el] at hpl HJ
  have hb1:∀b,(encB b).length=1:=fun b=>rfl
  rw [List.length_append,hb1,hb1] at hpl
  skip
  refine r_load one4 (hS.at m1 5 rfl) ?_
  refine (refBool Z _ hS).mono fun r w2 hS=>?_
  refine (behindC Z (k:=encB _) (by rw [hb1]) (by rw [hb1]; omega) hS).mono fun r2 w3 hS=>?_
  refine r_load one4 (hS.at m1 6 rfl) ?_
  refine (refBool Z _ hS).mono fun r w2 hS=>?_
  refine (behindC Z (k:=encB _) (by rw [hb1]) (by rw [hb1,List.length_append,hb1]; omega) hS).mono fun r2 w3 hS=>?_
  rw [List.append_assoc] at hS
  exact HJ _ _ hS
 have n5:c ≠ 102:=nc 102 (by omega) h
 clear h
 refine r1 (run_eql_int _ _ _ _ _ _ _ _) (cond_or (fun h=>?_) fun h=>?_)
 ·have e:=ec 115 (by omega) h
  cases inner with
  | true=>
   have el:letB true q c=[]:=by rw [e]; rfl
   rw [el] at HJ
   (try simp only [condT])
   exact HJ _ _ (by simpa using hS)
  | false=>
   have el:letB false q c=enc 8 q.f.ses:=by rw [e]; rfl
   rw [el] at hpl HJ
   rw [enc_length] at hpl
   (try simp only [condF])
   refine r_load one2 (hS.at m1 7 rfl) ?_
   refine (refInt64 Z _ hwf.ses hS).mono fun r w2 hS=>?_
   refine (behindC Z (k:=enc 8 _) (by rw [enc_length]) (by rw [enc_length]; omega) hS).mono fun r2 w3 hS=>?_
   exact HJ _ _ hS
 have n6:c ≠ 115:=nc 115 (by omega) h
 clear h
 refine r1 (run_eql_int _ _ _ _ _ _ _ _) (cond_or (fun h=>?_) fun h=>?_)
 ·have e:=ec 116 (by omega) h
  have el:letB inner q c=enc 4 q.f.tmo:=by rw [e]; rfl
  rw [el] at hpl HJ
  rw [enc_length] at hpl
  skip
  refine r_load one21 (hS.at m1 8 rfl) ?_
  refine (refInt32 Z _ hwf.tmo hS).mono fun r w2 hS=>?_
  refine (behindC Z (k:=enc 4 _) (by rw [enc_length]) (by rw [enc_length]; omega) hS).mono fun r2 w3 hS=>?_
  exact HJ _ _ hS
 have n7:c ≠ 116:=nc 116 (by omega) h
 clear h
 refine r1 (run_eql_int _ _ _ _ _ _ _ _) (cond_or (fun h=>?_) fun h=>?_)
 ·have e:=ec 119 (by omega) h
  cases inner with
  | true=>
   have el:letB true q c=[]:=by rw [e]; rfl
   rw [el] at HJ
   (try simp only [condT])
   exact HJ _ _ (by simpa using hS)
  | false=>
   have el:letB false q c=lsB q.f.who.length (q.f.who.map idB):=by rw [e]; rfl
   rw [el] at hpl HJ
   simp only [lsB,List.length_append,enc_length] at hpl
   (try simp only [condF])
   refine r_load one32 (hS.at m1 9 (congrArg some ew)) ?_
   (try simp only [ln_32_3,cv_3_21])
   refine (refInt32 Z _ (i32_range _) hS).mono fun r w2 hS=>?_
   refine (behindC Z (k:=enc 4 _) (by rw [enc_length]) (by rw [enc_length]; omega) hS).mono fun r2 w3 hS=>?_
   refine ⟨fun m v y w'=>∃i:Nat,y=.int .i64 i∧m+i=q.f.who.length∧St o w' (own 5 1 v (p++enc 4 (IntKind.i32.wrap q.f.who.length)++((q.f.who.take i).map idB).flatten).length (cb (p++enc 4 (IntKind.i32.wrap q.f.who.length)++((q.f.who.take i).map idB).flatten))::blk g 35 q.cells::R),⟨q.f.who.length,0,rfl,rfl,by simpa using hS⟩,?_⟩
   clear hS
   rintro m v _ w1 ⟨i,rfl,hi,hS⟩ _
   refine r_load one32 (hS.at m1 9 (congrArg some ew)) ?_
   (try simp only [o_add,ln_32_3,o_lss,cond_decide])
   refine ⟨fun hlt=>?_,fun hlt=>?_⟩
   ·have hil:i < q.f.who.length:=by omega
    have hwho:=(hx' w1 hS.drop).flat.who
    rw [ew] at hwho
    obtain ⟨b,p1,cs,hp,_,hcv,hc⟩:=(rowR_rd (c:=idC) (fun x=>rfl) hwho rfl).ix el32 .i64 i hil
    subst hcv
    have hfl:=flat_le idB q.f.who (i+1)
    rw [flat_take _ _ _ hil,List.length_append] at hfl
    refine r_load one32 (hS.at m1 9 (congrArg some ew)) ?_
    refine r1 (hp _) ?_
    refine r_loadN ag175 (xs:=idC q.f.who[i]) rfl (fun j u hu=>by rw [add_addr]; exact hc j u hu) ?_
    refine (putIdC Z _ (by simp only [List.length_append,enc_length]; omega) hS).mono fun r5 w6 hS=>?_
    skip
    rw [wr_i64 (x:=(i:Int)+1) (by omega) (by omega)]
    refine ⟨m - 1,by omega,i+1,rfl,by omega,?_⟩
    rw [flat_take _ _ _ hil,← List.append_assoc]
    exact hS
   ·obtain rfl:i=q.f.who.length:=by omega
    rw [List.take_length,List.append_assoc] at hS
    exact HJ _ _ hS
 have n8:c ≠ 119:=nc 119 (by omega) h
 clear h
 refine r1 (run_eql_int _ _ _ _ _ _ _ _) (cond_or (fun h=>?_) fun h=>?_)
 ·have e:=ec 111 (by omega) h
  have el:letB inner q c=lsB q.ops.length (q.ops.map (reqI true)):=by rw [e]; rfl
  rw [el] at hpl HJ
  simp only [lsB,List.length_append,enc_length] at hpl
  skip
  refine r_load one33 (hS.at m1 10 (congrArg some eo)) ?_
  (try simp only [ln_33_3,cv_3_21])
  refine (refInt32 Z _ (i32_range _) hS).mono fun r w2 hS=>?_
  refine (behindC Z (k:=enc 4 _) (by rw [enc_length]) (by rw [enc_length]; omega) hS).mono fun r2 w3 hS=>?_
  refine ⟨fun m v y w'=>∃i:Nat,y=.int .i64 i∧m+i=q.ops.length∧St o w' (own 5 1 v (p++enc 4 (IntKind.i32.wrap q.ops.length)++((q.ops.take i).map (reqI true)).flatten).length (cb (p++enc 4 (IntKind.i32.wrap q.ops.length)++((q.ops.take i).map (reqI true)).flatten))::blk g 35 q.cells::R),⟨q.ops.length,0,rfl,rfl,by simpa using hS⟩,?_⟩
  clear hS
  rintro m v _ w1 ⟨i,rfl,hi,hS⟩ _
  refine r_load one33 (hS.at m1 10 (congrArg some eo)) ?_
  (try simp only [o_add,ln_33_3,o_lss,cond_decide])
  refine ⟨fun hlt=>?_,fun hlt=>?_⟩
  ·have hil:i < q.ops.length:=by omega
   have hmem:q.ops[i] ∈ q.ops:=List.getElem_mem hil
   have hrow:=(hx' w1 hS.drop).rowR
   rw [eo] at hrow
   obtain ⟨b,p1,cs,hp,hcl,hcv,hc⟩:=hrow.ix el33 .i64 i hil
   subst hcv
   have hfl:=flat_le (reqI true) q.ops (i+1)
   rw [flat_take _ _ _ hil,List.length_append] at hfl
   refine r_load one33 (hS.at m1 10 (congrArg some eo)) ?_
   refine r1 (hp _) (r_loadN ag35 (xs:=q.ops[i].cells) rfl (fun j u hu=>by rw [add_addr]; exact hc j u hu) ?_)
   refine (ih _ hmem true (hg.all _ hmem) (by simp only [List.length_append,enc_length]; omega) (fun w hw=>(hx' w hw).all _ hmem) hS).mono fun r5 w6 hS=>?_
   skip
   rw [wr_i64 (x:=(i:Int)+1) (by omega) (by omega)]
   refine ⟨m - 1,by omega,i+1,rfl,by omega,?_⟩
   rw [flat_take _ _ _ hil,← List.append_assoc]
   exact hS
  ·obtain rfl:i=q.ops.length:=by omega
   rw [List.take_length,List.append_assoc] at hS
   exact HJ _ _ hS
 have n9:c ≠ 111:=nc 111 (by omega) h
 have el:letB inner q c=[]:=by
  unfold letB
  rw [if_neg n1,if_neg n2,if_neg n3,if_neg n4,if_neg n5,if_neg n6,if_neg n7,if_neg n8,if_neg n9]
 rw [el] at HJ
 exact HJ _ _ (by simpa using hS)
theorem refWrite (t:Tx) (hh:wfH t.hd) (hw:WfQ t.q) (hx:Ent o R fun w=>RdQ w t.q) (h:St o w R) :
  CallV π Z 179 #[.agg t.cells.toArray] w fun r w'=>if chkT t then ∃v,r=.tuple #[v,.int .i64 0]∧St o w' (own 5 1 v (txB t).length (cb (txB t))::R) else r=.tuple #[.slice none 0 0,.int .i64 40]∧St o w' R:=by
 have he:0≤t.e∧t.e≤4294967295:=hok_le hh (show 0 < 5 by omega)
 have hn:0≤t.n∧t.n≤4294967295:=hok_le hh (show 1 < 5 by omega)
 have hsv : -128≤t.sv∧t.sv≤127:=hok_le hh (show 2 < 5 by omega)
 have hbo:0≤t.bo∧t.bo≤4294967295:=hok_le hh (show 3 < 5 by omega)
 have hnu : -9223372036854775808≤t.nu∧t.nu≤9223372036854775807:=hok_le hh (show 4 < 5 by omega)
 refine f179.calls ?_
 unfold f179.sh
 refine r_box _ _ h fun g w1 hS=>?_
 have hS:St o w1 (blk g 37 t.cells::R):=hS
 have hx':Ent o (blk g 37 t.cells::R) fun w=>RdQ w t.q:=fun w hw=>hx w hw.drop
 have hones:ones t.cells:=txC_ones (hx' w1 hS).ones
 refine r_loadN ag37 (xs:=t.cells) rfl (hS.cells_at m0 0 (whole_at _)) ?_
 refine (refChkT Z t hh hx' hS).mono fun r w2 ⟨hr,hS⟩=>?_
 subst hr
 cases hc:chkT t with
 | false=>
  simp only [reduceIte,Bool.false_eq_true]
  (try simp only [fa_37_2,Nat.zero_add,fa_37_1,fa_29_2,fa_29_1,fa_29_0,Nat.add_zero,fa_37_0,fa_27_1,fa_27_0,o_neq,Int.reduceBNe,condT])
  exact ⟨by first | rfl | trivial,hS.drop⟩
 | true=>
  have hlen:=txB_len hc
  have hg:=gd_chk (show chkQ t.q=true by simp only [chkT,Bool.and_eq_true] at hc; exact hc.2.2.2) hw
  rw [txB_pre] at hlen ⊢
  simp only [hpre,hb,List.nil_append,List.length_append,enc_length] at hlen
  simp only [reduceIte]
  (try simp only [fa_37_2,Nat.zero_add,fa_37_1,fa_29_2,fa_29_1,fa_29_0,Nat.add_zero,fa_37_0,fa_27_1,fa_27_0,o_neq,bne_self_eq_false,condF])
  refine r_load one23 (hS.at m0 0 rfl) ?_
  refine (refUint32 Z _ he hS).mono fun v1 w3 hS=>?_
  skip
  refine r_load one23 (hS.at m1 1 rfl) ?_
  refine (refUint32 Z _ hn hS).mono fun v2 w4 hS=>?_
  refine (behindC Z (l:=enc 4 t.e) (k:=enc 4 t.n) (by rw [enc_length]) (by simp only [enc_length]; omega) (by rw [enc_length]; exact hS)).mono fun v3 w5 hS=>?_
  skip
  refine r_load one22 (hS.at m1 2 rfl) ?_
  refine (refInt8 Z _ hsv hS).mono fun v4 w6 hS=>?_
  refine (behindC Z (k:=enc 1 _) (by rw [enc_length]) (by simp only [List.length_append,enc_length]; omega) hS).mono fun v5 w7 hS=>?_
  skip
  refine r_load one23 (hS.at m1 3 rfl) ?_
  refine (refUint32 Z _ hbo hS).mono fun v6 w8 hS=>?_
  refine (behindC Z (k:=enc 4 _) (by rw [enc_length]) (by simp only [List.length_append,enc_length]; omega) hS).mono fun v7 w9 hS=>?_
  skip
  refine r_load one2 (hS.at m1 4 rfl) ?_
  refine (refInt64 Z _ hnu hS).mono fun v8 w10 hS=>?_
  refine (behindC Z (k:=enc 8 _) (by rw [enc_length]) (by simp only [List.length_append,enc_length]; omega) hS).mono fun v9 w11 hS=>?_
  skip
  refine r_loadN ag35 (xs:=t.q.cells) rfl (hS.cells_at m1 5 (rq_at t)) ?_
  refine (refReq Z t.q false hg (by simp only [List.length_append,enc_length]; omega) (fun w hw=>hx' w hw) hS).mono fun v10 w12 hS=>?_
  skip
  refine ⟨v10,by first | rfl | trivial,?_⟩
  have e:hpre t.hd 5++reqI false t.q=enc 4 t.e++enc 4 t.n++enc 1 t.sv++enc 4 t.bo++enc 8 t.nu++reqI false t.q:=rfl
  rw [e]
  exact hS.swap.drop
end

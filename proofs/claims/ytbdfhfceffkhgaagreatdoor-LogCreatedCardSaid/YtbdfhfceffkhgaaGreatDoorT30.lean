
/- The document's CheckRequest and Check. -/
import Derived.Test.YtbdfhfceffkhgaaGreatDoorT27
set_option linter.unusedVariables false
set_option linter.unusedSimpArgs false
namespace Go.Proofs.YtbdfhfceffkhgaaGreatDoor
open Go.Sh
open Tryz renaming prog → π
def lets (k:Nat):List UInt8:=[[],[112,100,97,102,115,119],[112,118,115,119],[112,100,118,115,119],[112,97,118,115,119],[112,118,115,119],[115,119,111],[116],[115],[112,115,119],[112,115,119],[112,115,119],[112,115,119]].getD k []
def letsI (kd:Int):List UInt8:=if 1≤kd∧kd≤12 then lets kd.toNat else []
def letter (i:Nat):UInt8:=[112,100,97,118,102,115,116,119,111].getD i 0
theorem lets_bt (f:Fl) (hk:1≤f.kd∧f.kd≤12) (i:Nat) (hi:i≤8):(letsI f.kd).elem (letter i)=bt f i:=by
 obtain ⟨k,hk'⟩:∃k:Nat,f.kd=k:=⟨f.kd.toNat,by omega⟩
 unfold letsI bt
 rw [if_pos hk]
 have hkn:f.kd.toNat=k:=by omega
 rw [hkn]
 have key:∀k < 13,∀i < 9,(lets k).elem (letter i)=(nm k).testBit i:=by decide +kernel
 exact key k (by omega) i (by omega)
theorem lets_nil (kd:Int):(letsI kd=[]) ↔ ¬ (1≤kd∧kd≤12):=by
 unfold letsI
 by_cases h:1≤kd∧kd≤12
 ·rw [if_pos h]
  obtain ⟨k,rfl⟩:∃k:Nat,kd=k:=⟨kd.toNat,by omega⟩
  rw [Int.toNat_natCast]
  have key:∀k < 13,1≤k→lets k ≠ []:=by decide +kernel
  exact ⟨fun e=>absurd e (key k (by omega) (by omega)),fun e=>absurd h e⟩
 ·rw [if_neg h]
  exact ⟨fun _=>h,fun _=>rfl⟩
section
variable (Z:PZ) {o w:World} {R As:List HProp}
theorem lettersC (kd:Int):CallV π Z 108 #[.int .i8 kd] w fun r w'=>r=.string (str (letsI kd))∧w'=w:=by
 refine f108.calls ?_
 unfold f108.sh
 intro j1 hj1
 have H1:letsI kd=[]→j1 w:=fun e=>hj1 w fun _=>⟨by rw [e]; rfl,rfl⟩
 clear hj1
 have fact:∀k:Int,1≤k→k≤12→kd=k→letsI kd=lets k.toNat:=fun k h1 h2 e=>by subst e; exact if_pos ⟨h1,h2⟩
 refine r1 (run_eql_int _ _ _ _ _ _ _ _) (cond_or (fun h=>⟨by rw [fact 1 (by omega) (by omega) (eq_of_beq h)]; rfl,rfl⟩) fun n1=>?_)
 intro j3 hj3
 have n1:kd ≠ 1:=by simpa using n1
 have H3:∀b:Bool,(b=true→letsI kd=lets 2)→(b=false→kd ≠ 2∧kd ≠ 5)→j3 (.bool b) w:=by
  intro b hb1 hb2
  refine hj3 _ w fun _=>?_
  clear hj3
  refine cond_or (fun h=>⟨by rw [hb1 h]; rfl,rfl⟩) fun h=>?_
  obtain ⟨n2,n5⟩:=hb2 h
  refine r1 (run_eql_int _ _ _ _ _ _ _ _) (cond_or (fun h=>⟨by rw [fact 3 (by omega) (by omega) (eq_of_beq h)]; rfl,rfl⟩) fun n3=>?_)
  refine r1 (run_eql_int _ _ _ _ _ _ _ _) (cond_or (fun h=>⟨by rw [fact 4 (by omega) (by omega) (eq_of_beq h)]; rfl,rfl⟩) fun n4=>?_)
  refine r1 (run_eql_int _ _ _ _ _ _ _ _) (cond_or (fun h=>⟨by rw [fact 6 (by omega) (by omega) (eq_of_beq h)]; rfl,rfl⟩) fun n6=>?_)
  refine r1 (run_eql_int _ _ _ _ _ _ _ _) (cond_or (fun h=>⟨by rw [fact 7 (by omega) (by omega) (eq_of_beq h)]; rfl,rfl⟩) fun n7=>?_)
  refine r1 (run_eql_int _ _ _ _ _ _ _ _) (cond_or (fun h=>⟨by rw [fact 8 (by omega) (by omega) (eq_of_beq h)]; rfl,rfl⟩) fun n8=>?_)
  have n3:kd ≠ 3:=by simpa using n3
  have n4:kd ≠ 4:=by simpa using n4
  have n6:kd ≠ 6:=by simpa using n6
  have n7:kd ≠ 7:=by simpa using n7
  have n8:kd ≠ 8:=by simpa using n8
  intro j10 hj10
  have H10:∀b:Bool,(b=true→letsI kd=lets 9)→(b=false→letsI kd=[])→j10 (.bool b) w:=by
   intro b hb1 hb2
   refine hj10 _ w fun _=>?_
   clear hj10
   exact cond_or (fun h=>⟨by rw [hb1 h]; rfl,rfl⟩) fun h=>H1 (hb2 h)
  clear hj10
  refine r1 (run_eql_int _ _ _ _ _ _ _ _) (cond_or (fun h=>H10 _ (fun _=>fact 9 (by omega) (by omega) (eq_of_beq h)) (fun e=>by rw [h] at e; cases e)) fun n9=>?_)
  refine r1 (run_eql_int _ _ _ _ _ _ _ _) (cond_or (fun h=>H10 _ (fun _=>fact 10 (by omega) (by omega) (eq_of_beq h)) (fun e=>by rw [h] at e; cases e)) fun n10=>?_)
  refine r1 (run_eql_int _ _ _ _ _ _ _ _) (cond_or (fun h=>H10 _ (fun _=>fact 11 (by omega) (by omega) (eq_of_beq h)) (fun e=>by rw [h] at e; cases e)) fun n11=>?_)
  have n9:kd ≠ 9:=by simpa using n9
  have n10:kd ≠ 10:=by simpa using n10
  have n11:kd ≠ 11:=by simpa using n11
  refine r1 (run_eql_int _ _ _ _ _ _ _ _) (H10 _ (fun h=>fact 12 (by omega) (by omega) (eq_of_beq h)) (fun n12=>?_))
  have n12:kd ≠ 12:=by simpa using n12
  exact (lets_nil kd).2 (by omega)
 clear hj3
 refine r1 (run_eql_int _ _ _ _ _ _ _ _) (cond_or (fun h=>H3 _ (fun _=>fact 2 (by omega) (by omega) (eq_of_beq h)) (fun e=>by rw [h] at e; cases e)) fun n2=>?_)
 have n2:kd ≠ 2:=by simpa using n2
 refine r1 (run_eql_int _ _ _ _ _ _ _ _) (H3 _ (fun h=>(fact 5 (by omega) (by omega) (eq_of_beq h)).trans rfl) fun n5=>?_)
 exact ⟨n2,by simpa using n5⟩
theorem hasC (l:List UInt8) (c:UInt8) (hl:l.length≤1000):CallV π Z 109 #[.string (str l),.int .u8 (c.toNat:Int)] w fun r w'=>r=.bool (l.elem c)∧w'=w:=by
 refine f109.calls ?_
 unfold f109.sh
 (try simp only [ln_9_3,str_size])
 refine ⟨fun m y w'=>∃i:Nat,y=.int .i64 i∧m+i=l.length∧c ∉ l.take i∧w'=w,⟨l.length,0,rfl,rfl,by simp,rfl⟩,?_⟩
 rintro m _ w1 ⟨i,rfl,hi,hno,rfl⟩ _
 by_cases hlt:(i:Int) < (l.length:Int)
 ·have hil:i < l.length:=by omega
  (try simp only [o_add,o_lss,hlt,decide_true,condT])
  refine r1 (run_indexStr st9 .i64 l i hil _) ?_
  refine r1 (run_eql_int _ _ _ _ _ _ _ _) ?_
  refine cond_or (fun h=>?_) fun h=>?_
  ·have e:l[i]=c:=UInt8.toNat_inj.1 (by have:=eq_of_beq h; omega)
   refine ⟨?_,rfl⟩
   have:l.elem c=true:=List.elem_iff.2 (by rw [← e]; exact List.getElem_mem hil)
   rw [this]
  ·have e:l[i] ≠ c:=fun e=>by rw [e] at h; simp at h
   (try simp only [])
   rw [wr_i64 (x:=(i:Int)+1) (by omega) (by omega)]
   refine ⟨m - 1,by omega,i+1,rfl,by omega,?_,by first | rfl | trivial⟩
   rw [List.take_succ_eq_append_getElem hil,List.mem_append]
   rintro (h | h)
   ·exact hno h
   ·exact e (List.mem_singleton.1 h).symm
 ·obtain rfl:i=l.length:=by omega
  rw [List.take_length] at hno
  (try simp only [o_add,o_lss,hlt,decide_false,condF])
  refine ⟨?_,by first | rfl | trivial⟩
  have:l.elem c=false:=by
   cases he:l.elem c with
   | false=>rfl
   | true=>exact absurd (List.elem_iff.1 he) hno
  rw [this]
theorem aclR {v:Value} {l:List En} (hx:Rd w 3 v l.length (l.map enC).flatten):CallV π Z 110 #[v] w fun r w'=>r=.bool (l.all (fun x=>idMay x.who) && decide (l.length≤4))∧w'=w:=by
 obtain ⟨a,c,rfl⟩:=hx.form
 have hle:=hx.2.1
 simp only [maxLen] at hle
 refine f110.calls ?_
 unfold f110.sh
 (try simp only [ln_44_3,o_leq])
 refine ⟨fun m y w'=>∃i:Nat,y=.int .i64 i∧m+i=l.length∧(l.take i).all (fun x=>idMay x.who)=true∧w'=w,⟨l.length,0,rfl,rfl,by simp,rfl⟩,?_⟩
 rintro m _ w1 ⟨i,rfl,hi,hall,rfl⟩ _
 by_cases hlt:(i:Int) < (l.length:Int)
 ·have hil:i < l.length:=by omega
  obtain ⟨b,p,cs,hp,_,hcv,hc⟩:=(rowR_rd (c:=enC) (fun x=>rfl) hx rfl).ix el44 .i64 i hil
  subst hcv
  have bad:idMay l[i].who=false→(l.all (fun x=>idMay x.who) && decide (l.length≤4))=false:=fun h=>by
   have:l.all (fun x=>idMay x.who)=false:=by
    rw [List.all_eq_false]
    exact ⟨l[i],List.getElem_mem hil,by simp [h]⟩
   rw [this]; rfl
  (try simp only [o_add,o_lss,hlt,decide_true,condT])
  refine r1 (hp _) ?_
  (try simp only [fa_140_1,fa_138_0,Nat.add_zero])
  refine r_load one9 (hc 1 _ rfl) ?_
  (try simp only [ln_9_3,str_size,o_gtr])
  by_cases h1:(24:Int) < (l[i].who.sch.length:Int)
  ·(try simp only [h1,decide_true,o_pickT,condT,guardW_tf])
   exact ⟨by rw [bad (by simp only [idMay]; rw [decide_eq_false (by omega)]; rfl)],by first | rfl | trivial⟩
  ·(try simp only [h1,decide_false,o_pickF,guardW_ff])
   refine r1 (hp _) ?_
   (try simp only [fa_140_1,fa_138_1])
   refine r_load one9 (hc 2 _ rfl) ?_
   (try simp only [ln_9_3,str_size,o_gtr,cond_decide])
   refine ⟨fun h2=>⟨by rw [bad (by simp only [idMay]; rw [decide_eq_false (show ¬ l[i].who.nam.length≤24 by omega),Bool.and_false])],by first | rfl | trivial⟩,fun h2=>?_⟩
   rw [wr_i64 (x:=(i:Int)+1) (by omega) (by omega)]
   refine ⟨m - 1,by omega,i+1,rfl,by omega,?_,by first | rfl | trivial⟩
   rw [List.take_succ_eq_append_getElem hil,List.all_append,hall]
   have:idMay l[i].who=true:=by simp only [idMay]; rw [decide_eq_true (show l[i].who.sch.length≤24 by omega),decide_eq_true (show l[i].who.nam.length≤24 by omega)]; rfl
   simp [this]
 ·obtain rfl:i=l.length:=by omega
  rw [List.take_length] at hall
  (try simp only [o_add,o_lss,hlt,decide_false,condF])
  refine ⟨?_,by first | rfl | trivial⟩
  rw [hall,Bool.true_and]
  first | rfl | (congr 1; exact decide_eq_decide.2 (by omega))
theorem idsR {v:Value} {l:List Idd} (hx:Rd w 2 v l.length (l.map idC).flatten):CallV π Z 111 #[v] w fun r w'=>r=.bool (l.all idMay && decide (l.length≤4))∧w'=w:=by
 obtain ⟨a,c,rfl⟩:=hx.form
 have hle:=hx.2.1
 simp only [maxLen] at hle
 refine f111.calls ?_
 unfold f111.sh
 (try simp only [ln_45_3,o_leq])
 refine ⟨fun m y w'=>∃i:Nat,y=.int .i64 i∧m+i=l.length∧(l.take i).all idMay=true∧w'=w,⟨l.length,0,rfl,rfl,by simp,rfl⟩,?_⟩
 rintro m _ w1 ⟨i,rfl,hi,hall,rfl⟩ _
 by_cases hlt:(i:Int) < (l.length:Int)
 ·have hil:i < l.length:=by omega
  obtain ⟨b,p,cs,hp,_,hcv,hc⟩:=(rowR_rd (c:=idC) (fun x=>rfl) hx rfl).ix el45 .i64 i hil
  subst hcv
  have bad:idMay l[i]=false→(l.all idMay && decide (l.length≤4))=false:=fun h=>by
   have:l.all idMay=false:=by
    rw [List.all_eq_false]
    exact ⟨l[i],List.getElem_mem hil,by simp [h]⟩
   rw [this]; rfl
  (try simp only [o_add,o_lss,hlt,decide_true,condT])
  refine r1 (hp _) ?_
  (try simp only [fa_138_0,Nat.add_zero])
  refine r_load one9 (hc 0 _ rfl) ?_
  (try simp only [ln_9_3,str_size,o_gtr])
  by_cases h1:(24:Int) < (l[i].sch.length:Int)
  ·(try simp only [h1,decide_true,o_pickT,condT,guardW_tf])
   exact ⟨by rw [bad (by simp only [idMay]; rw [decide_eq_false (by omega)]; rfl)],by first | rfl | trivial⟩
  ·(try simp only [h1,decide_false,o_pickF,guardW_ff])
   refine r1 (hp _) ?_
   (try simp only [fa_138_1])
   refine r_load one9 (hc 1 _ rfl) ?_
   (try simp only [ln_9_3,str_size,o_gtr,cond_decide])
   refine ⟨fun h2=>⟨by rw [bad (by simp only [idMay]; rw [decide_eq_false (show ¬ l[i].nam.length≤24 by omega),Bool.and_false])],by first | rfl | trivial⟩,fun h2=>?_⟩
   rw [wr_i64 (x:=(i:Int)+1) (by omega) (by omega)]
   refine ⟨m - 1,by omega,i+1,rfl,by omega,?_,by first | rfl | trivial⟩
   rw [List.take_succ_eq_append_getElem hil,List.all_append,hall]
   have:idMay l[i]=true:=by simp only [idMay]; rw [decide_eq_true (show l[i].sch.length≤24 by omega),decide_eq_true (show l[i].nam.length≤24 by omega)]; rfl
   simp [this]
 ·obtain rfl:i=l.length:=by omega
  rw [List.take_length] at hall
  (try simp only [o_add,o_lss,hlt,decide_false,condF])
  refine ⟨?_,by first | rfl | trivial⟩
  rw [hall,Bool.true_and]
  first | rfl | (congr 1; exact decide_eq_decide.2 (by omega))
end
end Go.Proofs.YtbdfhfceffkhgaaGreatDoor


/- The document's may, CheckRequest, Check: what the code's answer. -/
set_option linter.unusedVariables false
set_option linter.unusedSimpArgs false
namespace Go.Proofs.YtbdfhfceffkhgaaGreatDoor
open Go.Sh
open Tryz renaming prog → π
def mayF (f:Fl) (m:Nat):Bool:=decide (1≤f.kd∧f.kd≤12) && within f m
theorem via2 {p T G:Prop} (h:(p→T)→G) (t:p→T):G:=h t
theorem within_four {f:Fl} {m:Nat} (h:within f m=true):0≤f.ses∧(f.kd=8→f.ses ≠ 0)∧(bt f 6=true→1≤f.tmo∧f.tmo≤1000)∧(bt f 8=true→m ≠ 0):=by
 simp only [within,wg4,Bool.and_eq_true,Bool.not_eq_true',Bool.or_eq_false_iff,Bool.and_eq_false_iff,decide_eq_false_iff_not] at h
 obtain ⟨_,_,_,⟨h1,h2,h3,h4⟩,_⟩:=h
 refine ⟨by omega,fun e=>?_,fun e=>?_,fun e=>?_⟩
 ·rcases h2 with h2 | h2
  ·exact absurd e h2
  ·exact h2
 ·rcases h3 with h3 | h3
  ·rw [e] at h3; cases h3
  ·omega
 ·rcases h4 with h4 | h4
  ·rw [e] at h4; cases h4
  ·exact h4
theorem within_mk {f:Fl} {m:Nat} (h0:(bt f 0=false→f.path=[])∧f.path.length≤64) (h1:(bt f 1=false→f.data.length=0)∧f.data.length≤96) (h2:(bt f 2=false→f.acl.length=0)∧f.acl.all (fun x=>idMay x.who)=true∧f.acl.length≤4)
  (h3:bt f 3=false→f.ver=0) (h4:bt f 4=false→f.eph=false∧f.seq=false) (h5:(bt f 5=false→f.ses=0)∧0≤f.ses∧(f.kd=8→f.ses ≠ 0)) (h6:(bt f 6=true→1≤f.tmo∧f.tmo≤1000)∧(bt f 6=false→f.tmo=0))
  (h7:(bt f 7=false→f.who.length=0)∧f.who.all idMay=true∧f.who.length≤4) (h8:(bt f 8=false→m=0)∧(bt f 8=true→1≤m∧m≤8)):within f m=true:=by
 have imp:∀{a:Bool} {p:Bool},(a=false→p=false)→(!a && p)=false:=fun {a p} h=>by cases a <;> simp_all
 have imp2:∀{a:Bool} {p:Bool},(a=true→p=false)→(a && p)=false:=fun {a p} h=>by cases a <;> simp_all
 have g1:wg1 f=false:=by
  unfold wg1
  rw [imp (fun h=>by rw [h0.1 h]; rfl),imp (fun h=>decide_eq_false (by have:=h1.1 h; omega)),imp (fun h=>decide_eq_false (by have:=h2.1 h; omega)),imp (fun h=>by rw [h3 h]; rfl)]
  rfl
 have g2:wg2 f m=false:=by
  unfold wg2
  rw [imp (fun h=>by rw [(h4 h).1,(h4 h).2]; rfl),imp (fun h=>by rw [h5.1 h]; rfl),imp (fun h=>by rw [h6.2 h]; rfl),imp (fun h=>decide_eq_false (by have:=h7.1 h; omega)),imp (fun h=>decide_eq_false (by have:=h8.1 h; omega))]
  rfl
 have g3:wg3 f m=false:=by
  unfold wg3
  have hm:¬ 8 < m:=by
   cases h:bt f 8 with
   | true=>have:=(h8.2 h).2; omega
   | false=>have:=h8.1 h; omega
  rw [decide_eq_false (show ¬ 64 < f.path.length by omega),decide_eq_false (show ¬ 96 < f.data.length by omega),decide_eq_false (show ¬ 4 < f.acl.length by omega),decide_eq_false (show ¬ 4 < f.who.length by omega),decide_eq_false hm]
  rfl
 have g4:wg4 f m=false:=by
  unfold wg4
  rw [decide_eq_false (show ¬ f.ses < 0 by omega),imp2 (fun h=>decide_eq_false (h5.2.2 (of_decide_eq_true h))),imp2 (a:=bt f 6) (fun h=>by rw [decide_eq_false (by have:=h6.1 h; omega),decide_eq_false (by have:=h6.1 h; omega)]; rfl),imp2 (a:=bt f 8) (fun h=>decide_eq_false (by have:=h8.2 h; omega))]
  rfl
 unfold within
 rw [g1,g2,g3,g4,h2.2.1,h7.2.1]
 rfl
section
variable (Z:PZ) {o w:World} {R As:List HProp}
theorem hasL (f:Fl) (hk:1≤f.kd∧f.kd≤12) (i:Nat) (hi:i≤8) (b:Int) (hb:b=((letter i).toNat:Int)):CallV π Z 109 #[.string (str (letsI f.kd)),.int .u8 b] w fun r w'=>r=.bool (bt f i)∧w'=w:=by
 subst hb
 refine (hasC Z (letsI f.kd) (letter i) ?_).mono fun r w' ⟨hr,hw⟩=>⟨by rw [hr,lets_bt f hk i hi],hw⟩
 unfold letsI
 rw [if_pos hk]
 obtain ⟨k,hk'⟩:∃k:Nat,f.kd=k:=⟨f.kd.toNat,by omega⟩
 have hkn:f.kd.toNat=k:=by omega
 rw [hkn]
 have key:∀k < 13,(lets k).length≤1000:=by decide +kernel
 exact key k (by omega)
set_option maxRecDepth 100000 in
theorem mayQ (q:Rq) (hx:Ent o R fun w=>RdQ w q) (h:St o w R):CallV π Z 78 #[.agg q.cells.toArray] w fun r w'=>r=.bool (mayF q.f q.ops.length)∧St o w' R:=by
 refine f78.calls ?_
 unfold f78.sh
 refine r_box _ _ h fun g w1 hS=>?_
 have hS:St o w1 (blk g 48 q.cells::R):=hS
 obtain ⟨ad,cd,ed⟩:=(hx w1 hS.drop).flat.data.form
 obtain ⟨aa,ca,ea⟩:=(hx w1 hS.drop).flat.acl.form
 obtain ⟨aw,cw,ew⟩:=(hx w1 hS.drop).flat.who.form
 obtain ⟨ao,co,eo⟩:=(hx w1 hS.drop).row.form
 have bad:(1≤q.f.kd∧q.f.kd≤12→within q.f q.ops.length=true→False)→(Value.bool false=.bool (mayF q.f q.ops.length)∧St o w1 R):=fun hn=>⟨by
  have:mayF q.f q.ops.length=false:=by
   cases hm:mayF q.f q.ops.length with
   | false=>rfl
   | true=>
    simp only [mayF,Bool.and_eq_true,decide_eq_true_eq] at hm
    exact (hn hm.1 hm.2).elim
  rw [this],hS.drop⟩
 (try simp only [fa_48_1,Nat.zero_add,fa_48_2,fa_48_3,fa_48_6,fa_48_7,fa_48_0,Nat.add_zero,fa_48_8,fa_48_9,fa_48_10,fa_48_5,fa_48_4])
 refine r_load one40 (hS.at m0 0 rfl) ?_
 refine (lettersC Z q.f.kd).mono fun r w2 ⟨hr,hw⟩=>?_
 subst hr; subst hw
 refine r1 (run_eql_strS _ _ _ _ [] _) ?_
 by_cases hk:1≤q.f.kd∧q.f.kd≤12
 case neg=>
  rw [decide_eq_true ((lets_nil _).2 hk)]
  (try simp only [condT])
  exact bad fun h=>absurd h hk
 rw [decide_eq_false (fun e=>(lets_nil _).1 e hk)]
 (try simp only [condF])
 -- path
 refine r_load one9 (hS.at m0 1 rfl) ?_
 refine r1 (run_neq_strS _ _ _ q.f.path [] _) ?_
 apply via2 (p:=(bt q.f 0=false→q.f.path=[])∧q.f.path.length≤64)
 ·intro post
  have tail:(bt q.f 0=false→q.f.path=[])→∀(A B:Prop),(¬ q.f.path.length≤64→A)→(((bt q.f 0=false→q.f.path=[])∧q.f.path.length≤64)→B)→(((64:Int) < (q.f.path.length:Int)→A)∧(¬ (64:Int) < (q.f.path.length:Int)→B)):=fun h0 A B ha hb=>⟨fun h=>ha (by omega),fun h=>hb ⟨h0,by omega⟩⟩
  by_cases hp:q.f.path=[]
  ·rw [decide_eq_true hp]
   (try simp only [Bool.not_true,o_pickF,guardW_ff,guardW_ft])
   refine r_load one9 (hS.at m0 1 rfl) ?_
   (try simp only [ln_9_3,str_size,o_gtr,cond_decide])
   exact tail (fun _=>hp) _ _ (fun h=>bad fun _ hw=>h (bnd_of hw).1.path) post
  ·rw [decide_eq_false hp]
   (try simp only [Bool.not_false,o_pickT,guardW_true])
   refine (hasL Z q.f hk 0 (by omega) _ rfl).mono fun r w3 ⟨hr,hw⟩=>?_
   subst hr; subst hw
   cases hb:bt q.f 0 with
   | false=>
    (try simp only [o_not,Bool.not_false,o_pickT,condT,guardW_tf])
    exact bad fun _ hw=>hp ((within_spec hw).1 hb)
   | true=>
    (try simp only [o_not,Bool.not_true,o_pickF,guardW_ff])
    refine r_load one9 (hS.at m0 1 rfl) ?_
    (try simp only [ln_9_3,str_size,o_gtr,cond_decide])
    exact tail (fun h=>by rw [hb] at h; cases h) _ _ (fun h=>bad fun _ hw=>h (bnd_of hw).1.path) post
 intro P0
 -- data
 refine r_load one43 (hS.at m0 2 (congrArg some ed)) ?_
 (try simp only [ln_43_3,o_neq])
 apply via2 (p:=(bt q.f 1=false→q.f.data.length=0)∧q.f.data.length≤96)
 ·intro post
  have tail:(bt q.f 1=false→q.f.data.length=0)→∀(A B:Prop),(¬ q.f.data.length≤96→A)→(((bt q.f 1=false→q.f.data.length=0)∧q.f.data.length≤96)→B)→(((96:Int) < (q.f.data.length:Int)→A)∧(¬ (96:Int) < (q.f.data.length:Int)→B)):=fun h0 A B ha hb=>⟨fun h=>ha (by omega),fun h=>hb ⟨h0,by omega⟩⟩
  by_cases hp:q.f.data.length=0
  ·rw [show ((q.f.data.length:Int) != 0)=false by rw [hp]; rfl]
   (try simp only [o_pickF,guardW_ff,guardW_ft])
   refine r_load one43 (hS.at m0 2 (congrArg some ed)) ?_
   (try simp only [ln_43_3,o_gtr,cond_decide])
   exact tail (fun _=>hp) _ _ (fun h=>bad fun _ hw=>h (bnd_of hw).1.data) post
  ·rw [show ((q.f.data.length:Int) != 0)=true by simp only [bne_iff_ne]; omega]
   (try simp only [o_pickT,guardW_true])
   refine (hasL Z q.f hk 1 (by omega) _ rfl).mono fun r w3 ⟨hr,hw⟩=>?_
   subst hr; subst hw
   cases hb:bt q.f 1 with
   | false=>
    (try simp only [o_not,Bool.not_false,o_pickT,condT,guardW_tf])
    exact bad fun _ hw=>hp (by rw [(within_spec hw).2.1 hb]; rfl)
   | true=>
    (try simp only [o_not,Bool.not_true,o_pickF,guardW_ff])
    refine r_load one43 (hS.at m0 2 (congrArg some ed)) ?_
    (try simp only [ln_43_3,o_gtr,cond_decide])
    exact tail (fun h=>by rw [hb] at h; cases h) _ _ (fun h=>bad fun _ hw=>h (bnd_of hw).1.data) post
 intro P1
 -- acl
 refine r_load one44 (hS.at m0 3 (congrArg some ea)) ?_
 (try simp only [ln_44_3,o_neq])
 apply via2 (p:=(bt q.f 2=false→q.f.acl.length=0)∧q.f.acl.all (fun x=>idMay x.who)=true∧q.f.acl.length≤4)
 ·intro post
  have tail:(bt q.f 2=false→q.f.acl.length=0)→∀(A B:Prop),(¬ (q.f.acl.all (fun x=>idMay x.who) && decide (q.f.acl.length≤4))=true→A)→(((bt q.f 2=false→q.f.acl.length=0)∧q.f.acl.all (fun x=>idMay x.who)=true∧q.f.acl.length≤4)→B)→cV (.bool (!(q.f.acl.all (fun x=>idMay x.who) && decide (q.f.acl.length≤4)))) A B:=fun h0 A B ha hb=>cond_or (fun h=>ha (by intro e; rw [e] at h; cases h)) (fun h=>by
   have h:(q.f.acl.all (fun x=>idMay x.who) && decide (q.f.acl.length≤4))=true:=by rw [Bool.not_eq_eq_eq_not] at h; exact h
   have h2:=h
   simp only [Bool.and_eq_true,decide_eq_true_eq] at h2
   exact hb ⟨h0,h2.1,h2.2⟩)
  have hacl:∀A:Prop,(A→False)→within q.f q.ops.length=true→((q.f.acl.all (fun x=>idMay x.who) && decide (q.f.acl.length≤4))=true→A)→False:=fun A ha hw h=>ha (h (by rw [(bnd_of hw).1.ea,decide_eq_true (bnd_of hw).1.acl]; rfl))
  by_cases hp:q.f.acl.length=0
  ·rw [show ((q.f.acl.length:Int) != 0)=false by rw [hp]; rfl]
   (try simp only [o_pickF,guardW_ff,guardW_ft])
   refine r_load one44 (hS.at m0 3 rfl) ?_
   refine (aclR Z (hx w2 hS.drop).flat.acl).mono fun r w3 ⟨hr,hw⟩=>?_
   subst hr; subst hw
   refine r1 (run_not _ _ _) ?_
   exact tail (fun _=>hp) _ _ (fun h=>bad fun _ hw=>h (by rw [(bnd_of hw).1.ea,decide_eq_true (bnd_of hw).1.acl]; rfl)) post
  ·rw [show ((q.f.acl.length:Int) != 0)=true by simp only [bne_iff_ne]; omega]
   (try simp only [o_pickT,guardW_true])
   refine (hasL Z q.f hk 2 (by omega) _ rfl).mono fun r w3 ⟨hr,hw⟩=>?_
   subst hr; subst hw
   cases hb:bt q.f 2 with
   | false=>
    (try simp only [o_not,Bool.not_false,o_pickT,condT,guardW_tf])
    exact bad fun _ hw=>hp (by rw [(within_spec hw).2.2.1 hb]; rfl)
   | true=>
    (try simp only [o_not,Bool.not_true,o_pickF,guardW_ff])
    refine r_load one44 (hS.at m0 3 rfl) ?_
    refine (aclR Z (hx _ hS.drop).flat.acl).mono fun r w3 ⟨hr,hw⟩=>?_
    subst hr; subst hw
    refine r1 (run_not _ _ _) ?_
    exact tail (fun h=>by rw [hb] at h; cases h) _ _ (fun h=>bad fun _ hw=>h (by rw [(bnd_of hw).1.ea,decide_eq_true (bnd_of hw).1.acl]; rfl)) post
 intro P2
 -- version
 refine r_load one21 (hS.at m0 4 rfl) ?_
 refine r1 (run_neq_int _ _ _ _ _ _ _ _) ?_
 apply via2 (p:=bt q.f 3=false→q.f.ver=0)
 ·intro post
  by_cases hp:q.f.ver=0
  ·rw [show (q.f.ver != 0)=false by simp [hp]]
   (try simp only [o_pickF,condF,guardW_ft])
   exact post fun _=>hp
  ·rw [show (q.f.ver != 0)=true by simp [hp]]
   (try simp only [o_pickT,guardW_true])
   refine (hasL Z q.f hk 3 (by omega) _ rfl).mono fun r w3 ⟨hr,hw⟩=>?_
   subst hr; subst hw
   cases hb:bt q.f 3 with
   | false=>
    (try simp only [o_not,Bool.not_false,condT])
    exact bad fun _ hw=>hp ((within_spec hw).2.2.2.1 hb)
   | true=>
    (try simp only [o_not,Bool.not_true,condF])
    exact post fun h=>by rw [hb] at h; cases h
 intro P3
 -- flags
 refine r_load one4 (hS.at m0 5 rfl) ?_
 apply via2 (p:=bt q.f 4=false→q.f.eph=false∧q.f.seq=false)
 ·intro post
  cases he:q.f.eph with
  | true=>
   (try simp only [o_pickT,guardW_true,guardW_tf])
   refine (hasL Z q.f hk 4 (by omega) _ rfl).mono fun r w3 ⟨hr,hw⟩=>?_
   subst hr; subst hw
   cases hb:bt q.f 4 with
   | false=>
    (try simp only [o_not,Bool.not_false,condT])
    exact bad fun _ hw=>by have:=((within_spec hw).2.2.2.2.1 hb).1; rw [he] at this; cases this
   | true=>
    (try simp only [o_not,Bool.not_true,condF])
    exact post fun h=>by rw [hb] at h; cases h
  | false=>
   (try simp only [o_pickF,guardW_ff])
   refine r_load one4 (hS.at m0 6 rfl) ?_
   cases hs:q.f.seq with
   | true=>
    (try simp only [o_pickT,guardW_true])
    refine (hasL Z q.f hk 4 (by omega) _ rfl).mono fun r w3 ⟨hr,hw⟩=>?_
    subst hr; subst hw
    cases hb:bt q.f 4 with
    | false=>
     (try simp only [o_not,Bool.not_false,condT])
     exact bad fun _ hw=>by have:=((within_spec hw).2.2.2.2.1 hb).2; rw [hs] at this; cases this
    | true=>
     (try simp only [o_not,Bool.not_true,condF])
     exact post fun h=>by rw [hb] at h; cases h
   | false=>
    (try simp only [o_pickF,condF,guardW_ft])
    exact post fun _=>⟨he,hs⟩
 intro P4
 -- session
 refine r_load one2 (hS.at m0 7 rfl) ?_
 refine r1 (run_neq_int _ _ _ _ _ _ _ _) ?_
 apply via2 (p:=bt q.f 5=false→q.f.ses=0)
 ·intro post
  by_cases hp:q.f.ses=0
  ·rw [show (q.f.ses != 0)=false by simp [hp]]
   (try simp only [o_pickF,guardW_ff,guardW_ft])
   exact post fun _=>hp
  ·rw [show (q.f.ses != 0)=true by simp [hp]]
   (try simp only [o_pickT,guardW_true])
   refine (hasL Z q.f hk 5 (by omega) _ rfl).mono fun r w3 ⟨hr,hw⟩=>?_
   subst hr; subst hw
   cases hb:bt q.f 5 with
   | false=>
    (try simp only [o_not,Bool.not_false,o_pickT,condT,guardW_tf,guardW_u])
    exact bad fun _ hw=>hp ((within_spec hw).2.2.2.2.2.1 hb)
   | true=>
    (try simp only [o_not,Bool.not_true,o_pickF,guardW_ff])
    exact post fun h=>by rw [hb] at h; cases h
 intro P5
 refine r_load one2 (hS.at m0 7 rfl) ?_
 refine r1 (run_lss _ _ _ _ _ _) ?_
 apply via2 (p:=0≤q.f.ses∧(q.f.kd=8→q.f.ses ≠ 0))
 ·intro post
  by_cases hn:q.f.ses < 0
  ·rw [decide_eq_true hn]
   (try simp only [o_pickT,condT,guardW_tf,guardW_u])
   exact bad fun _ hw=>by have:=(within_four hw).1; omega
  ·rw [decide_eq_false hn]
   (try simp only [o_pickF,guardW_ff])
   refine r_load one40 (hS.at m0 0 rfl) ?_
   refine r1 (run_eql_int _ _ _ _ _ _ _ _) ?_
   by_cases h8:q.f.kd=8
   ·rw [show (q.f.kd == 8)=true by simp [h8]]
    (try simp only [o_pickT,guardW_true])
    refine r_load one2 (hS.at m0 7 rfl) ?_
    refine r1 (run_lss _ _ _ _ _ _) ?_
    by_cases h1:q.f.ses < 1
    ·rw [decide_eq_true h1]
     (try simp only [condT])
     exact bad fun _ hw=>(within_four hw).2.1 h8 (by omega)
    ·rw [decide_eq_false h1]
     (try simp only [condF])
     exact post ⟨by omega,fun _=>by omega⟩
   ·rw [show (q.f.kd == 8)=false by simp [h8]]
    (try simp only [o_pickF,condF,guardW_ft])
    exact post ⟨by omega,fun h=>absurd h h8⟩
 intro P5b
 -- timeout
 refine (hasL Z q.f hk 6 (by omega) _ rfl).mono fun r w3 ⟨hr,hw⟩=>?_
 subst hr; subst hw
 apply via2 (p:=(bt q.f 6=true→1≤q.f.tmo∧q.f.tmo≤1000)∧(bt q.f 6=false→q.f.tmo=0))
 ·intro post
  cases hb:bt q.f 6 with
  | true=>
   (try simp only [o_pickT,guardW_true])
   refine r_load one21 (hS.at m0 8 rfl) ?_
   refine r1 (run_lss _ _ _ _ _ _) ?_
   by_cases h1:q.f.tmo < 1
   ·rw [decide_eq_true h1]
    (try simp only [o_pickT,condT,guardW_tf,guardW_u])
    exact bad fun _ hw=>by have:=(within_four hw).2.2.1 hb; omega
   ·rw [decide_eq_false h1]
    (try simp only [o_pickF,guardW_ff])
    refine r_load one21 (hS.at m0 8 rfl) ?_
    refine r1 (run_gtr _ _ _ _ _ _) ?_
    by_cases h2:1000 < q.f.tmo
    ·rw [decide_eq_true h2]
     (try simp only [o_pickT,condT,guardW_tf,guardW_u])
     exact bad fun _ hw=>by have:=(within_four hw).2.2.1 hb; omega
    ·rw [decide_eq_false h2]
     (try simp only [o_pickF,guardW_ff])
     refine (hasL Z q.f hk 6 (by omega) _ rfl).mono fun r w3 ⟨hr,hw⟩=>?_
     subst hr; subst hw
     rw [hb]
     (try simp only [o_not,Bool.not_true,o_pickF,condF,guardW_ft])
     rw [hb] at post
     exact post ⟨(fun _=>by omega),(fun h=>by cases h)⟩
  | false=>
   (try simp only [o_pickF,guardW_ff,guardW_ft,guardW_u])
   refine (hasL Z q.f hk 6 (by omega) _ rfl).mono fun r w3 ⟨hr,hw⟩=>?_
   subst hr; subst hw
   rw [hb]
   (try simp only [o_not,Bool.not_false,o_pickT,guardW_true])
   refine r_load one21 (hS.at m0 8 rfl) ?_
   refine r1 (run_neq_int _ _ _ _ _ _ _ _) ?_
   by_cases h1:q.f.tmo=0
   ·rw [show (q.f.tmo != 0)=false by simp [h1]]
    (try simp only [condF])
    rw [hb] at post
    exact post ⟨(fun h=>by cases h),fun _=>h1⟩
   ·rw [show (q.f.tmo != 0)=true by simp [h1]]
    (try simp only [condT])
    exact bad fun _ hw=>h1 ((within_spec hw).2.2.2.2.2.2.1 hb)
 intro P6
 -- who
 refine r_load one45 (hS.at m0 9 (congrArg some ew)) ?_
 (try simp only [ln_45_3,o_neq])
 apply via2 (p:=(bt q.f 7=false→q.f.who.length=0)∧q.f.who.all idMay=true∧q.f.who.length≤4)
 ·intro post
  have tail:(bt q.f 7=false→q.f.who.length=0)→∀(A B:Prop),(¬ (q.f.who.all idMay && decide (q.f.who.length≤4))=true→A)→(((bt q.f 7=false→q.f.who.length=0)∧q.f.who.all idMay=true∧q.f.who.length≤4)→B)→cV (.bool (!(q.f.who.all idMay && decide (q.f.who.length≤4)))) A B:=fun h0 A B ha hb=>cond_or (fun h=>ha (by intro e; rw [e] at h; cases h)) (fun h=>by
   have h:(q.f.who.all idMay && decide (q.f.who.length≤4))=true:=by rw [Bool.not_eq_eq_eq_not] at h; exact h
   have h2:=h
   simp only [Bool.and_eq_true,decide_eq_true_eq] at h2
   exact hb ⟨h0,h2.1,h2.2⟩)
  by_cases hp:q.f.who.length=0
  ·rw [show ((q.f.who.length:Int) != 0)=false by rw [hp]; rfl]
   (try simp only [o_pickF,guardW_ff,guardW_ft])
   refine r_load one45 (hS.at m0 9 rfl) ?_
   refine (idsR Z (hx _ hS.drop).flat.who).mono fun r w3 ⟨hr,hw⟩=>?_
   subst hr; subst hw
   refine r1 (run_not _ _ _) ?_
   exact tail (fun _=>hp) _ _ (fun h=>bad fun _ hw=>h (by rw [(bnd_of hw).1.ew,decide_eq_true (bnd_of hw).1.who]; rfl)) post
  ·rw [show ((q.f.who.length:Int) != 0)=true by simp only [bne_iff_ne]; omega]
   (try simp only [o_pickT,guardW_true])
   refine (hasL Z q.f hk 7 (by omega) _ rfl).mono fun r w3 ⟨hr,hw⟩=>?_
   subst hr; subst hw
   cases hb:bt q.f 7 with
   | false=>
    (try simp only [o_not,Bool.not_false,o_pickT,condT,guardW_tf])
    exact bad fun _ hw=>hp (by rw [(within_spec hw).2.2.2.2.2.2.2.1 hb]; rfl)
   | true=>
    (try simp only [o_not,Bool.not_true,o_pickF,guardW_ff])
    refine r_load one45 (hS.at m0 9 rfl) ?_
    refine (idsR Z (hx _ hS.drop).flat.who).mono fun r w3 ⟨hr,hw⟩=>?_
    subst hr; subst hw
    refine r1 (run_not _ _ _) ?_
    exact tail (fun h=>by rw [hb] at h; cases h) _ _ (fun h=>bad fun _ hw=>h (by rw [(bnd_of hw).1.ew,decide_eq_true (bnd_of hw).1.who]; rfl)) post
 intro P7
 -- ops
 have fin:∀b:Bool,((bt q.f 8=false→q.ops.length=0)∧(bt q.f 8=true→1≤q.ops.length∧q.ops.length≤8) ↔ b=true)→mayF q.f q.ops.length=b:=by
  intro b hb
  cases b with
  | true=>
   have h8:=hb.2 rfl
   unfold mayF
   rw [decide_eq_true hk,within_mk P0 P1 P2 P3 P4 ⟨P5,P5b⟩ P6 P7 h8]
   rfl
  | false=>
   cases hm:mayF q.f q.ops.length with
   | false=>rfl
   | true=>
    simp only [mayF,Bool.and_eq_true,decide_eq_true_eq] at hm
    have:=hb.1 ⟨fun h=>(within_spec hm.2).2.2.2.2.2.2.2.2 h,fun h=>⟨by have:=(within_four hm.2).2.2.2 h; omega,(bnd_of hm.2).2⟩⟩
    cases this
 refine (hasL Z q.f hk 8 (by omega) _ rfl).mono fun r w3 ⟨hr,hw⟩=>?_
 subst hr; subst hw
 refine cond_or (fun h8=>?_) (fun h8=>?_)
 ·refine r_load one46 (hS.at m0 10 (congrArg some eo)) ?_
  (try simp only [ln_46_3,o_geq])
  by_cases h1:1≤q.ops.length
  ·have h1':(1:Int)≤(q.ops.length:Int):=by omega
   (try simp only [h1',decide_true,o_pickT,guardW_true])
   refine r_load one46 (hS.at m0 10 (congrArg some eo)) ?_
   (try simp only [ln_46_3,o_leq])
   refine ⟨?_,hS.drop⟩
   rw [fin (decide ((q.ops.length:Int)≤8)) ⟨fun h=>decide_eq_true (by have:=(h.2 h8).2; omega),fun h=>⟨fun e=>(by rw [h8] at e; cases e),fun _=>⟨h1,by have:=of_decide_eq_true h; omega⟩⟩⟩]
  ·have h1':¬ (1:Int)≤(q.ops.length:Int):=by omega
   (try simp only [h1',decide_false,o_pickF,guardW_ft])
   refine ⟨?_,hS.drop⟩
   rw [fin false ⟨fun h=>absurd (h.2 h8).1 h1,fun h=>by cases h⟩]
 ·refine r_load one46 (hS.at m0 10 (congrArg some eo)) ?_
  (try simp only [ln_46_3,o_eql])
  refine ⟨?_,hS.drop⟩
  rw [fin ((q.ops.length:Int) == 0) ⟨fun h=>by rw [h.1 h8]; rfl,fun h=>⟨fun _=>by have:=eq_of_beq h; omega,fun e=>by rw [h8] at e; cases e⟩⟩]
end
end Go.Proofs.YtbdfhfceffkhgaaGreatDoor


/- The document's CheckRequest and Check. -/
set_option linter.unusedVariables false
set_option linter.unusedSimpArgs false
namespace Go.Proofs.YtbdfhfceffkhgaaGreatDoor
open Go.Sh
open Tryz renaming prog → π
section
variable (Z:PZ) {o w:World} {R As:List HProp}
theorem chkQ_may (q:Rq):chkQ q=(mayF q.f q.ops.length && q.ops.all isOp):=by
 unfold chkQ mayF
 rw [Bool.decide_and,Bool.and_assoc,Bool.and_assoc,Bool.and_assoc]
set_option maxRecDepth 100000 in
theorem refChkR (q:Rq) (hx:Ent o R fun w=>RdQ w q) (h:St o w R) :
  CallV π Z 53 #[.agg q.cells.toArray] w fun r w'=>r=.int .i64 (if chkQ q then 0 else 40)∧St o w' R:=by
 refine f53.calls ?_
 unfold f53.sh
 refine r_box _ _ h fun g w1 hS=>?_
 have hS:St o w1 (blk g 48 q.cells::R):=hS
 have hx':Ent o (blk g 48 q.cells::R) fun w=>RdQ w q:=fun w hw=>hx w hw.drop
 obtain ⟨ao,co,eo⟩:=(hx' w1 hS).row.form
 have hle:=(hx' w1 hS).row.2.1
 simp only [maxLen] at hle
 refine r_loadN ag48 (xs:=q.cells) rfl (hS.cells_at m0 0 (whole_at _)) ?_
 refine (mayQ Z q hx' hS).mono fun r w2 ⟨hr,hS⟩=>?_
 subst hr
 cases hm:mayF q.f q.ops.length with
 | false=>
  (try simp only [fa_48_10,Nat.zero_add,o_not,Bool.not_false,condT])
  exact ⟨by rw [chkQ_may,hm]; rfl,hS.drop⟩
 | true=>
  (try simp only [fa_48_10,Nat.zero_add,o_not,Bool.not_true,condF])
  refine ⟨fun mm y w'=>∃i:Nat,y=.int .i64 i∧mm+i=q.ops.length∧(q.ops.take i).all isOp=true∧St o w' (blk g 48 q.cells::R),⟨q.ops.length,0,rfl,rfl,by simp,hS⟩,?_⟩
  clear hS
  rintro mm _ w4 ⟨i,rfl,hi,hall,hS⟩ _
  refine r_load one46 (hS.at m0 10 (congrArg some eo)) ?_
  (try simp only [o_add,ln_46_3,o_lss,cond_decide])
  refine ⟨fun hlt=>?_,fun hlt=>?_⟩
  ·have hil:i < q.ops.length:=by omega
   have hrow:=(hx' w4 hS).rowR
   rw [eo] at hrow
   obtain ⟨b,p,cs,hp,hcl,hcv,hc⟩:=hrow.ix el46 .i64 i hil
   subst hcv
   have hmem:q.ops[i] ∈ q.ops:=List.getElem_mem hil
   refine r_load one46 (hS.at m0 10 (congrArg some eo)) ?_
   refine r1 (hp _) (r_loadN ag48 (xs:=q.ops[i].cells) rfl (fun j u hu=>by rw [add_addr]; exact hc j u hu) ?_)
   refine r_alloc hS ze48 fun ge w5 hS=>?_
   have hones:=((hx' w5 hS.drop).all _ hmem).ones
   refine r_storeN hS ag48 (xs:=q.ops[i].cells) rfl (show 0+11≤11 from Nat.le_refl _) hones fun w6 hS=>?_
   rw [setL_all _ _ (by rfl)] at hS
   have hxi:Ent o (blk ge 48 q.ops[i].cells::blk g 48 q.cells::R) fun w=>RdQ w q.ops[i]:=fun w hw=>(hx' w hw.drop).all _ hmem
   obtain ⟨aw,cw,ew⟩:=(hxi w6 hS).flat.who.form
   have bad:∀{w':World},isOp q.ops[i]=false→St o w' (blk ge 48 q.ops[i].cells::blk g 48 q.cells::R)→(Value.int .i64 40=.int .i64 (if chkQ q then 0 else 40)∧St o w' R):=fun hb hS=>⟨by
    have:q.ops.all isOp=false:=by
     rw [List.all_eq_false]
     exact ⟨q.ops[i],hmem,by simp [hb]⟩
    rw [chkQ_may,this,Bool.and_false]; rfl,hS.drop.drop⟩
   (try simp only [fa_48_0,Nat.add_zero,fa_48_7,Nat.zero_add,fa_48_9])
   refine r_load one40 (hS.at m0 0 rfl) ?_
   refine r1 (run_lss _ _ _ _ _ _) ?_
   by_cases h1:q.ops[i].f.kd < 1
   ·rw [decide_eq_true h1]
    (try simp only [o_pickT,condT,guardW_tf])
    exact bad (by unfold isOp; rw [decide_eq_false (by omega)]; rfl) hS
   rw [decide_eq_false h1]
   (try simp only [o_pickF,guardW_ff])
   refine r_load one40 (hS.at m0 0 rfl) ?_
   refine r1 (run_gtr _ _ _ _ _ _) ?_
   by_cases h2:5 < q.ops[i].f.kd
   ·rw [decide_eq_true h2]
    (try simp only [o_pickT,condT,guardW_tf])
    exact bad (by unfold isOp; rw [decide_eq_false (show ¬ q.ops[i].f.kd≤5 by omega),Bool.and_false]; rfl) hS
   rw [decide_eq_false h2]
   (try simp only [o_pickF,guardW_ff])
   refine r_load one2 (hS.at m0 7 rfl) ?_
   refine r1 (run_neq_int _ _ _ _ _ _ _ _) ?_
   by_cases h3:q.ops[i].f.ses=0
   case neg=>
    rw [show (q.ops[i].f.ses != 0)=true by simp [h3]]
    (try simp only [o_pickT,condT,guardW_tf])
    exact bad (by unfold isOp; rw [decide_eq_false h3,Bool.false_and,Bool.and_false]) hS
   rw [show (q.ops[i].f.ses != 0)=false by simp [h3]]
   (try simp only [o_pickF,guardW_ff])
   refine r_load one45 (hS.at m0 9 (congrArg some ew)) ?_
   (try simp only [ln_45_3,o_neq])
   by_cases h4:q.ops[i].f.who.length=0
   case neg=>
    rw [show ((q.ops[i].f.who.length:Int) != 0)=true by simp only [bne_iff_ne]; omega]
    (try simp only [o_pickT,condT,guardW_tf])
    exact bad (by unfold isOp; rw [decide_eq_false h4,Bool.false_and,Bool.and_false,Bool.and_false]) hS
   rw [show ((q.ops[i].f.who.length:Int) != 0)=false by rw [h4]; rfl]
   (try simp only [o_pickF,guardW_ff])
   refine r_loadN ag48 (xs:=q.ops[i].cells) rfl (hS.cells_at m0 0 (whole_at _)) ?_
   refine (mayQ Z q.ops[i] hxi hS).mono fun r w7 ⟨hr,hS⟩=>?_
   subst hr
   have he:isOp q.ops[i]=mayF q.ops[i].f q.ops[i].ops.length:=by
    unfold isOp mayF
    rw [decide_eq_true (show 1≤q.ops[i].f.kd by omega),decide_eq_true (show q.ops[i].f.kd≤5 by omega),decide_eq_true h3,decide_eq_true h4,decide_eq_true (show 1≤q.ops[i].f.kd∧q.ops[i].f.kd≤12 by omega)]
    rfl
   cases hmx:mayF q.ops[i].f q.ops[i].ops.length with
   | false=>
    (try simp only [o_not,Bool.not_false,condT])
    exact bad (by rw [he,hmx]) hS
   | true=>
    (try simp only [o_not,Bool.not_true,condF])
    rw [wr_i64 (x:=(i:Int)+1) (by omega) (by omega)]
    refine ⟨mm - 1,by omega,i+1,rfl,by omega,?_,hS.drop⟩
    rw [List.take_succ_eq_append_getElem hil,List.all_append,hall]
    simp [he,hmx]
  ·obtain rfl:i=q.ops.length:=by omega
   rw [List.take_length] at hall
   exact ⟨by rw [chkQ_may,hm,hall]; rfl,hS.drop⟩
set_option maxRecDepth 100000 in
theorem refChkT (t:Tx) (hh:wfH t.hd) (hx:Ent o R fun w=>RdQ w t.q) (h:St o w R) :
  CallV π Z 23 #[.agg t.cells.toArray] w fun r w'=>r=.int .i64 (if chkT t then 0 else 40)∧St o w' R:=by
 have he:0≤t.e∧t.e≤4294967295:=hok_le hh (show 0 < 5 by omega)
 have hn:0≤t.n∧t.n≤4294967295:=hok_le hh (show 1 < 5 by omega)
 refine f23.calls ?_
 unfold f23.sh
 refine r_box _ _ h fun g w1 hS=>?_
 have hS:St o w1 (blk g 50 t.cells::R):=hS
 have hx':Ent o (blk g 50 t.cells::R) fun w=>RdQ w t.q:=fun w hw=>hx w hw.drop
 have bad:chkT t=false→(Value.int .i64 40=Value.int .i64 (if chkT t then 0 else 40)∧St o w1 R):=fun hc=>⟨by simp [hc],hS.drop⟩
 (try simp only [fa_50_0,Nat.add_zero,fa_50_1,Nat.zero_add,fa_50_2,fa_42_0,fa_39_0])
 refine r_load one37 (hS.at m0 0 rfl) ?_
 refine r1 (run_eql_int _ _ _ _ _ _ _ _) ?_
 apply via2 (p:=(decide (t.e=0∧t.n=0) || prop t.e t.n)=true)
 ·intro post
  have bad1:(decide (t.e=0∧t.n=0) || prop t.e t.n)=false→(Value.int .i64 40=Value.int .i64 (if chkT t then 0 else 40)∧St o w1 R):=fun h=>bad (by unfold chkT; rw [h]; rfl)
  by_cases h1:t.e=0
  ·rw [show (t.e == 0)=true by simp [h1]]
   (try simp only [o_pickT,guardW_true,fa_39_1,Nat.zero_add])
   refine r_load one37 (hS.at m0 1 rfl) ?_
   refine r1 (run_eql_int _ _ _ _ _ _ _ _) ?_
   have hne:(t.e != 0)=false:=by simp [h1]
   by_cases h2:t.n=0
   ·rw [show (t.n == 0)=true by simp [h2]]
    (try simp only [o_not,Bool.not_true,o_pickF,condF,guardW_ft])
    refine r_load one37 (hS.at m0 0 rfl) ?_
    refine r1 (run_neq_int _ _ _ _ _ _ _ _) ?_
    rw [hne]
    (try simp only [o_pickF,guardW_ft])
    exact post (by rw [decide_eq_true ⟨h1,h2⟩]; rfl)
   ·rw [show (t.n == 0)=false by simp [h2]]
    (try simp only [o_not,Bool.not_false,o_pickT,guardW_true])
    refine r_load one37 (hS.at m0 0 rfl) ?_
    refine r1 (run_neq_int _ _ _ _ _ _ _ _) ?_
    rw [hne]
    (try simp only [o_pickF,o_not,Bool.not_false,condT,guardW_ft])
    exact bad1 (by rw [decide_eq_false (fun h=>h2 h.2)]; unfold prop; rw [decide_eq_false (by omega)]; rfl)
  ·rw [show (t.e == 0)=false by simp [h1]]
   (try simp only [o_pickF,o_not,Bool.not_false,o_pickT,guardW_true,guardW_ft])
   refine r_load one37 (hS.at m0 0 rfl) ?_
   refine r1 (run_neq_int _ _ _ _ _ _ _ _) ?_
   rw [show (t.e != 0)=true by simp [h1]]
   (try simp only [o_pickT,guardW_true,fa_39_0,Nat.add_zero])
   refine r_load one37 (hS.at m0 0 rfl) ?_
   (try simp only [cv_37_2,o_leq])
   rw [wr_i64 (x:=t.e) (by omega) (by omega)]
   have hz:decide (t.e=0∧t.n=0)=false:=decide_eq_false (fun h=>h1 h.1)
   by_cases h2:t.e≤2147483647
   ·(try simp only [h2,decide_true,o_pickT,guardW_true,fa_39_1,Nat.zero_add])
    refine r_load one37 (hS.at m0 1 rfl) ?_
    refine r1 (run_neq_int _ _ _ _ _ _ _ _) ?_
    by_cases h3:t.n=0
    ·rw [show (t.n != 0)=false by simp [h3]]
     (try simp only [o_not,Bool.not_false,condT])
     exact bad1 (by rw [hz]; unfold prop; rw [decide_eq_false (show ¬ 1≤t.n by omega),Bool.and_false]; rfl)
    ·rw [show (t.n != 0)=true by simp [h3]]
     (try simp only [o_not,Bool.not_true,condF])
     exact post (by rw [hz]; unfold prop; rw [decide_eq_true (show 1≤t.e by omega),decide_eq_true h2,decide_eq_true (show 1≤t.n by omega)]; rfl)
   ·(try simp only [h2,decide_false,o_pickF,o_not,Bool.not_false,condT,guardW_ft])
    exact bad1 (by rw [hz]; unfold prop; rw [decide_eq_false h2,Bool.and_false]; rfl)
 intro h1
 refine r_load one40 (hS.at m0 2 rfl) ?_
 (try simp only [o_lss])
 by_cases h2:t.sv < 0
 ·(try simp only [h2,decide_true,o_pickT,condT,guardW_tf])
  exact bad (by unfold chkT; rw [decide_eq_false (show ¬ 0≤t.sv by omega),Bool.false_and,Bool.false_and,Bool.and_false])
 have h2':0≤t.sv:=by omega
 (try simp only [h2,decide_false,o_pickF,guardW_ff,fa_42_0,Nat.add_zero])
 refine r_load one40 (hS.at m0 2 rfl) ?_
 (try simp only [o_gtr])
 by_cases h3:6 < t.sv
 ·(try simp only [h3,decide_true,o_pickT,condT,guardW_tf])
  exact bad (by unfold chkT; rw [decide_eq_false (show ¬ t.sv < 7 by omega),Bool.false_and,Bool.and_false,Bool.false_and,Bool.and_false])
 have h3':t.sv < 7:=by omega
 (try simp only [h3,decide_false,o_pickF,guardW_ff,fa_42_2])
 refine r_load one2 (hS.at m0 4 rfl) ?_
 (try simp only [o_lss])
 by_cases h4:t.nu < 0
 ·(try simp only [h4,decide_true,o_pickT,condT,guardW_tf])
  exact bad (by unfold chkT; rw [decide_eq_false (show ¬ 0≤t.nu by omega),Bool.and_false,Bool.and_false,Bool.false_and,Bool.and_false])
 have h4':0≤t.nu:=by omega
 (try simp only [h4,decide_false,o_pickF,guardW_ff,fa_48_0,Nat.add_zero])
 refine r_load one40 (hS.at m0 5 rfl) ?_
 (try simp only [o_gtr,cond_decide])
 refine ⟨fun h5=>bad (by unfold chkT; rw [decide_eq_false (show ¬ t.q.f.kd≤8 by omega),Bool.false_and,Bool.and_false,Bool.and_false]),fun h5=>?_⟩
 have h5':t.q.f.kd≤8:=by omega
 refine r_loadN ag48 (xs:=t.q.cells) rfl (hS.cells_at m0 5 (rq_at t)) ?_
 refine (refChkR Z t.q hx' hS).mono fun r w4 ⟨hr,hS⟩=>?_
 subst hr
 skip
 exact ⟨by unfold chkT; rw [h1]; simp [h2',h3',h4',h5'],hS.drop⟩
end

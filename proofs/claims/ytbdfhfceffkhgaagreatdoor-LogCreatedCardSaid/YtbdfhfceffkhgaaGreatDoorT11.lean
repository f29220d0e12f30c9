
/- within: is what a request names within its bounds. -/
import Derived.Test.YtbdfhfceffkhgaaGreatDoorT6
set_option linter.unusedVariables false
set_option linter.unusedSimpArgs false
namespace Go.Proofs.YtbdfhfceffkhgaaGreatDoor
open Go.Sh
open Tryz renaming prog → π
def bt (f:Fl) (i:Nat):Bool:=(nm f.kd.toNat).testBit i
def wg1 (f:Fl):Bool:=(!bt f 0 && !decide (f.path=[])) || ((!bt f 1 && decide (0 < f.data.length)) || ((!bt f 2 && decide (0 < f.acl.length)) || (!bt f 3 && !decide (f.ver=0))))
def wg2 (f:Fl) (m:Nat):Bool:=(!bt f 4 && (f.eph || f.seq)) || ((!bt f 5 && !decide (f.ses=0)) || ((!bt f 6 && !decide (f.tmo=0)) || ((!bt f 7 && decide (0 < f.who.length)) || (!bt f 8 && decide (0 < m)))))
def wg3 (f:Fl) (m:Nat):Bool:=decide (64 < f.path.length) || (decide (96 < f.data.length) || (decide (4 < f.acl.length) || (decide (4 < f.who.length) || decide (8 < m))))
def wg4 (f:Fl) (m:Nat):Bool:=decide (f.ses < 0) || ((decide (f.kd=8) && decide (f.ses=0)) || ((bt f 6 && (decide (f.tmo < 1) || decide (1000 < f.tmo))) || (bt f 8 && decide (m=0))))
def within (f:Fl) (m:Nat):Bool:=!wg1 f && (!wg2 f m && (!wg3 f m && (!wg4 f m && (f.acl.all (fun x=>idMay x.who) && f.who.all idMay))))
theorem cond_or {c:Bool} {A B:Prop} (hA:c=true→A) (hB:c=false→B):cV (.bool c) A B:=by rw [cond_bool]; exact ⟨hA,hB⟩
theorem via1 {c:Bool} {T G:Prop} (h:(c=false→T)→G) (t:c=false→T):G:=h t
theorem beq_dec (x y:Int):(x == y)=decide (x=y):=rfl
theorem nat_gt0 (n k:Nat):decide ((k:Int) < (n:Int))=decide (k < n):=by
 congr 1
 exact propext ⟨fun h=>by omega,fun h=>by omega⟩
section
variable (Z:PZ) {o w:World} {R As:List HProp}
theorem chk1 {g gn:Nat} {xs:List Value} {b:Int} {ty fld:Nat} {op:Value→Sem Value} {K:PQ} (n i:Nat) (v:Value) (c:Bool) (hn:n < 512) (hi:i≤8) (hb:b=((2 ^ i:Nat):Int)) (hS:St o w As) (hm:blk gn 131 [.int .u64 n] ∈ As) (hr:blk g 48 xs ∈ As)
  (h1:oneT π ty=true) (hx:xs[fld]? = some v) (hop:∀w,(op v).run π w=.ok (.bool c) w) (hk:K (.bool (!n.testBit i && c)) w) :
  runX π Z (callVal (.func (.func 162) #[] #[.pointer (some ⟨gn,0,none⟩)]) #[.int .u64 b]) w fun t1 w=>rN π Z (Op.unary .not t1) w fun u w=>
   gW u true (fun k=>k (.pointer (some ⟨g,fld,none⟩)) w) (fun a w=>
   gW u true (fun k=>rN π Z (Instr.loadAt ty a) w k) (fun x w=>
   gW u true (fun k=>rN π Z (op x) w k) (fun e w=>rN π Z (pickV u e (.bool false)) w fun r w=>K r w) w) w) w:=by
 refine hasBit Z n i hn hi b hb hS hm ?_
 cases hbi:n.testBit i with
 | true=>
  rw [hbi] at hk
  (try simp only [o_not,Bool.not_true,o_pickF,guardW_ft])
  exact hk
 | false=>
  rw [hbi] at hk
  (try simp only [o_not,Bool.not_false,o_pickT,guardW_true])
  refine r_load h1 (hS.at hr fld hx) ?_
  refine r1 (hop _) ?_
  skip
  exact hk
theorem chk2 {g gn:Nat} {xs:List Value} {b:Int} {ty fld:Nat} {op:Value→Sem Value} {op2:Value→Sem Value} {K:PQ} (n i:Nat) (v v2:Value) (c:Bool) (hn:n < 512) (hi:i≤8) (hb:b=((2 ^ i:Nat):Int)) (hS:St o w As) (hm:blk gn 131 [.int .u64 n] ∈ As) (hr:blk g 48 xs ∈ As)
  (h1:oneT π ty=true) (hx:xs[fld]? = some v) (hop:∀w,(op v).run π w=.ok v2 w) (hop2:∀w,(op2 v2).run π w=.ok (.bool c) w) (hk:K (.bool (!n.testBit i && c)) w) :
  runX π Z (callVal (.func (.func 162) #[] #[.pointer (some ⟨gn,0,none⟩)]) #[.int .u64 b]) w fun t1 w=>rN π Z (Op.unary .not t1) w fun u w=>
   gW u true (fun k=>k (.pointer (some ⟨g,fld,none⟩)) w) (fun a w=>
   gW u true (fun k=>rN π Z (Instr.loadAt ty a) w k) (fun x w=>
   gW u true (fun k=>rN π Z (op x) w k) (fun y w=>
   gW u true (fun k=>rN π Z (op2 y) w k) (fun e w=>rN π Z (pickV u e (.bool false)) w fun r w=>K r w) w) w) w) w:=by
 refine hasBit Z n i hn hi b hb hS hm ?_
 cases hbi:n.testBit i with
 | true=>
  rw [hbi] at hk
  (try simp only [o_not,Bool.not_true,o_pickF,guardW_ft])
  exact hk
 | false=>
  rw [hbi] at hk
  (try simp only [o_not,Bool.not_false,o_pickT,guardW_true])
  refine r_load h1 (hS.at hr fld hx) ?_
  refine r1 (hop _) ?_
  refine r1 (hop2 _) ?_
  skip
  exact hk
theorem rowR_rd {α:Type} {sz n:Nat} {v:Value} {l:List α} {c:α→List Value} (hc:∀x,(c x).length=sz) (h:Rd w sz v n (l.map c).flatten) (hn:n=l.length):RowR w sz (fun x cs=>cs=c x) l v:=by
 subst hn
 refine ⟨l.map c,by simp,fun i a cs ha hcs=>?_,h⟩
 rw [List.getElem?_map,ha] at hcs
 simp only [Option.map_some,Option.some.injEq] at hcs
 subst hcs
 exact ⟨hc _,rfl⟩
structure RdF (w:World) (f:Fl) (vd va vw:Value):Prop where
 data:Rd w 1 vd f.data.length (cb f.data)
 acl:Rd w 3 va f.acl.length (f.acl.map enC).flatten
 who:Rd w 2 vw f.who.length (f.who.map idC).flatten
theorem withinC (f:Fl) (vd va vw:Value) (ao:Option Addr) (m co:Nat) (hk:0≤f.kd∧f.kd≤12) (hN:Names o) (ho:old o ∈ R) (hx:Ent o R fun w=>RdF w f vd va vw) (h:St o w R) :
  CallV π Z 113 #[.agg (rqC f vd va vw (.slice ao m co)).toArray] w fun r w'=>r=.bool (within f m)∧St o w' R:=by
 obtain ⟨ad,cd,rfl⟩:=(hx w h).data.form
 obtain ⟨aa,ca,rfl⟩:=(hx w h).acl.form
 obtain ⟨aw,cw,rfl⟩:=(hx w h).who.form
 refine f113.calls ?_
 unfold f113.sh
 refine r_box _ _ h fun g w1 hS=>?_
 have hS:St o w1 (blk g 48 (rqC f (.slice ad f.data.length cd) (.slice aa f.acl.length ca) (.slice aw f.who.length cw) (.slice ao m co))::R):=hS
 (try simp only [fa_48_9,Nat.zero_add,fa_48_3,fa_48_7,fa_48_8,fa_48_10,fa_48_0,Nat.add_zero,fa_48_2,fa_48_1,fa_48_5,fa_48_6,fa_48_4,o_fn])
 refine r_load one40 (hS.at m0 0 rfl) ?_
 refine r1 (run_nameIx f.kd hk _) ?_
 refine r_load one131 (nameAt hN hS (List.mem_cons_of_mem _ ho) f.kd.toNat (by omega)) ?_
 refine r_alloc hS ze131 fun gn w2 hS=>?_
 have hS:St o w2 (blk gn 131 [.int .u64 0]::_):=hS
 skip
 refine r_store hS one131 (by simp) rfl fun w3 hS=>?_
 have hS:St o w3 (blk gn 131 [.int .u64 (nm f.kd.toNat)]::_):=hS
 have hn:=nm_lt f.kd.toNat
 skip
 generalize hw:within f m=W
 intro j8 hj8
 have H8:wg1 f=false→wg2 f m=false→wg3 f m=false→wg4 f m=false→j8 w3:=by
  intro h1 h2 h3 h4
  refine hj8 w3 fun _=>?_
  clear hj8
  subst hw
  refine r_load one44 (hS.at m1 3 rfl) ?_
  (try simp only [ln_44_3])
  have hle:=(hx w3 (hS.drop.drop)).acl.2.1
  simp only [maxLen] at hle
  refine ⟨fun mm y w'=>∃i:Nat,y=.int .i64 i∧mm+i=f.acl.length∧(f.acl.take i).all (fun x=>idMay x.who)=true∧St o w' (blk gn 131 [.int .u64 (nm f.kd.toNat)]::blk g 48 (rqC f (.slice ad f.data.length cd) (.slice aa f.acl.length ca) (.slice aw f.who.length cw) (.slice ao m co))::R),⟨f.acl.length,0,rfl,rfl,by simp,hS⟩,?_⟩
  clear hS
  rintro mm _ w4 ⟨i,rfl,hi,hall,hS⟩ _
  by_cases hlt:(i:Int) < (f.acl.length:Int)
  ·have hil:i < f.acl.length:=by omega
   have hrow:=rowR_rd (c:=enC) (fun x=>rfl) (hx w4 hS.drop.drop).acl rfl
   obtain ⟨b,q,cs,hp,hcl,hcv,hc⟩:=hrow.ix el44 .i64 i hil
   subst hcv
   (try simp only [o_add,o_lss,hlt,decide_true,condT])
   refine r1 (hp _) (r_loadN ag140 (xs:=enC f.acl[i]) rfl (fun j u hu=>by rw [add_addr]; exact hc j u hu) ?_)
   refine r_alloc hS ze140 fun ge w5 hS=>?_
   have hS:St o w5 (blk ge 140 [.int .i8 0,.string ByteArray.empty,.string ByteArray.empty]::_):=hS
   refine r_storeN hS ag140 (xs:=enC f.acl[i]) rfl (by simp) (by intro u hu; simp [enC,idC] at hu; rcases hu with rfl | rfl | rfl <;> rfl) fun w6 hS=>?_
   rw [setL_all [.int .i8 0,.string ByteArray.empty,.string ByteArray.empty] (enC f.acl[i]) rfl] at hS
   (try simp only [fa_140_1,Nat.zero_add])
   refine r_loadN ag138 (xs:=idC f.acl[i].who) rfl (hS.cells_at m0 1 (fun j v hv=>by rw [Nat.add_comm]; exact hv)) ?_
   refine (idMayV Z f.acl[i].who hS).mono fun r w7 ⟨hr,hS⟩=>?_
   subst hr
   (try simp only [o_not,cond_not])
   cases hmx:idMay f.acl[i].who with
   | false=>
    (try simp only [condF])
    refine ⟨?_,hS.drop.drop.drop⟩
    have:f.acl.all (fun x=>idMay x.who)=false:=by
     rw [List.all_eq_false]
     exact ⟨f.acl[i],List.getElem_mem hil,by simp [hmx]⟩
    simp [within,this]
   | true=>
    (try simp only [condT])
    rw [wr_i64 (x:=(i:Int)+1) (by omega) (by omega)]
    refine ⟨mm - 1,by omega,i+1,rfl,by omega,?_,hS.drop⟩
    rw [List.take_succ_eq_append_getElem hil,List.all_append,hall]
    simp [hmx]
  ·obtain rfl:i=f.acl.length:=by omega
   rw [List.take_length] at hall
   (try simp only [o_add,o_lss,hlt,decide_false,condF])
   refine r_load one45 (hS.at m1 9 rfl) ?_
   refine (idRow Z _ f.who (fun w hS=>rowR_rd (c:=idC) (fun x=>rfl) (hx w hS.drop.drop).who rfl) hS).mono fun r w5 ⟨hr,hS⟩=>?_
   subst hr
   (try simp only [o_not])
   refine ⟨?_,hS.drop.drop⟩
   simp [within,h1,h2,h3,h4,hall]
 clear hj8
 have hF:(wg1 f=true∨wg2 f m=true∨wg3 f m=true∨wg4 f m=true)→W=false:=by
  subst hw
  intro hh
  unfold within
  rcases hh with hh | hh | hh | hh <;> simp [hh]
 have hend:W=false→(Value.bool false=Value.bool W∧St o w3 R):=fun h=>⟨by rw [h],hS.drop.drop⟩
 intro j27 hj27
 have H27:∀b,b=wg1 f→j27 (.bool b) w3:=by
  intro b hb
  refine hj27 _ w3 fun _=>?_
  clear hj27
  refine cond_or (fun hc=>hend (hF (.inl (hb ▸ hc)))) fun hc=>?_
  have h1:wg1 f=false:=hb ▸ hc
  intro j29 hj29
  have H29:∀b,b=wg2 f m→j29 (.bool b) w3:=by
   intro b hb
   refine hj29 _ w3 fun _=>?_
   clear hj29
   refine cond_or (fun hc=>hend (hF (.inr (.inl (hb ▸ hc))))) fun hc=>?_
   have h2:wg2 f m=false:=hb ▸ hc
   intro j31 hj31
   have H31:∀b,b=wg3 f m→j31 (.bool b) w3:=by
    intro b hb
    refine hj31 _ w3 fun _=>?_
    clear hj31
    refine cond_or (fun hc=>hend (hF (.inr (.inr (.inl (hb ▸ hc)))))) fun hc=>?_
    have h3:wg3 f m=false:=hb ▸ hc
    intro j33 hj33
    have H33:∀b,b=wg4 f m→j33 (.bool b) w3:=by
     intro b hb
     refine hj33 _ w3 fun _=>?_
     clear hj33
     exact cond_or (fun hc=>hend (hF (.inr (.inr (.inr (hb ▸ hc)))))) fun hc=>H8 h1 h2 h3 (hb ▸ hc)
    clear hj33
    refine r_load one2 (hS.at m1 7 rfl) ?_
    refine r1 (run_lss _ _ _ _ _ _) ?_
    refine cond_or (fun hc=>H33 _ (by simp only [wg4,hc,Bool.true_or])) fun hc1=>?_
    refine r_load one40 (hS.at m1 0 rfl) ?_
    refine r1 (run_eql_int _ _ _ _ _ _ _ _) ?_
    apply via1 (c:=(decide (f.kd=8) && decide (f.ses=0)))
    ·intro post
     by_cases h8:f.kd=8
     ·have e8:(f.kd == 8)=true:=by simp [h8]
      rw [e8]
      (try simp only [o_pickT,guardW_true])
      refine r_load one2 (hS.at m1 7 rfl) ?_
      refine r1 (run_eql_int _ _ _ _ _ _ _ _) ?_
      refine cond_or (fun hc=>H33 _ (by simp only [beq_dec,if_true] at hc ⊢; simp [wg4,hc1,h8,hc])) fun hc2=>?_
      exact post (by simp only [beq_dec,if_true] at hc2; simp [h8,hc2])
     ·have e8:(f.kd == 8)=false:=by simp [h8]
      rw [e8]
      (try simp only [o_pickF,condF,guardW_ft])
      exact post (by simp [h8])
    intro hc2
    apply via1 (c:=(bt f 6 && (decide (f.tmo < 1) || decide (1000 < f.tmo))))
    ·intro post
     refine hasBit Z _ 6 hn (by omega) _ rfl hS m0 ?_
     rw [show (nm f.kd.toNat).testBit 6=bt f 6 from rfl]
     cases hb:bt f 6 with
     | false => 
      (try simp only [o_pickF,condF,guardW_ft,guardW_u])
      exact post (by simp [hb])
     | true=>
      (try simp only [o_pickT,guardW_true])
      refine r_load one21 (hS.at m1 8 rfl) ?_
      refine r1 (run_lss _ _ _ _ _ _) ?_
      by_cases hl:f.tmo < 1
      ·(try simp only [hl,decide_true,o_pickT,condT,guardW_tf])
       exact H33 _ (by simp [wg4,hb,hl])
      ·(try simp only [hl,decide_false,o_pickF,guardW_ff])
       refine r_load one21 (hS.at m1 8 rfl) ?_
       (try simp only [o_gtr,cond_decide])
       exact ⟨fun hc=>H33 _ (by simp [wg4,hc1,hc2,hb,hl,hc]),fun hc=>post (by simp [hb,hl,hc])⟩
    intro hc3
    refine hasBit Z _ 8 hn (by omega) _ rfl hS m0 ?_
    rw [show (nm f.kd.toNat).testBit 8=bt f 8 from rfl]
    cases hb:bt f 8 with
    | false=>
     (try simp only [o_pickF,guardW_ft])
     exact H33 _ (by simp only [wg4,hc1,hc2,hc3,hb,Bool.false_or,Bool.false_and])
    | true=>
     (try simp only [o_pickT,guardW_true])
     refine r_load one46 (hS.at m1 10 rfl) ?_
     (try simp only [ln_46_3,o_eql])
     exact H33 _ (by simp only [wg4,hc1,hc2,hc3,hb,Bool.false_or,Bool.true_and,beq_dec]; exact decide_eq_decide.2 (by omega))
   clear hj31
   refine r_load one9 (hS.at m1 1 rfl) ?_
   (try simp only [ln_9_3,str_size,o_gtr,cond_decide])
   refine ⟨fun hc=>H31 _ (by simp [wg3,show 64 < f.path.length by omega]; omega),fun hc=>?_⟩
   have hc1:decide (64 < f.path.length)=false:=decide_eq_false (by omega)
   refine r_load one43 (hS.at m1 2 rfl) ?_
   (try simp only [ln_43_3,o_gtr,cond_decide])
   refine ⟨fun hc=>H31 _ (by simp [wg3,show 96 < f.data.length by omega]; omega),fun hc=>?_⟩
   have hc2:decide (96 < f.data.length)=false:=decide_eq_false (by omega)
   refine r_load one44 (hS.at m1 3 rfl) ?_
   (try simp only [ln_44_3,o_gtr,cond_decide])
   refine ⟨fun hc=>H31 _ (by simp [wg3,show 4 < f.acl.length by omega]; omega),fun hc=>?_⟩
   have hc3:decide (4 < f.acl.length)=false:=decide_eq_false (by omega)
   refine r_load one45 (hS.at m1 9 rfl) ?_
   (try simp only [ln_45_3,o_gtr,cond_decide])
   refine ⟨fun hc=>H31 _ (by simp [wg3,show 4 < f.who.length by omega]; omega),fun hc=>?_⟩
   have hc4:decide (4 < f.who.length)=false:=decide_eq_false (by omega)
   refine r_load one46 (hS.at m1 10 rfl) ?_
   (try simp only [ln_46_3,o_gtr])
   exact H31 _ (by simp only [wg3,hc1,hc2,hc3,hc4,Bool.false_or]; exact decide_eq_decide.2 (by omega))
  clear hj29
  apply via1 (c:=(!bt f 4 && (f.eph || f.seq)))
  ·intro post
   refine hasBit Z _ 4 hn (by omega) _ rfl hS m0 ?_
   rw [show (nm f.kd.toNat).testBit 4=bt f 4 from rfl]
   cases hb:bt f 4 with
   | true=>
    (try simp only [o_not,Bool.not_true,o_pickF,condF,guardW_ft,guardW_u])
    exact post (by simp [hb])
   | false=>
    (try simp only [o_not,Bool.not_false,o_pickT,guardW_true])
    refine r_load one4 (hS.at m1 5 rfl) ?_
    cases he:f.eph with
    | true=>
     (try simp only [o_pickT,condT,guardW_tf])
     exact H29 _ (by simp [wg2,hb,he])
    | false=>
     (try simp only [o_pickF,guardW_ff])
     refine r_load one4 (hS.at m1 6 rfl) ?_
     skip
     exact cond_or (fun hc=>H29 _ (by simp [wg2,hb,he,hc])) fun hc=>post (by simp [hb,he,hc])
  intro hc1
  refine chk1 Z (nm f.kd.toNat) 5 (.int .i64 f.ses) (!decide (f.ses=0)) hn (by omega) rfl hS m0 m1 one2 rfl (fun w=>run_neq_int _ _ _ _ _ _ _ _) ?_
  refine cond_or (fun hc=>H29 _ (by rw [hc]; simp only [wg2]; rw [show (!bt f 5 && !decide (f.ses=0))=true from hc]; simp)) fun hc2=>?_
  have hc2:(!bt f 5 && !decide (f.ses=0))=false:=hc2
  refine chk1 Z (nm f.kd.toNat) 6 (.int .i32 f.tmo) (!decide (f.tmo=0)) hn (by omega) rfl hS m0 m1 one21 rfl (fun w=>run_neq_int _ _ _ _ _ _ _ _) ?_
  refine cond_or (fun hc=>H29 _ (by rw [hc]; simp only [wg2]; rw [show (!bt f 6 && !decide (f.tmo=0))=true from hc]; simp)) fun hc3=>?_
  have hc3:(!bt f 6 && !decide (f.tmo=0))=false:=hc3
  refine chk2 Z (nm f.kd.toNat) 7 _ _ (decide (0 < f.who.length)) hn (by omega) rfl hS m0 m1 one45 rfl (fun w=>run_lenS sl45 _ rfl _ _ _ _ w) (fun w=>by rw [run_gtr,show (0:Int)=((0:Nat):Int) from rfl,nat_gt0]) ?_
  refine cond_or (fun hc=>H29 _ (by rw [hc]; simp only [wg2]; rw [show (!bt f 7 && decide (0 < f.who.length))=true from hc]; simp)) fun hc4=>?_
  have hc4:(!bt f 7 && decide (0 < f.who.length))=false:=hc4
  refine chk2 Z (nm f.kd.toNat) 8 _ _ (decide (0 < m)) hn (by omega) rfl hS m0 m1 one46 rfl (fun w=>run_lenS sl46 _ rfl _ _ _ _ w) (fun w=>by rw [run_gtr,show (0:Int)=((0:Nat):Int) from rfl,nat_gt0]) ?_
  exact H29 _ (by simp only [wg2,hc1,hc2,hc3,hc4,Bool.false_or]; rfl)
 clear hj27
 refine chk1 Z (nm f.kd.toNat) 0 (.string (str f.path)) (!decide (f.path=[])) hn (by omega) rfl hS m0 m1 one9 rfl (fun w=>run_neq_strS _ _ _ f.path [] w) ?_
 refine cond_or (fun hc=>H27 _ (by rw [hc]; simp only [wg1]; rw [show (!bt f 0 && !decide (f.path=[]))=true from hc]; simp)) fun hc1=>?_
 have hc1:(!bt f 0 && !decide (f.path=[]))=false:=hc1
 refine chk2 Z (nm f.kd.toNat) 1 _ _ (decide (0 < f.data.length)) hn (by omega) rfl hS m0 m1 one43 rfl (fun w=>run_lenS sl43 _ rfl _ _ _ _ w) (fun w=>by rw [run_gtr,show (0:Int)=((0:Nat):Int) from rfl,nat_gt0]) ?_
 refine cond_or (fun hc=>H27 _ (by rw [hc]; simp only [wg1]; rw [show (!bt f 1 && decide (0 < f.data.length))=true from hc]; simp)) fun hc2=>?_
 have hc2:(!bt f 1 && decide (0 < f.data.length))=false:=hc2
 refine chk2 Z (nm f.kd.toNat) 2 _ _ (decide (0 < f.acl.length)) hn (by omega) rfl hS m0 m1 one44 rfl (fun w=>run_lenS sl44 _ rfl _ _ _ _ w) (fun w=>by rw [run_gtr,show (0:Int)=((0:Nat):Int) from rfl,nat_gt0]) ?_
 refine cond_or (fun hc=>H27 _ (by rw [hc]; simp only [wg1]; rw [show (!bt f 2 && decide (0 < f.acl.length))=true from hc]; simp)) fun hc3=>?_
 have hc3:(!bt f 2 && decide (0 < f.acl.length))=false:=hc3
 refine chk1 Z (nm f.kd.toNat) 3 (.int .i32 f.ver) (!decide (f.ver=0)) hn (by omega) rfl hS m0 m1 one21 rfl (fun w=>run_neq_int _ _ _ _ _ _ _ _) ?_
 exact H27 _ (by simp only [wg1,hc1,hc2,hc3,Bool.false_or]; rfl)
end
end Go.Proofs.YtbdfhfceffkhgaaGreatDoor


/- Requests with their Ops; CheckRequest, Check. -/
set_option linter.unusedVariables false
set_option linter.unusedSimpArgs false
namespace Go.Proofs.YtbdfhfceffkhgaaGreatDoor
open Go.Sh
open Tryz renaming prog → π
inductive Rq where
 | mk:Fl→Value→Value→Value→Value→List Rq→Rq
namespace Rq
def f:Rq→Fl | mk f _ _ _ _ _=>f
def vd:Rq→Value | mk _ v _ _ _ _=>v
def va:Rq→Value | mk _ _ v _ _ _=>v
def vw:Rq→Value | mk _ _ _ v _ _=>v
def vo:Rq→Value | mk _ _ _ _ v _=>v
def ops:Rq→List Rq | mk _ _ _ _ _ l=>l
def cells (q:Rq):List Value:=rqC q.f q.vd q.va q.vw q.vo
theorem cells_len (q:Rq):q.cells.length=11:=rfl
theorem lt_ops {q x:Rq} (h:x ∈ q.ops):SizeOf.sizeOf x < SizeOf.sizeOf q:=by
 cases q with
 | mk f a b c d l=>
  have:=List.sizeOf_lt_of_mem (show x ∈ l from h)
  simp only [Rq.mk.sizeOf_spec]; omega
theorem ind {C:Rq→Prop} (h:∀q,(∀x ∈ q.ops,C x)→C q) (q:Rq):C q:=h q fun x hx=>ind h x
termination_by SizeOf.sizeOf q
decreasing_by exact lt_ops hx
end Rq
inductive RdQ (w:World):Rq→Prop where
 | mk (q:Rq):RdF w q.f q.vd q.va q.vw→Rd w 11 q.vo q.ops.length (q.ops.map Rq.cells).flatten→(∀x ∈ q.ops,RdQ w x)→RdQ w q
theorem RdQ.flat {w:World} {q:Rq} (h:RdQ w q):RdF w q.f q.vd q.va q.vw:=by cases h; assumption
theorem RdQ.row {w:World} {q:Rq} (h:RdQ w q):Rd w 11 q.vo q.ops.length (q.ops.map Rq.cells).flatten:=by cases h; assumption
theorem RdQ.all {w:World} {q:Rq} (h:RdQ w q):∀x ∈ q.ops,RdQ w x:=by cases h; assumption
theorem RdQ.rowR {w:World} {q:Rq} (h:RdQ w q):RowR w 11 (fun x cs=>cs=Rq.cells x) q.ops q.vo:=rowR_rd Rq.cells_len h.row rfl
def isOp (q:Rq):Bool:=(decide (1≤q.f.kd) && decide (q.f.kd≤5)) && (decide (q.f.ses=0) && (decide (q.f.who.length=0) && within q.f q.ops.length))
def chkQ (q:Rq):Bool:=(decide (1≤q.f.kd) && decide (q.f.kd≤12)) && (within q.f q.ops.length && q.ops.all isOp)
theorem Rd.one {w:World} {sz n:Nat} {v:Value} {xs:List Value} (h:Rd w sz v n xs):v.oneCell'=true:=by
 obtain ⟨a,c,rfl⟩:=h.form
 rfl
theorem RdQ.ones {w:World} {q:Rq} (h:RdQ w q):ones q.cells:=by
 have h1:=Rd.one h.flat.data
 have h2:=Rd.one h.flat.acl
 have h3:=Rd.one h.flat.who
 have h4:=Rd.one h.row
 intro u hu
 simp only [Rq.cells,rqC,List.mem_cons,List.not_mem_nil,or_false] at hu
 rcases hu with rfl | rfl | rfl | rfl | rfl | rfl | rfl | rfl | rfl | rfl | rfl <;> first | assumption | rfl
section
variable (Z:PZ) {o w:World} {R As:List HProp}
theorem withinQ (q:Rq) (hk:0≤q.f.kd∧q.f.kd≤12) (hN:Names o) (ho:old o ∈ R) (hx:Ent o R fun w=>RdQ w q) (h:St o w R) :
  CallV π Z 113 #[.agg q.cells.toArray] w fun r w'=>r=.bool (within q.f q.ops.length)∧St o w' R:=by
 obtain ⟨a,c,e⟩:=(hx w h).row.form
 have:=withinC Z q.f q.vd q.va q.vw a q.ops.length c hk hN ho (fun w hw=>(hx w hw).flat) h
 unfold Rq.cells
 rw [e]
 exact this
theorem isOpC (q:Rq) (hN:Names o) (ho:old o ∈ R) (hx:Ent o R fun w=>RdQ w q) (h:St o w R) :
  CallV π Z 114 #[.agg q.cells.toArray] w fun r w'=>r=.bool (isOp q)∧St o w' R:=by
 refine f114.calls ?_
 unfold f114.sh
 refine r_box _ _ h fun g w1 hS=>?_
 have hS:St o w1 (blk g 48 q.cells::R):=hS
 have hx':Ent o (blk g 48 q.cells::R) fun w=>RdQ w q:=fun w hw=>hx w hw.drop
 obtain ⟨aw,cw,ew⟩:=(hx' w1 hS).flat.who.form
 unfold isOp
 (try simp only [fa_48_0,Nat.add_zero,fa_48_7,Nat.zero_add,fa_48_9])
 refine r_load one40 (hS.at m0 0 rfl) ?_
 (try simp only [o_geq])
 by_cases h1:1≤q.f.kd
 ·(try simp only [h1,decide_true,o_pickT,guardW_true])
  refine r_load one40 (hS.at m0 0 rfl) ?_
  (try simp only [o_leq])
  by_cases h2:q.f.kd≤5
  ·(try simp only [h2,decide_true,o_pickT,guardW_true])
   refine r_load one2 (hS.at m0 7 rfl) ?_
   (try simp only [o_eql])
   by_cases h3:q.f.ses=0
   ·(try simp only [h3,beq_self_eq_true,decide_true,o_pickT,guardW_true])
    refine r_load one45 (hS.at m0 9 (congrArg some ew)) ?_
    (try simp only [ln_45_3,o_eql])
    by_cases h4:q.f.who.length=0
    ·have e4:((q.f.who.length:Int) == 0)=true:=by rw [h4]; rfl
     (try simp only [e4,o_pickT,guardW_true])
     refine r_loadN ag48 (xs:=q.cells) rfl (hS.cells_at m0 0 (whole_at _)) ?_
     refine (withinQ Z q ⟨by omega,by omega⟩ hN (List.mem_cons_of_mem _ ho) hx' hS).mono fun r w2 ⟨hr,hS⟩=>?_
     subst hr
     skip
     exact ⟨by simp [h1,h2,h3,h4],hS.drop⟩
    ·have e4:((q.f.who.length:Int) == 0)=false:=beq_eq_false_iff_ne.2 (by omega)
     (try simp only [e4,o_pickF,guardW_ft])
     exact ⟨by simp [h4],hS.drop⟩
   ·have e3:(q.f.ses == 0)=false:=by simp [h3]
    (try simp only [e3,o_pickF,guardW_ft])
    exact ⟨by simp [h3],hS.drop⟩
  ·(try simp only [h2,decide_false,o_pickF,guardW_ft])
   exact ⟨by simp [h2],hS.drop⟩
 ·(try simp only [h1,decide_false,o_pickF,guardW_ft])
  exact ⟨by simp [h1],hS.drop⟩
theorem chkR (q:Rq) (hN:Names o) (ho:old o ∈ R) (hx:Ent o R fun w=>RdQ w q) (h:St o w R) :
  CallV π Z 79 #[.agg q.cells.toArray] w fun r w'=>r=.int .i64 (if chkQ q then 0 else 40)∧St o w' R:=by
 refine f79.calls ?_
 unfold f79.sh
 refine r_box _ _ h fun g w1 hS=>?_
 have hS:St o w1 (blk g 48 q.cells::R):=hS
 have hx':Ent o (blk g 48 q.cells::R) fun w=>RdQ w q:=fun w hw=>hx w hw.drop
 obtain ⟨ao,co,eo⟩:=(hx' w1 hS).row.form
 have hle:=(hx' w1 hS).row.2.1
 simp only [maxLen] at hle
 (try simp only [fa_48_10,Nat.zero_add,fa_48_0,Nat.add_zero])
 refine r_load one40 (hS.at m0 0 rfl) ?_
 refine (known Z q.f.kd).mono fun r w2 ⟨hr,hw⟩=>?_
 subst hr; subst hw
 by_cases hk:1≤q.f.kd∧q.f.kd≤12
 ·rw [decide_eq_true hk]
  (try simp only [o_not,Bool.not_true,o_pickF,guardW_ff])
  refine r_loadN ag48 (xs:=q.cells) rfl (hS.cells_at m0 0 (whole_at _)) ?_
  refine (withinQ Z q ⟨by omega,by omega⟩ hN (List.mem_cons_of_mem _ ho) hx' hS).mono fun r w2 ⟨hr,hS⟩=>?_
  subst hr
  cases hwi:within q.f q.ops.length with
  | false=>
   (try simp only [o_not,Bool.not_false,condT])
   exact ⟨by simp [chkQ,hwi],hS.drop⟩
  | true=>
   (try simp only [o_not,Bool.not_true,condF])
   refine r_load one46 (hS.at m0 10 (congrArg some eo)) ?_
   (try simp only [ln_46_3])
   refine ⟨fun mm y w'=>∃i:Nat,y=.int .i64 i∧mm+i=q.ops.length∧(q.ops.take i).all isOp=true∧St o w' (blk g 48 q.cells::R),⟨q.ops.length,0,rfl,rfl,by simp,hS⟩,?_⟩
   clear hS
   rintro mm _ w4 ⟨i,rfl,hi,hall,hS⟩ _
   by_cases hlt:(i:Int) < (q.ops.length:Int)
   ·have hil:i < q.ops.length:=by omega
    have hrow:=(hx' w4 hS).rowR
    rw [eo] at hrow
    obtain ⟨b,p,cs,hp,hcl,hcv,hc⟩:=hrow.ix el46 .i64 i hil
    subst hcv
    have hmem:q.ops[i] ∈ q.ops:=List.getElem_mem hil
    (try simp only [o_add,o_lss,hlt,decide_true,condT])
    refine r1 (hp _) (r_loadN ag48 (xs:=q.ops[i].cells) rfl (fun j u hu=>by rw [add_addr]; exact hc j u hu) ?_)
    refine r_alloc hS ze48 fun ge w5 hS=>?_
    have hones:=((hx' w5 hS.drop).all _ hmem).ones
    refine r_storeN hS ag48 (xs:=q.ops[i].cells) rfl (show 0+11≤11 from Nat.le_refl _) hones fun w6 hS=>?_
    rw [setL_all _ _ (by rfl)] at hS
    refine r_loadN ag48 (xs:=q.ops[i].cells) rfl (hS.cells_at m0 0 (whole_at _)) ?_
    refine (isOpC Z q.ops[i] hN (List.mem_cons_of_mem _ (List.mem_cons_of_mem _ ho)) (fun w hw=>(hx' w hw.drop).all _ hmem) hS).mono fun r w7 ⟨hr,hS⟩=>?_
    subst hr
    (try simp only [o_not,cond_not])
    cases hmx:isOp q.ops[i] with
    | false=>
     (try simp only [condF])
     refine ⟨?_,hS.drop.drop⟩
     have:q.ops.all isOp=false:=by
      rw [List.all_eq_false]
      exact ⟨q.ops[i],hmem,by simp [hmx]⟩
     simp [chkQ,this]
    | true=>
     (try simp only [condT])
     rw [wr_i64 (x:=(i:Int)+1) (by omega) (by omega)]
     refine ⟨mm - 1,by omega,i+1,rfl,by omega,?_,hS.drop⟩
     rw [List.take_succ_eq_append_getElem hil,List.all_append,hall]
     simp [hmx]
   ·obtain rfl:i=q.ops.length:=by omega
    rw [List.take_length] at hall
    (try simp only [o_add,o_lss,hlt,decide_false,condF])
    exact ⟨by simp [chkQ,hk,hwi,hall],hS.drop⟩
 ·rw [decide_eq_false hk]
  (try simp only [o_not,Bool.not_false,o_pickT,condT,guardW_tf])
  refine ⟨?_,hS.drop⟩
  have:(decide (1≤q.f.kd) && decide (q.f.kd≤12))=false:=by
   rw [← Bool.decide_and]; exact decide_eq_false hk
  simp [chkQ,this]
end
end Go.Proofs.YtbdfhfceffkhgaaGreatDoor


/- Transactions; Check. -/
set_option linter.unusedVariables false
set_option linter.unusedSimpArgs false
namespace Go.Proofs.YtbdfhfceffkhgaaGreatDoor
open Go.Sh
open Tryz renaming prog → π
structure Tx where
 e:Int
 n:Int
 sv:Int
 bo:Int
 nu:Int
 q:Rq
def orC (sv bo nu:Int):List Value:=[.int .i8 sv,.int .u32 bo,.int .i64 nu]
def Tx.cells (t:Tx):List Value:=zx t.e t.n++(orC t.sv t.bo t.nu++t.q.cells)
theorem Tx.cells_len (t:Tx):t.cells.length=16:=rfl
def prop (e n:Int):Bool:=(decide (1≤e) && decide (e≤2147483647)) && decide (1≤n)
def chkT (t:Tx):Bool:=(decide (t.e=0∧t.n=0) || prop t.e t.n) && ((decide (0≤t.sv) && (decide (t.sv < 7) && decide (0≤t.nu))) && (decide (t.q.f.kd≤8) && chkQ t.q))
theorem neqZx (e n e' n':Int) (w:World):(eqOp .neq 39 false false (.agg (zx e n).toArray) (.agg (zx e' n').toArray)).run π w=.ok (.bool (!((e == e') && (n == n')))) w:=by
 have hg:π.eqGuardType π.depth 39=false:=by kernel_rfl
 have hu:π.underlying 39=some (.struct (π.fieldsOf 39)):=by kernel_rfl
 have hs:π.stoodInHeld 39=false:=by kernel_rfl
 have hk:π.plainKey 37=true:=by kernel_rfl
 have p0:∀(a b:Int) (w:World),(part 37 (zx a b).toArray 0).run π w=.ok (.int .u32 a) w:=fun a b w=>run_part_plain w hk rfl
 have p1:∀(a b:Int) (w:World),(part 37 (zx a b).toArray 1).run π w=.ok (.int .u32 b) w:=fun a b w=>run_part_plain w hk rfl
 unfold eqOp
 simp only [Sem.run_bind,run_eqGuard_agg _ _ _ _ _ _ _ hg,Result.andThen_ok,run_neq_struct,run_equalIn_agg _ _ _ _ _ hu hs]
 simp [Program.fieldsOf,Tryz.underlying39,Op.eqFields,p0,p1,run_equalIn_int _ _ _ _ _ _ _ Tryz.underlying37]
 by_cases h1:e=e' <;> by_cases h2:n=n' <;> simp [h1,h2]
section
variable (Z:PZ) {o w:World} {R As:List HProp}
theorem propW (e n:Int) {gz:Nat} {K:PQ} (hS:St o w (blk gz 39 (zx e n)::R)) (hk:K (.bool (prop e n)) w) :
  rN π Z (Instr.loadAt 37 (.pointer (some ⟨gz,0,none⟩))) w fun t8 w=>rN π Z (binOp .geq 37 t8 (.int .u32 1)) w fun t9 w=>
   gW t9 true (fun k=>k (.pointer (some ⟨gz,0,none⟩)) w) (fun t11 w=>gW t9 true (fun k=>rN π Z (Instr.loadAt 37 t11) w k) (fun t12 w=>
   gW t9 true (fun k=>rN π Z (binOp .leq 37 t12 (.int .u32 2147483647)) w k) (fun t13 w=>rN π Z (pickV t9 t13 (.bool false)) w fun t14 w=>
   gW t14 true (fun k=>k (.pointer (some ⟨gz,1,none⟩)) w) (fun t16 w=>gW t14 true (fun k=>rN π Z (Instr.loadAt 37 t16) w k) (fun t17 w=>
   gW t14 true (fun k=>rN π Z (binOp .geq 37 t17 (.int .u32 1)) w k) (fun t18 w=>rN π Z (pickV t14 t18 (.bool false)) w fun t19 w=>K t19 w) w) w) w) w) w) w:=by
 refine r_load one37 (hS.at m0 0 rfl) ?_
 (try simp only [o_geq])
 by_cases h1:1≤e
 ·(try simp only [h1,decide_true,o_pickT,guardW_true])
  refine r_load one37 (hS.at m0 0 rfl) ?_
  (try simp only [o_leq])
  by_cases h2:e≤2147483647
  ·(try simp only [h2,decide_true,o_pickT,guardW_true])
   refine r_load one37 (hS.at m0 1 rfl) ?_
   (try simp only [o_geq])
   simpa [prop,h1,h2] using hk
  ·(try simp only [h2,decide_false,o_pickF,guardW_ft])
   simpa [prop,h2] using hk
 ·(try simp only [h1,decide_false,o_pickF,guardW_ft])
  simpa [prop,h1] using hk
theorem chkTx (t:Tx) (hN:Names o) (ho:old o ∈ R) (hx:Ent o R fun w=>RdQ w t.q) (h:St o w R) :
  CallV π Z 57 #[.agg t.cells.toArray] w fun r w'=>r=.int .i64 (if chkT t then 0 else 40)∧St o w' R:=by
 refine f57.calls ?_
 unfold f57.sh
 refine r_box _ _ h fun g w1 hS=>?_
 have hS:St o w1 (blk g 50 t.cells::R):=hS
 have hx':Ent o (blk g 50 t.cells::R) fun w=>RdQ w t.q:=fun w hw=>hx w hw.drop
 (try simp only [fa_50_1,Nat.zero_add,fa_50_2,fa_48_0,Nat.add_zero,fa_42_0,fa_50_0])
 refine r_loadN ag39 (xs:=zx t.e t.n) rfl (hS.cells_at m0 0 (by rintro (_ | _ | j) v hv <;> first | exact hv | simp [zx] at hv)) ?_
 refine r_alloc hS ze39 fun gz w2 hS=>?_
 have hS:St o w2 (blk gz 39 (zx 0 0)::_):=hS
 refine r_storeN hS ag39 (xs:=zx t.e t.n) rfl (by simp [zx]) (zx_ones _ _) fun w3 hS=>?_
 rw [setL_all _ _ (by rfl)] at hS
 (try simp only [fa_39_0,Nat.add_zero,fa_39_1,Nat.zero_add])
 refine propW Z t.e t.n hS ?_
 refine r_loadN ag39 (xs:=zx t.e t.n) rfl (hS.cells_at m0 0 (whole_at _)) ?_
 refine r_build (cells:=(zx 0 0).toArray) (by kernel_rfl) ?_
 refine r1 (neqZx t.e t.n 0 0 _) ?_
 have hq:((t.e == 0) && (t.n == 0))=decide (t.e=0∧t.n=0):=by
  by_cases h1:t.e=0 <;> by_cases h2:t.n=0 <;> simp [h1,h2]
 rw [hq]
 have bad:chkT t=false→(Value.int .i64 40=Value.int .i64 (if chkT t then 0 else 40)∧St o w3 R):=fun hc=>⟨by simp [hc],hS.drop.drop⟩
 apply via1 (c:=!(decide (t.e=0∧t.n=0) || prop t.e t.n))
 ·intro post
  cases hz:decide (t.e=0∧t.n=0) with
  | true=>
   (try simp only [Bool.not_true,o_pickF,condF,guardW_ft])
   exact post (by rw [hz]; rfl)
  | false=>
   (try simp only [Bool.not_false,o_pickT,guardW_true,o_not,cond_not])
   refine cond_or (fun hc=>post (by rw [hz,hc]; rfl)) fun hc=>bad ?_
   unfold chkT
   rw [hz,hc]
   rfl
 intro h1
 have h1:(decide (t.e=0∧t.n=0) || prop t.e t.n)=true:=by rw [Bool.not_eq_eq_eq_not] at h1; exact h1
 refine r_load one40 (hS.at m1 2 rfl) ?_
 (try simp only [o_lss])
 by_cases h2:t.sv < 0
 ·(try simp only [h2,decide_true,o_pickT,condT,guardW_tf])
  exact bad (by simp [chkT,show ¬ 0≤t.sv by omega])
 have h2':0≤t.sv:=by omega
 (try simp only [h2,decide_false,o_pickF,guardW_ff,fa_42_0,Nat.add_zero])
 refine r_load one40 (hS.at m1 2 rfl) ?_
 (try simp only [o_geq])
 by_cases h3:7≤t.sv
 ·(try simp only [h3,decide_true,o_pickT,condT,guardW_tf])
  exact bad (by simp [chkT,show ¬ t.sv < 7 by omega])
 have h3':t.sv < 7:=by omega
 (try simp only [h3,decide_false,o_pickF,guardW_ff,fa_42_2])
 refine r_load one2 (hS.at m1 4 rfl) ?_
 (try simp only [o_lss,cond_decide])
 refine ⟨fun h4=>bad (by simp [chkT,show ¬ 0≤t.nu by omega]),fun h4=>?_⟩
 have h4':0≤t.nu:=by omega
 refine r_load one40 (hS.at m1 5 rfl) ?_
 (try simp only [o_gtr,cond_decide])
 refine ⟨fun h5=>bad (by simp [chkT,show ¬ t.q.f.kd≤8 by omega]),fun h5=>?_⟩
 have h5':t.q.f.kd≤8:=by omega
 refine r_loadN ag48 (xs:=t.q.cells) rfl (hS.cells_at m1 5 (fun j v hv=>by rw [Nat.add_comm]; exact hv)) ?_
 refine (chkR Z t.q hN (List.mem_cons_of_mem _ (List.mem_cons_of_mem _ ho)) (fun w hw=>hx' w hw.drop) hS).mono fun r w4 ⟨hr,hS⟩=>?_
 subst hr
 skip
 exact ⟨by unfold chkT; rw [h1]; simp [h2',h3',h4',h5'],hS.drop.drop⟩
end
end Go.Proofs.YtbdfhfceffkhgaaGreatDoor


/- EqRequest, EqTxn of the document. -/
set_option linter.unusedVariables false
set_option linter.unusedSimpArgs false
namespace Go.Proofs.YtbdfhfceffkhgaaGreatDoor
open Go.Sh
open Tryz renaming prog → π
inductive Qt where
 | mk:Fl→List Qt→Qt
mutual
def Rq.st:Rq→Qt
 | .mk f _ _ _ _ l=>.mk f (sts l)
def sts:List Rq→List Qt
 | []=>[]
 | x::l=>x.st::sts l
end
theorem sts_map (l:List Rq):sts l=l.map Rq.st:=by
 induction l with
 | nil=>rfl
 | cons x l ih=>rw [sts,ih]; rfl
theorem Rq.st_eq (q:Rq):q.st=.mk q.f (q.ops.map Rq.st):=by
 cases q with
 | mk f a b c d l=>rw [Rq.st,sts_map]; rfl
theorem st_iff (a c:Rq):a.st=c.st ↔ a.f=c.f∧a.ops.map Rq.st=c.ops.map Rq.st:=by
 rw [a.st_eq,c.st_eq]
 constructor
 ·intro h; injection h with h1 h2; exact ⟨h1,h2⟩
 ·rintro ⟨h1,h2⟩; rw [h1,h2]
theorem idd_iff (x y:Idd):x=y ↔ x.sch=y.sch∧x.nam=y.nam:=⟨fun h=>by subst h; exact ⟨rfl,rfl⟩,fun h=>by cases x; cases y; simp_all⟩
theorem en_iff (x y:En):x=y ↔ x.perms=y.perms∧x.who.sch=y.who.sch∧x.who.nam=y.who.nam:=⟨fun h=>by subst h; exact ⟨rfl,rfl,rfl⟩,fun h=>by cases x; cases y; simp_all [idd_iff]⟩
theorem eqIdIn (x y:Idd) (d:Nat) (w:World):(Op.equalIn (d+2) 138 (.agg (idC x).toArray) (.agg (idC y).toArray)).run π w=.ok (decide (x.sch=y.sch∧x.nam=y.nam)) w:=by
 have hu:π.underlying 138=some (.struct (π.fieldsOf 138)):=by kernel_rfl
 have hs:π.stoodInHeld 138=false:=by kernel_rfl
 have hk:π.plainKey 9=true:=by kernel_rfl
 have p0:∀(a:Idd) (w:World),(part 9 (idC a).toArray 0).run π w=.ok (.string (str a.sch)) w:=fun a w=>run_part_plain w hk rfl
 have p1:∀(a:Idd) (w:World),(part 9 (idC a).toArray 1).run π w=.ok (.string (str a.nam)) w:=fun a w=>run_part_plain w hk rfl
 rw [run_equalIn_agg _ _ _ _ _ hu hs]
 simp [Program.fieldsOf,Tryz.underlying138,Op.eqFields,p0,p1,run_equalIn_string _ _ _ _ _ Tryz.underlying9,str_toList]
 by_cases h1:x.sch=y.sch <;> by_cases h2:x.nam=y.nam <;> simp [h1,h2]
theorem neqId (x y:Idd) (w:World):(eqOp .neq 138 false false (.agg (idC x).toArray) (.agg (idC y).toArray)).run π w=.ok (.bool (!decide (x.sch=y.sch∧x.nam=y.nam))) w:=by
 have hg:π.eqGuardType π.depth 138=false:=by kernel_rfl
 unfold eqOp
 simp only [Sem.run_bind,run_eqGuard_agg _ _ _ _ _ _ _ hg,Result.andThen_ok,run_neq_struct,eqIdIn x y 9998]
theorem neqEn (x y:En) (w:World):(eqOp .neq 140 false false (.agg (enC x).toArray) (.agg (enC y).toArray)).run π w=.ok (.bool (!decide (x.perms=y.perms∧x.who.sch=y.who.sch∧x.who.nam=y.who.nam))) w:=by
 have hg:π.eqGuardType π.depth 140=false:=by kernel_rfl
 have hu:π.underlying 140=some (.struct (π.fieldsOf 140)):=by kernel_rfl
 have hs:π.stoodInHeld 140=false:=by kernel_rfl
 have hk:π.plainKey 40=true:=by kernel_rfl
 have hz:∀w,(sizeOf 138).run π w=.ok 2 w:=fun w=>by kernel_rfl
 have p0:∀(a:En) (w:World),(part 40 (enC a).toArray 0).run π w=.ok (.int .i8 a.perms) w:=fun a w=>run_part_plain w hk rfl
 have p1:∀(a:En) (w:World),(part 138 (enC a).toArray 1).run π w=.ok (.agg (idC a.who).toArray) w:=fun a w=>by
  unfold part
  simp only [Sem.run_bind,run_isAgg ag138,Result.andThen_ok,if_true,hz]
  simp [enC,idC]
 unfold eqOp
 simp only [Sem.run_bind,run_eqGuard_agg _ _ _ _ _ _ _ hg,Result.andThen_ok,run_neq_struct,run_equalIn_agg _ _ _ _ _ hu hs]
 simp [Program.fieldsOf,Tryz.underlying140,Op.eqFields,p0,p1,run_equalIn_int _ _ _ _ _ _ _ Tryz.underlying40,eqIdIn]
 by_cases h1:x.perms=y.perms <;> by_cases h2:x.who.sch=y.who.sch <;> by_cases h3:x.who.nam=y.who.nam <;> simp [h1,h2,h3]
theorem eqOr (a b c a' b' c':Int) (w:World):(eqOp .eql 42 false false (.agg (orC a b c).toArray) (.agg (orC a' b' c').toArray)).run π w=.ok (.bool (decide (a=a'∧b=b'∧c=c'))) w:=by
 have hg:π.eqGuardType π.depth 42=false:=by kernel_rfl
 have hu:π.underlying 42=some (.struct (π.fieldsOf 42)):=by kernel_rfl
 have hs:π.stoodInHeld 42=false:=by kernel_rfl
 have k8:π.plainKey 40=true:=by kernel_rfl
 have k32:π.plainKey 37=true:=by kernel_rfl
 have k64:π.plainKey 2=true:=by kernel_rfl
 have p0:∀(a b c:Int) (w:World),(part 40 (orC a b c).toArray 0).run π w=.ok (.int .i8 a) w:=fun a b c w=>run_part_plain w k8 rfl
 have p1:∀(a b c:Int) (w:World),(part 37 (orC a b c).toArray 1).run π w=.ok (.int .u32 b) w:=fun a b c w=>run_part_plain w k32 rfl
 have p2:∀(a b c:Int) (w:World),(part 2 (orC a b c).toArray 2).run π w=.ok (.int .i64 c) w:=fun a b c w=>run_part_plain w k64 rfl
 unfold eqOp
 simp only [Sem.run_bind,run_eqGuard_agg _ _ _ _ _ _ _ hg,Result.andThen_ok,run_eql_struct,run_equalIn_agg _ _ _ _ _ hu hs]
 simp [Program.fieldsOf,Tryz.underlying42,Op.eqFields,p0,p1,p2,run_equalIn_int _ _ _ _ _ _ _ Tryz.underlying40,run_equalIn_int _ _ _ _ _ _ _ Tryz.underlying37,run_equalIn_int _ _ _ _ _ _ _ Tryz.underlying2]
 by_cases h1:a=a' <;> by_cases h2:b=b' <;> by_cases h3:c=c' <;> simp [h1,h2,h3]
section
variable (Z:PZ) {o w:World} {R As:List HProp}
theorem take_more {α:Type} {l k:List α} {i:Nat} (h1:i < l.length) (h2:i < k.length) (ht:l.take i=k.take i) (he:l[i]=k[i]):l.take (i+1)=k.take (i+1):=by
 rw [List.take_succ_eq_append_getElem h1,List.take_succ_eq_append_getElem h2,ht,he]
theorem eqAcl {x y:Value} {l k:List En} (hx:Rd w 3 x l.length (l.map enC).flatten) (hy:Rd w 3 y k.length (k.map enC).flatten) :
  CallV π Z 102 #[x,y] w fun r w'=>(∃b,r=.bool b∧(b=true ↔ l=k))∧Drew w w':=by
 obtain ⟨a,c,rfl⟩:=hx.form
 obtain ⟨b,d,rfl⟩:=hy.form
 have hlx:=hx.2.1
 simp only [maxLen] at hlx
 refine f102.calls ?_
 unfold f102.sh
 (try simp only [ln_44_3,o_neq,cond_bne])
 refine ⟨fun hne=>⟨⟨_,rfl,⟨fun h=>(by cases h),fun e=>absurd (by rw [e]) hne⟩⟩,Drew.refl _⟩,fun he=>?_⟩
 have he':l.length=k.length:=by omega
 refine ⟨fun m y w'=>∃i:Nat,y=.int .i64 i∧m+i=l.length∧l.take i=k.take i∧Drew w w',⟨l.length,0,rfl,rfl,rfl,Drew.refl _⟩,?_⟩
 rintro m _ w1 ⟨i,rfl,hi,ht,hd⟩ _
 (try simp only [o_add,o_lss,cond_decide])
 refine ⟨fun hlt=>⟨fun w2 hd2=>?_⟩,fun hge=>?_⟩
 ·have hi1:i < l.length:=by omega
  have hi2:i < k.length:=by omega
  obtain ⟨b1,p,cs,hp,_,hcv,hpc⟩:=(rowR_rd (c:=enC) (fun x=>rfl) (hx.drew (hd.trans hd2)) rfl).ix el44 .i64 i hi1
  subst hcv
  obtain ⟨b2,q,cs,hq,_,hcv,hqc⟩:=(rowR_rd (c:=enC) (fun x=>rfl) (hy.drew (hd.trans hd2)) rfl).ix el44 .i64 i hi2
  subst hcv
  refine rp hp (rr_loadN ag140 (xs:=enC l[i]) rfl (fun j u hu=>by rw [add_addr]; exact hpc j u hu) (rp hq (rr_loadN ag140 (xs:=enC k[i]) rfl (fun j u hu=>by rw [add_addr]; exact hqc j u hu) ?_)))
  refine rp (fun w=>neqEn l[i] k[i] w) ?_
  rw [show (decide (l[i].perms=k[i].perms∧l[i].who.sch=k[i].who.sch∧l[i].who.nam=k[i].who.nam))=decide (l[i].perms=k[i].perms∧l[i].who.sch=k[i].who.sch∧l[i].who.nam=k[i].who.nam) from rfl]
  by_cases hen:l[i].perms=k[i].perms∧l[i].who.sch=k[i].who.sch∧l[i].who.nam=k[i].who.nam
  ·rw [decide_eq_true hen]
   (try simp only [Bool.not_true,condF])
   rw [wr_i64 (x:=(i:Int)+1) (by omega) (by omega)]
   exact ⟨m - 1,by omega,i+1,rfl,by omega,take_more hi1 hi2 ht ((en_iff _ _).2 hen),hd.trans hd2⟩
  ·rw [decide_eq_false hen]
   (try simp only [Bool.not_false,condT])
   exact ⟨⟨_,rfl,⟨fun h=>(by cases h),fun e=>absurd ((en_iff _ _).1 (by subst e; rfl)) hen⟩⟩,hd.trans hd2⟩
 ·obtain rfl:i=l.length:=by omega
  rw [List.take_length,he',List.take_length] at ht
  exact ⟨⟨_,rfl,⟨fun _=>ht,fun _=>rfl⟩⟩,hd⟩
theorem eqIds {x y:Value} {l k:List Idd} (hx:Rd w 2 x l.length (l.map idC).flatten) (hy:Rd w 2 y k.length (k.map idC).flatten) :
  CallV π Z 103 #[x,y] w fun r w'=>(∃b,r=.bool b∧(b=true ↔ l=k))∧Drew w w':=by
 obtain ⟨a,c,rfl⟩:=hx.form
 obtain ⟨b,d,rfl⟩:=hy.form
 have hlx:=hx.2.1
 simp only [maxLen] at hlx
 refine f103.calls ?_
 unfold f103.sh
 (try simp only [ln_45_3,o_neq,cond_bne])
 refine ⟨fun hne=>⟨⟨_,rfl,⟨fun h=>(by cases h),fun e=>absurd (by rw [e]) hne⟩⟩,Drew.refl _⟩,fun he=>?_⟩
 have he':l.length=k.length:=by omega
 refine ⟨fun m y w'=>∃i:Nat,y=.int .i64 i∧m+i=l.length∧l.take i=k.take i∧Drew w w',⟨l.length,0,rfl,rfl,rfl,Drew.refl _⟩,?_⟩
 rintro m _ w1 ⟨i,rfl,hi,ht,hd⟩ _
 (try simp only [o_add,o_lss,cond_decide])
 refine ⟨fun hlt=>⟨fun w2 hd2=>?_⟩,fun hge=>?_⟩
 ·have hi1:i < l.length:=by omega
  have hi2:i < k.length:=by omega
  obtain ⟨b1,p,cs,hp,_,hcv,hpc⟩:=(rowR_rd (c:=idC) (fun x=>rfl) (hx.drew (hd.trans hd2)) rfl).ix el45 .i64 i hi1
  subst hcv
  obtain ⟨b2,q,cs,hq,_,hcv,hqc⟩:=(rowR_rd (c:=idC) (fun x=>rfl) (hy.drew (hd.trans hd2)) rfl).ix el45 .i64 i hi2
  subst hcv
  refine rp hp (rr_loadN ag138 (xs:=idC l[i]) rfl (fun j u hu=>by rw [add_addr]; exact hpc j u hu) (rp hq (rr_loadN ag138 (xs:=idC k[i]) rfl (fun j u hu=>by rw [add_addr]; exact hqc j u hu) ?_)))
  refine rp (fun w=>neqId l[i] k[i] w) ?_
  by_cases hen:l[i].sch=k[i].sch∧l[i].nam=k[i].nam
  ·rw [decide_eq_true hen]
   (try simp only [Bool.not_true,condF])
   rw [wr_i64 (x:=(i:Int)+1) (by omega) (by omega)]
   exact ⟨m - 1,by omega,i+1,rfl,by omega,take_more hi1 hi2 ht ((idd_iff _ _).2 hen),hd.trans hd2⟩
  ·rw [decide_eq_false hen]
   (try simp only [Bool.not_false,condT])
   exact ⟨⟨_,rfl,⟨fun h=>(by cases h),fun e=>absurd ((idd_iff _ _).1 (by subst e; rfl)) hen⟩⟩,hd.trans hd2⟩
 ·obtain rfl:i=l.length:=by omega
  rw [List.take_length,he',List.take_length] at ht
  exact ⟨⟨_,rfl,⟨fun _=>ht,fun _=>rfl⟩⟩,hd⟩
end
end Go.Proofs.YtbdfhfceffkhgaaGreatDoor


/- EqRequest, EqTxn of the document. -/
set_option linter.unusedVariables false
set_option linter.unusedSimpArgs false
namespace Go.Proofs.YtbdfhfceffkhgaaGreatDoor
open Go.Sh
open Tryz renaming prog → π
section
variable (Z:PZ) {o w:World} {R As:List HProp}
theorem eqQ (q:Rq):∀(c:Rq) {w:World} {R:List HProp},(Ent o R fun w=>RdQ w q)→(Ent o R fun w=>RdQ w c)→St o w R →
  CallV π Z 76 #[.agg q.cells.toArray,.agg c.cells.toArray] w fun r w'=>(∃b,r=.bool b∧(b=true ↔ q.st=c.st))∧St o w' R:=by
 induction q using Rq.ind with | h q ih=>?_
 intro c w R hx hy h
 refine f76.calls ?_
 unfold f76.sh
 refine r_box _ _ h fun g1 w1 hS=>?_
 refine r_box _ _ hS fun g2 w2 hS=>?_
 have hS:St o w2 (blk g2 48 c.cells::blk g1 48 q.cells::R):=hS
 have hx':Ent o (blk g2 48 c.cells::blk g1 48 q.cells::R) fun w=>RdQ w q:=fun w hw=>hx w hw.drop.drop
 have hy':Ent o (blk g2 48 c.cells::blk g1 48 q.cells::R) fun w=>RdQ w c:=fun w hw=>hy w hw.drop.drop
 obtain ⟨a1,c1,e1⟩:=(hx' w2 hS).row.form
 obtain ⟨a2,c2,e2⟩:=(hy' w2 hS).row.form
 have hle:=(hx' w2 hS).row.2.1
 simp only [maxLen] at hle
 have bad:∀{w':World},¬ (q.f=c.f∧q.ops.map Rq.st=c.ops.map Rq.st)→St o w' (blk g2 48 c.cells::blk g1 48 q.cells::R)→((∃b,Value.bool false=.bool b∧(b=true ↔ q.st=c.st))∧St o w' R):=
  fun hne hS=>⟨⟨_,rfl,⟨fun h=>(by cases h),fun e=>absurd ((st_iff _ _).1 e) hne⟩⟩,hS.drop.drop⟩
 (try simp only [fa_48_1,Nat.zero_add,fa_48_4,fa_48_5,fa_48_6,fa_48_7,fa_48_8,fa_48_3,fa_48_9,fa_48_10,fa_48_10p,fa_48_2,fa_48_0,Nat.add_zero])
 refine r_load one40 (hS.at m1 0 rfl) (r_load one40 (hS.at m0 0 rfl) ?_)
 refine r1 (run_neq_int _ _ _ _ _ _ _ _) ?_
 by_cases hk:q.f.kd=c.f.kd
 case neg=>
  rw [show (q.f.kd != c.f.kd)=true by simp [hk]]
  (try simp only [o_pickT,condT,guardW_tf])
  exact bad (fun e=>hk (by rw [e.1])) hS
 rw [show (q.f.kd != c.f.kd)=false by simp [hk]]
 (try simp only [o_pickF,guardW_ff])
 refine r_load one9 (hS.at m1 1 rfl) (r_load one9 (hS.at m0 1 rfl) ?_)
 refine r1 (run_neq_strS _ _ _ _ _ _) ?_
 by_cases hp:q.f.path=c.f.path
 case neg=>
  rw [decide_eq_false hp]
  (try simp only [Bool.not_false,o_pickT,condT,guardW_tf])
  exact bad (fun e=>hp (by rw [e.1])) hS
 rw [decide_eq_true hp]
 (try simp only [Bool.not_true,o_pickF,guardW_ff])
 refine r_load one21 (hS.at m1 4 rfl) (r_load one21 (hS.at m0 4 rfl) ?_)
 refine r1 (run_neq_int _ _ _ _ _ _ _ _) ?_
 by_cases hv:q.f.ver=c.f.ver
 case neg=>
  rw [show (q.f.ver != c.f.ver)=true by simp [hv]]
  (try simp only [o_pickT,condT,guardW_tf])
  exact bad (fun e=>hv (by rw [e.1])) hS
 rw [show (q.f.ver != c.f.ver)=false by simp [hv]]
 (try simp only [o_pickF,guardW_ff])
 refine r_load one4 (hS.at m1 5 rfl) (r_load one4 (hS.at m0 5 rfl) ?_)
 refine r1 (run_neq_boolV bo4 _ _ _ _ _) ?_
 by_cases he:q.f.eph=c.f.eph
 case neg=>
  rw [show (q.f.eph != c.f.eph)=true by simp [he]]
  (try simp only [o_pickT,condT,guardW_tf])
  exact bad (fun e=>he (by rw [e.1])) hS
 rw [show (q.f.eph != c.f.eph)=false by simp [he]]
 (try simp only [o_pickF,guardW_ff])
 refine r_load one4 (hS.at m1 6 rfl) (r_load one4 (hS.at m0 6 rfl) ?_)
 refine r1 (run_neq_boolV bo4 _ _ _ _ _) ?_
 by_cases hq:q.f.seq=c.f.seq
 case neg=>
  rw [show (q.f.seq != c.f.seq)=true by simp [hq]]
  (try simp only [o_pickT,condT,guardW_tf])
  exact bad (fun e=>hq (by rw [e.1])) hS
 rw [show (q.f.seq != c.f.seq)=false by simp [hq]]
 (try simp only [o_pickF,guardW_ff])
 refine r_load one2 (hS.at m1 7 rfl) (r_load one2 (hS.at m0 7 rfl) ?_)
 refine r1 (run_neq_int _ _ _ _ _ _ _ _) ?_
 by_cases hs:q.f.ses=c.f.ses
 case neg=>
  rw [show (q.f.ses != c.f.ses)=true by simp [hs]]
  (try simp only [o_pickT,condT,guardW_tf])
  exact bad (fun e=>hs (by rw [e.1])) hS
 rw [show (q.f.ses != c.f.ses)=false by simp [hs]]
 (try simp only [o_pickF,guardW_ff])
 refine r_load one21 (hS.at m1 8 rfl) (r_load one21 (hS.at m0 8 rfl) ?_)
 refine r1 (run_neq_int _ _ _ _ _ _ _ _) ?_
 by_cases ht:q.f.tmo=c.f.tmo
 case neg=>
  rw [show (q.f.tmo != c.f.tmo)=true by simp [ht]]
  (try simp only [condT])
  exact bad (fun e=>ht (by rw [e.1])) hS
 rw [show (q.f.tmo != c.f.tmo)=false by simp [ht]]
 (try simp only [condF])
 refine r_load one43 (hS.at m1 2 rfl) (r_load one43 (hS.at m0 2 rfl) ?_)
 refine (eqBytes Z (hx' _ hS).flat.data (hy' _ hS).flat.data).mono fun r w3 ⟨hr,hd⟩=>?_
 subst hr
 have hS:=hS.drew hd
 by_cases hdd:q.f.data=c.f.data
 case neg=>
  rw [decide_eq_false hdd]
  (try simp only [o_not,Bool.not_false,o_pickT,condT,guardW_tf])
  exact bad (fun e=>hdd (by rw [e.1])) hS
 rw [decide_eq_true hdd]
 (try simp only [o_not,Bool.not_true,o_pickF,guardW_ff])
 refine r_load one44 (hS.at m1 3 rfl) (r_load one44 (hS.at m0 3 rfl) ?_)
 refine (eqAcl Z (hx' _ hS).flat.acl (hy' _ hS).flat.acl).mono fun r w4 ⟨⟨ba,hr,hba⟩,hd⟩=>?_
 subst hr
 have hS:=hS.drew hd
 cases ba with
 | false=>
  (try simp only [o_not,Bool.not_false,o_pickT,condT,guardW_tf])
  exact bad (fun e=>(by have:=hba.2 (by rw [e.1]); cases this)) hS
 | true=>
 have hac:=hba.1 rfl
 (try simp only [o_not,Bool.not_true,o_pickF,guardW_ff])
 refine r_load one45 (hS.at m1 9 rfl) (r_load one45 (hS.at m0 9 rfl) ?_)
 refine (eqIds Z (hx' _ hS).flat.who (hy' _ hS).flat.who).mono fun r w5 ⟨⟨bw,hr,hbw⟩,hd⟩=>?_
 subst hr
 have hS:=hS.drew hd
 cases bw with
 | false=>
  (try simp only [o_not,Bool.not_false,o_pickT,condT,guardW_tf])
  exact bad (fun e=>(by have:=hbw.2 (by rw [e.1]); cases this)) hS
 | true=>
 have hwh:=hbw.1 rfl
 have hff:q.f=c.f:=by
  generalize q.f=x at *
  generalize c.f=y at *
  cases x; cases y
  simp_all
 (try simp only [o_not,Bool.not_true,o_pickF,guardW_ff])
 refine r_load one46 (hS.at m1 10 (congrArg some e1)) ?_
 (try simp only [ln_46_3])
 refine r_load one46 (hS.at m0 10 (congrArg some e2)) ?_
 (try simp only [ln_46_3,o_neq,cond_bne])
 refine ⟨fun hne=>bad (fun e=>hne (by have:=congrArg List.length e.2; simp at this; omega)) hS,fun hle2=>?_⟩
 have hll:q.ops.length=c.ops.length:=by omega
 refine ⟨fun m y w'=>∃i:Nat,y=.int .i64 i∧m+i=q.ops.length∧(q.ops.map Rq.st).take i=(c.ops.map Rq.st).take i∧St o w' (blk g2 48 c.cells::blk g1 48 q.cells::R),⟨q.ops.length,0,rfl,rfl,rfl,hS⟩,?_⟩
 clear hS
 rintro m _ w6 ⟨i,rfl,hi,ht2,hS⟩ _
 refine r_load one46 (hS.at m1 10 (congrArg some e1)) ?_
 (try simp only [o_add,ln_46_3,o_lss,cond_decide])
 refine ⟨fun hlt=>⟨fun w7 hd=>?_⟩,fun hge=>?_⟩
 ·have hi1:i < q.ops.length:=by omega
  have hi2:i < c.ops.length:=by omega
  have hS:=hS.drew hd
  have hr1:=(hx' w7 hS).rowR
  have hr2:=(hy' w7 hS).rowR
  rw [e1] at hr1
  rw [e2] at hr2
  obtain ⟨b1,p1,cs,hp1,_,hcv,hpc1⟩:=hr1.ix el46 .i64 i hi1
  subst hcv
  obtain ⟨b2,p2,cs,hp2,_,hcv,hpc2⟩:=hr2.ix el46 .i64 i hi2
  subst hcv
  refine rr_load one46 (hS.at m1 10 (congrArg some e1)) (rp hp1 (rr_loadN ag48 (xs:=q.ops[i].cells) rfl (fun j u hu=>by rw [add_addr]; exact hpc1 j u hu) ?_))
  skip
  refine rr_load one46 (hS.at m0 10 (congrArg some e2)) (rp hp2 (rr_loadN ag48 (xs:=c.ops[i].cells) rfl (fun j u hu=>by rw [add_addr]; exact hpc2 j u hu) ?_))
  refine (ih q.ops[i] (List.getElem_mem hi1) c.ops[i] (fun w hw=>(hx' w hw).all _ (List.getElem_mem hi1)) (fun w hw=>(hy' w hw).all _ (List.getElem_mem hi2)) hS).mono fun r w8 ⟨⟨b,hr,hb⟩,hS⟩=>?_
  subst hr
  refine rs_load one46 (hS.at m0 10 (congrArg some e2)) (rs_load one46 (hS.at m1 10 (congrArg some e1)) ?_)
  cases b with
  | false=>
   (try simp only [o_notp,Bool.not_false,condT])
   refine bad (fun e=>?_) hS
   have h1:=congrArg (fun l=>l[i]?) e.2
   simp only [List.getElem?_map,List.getElem?_eq_getElem hi1,List.getElem?_eq_getElem hi2,Option.map_some,Option.some.injEq] at h1
   have:=hb.2 h1
   cases this
  | true=>
   (try simp only [o_notp,Bool.not_true,condF])
   rw [wr_i64 (x:=(i:Int)+1) (by omega) (by omega)]
   refine ⟨m - 1,by omega,i+1,rfl,by omega,take_more (by simpa using hi1) (by simpa using hi2) ht2 (by simpa using hb.1 rfl),hS⟩
 ·obtain rfl:i=q.ops.length:=by omega
  have t1:=List.take_length (l:=q.ops.map Rq.st)
  have t2:=List.take_length (l:=c.ops.map Rq.st)
  rw [List.length_map] at t1 t2
  rw [t1,hll,t2] at ht2
  exact ⟨⟨_,rfl,⟨fun _=>(st_iff _ _).2 ⟨hff,ht2⟩,fun _=>rfl⟩⟩,hS.drop.drop⟩
end

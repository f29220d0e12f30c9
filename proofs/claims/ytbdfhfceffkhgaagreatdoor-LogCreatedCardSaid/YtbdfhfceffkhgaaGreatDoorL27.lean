
/- LogCreated: the walk. -/
import Derived.Test.YtbdfhfceffkhgaaGreatDoorL24
import Derived.Test.YtbdfhfceffkhgaaGreatDoorL26
set_option linter.unusedVariables false
set_option linter.unusedSimpArgs false
namespace Go.Proofs.YtbdfhfceffkhgaaGreatDoor
open Go.Sh
open Tryz renaming prog → π
theorem tk_of2 {a b:List Tx} (h1:a.map Tx.hd=b.map Tx.hd) (h2:a.map (fun t=>t.q.st)=b.map (fun t=>t.q.st)):a.map tk=b.map tk:=by
 induction a generalizing b with
 | nil=>cases b with
  | nil=>rfl
  | cons y b=>simp at h1
 | cons x a ih=>cases b with
  | nil=>simp at h1
  | cons y b=>
   simp only [List.map_cons,List.cons.injEq] at h1 h2 ⊢
   exact ⟨by unfold tk; rw [h1.1,h2.1],ih h1.2 h2.2⟩
theorem own_caps2 {o w:World} {R:List HProp} {e sz n:Nat} {v:Value} {xs:List Value} (h:St o w (own e sz v n xs::R)):∃a c,v=.slice a n c∧n≤c:=by
 obtain ⟨_,⟨rfl,rfl,_⟩ | ⟨g,cap,rest,rfl,h1,_⟩⟩:=h.own_open
 ·exact ⟨_,_,rfl,Nat.le_refl _⟩
 ·exact ⟨_,_,rfl,h1⟩
theorem tk_wfT2 {a b:List Tx} (h:a.map tk=b.map tk) (hb:WfT b):WfT a:=by
 have hl:a.length=b.length:=by have:=congrArg List.length h; simpa using this
 refine ⟨by rw [hl]; exact hb.1,fun t ht=>⟨?_,tk_wf h (fun t ht=>(hb.2 t ht).2) t ht⟩⟩
 have hm:tk t ∈ b.map tk:=by rw [← h]; exact List.mem_map_of_mem ht
 obtain ⟨y,hy,e⟩:=List.mem_map.1 hm
 rw [← (tk_parts e).1]; exact (hb.2 y hy).1
section
variable (Z:PZ) {o w:World} {R As:List HProp}
theorem logCreated {v2 v3:Value} {ac:Option Addr} {cc:Nat} {ts:List Tx} (size at_:Int) (hsz : -9223372036854775808≤size∧size≤9223372036854775807) (hnc:ts.length≤cc) (hw:WfT ts) (hv:RdT w (.slice ac ts.length cc) ts) (h2:TxsV w v2) (h3:IntsV w v3) (hN:Names w) (hB:Bits w) :
  CallV π Z 6 #[.agg (cuC (.slice ac ts.length cc) v2 size at_ v3).toArray] w fun r w'=>r=.bool true∧St w w' [old w]:=by
 obtain ⟨a2,c2,ts2,rfl,_,_,hx2⟩:=h2
 obtain ⟨ks,hkb,_,hks⟩:=h3
 obtain ⟨ka,kc,rfl⟩:=hks.form
 have hv:∀(As:List HProp),old w ∈ As→Ent w As fun w=>RdT w (.slice ac ts.length cc) ts:=fun As hm w' hS=>hv.of_old hS hm
 refine f6.calls ?_
 unfold f6.sh
 obtain ⟨P,hP⟩:∃P,P=cuC (.slice ac ts.length cc) (.slice a2 ts2.length c2) size at_ (.slice ka ks.length kc):=⟨_,rfl⟩
 have hones:ones P:=by rw [hP]; intro x hx; simp only [cuC,List.mem_cons,List.not_mem_nil,or_false] at hx; rcases hx with rfl | rfl | rfl | rfl | rfl <;> rfl
 have p0:P[0]? = some (.slice ac ts.length cc):=by rw [hP]; rfl
 have p2:P[2]? = some (.int .i64 size):=by rw [hP]; rfl
 have p3:P[3]? = some (.int .i64 at_):=by rw [hP]; rfl
 have p4:P[4]? = some (.slice ka ks.length kc):=by rw [hP]; rfl
 refine r_box _ _ (St.start w) fun gx w1 hS0=>?_
 have hS:St w w1 (blk gx 25 P::[old w]):=by rw [hP]; exact hS0
 clear hP hS0
 refine (works10 Z hN hB m1 hS).mono fun r w2 ⟨hr,hS⟩=>?_
 subst hr
 (try simp only [fa_25_0,Nat.add_zero,fa_25_2,Nat.zero_add,o_pickT,guardW_true,fa_25_0p,still_tt,o_pickTp,guardV_true,fa_25_4,fa_25_2p,fa_25_3])
 refine r_load one22 (hS.at m0 0 p0) ?_
 refine (largeTs Z (hv _ m1) hS).mono fun r w3 ⟨⟨b,hr⟩,hS⟩=>?_
 subst hr
 cases b with
 | true=>
  (try simp only [o_pickT,condT,guardW_tf])
  exact ⟨by first | rfl | trivial,hS.drop⟩
 | false=>
 (try simp only [o_pickF,guardW_ff])
 refine r_load one22 (hS.at m0 0 p0) ?_
 by_cases c1:200 < (ts.length:Int)
 ·(try simp only [ln_22_3,o_gtr,c1,decide_true,o_pickT,condT,guardW_tf])
  exact ⟨by first | rfl | trivial,hS.drop⟩
 (try simp only [ln_22_3,o_gtr,c1,decide_false,o_pickF,guardW_ff])
 refine r_load one3 (hS.at m0 2 p2) ?_
 by_cases c2:size < 1
 ·(try simp only [o_lss,c2,decide_true,o_pickT,condT,guardW_tf])
  exact ⟨by first | rfl | trivial,hS.drop⟩
 (try simp only [o_lss,c2,decide_false,o_pickF,guardW_ff])
 refine r_load one3 (hS.at m0 2 p2) ?_
 by_cases c3:64 < size
 ·(try simp only [o_gtr,c3,decide_true,condT])
  exact ⟨by first | rfl | trivial,hS.drop⟩
 (try simp only [o_gtr,c3,decide_false,condF])
 refine r_load one22 (hS.at m0 0 p0) ?_
 refine (rightC Z hw (hv _ m1) hS).mono fun r w4 ⟨⟨b,hr,hb⟩,hS⟩=>?_
 subst hr
 cases b with
 | false=>
  (try simp only [o_not,Bool.not_false,o_pickT,condT,guardW_tf])
  exact ⟨by first | rfl | trivial,hS.drop⟩
 | true=>
 obtain ⟨hck,hri⟩:=hb rfl
 (try simp only [o_not,Bool.not_true,o_pickF,guardW_ff])
 refine r_load one22 (hS.at m0 0 p0) ?_
 (try simp only [ln_22_3])
 refine r_load one3 (hS.at m0 2 p2) ?_
 obtain ⟨sz,rfl⟩:∃sz:Nat,size=sz:=⟨size.toNat,by omega⟩
 (try simp only [o_mul,o_gtr,cond_decide])
 rw [wr_i64 (x:=60 * (sz:Int)) (by omega) (by omega)]
 by_cases c4:60 * (sz:Int) < (ts.length:Int)
 ·skip
  exact ⟨fun _=>⟨by first | rfl | trivial,hS.drop⟩,fun h=>absurd c4 h⟩
 skip
 refine ⟨fun h=>absurd h c4,fun _=>?_⟩
 refine (dkNew Z 16777216 hS).mono fun r w5 hr=>?_
 rcases hr with ⟨hbad,_⟩ | ⟨n,hn,hn2,g,rfl,hS⟩
 ·omega
 obtain rfl:n=16777216:=by omega
 (try simp only [o_ext2_1,o_ext2_0])
 refine r_load one3 (hS.at m1 3 p3) ?_
 refine (dArm Z at_ hS).mono fun r w6 ⟨hr,hS⟩=>?_
 subst hr
 have hk0:((Dk.new 16777216).arm at_).ok:=Dk.arm_ok (Dk.new_ok hn2) at_
 have ha0:((Dk.new 16777216).arm at_)={ Dk.new 16777216 with armed:=decide (0≤at_),more:=at_ }:=rfl
 have hmade:=created (size:=sz) (ts:=ts) (d:=(Dk.new 16777216).arm at_) (by omega) (by omega) hw hck hri (by omega) (by omega) hk0 (by rw [ha0]; rfl) (by rw [ha0]; rfl) (by rw [ha0]; rfl)
 have hf0:((Dk.new 16777216).arm at_).fs=[]:=by rw [ha0]; rfl
 generalize (Dk.new 16777216).arm at_=d0 at *
 clear ha0
 obtain ⟨hF,hE,hM⟩:=hmade
 skip
 refine ⟨fun w7 hd=>?_⟩
 have hS:=hS.drew hd
 skip
 refine rr_load one3 (hS.at m1 2 p2) ?_
 skip
 refine rr_load one22 (hS.at m1 0 p0) ?_
 refine (copyTs Z hw (hv _ m2) hS).mono fun r w8 ⟨ts',hh1,hh2,hS⟩=>?_
 have htk:ts'.map tk=ts.map tk:=tk_of2 hh1 hh2
 have hwf':WfT ts':=tk_wfT2 htk hw
 have hlen:ts'.length=ts.length:=by have:=congrArg List.length htk; simpa using this
 obtain ⟨a',c',rfl,hcap⟩:=own_caps2 hS
 refine rs_load one3 (hS.at m3 2 p2) ?_
 have hE':crE d0 3 sz ts'=0:=(crE_tk htk d0 3 sz).trans hE
 have hC':crt 3 sz (ts'.length+1) 0 0 ts' d0=crt 3 sz (ts.length+1) 0 0 ts d0:=by rw [hlen]; exact crt_tk _ _ _ _ _ _ htk
 refine (lCreate Z (g:=g) (d:=d0) (ts:=ts') 3 sz (by omega) hsz hwf' hcap (fun f hf=>by rw [hf0] at hf; cases hf) hN hB m3 (R:=[own 50 16 (.slice a' ts'.length c') ts'.length (ts'.map Tx.cells).flatten,OwT ts',blk gx 25 P,old w]) (fun w hw=>OwT.rd hw) (by (refine Sh.St.sub ?_ (hS); repeat (first | with_reducible (first | exact sub_refl | exact sub_nil | refine sP0 ?_ | refine sP1 ?_ | refine sP2 ?_ | refine sP3 ?_ | refine sP4 ?_ | refine sP5 ?_ | refine sP6 ?_ | refine sP7 ?_ | refine sP8 ?_ | refine sP9 ?_ | refine sP10 ?_ | refine sP11 ?_ | refine sP12 ?_ | refine sP13 ?_ | refine sP14 ?_ | refine sP15 ?_) | exact sub_refl | refine sP0 ?_ | refine sP1 ?_ | refine sP2 ?_ | refine sP3 ?_ | refine sP4 ?_ | refine sP5 ?_ | refine sP6 ?_ | refine sP7 ?_ | refine sP8 ?_ | refine sP9 ?_ | refine sP10 ?_ | refine sP11 ?_ | refine sP12 ?_ | refine sP13 ?_ | refine sP14 ?_ | refine sP15 ?_ | refine sub_drop ?_)))).mono fun r w9 hr=>?_
 have hgot:∃(p:Value) (e:Int) (d1:Dk),r=.tuple #[p,.int .i64 e]∧St w w9 (DiskM g d1::[blk gx 25 P,old w])∧((e=0∧After 3 ts true d1)∨(e=23∧(HD d1 3 []∨After 3 ts false d1))):=by
  unfold MadeR at hM
  rcases hr with ⟨h1,_⟩ | ⟨_,h1,rfl,hS⟩ | ⟨_,h1,gl,us,rfl,_,hS⟩
  ·exact absurd hE' h1
  ·rw [Int.toNat_natCast] at h1 hS
   rw [hC'] at h1 hS
   rw [Int.toNat_natCast,hC']
   rcases hM with ⟨h0,_⟩ | ⟨h0,_,_,_,_,h5⟩
   ·exact absurd h0 h1
   ·rw [h0]
    exact ⟨_,23,_,rfl,by (refine Sh.St.sub ?_ (hS); repeat (first | with_reducible (first | exact sub_refl | exact sub_nil | refine sP0 ?_ | refine sP1 ?_ | refine sP2 ?_ | refine sP3 ?_ | refine sP4 ?_ | refine sP5 ?_ | refine sP6 ?_ | refine sP7 ?_ | refine sP8 ?_ | refine sP9 ?_ | refine sP10 ?_ | refine sP11 ?_ | refine sP12 ?_ | refine sP13 ?_ | refine sP14 ?_ | refine sP15 ?_) | exact sub_refl | refine sP0 ?_ | refine sP1 ?_ | refine sP2 ?_ | refine sP3 ?_ | refine sP4 ?_ | refine sP5 ?_ | refine sP6 ?_ | refine sP7 ?_ | refine sP8 ?_ | refine sP9 ?_ | refine sP10 ?_ | refine sP11 ?_ | refine sP12 ?_ | refine sP13 ?_ | refine sP14 ?_ | refine sP15 ?_ | refine sub_drop ?_)),.inr ⟨rfl,h5⟩⟩
  ·rw [Int.toNat_natCast] at h1 hS
   rw [hC'] at h1 hS
   rcases hM with ⟨h0,_,_,_,_,h5⟩ | ⟨h0,_⟩
   ·exact ⟨_,0,_,rfl,by (refine Sh.St.sub ?_ (hS); repeat (first | with_reducible (first | exact sub_refl | exact sub_nil | refine sP0 ?_ | refine sP1 ?_ | refine sP2 ?_ | refine sP3 ?_ | refine sP4 ?_ | refine sP5 ?_ | refine sP6 ?_ | refine sP7 ?_ | refine sP8 ?_ | refine sP9 ?_ | refine sP10 ?_ | refine sP11 ?_ | refine sP12 ?_ | refine sP13 ?_ | refine sP14 ?_ | refine sP15 ?_) | exact sub_refl | refine sP0 ?_ | refine sP1 ?_ | refine sP2 ?_ | refine sP3 ?_ | refine sP4 ?_ | refine sP5 ?_ | refine sP6 ?_ | refine sP7 ?_ | refine sP8 ?_ | refine sP9 ?_ | refine sP10 ?_ | refine sP11 ?_ | refine sP12 ?_ | refine sP13 ?_ | refine sP14 ?_ | refine sP15 ?_ | refine sub_drop ?_)),.inl ⟨rfl,h5⟩⟩
   ·rw [h0] at h1; cases h1
 clear hr hE' hC' hM hE hf0 hk0
 obtain ⟨p,e,d1,rfl,hS,hA⟩:=hgot
 have hS9:=hS
 (try simp only [o_ext2_1p,o_eql,o_neq,o_ext2_0p])
 refine (dOffM Z hS).mono fun r w10 ⟨hr,hS⟩=>?_
 refine r_load one23 (hS.at m1 4 p4) ?_
 refine (copyInts Z hkb (fun w' hw'=>hks.of_old hw' m2) hS).mono fun r w11 hS=>?_
 refine (dStart Z (ks:=ks) (fun w hw=>hw.own_rd m0) hS.swap).mono fun r w12 hS=>?_
 have hS:St w w12 (DiskM g (d1.off.start ks)::[blk gx 25 P,old w]):=by (refine Sh.St.sub ?_ (hS); repeat (first | with_reducible (first | exact sub_refl | exact sub_nil | refine sP0 ?_ | refine sP1 ?_ | refine sP2 ?_ | refine sP3 ?_ | refine sP4 ?_ | refine sP5 ?_ | refine sP6 ?_ | refine sP7 ?_ | refine sP8 ?_ | refine sP9 ?_ | refine sP10 ?_ | refine sP11 ?_ | refine sP12 ?_ | refine sP13 ?_ | refine sP14 ?_ | refine sP15 ?_) | exact sub_refl | refine sP0 ?_ | refine sP1 ?_ | refine sP2 ?_ | refine sP3 ?_ | refine sP4 ?_ | refine sP5 ?_ | refine sP6 ?_ | refine sP7 ?_ | refine sP8 ?_ | refine sP9 ?_ | refine sP10 ?_ | refine sP11 ?_ | refine sP12 ?_ | refine sP13 ?_ | refine sP14 ?_ | refine sP15 ?_ | refine sub_drop ?_))
 refine r_load one3 (hS.at m1 2 p2) ?_
 refine r_build (cells:=(zx 0 0).toArray) (by kernel_rfl) ?_
 have hk1:d1.off.ok:=by
  obtain ⟨_,_,hk,_⟩:=DiskM.open hS9
  exact Dk.off_ok hk
 have hA':(e=23∧HD d1.off 3 [])∨(∃full,(e=0∧full=true∨e=23)∧After 3 ts full d1.off):=by
  rcases hA with ⟨h1,h2⟩ | ⟨h1,h2 | h2⟩
  ·exact .inr ⟨true,.inl ⟨h1,rfl⟩,h2⟩
  ·exact .inl ⟨h1,h2⟩
  ·exact .inr ⟨false,.inr h1,h2⟩
 clear hA
 rcases hA' with ⟨rfl,hH⟩ | ⟨full,he,hH⟩
 ·obtain ⟨L',hL,hH',hon,_⟩:=hH.start hk1 (by omega) (by simp) ks rfl
  obtain rfl:L'=[]:=List.eq_nil_of_length_eq_zero (by rw [hL.1]; rfl)
  have hfs:(d1.off.start ks).fs=[]:=by
   rcases hf:(d1.off.start ks).fs with _ | ⟨f,fs⟩
   ·rfl
   ·obtain ⟨i,hi,_⟩:=(hH' f).1 (by rw [hf]; exact List.mem_cons_self)
    simp at hi
  have e0:opE (d1.off.start ks) 3 sz 0=20:=by
   unfold opE
   rw [if_neg (by omega),hon,if_neg (by decide),if_pos rfl]
  refine (lOpen Z (g:=g) (d:=d1.off.start ks) 3 sz 0 0 0 (by omega) (by omega) (by omega) (by
   rw [hfs]
   simp [segNos,sortI]) (fun i hi=>absurd hi (Nat.not_lt_zero _)) (fun f hf=>by rw [hfs] at hf; cases hf) hN hB m1 hS).mono fun r w13 hr=>?_
  rcases hr with ⟨_,rfl,hS⟩ | ⟨h0,_⟩
  ·rw [e0]
   (try simp only [Int.reduceBNe,beq_self_eq_true,o_pickT,guardW_true,o_ext2_1,o_neq,condT,guardW_tf,o_eql,o_ext2_0])
   refine (dNames Z hS).mono fun r w14 hS=>?_
   rw [hfs] at hS
   obtain ⟨a9,c9,rfl,_⟩:=own_caps2 hS
   (try simp only [ln_66_3,o_eql])
   exact ⟨by first | rfl | trivial,hS.drop.drop.drop⟩
  ·rw [e0] at h0; cases h0
 ·obtain ⟨init,last,tail,s,rest,ht,hH',hl,hne,hn100,hts,hF',hfull⟩:=hH.back hk1 rfl rfl hF ks
  refine (lOpenHD Z (g:=g) (size:=sz) (by omega) (by omega) hl hH' ht hF' hne hn100 hN hB m1 hS).mono fun r w13 hr=>?_
  obtain ⟨gl,us,d2,s',rfl,hus,_,_,_,_,_,hS⟩:=hr
  have hul:us.length=init.flatten.length+last.length:=by have:=congrArg List.length hus; rw [List.length_map,List.length_map,List.length_append] at this; exact this
  have hult:us.length≤ts.length:=by rw [hul,hts,List.length_append,List.length_append]; omega
  have husk:us.map tk=(ts.take us.length).map tk:=by
   rw [hus,hul,hts,List.take_left' (by rw [List.length_append])]
  have hwus:∀t ∈ us,WfQ t.q:=tk_wf husk fun t ht=>(hw.2 t (List.mem_of_mem_take ht)).2
  rcases he with ⟨rfl,hfu⟩ | rfl
  ·(try simp only [bne_self_eq_false,Int.reduceBEq,o_pickF,guardW_ft,condF,o_ext2_1,o_neq,guardW_ff,o_ext2_0,eqlp_33])
   refine ⟨fun w14 hd=>?_⟩
   have hS:=hS.drew hd
   refine rr_load one22 (hS.at m2 0 p0) ?_
   refine rr_load one22 (hS.at m2 0 p0) ?_
   (try simp only [ln_22_3p])
   refine (lAll Z (l:=⟨3,sz,init.length+1,last.length,(lastZ 0 0 (init.flatten++last)).1,(lastZ 0 0 (init.flatten++last)).2,us⟩) hwus (show us.length * 168≤_ by omega) hS).mono fun r w15 ⟨xs,hxs,hS⟩=>?_
   have hxl:xs.length=us.length:=by have:=congrArg List.length hxs; rw [List.length_map,List.length_map] at this; exact this
   refine rs_load one22 (hS.at m4 0 p0) (rs_load one22 (hS.at m4 0 p0) ?_)
   refine (beginsC Z (l:=xs) (k:=ts) (ts.length:Int) (fun w hw=>OwT.rd hw) (hv _ m5) (by omega) (by omega) (by rw [hxl]; exact hxs.trans husk) (fun a n c h=>by injection h with _ h1 h2; omega) hS).mono fun r w16 ⟨hr,hS⟩=>?_
   subst hr
   refine rs_load one22 (hS.at m4 0 p0) ?_
   (try simp only [o_pickTp,guardV_true,o_neqp,bne_self_eq_false,o_pickFp,guardV_ff,still_ff,guardW_ff])
   refine rr_load one22 (hS.at m4 0 p0) ?_
   (try simp only [ln_22_3p])
   refine (lAll Z (l:=⟨3,sz,init.length+1,last.length,(lastZ 0 0 (init.flatten++last)).1,(lastZ 0 0 (init.flatten++last)).2,us⟩) hwus (show us.length * 168≤_ by omega) (hS.pick 2)).mono fun r w17 ⟨ys,hys,hS⟩=>?_
   have hyl:ys.length=us.length:=by have:=congrArg List.length hys; rw [List.length_map,List.length_map] at this; exact this
   obtain rfl:=hfull hfu
   have hyt:((ys.length:Int) == (ts.length:Int))=true:=by
    rw [hyl,hul,hts,List.append_nil,List.length_append]; simp
   obtain ⟨a9,c9,rfl,_⟩:=own_caps2 hS
   refine rs_load one22 (hS.at m6 0 p0) (rs_load one22 (hS.at m6 0 p0) ?_)
   (try simp only [ln_22_3p,o_eqlp,hyt])
   have hS:St w w17 [old w]:=by (refine Sh.St.sub ?_ (hS); repeat (first | with_reducible (first | exact sub_refl | exact sub_nil | refine sP0 ?_ | refine sP1 ?_ | refine sP2 ?_ | refine sP3 ?_ | refine sP4 ?_ | refine sP5 ?_ | refine sP6 ?_ | refine sP7 ?_ | refine sP8 ?_ | refine sP9 ?_ | refine sP10 ?_ | refine sP11 ?_ | refine sP12 ?_ | refine sP13 ?_ | refine sP14 ?_ | refine sP15 ?_) | exact sub_refl | refine sP0 ?_ | refine sP1 ?_ | refine sP2 ?_ | refine sP3 ?_ | refine sP4 ?_ | refine sP5 ?_ | refine sP6 ?_ | refine sP7 ?_ | refine sP8 ?_ | refine sP9 ?_ | refine sP10 ?_ | refine sP11 ?_ | refine sP12 ?_ | refine sP13 ?_ | refine sP14 ?_ | refine sP15 ?_ | refine sub_drop ?_))
   exact ⟨by first | rfl | trivial,hS⟩
  ·(try simp only [Int.reduceBNe,beq_self_eq_true,o_pickT,guardW_true,o_ext2_1,o_neq,bne_self_eq_false,o_pickF,guardW_ff,o_eql,Int.reduceBEq,condF,o_ext2_0,eqlp_33])
   refine ⟨fun w14 hd=>?_⟩
   have hS:=hS.drew hd
   refine rr_load one22 (hS.at m2 0 p0) ?_
   refine rr_load one22 (hS.at m2 0 p0) ?_
   (try simp only [ln_22_3p])
   refine (lAll Z (l:=⟨3,sz,init.length+1,last.length,(lastZ 0 0 (init.flatten++last)).1,(lastZ 0 0 (init.flatten++last)).2,us⟩) hwus (show us.length * 168≤_ by omega) hS).mono fun r w15 ⟨xs,hxs,hS⟩=>?_
   have hxl:xs.length=us.length:=by have:=congrArg List.length hxs; rw [List.length_map,List.length_map] at this; exact this
   refine rs_load one22 (hS.at m4 0 p0) (rs_load one22 (hS.at m4 0 p0) ?_)
   refine (beginsC Z (l:=xs) (k:=ts) (ts.length:Int) (fun w hw=>OwT.rd hw) (hv _ m5) (by omega) (by omega) (by rw [hxl]; exact hxs.trans husk) (fun a n c h=>by injection h with _ h1 h2; omega) hS).mono fun r w16 ⟨hr,hS⟩=>?_
   subst hr
   refine rs_load one22 (hS.at m4 0 p0) ?_
   (try simp only [o_pickTp,guardV_true,o_neqp,Int.reduceBNe,guardV_tf,guardW_tf,still_tf])
   refine rs_load one22 (hS.at m4 0 p0) ?_
   have hS:St w w16 [old w]:=by (refine Sh.St.sub ?_ (hS); repeat (first | with_reducible (first | exact sub_refl | exact sub_nil | refine sP0 ?_ | refine sP1 ?_ | refine sP2 ?_ | refine sP3 ?_ | refine sP4 ?_ | refine sP5 ?_ | refine sP6 ?_ | refine sP7 ?_ | refine sP8 ?_ | refine sP9 ?_ | refine sP10 ?_ | refine sP11 ?_ | refine sP12 ?_ | refine sP13 ?_ | refine sP14 ?_ | refine sP15 ?_) | exact sub_refl | refine sP0 ?_ | refine sP1 ?_ | refine sP2 ?_ | refine sP3 ?_ | refine sP4 ?_ | refine sP5 ?_ | refine sP6 ?_ | refine sP7 ?_ | refine sP8 ?_ | refine sP9 ?_ | refine sP10 ?_ | refine sP11 ?_ | refine sP12 ?_ | refine sP13 ?_ | refine sP14 ?_ | refine sP15 ?_ | refine sub_drop ?_))
   exact ⟨by first | rfl | trivial,hS⟩
end

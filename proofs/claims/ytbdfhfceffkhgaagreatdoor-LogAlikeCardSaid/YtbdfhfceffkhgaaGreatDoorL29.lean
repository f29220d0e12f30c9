
/- LogAlike: the walk. -/
import Derived.Test.YtbdfhfceffkhgaaGreatDoorL32
import Derived.Test.YtbdfhfceffkhgaaGreatDoorD13
set_option linter.unusedVariables false
set_option linter.unusedSimpArgs false
namespace Go.Proofs.YtbdfhfceffkhgaaGreatDoor
open Go.Sh
open Tryz renaming prog → π
theorem tk_ofA {a b:List Tx} (h1:a.map Tx.hd=b.map Tx.hd) (h2:a.map (fun t=>t.q.st)=b.map (fun t=>t.q.st)):a.map tk=b.map tk:=by
 induction a generalizing b with
 | nil=>cases b with
  | nil=>rfl
  | cons y b=>simp at h1
 | cons x a ih=>cases b with
  | nil=>simp at h1
  | cons y b=>
   simp only [List.map_cons,List.cons.injEq] at h1 h2 ⊢
   exact ⟨by unfold tk; rw [h1.1,h2.1],ih h1.2 h2.2⟩
theorem own_capsA {o w:World} {R:List HProp} {e sz n:Nat} {v:Value} {xs:List Value} (h:St o w (own e sz v n xs::R)):∃a c,v=.slice a n c∧n≤c:=by
 obtain ⟨_,⟨rfl,rfl,_⟩ | ⟨g,cap,rest,rfl,h1,_⟩⟩:=h.own_open
 ·exact ⟨_,_,rfl,Nat.le_refl _⟩
 ·exact ⟨_,_,rfl,h1⟩
theorem tk_wfA {a b:List Tx} (h:a.map tk=b.map tk) (hb:WfT b):WfT a:=by
 have hl:a.length=b.length:=by have:=congrArg List.length h; simpa using this
 refine ⟨by rw [hl]; exact hb.1,fun t ht=>⟨?_,tk_wf h (fun t ht=>(hb.2 t ht).2) t ht⟩⟩
 have hm:tk t ∈ b.map tk:=by rw [← h]; exact List.mem_map_of_mem ht
 obtain ⟨y,hy,e⟩:=List.mem_map.1 hm
 rw [← (tk_parts e).1]; exact (hb.2 y hy).1
theorem tk_lenA {a b:List Tx} (h:a.map tk=b.map tk):a.length=b.length:=by
 have:=congrArg List.length h
 rwa [List.length_map,List.length_map] at this
theorem okA {a b:List Tx} (h:a.map tk=b.map tk) (hb:∀t ∈ a,chkT t=true):∀t ∈ b,chkT t=true:=fun t ht=>by
 have hm:tk t ∈ a.map tk:=by rw [h]; exact List.mem_map_of_mem ht
 obtain ⟨y,hy,e⟩:=List.mem_map.1 hm
 obtain ⟨e1,e2⟩:=tk_parts e
 rw [← chkT_st e1 e2]; exact hb y hy
theorem cells_onesA {w:World} {v:Value} {ts:List Tx} (hx:RdT w v ts):ones (ts.map Tx.cells).flatten:=by
 intro u hu
 obtain ⟨l,hl,hul⟩:=List.mem_flatten.1 hu
 obtain ⟨t,ht,rfl⟩:=List.mem_map.1 hl
 exact txC_ones (hx.2 t ht).ones u hul
section
variable (Z:PZ) {o w:World} {R As:List HProp}
theorem logAlike {v3:Value} {a1 a2:Option Addr} {c1 c2:Nat} {L1 L2:List Tx} (size at_:Int) (hsz : -9223372036854775808≤size∧size≤9223372036854775807) (hnc1:L1.length≤c1) (hw1:WfT L1) (hv1:RdT w (.slice a1 L1.length c1) L1) (hnc2:L2.length≤c2) (hw2:WfT L2) (hv2:RdT w (.slice a2 L2.length c2) L2) (h3:IntsV w v3) (hN:Names w) (hB:Bits w) :
  CallV π Z 3 #[.agg (cuC (.slice a1 L1.length c1) (.slice a2 L2.length c2) size at_ v3).toArray] w fun r w'=>r=.bool true∧St w w' [old w]:=by
 obtain ⟨ks,hkb,_,hks⟩:=h3
 obtain ⟨ka,kc,rfl⟩:=hks.form
 have hv1:∀(As:List HProp),old w ∈ As→Ent w As fun w=>RdT w (.slice a1 L1.length c1) L1:=fun As hm w' hS=>hv1.of_old hS hm
 have hv2:∀(As:List HProp),old w ∈ As→Ent w As fun w=>RdT w (.slice a2 L2.length c2) L2:=fun As hm w' hS=>hv2.of_old hS hm
 refine f3.calls ?_
 unfold f3.sh
 obtain ⟨P,hP⟩:∃P,P=cuC (.slice a1 L1.length c1) (.slice a2 L2.length c2) size at_ (.slice ka ks.length kc):=⟨_,rfl⟩
 have hones:ones P:=by rw [hP]; intro x hx; simp only [cuC,List.mem_cons,List.not_mem_nil,or_false] at hx; rcases hx with rfl | rfl | rfl | rfl | rfl <;> rfl
 have p0:P[0]? = some (.slice a1 L1.length c1):=by rw [hP]; rfl
 have p1:P[1]? = some (.slice a2 L2.length c2):=by rw [hP]; rfl
 have p2:P[2]? = some (.int .i64 size):=by rw [hP]; rfl
 have p3:P[3]? = some (.int .i64 at_):=by rw [hP]; rfl
 have p4:P[4]? = some (.slice ka ks.length kc):=by rw [hP]; rfl
 refine r_box _ _ (St.start w) fun gx w1 hS0=>?_
 have hS:St w w1 (blk gx 25 P::[old w]):=by rw [hP]; exact hS0
 clear hP hS0
 refine (works10 Z hN hB m1 hS).mono fun r w2 ⟨hr,hS⟩=>?_
 subst hr
 (try simp only [fa_25_1,Nat.zero_add,fa_25_0,Nat.add_zero,fa_25_2,o_pickT,guardW_true,fa_25_2p,fa_25_0p])
 refine r_load one22 (hS.at m0 0 p0) ?_
 refine (largeTs Z (hv1 _ m1) hS).mono fun r w3 ⟨⟨b,hr⟩,hS⟩=>?_
 subst hr
 cases b with
 | true=>
  (try simp only [o_pickT,condT,guardW_tf])
  exact ⟨by first | rfl | trivial,hS.drop⟩
 | false=>
 (try simp only [o_pickF,guardW_ff])
 refine r_load one22 (hS.at m0 1 p1) ?_
 refine (largeTs Z (hv2 _ m1) hS).mono fun r w4 ⟨⟨b,hr⟩,hS⟩=>?_
 subst hr
 cases b with
 | true=>
  (try simp only [o_pickT,condT,guardW_tf])
  exact ⟨by first | rfl | trivial,hS.drop⟩
 | false=>
 have hb1:=hw1.1
 have hb2:=hw2.1
 (try simp only [o_pickF,guardW_ff])
 refine r_load one22 (hS.at m0 0 p0) ?_
 (try simp only [ln_22_3])
 refine r_load one22 (hS.at m0 1 p1) ?_
 (try simp only [ln_22_3,o_add,o_gtr])
 rw [wr_i64 (x:=(L1.length:Int)+L2.length) (by omega) (by omega)]
 by_cases d1:300 < (L1.length:Int)+L2.length
 ·(try simp only [d1,decide_true,o_pickT,condT,guardW_tf])
  exact ⟨by first | rfl | trivial,hS.drop⟩
 (try simp only [d1,decide_false,o_pickF,guardW_ff])
 refine r_load one3 (hS.at m0 2 p2) ?_
 by_cases d2:size < 1
 ·(try simp only [o_lss,d2,decide_true,o_pickT,condT,guardW_tf])
  exact ⟨by first | rfl | trivial,hS.drop⟩
 (try simp only [o_lss,d2,decide_false,o_pickF,guardW_ff])
 refine r_load one3 (hS.at m0 2 p2) ?_
 by_cases d3:64 < size
 ·(try simp only [o_gtr,d3,decide_true,condT])
  exact ⟨by first | rfl | trivial,hS.drop⟩
 (try simp only [o_gtr,d3,decide_false,condF])
 obtain ⟨sz,rfl⟩:∃sz:Nat,size=sz:=⟨size.toNat,by omega⟩
 refine r_load one22 (hS.at m0 0 p0) ?_
 refine (copyTs Z hw1 (hv1 _ m1) hS).mono fun r w5 ⟨A1,g1,g2,hS⟩=>?_
 have hA1:A1.map tk=L1.map tk:=tk_ofA g1 g2
 obtain ⟨x1,y1,rfl,_⟩:=own_capsA hS
 refine r_load one22 (hS.at m2 1 p1) ?_
 refine (copyTs Z hw2 (hv2 _ m3) hS).mono fun r w6 ⟨A2,g3,g4,hS⟩=>?_
 have hA2:A2.map tk=L2.map tk:=tk_ofA g3 g4
 obtain ⟨x2,y2,rfl,_⟩:=own_capsA hS
 have n1:=tk_lenA hA1
 have n2:=tk_lenA hA2
 have hA:(A1++A2).map tk=(L1++L2).map tk:=by rw [List.map_append,List.map_append,hA1,hA2]
 have hwA:WfT (A1++A2):=tk_wfA hA ⟨by rw [List.length_append]; omega,fun t ht=>(List.mem_append.1 ht).elim (hw1.2 t) (hw2.2 t)⟩
 have hr2:RdT w6 (.slice x2 A2.length y2) A2:=OwT.rd hS
 have hS:=hS.pick 2
 refine r_append el22 hS ((hS.own_rd m1).src Tryz.underlying22 (cells_onesA hr2)) (by omega) (by simp only [maxLen]; omega) fun va w7 hS=>?_
 have hS:St w w7 (own 50 16 va (A1++A2).length ((A1++A2).map Tx.cells).flatten::OwT (A1++A2)::blk gx 25 P::[old w]):=by
  have e1:((A1++A2).map Tx.cells).flatten=(A1.map Tx.cells).flatten++(A2.map Tx.cells).flatten:=by simp
  have e2:OwT (A1++A2)=satH ((A1.map fun t=>OwQ t.q)++(A2.map fun t=>OwQ t.q)):=by unfold OwT; rw [List.map_append]
  have h2:St w w7 (satH (A1.map fun t=>OwQ t.q)::satH (A2.map fun t=>OwQ t.q)::own 50 16 va (A1.length+A2.length) ((A1.map Tx.cells).flatten++(A2.map Tx.cells).flatten)::blk gx 25 P::[old w]):=by
   unfold OwT at hS
   (refine Sh.St.sub ?_ (hS); repeat (first | with_reducible (first | exact sub_refl | exact sub_nil | refine sP0 ?_ | refine sP1 ?_ | refine sP2 ?_ | refine sP3 ?_ | refine sP4 ?_ | refine sP5 ?_ | refine sP6 ?_ | refine sP7 ?_ | refine sP8 ?_ | refine sP9 ?_ | refine sP10 ?_ | refine sP11 ?_ | refine sP12 ?_ | refine sP13 ?_ | refine sP14 ?_ | refine sP15 ?_) | exact sub_refl | refine sP0 ?_ | refine sP1 ?_ | refine sP2 ?_ | refine sP3 ?_ | refine sP4 ?_ | refine sP5 ?_ | refine sP6 ?_ | refine sP7 ?_ | refine sP8 ?_ | refine sP9 ?_ | refine sP10 ?_ | refine sP11 ?_ | refine sP12 ?_ | refine sP13 ?_ | refine sP14 ?_ | refine sP15 ?_ | refine sub_drop ?_))
  rw [e1,e2,List.length_append]
  have h3:=h2.all_join
  exact h3.swap
 obtain ⟨xa,xc,rfl,hcapA⟩:=own_capsA hS
 refine (rightC Z hwA (fun w hw=>OwT.rd hw) hS).mono fun r w8 ⟨⟨b,hr,hb⟩,hS⟩=>?_
 subst hr
 cases b with
 | false=>
  (try simp only [o_not,Bool.not_false,o_pickT,condT,guardW_tf])
  exact ⟨by first | rfl | trivial,hS.drop.drop.drop⟩
 | true=>
 obtain ⟨hck,hri⟩:=hb rfl
 have hck:=okA hA hck
 rw [zxs_tk hA] at hri
 have hnA:=tk_lenA hA
 rw [List.length_append,List.length_append] at hnA
 have hwL:WfT (L1++L2):=⟨by rw [List.length_append]; omega,fun t ht=>(List.mem_append.1 ht).elim (hw1.2 t) (hw2.2 t)⟩
 have hF:Fit 0 0 (L1++L2):=fit_of (Int.le_refl 0) (by unfold u32r; omega) (fun t ht=>⟨hck t ht,hwL.2 t ht⟩) hri
 have hri1:rises 0 0 (zxs L1)=true:=by rw [zxs_app] at hri; exact rises_pre hri
 have hck1:∀t ∈ L1,chkT t=true:=fun t ht=>hck t (List.mem_append_left _ ht)
 have hS:St w w8 (blk gx 25 P::own 50 16 (.slice xa (A1++A2).length xc) (A1++A2).length ((A1++A2).map Tx.cells).flatten::OwT (A1++A2)::[old w]):=by (refine Sh.St.sub ?_ (hS); repeat (first | with_reducible (first | exact sub_refl | exact sub_nil | refine sP0 ?_ | refine sP1 ?_ | refine sP2 ?_ | refine sP3 ?_ | refine sP4 ?_ | refine sP5 ?_ | refine sP6 ?_ | refine sP7 ?_ | refine sP8 ?_ | refine sP9 ?_ | refine sP10 ?_ | refine sP11 ?_ | refine sP12 ?_ | refine sP13 ?_ | refine sP14 ?_ | refine sP15 ?_) | exact sub_refl | refine sP0 ?_ | refine sP1 ?_ | refine sP2 ?_ | refine sP3 ?_ | refine sP4 ?_ | refine sP5 ?_ | refine sP6 ?_ | refine sP7 ?_ | refine sP8 ?_ | refine sP9 ?_ | refine sP10 ?_ | refine sP11 ?_ | refine sP12 ?_ | refine sP13 ?_ | refine sP14 ?_ | refine sP15 ?_ | refine sub_drop ?_))
 (try simp only [o_not,Bool.not_true,o_pickF,guardW_ff,ln_22_3])
 refine r_load one3 (hS.at m0 2 p2) ?_
 (try simp only [o_mul,o_gtr,cond_decide])
 rw [wr_i64 (x:=60 * (sz:Int)) (by omega) (by omega)]
 by_cases d4:60 * (sz:Int) < ((A1++A2).length:Int)
 ·skip
  exact ⟨fun _=>⟨by first | rfl | trivial,hS.drop.drop.drop⟩,fun h=>absurd d4 h⟩
 skip
 refine ⟨fun h=>absurd h d4,fun _=>?_⟩
 rw [List.length_append] at d4
 refine (dkNew Z 16777216 hS).mono fun r w9 hr=>?_
 rcases hr with ⟨hbad,_⟩ | ⟨n,hn,hn2,ga,rfl,hS⟩
 ·omega
 obtain rfl:n=16777216:=by omega
 (try simp only [o_ext2_1,o_ext2_0])
 refine (dkNew Z 16777216 hS).mono fun r w10 hr=>?_
 rcases hr with ⟨hbad,_⟩ | ⟨n,hn,hn2,gb,rfl,hS⟩
 ·omega
 obtain rfl:n=16777216:=by omega
 (try simp only [o_ext2_1,o_ext2_0])
 refine ⟨fun w11 hd=>?_⟩
 have hS:=hS.drew hd
 refine rr_load one3 (hS.at m2 2 p2) ?_
 refine rr_load one22 (hS.at m2 0 p0) ?_
 refine (copyTs Z hw1 (hv1 _ m5) hS).mono fun r w12 ⟨B1,g5,g6,hS⟩=>?_
 have hB1:B1.map tk=L1.map tk:=tk_ofA g5 g6
 have n3:=tk_lenA hB1
 obtain ⟨z1,z2,rfl,hcapB⟩:=own_capsA hS
 refine rs_load one3 (hS.at m4 2 p2) ?_
 refine (lCreate0 Z (g:=ga) (ts:=L1) (R:=[own 50 16 (.slice z1 B1.length z2) B1.length (B1.map Tx.cells).flatten,OwT B1,DiskM gb (Dk.new 16777216),blk gx 25 P,own 50 16 (.slice xa (A1++A2).length xc) (A1++A2).length ((A1++A2).map Tx.cells).flatten,OwT (A1++A2),old w]) hB1 (by omega) (by omega) (tk_wfA hB1 hw1) hw1 hcapB hck1 hri1 (by omega) (by omega) hN hB (by simp) (fun w hw=>OwT.rd hw) (by (refine Sh.St.sub ?_ (hS); repeat (first | with_reducible (first | exact sub_refl | exact sub_nil | refine sP0 ?_ | refine sP1 ?_ | refine sP2 ?_ | refine sP3 ?_ | refine sP4 ?_ | refine sP5 ?_ | refine sP6 ?_ | refine sP7 ?_ | refine sP8 ?_ | refine sP9 ?_ | refine sP10 ?_ | refine sP11 ?_ | refine sP12 ?_ | refine sP13 ?_ | refine sP14 ?_ | refine sP15 ?_) | exact sub_refl | refine sP0 ?_ | refine sP1 ?_ | refine sP2 ?_ | refine sP3 ?_ | refine sP4 ?_ | refine sP5 ?_ | refine sP6 ?_ | refine sP7 ?_ | refine sP8 ?_ | refine sP9 ?_ | refine sP10 ?_ | refine sP11 ?_ | refine sP12 ?_ | refine sP13 ?_ | refine sP14 ?_ | refine sP15 ?_ | refine sub_drop ?_)))).mono fun r w13 ⟨gl1,us1,d1,i1,l1,hr,q1,q2,q3,q4,q5,q6,q7,q8,hS⟩=>?_
 subst hr
 have hS:St w w13 (own 50 16 (.slice xa (A1++A2).length xc) (A1++A2).length ((A1++A2).map Tx.cells).flatten::OwT (A1++A2)::LgM gl1 ga (lgS sz i1 l1 us1)::DiskM ga d1::DiskM gb (Dk.new 16777216)::blk gx 25 P::[old w]):=by (refine Sh.St.sub ?_ (hS); repeat (first | with_reducible (first | exact sub_refl | exact sub_nil | refine sP0 ?_ | refine sP1 ?_ | refine sP2 ?_ | refine sP3 ?_ | refine sP4 ?_ | refine sP5 ?_ | refine sP6 ?_ | refine sP7 ?_ | refine sP8 ?_ | refine sP9 ?_ | refine sP10 ?_ | refine sP11 ?_ | refine sP12 ?_ | refine sP13 ?_ | refine sP14 ?_ | refine sP15 ?_) | exact sub_refl | refine sP0 ?_ | refine sP1 ?_ | refine sP2 ?_ | refine sP3 ?_ | refine sP4 ?_ | refine sP5 ?_ | refine sP6 ?_ | refine sP7 ?_ | refine sP8 ?_ | refine sP9 ?_ | refine sP10 ?_ | refine sP11 ?_ | refine sP12 ?_ | refine sP13 ?_ | refine sP14 ?_ | refine sP15 ?_ | refine sub_drop ?_))
 (try simp only [o_ext2_1p,o_neq,bne_self_eq_false,o_pickF,guardW_ff,o_ext2_0p])
 refine ⟨fun w14 hd=>?_⟩
 have hS:=hS.drew hd
 refine rr_load one3 (hS.at m5 2 p2) ?_
 refine (copyTs Z hwA (fun w hw=>OwT.rd hw) hS).mono fun r w15 ⟨B2,g7,g8,hS⟩=>?_
 have hB2:B2.map tk=(L1++L2).map tk:=(tk_ofA g7 g8).trans hA
 have n4:=tk_lenA hB2
 obtain ⟨z3,z4,rfl,hcapB2⟩:=own_capsA hS
 refine rs_load one3 (hS.at m7 2 p2) ?_
 refine (lCreate0 Z (g:=gb) (ts:=L1++L2) (R:=[own 50 16 (.slice z3 B2.length z4) B2.length (B2.map Tx.cells).flatten,OwT B2,LgM gl1 ga (lgS sz i1 l1 us1),DiskM ga d1,blk gx 25 P,own 50 16 (.slice xa (A1++A2).length xc) (A1++A2).length ((A1++A2).map Tx.cells).flatten,OwT (A1++A2),old w]) hB2 (by omega) (by omega) (tk_wfA hB2 hwL) hwL hcapB2 hck hri (by rw [List.length_append]; omega) (by rw [List.length_append]; omega) hN hB (by simp) (fun w hw=>OwT.rd hw) (by (refine Sh.St.sub ?_ (hS); repeat (first | with_reducible (first | exact sub_refl | exact sub_nil | refine sP0 ?_ | refine sP1 ?_ | refine sP2 ?_ | refine sP3 ?_ | refine sP4 ?_ | refine sP5 ?_ | refine sP6 ?_ | refine sP7 ?_ | refine sP8 ?_ | refine sP9 ?_ | refine sP10 ?_ | refine sP11 ?_ | refine sP12 ?_ | refine sP13 ?_ | refine sP14 ?_ | refine sP15 ?_) | exact sub_refl | refine sP0 ?_ | refine sP1 ?_ | refine sP2 ?_ | refine sP3 ?_ | refine sP4 ?_ | refine sP5 ?_ | refine sP6 ?_ | refine sP7 ?_ | refine sP8 ?_ | refine sP9 ?_ | refine sP10 ?_ | refine sP11 ?_ | refine sP12 ?_ | refine sP13 ?_ | refine sP14 ?_ | refine sP15 ?_ | refine sub_drop ?_)))).mono fun r w16 ⟨gl2,us2,e2,i2,l2,hr,p5,p6,p7,p8,p9,p10,p11,p12,hS⟩=>?_
 subst hr
 have hS:St w w16 (LgM gl1 ga (lgS sz i1 l1 us1)::DiskM ga d1::[LgM gl2 gb (lgS sz i2 l2 us2),DiskM gb e2,own 50 16 (.slice xa (A1++A2).length xc) (A1++A2).length ((A1++A2).map Tx.cells).flatten,OwT (A1++A2),blk gx 25 P,old w]):=by (refine Sh.St.sub ?_ (hS); repeat (first | with_reducible (first | exact sub_refl | exact sub_nil | refine sP0 ?_ | refine sP1 ?_ | refine sP2 ?_ | refine sP3 ?_ | refine sP4 ?_ | refine sP5 ?_ | refine sP6 ?_ | refine sP7 ?_ | refine sP8 ?_ | refine sP9 ?_ | refine sP10 ?_ | refine sP11 ?_ | refine sP12 ?_ | refine sP13 ?_ | refine sP14 ?_ | refine sP15 ?_) | exact sub_refl | refine sP0 ?_ | refine sP1 ?_ | refine sP2 ?_ | refine sP3 ?_ | refine sP4 ?_ | refine sP5 ?_ | refine sP6 ?_ | refine sP7 ?_ | refine sP8 ?_ | refine sP9 ?_ | refine sP10 ?_ | refine sP11 ?_ | refine sP12 ?_ | refine sP13 ?_ | refine sP14 ?_ | refine sP15 ?_ | refine sub_drop ?_))
 (try simp only [o_ext2_1p,o_neq,bne_self_eq_false,o_pickF,guardW_ff,eqlp_33,o_ext2_0p,condF])
 refine ⟨fun m y w'=>∃i us init last d,y=.int .i64 (i:Nat)∧i≤L2.length∧m+i=L2.length∧Seg sz init last∧init.flatten++last=L1++L2.take i∧us.map tk=(init.flatten++last).map tk∧HD d 3 (sgL (init++[last]))∧d.ok∧d.live∧d.room=16777216 ∧
  St w w' (LgM gl1 ga (lgS sz init last us)::DiskM ga d::[LgM gl2 gb (lgS sz i2 l2 us2),DiskM gb e2,own 50 16 (.slice xa (A1++A2).length xc) (A1++A2).length ((A1++A2).map Tx.cells).flatten,OwT (A1++A2),blk gx 25 P,old w]),⟨L2.length,0,us1,i1,l1,d1,rfl,Nat.zero_le _,rfl,q2,by rw [q3]; simp,by rw [q3]; exact q1,q5,q6,q7,q8,hS⟩,?_⟩
 clear hS
 rintro m _ w17 ⟨i,us,init,last,d,rfl,hi,hm,hsg,hfl,hus,hd,hdk,hdl,hdr,hS⟩ _
 have hcnt:(init.flatten++last).length=L1.length+i:=by rw [hfl,List.length_append,List.length_take]; omega
 have hfew:init.length+1≤60:=hsg.few (by rw [hcnt]; omega) (by omega)
 have hlast:=hsg.2.1
 refine r_load one22 (hS.at m6 1 p1) ?_
 by_cases hlt:(i:Int) < (L2.length:Int)
 ·have hi1:i < L2.length:=by omega
  (try simp only [o_add,ln_22_3,o_lss,hlt,decide_true,condT])
  refine r_load one22 (hS.at m6 1 p1) ?_
  obtain ⟨b1,p,cs,hp,_,hcv,hpc⟩:=(rowR_rd (c:=Tx.cells) (fun x=>rfl) (hv2 _ m7 w17 hS).1 rfl).ix el22 .i64 i hi1
  subst hcv
  refine r1 (hp _) (r_loadN ag50 (xs:=L2[i].cells) rfl (fun j u hu=>by rw [add_addr]; exact hpc j u hu) ?_)
  refine (copyT Z L2[i] (hw2.2 _ (List.getElem_mem hi1)).2 (fun w hw=>(hv2 _ m7 w hw).2 _ (List.getElem_mem hi1)) hS).mono fun r w18 ⟨t',hr,ht1,ht2,hS⟩=>?_
  subst hr
  have htt:tk t'=tk L2[i]:=by unfold tk; rw [ht1,ht2]
  have hall:init.flatten++last++[L2[i]]=L1++L2.take (i+1):=by rw [hfl,List.take_succ_eq_append_getElem hi1,List.append_assoc]
  have hFi:Fit 0 0 (init.flatten++last++[L2[i]]):=by
   have e:L1++L2=(L1++L2.take (i+1))++L2.drop (i+1):=by rw [List.append_assoc,List.take_append_drop]
   rw [hall]
   rw [e,Fit.app] at hF
   exact hF.1
  refine (lStep Z (size:=sz) (init:=init) (last:=last) (us:=us) (d:=d) htt (by omega) hus hdl.on hd (by omega) (by omega) hFi (by rw [hall,List.length_append,List.length_take]; omega) hdr (wfQ_same _ _ ht2.symm (hw2.2 _ (List.getElem_mem hi1)).2) hN hB (R:=[OwQ t'.q,LgM gl2 gb (lgS sz i2 l2 us2),DiskM gb e2,own 50 16 (.slice xa (A1++A2).length xc) (A1++A2).length ((A1++A2).map Tx.cells).flatten,OwT (A1++A2),blk gx 25 P,old w]) (by simp) (fun w hw=>OwQ.rd _ hw) (by (refine Sh.St.sub ?_ (hS); repeat (first | with_reducible (first | exact sub_refl | exact sub_nil | refine sP0 ?_ | refine sP1 ?_ | refine sP2 ?_ | refine sP3 ?_ | refine sP4 ?_ | refine sP5 ?_ | refine sP6 ?_ | refine sP7 ?_ | refine sP8 ?_ | refine sP9 ?_ | refine sP10 ?_ | refine sP11 ?_ | refine sP12 ?_ | refine sP13 ?_ | refine sP14 ?_ | refine sP15 ?_) | exact sub_refl | refine sP0 ?_ | refine sP1 ?_ | refine sP2 ?_ | refine sP3 ?_ | refine sP4 ?_ | refine sP5 ?_ | refine sP6 ?_ | refine sP7 ?_ | refine sP8 ?_ | refine sP9 ?_ | refine sP10 ?_ | refine sP11 ?_ | refine sP12 ?_ | refine sP13 ?_ | refine sP14 ?_ | refine sP15 ?_ | refine sub_drop ?_)))).mono fun r w19 hr=>?_
  rcases hr with ⟨us',d',rfl,s1,s2,s3,s4,s5,s6,s7,hS⟩ | ⟨_,s1,_⟩ | ⟨_,_,s1,_⟩
  ·(try simp only [o_neq,bne_self_eq_false,condF])
   rw [wr_i64 (x:=(i:Int)+1) (by omega) (by omega)]
   refine ⟨m - 1,by omega,i+1,us',_,_,d',rfl,by omega,by omega,nx_seg hsg (by omega) L2[i],by rw [nx_flat,hall],by rw [nx_flat]; exact s1,s2,s6,⟨s3,by rw [s4]; exact hdl.arm⟩,by rw [s5,hdr],by (refine Sh.St.sub ?_ (hS); repeat (first | with_reducible (first | exact sub_refl | exact sub_nil | refine sP0 ?_ | refine sP1 ?_ | refine sP2 ?_ | refine sP3 ?_ | refine sP4 ?_ | refine sP5 ?_ | refine sP6 ?_ | refine sP7 ?_ | refine sP8 ?_ | refine sP9 ?_ | refine sP10 ?_ | refine sP11 ?_ | refine sP12 ?_ | refine sP13 ?_ | refine sP14 ?_ | refine sP15 ?_) | exact sub_refl | refine sP0 ?_ | refine sP1 ?_ | refine sP2 ?_ | refine sP3 ?_ | refine sP4 ?_ | refine sP5 ?_ | refine sP6 ?_ | refine sP7 ?_ | refine sP8 ?_ | refine sP9 ?_ | refine sP10 ?_ | refine sP11 ?_ | refine sP12 ?_ | refine sP13 ?_ | refine sP14 ?_ | refine sP15 ?_ | refine sub_drop ?_))⟩
  ·omega
  ·rw [hdl.arm] at s1; cases s1
 ·obtain rfl:i=L2.length:=by omega
  rw [List.take_length] at hfl
  (try simp only [o_add,ln_22_3,o_lss,hlt,decide_false,condF])
  refine r_load one3 (hS.at m6 2 p2) ?_
  refine r_build (cells:=(zx 0 0).toArray) (by kernel_rfl) ?_
  have hdt:HD d 3 (sgL init++[(frT last++[],(frT last).length)]):=by
   have e:sgL init++[(frT last++[],(frT last).length)]=sgL (init++[last]):=by simp [sgL]
   rw [e]; exact hd
  refine (lOpenHD Z (g:=ga) (d:=d) (size:=sz) (R:=[LgM gl1 ga (lgS sz init last us),LgM gl2 gb (lgS sz i2 l2 us2),DiskM gb e2,own 50 16 (.slice xa (A1++A2).length xc) (A1++A2).length ((A1++A2).map Tx.cells).flatten,OwT (A1++A2),blk gx 25 P,old w]) (by omega) (by omega) hdl hdt frst_nil (by rw [hfl]; exact hF) (hsg.ne (by omega)) (by omega) hN hB (by simp) (by (refine Sh.St.sub ?_ (hS); repeat (first | with_reducible (first | exact sub_refl | exact sub_nil | refine sP0 ?_ | refine sP1 ?_ | refine sP2 ?_ | refine sP3 ?_ | refine sP4 ?_ | refine sP5 ?_ | refine sP6 ?_ | refine sP7 ?_ | refine sP8 ?_ | refine sP9 ?_ | refine sP10 ?_ | refine sP11 ?_ | refine sP12 ?_ | refine sP13 ?_ | refine sP14 ?_ | refine sP15 ?_) | exact sub_refl | refine sP0 ?_ | refine sP1 ?_ | refine sP2 ?_ | refine sP3 ?_ | refine sP4 ?_ | refine sP5 ?_ | refine sP6 ?_ | refine sP7 ?_ | refine sP8 ?_ | refine sP9 ?_ | refine sP10 ?_ | refine sP11 ?_ | refine sP12 ?_ | refine sP13 ?_ | refine sP14 ?_ | refine sP15 ?_ | refine sub_drop ?_)))).mono fun r w18 hr=>?_
  obtain ⟨gl3,us3,d3,s',rfl,hus3,_,_,_,_,hsm,hS⟩:=hr
  rw [hsm rfl] at hS
  rw [hfl] at hus hus3
  (try simp only [o_ext2_1,o_neq,bne_self_eq_false,o_pickF,guardW_ff,o_ext2_0,eqlp_33,condF])
  have hS:St w w18 (LgM gl3 ga ⟨3,sz,init.length+1,last.length,(lastZ 0 0 (init.flatten++last)).1,(lastZ 0 0 (init.flatten++last)).2,us3⟩::own 50 16 (.slice xa (A1++A2).length xc) (A1++A2).length ((A1++A2).map Tx.cells).flatten::OwT (A1++A2)::LgM gl2 gb (lgS sz i2 l2 us2)::LgM gl1 ga (lgS sz init last us)::DiskM ga d::DiskM gb e2::[old w]):=by (refine Sh.St.sub ?_ (hS); repeat (first | with_reducible (first | exact sub_refl | exact sub_nil | refine sP0 ?_ | refine sP1 ?_ | refine sP2 ?_ | refine sP3 ?_ | refine sP4 ?_ | refine sP5 ?_ | refine sP6 ?_ | refine sP7 ?_ | refine sP8 ?_ | refine sP9 ?_ | refine sP10 ?_ | refine sP11 ?_ | refine sP12 ?_ | refine sP13 ?_ | refine sP14 ?_ | refine sP15 ?_) | exact sub_refl | refine sP0 ?_ | refine sP1 ?_ | refine sP2 ?_ | refine sP3 ?_ | refine sP4 ?_ | refine sP5 ?_ | refine sP6 ?_ | refine sP7 ?_ | refine sP8 ?_ | refine sP9 ?_ | refine sP10 ?_ | refine sP11 ?_ | refine sP12 ?_ | refine sP13 ?_ | refine sP14 ?_ | refine sP15 ?_ | refine sub_drop ?_))
  refine (lAll Z (l:=⟨3,sz,init.length+1,last.length,(lastZ 0 0 (init.flatten++last)).1,(lastZ 0 0 (init.flatten++last)).2,us3⟩) (tk_wf hus3 fun t ht=>(hwL.2 t ht).2) (show us3.length * 168≤_ by have:=tk_lenA hus3; rw [List.length_append] at this; omega) hS).mono fun r w19 ⟨xs,hxs,hS⟩=>?_
  have hxt:xs.map txK=(A1++A2).map txK:=(hxs.trans hus3).trans hA.symm
  refine (eqTs Z (fun w hw=>OwT.rd hw) (fun w hw=>OwT.rd hw.drop.drop.drop) hS).mono fun r w20 ⟨⟨b,hr,hb⟩,hS⟩=>?_
  subst hr
  obtain rfl:=hb.2 hxt
  (try simp only [o_pickT,guardW_true])
  have hS:St w w20 (LgM gl2 gb (lgS sz i2 l2 us2)::own 50 16 (.slice xa (A1++A2).length xc) (A1++A2).length ((A1++A2).map Tx.cells).flatten::OwT (A1++A2)::LgM gl1 ga (lgS sz init last us)::DiskM ga d::DiskM gb e2::[old w]):=by (refine Sh.St.sub ?_ (hS); repeat (first | with_reducible (first | exact sub_refl | exact sub_nil | refine sP0 ?_ | refine sP1 ?_ | refine sP2 ?_ | refine sP3 ?_ | refine sP4 ?_ | refine sP5 ?_ | refine sP6 ?_ | refine sP7 ?_ | refine sP8 ?_ | refine sP9 ?_ | refine sP10 ?_ | refine sP11 ?_ | refine sP12 ?_ | refine sP13 ?_ | refine sP14 ?_ | refine sP15 ?_) | exact sub_refl | refine sP0 ?_ | refine sP1 ?_ | refine sP2 ?_ | refine sP3 ?_ | refine sP4 ?_ | refine sP5 ?_ | refine sP6 ?_ | refine sP7 ?_ | refine sP8 ?_ | refine sP9 ?_ | refine sP10 ?_ | refine sP11 ?_ | refine sP12 ?_ | refine sP13 ?_ | refine sP14 ?_ | refine sP15 ?_ | refine sub_drop ?_))
  refine (lAll Z (l:=lgS sz i2 l2 us2) (tk_wf p5 fun t ht=>(hwL.2 t ht).2) (show us2.length * 168≤_ by have:=tk_lenA p5; rw [List.length_append] at this; omega) hS).mono fun r w21 ⟨xs,hxs,hS⟩=>?_
  have hxt:xs.map txK=(A1++A2).map txK:=(hxs.trans p5).trans hA.symm
  refine (eqTs Z (fun w hw=>OwT.rd hw) (fun w hw=>OwT.rd hw.drop.drop.drop) hS).mono fun r w22 ⟨⟨b,hr,hb⟩,hS⟩=>?_
  subst hr
  obtain rfl:=hb.2 hxt
  (try simp only [o_pickT,guardW_true])
  have hS:St w w22 (LgM gl1 ga (lgS sz init last us)::own 50 16 (.slice xa (A1++A2).length xc) (A1++A2).length ((A1++A2).map Tx.cells).flatten::OwT (A1++A2)::DiskM ga d::DiskM gb e2::[old w]):=by (refine Sh.St.sub ?_ (hS); repeat (first | with_reducible (first | exact sub_refl | exact sub_nil | refine sP0 ?_ | refine sP1 ?_ | refine sP2 ?_ | refine sP3 ?_ | refine sP4 ?_ | refine sP5 ?_ | refine sP6 ?_ | refine sP7 ?_ | refine sP8 ?_ | refine sP9 ?_ | refine sP10 ?_ | refine sP11 ?_ | refine sP12 ?_ | refine sP13 ?_ | refine sP14 ?_ | refine sP15 ?_) | exact sub_refl | refine sP0 ?_ | refine sP1 ?_ | refine sP2 ?_ | refine sP3 ?_ | refine sP4 ?_ | refine sP5 ?_ | refine sP6 ?_ | refine sP7 ?_ | refine sP8 ?_ | refine sP9 ?_ | refine sP10 ?_ | refine sP11 ?_ | refine sP12 ?_ | refine sP13 ?_ | refine sP14 ?_ | refine sP15 ?_ | refine sub_drop ?_))
  refine (lAll Z (l:=lgS sz init last us) (tk_wf hus fun t ht=>(hwL.2 t ht).2) (show us.length * 168≤_ by have:=tk_lenA hus; rw [List.length_append] at this; omega) hS).mono fun r w23 ⟨xs,hxs,hS⟩=>?_
  have hxt:xs.map txK=(A1++A2).map txK:=(hxs.trans hus).trans hA.symm
  refine (eqTs Z (fun w hw=>OwT.rd hw) (fun w hw=>OwT.rd hw.drop.drop.drop) hS).mono fun r w24 ⟨⟨b,hr,hb⟩,hS⟩=>?_
  subst hr
  obtain rfl:=hb.2 hxt
  (try simp only [o_pickT,guardW_true])
  have hS:St w w24 (DiskM ga d::DiskM gb e2::[old w]):=by (refine Sh.St.sub ?_ (hS); repeat (first | with_reducible (first | exact sub_refl | exact sub_nil | refine sP0 ?_ | refine sP1 ?_ | refine sP2 ?_ | refine sP3 ?_ | refine sP4 ?_ | refine sP5 ?_ | refine sP6 ?_ | refine sP7 ?_ | refine sP8 ?_ | refine sP9 ?_ | refine sP10 ?_ | refine sP11 ?_ | refine sP12 ?_ | refine sP13 ?_ | refine sP14 ?_ | refine sP15 ?_) | exact sub_refl | refine sP0 ?_ | refine sP1 ?_ | refine sP2 ?_ | refine sP3 ?_ | refine sP4 ?_ | refine sP5 ?_ | refine sP6 ?_ | refine sP7 ?_ | refine sP8 ?_ | refine sP9 ?_ | refine sP10 ?_ | refine sP11 ?_ | refine sP12 ?_ | refine sP13 ?_ | refine sP14 ?_ | refine sP15 ?_ | refine sub_drop ?_))
  have hfs:d.fs=e2.fs:=(by rw [seg_same hsg p6 (hfl.trans p7.symm)] at hd; exact hd.uniq p9 hdk p10)
  refine (dImage Z hS).mono fun ia w25 ⟨F1,hF1,hS⟩=>?_
  have hS:St w w25 (DiskM gb e2::own 94 3 ia F1.length (F1.flatMap fc)::satH (F1.map fb)::[old w]):=by (refine Sh.St.sub ?_ (hS); repeat (first | with_reducible (first | exact sub_refl | exact sub_nil | refine sP0 ?_ | refine sP1 ?_ | refine sP2 ?_ | refine sP3 ?_ | refine sP4 ?_ | refine sP5 ?_ | refine sP6 ?_ | refine sP7 ?_ | refine sP8 ?_ | refine sP9 ?_ | refine sP10 ?_ | refine sP11 ?_ | refine sP12 ?_ | refine sP13 ?_ | refine sP14 ?_ | refine sP15 ?_) | exact sub_refl | refine sP0 ?_ | refine sP1 ?_ | refine sP2 ?_ | refine sP3 ?_ | refine sP4 ?_ | refine sP5 ?_ | refine sP6 ?_ | refine sP7 ?_ | refine sP8 ?_ | refine sP9 ?_ | refine sP10 ?_ | refine sP11 ?_ | refine sP12 ?_ | refine sP13 ?_ | refine sP14 ?_ | refine sP15 ?_ | refine sub_drop ?_))
  refine (dImage Z hS).mono fun ib w26 ⟨F2,hF2,hS⟩=>?_
  have hFF:(F1.map toFi).map (·.1)=(F2.map toFi).map (·.1):=by rw [fi_map,fi_map,hF1,hF2,hfs]
  have hS1:St w w26 (own 94 3 ia F1.length (F1.flatMap fc)::satH (F1.map fb)::[old w]):=by (refine Sh.St.sub ?_ (hS); repeat (first | with_reducible (first | exact sub_refl | exact sub_nil | refine sP0 ?_ | refine sP1 ?_ | refine sP2 ?_ | refine sP3 ?_ | refine sP4 ?_ | refine sP5 ?_ | refine sP6 ?_ | refine sP7 ?_ | refine sP8 ?_ | refine sP9 ?_ | refine sP10 ?_ | refine sP11 ?_ | refine sP12 ?_ | refine sP13 ?_ | refine sP14 ?_ | refine sP15 ?_) | exact sub_refl | refine sP0 ?_ | refine sP1 ?_ | refine sP2 ?_ | refine sP3 ?_ | refine sP4 ?_ | refine sP5 ?_ | refine sP6 ?_ | refine sP7 ?_ | refine sP8 ?_ | refine sP9 ?_ | refine sP10 ?_ | refine sP11 ?_ | refine sP12 ?_ | refine sP13 ?_ | refine sP14 ?_ | refine sP15 ?_ | refine sub_drop ?_))
  refine (eqFiles Z (own_rdFi hS1) (own_rdFi hS) hFF).mono fun r w27 ⟨hr,hdw⟩=>?_
  subst hr
  have hS:=hS1.drew hdw
  (try simp only [])
  exact ⟨by first | rfl | trivial,hS.drop.drop⟩
end

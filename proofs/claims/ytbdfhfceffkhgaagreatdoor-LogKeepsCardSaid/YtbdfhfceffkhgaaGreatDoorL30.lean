
/- LogKeeps: the walk. -/
import Derived.Test.YtbdfhfceffkhgaaGreatDoorL32
set_option linter.unusedVariables false
set_option linter.unusedSimpArgs false
namespace Go.Proofs.YtbdfhfceffkhgaaGreatDoor
open Go.Sh
open Tryz renaming prog → π
theorem tk_ofA {a b:List Tx} (h1:a.map Tx.hd=b.map Tx.hd) (h2:a.map (fun t=>t.q.st)=b.map (fun t=>t.q.st)):a.map tk=b.map tk:=by
 induction a generalizing b with
 | nil=>cases b with
  | nil=>rfl
  | cons y b=>simp at h1
 | cons x a ih=>cases b with
  | nil=>simp at h1
  | cons y b=>
   simp only [List.map_cons,List.cons.injEq] at h1 h2 ⊢
   exact ⟨by unfold tk; rw [h1.1,h2.1],ih h1.2 h2.2⟩
theorem own_capsA {o w:World} {R:List HProp} {e sz n:Nat} {v:Value} {xs:List Value} (h:St o w (own e sz v n xs::R)):∃a c,v=.slice a n c∧n≤c:=by
 obtain ⟨_,⟨rfl,rfl,_⟩ | ⟨g,cap,rest,rfl,h1,_⟩⟩:=h.own_open
 ·exact ⟨_,_,rfl,Nat.le_refl _⟩
 ·exact ⟨_,_,rfl,h1⟩
theorem tk_wfA {a b:List Tx} (h:a.map tk=b.map tk) (hb:WfT b):WfT a:=by
 have hl:a.length=b.length:=by have:=congrArg List.length h; simpa using this
 refine ⟨by rw [hl]; exact hb.1,fun t ht=>⟨?_,tk_wf h (fun t ht=>(hb.2 t ht).2) t ht⟩⟩
 have hm:tk t ∈ b.map tk:=by rw [← h]; exact List.mem_map_of_mem ht
 obtain ⟨y,hy,e⟩:=List.mem_map.1 hm
 rw [← (tk_parts e).1]; exact (hb.2 y hy).1
theorem tk_lenA {a b:List Tx} (h:a.map tk=b.map tk):a.length=b.length:=by
 have:=congrArg List.length h
 rwa [List.length_map,List.length_map] at this
theorem okA {a b:List Tx} (h:a.map tk=b.map tk) (hb:∀t ∈ a,chkT t=true):∀t ∈ b,chkT t=true:=fun t ht=>by
 have hm:tk t ∈ a.map tk:=by rw [h]; exact List.mem_map_of_mem ht
 obtain ⟨y,hy,e⟩:=List.mem_map.1 hm
 obtain ⟨e1,e2⟩:=tk_parts e
 rw [← chkT_st e1 e2]; exact hb y hy
theorem cells_onesA {w:World} {v:Value} {ts:List Tx} (hx:RdT w v ts):ones (ts.map Tx.cells).flatten:=by
 intro u hu
 obtain ⟨l,hl,hul⟩:=List.mem_flatten.1 hu
 obtain ⟨t,ht,rfl⟩:=List.mem_map.1 hl
 exact txC_ones (hx.2 t ht).ones u hul
def KeepS (ts:List Tx) (told under:Nat) (d:Dk):Prop:=∃init c x rest,HD d 3 (sgL init++[(frT c++frT x,(frT c).length)])∧(∀z ∈ init,z ≠ [])∧init.length≤64∧ts=init.flatten++c++x++rest∧told=(init.flatten++c).length∧x.length≤under∧under≤1
theorem KeepS.back {ts:List Tx} {told under:Nat} {d:Dk} (h:KeepS ts told under d) (hk:d.ok) (hF:Fit 0 0 ts) (ks:List Int) :
  ∃init last tail s n rest,frst tail=none∧HD (d.off.start ks) 3 (sgL init++[(frT last++tail,s)])∧(d.off.start ks).live∧(d.off.start ks).room=d.room∧(∀c ∈ init,c ≠ [])∧init.length≤64∧ts=init.flatten++last++rest∧(init.flatten++last).length=n∧told≤n∧n≤told+under∧under≤1:=by
 obtain ⟨init,c,x,rest,h1,h2,h3,h4,h5,h6,h7⟩:=h
 obtain ⟨j,tail,s,hj,ht,hd,hl,hr⟩:=start_found (a:=3) (d:=d.off) (by omega) (Dk.off_ok hk) rfl rfl (by omega) h1 (fun t ht=>by
  have:t ∈ ts:=by rw [h4]; simp [ht]
  exact (hF.mem t this).2) ks
 refine ⟨init,c++x.take j,tail,s,_,x.drop j++rest,ht,hd,hl,hr,h2,h3,?_,rfl,?_,?_,h7⟩
 ·rw [h4]
  simp only [List.append_assoc]
  rw [← List.append_assoc (x.take j),List.take_append_drop]
 ·rw [h5]; simp only [List.length_append]; omega
 ·rw [h5]; simp only [List.length_append,List.length_take]; omega
section
variable (Z:PZ) {o w:World} {R As:List HProp}
theorem logKeeps {v3:Value} {a1 a2:Option Addr} {c1 c2:Nat} {L1 L2:List Tx} (size at_:Int) (hsz : -9223372036854775808≤size∧size≤9223372036854775807) (hnc1:L1.length≤c1) (hw1:WfT L1) (hv1:RdT w (.slice a1 L1.length c1) L1) (hnc2:L2.length≤c2) (hw2:WfT L2) (hv2:RdT w (.slice a2 L2.length c2) L2) (h3:IntsV w v3) (hN:Names w) (hB:Bits w) :
  CallV π Z 5 #[.agg (cuC (.slice a1 L1.length c1) (.slice a2 L2.length c2) size at_ v3).toArray] w fun r w'=>r=.bool true∧St w w' [old w]:=by
 obtain ⟨ks,hkb,_,hks⟩:=h3
 obtain ⟨ka,kc,rfl⟩:=hks.form
 have hv1:∀(As:List HProp),old w ∈ As→Ent w As fun w=>RdT w (.slice a1 L1.length c1) L1:=fun As hm w' hS=>hv1.of_old hS hm
 have hv2:∀(As:List HProp),old w ∈ As→Ent w As fun w=>RdT w (.slice a2 L2.length c2) L2:=fun As hm w' hS=>hv2.of_old hS hm
 refine f5.calls ?_
 unfold f5.sh
 obtain ⟨P,hP⟩:∃P,P=cuC (.slice a1 L1.length c1) (.slice a2 L2.length c2) size at_ (.slice ka ks.length kc):=⟨_,rfl⟩
 have hones:ones P:=by rw [hP]; intro x hx; simp only [cuC,List.mem_cons,List.not_mem_nil,or_false] at hx; rcases hx with rfl | rfl | rfl | rfl | rfl <;> rfl
 have p0:P[0]? = some (.slice a1 L1.length c1):=by rw [hP]; rfl
 have p1:P[1]? = some (.slice a2 L2.length c2):=by rw [hP]; rfl
 have p2:P[2]? = some (.int .i64 size):=by rw [hP]; rfl
 have p3:P[3]? = some (.int .i64 at_):=by rw [hP]; rfl
 have p4:P[4]? = some (.slice ka ks.length kc):=by rw [hP]; rfl
 refine r_box _ _ (St.start w) fun gx w1 hS0=>?_
 have hS:St w w1 (blk gx 25 P::[old w]):=by rw [hP]; exact hS0
 clear hP hS0
 refine (works10 Z hN hB m1 hS).mono fun r w2 ⟨hr,hS⟩=>?_
 subst hr
 (try simp only [fa_25_1,Nat.zero_add,fa_25_0,Nat.add_zero,fa_25_2,fa_25_4,fa_25_3,fa_25_0p,fa_25_2p])
 refine r_load one22 (hS.at m0 0 p0) ?_
 refine (largeTs Z (hv1 _ m1) hS).mono fun r w3 ⟨⟨b,hr⟩,hS⟩=>?_
 subst hr
 cases b with
 | true=>
  (try simp only [o_pickT,condT,guardW_tf])
  exact ⟨by first | rfl | trivial,hS.drop⟩
 | false=>
 (try simp only [o_pickF,guardW_ff])
 refine r_load one22 (hS.at m0 1 p1) ?_
 refine (largeTs Z (hv2 _ m1) hS).mono fun r w4 ⟨⟨b,hr⟩,hS⟩=>?_
 subst hr
 cases b with
 | true=>
  (try simp only [o_pickT,condT,guardW_tf])
  exact ⟨by first | rfl | trivial,hS.drop⟩
 | false=>
 have hb1:=hw1.1
 have hb2:=hw2.1
 (try simp only [o_pickF,guardW_ff])
 refine r_load one22 (hS.at m0 0 p0) ?_
 (try simp only [ln_22_3])
 refine r_load one22 (hS.at m0 1 p1) ?_
 (try simp only [ln_22_3,o_add,o_gtr])
 rw [wr_i64 (x:=(L1.length:Int)+L2.length) (by omega) (by omega)]
 by_cases d1:300 < (L1.length:Int)+L2.length
 ·(try simp only [d1,decide_true,o_pickT,condT,guardW_tf])
  exact ⟨by first | rfl | trivial,hS.drop⟩
 (try simp only [d1,decide_false,o_pickF,guardW_ff])
 refine r_load one3 (hS.at m0 2 p2) ?_
 by_cases d2:size < 1
 ·(try simp only [o_lss,d2,decide_true,o_pickT,condT,guardW_tf])
  exact ⟨by first | rfl | trivial,hS.drop⟩
 (try simp only [o_lss,d2,decide_false,o_pickF,guardW_ff])
 refine r_load one3 (hS.at m0 2 p2) ?_
 by_cases d3:64 < size
 ·(try simp only [o_gtr,d3,decide_true,condT])
  exact ⟨by first | rfl | trivial,hS.drop⟩
 (try simp only [o_gtr,d3,decide_false,condF])
 obtain ⟨sz,rfl⟩:∃sz:Nat,size=sz:=⟨size.toNat,by omega⟩
 refine r_load one22 (hS.at m0 0 p0) ?_
 refine (copyTs Z hw1 (hv1 _ m1) hS).mono fun r w5 ⟨A1,g1,g2,hS⟩=>?_
 have hA1:A1.map tk=L1.map tk:=tk_ofA g1 g2
 obtain ⟨x1,y1,rfl,_⟩:=own_capsA hS
 refine r_load one22 (hS.at m2 1 p1) ?_
 refine (copyTs Z hw2 (hv2 _ m3) hS).mono fun r w6 ⟨A2,g3,g4,hS⟩=>?_
 have hA2:A2.map tk=L2.map tk:=tk_ofA g3 g4
 obtain ⟨x2,y2,rfl,_⟩:=own_capsA hS
 have n1:=tk_lenA hA1
 have n2:=tk_lenA hA2
 have hA:(A1++A2).map tk=(L1++L2).map tk:=by rw [List.map_append,List.map_append,hA1,hA2]
 have hwA:WfT (A1++A2):=tk_wfA hA ⟨by rw [List.length_append]; omega,fun t ht=>(List.mem_append.1 ht).elim (hw1.2 t) (hw2.2 t)⟩
 have hr2:RdT w6 (.slice x2 A2.length y2) A2:=OwT.rd hS
 have hS:=hS.pick 2
 refine r_append el22 hS ((hS.own_rd m1).src Tryz.underlying22 (cells_onesA hr2)) (by omega) (by simp only [maxLen]; omega) fun va w7 hS=>?_
 have hS:St w w7 (own 50 16 va (A1++A2).length ((A1++A2).map Tx.cells).flatten::OwT (A1++A2)::blk gx 25 P::[old w]):=by
  have e1:((A1++A2).map Tx.cells).flatten=(A1.map Tx.cells).flatten++(A2.map Tx.cells).flatten:=by simp
  have e2:OwT (A1++A2)=satH ((A1.map fun t=>OwQ t.q)++(A2.map fun t=>OwQ t.q)):=by unfold OwT; rw [List.map_append]
  have h2:St w w7 (satH (A1.map fun t=>OwQ t.q)::satH (A2.map fun t=>OwQ t.q)::own 50 16 va (A1.length+A2.length) ((A1.map Tx.cells).flatten++(A2.map Tx.cells).flatten)::blk gx 25 P::[old w]):=by
   unfold OwT at hS
   (refine Sh.St.sub ?_ (hS); repeat (first | with_reducible (first | exact sub_refl | exact sub_nil | refine sP0 ?_ | refine sP1 ?_ | refine sP2 ?_ | refine sP3 ?_ | refine sP4 ?_ | refine sP5 ?_ | refine sP6 ?_ | refine sP7 ?_ | refine sP8 ?_ | refine sP9 ?_ | refine sP10 ?_ | refine sP11 ?_ | refine sP12 ?_ | refine sP13 ?_ | refine sP14 ?_ | refine sP15 ?_) | exact sub_refl | refine sP0 ?_ | refine sP1 ?_ | refine sP2 ?_ | refine sP3 ?_ | refine sP4 ?_ | refine sP5 ?_ | refine sP6 ?_ | refine sP7 ?_ | refine sP8 ?_ | refine sP9 ?_ | refine sP10 ?_ | refine sP11 ?_ | refine sP12 ?_ | refine sP13 ?_ | refine sP14 ?_ | refine sP15 ?_ | refine sub_drop ?_))
  rw [e1,e2,List.length_append]
  have h3:=h2.all_join
  exact h3.swap
 obtain ⟨xa,xc,rfl,hcapA⟩:=own_capsA hS
 refine (rightC Z hwA (fun w hw=>OwT.rd hw) hS).mono fun r w8 ⟨⟨b,hr,hb⟩,hS⟩=>?_
 subst hr
 cases b with
 | false=>
  (try simp only [ln_22_3,o_not,Bool.not_false,condT])
  exact ⟨by first | rfl | trivial,hS.drop.drop.drop⟩
 | true=>
 obtain ⟨hck,hri⟩:=hb rfl
 have hck:=okA hA hck
 rw [zxs_tk hA] at hri
 have hnA:=tk_lenA hA
 rw [List.length_append,List.length_append] at hnA
 have hwL:WfT (L1++L2):=⟨by rw [List.length_append]; omega,fun t ht=>(List.mem_append.1 ht).elim (hw1.2 t) (hw2.2 t)⟩
 have hF:Fit 0 0 (L1++L2):=fit_of (Int.le_refl 0) (by unfold u32r; omega) (fun t ht=>⟨hck t ht,hwL.2 t ht⟩) hri
 have hri1:rises 0 0 (zxs L1)=true:=by rw [zxs_app] at hri; exact rises_pre hri
 have hck1:∀t ∈ L1,chkT t=true:=fun t ht=>hck t (List.mem_append_left _ ht)
 have hS:St w w8 (blk gx 25 P::own 50 16 (.slice xa (A1++A2).length xc) (A1++A2).length ((A1++A2).map Tx.cells).flatten::OwT (A1++A2)::[old w]):=by (refine Sh.St.sub ?_ (hS); repeat (first | with_reducible (first | exact sub_refl | exact sub_nil | refine sP0 ?_ | refine sP1 ?_ | refine sP2 ?_ | refine sP3 ?_ | refine sP4 ?_ | refine sP5 ?_ | refine sP6 ?_ | refine sP7 ?_ | refine sP8 ?_ | refine sP9 ?_ | refine sP10 ?_ | refine sP11 ?_ | refine sP12 ?_ | refine sP13 ?_ | refine sP14 ?_ | refine sP15 ?_) | exact sub_refl | refine sP0 ?_ | refine sP1 ?_ | refine sP2 ?_ | refine sP3 ?_ | refine sP4 ?_ | refine sP5 ?_ | refine sP6 ?_ | refine sP7 ?_ | refine sP8 ?_ | refine sP9 ?_ | refine sP10 ?_ | refine sP11 ?_ | refine sP12 ?_ | refine sP13 ?_ | refine sP14 ?_ | refine sP15 ?_ | refine sub_drop ?_))
 (try simp only [ln_22_3,o_not,Bool.not_true,condF])
 refine (dkNew Z 16777216 hS).mono fun r w9 hr=>?_
 rcases hr with ⟨hbad,_⟩ | ⟨n,hn,hn2,g,rfl,hS⟩
 ·omega
 obtain rfl:n=16777216:=by omega
 (try simp only [o_ext2_1,o_ext2_0])
 refine ⟨fun w11 hd=>?_⟩
 have hS:=hS.drew hd
 refine rr_load one3 (hS.at m1 2 p2) ?_
 refine rr_load one22 (hS.at m1 0 p0) ?_
 refine (copyTs Z hw1 (hv1 _ m4) hS).mono fun r w12 ⟨B1,g5,g6,hS⟩=>?_
 have hB1:B1.map tk=L1.map tk:=tk_ofA g5 g6
 have n3:=tk_lenA hB1
 obtain ⟨z1,z2,rfl,hcapB⟩:=own_capsA hS
 refine rs_load one3 (hS.at m3 2 p2) ?_
 by_cases d4:60 * (sz:Int) < (L1.length:Int)
 ·refine (lCreate Z (g:=g) (d:=Dk.new 16777216) (ts:=B1) 3 sz (by omega) (by omega) (tk_wfA hB1 hw1) hcapB (fun f hf=>by cases hf) hN hB (R:=[own 50 16 (.slice z1 B1.length z2) B1.length (B1.map Tx.cells).flatten,OwT B1,blk gx 25 P,old w]) (by simp) (fun w hw=>OwT.rd hw) (by (refine Sh.St.sub ?_ (hS); repeat (first | with_reducible (first | exact sub_refl | exact sub_nil | refine sP0 ?_ | refine sP1 ?_ | refine sP2 ?_ | refine sP3 ?_ | refine sP4 ?_ | refine sP5 ?_ | refine sP6 ?_ | refine sP7 ?_ | refine sP8 ?_ | refine sP9 ?_ | refine sP10 ?_ | refine sP11 ?_ | refine sP12 ?_ | refine sP13 ?_ | refine sP14 ?_ | refine sP15 ?_) | exact sub_refl | refine sP0 ?_ | refine sP1 ?_ | refine sP2 ?_ | refine sP3 ?_ | refine sP4 ?_ | refine sP5 ?_ | refine sP6 ?_ | refine sP7 ?_ | refine sP8 ?_ | refine sP9 ?_ | refine sP10 ?_ | refine sP11 ?_ | refine sP12 ?_ | refine sP13 ?_ | refine sP14 ?_ | refine sP15 ?_ | refine sub_drop ?_)))).mono fun r w13 hr=>?_
  have hgot:∃(p:Value) (e:Int),r=.tuple #[p,.int .i64 e]∧St w w13 [blk gx 25 P,old w]:=by
   rcases hr with ⟨_,rfl,hS⟩ | ⟨_,_,rfl,hS⟩ | ⟨_,_,gl,us,rfl,_,hS⟩
   ·exact ⟨_,_,rfl,by (refine Sh.St.sub ?_ (hS); repeat (first | with_reducible (first | exact sub_refl | exact sub_nil | refine sP0 ?_ | refine sP1 ?_ | refine sP2 ?_ | refine sP3 ?_ | refine sP4 ?_ | refine sP5 ?_ | refine sP6 ?_ | refine sP7 ?_ | refine sP8 ?_ | refine sP9 ?_ | refine sP10 ?_ | refine sP11 ?_ | refine sP12 ?_ | refine sP13 ?_ | refine sP14 ?_ | refine sP15 ?_) | exact sub_refl | refine sP0 ?_ | refine sP1 ?_ | refine sP2 ?_ | refine sP3 ?_ | refine sP4 ?_ | refine sP5 ?_ | refine sP6 ?_ | refine sP7 ?_ | refine sP8 ?_ | refine sP9 ?_ | refine sP10 ?_ | refine sP11 ?_ | refine sP12 ?_ | refine sP13 ?_ | refine sP14 ?_ | refine sP15 ?_ | refine sub_drop ?_))⟩
   ·exact ⟨_,_,rfl,by (refine Sh.St.sub ?_ (hS); repeat (first | with_reducible (first | exact sub_refl | exact sub_nil | refine sP0 ?_ | refine sP1 ?_ | refine sP2 ?_ | refine sP3 ?_ | refine sP4 ?_ | refine sP5 ?_ | refine sP6 ?_ | refine sP7 ?_ | refine sP8 ?_ | refine sP9 ?_ | refine sP10 ?_ | refine sP11 ?_ | refine sP12 ?_ | refine sP13 ?_ | refine sP14 ?_ | refine sP15 ?_) | exact sub_refl | refine sP0 ?_ | refine sP1 ?_ | refine sP2 ?_ | refine sP3 ?_ | refine sP4 ?_ | refine sP5 ?_ | refine sP6 ?_ | refine sP7 ?_ | refine sP8 ?_ | refine sP9 ?_ | refine sP10 ?_ | refine sP11 ?_ | refine sP12 ?_ | refine sP13 ?_ | refine sP14 ?_ | refine sP15 ?_ | refine sub_drop ?_))⟩
   ·exact ⟨_,_,rfl,by (refine Sh.St.sub ?_ (hS); repeat (first | with_reducible (first | exact sub_refl | exact sub_nil | refine sP0 ?_ | refine sP1 ?_ | refine sP2 ?_ | refine sP3 ?_ | refine sP4 ?_ | refine sP5 ?_ | refine sP6 ?_ | refine sP7 ?_ | refine sP8 ?_ | refine sP9 ?_ | refine sP10 ?_ | refine sP11 ?_ | refine sP12 ?_ | refine sP13 ?_ | refine sP14 ?_ | refine sP15 ?_) | exact sub_refl | refine sP0 ?_ | refine sP1 ?_ | refine sP2 ?_ | refine sP3 ?_ | refine sP4 ?_ | refine sP5 ?_ | refine sP6 ?_ | refine sP7 ?_ | refine sP8 ?_ | refine sP9 ?_ | refine sP10 ?_ | refine sP11 ?_ | refine sP12 ?_ | refine sP13 ?_ | refine sP14 ?_ | refine sP15 ?_ | refine sub_drop ?_))⟩
  clear hr
  obtain ⟨p,e,rfl,hS⟩:=hgot
  (try simp only [o_ext2_1p,o_neq,o_ext2_0p])
  refine r_load one22 (hS.at m0 0 p0) ?_
  (try simp only [ln_22_3])
  refine r_load one3 (hS.at m0 2 p2) ?_
  (try simp only [o_mul,o_gtr,cond_decide])
  rw [wr_i64 (x:=60 * (sz:Int)) (by omega) (by omega)]
  skip
  exact ⟨fun _=>⟨by first | rfl | trivial,hS.drop⟩,fun h=>absurd d4 h⟩
 refine (lCreate0 Z (g:=g) (ts:=L1) (R:=[own 50 16 (.slice z1 B1.length z2) B1.length (B1.map Tx.cells).flatten,OwT B1,own 50 16 (.slice xa (A1++A2).length xc) (A1++A2).length ((A1++A2).map Tx.cells).flatten,OwT (A1++A2),blk gx 25 P,old w]) hB1 (by omega) (by omega) (tk_wfA hB1 hw1) hw1 hcapB hck1 hri1 (by omega) (by omega) hN hB (by simp) (fun w hw=>OwT.rd hw) (by (refine Sh.St.sub ?_ (hS); repeat (first | with_reducible (first | exact sub_refl | exact sub_nil | refine sP0 ?_ | refine sP1 ?_ | refine sP2 ?_ | refine sP3 ?_ | refine sP4 ?_ | refine sP5 ?_ | refine sP6 ?_ | refine sP7 ?_ | refine sP8 ?_ | refine sP9 ?_ | refine sP10 ?_ | refine sP11 ?_ | refine sP12 ?_ | refine sP13 ?_ | refine sP14 ?_ | refine sP15 ?_) | exact sub_refl | refine sP0 ?_ | refine sP1 ?_ | refine sP2 ?_ | refine sP3 ?_ | refine sP4 ?_ | refine sP5 ?_ | refine sP6 ?_ | refine sP7 ?_ | refine sP8 ?_ | refine sP9 ?_ | refine sP10 ?_ | refine sP11 ?_ | refine sP12 ?_ | refine sP13 ?_ | refine sP14 ?_ | refine sP15 ?_ | refine sub_drop ?_)))).mono fun r w13 ⟨gl,us1,d1,i1,l1,hr,q1,q2,q3,q4,q5,q6,q7,q8,hS⟩=>?_
 subst hr
 have hS:St w w13 (LgM gl g (lgS sz i1 l1 us1)::DiskM g d1::[own 50 16 (.slice xa (A1++A2).length xc) (A1++A2).length ((A1++A2).map Tx.cells).flatten,OwT (A1++A2),blk gx 25 P,old w]):=by (refine Sh.St.sub ?_ (hS); repeat (first | with_reducible (first | exact sub_refl | exact sub_nil | refine sP0 ?_ | refine sP1 ?_ | refine sP2 ?_ | refine sP3 ?_ | refine sP4 ?_ | refine sP5 ?_ | refine sP6 ?_ | refine sP7 ?_ | refine sP8 ?_ | refine sP9 ?_ | refine sP10 ?_ | refine sP11 ?_ | refine sP12 ?_ | refine sP13 ?_ | refine sP14 ?_ | refine sP15 ?_) | exact sub_refl | refine sP0 ?_ | refine sP1 ?_ | refine sP2 ?_ | refine sP3 ?_ | refine sP4 ?_ | refine sP5 ?_ | refine sP6 ?_ | refine sP7 ?_ | refine sP8 ?_ | refine sP9 ?_ | refine sP10 ?_ | refine sP11 ?_ | refine sP12 ?_ | refine sP13 ?_ | refine sP14 ?_ | refine sP15 ?_ | refine sub_drop ?_))
 (try simp only [o_ext2_1p,o_neq,bne_self_eq_false,o_pickF,guardW_ff,o_ext2_0p,eqlp_33,condF])
 refine r_load one22 (hS.at m4 0 p0) ?_
 (try simp only [ln_22_3])
 refine r_load one3 (hS.at m4 2 p2) ?_
 (try simp only [o_mul,o_gtr,cond_decide])
 rw [wr_i64 (x:=60 * (sz:Int)) (by omega) (by omega)]
 skip
 refine ⟨fun h=>absurd h d4,fun _=>?_⟩
 refine r_load one3 (hS.at m4 3 p3) ?_
 refine (dArm Z at_ hS.swap).mono fun r w14 ⟨hr,hS⟩=>?_
 have ha0:(d1.arm at_)={ d1 with armed:=decide (0≤at_),more:=at_ }:=by unfold Dk.arm; rw [if_pos q7.on]
 have qh:HD (d1.arm at_) 3 (sgL (i1++[l1])):=by rw [ha0]; exact q5
 have qo:(d1.arm at_).on=true:=by rw [ha0]; exact q7.on
 have qr:(d1.arm at_).room=16777216:=by rw [ha0]; exact q8
 have qk:(d1.arm at_).ok:=Dk.arm_ok q6 at_
 generalize d1.arm at_=d0 at *
 refine r_load one22 (hS.at m4 0 p0) ?_
 (try simp only [ln_22_3])
 intro j hj
 have post:∀(told under:Nat) (w':World) (d:Dk),KeepS (L1++L2) told under d→d.ok→d.room=16777216→St w w' (DiskM g d::[own 50 16 (.slice xa (A1++A2).length xc) (A1++A2).length ((A1++A2).map Tx.cells).flatten,OwT (A1++A2),blk gx 25 P,old w])→j (.int .i64 told) (.int .i64 under) w':=by
  clear hS
  intro told under w15 d hK hdk hdr hS
  refine hj _ _ _ fun _=>?_
  clear hj
  refine (dOffM Z hS).mono fun r w16 ⟨hr,hS⟩=>?_
  refine r_load one23 (hS.at m3 4 p4) ?_
  refine (copyInts Z hkb (fun w' hw'=>hks.of_old hw' m4) hS).mono fun r w17 hS=>?_
  refine (dStart Z (ks:=ks) (fun w hw=>hw.own_rd m0) hS.swap).mono fun r w18 hS=>?_
  have hS:St w w18 (DiskM g (d.off.start ks)::[own 50 16 (.slice xa (A1++A2).length xc) (A1++A2).length ((A1++A2).map Tx.cells).flatten,OwT (A1++A2),blk gx 25 P,old w]):=by (refine Sh.St.sub ?_ (hS); repeat (first | with_reducible (first | exact sub_refl | exact sub_nil | refine sP0 ?_ | refine sP1 ?_ | refine sP2 ?_ | refine sP3 ?_ | refine sP4 ?_ | refine sP5 ?_ | refine sP6 ?_ | refine sP7 ?_ | refine sP8 ?_ | refine sP9 ?_ | refine sP10 ?_ | refine sP11 ?_ | refine sP12 ?_ | refine sP13 ?_ | refine sP14 ?_ | refine sP15 ?_) | exact sub_refl | refine sP0 ?_ | refine sP1 ?_ | refine sP2 ?_ | refine sP3 ?_ | refine sP4 ?_ | refine sP5 ?_ | refine sP6 ?_ | refine sP7 ?_ | refine sP8 ?_ | refine sP9 ?_ | refine sP10 ?_ | refine sP11 ?_ | refine sP12 ?_ | refine sP13 ?_ | refine sP14 ?_ | refine sP15 ?_ | refine sub_drop ?_))
  refine r_load one3 (hS.at m3 2 p2) ?_
  refine r_build (cells:=(zx 0 0).toArray) (by kernel_rfl) ?_
  obtain ⟨init,last,tail,s,n,rest,ht,hd',hl',hrm,hne,hn64,hall,hn1q,hn1,hn2,hn3⟩:=hK.back hdk hF ks
  have hFl:Fit 0 0 (init.flatten++last):=by
   rw [hall,Fit.app] at hF
   exact hF.1
  refine (lOpenHD Z (g:=g) (size:=sz) (R:=[own 50 16 (.slice xa (A1++A2).length xc) (A1++A2).length ((A1++A2).map Tx.cells).flatten,OwT (A1++A2),blk gx 25 P,old w]) (by omega) (by omega) hl' hd' ht hFl hne (by omega) hN hB (by simp) hS).mono fun r w19 hr=>?_
  obtain ⟨gm,us,d2,s',rfl,hus,k1,k2,k3,k4,_,hS⟩:=hr
  have hul:=tk_lenA hus
  rw [hn1q] at hul
  generalize hlg:(⟨3,sz,init.length+1,last.length,(lastZ 0 0 (init.flatten++last)).1,(lastZ 0 0 (init.flatten++last)).2,us⟩:Lg)=lg at *
  have hLn:(L1++L2).length=n+rest.length:=by rw [hall,List.length_append,hn1q]
  rw [List.length_append] at hLn
  have hwus:∀t ∈ us,WfQ t.q:=tk_wf hus fun t ht=>(hwL.2 t (by rw [hall]; exact List.mem_append_left _ ht)).2
  (try simp only [o_ext2_1,o_neq,bne_self_eq_false,o_pickF,guardW_ff,o_ext2_0,eqlp_33,condF])
  refine (lAll Z (l:=lg) (by rw [← hlg]; exact hwus) (by rw [← hlg]; show us.length * 168≤_; omega) hS).mono fun r w20 ⟨xs,hxs,hS⟩=>?_
  have hxs:xs.map tk=us.map tk:=by rw [← hlg] at hxs; exact hxs
  have hxl:xs.length=n:=(tk_lenA hxs).trans hul
  obtain ⟨xx,xy,rfl,_⟩:=own_capsA hS
  have e1:¬ (xs.length:Int) < told:=by omega
  (try simp only [ln_22_3,o_lss,e1,decide_false,o_pickF,guardW_ff,o_add,o_gtr])
  rw [wr_i64 (x:=(told:Int)+under) (by omega) (by omega)]
  have e2:¬ (told:Int)+under < (xs.length:Int):=by omega
  (try simp only [e2,decide_false,o_pickF,guardW_ff,ln_22_3])
  have hlA:(A1++A2).length=L1.length+L2.length:=by rw [List.length_append]; omega
  refine r1 (run_slice_to el22 xa (A1++A2).length xc .i64 _ (by omega) (by omega) _) ?_
  rw [Int.toNat_natCast]
  refine (eqTs Z (fun w hw=>OwT.rd hw) (fun w hw=>(OwT.rd hw.drop.drop.drop.drop).take xs.length (by omega)) hS).mono fun r w21 ⟨⟨b,hr,hb⟩,hS⟩=>?_
  subst hr
  have hxt:xs.map txK=((A1++A2).take xs.length).map txK:=by
   have h1:xs.map tk=(init.flatten++last).map tk:=hxs.trans hus
   have h2:((A1++A2).take xs.length).map tk=(init.flatten++last).map tk:=by
    rw [List.map_take,hA,hxl,← List.map_take,hall,List.take_left' hn1q]
   exact h1.trans h2.symm
  obtain rfl:=hb.2 hxt
  (try simp only [o_not,Bool.not_true,condF])
  intro j2 hj2
  have post2:∀w',St w w' [old w]→j2 w':=fun w' h=>hj2 _ fun _=>⟨by first | rfl | trivial,h⟩
  clear hj2
  by_cases d5:(xs.length:Int) < ((A1++A2).length:Int)
  ·(try simp only [d5,decide_true,o_pickT,guardW_true,o_eql,cond_beq])
   refine ⟨fun d6=>?_,fun _=>post2 _ (by (refine Sh.St.sub ?_ (hS); repeat (first | with_reducible (first | exact sub_refl | exact sub_nil | refine sP0 ?_ | refine sP1 ?_ | refine sP2 ?_ | refine sP3 ?_ | refine sP4 ?_ | refine sP5 ?_ | refine sP6 ?_ | refine sP7 ?_ | refine sP8 ?_ | refine sP9 ?_ | refine sP10 ?_ | refine sP11 ?_ | refine sP12 ?_ | refine sP13 ?_ | refine sP14 ?_ | refine sP15 ?_) | exact sub_refl | refine sP0 ?_ | refine sP1 ?_ | refine sP2 ?_ | refine sP3 ?_ | refine sP4 ?_ | refine sP5 ?_ | refine sP6 ?_ | refine sP7 ?_ | refine sP8 ?_ | refine sP9 ?_ | refine sP10 ?_ | refine sP11 ?_ | refine sP12 ?_ | refine sP13 ?_ | refine sP14 ?_ | refine sP15 ?_ | refine sub_drop ?_)))⟩
   have hn5:n < (A1++A2).length:=by omega
   have hrA:=OwT.rd hS.drop.drop.drop.drop
   obtain ⟨b1,p,cs,hp,_,hcv,hpc⟩:=(rowR_rd (c:=Tx.cells) (fun x=>rfl) hrA.1 rfl).ix el22 .i64 xs.length (by omega)
   subst hcv
   have hn6:xs.length < (A1++A2).length:=by omega
   refine r1 (hp _) (r_loadN ag50 (xs:=(A1++A2)[xs.length].cells) rfl (fun j u hu=>by rw [add_addr]; exact hpc j u hu) ?_)
   have hmem:(A1++A2)[xs.length] ∈ A1++A2:=List.getElem_mem hn6
   refine (copyT Z (A1++A2)[xs.length] (hwA.2 _ hmem).2 (fun w hw=>(OwT.rd hw.drop.drop.drop.drop).2 _ hmem) hS).mono fun r w22 ⟨t',hr,ht1,ht2,hS⟩=>?_
   subst hr
   have hhA:(A1++A2)[xs.length].hd=t'.hd:=ht1.symm
   have htA:tk (A1++A2)[xs.length]=tk ((L1++L2)[xs.length]'(by rw [List.length_append]; omega)):=by
    have h1:((A1++A2).map tk)[xs.length]? = ((L1++L2).map tk)[xs.length]? := by rw [hA]
    rw [List.getElem?_map,List.getElem?_map,List.getElem?_eq_getElem hn6,List.getElem?_eq_getElem (by rw [List.length_append]; omega)] at h1
    exact Option.some.inj h1
   have htt:tk t'=tk ((L1++L2)[xs.length]'(by rw [List.length_append]; omega)):=by
    rw [← htA]; unfold tk; rw [ht1,ht2]
   have hin:xs.length < (L1++L2).length:=by rw [List.length_append]; omega
   have htake:(L1++L2).take xs.length=init.flatten++last:=by rw [hxl,hall,List.take_left' hn1q]
   have hlk:lchk t' lg.e lg.n=0:=by
    rw [lchk_tk htt]
    have h1:=hF.at xs.length hin
    rw [htake] at h1
    rw [← hlg]; exact h1
   refine (lAppend Z (l:=lg) (d:=d2) t' (by rw [← hlg]; show 1≤init.length+1; omega) (by rw [← hlg]; show init.length+1≤_; omega) (by rw [← hlg]; exact ⟨show (1:Int)≤3 by omega,show (3:Int)≤_ by omega⟩) (by rw [← hlg]; show (us.length+1) * 168≤_; omega) (by rw [← hlg]; show last.length≤_; rw [List.length_append] at hn1q; omega) (wfQ_same _ _ ht2.symm (hwA.2 _ hmem).2) hN hB (R:=[OwQ t'.q,own 50 16 (.slice xa (A1++A2).length xc) (A1++A2).length ((A1++A2).map Tx.cells).flatten,OwT (A1++A2),blk gx 25 P,old w]) (by simp) (fun w hw=>OwQ.rd _ hw) (by (refine Sh.St.sub ?_ (hS); repeat (first | with_reducible (first | exact sub_refl | exact sub_nil | refine sP0 ?_ | refine sP1 ?_ | refine sP2 ?_ | refine sP3 ?_ | refine sP4 ?_ | refine sP5 ?_ | refine sP6 ?_ | refine sP7 ?_ | refine sP8 ?_ | refine sP9 ?_ | refine sP10 ?_ | refine sP11 ?_ | refine sP12 ?_ | refine sP13 ?_ | refine sP14 ?_ | refine sP15 ?_) | exact sub_refl | refine sP0 ?_ | refine sP1 ?_ | refine sP2 ?_ | refine sP3 ?_ | refine sP4 ?_ | refine sP5 ?_ | refine sP6 ?_ | refine sP7 ?_ | refine sP8 ?_ | refine sP9 ?_ | refine sP10 ?_ | refine sP11 ?_ | refine sP12 ?_ | refine sP13 ?_ | refine sP14 ?_ | refine sP15 ?_ | refine sub_drop ?_)))).mono fun r w23 hr=>?_
   have hfin:∃c:Int,r=.int .i64 c∧(c=0∨c=22)∧St w w23 [old w]:=by
    rcases hr with ⟨h1,_⟩ | ⟨_,rfl,h2⟩
    ·exact absurd hlk h1
    ·have hmem2:(L1++L2)[xs.length] ∈ L1++L2:=List.getElem_mem hin
     have hpc:=put_code (a:=3) (t:=(L1++L2)[xs.length]) (appN lg) (by omega) k2 k3 k1 (by omega) (fun x hx=>by
      rcases List.mem_append.1 hx with hx | hx
      ·exact hck x (by rw [hall]; exact List.mem_append_left _ hx)
      ·rw [List.mem_singleton.1 hx]; exact hck _ hmem2) (by rw [k4,hrm,hdr,List.length_append,hn1q]; simp only [List.length_cons,List.length_nil]; omega)
     rw [frT_tk (show [(L1++L2)[xs.length]].map tk=[t'].map tk by simp [htt])] at hpc
     refine ⟨_,rfl,hpc,?_⟩
     rcases h2 with ⟨_,hS⟩ | ⟨_,_,_,hS⟩
     ·(refine Sh.St.sub ?_ (hS); repeat (first | with_reducible (first | exact sub_refl | exact sub_nil | refine sP0 ?_ | refine sP1 ?_ | refine sP2 ?_ | refine sP3 ?_ | refine sP4 ?_ | refine sP5 ?_ | refine sP6 ?_ | refine sP7 ?_ | refine sP8 ?_ | refine sP9 ?_ | refine sP10 ?_ | refine sP11 ?_ | refine sP12 ?_ | refine sP13 ?_ | refine sP14 ?_ | refine sP15 ?_) | exact sub_refl | refine sP0 ?_ | refine sP1 ?_ | refine sP2 ?_ | refine sP3 ?_ | refine sP4 ?_ | refine sP5 ?_ | refine sP6 ?_ | refine sP7 ?_ | refine sP8 ?_ | refine sP9 ?_ | refine sP10 ?_ | refine sP11 ?_ | refine sP12 ?_ | refine sP13 ?_ | refine sP14 ?_ | refine sP15 ?_ | refine sub_drop ?_))
     ·(refine Sh.St.sub ?_ (hS); repeat (first | with_reducible (first | exact sub_refl | exact sub_nil | refine sP0 ?_ | refine sP1 ?_ | refine sP2 ?_ | refine sP3 ?_ | refine sP4 ?_ | refine sP5 ?_ | refine sP6 ?_ | refine sP7 ?_ | refine sP8 ?_ | refine sP9 ?_ | refine sP10 ?_ | refine sP11 ?_ | refine sP12 ?_ | refine sP13 ?_ | refine sP14 ?_ | refine sP15 ?_) | exact sub_refl | refine sP0 ?_ | refine sP1 ?_ | refine sP2 ?_ | refine sP3 ?_ | refine sP4 ?_ | refine sP5 ?_ | refine sP6 ?_ | refine sP7 ?_ | refine sP8 ?_ | refine sP9 ?_ | refine sP10 ?_ | refine sP11 ?_ | refine sP12 ?_ | refine sP13 ?_ | refine sP14 ?_ | refine sP15 ?_ | refine sub_drop ?_))
   clear hr
   obtain ⟨c,rfl,hc,hS⟩:=hfin
   rcases hc with rfl | rfl
   ·(try simp only [o_neq,bne_self_eq_false,o_pickF,condF,guardW_ft])
    exact post2 _ hS
   ·(try simp only [o_neq,Int.reduceBNe,o_pickT,guardW_true,bne_self_eq_false,condF])
    exact post2 _ hS
  ·(try simp only [d5,decide_false,o_pickF,condF,guardW_ft])
   exact post2 _ (by (refine Sh.St.sub ?_ (hS); repeat (first | with_reducible (first | exact sub_refl | exact sub_nil | refine sP0 ?_ | refine sP1 ?_ | refine sP2 ?_ | refine sP3 ?_ | refine sP4 ?_ | refine sP5 ?_ | refine sP6 ?_ | refine sP7 ?_ | refine sP8 ?_ | refine sP9 ?_ | refine sP10 ?_ | refine sP11 ?_ | refine sP12 ?_ | refine sP13 ?_ | refine sP14 ?_ | refine sP15 ?_) | exact sub_refl | refine sP0 ?_ | refine sP1 ?_ | refine sP2 ?_ | refine sP3 ?_ | refine sP4 ?_ | refine sP5 ?_ | refine sP6 ?_ | refine sP7 ?_ | refine sP8 ?_ | refine sP9 ?_ | refine sP10 ?_ | refine sP11 ?_ | refine sP12 ?_ | refine sP13 ?_ | refine sP14 ?_ | refine sP15 ?_ | refine sub_drop ?_)))
 clear hj
 refine ⟨fun m a b y w'=>∃i us init last d,a=.int .i64 ((L1.length+i:Nat):Int)∧b=.int .i64 ((0:Nat):Int)∧y=.int .i64 (i:Nat)∧i≤L2.length∧m+i=L2.length∧Seg sz init last∧init.flatten++last=L1++L2.take i∧us.map tk=(init.flatten++last).map tk∧HD d 3 (sgL (init++[last]))∧d.ok∧d.on=true∧d.room=16777216∧init.length+1≤64 ∧
  St w w' (LgM gl g (lgS sz init last us)::DiskM g d::[own 50 16 (.slice xa (A1++A2).length xc) (A1++A2).length ((A1++A2).map Tx.cells).flatten,OwT (A1++A2),blk gx 25 P,old w]),⟨L2.length,0,us1,i1,l1,d0,rfl,rfl,rfl,Nat.zero_le _,rfl,q2,by rw [q3]; simp,by rw [q3]; exact q1,qh,qk,qo,qr,by omega,by (refine Sh.St.sub ?_ (hS); repeat (first | with_reducible (first | exact sub_refl | exact sub_nil | refine sP0 ?_ | refine sP1 ?_ | refine sP2 ?_ | refine sP3 ?_ | refine sP4 ?_ | refine sP5 ?_ | refine sP6 ?_ | refine sP7 ?_ | refine sP8 ?_ | refine sP9 ?_ | refine sP10 ?_ | refine sP11 ?_ | refine sP12 ?_ | refine sP13 ?_ | refine sP14 ?_ | refine sP15 ?_) | exact sub_refl | refine sP0 ?_ | refine sP1 ?_ | refine sP2 ?_ | refine sP3 ?_ | refine sP4 ?_ | refine sP5 ?_ | refine sP6 ?_ | refine sP7 ?_ | refine sP8 ?_ | refine sP9 ?_ | refine sP10 ?_ | refine sP11 ?_ | refine sP12 ?_ | refine sP13 ?_ | refine sP14 ?_ | refine sP15 ?_ | refine sub_drop ?_))⟩,?_⟩
 clear hS
 rintro m _ _ _ w17 ⟨i,us,init,last,d,rfl,rfl,rfl,hi,hm,hsg,hfl,hus,hd,hdk,hdo,hdr,h64,hS⟩ _
 have hcnt:(init.flatten++last).length=L1.length+i:=by rw [hfl,List.length_append,List.length_take]; omega
 have hlast:=hsg.2.1
 have hne:=hsg.ne (by omega)
 have hkeep0:KeepS (L1++L2) (L1.length+i) 0 d:=⟨init,last,[],L2.drop i,sg_end _ _ _ _ hd,hne,by omega,by rw [hfl,List.append_nil,List.append_assoc,List.take_append_drop],hcnt.symm,Nat.le_refl _,by omega⟩
 refine r_load one22 (hS.at m4 1 p1) ?_
 by_cases hlt:(i:Int) < (L2.length:Int)
 ·have hi1:i < L2.length:=by omega
  (try simp only [o_add,ln_22_3,o_lss,hlt,decide_true,condT])
  refine r_load one22 (hS.at m4 1 p1) ?_
  obtain ⟨b1,p,cs,hp,_,hcv,hpc⟩:=(rowR_rd (c:=Tx.cells) (fun x=>rfl) (hv2 _ m5 w17 hS).1 rfl).ix el22 .i64 i hi1
  subst hcv
  refine r1 (hp _) (r_loadN ag50 (xs:=L2[i].cells) rfl (fun j u hu=>by rw [add_addr]; exact hpc j u hu) ?_)
  refine (copyT Z L2[i] (hw2.2 _ (List.getElem_mem hi1)).2 (fun w hw=>(hv2 _ m5 w hw).2 _ (List.getElem_mem hi1)) hS).mono fun r w18 ⟨t',hr,ht1,ht2,hS⟩=>?_
  subst hr
  have htt:tk t'=tk L2[i]:=by unfold tk; rw [ht1,ht2]
  have hall:init.flatten++last++[L2[i]]=L1++L2.take (i+1):=by rw [hfl,List.take_succ_eq_append_getElem hi1,List.append_assoc]
  have hall2:L1++L2=init.flatten++last++[L2[i]]++L2.drop (i+1):=by rw [hall,List.append_assoc,List.take_append_drop]
  have hFi:Fit 0 0 (init.flatten++last++[L2[i]]):=by
   rw [hall2,Fit.app] at hF
   exact hF.1
  refine (lStep Z (size:=sz) (init:=init) (last:=last) (us:=us) (d:=d) htt (by omega) hus hdo hd h64 (by omega) hFi (by rw [hall,List.length_append,List.length_take]; omega) hdr (wfQ_same _ _ ht2.symm (hw2.2 _ (List.getElem_mem hi1)).2) hN hB (R:=[OwQ t'.q,own 50 16 (.slice xa (A1++A2).length xc) (A1++A2).length ((A1++A2).map Tx.cells).flatten,OwT (A1++A2),blk gx 25 P,old w]) (by simp) (fun w hw=>OwQ.rd _ hw) (by (refine Sh.St.sub ?_ (hS); repeat (first | with_reducible (first | exact sub_refl | exact sub_nil | refine sP0 ?_ | refine sP1 ?_ | refine sP2 ?_ | refine sP3 ?_ | refine sP4 ?_ | refine sP5 ?_ | refine sP6 ?_ | refine sP7 ?_ | refine sP8 ?_ | refine sP9 ?_ | refine sP10 ?_ | refine sP11 ?_ | refine sP12 ?_ | refine sP13 ?_ | refine sP14 ?_ | refine sP15 ?_) | exact sub_refl | refine sP0 ?_ | refine sP1 ?_ | refine sP2 ?_ | refine sP3 ?_ | refine sP4 ?_ | refine sP5 ?_ | refine sP6 ?_ | refine sP7 ?_ | refine sP8 ?_ | refine sP9 ?_ | refine sP10 ?_ | refine sP11 ?_ | refine sP12 ?_ | refine sP13 ?_ | refine sP14 ?_ | refine sP15 ?_ | refine sub_drop ?_)))).mono fun r w19 hr=>?_
  rcases hr with ⟨us',d',rfl,s1,s2,s3,s4,s5,s6,s7,hS⟩ | ⟨rfl,s1,hS⟩ | ⟨d',rfl,s1,s2,s3,s4,s5,s6,hS⟩
  ·(try simp only [o_neq,Int.reduceBNe,o_pickT,guardW_true,condT,o_eql,Int.reduceBEq,condF,beq_self_eq_true])
   rw [wr_i64 (x:=((L1.length+i:Nat):Int)+1) (by omega) (by omega),wr_i64 (x:=(i:Int)+1) (by omega) (by omega)]
   refine ⟨m - 1,by omega,i+1,us',_,_,d',by simp; omega,by first | rfl | trivial,by first | rfl | trivial,by omega,by omega,nx_seg hsg (by omega) L2[i],by rw [nx_flat,hall],by rw [nx_flat]; exact s1,s2,s6,s3,by rw [s5,hdr],s7,by (refine Sh.St.sub ?_ (hS); repeat (first | with_reducible (first | exact sub_refl | exact sub_nil | refine sP0 ?_ | refine sP1 ?_ | refine sP2 ?_ | refine sP3 ?_ | refine sP4 ?_ | refine sP5 ?_ | refine sP6 ?_ | refine sP7 ?_ | refine sP8 ?_ | refine sP9 ?_ | refine sP10 ?_ | refine sP11 ?_ | refine sP12 ?_ | refine sP13 ?_ | refine sP14 ?_ | refine sP15 ?_) | exact sub_refl | refine sP0 ?_ | refine sP1 ?_ | refine sP2 ?_ | refine sP3 ?_ | refine sP4 ?_ | refine sP5 ?_ | refine sP6 ?_ | refine sP7 ?_ | refine sP8 ?_ | refine sP9 ?_ | refine sP10 ?_ | refine sP11 ?_ | refine sP12 ?_ | refine sP13 ?_ | refine sP14 ?_ | refine sP15 ?_ | refine sub_drop ?_))⟩
  ·(try simp only [o_neq,Int.reduceBNe,o_pickT,guardW_true,bne_self_eq_false,condF,o_eql,Int.reduceBEq])
   intro j3 hj3
   refine hj3 _ _ fun _=>?_
   skip
   exact post _ 0 _ d hkeep0 hdk hdr (by (refine Sh.St.sub ?_ (hS); repeat (first | with_reducible (first | exact sub_refl | exact sub_nil | refine sP0 ?_ | refine sP1 ?_ | refine sP2 ?_ | refine sP3 ?_ | refine sP4 ?_ | refine sP5 ?_ | refine sP6 ?_ | refine sP7 ?_ | refine sP8 ?_ | refine sP9 ?_ | refine sP10 ?_ | refine sP11 ?_ | refine sP12 ?_ | refine sP13 ?_ | refine sP14 ?_ | refine sP15 ?_) | exact sub_refl | refine sP0 ?_ | refine sP1 ?_ | refine sP2 ?_ | refine sP3 ?_ | refine sP4 ?_ | refine sP5 ?_ | refine sP6 ?_ | refine sP7 ?_ | refine sP8 ?_ | refine sP9 ?_ | refine sP10 ?_ | refine sP11 ?_ | refine sP12 ?_ | refine sP13 ?_ | refine sP14 ?_ | refine sP15 ?_ | refine sub_drop ?_)))
  ·have hkeep1:KeepS (L1++L2) (L1.length+i) 1 d':=by
    rcases s6 with s6 | ⟨hf,s6⟩ | s6
    ·exact ⟨init,last,[],L2.drop i,s6,hne,by omega,by rw [hfl,List.append_nil,List.append_assoc,List.take_append_drop],hcnt.symm,by simp,by omega⟩
    ·refine ⟨init++[last],[],[L2[i]],L2.drop (i+1),s6,fun z hz=>?_,by simp; omega,by rw [hall2]; simp,by rw [← hcnt]; simp,by simp,by omega⟩
     rcases List.mem_append.1 hz with hz | hz
     ·exact hne z hz
     ·rw [List.mem_singleton.1 hz]
      intro e
      rw [e] at hf; simp at hf; omega
    ·exact ⟨init,last,[L2[i]],L2.drop (i+1),s6,hne,by omega,hall2,hcnt.symm,by simp,by omega⟩
   (try simp only [o_neq,bne_self_eq_false,o_pickF,condF,guardW_ft,o_eql,beq_self_eq_true,condT,Int.reduceBEq])
   intro j3 hj3
   refine hj3 _ _ fun _=>?_
   skip
   exact post _ 1 _ d' hkeep1 s5 (by rw [s4,hdr]) (by (refine Sh.St.sub ?_ (hS); repeat (first | with_reducible (first | exact sub_refl | exact sub_nil | refine sP0 ?_ | refine sP1 ?_ | refine sP2 ?_ | refine sP3 ?_ | refine sP4 ?_ | refine sP5 ?_ | refine sP6 ?_ | refine sP7 ?_ | refine sP8 ?_ | refine sP9 ?_ | refine sP10 ?_ | refine sP11 ?_ | refine sP12 ?_ | refine sP13 ?_ | refine sP14 ?_ | refine sP15 ?_) | exact sub_refl | refine sP0 ?_ | refine sP1 ?_ | refine sP2 ?_ | refine sP3 ?_ | refine sP4 ?_ | refine sP5 ?_ | refine sP6 ?_ | refine sP7 ?_ | refine sP8 ?_ | refine sP9 ?_ | refine sP10 ?_ | refine sP11 ?_ | refine sP12 ?_ | refine sP13 ?_ | refine sP14 ?_ | refine sP15 ?_ | refine sub_drop ?_)))
 ·(try simp only [o_add,ln_22_3,o_lss,hlt,decide_false,condF])
  exact post _ 0 _ d hkeep0 hdk hdr (by (refine Sh.St.sub ?_ (hS); repeat (first | with_reducible (first | exact sub_refl | exact sub_nil | refine sP0 ?_ | refine sP1 ?_ | refine sP2 ?_ | refine sP3 ?_ | refine sP4 ?_ | refine sP5 ?_ | refine sP6 ?_ | refine sP7 ?_ | refine sP8 ?_ | refine sP9 ?_ | refine sP10 ?_ | refine sP11 ?_ | refine sP12 ?_ | refine sP13 ?_ | refine sP14 ?_ | refine sP15 ?_) | exact sub_refl | refine sP0 ?_ | refine sP1 ?_ | refine sP2 ?_ | refine sP3 ?_ | refine sP4 ?_ | refine sP5 ?_ | refine sP6 ?_ | refine sP7 ?_ | refine sP8 ?_ | refine sP9 ?_ | refine sP10 ?_ | refine sP11 ?_ | refine sP12 ?_ | refine sP13 ?_ | refine sP14 ?_ | refine sP15 ?_ | refine sub_drop ?_)))
end

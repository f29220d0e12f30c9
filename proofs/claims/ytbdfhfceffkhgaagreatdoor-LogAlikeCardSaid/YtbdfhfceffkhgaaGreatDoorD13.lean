
/- Rows of files; Disks: Image, Used; From. -/
import Derived.Test.YtbdfhfceffkhgaaGreatDoorD9
set_option linter.unusedVariables false
set_option linter.unusedSimpArgs false
namespace Go.Proofs.YtbdfhfceffkhgaaGreatDoor
open Go.Sh
open Tryz renaming prog → π
structure Fi where
 nm:Bs
 by_:Bs
 sy:Int
def fic (p:Fi × Value):List Value:=[.string (str p.1.nm),p.2,.int .i64 p.1.sy]
def Fil.fi (f:Fil):Fi:=⟨f.nm,f.by_,f.sy⟩
def toFi (p:Fil × Value):Fi × Value:=(p.1.fi,p.2)
theorem fic_cut {L:List (Fi × Value)} {i:Nat} (hi:i < L.length):((L.flatMap fic).drop (i * 3)).take 3=fic L[i]:=by
 have h:=flatten_cut (sz:=3) (css:=L.map fic) (fun c hc=>by obtain ⟨q,_,rfl⟩:=List.mem_map.1 hc; rfl) i (by rw [List.length_map]; exact hi)
 rw [List.getElem_map] at h
 exact h
theorem toFi_cells (L:List (Fil × Value)):(L.map toFi).flatMap fic=L.flatMap fc:=by
 rw [List.flatMap_map]; rfl
def RdFi (w:World) (x:Value) (L:List (Fi × Value)):Prop:=Rd w 3 x L.length (L.flatMap fic)∧∀p ∈ L,Rd w 1 p.2 p.1.by_.length (cb p.1.by_)
section
variable {o w:World} {R As:List HProp}
theorem RdFi.ix {x:Value} {L:List (Fi × Value)} (h:RdFi w x L) (i:Nat) (hi:i < L.length) :
  ∃b q,(∀w,(Instr.indexAt 56 x (.int .i64 i)).run π w=.ok (.pointer (some ⟨b,q,none⟩)) w)∧∀w',RdFi w' x L→∀j u,(fic L[i])[j]? = some u→w'.cell? ⟨b,q+j,none⟩=some u:=by
 obtain ⟨b,q,hp,hc⟩:=h.1.adr el56 .i64 i hi
 rw [fic_cut hi] at hc
 exact ⟨b,q,hp,fun w' h'=>hc w' h'.1⟩
theorem RdFi.drew {x:Value} {L:List (Fi × Value)} {w':World} (h:RdFi w x L) (hd:Drew w w'):RdFi w' x L:=⟨h.1.drew hd,fun p hp=>(h.2 p hp).drew hd⟩
theorem RdFi.one {x:Value} {L:List (Fi × Value)} (h:RdFi w x L) {i:Nat} (hi:i < L.length):ones (fic L[i]):=by
 obtain ⟨a,c,e⟩:=(h.2 _ (List.getElem_mem hi)).form
 intro u hu
 simp only [fic,List.mem_cons,List.not_mem_nil,or_false] at hu
 rcases hu with rfl | rfl | rfl
 ·rfl
 ·rw [e]; rfl
 ·rfl
theorem own_rdFi {v:Value} {L:List (Fil × Value)} (h:St o w (own 94 3 v L.length (L.flatMap fc)::satH (L.map fb)::R)):RdFi w v (L.map toFi):=by
 refine ⟨by rw [toFi_cells,List.length_map]; exact h.own_rd m0,fun p hp=>?_⟩
 obtain ⟨q,hq,rfl⟩:=List.mem_map.1 hp
 obtain ⟨i,hi,rfl⟩:=List.getElem_of_mem hq
 exact fb_rd h.drop i hi
end
section
variable (Z:PZ) {o w:World} {R As:List HProp} {g u:Nat} {d:Dk} {v:Value} {L:List (Fil × Value)}
theorem dImage (h:St o w (DiskM g d::R)):CallV π Z 19 #[.pointer (some ⟨g,0,none⟩)] w fun r w'=>∃L':List (Fil × Value),L'.map (·.1)=d.fs∧St o w' (own 94 3 r L'.length (L'.flatMap fc)::satH (L'.map fb)::DiskM g d::R):=by
 obtain ⟨v,L,hk,hL,hS⟩:=DiskM.open h
 have hlen:L.length=d.fs.length:=by rw [← hL,List.length_map]
 have hmany:=hk.many
 have hused:=hk.used
 have hroom:=hk.room
 unfold DiskO at hS
 refine f19.calls ?_
 unfold f19.sh
 refine (dZero Z hS m0).mono fun r w1 ⟨hr,hw⟩=>?_
 subst hr; subst hw
 (try simp only [o_chk,fa_76_0,Nat.add_zero,fa_74_0,condF])
 refine r_load one72 (hS.at m0 0 rfl) ?_
 obtain ⟨va,vc,hvf⟩:=Fils.form hS m1
 rw [hvf]
 (try simp only [ln_72_3])
 rw [← hvf]
 refine ⟨fun m a y w'=>∃(i:Nat) (L':List (Fil × Value)),y=.int .i64 i∧m+i=L.length∧L'.map (·.1)=(L.take i).map (·.1)∧St o w' (own 94 3 a i (L'.flatMap fc)::satH (L'.map fb)::blk g 76 (dcells v (total d.fs) d)::Fils v L::satH (L.map fb)::R),⟨L.length,0,[],rfl,rfl,rfl,(St.all_intro (As:=[]) hS).own_nil 94 3⟩,?_⟩
 clear hS
 rintro m a _ w2 ⟨i,L',rfl,hi,hL',hS⟩ _
 have hl':L'.length=i:=by have:=congrArg List.length hL'; simp only [List.length_map,List.length_take] at this; omega
 by_cases hlt:(i:Int) < (L.length:Int)
 ·have hil:i < L.length:=by omega
  (try simp only [o_add,o_lss,hlt,decide_true,condT])
  obtain ⟨b,q,hp',hc⟩:=Fils.ix hS m3 i hil
  have hfo:ones (fc L[i]):=fun u hu=>fc_ones (fb_one hS.drop.drop.drop.drop) u (List.mem_flatMap.2 ⟨L[i],List.getElem_mem hil,hu⟩)
  have hbl:L[i].1.by_.length≤total d.fs:=total_ge (by rw [← hL]; exact List.mem_map_of_mem (List.getElem_mem hil))
  refine r1 (hp' _) (r_loadN ag97 (xs:=fc L[i]) rfl (fun j u hu=>by rw [add_addr]; exact hc j u hu) ?_)
  refine r_alloc hS ze97 fun g2 w3 hS=>?_
  refine r_storeN hS ag97 (xs:=fc L[i]) rfl (by simp [Value.cells]) hfo fun w4 hS=>?_
  rw [setL_all _ _ (by simp [Value.cells,fc])] at hS
  (try simp only [fa_97_2p,Nat.zero_add,fa_97_1p,fa_97_0p,Nat.add_zero])
  refine ⟨fun w5 hd=>?_⟩
  have hS:=hS.drew hd
  skip
  refine rr_load one9 (hS.at m0 0 rfl) ?_
  skip
  refine rr_load one43 (hS.at m0 1 rfl) ?_
  skip
  refine rr_load one3 (hS.at m0 2 rfl) ?_
  refine (copied Z (l:=L[i].1.by_) hS (fun w hS=>fb_rd hS.drop.drop.drop.drop.drop i hil) (by omega)).mono fun r w6 hS=>?_
  refine rs_load one3 (hS.at m1 2 rfl) (rs_load one9 (hS.at m1 0 rfl) ?_)
  obtain ⟨ra,rc,hrf⟩:=hS.own_form
  have hbu:π.built 94 #[(0,.string (str L[i].1.nm)),(1,r),(2,.int .i64 L[i].1.sy)].toList=some #[.string (str L[i].1.nm),r,.int .i64 L[i].1.sy]:=by rw [hrf]; kernel_rfl
  refine rp_build hbu ?_
  have hro:r.oneCell'=true:=by rw [hrf]; rfl
  have hqo:ones (fc (L[i].1,r)):=by
   intro u hu
   simp only [fc,List.mem_cons,List.not_mem_nil,or_false] at hu
   rcases hu with rfl | rfl | rfl
   ·rfl
   ·exact hro
   ·rfl
  refine r_sliceN el56 hS 1 _ [fc (L[i].1,r)] rfl (by omega) (by omega) (by omega) (by simp [fc]) rfl fun g3 w7 hS=>?_
  have e1:[fc (L[i].1,r)].flatten=fc (L[i].1,r):=by simp
  rw [e1] at hS
  refine rs_load one3 (hS.at m2 2 rfl) (rs_load one9 (hS.at m2 0 rfl) ?_)
  have hsrc:=(hS.own_rd m0).src Tryz.underlying56 hqo
  refine r_append el56 (hS.pick 3) hsrc (by omega) (by simp only [maxLen]; omega) fun v' w8 hS=>?_
  refine rs_load one3 (hS.at m3 2 rfl) (rs_load one9 (hS.at m3 0 rfl) ?_)
  skip
  rw [wr_i64 (x:=(i:Int)+1) (by omega) (by omega)]
  refine ⟨m - 1,by omega,i+1,L'++[(L[i].1,r)],rfl,by omega,by rw [List.map_append,hL',List.take_succ_eq_append_getElem hil,List.map_append]; rfl,?_⟩
  rw [List.flatMap_append,List.map_append]
  have e2:[(L[i].1,r)].flatMap fc=fc (L[i].1,r):=by simp
  rw [e2]
  have hS2:St o w8 (satH (L'.map fb)::fb (L[i].1,r)::own 94 3 v' (i+1) (L'.flatMap fc++fc (L[i].1,r))::blk g 76 (dcells v (total d.fs) d)::Fils v L::satH (L.map fb)::R):=by
   have:St o w8 (own 94 3 v' (i+1) (L'.flatMap fc++fc (L[i].1,r))::_::fb (L[i].1,r)::_::satH (L'.map fb)::blk g 76 (dcells v (total d.fs) d)::Fils v L::satH (L.map fb)::R):=hS
   (refine Sh.St.sub ?_ (this); repeat (first | with_reducible (first | exact sub_refl | exact sub_nil | refine sP0 ?_ | refine sP1 ?_ | refine sP2 ?_ | refine sP3 ?_ | refine sP4 ?_ | refine sP5 ?_ | refine sP6 ?_ | refine sP7 ?_ | refine sP8 ?_ | refine sP9 ?_ | refine sP10 ?_ | refine sP11 ?_ | refine sP12 ?_ | refine sP13 ?_ | refine sP14 ?_ | refine sP15 ?_) | exact sub_refl | refine sP0 ?_ | refine sP1 ?_ | refine sP2 ?_ | refine sP3 ?_ | refine sP4 ?_ | refine sP5 ?_ | refine sP6 ?_ | refine sP7 ?_ | refine sP8 ?_ | refine sP9 ?_ | refine sP10 ?_ | refine sP11 ?_ | refine sP12 ?_ | refine sP13 ?_ | refine sP14 ?_ | refine sP15 ?_ | refine sub_drop ?_))
  exact hS2.all_snoc.swap
 ·obtain rfl:i=L.length:=by omega
  rw [List.take_length,hL] at hL'
  (try simp only [o_add,o_lss,hlt,decide_false,condF])
  refine ⟨L',hL',?_⟩
  rw [hl']
  have h2:St o w2 (blk g 76 (dcells v (total d.fs) d)::Fils v L::satH (L.map fb)::own 94 3 a L.length (L'.flatMap fc)::satH (L'.map fb)::R):=by (refine Sh.St.sub ?_ (hS); repeat (first | with_reducible (first | exact sub_refl | exact sub_nil | refine sP0 ?_ | refine sP1 ?_ | refine sP2 ?_ | refine sP3 ?_ | refine sP4 ?_ | refine sP5 ?_ | refine sP6 ?_ | refine sP7 ?_ | refine sP8 ?_ | refine sP9 ?_ | refine sP10 ?_ | refine sP11 ?_ | refine sP12 ?_ | refine sP13 ?_ | refine sP14 ?_ | refine sP15 ?_) | exact sub_refl | refine sP0 ?_ | refine sP1 ?_ | refine sP2 ?_ | refine sP3 ?_ | refine sP4 ?_ | refine sP5 ?_ | refine sP6 ?_ | refine sP7 ?_ | refine sP8 ?_ | refine sP9 ?_ | refine sP10 ?_ | refine sP11 ?_ | refine sP12 ?_ | refine sP13 ?_ | refine sP14 ?_ | refine sP15 ?_ | refine sub_drop ?_))
  exact ((DiskM.shut hk hL rfl h2).put 2)
end
end Go.Proofs.YtbdfhfceffkhgaaGreatDoor


/- Disks: Used, Start. -/
set_option linter.unusedVariables false
set_option linter.unusedSimpArgs false
namespace Go.Proofs.YtbdfhfceffkhgaaGreatDoor
open Go.Sh
open Tryz renaming prog → π
section
variable (Z:PZ) {o w:World} {R As:List HProp} {g u:Nat} {d:Dk} {v:Value} {L:List (Fil × Value)}
end
end Go.Proofs.YtbdfhfceffkhgaaGreatDoor


/- Rows of files compared (as in R3). -/
set_option linter.unusedVariables false
set_option linter.unusedSimpArgs false
namespace Go.Proofs.YtbdfhfceffkhgaaGreatDoor
open Go.Sh
open Tryz renaming prog → π
theorem fi_map (L:List (Fil × Value)):(L.map toFi).map (·.1)=(L.map (·.1)).map Fil.fi:=by
 rw [List.map_map,List.map_map]; rfl
section
variable (Z:PZ) {o w:World} {R As:List HProp} {g u:Nat} {d:Dk} {v:Value} {L:List (Fil × Value)}
theorem eqFiles {x y:Value} {l k:List (Fi × Value)} (hx:RdFi w x l) (hy:RdFi w y k) (he:l.map (·.1)=k.map (·.1)):CallV π Z 18 #[x,y] w fun r w'=>r=.bool true∧Drew w w':=by
 obtain ⟨xa,xc,hxf⟩:=hx.1.form
 obtain ⟨ya,yc,hyf⟩:=hy.1.form
 have hlx:=hx.1.2.1
 simp only [maxLen] at hlx
 have hlen:l.length=k.length:=by have:=congrArg List.length he; simpa using this
 refine f18.calls ?_
 unfold f18.sh
 rw [hlen] at hxf
 rw [hxf,hyf]
 have e0:(((k.length:Nat):Int) != ((k.length:Nat):Int))=false:=by simp
 (try simp only [ln_56_3,o_neq,e0,condF])
 rw [← hxf,← hyf]
 refine ⟨fun m y w'=>∃i:Nat,y=.int .i64 i∧m+i=k.length∧Drew w w',⟨k.length,0,rfl,rfl,Drew.refl _⟩,?_⟩
 rintro m _ w1 ⟨i,rfl,hi,hd⟩ _
 have hx1:=hx.drew hd
 have hy1:=hy.drew hd
 by_cases hlt:(i:Int) < (k.length:Int)
 ·have hil:i < l.length:=by omega
  have hik:i < k.length:=by omega
  rw [hxf]
  (try simp only [o_add,o_lss,hlt,decide_true,condT])
  rw [← hxf]
  have hei:l[i].1=k[i].1:=by
   have h1:(l.map (·.1))[i]? = (k.map (·.1))[i]? := by rw [he]
   rw [List.getElem?_map,List.getElem?_map,List.getElem?_eq_getElem hil,List.getElem?_eq_getElem hik] at h1
   simpa using h1
  refine ⟨fun w2 hd2=>?_⟩
  have hx2:=hx1.drew hd2
  have hy2:=hy1.drew hd2
  obtain ⟨b,q,hp,hc⟩:=hx2.ix i hil
  obtain ⟨b',q',hp',hc'⟩:=hy2.ix i hik
  refine rp hp ?_
  (try simp only [fa_94_0p,Nat.add_zero])
  refine rr_load one9 (hc w2 hx2 0 _ rfl) (rp hp' ?_)
  (try simp only [fa_94_0p,Nat.add_zero])
  refine rr_load one9 (hc' w2 hy2 0 _ rfl) (rp (fun w=>run_neq_str _ _ _ _ _ w) ?_)
  have e1:(!((str l[i].1.nm).toList == (str k[i].1.nm).toList))=false:=by rw [hei]; simp
  rw [e1]
  (try simp only [still_ff,o_pickFp,guardV_ff])
  refine rp hp ?_
  (try simp only [fa_94_2p])
  refine rr_load one3 (hc w2 hx2 2 _ rfl) (rp hp' ?_)
  (try simp only [fa_94_2p])
  refine rr_load one3 (hc' w2 hy2 2 _ rfl) ?_
  have e2:(l[i].1.sy != k[i].1.sy)=false:=by rw [hei]; simp
  (try simp only [o_neqp,e2,o_pickFp,guardV_ff,guardW_ff])
  refine rp hp ?_
  (try simp only [fa_94_1p])
  refine rr_load one43 (hc w2 hx2 1 _ rfl) (rp hp' ?_)
  (try simp only [fa_94_1p])
  refine rr_load one43 (hc' w2 hy2 1 _ rfl) ?_
  refine (eqBytes Z (hx2.2 l[i] (List.getElem_mem hil)) (hy2.2 k[i] (List.getElem_mem hik))).mono fun r w3 ⟨hr,hd3⟩=>?_
  rw [show decide (l[i].1.by_=k[i].1.by_)=true by rw [hei]; simp] at hr
  subst hr
  have hx3:=hx2.drew hd3
  have hy3:=hy2.drew hd3
  refine rs_load one3 (hc' w3 hy3 2 _ rfl) (rs_load one3 (hc w3 hx3 2 _ rfl) (rs_load one9 (hc' w3 hy3 0 _ rfl) (rs_load one9 (hc w3 hx3 0 _ rfl) ?_)))
  (try simp only [o_notp,Bool.not_true,condF])
  rw [wr_i64 (x:=(i:Int)+1) (by omega) (by omega)]
  exact ⟨m - 1,by omega,i+1,rfl,by omega,(hd.trans hd2).trans hd3⟩
 ·obtain rfl:i=k.length:=by omega
  rw [hxf]
  (try simp only [o_add,o_lss,hlt,decide_false,condF])
  exact ⟨by first | rfl | trivial,hd⟩
end


/- Rows of files; Disks: Image, Used; From. -/
import Derived.Test.YtbdfhfceffkhgaaGreatDoorD9
set_option linter.unusedVariables false
set_option linter.unusedSimpArgs false
namespace Go.Proofs.YtbdfhfceffkhgaaGreatDoor
open Go.Sh
open Tryz renaming prog → π
structure Fi where
 nm:Bs
 by_:Bs
 sy:Int
def fic (p:Fi × Value):List Value:=[.string (str p.1.nm),p.2,.int .i64 p.1.sy]
theorem fic_cut {L:List (Fi × Value)} {i:Nat} (hi:i < L.length):((L.flatMap fic).drop (i * 3)).take 3=fic L[i]:=by
 have h:=flatten_cut (sz:=3) (css:=L.map fic) (fun c hc=>by obtain ⟨q,_,rfl⟩:=List.mem_map.1 hc; rfl) i (by rw [List.length_map]; exact hi)
 rw [List.getElem_map] at h
 exact h
def RdFi (w:World) (x:Value) (L:List (Fi × Value)):Prop:=Rd w 3 x L.length (L.flatMap fic)∧∀p ∈ L,Rd w 1 p.2 p.1.by_.length (cb p.1.by_)
section
variable {o w:World} {R As:List HProp}
theorem RdFi.ix {x:Value} {L:List (Fi × Value)} (h:RdFi w x L) (i:Nat) (hi:i < L.length) :
  ∃b q,(∀w,(Instr.indexAt 56 x (.int .i64 i)).run π w=.ok (.pointer (some ⟨b,q,none⟩)) w)∧∀w',RdFi w' x L→∀j u,(fic L[i])[j]? = some u→w'.cell? ⟨b,q+j,none⟩=some u:=by
 obtain ⟨b,q,hp,hc⟩:=h.1.adr el56 .i64 i hi
 rw [fic_cut hi] at hc
 exact ⟨b,q,hp,fun w' h'=>hc w' h'.1⟩
theorem RdFi.drew {x:Value} {L:List (Fi × Value)} {w':World} (h:RdFi w x L) (hd:Drew w w'):RdFi w' x L:=⟨h.1.drew hd,fun p hp=>(h.2 p hp).drew hd⟩
theorem RdFi.one {x:Value} {L:List (Fi × Value)} (h:RdFi w x L) {i:Nat} (hi:i < L.length):ones (fic L[i]):=by
 obtain ⟨a,c,e⟩:=(h.2 _ (List.getElem_mem hi)).form
 intro u hu
 simp only [fic,List.mem_cons,List.not_mem_nil,or_false] at hu
 rcases hu with rfl | rfl | rfl
 ·rfl
 ·rw [e]; rfl
 ·rfl
end
section
variable (Z:PZ) {o w:World} {R As:List HProp} {g u:Nat} {d:Dk} {v:Value} {L:List (Fil × Value)}
end
end Go.Proofs.YtbdfhfceffkhgaaGreatDoor


/- Disks: Used, Start. -/
set_option linter.unusedVariables false
set_option linter.unusedSimpArgs false
namespace Go.Proofs.YtbdfhfceffkhgaaGreatDoor
open Go.Sh
open Tryz renaming prog → π
def leftO (tail:Nat):Option Int→Nat
 | none=>0
 | some k=>left tail k
theorem leftO_le (t:Nat) (k:Option Int):leftO t k≤t:=by
 unfold leftO
 split
 ·exact Nat.zero_le _
 ·exact Nat.min_le_left _ _
def keep1 (f:Fil) (k:Option Int):Fil:=⟨f.nm,f.by_.take (f.sy+leftO (f.by_.length - f.sy) k),f.sy+leftO (f.by_.length - f.sy) k⟩
theorem keepF_at:∀(fs:List Fil) (ks:List Int) (i:Nat),(keepF fs ks)[i]? = (fs[i]?).map fun f=>keep1 f ks[i]?
 | [],_,_=>by simp [keepF]
 | f::fs,[],0=>by simp [keepF,keep1,leftO]
 | f::fs,[],i+1=>by simp only [keepF,List.getElem?_cons_succ,keepF_at fs [] i,List.getElem?_nil]
 | f::fs,k::ks,0=>by simp [keepF,keep1,leftO]
 | f::fs,k::ks,i+1=>by simp only [keepF,List.getElem?_cons_succ,keepF_at fs ks i]
theorem keepF_len (fs:List Fil) (ks:List Int):(keepF fs ks).length=fs.length:=by
 have:=congrArg List.length (keepF_nm fs ks)
 simpa using this
def keepTo (fs:List Fil) (ks:List Int) (i:Nat):List Fil:=(keepF fs ks).take i++fs.drop i
theorem keepTo_len (fs:List Fil) (ks:List Int) (i:Nat):(keepTo fs ks i).length=fs.length:=by
 unfold keepTo
 rw [List.length_append,List.length_take,List.length_drop,keepF_len]; omega
theorem keepTo_at {fs:List Fil} {ks:List Int} {i:Nat} (hi:i < fs.length):(keepTo fs ks i)[i]? = some fs[i]:=by
 unfold keepTo
 have:((keepF fs ks).take i).length=i:=by rw [List.length_take,keepF_len]; omega
 rw [List.getElem?_append_right (by omega),this,Nat.sub_self,List.getElem?_drop,Nat.add_zero]
 exact List.getElem?_eq_getElem hi
theorem keepTo_succ {fs:List Fil} {ks:List Int} {i:Nat} (hi:i < fs.length):(keepTo fs ks i).set i (keep1 fs[i] ks[i]?)=keepTo fs ks (i+1):=by
 unfold keepTo
 have hl:((keepF fs ks).take i).length=i:=by rw [List.length_take,keepF_len]; omega
 have hk:(keepF fs ks)[i]? = some (keep1 fs[i] ks[i]?):=by rw [keepF_at,List.getElem?_eq_getElem hi]; rfl
 rw [List.set_append_right _ _ (by omega),hl,Nat.sub_self,List.drop_eq_getElem_cons hi,List.set_cons_zero,List.take_add_one,hk]
 simp
theorem keepTo_total (fs:List Fil) (ks:List Int):∀i,i≤fs.length→total (keepTo fs ks i)≤total fs
 | 0,_=>Nat.le_refl _
 | i+1,hi=>by
  have h1:=keepTo_total fs ks i (by omega)
  have hi':i < (keepTo fs ks i).length:=by rw [keepTo_len]; omega
  have h2:=total_set hi' (keep1 fs[i] ks[i]?)
  rw [keepTo_succ (by omega)] at h2
  have h3:(keepTo fs ks i)[i]=fs[i]:=by
   have:=keepTo_at (fs:=fs) (ks:=ks) (i:=i) (by omega)
   rw [List.getElem?_eq_getElem hi'] at this
   simpa using this
  rw [h3] at h2
  have h4:(keep1 fs[i] ks[i]?).by_.length≤fs[i].by_.length:=by
   show (List.take _ _).length≤_
   rw [List.length_take]; omega
  omega
section
variable (Z:PZ) {o w:World} {R As:List HProp} {g u:Nat} {d:Dk} {v:Value} {L:List (Fil × Value)}
theorem dStart {x:Value} {ks:List Int} (hx:Ent o R fun w=>Rd w 1 x ks.length (ks.map fun k=>.int .i64 k)) (h:St o w (DiskM g d::R)):CallV π Z 26 #[.pointer (some ⟨g,0,none⟩),x] w fun r w'=>St o w' (DiskM g (d.start ks)::R):=by
 obtain ⟨v,L,hk,hL,hS⟩:=DiskM.open h
 have hlen:L.length=d.fs.length:=by rw [← hL,List.length_map]
 have hmany:=hk.many
 have hroom:=hk.room
 have hused:=hk.used
 have hok:=Dk.start_ok hk ks
 unfold DiskO at hS
 refine f26.calls ?_
 unfold f26.sh
 refine (dZero Z hS m0).mono fun r w1 ⟨hr,hw⟩=>?_
 subst hr; subst hw
 (try simp only [o_chk,fa_76_0,Nat.add_zero,fa_74_1,Nat.zero_add,fa_74_0,fa_76_3,o_pickF,guardW_ff])
 refine r_load one4 (hS.at m0 4 rfl) ?_
 cases hon:d.on with
 | true=>
  (try simp only [condT])
  unfold Dk.start
  rw [hon,if_pos rfl]
  exact h
 | false=>
 have hst:d.start ks={ d with on:=true,fs:=keepF d.fs ks }:=by unfold Dk.start; rw [hon,if_neg Bool.false_ne_true]
 rw [hst] at hok ⊢
 (try simp only [condF])
 refine r_store hS one4 (by simp [dcells]) rfl fun w2 hS=>?_
 skip
 refine r_load one72 (hS.at m0 0 rfl) ?_
 obtain ⟨va,vc,hvf⟩:=Fils.form hS m1
 rw [hvf]
 (try simp only [ln_72_3])
 obtain ⟨d',hd'⟩:∃d':Dk,d'={ d with on:=true }:=⟨_,rfl⟩
 have hS:St o w2 (blk g 76 (dcells v (total d.fs) d')::Fils v L::satH (L.map fb)::R):=by rw [hd']; exact hS
 refine ⟨fun m y w'=>∃(i:Nat) (L':List (Fil × Value)),y=.int .i64 i∧m+i=L.length∧L'.map (·.1)=keepTo d.fs ks i∧St o w' (blk g 76 (dcells v (total (keepTo d.fs ks i)) d')::Fils v L'::satH (L'.map fb)::R),⟨L.length,0,L,rfl,rfl,hL,hS⟩,?_⟩
 clear hS
 rintro m _ w3 ⟨i,L',rfl,hi,hL',hS⟩ _
 have hl':L'.length=L.length:=by have:=congrArg List.length hL'; rw [List.length_map,keepTo_len] at this; omega
 by_cases hlt:(i:Int) < (L.length:Int)
 case neg=>
  obtain rfl:i=L.length:=by omega
  (try simp only [o_add,o_lss,hlt,decide_false,condF])
  have e:keepTo d.fs ks L.length=keepF d.fs ks:=by
   unfold keepTo
   rw [List.take_of_length_le (by rw [keepF_len]; omega),List.drop_of_length_le (by omega),List.append_nil]
  rw [e] at hL' hS
  subst hd'
  exact DiskM.shut (d:={ d with on:=true,fs:=keepF d.fs ks }) hok hL' rfl hS
 have hil:i < L'.length:=by omega
 have hid:i < d.fs.length:=by omega
 have hfi:L'[i].1=d.fs[i]:=by
  have h1:(L'.map (·.1))[i]? = some d.fs[i]:=by rw [hL']; exact keepTo_at hid
  rw [List.getElem?_map,List.getElem?_eq_getElem hil] at h1
  simpa using h1
 have hsy:=hk.sy d.fs[i] (List.getElem_mem hid)
 have hby:d.fs[i].by_.length≤total d.fs:=total_ge (List.getElem_mem hid)
 have hbk:d.fs[i].by_.length≤total (keepTo d.fs ks i):=total_ge (List.mem_of_getElem? (keepTo_at hid))
 have htk:=keepTo_total d.fs ks i (by omega)
 (try simp only [o_add,o_lss,hlt,decide_true,condT])
 intro j17 h17
 have H17:∀L2 w',L2.map (·.1)=keepTo d.fs ks (i+1)→St o w' (blk g 76 (dcells v (total (keepTo d.fs ks (i+1))) d')::Fils v L2::satH (L2.map fb)::R)→j17 w':=fun L2 w' h2 hS=>by
  refine h17 _ fun _=>?_
  rw [wr_i64 (x:=(i:Int)+1) (by omega) (by omega)]
  exact ⟨m - 1,by omega,i+1,L2,rfl,by omega,h2,hS⟩
 clear h17
 refine r_load one72 (hS.at m0 0 rfl) ?_
 obtain ⟨b,q,hp',-⟩:=Fils.ix hS m1 i hil
 refine r1 (hp' _) ?_
 (try simp only [o_chkp,fa_97_1p,fa_97_2p,o_chk,fa_97_2])
 refine ⟨fun w4 hd=>?_⟩
 have hS:=hS.drew hd
 obtain ⟨b',q',hp'',hc⟩:=Fils.ix hS m1 i hil
 have hbq:b'=b∧q'=q:=by
  have:=(hp' w4).symm.trans (hp'' w4)
  injection this with this _
  injection this with this
  injection this with this
  injection this with h1 h2 _
  exact ⟨h1.symm,h2.symm⟩
 obtain ⟨rfl,rfl⟩:=hbq
 obtain ⟨wa,wc,hwf⟩:=(fb_rd hS.drop.drop _ hil).form
 refine rr_load one43 (hc 1 _ rfl) ?_
 rw [hwf,hfi]
 (try simp only [ln_43_3p])
 refine rr_load one3 (by have:=hc 2 _ rfl; rw [hfi] at this; exact this) ?_
 (try simp only [o_subp])
 rw [wr_i64 (x:=(d.fs[i].by_.length:Int) - (d.fs[i].sy:Int)) (by omega) (by omega)]
 intro j32 h32
 have hcap:∀m:Nat,m≤d.fs[i].by_.length→(m:Int)≤(wc:Int):=fun m hm=>by
  have:=(fb_out hil (hS.drop.drop)).own_open (e:=5)
  obtain ⟨_,⟨_,h0,_⟩ | ⟨g2,cap,rest,hv2,h1,_⟩⟩:=this
  ·rw [hfi] at h0; omega
  ·rw [hwf] at hv2
   injection hv2 with _ _ hv2
   rw [hfi] at h1; omega
 have htot:total (keepTo d.fs ks (i+1))+d.fs[i].by_.length=total (keepTo d.fs ks i)+(d.fs[i].sy+leftO (d.fs[i].by_.length - d.fs[i].sy) ks[i]?):=by
  have hi':i < (keepTo d.fs ks i).length:=by rw [keepTo_len]; omega
  have h2:=total_set hi' (keep1 d.fs[i] ks[i]?)
  rw [keepTo_succ hid] at h2
  have h3:(keepTo d.fs ks i)[i]=d.fs[i]:=by
   have:=keepTo_at (fs:=d.fs) (ks:=ks) (i:=i) hid
   rw [List.getElem?_eq_getElem hi'] at this
   simpa using this
  rw [h3] at h2
  have h4:(keep1 d.fs[i] ks[i]?).by_.length=d.fs[i].sy+leftO (d.fs[i].by_.length - d.fs[i].sy) ks[i]? := by
   show (List.take _ _).length=_
   have:=leftO_le (d.fs[i].by_.length - d.fs[i].sy) ks[i]?
   rw [List.length_take]; omega
  omega
 have H32:∀lf:Nat,leftO (d.fs[i].by_.length - d.fs[i].sy) ks[i]? = lf→j32 (.int .i64 lf) w4:=by
  intro lf hlf
  have hle:=leftO_le (d.fs[i].by_.length - d.fs[i].sy) ks[i]?
  rw [hlf] at hle htot
  refine h32 _ _ fun _=>?_
  clear h32
  refine r_load one3 (by have:=hc 2 _ rfl; rw [hfi] at this; exact this) ?_
  (try simp only [o_sub,o_add])
  rw [wr_i64 (x:=(d.fs[i].sy:Int)+(lf:Int)) (by omega) (by omega),show (d.fs[i].sy:Int)+(lf:Int)=((d.fs[i].sy+lf:Nat):Int) by omega]
  have hS3:St o w4 (own 97 3 v L'.length (L'.flatMap fc)::blk g 76 (dcells v (total (keepTo d.fs ks i)) d')::satH (L'.map fb)::R):=hS.swap
  refine r_store_fld hS3 el72 one3 .i64 i 2 hil (by omega) hp'' rfl fun w5 hS=>?_
  obtain ⟨q1,hq1⟩:∃q1:Fil × Value,q1=(⟨L'[i].1.nm,L'[i].1.by_,d.fs[i].sy+lf⟩,L'[i].2):=⟨_,rfl⟩
  rw [fc_set hil (by omega) (.int .i64 ((d.fs[i].sy+lf:Nat):Int)) q1 (by rw [hq1]; rfl)] at hS
  have hi1:i < (L'.set i q1).length:=by rw [List.length_set]; exact hil
  have hS:St o w5 (Fils v (L'.set i q1)::blk g 76 (dcells v (total (keepTo d.fs ks i)) d')::satH (L'.map fb)::R):=by
   unfold Fils
   rw [List.length_set]
   exact hS
  refine ⟨fun w6 hd=>?_⟩
  have hS:=hS.drew hd
  obtain ⟨b2,q2,hp3,hc3⟩:=Fils.ix hS m0 i hi1
  have hbq:b2=b'∧q2=q':=by
   have:=(hp3 w4).symm.trans (hp'' w4)
   injection this with this _
   injection this with this
   injection this with this
   injection this with h1 h2 _
   exact ⟨h1,h2⟩
  obtain ⟨rfl,rfl⟩:=hbq
  rw [List.getElem_set_self,hq1] at hc3
  refine rr_load one43 (hc3 1 _ rfl) (rr_load one3 (hc3 2 _ rfl) ?_)
  show pU _ (Instr.sliceAt _ L'[i].2 _ _ _) _
  rw [hwf,hfi]
  refine rp (fun w=>run_slice_to el43 _ _ _ .i64 ((d.fs[i].sy+lf:Nat):Int) (by omega) (hcap _ (by omega)) w) ?_
  rw [Int.toNat_natCast]
  refine r_store_fld hS el72 one43 .i64 i 1 hi1 (by omega) hp3 rfl fun w7 hS=>?_
  obtain ⟨f0,hf0⟩:∃f0:Fil,f0=⟨L'[i].1.nm,L'[i].1.by_.take (d.fs[i].sy+lf),d.fs[i].sy+lf⟩:=⟨_,rfl⟩
  have hk1:f0=keep1 d.fs[i] ks[i]? := by rw [hf0,hfi]; unfold keep1; rw [hlf]
  rw [fc_set hi1 (by omega) (.slice wa (d.fs[i].sy+lf) wc) (f0,.slice wa (d.fs[i].sy+lf) wc) (by rw [List.getElem_set_self,hq1,hf0]; rfl),List.set_set,List.length_set] at hS
  skip
  refine r_load one3 (hS.at m1 1 rfl) ?_
  (try simp only [o_sub])
  rw [wr_i64 (x:=(d.fs[i].by_.length:Int) - (d.fs[i].sy:Int) - (lf:Int)) (by omega) (by omega),wr_i64 (x:=((total (keepTo d.fs ks i):Nat):Int) - ((d.fs[i].by_.length:Int) - (d.fs[i].sy:Int) - (lf:Int))) (by omega) (by omega),
   show ((total (keepTo d.fs ks i):Nat):Int) - ((d.fs[i].by_.length:Int) - (d.fs[i].sy:Int) - (lf:Int))=((total (keepTo d.fs ks (i+1)):Nat):Int) by omega]
  refine r_store (hS.pick 1) one3 (by simp [dcells]) rfl fun w8 hS=>?_
  refine H17 (L'.set i (f0,.slice wa (d.fs[i].sy+lf) wc)) w8 (by rw [List.map_set,hL',hk1,keepTo_succ hid]) ?_
  have hS:St o w8 (blk g 76 (dcells v (total (keepTo d.fs ks (i+1))) d')::own 97 3 v L'.length ((L'.set i (f0,.slice wa (d.fs[i].sy+lf) wc)).flatMap fc)::satH (L'.map fb)::R):=hS
  have hS5:=fb_out hil (hS.pick 2)
  have hS6:St o w8 (fb (f0,.slice wa (d.fs[i].sy+lf) wc)::_):=hS5.mono fun h hb=>fb_cut hwf hf0 (by rw [hfi]; omega) hb
  have hS7:=fb_in hil _ hS6
  unfold Fils
  rw [List.length_set]
  exact hS7.put 2
 clear h32 H17
 obtain ⟨xa,xc,hxf⟩:=(hx w4 hS.drop.drop.drop).form
 rw [hxf]
 by_cases hk2:(i:Int) < (ks.length:Int)
 ·have hik:i < ks.length:=by omega
  (try simp only [ln_23_3,o_lss,hk2,decide_true,condT])
  rw [← hxf]
  obtain ⟨a,hpa,hca,_⟩:=(hx w4 hS.drop.drop.drop).index el23 .i64 i hik
  refine r1 (hpa _) (r_load one3 (v:=.int .i64 ks[i]) (by rw [hca]; simp) ?_)
  refine r1 (run_minV _ _ _ _ _ _ _) (r1 (run_maxV _ _ _ _ _ _ _) ?_)
  have hkk:ks[i]? = some ks[i]:=List.getElem?_eq_getElem hik
  have h1:max 0 (min ((d.fs[i].by_.length:Int) - (d.fs[i].sy:Int)) ks[i])=((leftO (d.fs[i].by_.length - d.fs[i].sy) ks[i]? : Nat):Int):=by
   rw [hkk]; unfold leftO left; simp only []; omega
  rw [h1]
  exact H32 _ rfl
 ·(try simp only [ln_23_3,o_lss,hk2,decide_false,condF])
  have hkk:ks[i]? = none:=List.getElem?_eq_none (by omega)
  exact H32 0 (by rw [hkk]; rfl)
end
end Go.Proofs.YtbdfhfceffkhgaaGreatDoor


/- Rows of files compared (as in R3). -/
set_option linter.unusedVariables false
set_option linter.unusedSimpArgs false
namespace Go.Proofs.YtbdfhfceffkhgaaGreatDoor
open Go.Sh
open Tryz renaming prog → π
section
variable (Z:PZ) {o w:World} {R As:List HProp} {g u:Nat} {d:Dk} {v:Value} {L:List (Fil × Value)}
end


/- Disks: Append, Sync. -/
import Derived.Test.YtbdfhfceffkhgaaGreatDoorD4
import Derived.Test.YtbdfhfceffkhgaaGreatDoorShTwin
import Derived.Test.YtbdfhfceffkhgaaGreatDoorShSub
import Derived.Test.YtbdfhfceffkhgaaGreatDoorP4
set_option linter.unusedVariables false
set_option linter.unusedSimpArgs false
namespace Go.Proofs.YtbdfhfceffkhgaaGreatDoor
open Go.Sh
open Tryz renaming prog → π
theorem r_store_fld {P:Program} {Z:PZ} {o w:World} {R:List HProp} {k:World→Prop} {t e ty:TypeId} {sz bt n b p:Nat} {z v x:Value} {xs:List Value} (h:St o w (own e sz v n xs::R)) (hel:El P t e sz bt z) (h1:oneT P ty=true) (q:IntKind) (i j:Nat) (hi:i < n) (hj:j < sz)
  (ha:∀w,(Instr.indexAt t v (.int q i)).run P w=.ok (.pointer (some ⟨b,p,none⟩)) w) (hu:x.oneCell'=true) (hk:∀w',St o w' (own e sz v n (xs.set (i * sz+j) x)::R)→k w'):rO P Z (Instr.storeAt ty (.pointer (some ⟨b,p+j,none⟩)) x) w k:=by
 obtain ⟨hl,⟨rfl,rfl,_⟩ | ⟨g,cap,rest,rfl,a1,a2,a3,hB⟩⟩:=h.own_open
 ·omega
 ·obtain ⟨info,hinfo,hs,_,_⟩:=hel.info
  have e1:=run_indexAt hel.ht hinfo g 0 n cap q (i:Int) (by omega) (by omega) w
  have ha:=ha w
  rw [e1,hs] at ha
  injection ha with ha _
  injection ha with ha
  injection ha with ha
  injection ha with hb hp _
  subst hb
  simp only [Int.toNat_natCast,Nat.zero_add] at hp
  subst hp
  have hlt:i * sz+j < xs.length:=by
   rw [hl]
   have:(i+1) * sz≤n * sz:=Nat.mul_le_mul_right _ hi
   rw [Nat.add_mul,Nat.one_mul] at this; omega
  refine r_store hB h1 (by rw [List.length_append]; omega) hu fun w' hS=>hk w' ?_
  rw [List.set_append_left _ _ hlt] at hS
  have:=hS.own_mk (sz:=sz) (cap:=cap) n a1 a2 (by rw [List.length_append,List.length_set,← List.length_append]; exact a3)
  rw [List.take_left' (by rw [List.length_set]; exact hl)] at this
  exact this
theorem appF_total (fs:List Fil) (n p:Bs):total (appF fs n p)=total fs+p.length:=by
 obtain ⟨hi,hn⟩:=makeF_at (fs:=fs) n
 have hset:appF fs n p=(makeF fs n).set (ix fs n) { (makeF fs n)[ix fs n] with by_:=(makeF fs n)[ix fs n].by_++p }:=modify_set hi _
 have hs:=total_set hi { (makeF fs n)[ix fs n] with by_:=(makeF fs n)[ix fs n].by_++p }
 have ht:=makeF_total fs n
 have e:({ (makeF fs n)[ix fs n] with by_:=(makeF fs n)[ix fs n].by_++p }:Fil).by_.length=(makeF fs n)[ix fs n].by_.length+p.length:=List.length_append
 rw [e] at hs
 rw [hset]; omega
section
variable {o w:World} {R:List HProp} {L:List (Fil × Value)}
theorem fc_set {i j:Nat} (hi:i < L.length) (hj:j < 3) (u:Value) (q':Fil × Value) (hq:fc q'=(fc L[i]).set j u):(L.flatMap fc).set (i * 3+j) u=(L.set i q').flatMap fc:=by
 have e0:L=L.take i++L[i]::L.drop (i+1):=by simp
 have e4:((L.take i).flatMap fc).length=i * 3:=by rw [fc_flat,List.length_take]; omega
 have e1:L.flatMap fc=(L.take i).flatMap fc++(fc L[i]++(L.drop (i+1)).flatMap fc):=by
  conv=>lhs; rw [e0]
  rw [List.flatMap_append,List.flatMap_cons]
 have e2:L.set i q'=L.take i++q'::L.drop (i+1):=List.set_eq_take_append_cons_drop .. |>.trans (if_pos hi)
 rw [e2,e1,List.flatMap_append,List.flatMap_cons,List.set_append_right _ _ (by omega),e4,show i * 3+j - i * 3=j by omega,List.set_append_left _ _ (by simp [fc]; omega),hq]
theorem fb_out {i:Nat} (hi:i < L.length) (h:St o w (satH (L.map fb)::R)):St o w (fb L[i]::satH ((L.eraseIdx i).map fb)::R):=by
 have e0:L=L.take i++L[i]::L.drop (i+1):=by simp
 have e1:L.map fb=(L.take i).map fb++fb L[i]::(L.drop (i+1)).map fb:=by
  conv=>lhs; rw [e0]
  rw [List.map_append,List.map_cons]
 rw [e1] at h
 rw [List.eraseIdx_eq_take_drop_succ,List.map_append]
 exact h.all_out
theorem fb_in {i:Nat} (hi:i < L.length) (q':Fil × Value) (h:St o w (fb q'::satH ((L.eraseIdx i).map fb)::R)):St o w (satH ((L.set i q').map fb)::R):=by
 have e2:L.set i q'=L.take i++q'::L.drop (i+1):=List.set_eq_take_append_cons_drop .. |>.trans (if_pos hi)
 rw [e2,List.map_append,List.map_cons]
 rw [List.eraseIdx_eq_take_drop_succ,List.map_append] at h
 exact h.all_in
end
section
variable (Z:PZ) {o w:World} {R As:List HProp} {g u:Nat} {d:Dk} {v:Value} {L:List (Fil × Value)}
theorem dAppend {x:Value} {m:Nat} {p:Bs} (n:Bs) (hn:n.length≤1000000000000) (h:St o w (DiskM g d::R)) (hx:Ent o R fun w=>Rd w 1 x m (cb p)) (hp:p.length≤1000000000000) :
  CallV π Z 65 #[.pointer (some ⟨g,0,none⟩),.string (str n),x] w fun r w'=>r=.int .i64 (d.append n p).1∧St o w' (DiskM g (d.append n p).2::R):=by
 have h0:=hx w h.drop
 have hm:=rd_len h0
 obtain ⟨xa,xc,rfl⟩:=h0.form
 subst hm
 obtain ⟨v,L,hk,hL,hS⟩:=DiskM.open h
 have hlen:L.length=d.fs.length:=by rw [← hL,List.length_map]
 have hmany:=hk.many
 have hused:=hk.used
 have hroom:=hk.room
 have z0:((0:Int) != 0)=false:=rfl
 unfold DiskO at hS
 refine f65.calls ?_
 unfold f65.sh
 refine ask1 Z n hn hS m0 fun w1 hS=>?_
 by_cases ha:d.asked [n]=0
 case neg=>
  have e1:(d.asked [n] != 0)=true:=bne_iff_ne.2 ha
  (try simp only [o_chk,fa_76_0,Nat.add_zero,fa_74_1,Nat.zero_add,ln_43_3,o_chkp,fa_76_0p,fa_74_0p,fa_74_1p,fa_76_2p,ln_43_3p,o_neq,e1,condT])
  unfold Dk.append
  rw [if_pos ha]
  exact ⟨rfl,DiskM.shut hk hL rfl hS⟩
 rw [ha]
 (try simp only [o_chk,fa_76_0,Nat.add_zero,fa_74_1,Nat.zero_add,ln_43_3,o_chkp,fa_76_0p,fa_74_0p,fa_74_1p,fa_76_2p,ln_43_3p,o_neq,z0,condF])
 refine (dAtN Z n hS m0 rfl m1 (by rw [hL]; exact hk.srt) (by omega)).mono fun r w2 ⟨hr,hd⟩=>?_
 rw [hL] at hr
 subst hr
 have hS:=hS.drew hd
 obtain ⟨va,vc,hvf⟩:=Fils.form hS m1
 have bad:isAt d.fs n=false∧64≤d.fs.length→(.int .i64 22:Value)=.int .i64 (d.append n p).1∧St o w2 (DiskM g (d.append n p).2::R):=fun hb=>by
  unfold Dk.append
  rw [if_neg (by simp [ha]),if_pos hb]
  exact ⟨rfl,DiskM.shut hk hL rfl hS⟩
 by_cases hbad:isAt d.fs n=false∧64≤d.fs.length
 ·rw [hbad.1]
  (try simp only [o_ext2_1,o_not,Bool.not_false,o_pickT,guardW_true,o_chk,fa_76_0,Nat.add_zero,fa_74_0,o_ext2_0])
  refine r_load one72 (hS.at m0 0 rfl) ?_
  rw [hvf]
  have e1:(64:Int)≤(L.length:Int):=by omega
  (try simp only [ln_72_3,o_geq,e1,decide_true,condT])
  exact bad hbad
 clear bad
 apply via
 ·intro post
  cases hat:isAt d.fs n with
  | true=>
   (try simp only [o_ext2_1,o_not,Bool.not_true,o_pickF,condF,guardW_ft,o_ext2_0])
   exact post
  | false=>
   (try simp only [o_ext2_1,o_not,Bool.not_false,o_pickT,guardW_true,o_chk,fa_76_0,Nat.add_zero,fa_74_0,o_ext2_0])
   refine r_load one72 (hS.at m0 0 rfl) ?_
   rw [hvf]
   have e1:¬ (64:Int)≤(L.length:Int):=fun hh=>hbad ⟨hat,by omega⟩
   (try simp only [ln_72_3,o_geq,e1,decide_false,condF])
   exact post
 refine ⟨fun w3 hd=>?_⟩
 have hS:=hS.drew hd
 refine rr_load one3 (hS.at m0 3 rfl) (rr_load one3 (hS.at m0 1 rfl) ?_)
 (try simp only [o_subp,o_gtrp,cond_decide])
 rw [wr_i64 (x:=(d.room:Int) - ((total d.fs:Nat):Int)) (by omega) (by omega)]
 refine ⟨fun hc=>?_,fun hc=>?_⟩
 ·have hfull:d.room < total d.fs+p.length:=by omega
  unfold Dk.append
  rw [if_neg (by simp [ha]),if_neg hbad,if_pos hfull]
  exact ⟨by first | rfl | trivial,DiskM.shut hk hL rfl hS⟩
 have hfull:¬ d.room < total d.fs+p.length:=by omega
 refine (dWrite Z hS).mono fun r w4 ⟨hr,hS⟩=>?_
 subst hr
 cases hst:d.stops with
 | true=>
  rw [hst,if_pos rfl] at hS
  (try simp only [Bool.not_true,o_not,Bool.not_false,condT])
  unfold Dk.append
  rw [if_neg (by simp [ha]),if_neg hbad,if_neg hfull,if_pos hst]
  exact ⟨by first | rfl | trivial,DiskM.shut (Dk.off_ok hk) hL rfl hS⟩
 | false=>
 rw [hst,if_neg Bool.false_ne_true] at hS
 have happ:d.append n p=(0,{ d.wrote with fs:=appF d.fs n p }):=by
  unfold Dk.append appF
  rw [if_neg (by simp [ha]),if_neg hbad,if_neg hfull,if_neg (by simp [hst])]
 have hok:=Dk.append_ok hk n p
 rw [happ] at hok ⊢
 (try simp only [Bool.not_false,o_not,Bool.not_true,condF])
 refine (dMake Z n (total d.fs) (d:=d.wrote) hS (by rw [hL]; exact hk.srt) (by omega)).mono fun r w5 ⟨hr,v',L',hL',hS⟩=>?_
 rw [hL] at hr hL'
 subst hr
 unfold DiskO at hS
 obtain ⟨hi0,hn0⟩:=makeF_at (fs:=d.fs) n
 have hi:ix d.fs n < L'.length:=by have:=congrArg List.length hL'; rw [List.length_map] at this; omega
 have hfi:L'[ix d.fs n].1=(makeF d.fs n)[ix d.fs n]:=by simp only [← hL',List.getElem_map]
 have hbl:L'[ix d.fs n].1.by_.length≤total d.fs:=by
  rw [hfi,← makeF_total d.fs n]
  exact total_ge (List.getElem_mem hi0)
 refine ⟨fun w6 hd=>?_⟩
 have hS:=hS.drew hd
 refine rr_load one72 (hS.at m0 0 rfl) (rr_load one72 (hS.at m0 0 rfl) ?_)
 obtain ⟨b,q,hp',hc⟩:=Fils.ix hS m1 (ix d.fs n) hi
 refine rp hp' ?_
 (try simp only [fa_97_1p])
 refine rr_load one43 (hc 1 _ rfl) ?_
 have hS2:St o w6 (own 5 1 L'[ix d.fs n].2 L'[ix d.fs n].1.by_.length (cb L'[ix d.fs n].1.by_)::satH ((L'.eraseIdx (ix d.fs n)).map fb)::blk g 76 (dcells v' (total d.fs) d.wrote)::Fils v' L'::R):=fb_out hi (hS.pick 2)
 refine r_append el43 hS2 ((hx _ hS2.drop.drop.drop.drop).src Tryz.underlying43 (cb_ones _)) (by omega) (by simp only [maxLen]; omega) fun v2 w7 hS=>?_
 have hvo:v2.oneCell'=true:=by obtain ⟨_,_,e⟩:=hS.own_form; rw [e]; rfl
 refine rs_load one72 (hS.at m2 0 rfl) (rs_load one72 (hS.at m2 0 rfl) ?_)
 refine rp hp' ?_
 (try simp only [fa_97_1p])
 have hS3:St o w7 (own 97 3 v' L'.length (L'.flatMap fc)::own 5 1 v2 (L'[ix d.fs n].1.by_.length+p.length) (cb L'[ix d.fs n].1.by_++cb p)::satH ((L'.eraseIdx (ix d.fs n)).map fb)::blk g 76 (dcells v' (total d.fs) d.wrote)::R):=hS.pick 3
 refine r_store_fld hS3 el72 one43 .i64 (ix d.fs n) 1 hi (by omega) hp' hvo fun w8 hS=>?_
 rw [fc_set hi (by omega) v2 ({ L'[ix d.fs n].1 with by_:=L'[ix d.fs n].1.by_++p },v2) rfl,← cb_append,← List.length_append] at hS
 skip
 refine r_load one3 (hS.at m3 1 rfl) ?_
 (try simp only [o_add])
 rw [wr_i64 (x:=((total d.fs:Nat):Int)+(p.length:Int)) (by omega) (by omega),show ((total d.fs:Nat):Int)+(p.length:Int)=((total d.fs+p.length:Nat):Int) by omega]
 refine r_store (hS.pick 3) one3 (by simp [dcells]) rfl fun w9 hS=>?_
 refine ⟨by first | rfl | trivial,?_⟩
 have hset:appF d.fs n p=(makeF d.fs n).set (ix d.fs n) { (makeF d.fs n)[ix d.fs n] with by_:=(makeF d.fs n)[ix d.fs n].by_++p }:=modify_set hi0 _
 refine DiskM.shut (v:=v') (L:=L'.set (ix d.fs n) ({ L'[ix d.fs n].1 with by_:=L'[ix d.fs n].1.by_++p },v2)) (u:=total d.fs+p.length) hok ?_ ?_ ?_
 ·show (L'.set _ _).map (·.1)=appF d.fs n p
  rw [List.map_set,hset,hL',hfi]
 ·exact (appF_total d.fs n p).symm
 ·have hS:St o w9 (blk g 76 (dcells v' (total d.fs+p.length) d.wrote)::own 97 3 v' L'.length ((L'.set (ix d.fs n) ({ L'[ix d.fs n].1 with by_:=L'[ix d.fs n].1.by_++p },v2)).flatMap fc)::fb ({ L'[ix d.fs n].1 with by_:=L'[ix d.fs n].1.by_++p },v2)::satH ((L'.eraseIdx (ix d.fs n)).map fb)::R):=hS
  have h1:St o w9 (fb ({ L'[ix d.fs n].1 with by_:=L'[ix d.fs n].1.by_++p },v2)::satH ((L'.eraseIdx (ix d.fs n)).map fb)::blk g 76 (dcells v' (total d.fs+p.length) d.wrote)::own 97 3 v' L'.length ((L'.set (ix d.fs n) ({ L'[ix d.fs n].1 with by_:=L'[ix d.fs n].1.by_++p },v2)).flatMap fc)::R):=by (refine Sh.St.sub ?_ (hS); repeat (first | with_reducible (first | exact sub_refl | exact sub_nil | refine sP0 ?_ | refine sP1 ?_ | refine sP2 ?_ | refine sP3 ?_ | refine sP4 ?_ | refine sP5 ?_ | refine sP6 ?_ | refine sP7 ?_ | refine sP8 ?_ | refine sP9 ?_ | refine sP10 ?_ | refine sP11 ?_ | refine sP12 ?_ | refine sP13 ?_ | refine sP14 ?_ | refine sP15 ?_) | exact sub_refl | refine sP0 ?_ | refine sP1 ?_ | refine sP2 ?_ | refine sP3 ?_ | refine sP4 ?_ | refine sP5 ?_ | refine sP6 ?_ | refine sP7 ?_ | refine sP8 ?_ | refine sP9 ?_ | refine sP10 ?_ | refine sP11 ?_ | refine sP12 ?_ | refine sP13 ?_ | refine sP14 ?_ | refine sP15 ?_ | refine sub_drop ?_))
  have h2:=fb_in hi _ h1
  unfold DiskO Fils
  rw [List.length_set]
  exact h2.put 2
end
end Go.Proofs.YtbdfhfceffkhgaaGreatDoor


/- Disks: Sync, Read, Names, Arm, Writes. -/
set_option linter.unusedVariables false
set_option linter.unusedSimpArgs false
namespace Go.Proofs.YtbdfhfceffkhgaaGreatDoor
open Go.Sh
open Tryz renaming prog → π
theorem found_ok {d:Dk} {n:Bs} (h:d.found n=0):d.asked [n]=0∧isAt d.fs n=true:=by
 unfold Dk.found at h
 split at h
 ·rename_i h1; exact absurd h h1
 rename_i h1
 split at h
 ·rename_i h2; exact ⟨by simpa using h1,h2⟩
 ·cases h
theorem fb_same {L:List (Fil × Value)} {i:Nat} (hi:i < L.length) (q':Fil × Value) (h:fb q'=fb L[i]):(L.set i q').map fb=L.map fb:=by
 rw [List.map_set,h]
 apply List.ext_getElem?
 intro j
 rw [List.getElem?_set]
 split
 ·rename_i e
  subst e
  simp [hi]
 ·rfl
def Dk.bytes (d:Dk) (n:Bs):Bs:=((d.fs[ix d.fs n]?).map (·.by_)).getD []
section
variable (Z:PZ) {o w:World} {R As:List HProp} {g u:Nat} {d:Dk} {v:Value} {L:List (Fil × Value)}
theorem dSync (n:Bs) (hn:n.length≤1000000000000) (h:St o w (DiskM g d::R)):CallV π Z 67 #[.pointer (some ⟨g,0,none⟩),.string (str n)] w fun r w'=>r=.int .i64 (d.sync n).1∧St o w' (DiskM g (d.sync n).2::R):=by
 obtain ⟨v,L,hk,hL,hS⟩:=DiskM.open h
 have hlen:L.length=d.fs.length:=by rw [← hL,List.length_map]
 have z0:((0:Int) != 0)=false:=rfl
 refine f67.calls ?_
 unfold f67.sh
 refine (dFind Z n hn hS hL hk).mono fun r w1 ⟨hr,hS⟩=>?_
 rcases hr with ⟨hf,rfl⟩ | ⟨hf,rfl⟩
 ·have e1:(d.found n != 0)=true:=bne_iff_ne.2 hf
  (try simp only [o_chkp,fa_76_0p,Nat.add_zero,fa_74_0p,o_ext2_1,o_neq,e1,condT,o_ext2_0])
  unfold Dk.sync
  rw [if_pos hf]
  exact ⟨by first | rfl | trivial,DiskM.shut hk hL rfl hS⟩
 (try simp only [o_chkp,fa_76_0p,Nat.add_zero,fa_74_0p,o_ext2_1,o_neq,z0,condF,o_ext2_0])
 obtain ⟨hi0,hn0⟩:=isAt_some (found_ok hf).2
 have hi:ix d.fs n < L.length:=by omega
 have hfi:L[ix d.fs n].1=d.fs[ix d.fs n]:=by simp only [← hL,List.getElem_map]
 unfold DiskO at hS
 refine (dWrite Z hS).mono fun r w2 ⟨hr,hS⟩=>?_
 subst hr
 cases hst:d.stops with
 | true=>
  rw [hst,if_pos rfl] at hS
  (try simp only [Bool.not_true,o_not,Bool.not_false,condT])
  unfold Dk.sync
  rw [if_neg (by simp [hf]),if_pos hst]
  exact ⟨by first | rfl | trivial,DiskM.shut (Dk.off_ok hk) hL rfl hS⟩
 | false=>
 rw [hst,if_neg Bool.false_ne_true] at hS
 have hsy:d.sync n=(0,{ d.wrote with fs:=d.fs.modify (ix d.fs n) fun f=>{ f with sy:=f.by_.length } }):=by
  unfold Dk.sync
  rw [if_neg (by simp [hf]),if_neg (by simp [hst])]
 have hok:=Dk.sync_ok hk n
 rw [hsy] at hok ⊢
 (try simp only [Bool.not_false,o_not,Bool.not_true,condF])
 refine ⟨fun w3 hd=>?_⟩
 have hS:=hS.drew hd
 refine rr_load one72 (hS.at m0 0 rfl) (rr_load one72 (hS.at m0 0 rfl) ?_)
 obtain ⟨b,q,hp',hc⟩:=Fils.ix hS m1 (ix d.fs n) hi
 refine rp hp' ?_
 (try simp only [fa_97_1p])
 refine rr_load one43 (hc 1 _ rfl) ?_
 obtain ⟨va,vc,hvf⟩:=(fb_rd hS.drop.drop _ hi).form
 rw [hvf]
 (try simp only [ln_43_3p])
 refine rp hp' ?_
 (try simp only [fa_97_2p])
 have hS3:St o w3 (own 97 3 v L.length (L.flatMap fc)::blk g 76 (dcells v (total d.fs) d.wrote)::satH (L.map fb)::R):=hS.swap
 refine r_store_fld hS3 el72 one3 .i64 (ix d.fs n) 2 hi (by omega) hp' rfl fun w4 hS=>?_
 rw [fc_set hi (by omega) _ (⟨L[ix d.fs n].1.nm,L[ix d.fs n].1.by_,L[ix d.fs n].1.by_.length⟩,L[ix d.fs n].2) rfl] at hS
 refine ⟨by first | rfl | trivial,?_⟩
 refine DiskM.shut (v:=v) (L:=L.set (ix d.fs n) (⟨L[ix d.fs n].1.nm,L[ix d.fs n].1.by_,L[ix d.fs n].1.by_.length⟩,L[ix d.fs n].2)) (u:=total d.fs) hok ?_ ?_ ?_
 ·show (L.set _ _).map (·.1)=d.fs.modify _ _
  rw [List.map_set,modify_set hi0,hL,hfi]
 ·show total d.fs=total (d.fs.modify _ _)
  have hs:total (d.fs.set (ix d.fs n) ⟨d.fs[ix d.fs n].nm,d.fs[ix d.fs n].by_,d.fs[ix d.fs n].by_.length⟩)+d.fs[ix d.fs n].by_.length=total d.fs+d.fs[ix d.fs n].by_.length:=total_set hi0 _
  rw [modify_set hi0]; omega
 ·unfold DiskO Fils
  rw [List.length_set,fb_same hi (⟨L[ix d.fs n].1.nm,L[ix d.fs n].1.by_,L[ix d.fs n].1.by_.length⟩,L[ix d.fs n].2) rfl]
  exact hS.swap
theorem copied {x:Value} {n:Nat} {l:Bs} (h:St o w R) (hx:Ent o R fun w=>Rd w 1 x n (cb l)) (hl:l.length≤140737488355328) :
  CallV π Z 52 #[x] w fun r w'=>St o w' (own 5 1 r l.length (cb l)::R):=by
 have h0:=hx w h
 have hn:=rd_len h0
 obtain ⟨a,c,rfl⟩:=h0.form
 subst hn
 refine f52.calls ?_
 unfold f52.sh
 (try simp only [ln_43_3])
 refine r_make el43 h .i64 .i64 l.length (by omega) (by simp only [maxLen]; omega) fun g3 w3 hS=>?_
 obtain ⟨cap,rest,rfl,_,_,hlen,hlen2,hB⟩:=own_at hS
 simp only [Nat.mul_one] at hlen hlen2 hB
 have hrest:rest=[]:=by
  rw [List.length_append] at hlen2
  exact List.eq_nil_of_length_eq_zero (by omega)
 subst hrest
 refine r_copy el43 hB (hx w3 hB.drop) (cb_ones _) (by rw [List.append_nil,hlen]; omega) fun w4 hS=>?_
 rw [Nat.min_self,Nat.mul_one,List.take_of_length_le (by rw [cb_length]; omega),setL_all _ _ (by rw [List.append_nil,hlen,cb_length])] at hS
 have hS:=hS.own_mk (sz:=1) (cap:=l.length) l.length (Nat.le_refl _) (by simp only [maxLen]; omega) (by rw [cb_length]; omega)
 rw [List.take_of_length_le (by rw [cb_length]; omega)] at hS
 exact hS
theorem dRead (n:Bs) (hn:n.length≤1000000000000) (h:St o w (DiskM g d::R)):CallV π Z 45 #[.pointer (some ⟨g,0,none⟩),.string (str n)] w fun r w'=>
  (d.found n ≠ 0∧r=.tuple #[.slice none 0 0,.int .i64 (d.found n)]∧St o w' (DiskM g d::R))∨(d.found n=0∧∃v,r=.tuple #[v,.int .i64 0]∧St o w' (own 5 1 v (d.bytes n).length (cb (d.bytes n))::DiskM g d::R)):=by
 obtain ⟨v,L,hk,hL,hS⟩:=DiskM.open h
 have hlen:L.length=d.fs.length:=by rw [← hL,List.length_map]
 have hroom:=hk.room
 have hused:=hk.used
 have z0:((0:Int) != 0)=false:=rfl
 refine f45.calls ?_
 unfold f45.sh
 refine (dFind Z n hn hS hL hk).mono fun r w1 ⟨hr,hS⟩=>?_
 rcases hr with ⟨hf,rfl⟩ | ⟨hf,rfl⟩
 ·have e1:(d.found n != 0)=true:=bne_iff_ne.2 hf
  (try simp only [o_chk,fa_76_0,Nat.add_zero,fa_74_0,o_ext2_1,o_neq,e1,condT,o_ext2_0])
  exact .inl ⟨hf,by first | rfl | trivial,DiskM.shut hk hL rfl hS⟩
 (try simp only [o_chk,fa_76_0,Nat.add_zero,fa_74_0,o_ext2_1,o_neq,z0,condF,o_ext2_0])
 obtain ⟨hi0,hn0⟩:=isAt_some (found_ok hf).2
 have hi:ix d.fs n < L.length:=by omega
 have hfi:L[ix d.fs n].1=d.fs[ix d.fs n]:=by simp only [← hL,List.getElem_map]
 have hb:d.bytes n=L[ix d.fs n].1.by_:=by unfold Dk.bytes; rw [List.getElem?_eq_getElem hi0,hfi]; rfl
 have hbl:L[ix d.fs n].1.by_.length≤total d.fs:=by rw [hfi]; exact total_ge (List.getElem_mem hi0)
 unfold DiskO at hS
 refine r_load one72 (hS.at m0 0 rfl) ?_
 obtain ⟨b,q,hp',hc⟩:=Fils.ix hS m1 (ix d.fs n) hi
 refine r1 (hp' _) ?_
 (try simp only [fa_97_1])
 refine r_load one43 (hc 1 _ rfl) ?_
 refine (copied Z (l:=L[ix d.fs n].1.by_) hS (fun w hS=>fb_rd hS.drop.drop _ hi) (by omega)).mono fun r w2 hS=>?_
 refine .inr ⟨hf,r,by first | rfl | trivial,?_⟩
 rw [hb]
 exact (DiskM.shut hk hL rfl (hS.put 3 |> fun h=>by exact h)).swap
end
end Go.Proofs.YtbdfhfceffkhgaaGreatDoor


/- Disks: Names, Cut, Arm, Writes. -/
set_option linter.unusedVariables false
set_option linter.unusedSimpArgs false
namespace Go.Proofs.YtbdfhfceffkhgaaGreatDoor
open Go.Sh
open Tryz renaming prog → π
def fnV (f:Fil):Value:=.string (str f.nm)
theorem set_in {A x C:List Value} {k j:Nat} (hA:A.length=k) (hj:j < x.length) (u:Value):(A++(x++C)).set (k+j) u=A++(x.set j u++C):=by
 rw [List.set_append_right _ _ (by omega),hA,show k+j - k=j by omega,List.set_append_left _ _ hj]
theorem fc_set2 {L:List (Fil × Value)} {i:Nat} (hi:i < L.length) (u1 u2:Value) (q':Fil × Value) (hq:fc q'=((fc L[i]).set 1 u1).set 2 u2):((L.flatMap fc).set (i * 3+1) u1).set (i * 3+2) u2=(L.set i q').flatMap fc:=by
 have e0:L=L.take i++L[i]::L.drop (i+1):=by simp
 have e4:((L.take i).flatMap fc).length=i * 3:=by rw [fc_flat,List.length_take]; omega
 have e1:L.flatMap fc=(L.take i).flatMap fc++(fc L[i]++(L.drop (i+1)).flatMap fc):=by
  conv=>lhs; rw [e0]
  rw [List.flatMap_append,List.flatMap_cons]
 have e2:L.set i q'=L.take i++q'::L.drop (i+1):=List.set_eq_take_append_cons_drop .. |>.trans (if_pos hi)
 have h3:(fc L[i]).length=3:=rfl
 rw [e2,e1,List.flatMap_append,List.flatMap_cons,set_in e4 (by omega) u1,set_in e4 (by rw [List.length_set]; omega) u2,hq]
theorem fb_cut {q:Fil × Value} {f0:Fil} {va:Option Addr} {m n vc:Nat} {nm:Bs} {s:Nat} {h:Hp} (hv:q.2=.slice va n vc) (hf:f0=⟨nm,q.1.by_.take m,s⟩) (hm:m≤q.1.by_.length) (hb:fb q h):fb (f0,.slice va m vc) h:=by
 subst hf
 obtain ⟨hl,hA⟩:=hb
 have e:(q.1.by_.take m).length=m:=by rw [List.length_take]; omega
 have ec:cb (q.1.by_.take m)=(cb q.1.by_).take m:=by simp [cb,List.map_take]
 refine ⟨by show (cb (q.1.by_.take m)).length=(q.1.by_.take m).length * 1; rw [cb_length]; omega,?_⟩
 rcases hA with ⟨h1,h2⟩ | ⟨g,cap,rest,h1,a1,a2,a3,a4⟩
 ·left
  rw [hv] at h1
  injection h1 with h1 h3 h4
  subst h1 h4
  have:m=0:=by omega
  subst this
  exact ⟨rfl,e⟩
 ·right
  rw [hv] at h1
  injection h1 with h1 h3 h4
  subst h1 h4
  refine ⟨g,vc,(cb q.1.by_).drop m++rest,by rw [e],by rw [e]; omega,a2,?_,?_⟩
  ·show (cb (q.1.by_.take m)++((cb q.1.by_).drop m++rest)).length=_
   rw [ec,← List.append_assoc,List.take_append_drop]; exact a3
  ·show blk g _ (cb (q.1.by_.take m)++((cb q.1.by_).drop m++rest)) h
   rw [ec,← List.append_assoc,List.take_append_drop]; exact a4
section
variable (Z:PZ) {o w:World} {R As:List HProp} {g u:Nat} {d:Dk} {v:Value} {L:List (Fil × Value)}
theorem dNames (h:St o w (DiskM g d::R)):CallV π Z 28 #[.pointer (some ⟨g,0,none⟩)] w fun r w'=>St o w' (own 9 1 r d.fs.length (d.fs.map fnV)::DiskM g d::R):=by
 obtain ⟨v,L,hk,hL,hS⟩:=DiskM.open h
 have hlen:L.length=d.fs.length:=by rw [← hL,List.length_map]
 have hmany:=hk.many
 unfold DiskO at hS
 refine f28.calls ?_
 unfold f28.sh
 refine (dZero Z hS m0).mono fun r w1 ⟨hr,hw⟩=>?_
 subst hr; subst hw
 (try simp only [o_chk,fa_76_0,Nat.add_zero,fa_74_0,condF])
 refine r_load one72 (hS.at m0 0 rfl) ?_
 obtain ⟨va,vc,hvf⟩:=Fils.form hS m1
 rw [hvf]
 (try simp only [ln_72_3])
 rw [← hvf]
 refine ⟨fun m a y w'=>∃i:Nat,y=.int .i64 i∧m+i=L.length∧St o w' (own 9 1 a i ((L.take i).map fun p=>fnV p.1)::blk g 76 (dcells v (total d.fs) d)::Fils v L::satH (L.map fb)::R),⟨L.length,0,rfl,rfl,hS.own_nil 9 1⟩,?_⟩
 clear hS
 rintro m a _ w2 ⟨i,rfl,hi,hS⟩ _
 by_cases hlt:(i:Int) < (L.length:Int)
 ·have hil:i < L.length:=by omega
  (try simp only [o_add,o_lss,hlt,decide_true,condT])
  obtain ⟨b,q,hp',hc⟩:=Fils.ix hS m2 i hil
  have hfo:ones (fc L[i]):=fun u hu=>fc_ones (fb_one hS.drop.drop.drop) u (List.mem_flatMap.2 ⟨L[i],List.getElem_mem hil,hu⟩)
  refine r1 (hp' _) (r_loadN ag97 (xs:=fc L[i]) rfl (fun j u hu=>by rw [add_addr]; exact hc j u hu) ?_)
  refine r_alloc hS ze97 fun g2 w3 hS=>?_
  refine r_storeN hS ag97 (xs:=fc L[i]) rfl (by simp [Value.cells]) hfo fun w4 hS=>?_
  rw [setL_all _ _ (by simp [Value.cells,fc])] at hS
  (try simp only [fa_97_0,Nat.add_zero])
  refine r_load one9 (hS.at m0 0 rfl) ?_
  refine r_push el66 (hS.pick 1) (.string (str L[i].1.nm)) rfl (by omega) (by simp only [maxLen]; omega) fun v' w5 hS=>?_
  skip
  rw [wr_i64 (x:=(i:Int)+1) (by omega) (by omega)]
  refine ⟨m - 1,by omega,i+1,rfl,by omega,?_⟩
  rw [List.take_succ_eq_append_getElem hil,List.map_append]
  exact hS.swap.drop
 ·obtain rfl:i=L.length:=by omega
  rw [List.take_length] at hS
  (try simp only [o_add,o_lss,hlt,decide_false,condF])
  have e:(L.map fun p=>fnV p.1)=d.fs.map fnV:=by rw [← hL,List.map_map]; rfl
  rw [e,hlen] at hS
  exact (DiskM.shut hk hL rfl (hS.put 3)).swap
theorem dArm (n:Int) (h:St o w (DiskM g d::R)):CallV π Z 24 #[.pointer (some ⟨g,0,none⟩),.int .i64 n] w fun r w'=>r=.tuple #[]∧St o w' (DiskM g (d.arm n)::R):=by
 obtain ⟨v,L,hk,hL,hS⟩:=DiskM.open h
 unfold DiskO at hS
 have hok:=Dk.arm_ok hk n
 refine f24.calls ?_
 unfold f24.sh
 refine (dZero Z hS m0).mono fun r w1 ⟨hr,hw⟩=>?_
 subst hr; subst hw
 (try simp only [o_chk,fa_76_5,Nat.zero_add,fa_76_4,o_geq,o_not,Bool.not_false,o_pickT,guardW_true,fa_76_3])
 refine r_load one4 (hS.at m0 4 rfl) ?_
 unfold Dk.arm at hok ⊢
 by_cases hon:d.on=true
 ·rw [if_pos hon] at hok ⊢
  (try simp only [hon,condT])
  refine r_store hS one4 (by simp [dcells]) rfl fun w2 hS=>?_
  skip
  refine r_store hS one3 (by simp [dcells]) rfl fun w3 hS=>?_
  refine ⟨by first | rfl | trivial,?_⟩
  rw [hon] at hok
  have hS':=hS
  unfold dcells at hS'
  rw [hon] at hS'
  exact DiskM.shut (v:=v) (L:=L) (u:=total d.fs) hok hL rfl hS'
 ·have hon':d.on=false:=by simpa using hon
  rw [if_neg hon] at hok ⊢
  (try simp only [hon',condF])
  exact ⟨by first | rfl | trivial,h⟩
theorem dCut (n:Bs) (k:Int) (hn:n.length≤1000000000000) (h:St o w (DiskM g d::R)):CallV π Z 47 #[.pointer (some ⟨g,0,none⟩),.string (str n),.int .i64 k] w fun r w'=>r=.int .i64 (d.cut n k).1∧St o w' (DiskM g (d.cut n k).2::R):=by
 obtain ⟨v,L,hk,hL,hS⟩:=DiskM.open h
 have hlen:L.length=d.fs.length:=by rw [← hL,List.length_map]
 have hroom:=hk.room
 have hused:=hk.used
 have z0:((0:Int) != 0)=false:=rfl
 refine f47.calls ?_
 unfold f47.sh
 refine (dFind Z n hn hS hL hk).mono fun r w1 ⟨hr,hS⟩=>?_
 rcases hr with ⟨hf,rfl⟩ | ⟨hf,rfl⟩
 ·have e1:(d.found n != 0)=true:=bne_iff_ne.2 hf
  (try simp only [o_chk,fa_76_0,Nat.add_zero,fa_74_0,o_chkp,fa_76_0p,fa_74_0p,fa_74_1p,Nat.zero_add,o_lss,o_ext2_1,o_neq,e1,condT,o_ext2_0])
  unfold Dk.cut
  rw [if_pos hf]
  exact ⟨by first | rfl | trivial,DiskM.shut hk hL rfl hS⟩
 (try simp only [o_chk,fa_76_0,Nat.add_zero,fa_74_0,o_chkp,fa_76_0p,fa_74_0p,fa_74_1p,Nat.zero_add,o_lss,o_ext2_1,o_neq,z0,condF,o_ext2_0])
 obtain ⟨hi0,hn0⟩:=isAt_some (found_ok hf).2
 have hi:ix d.fs n < L.length:=by omega
 have hfi:L[ix d.fs n].1=d.fs[ix d.fs n]:=by simp only [← hL,List.getElem_map]
 have hbl:d.fs[ix d.fs n].by_.length≤total d.fs:=total_ge (List.getElem_mem hi0)
 have hb0:(d.fs[ix d.fs n]?.map fun f=>(f.by_.length:Int)).getD 0=(d.fs[ix d.fs n].by_.length:Int):=by rw [List.getElem?_eq_getElem hi0]; rfl
 unfold DiskO at hS
 have bad:k < 0∨(d.fs[ix d.fs n].by_.length:Int) < k→(.int .i64 1:Value)=.int .i64 (d.cut n k).1∧St o w1 (DiskM g (d.cut n k).2::R):=fun hb=>by
  unfold Dk.cut
  rw [if_neg (by simp [hf]),hb0,if_pos hb]
  exact ⟨rfl,DiskM.shut hk hL rfl hS⟩
 obtain ⟨va,vc,hvf⟩:=(fb_rd hS.drop.drop _ hi).form
 have hcap:∀m:Nat,m≤d.fs[ix d.fs n].by_.length→(m:Int)≤(vc:Int):=fun m hm=>by
  have:=(fb_out hi (hS.drop.drop)).own_open (e:=5)
  obtain ⟨_,⟨_,h0,_⟩ | ⟨g2,cap,rest,hv2,h1,_⟩⟩:=this
  ·rw [hfi] at h0; omega
  ·rw [hvf] at hv2
   injection hv2 with _ _ hv2
   rw [hfi] at h1; omega
 by_cases h1:k < 0
 ·(try simp only [h1,decide_true,o_pickT,condT,guardW_tf])
  exact bad (.inl h1)
 (try simp only [h1,decide_false,o_pickF,guardW_ff,o_chk,fa_76_0,Nat.add_zero,fa_74_0])
 refine r_load one72 (hS.at m0 0 rfl) ?_
 obtain ⟨b,q,hp',hc⟩:=Fils.ix hS m1 (ix d.fs n) hi
 refine r1 (hp' _) ?_
 (try simp only [fa_97_1])
 refine r_load one43 (hc 1 _ rfl) ?_
 rw [hvf,hfi]
 by_cases h2:(d.fs[ix d.fs n].by_.length:Int) < k
 ·(try simp only [ln_43_3,o_gtr,h2,decide_true,condT])
  exact bad (.inr h2)
 (try simp only [ln_43_3,o_gtr,h2,decide_false,condF])
 clear bad
 obtain ⟨m,rfl⟩:∃m:Nat,k=m:=⟨k.toNat,by omega⟩
 have hm:m≤d.fs[ix d.fs n].by_.length:=by omega
 refine (dWrite Z hS).mono fun r w2 ⟨hr,hS⟩=>?_
 subst hr
 cases hst:d.stops with
 | true=>
  rw [hst,if_pos rfl] at hS
  (try simp only [Bool.not_true,o_not,Bool.not_false,condT])
  unfold Dk.cut
  rw [if_neg (by simp [hf]),hb0,if_neg (by omega),if_pos hst]
  exact ⟨by first | rfl | trivial,DiskM.shut (Dk.off_ok hk) hL rfl hS⟩
 | false=>
 rw [hst,if_neg Bool.false_ne_true] at hS
 have hcu:d.cut n m=(0,{ d.wrote with fs:=d.fs.modify (ix d.fs n) fun f=>{ f with by_:=f.by_.take m,sy:=m } }):=by
  unfold Dk.cut
  rw [if_neg (by simp [hf]),hb0,if_neg (by omega),if_neg (by simp [hst]),Int.toNat_natCast]
 have hok:=Dk.cut_ok hk n m
 rw [hcu] at hok ⊢
 (try simp only [Bool.not_false,o_not,Bool.not_true,condF])
 refine ⟨fun w3 hd=>?_⟩
 have hS:=hS.drew hd
 refine rr_load one3 (hS.at m0 1 rfl) (rr_load one72 (hS.at m0 0 rfl) ?_)
 obtain ⟨b,q,hp',hc⟩:=Fils.ix hS m1 (ix d.fs n) hi
 refine rp hp' ?_
 (try simp only [fa_97_1p])
 refine rr_load one43 (hc 1 _ rfl) ?_
 rw [hvf,hfi]
 (try simp only [ln_43_3p,o_subp])
 rw [wr_i64 (x:=(d.fs[ix d.fs n].by_.length:Int) - (m:Int)) (by omega) (by omega),wr_i64 (x:=((total d.fs:Nat):Int) - ((d.fs[ix d.fs n].by_.length:Int) - (m:Int))) (by omega) (by omega),
  show ((total d.fs:Nat):Int) - ((d.fs[ix d.fs n].by_.length:Int) - (m:Int))=((total d.fs - (d.fs[ix d.fs n].by_.length - m):Nat):Int) by omega]
 refine r_store hS one3 (by simp [dcells]) rfl fun w4 hS=>?_
 have hS:St o w4 (blk g 76 (dcells v (total d.fs - (d.fs[ix d.fs n].by_.length - m)) d.wrote)::Fils v L::satH (L.map fb)::R):=hS
 refine ⟨fun w5 hd=>?_⟩
 have hS:=hS.drew hd
 refine rr_load one72 (hS.at m0 0 rfl) (rr_load one72 (hS.at m0 0 rfl) ?_)
 obtain ⟨b,q,hp',hc⟩:=Fils.ix hS m1 (ix d.fs n) hi
 refine rp hp' ?_
 (try simp only [fa_97_1p])
 refine rr_load one43 (hc 1 _ rfl) ?_
 rw [hvf]
 refine rp (fun w=>run_slice_to el43 _ _ _ .i64 (m:Int) (by omega) (hcap m hm) w) ?_
 rw [Int.toNat_natCast]
 refine rp hp' ?_
 (try simp only [fa_97_1p])
 obtain ⟨f0,hf0⟩:∃f0:Fil,f0=⟨L[ix d.fs n].1.nm,L[ix d.fs n].1.by_.take m,m⟩:=⟨_,rfl⟩
 have hS3:St o w5 (own 97 3 v L.length (L.flatMap fc)::blk g 76 (dcells v (total d.fs - (d.fs[ix d.fs n].by_.length - m)) d.wrote)::satH (L.map fb)::R):=hS.swap
 refine r_store_fld hS3 el72 one43 .i64 (ix d.fs n) 1 hi (by omega) hp' rfl fun w6 hS=>?_
 skip
 refine r_load one72 (hS.at m1 0 rfl) ?_
 refine r1 (hp' _) ?_
 (try simp only [fa_97_2])
 refine r_store_fld hS el72 one3 .i64 (ix d.fs n) 2 hi (by omega) hp' rfl fun w7 hS=>?_
 have h3:ix d.fs n * 3+2 ≠ ix d.fs n * 3+1:=by omega
 rw [fc_set2 hi (.slice va m vc) (.int .i64 (m:Int)) (f0,.slice va m vc) (by rw [hf0]; rfl)] at hS
 refine ⟨by first | rfl | trivial,?_⟩
 have hS4:St o w7 (satH (L.map fb)::own 97 3 v L.length ((L.set (ix d.fs n) (f0,.slice va m vc)).flatMap fc)::blk g 76 (dcells v (total d.fs - (d.fs[ix d.fs n].by_.length - m)) d.wrote)::R):=hS.pick 2
 have hS5:=fb_out hi hS4
 have hS6:St o w7 (fb (f0,.slice va m vc)::_):=hS5.mono fun h hb=>fb_cut hvf hf0 (by rw [hfi]; exact hm) hb
 have hS7:=fb_in hi _ hS6
 refine DiskM.shut (v:=v) (L:=L.set (ix d.fs n) (f0,.slice va m vc)) (u:=total d.fs - (d.fs[ix d.fs n].by_.length - m)) hok ?_ ?_ ?_
 ·show (L.set _ _).map (·.1)=d.fs.modify _ _
  rw [List.map_set,modify_set hi0,hL,hf0,hfi]
 ·show _=total (d.fs.modify _ _)
  have hs:total (d.fs.set (ix d.fs n) ⟨d.fs[ix d.fs n].nm,d.fs[ix d.fs n].by_.take m,m⟩)+d.fs[ix d.fs n].by_.length=total d.fs+(d.fs[ix d.fs n].by_.take m).length:=total_set hi0 _
  rw [List.length_take,Nat.min_eq_left hm] at hs
  rw [modify_set hi0]; omega
 ·unfold DiskO Fils
  rw [List.length_set]
  exact (hS7.put 2).swap
end

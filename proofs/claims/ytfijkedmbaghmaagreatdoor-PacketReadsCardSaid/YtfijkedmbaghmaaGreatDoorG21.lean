import Derived.Test.YtfijkedmbaghmaaGreatDoorG19
import Derived.Test.YtfijkedmbaghmaaGreatDoorU1
/- Reference 15: Read. -/
set_option linter.unusedVariables false
set_option linter.unusedSimpArgs false
namespace Go.Proofs.YtfijkedmbaghmaaGreatDoor
open Go.Sh
open Tryz renaming prog → π
def nxI (K j:Nat):Nat:=((ixs K 12)[j]?).getD 12
theorem gap_fin:∀K:Fin 15,(∀m:Fin 12,m.1 < nxI K.1 0→hasF K.1 m.1=false)∧∀j:Fin 12,j.1 < (ixs K.1 12).length→nxI K.1 j.1+1≤nxI K.1 (j.1+1)∧∀m:Fin 12,nxI K.1 j.1 < m.1→m.1 < nxI K.1 (j.1+1)→hasF K.1 m.1=false:=by decide +kernel
theorem nxI_le (K j:Nat):nxI K j≤12:=by
 unfold nxI
 cases h:(ixs K 12)[j]? with
 | none=>simp
 | some i=>have:=(ixs_mem.1 (List.mem_of_getElem? h)).1; simp; omega
theorem rdC_skips {l:List UInt8} {kd:Int} {p:Pk} {off:Nat} {err:Int} {i:Nat} (hc:RdC l kd i p off err):∀k,(∀m,i≤m→m < i+k→hasF kd.toNat m=false)→RdC l kd (i+k) p off err
 | 0,_=>hc
 | k+1,h=>rdC_skip (rdC_skips hc k fun m h1 h2=>h m h1 (by omega)) (h (i+k) (by omega) (by omega))
section
variable (Z:PZ) {o w:World} {R As:List HProp} {g:Nat} {p:Pk} {all:List UInt8} {off:Nat} {err:Int}
set_option maxRecDepth 100000 in
theorem refReadP {x:Value} {n:Nat} {l:List UInt8} (hx:Ent o R fun w=>Rd w 1 x n (cb l)) (hxc:CapOk x) (hl:l.length≤140737488355328) (h:St o w R):CallV π Z 69 #[x] w (ReadP l o R):=by
 have h0:=hx w h
 have hn:=rd_len h0
 subst hn
 obtain ⟨xa,c,rfl⟩:=h0.form
 have hcap:=hxc xa l.length c rfl
 refine f69.calls ?_
 unfold f69.sh
 refine r_alloc h ze39 fun g1 w1 hS=>?_
 have hS:St o w1 (blk g1 39 pz.cells::R):=hS
 refine (dNew Z hS (fun w hw=>hx w hw.drop) hl).mono fun r w2 ⟨g,hr,hS⟩=>?_
 subst hr
 have stop:∀(w:World) (p:Pk),(∀y,WfP y→okP y=true→l ≠ pkB y)→St o w (blk g1 39 p.cells::R) →
   rN π Z (Instr.build 39 #[]) w fun t23 w=>rO π Z (Instr.storeAt 39 (.pointer (some ⟨g1,0,none⟩)) t23) w fun w=>
    ∃r_24,(do loadVar 39 (← asAddr (.pointer (some ⟨g1,0,none⟩))):Sem Value).run π w=.ok r_24 w∧ReadP l o R (Value.tuple #[r_24,(.int .i64 150)]) w:=fun w p hno hS=>by
  refine r_build (cells:=pz.cells.toArray) (by kernel_rfl) ?_
  refine r_storeN hS ag39 (xs:=pz.cells) rfl (show 0+32≤32 from Nat.le_refl _) (RdP.ones (w:=w) ⟨qz_rd w,rd0 w 1⟩) fun w3 hS=>?_
  rw [setL_all _ _ (by rfl)] at hS
  exact r_resN ag39 (xs:=pz.cells) rfl (hS.cells_at m0 0 (whole_at _)) (.inr ⟨hno,rfl,hS.drop⟩)
 have nz:∀{e:Int},e ≠ 0→(e != 0)=true:=fun h=>by simpa using h
 have h00:((0:Int) != 0)=false:=rfl
 have adl:∀y:Pk,(0:Int)≤(adler (body y):Int)∧(adler (body y):Int)≤4294967295:=fun y=>by have:=adler_lt (body y); omega
 have nokd:∀{y:Pk},Has l 4 (body y)→Has l 4 (enc 1 y.kd):=fun {y} h=>by
  obtain ⟨rest,e2⟩:=fpre_add y.kd.toNat y 0 12
  have e2:body y=enc 1 y.kd++rest:=e2
  rw [e2] at h
  exact (Has.split.1 h).1
 refine (dgUint32 Z hS).mono fun r w4 hq=>?_
 rcases hq with ⟨a,ha,_,hh,hu,rfl,hS⟩ | ⟨rfl,hno,off',e',he',hS⟩
 rotate_left
 ·refine r_alloc hS ze39 fun g4 w5 hS=>?_
  have hS:St o w5 (blk g4 39 pz.cells::RefR g l off' e'::blk g1 39 pz.cells::R):=hS
  refine (dgInt8 Z hS.swap).mono fun r w6 hq=>?_
  rcases hq with ⟨_,_,h0,_⟩ | ⟨rfl,_,off2,e2,he2,hS⟩
  ·exact absurd h0 he'
  (try simp only [o_chk,fa_235_2,Nat.zero_add,fa_39_0,Nat.add_zero])
  refine r_store (hS.pick 1) one22 (show 0 < 32 by omega) rfl fun w7 hS=>?_
  obtain ⟨k8,hk8⟩:∃k8,k8=IntKind.i8.wrap 0:=⟨_,rfl⟩
  rw [← hk8] at hS
  have hS:St o w7 (blk g4 39 (pk0 k8).cells::RefR g l off2 e2::blk g1 39 pz.cells::R):=hS
  refine r_load one22 (hS.at m0 0 rfl) ?_
  refine (pLettersC Z k8).mono fun r w8 ⟨hr,hw⟩=>?_
  subst hr; subst hw
  obtain ⟨v,hvv,hS2⟩:=RefR.open hS.swap
  (try simp only [ln_9_3])
  refine r_load one43 (hS2.at m0 2 rfl) ?_
  refine r1 (run_neq_int _ _ _ _ _ _ _ _) ?_
  rw [nz he2]
  (try simp only [o_pickT,condT,guardW_tf])
  exact stop _ pz (fun y hy hk e=>hno (adler (body y)) (adl y) ⟨rfl,by rw [e]; exact ⟨body y,rfl⟩⟩) (by (refine Sh.St.sub ?_ (hS); repeat (first | with_reducible (first | exact sub_refl | exact sub_nil | refine sP0 ?_ | refine sP1 ?_ | refine sP2 ?_ | refine sP3 ?_ | refine sP4 ?_ | refine sP5 ?_ | refine sP6 ?_ | refine sP7 ?_ | refine sP8 ?_ | refine sP9 ?_ | refine sP10 ?_ | refine sP11 ?_ | refine sP12 ?_ | refine sP13 ?_ | refine sP14 ?_ | refine sP15 ?_) | exact sub_refl | refine sP0 ?_ | refine sP1 ?_ | refine sP2 ?_ | refine sP3 ?_ | refine sP4 ?_ | refine sP5 ?_ | refine sP6 ?_ | refine sP7 ?_ | refine sP8 ?_ | refine sP9 ?_ | refine sP10 ?_ | refine sP11 ?_ | refine sP12 ?_ | refine sP13 ?_ | refine sP14 ?_ | refine sP15 ?_ | refine sub_drop ?_)))
 have hl4:4≤l.length:=by have:=hh.le (Nat.zero_le _); rw [enc_length] at this; omega
 have hsum:∀y,l=pkB y→a=adler (body y)∧l.drop 4=body y:=fun y e=>⟨(hu _ (adl y) (by rw [e]; exact ⟨body y,rfl⟩)).symm,by rw [e,pkB,summed_drop]⟩
 rw [enc_length,Nat.zero_add] at hS
 refine r_alloc hS ze39 fun g4 w5 hS=>?_
 have hS:St o w5 (blk g4 39 pz.cells::RefR g l 4 0::blk g1 39 pz.cells::R):=hS
 refine (dgInt8 Z hS.swap).mono fun r w6 hq=>?_
 rcases hq with ⟨kd,hkr,_,hhk,huk,rfl,hS⟩ | ⟨rfl,hno,off',e',he',hS⟩
 rotate_left
 ·(try simp only [o_chk,fa_235_2,Nat.zero_add,fa_39_0,Nat.add_zero])
  refine r_store (hS.pick 1) one22 (show 0 < 32 by omega) rfl fun w7 hS=>?_
  obtain ⟨k8,hk8⟩:∃k8,k8=IntKind.i8.wrap 0:=⟨_,rfl⟩
  rw [← hk8] at hS
  have hS:St o w7 (blk g4 39 (pk0 k8).cells::RefR g l off' e'::blk g1 39 pz.cells::R):=hS
  refine r_load one22 (hS.at m0 0 rfl) ?_
  refine (pLettersC Z k8).mono fun r w8 ⟨hr,hw⟩=>?_
  subst hr; subst hw
  obtain ⟨v,hvv,hS2⟩:=RefR.open hS.swap
  (try simp only [ln_9_3])
  refine r_load one43 (hS2.at m0 2 rfl) ?_
  refine r1 (run_neq_int _ _ _ _ _ _ _ _) ?_
  rw [nz he']
  (try simp only [o_pickT,condT,guardW_tf])
  exact stop _ pz (fun y hy hk e=>hno y.kd hy.kd ⟨rfl,nokd (pk_has e)⟩) (by (refine Sh.St.sub ?_ (hS); repeat (first | with_reducible (first | exact sub_refl | exact sub_nil | refine sP0 ?_ | refine sP1 ?_ | refine sP2 ?_ | refine sP3 ?_ | refine sP4 ?_ | refine sP5 ?_ | refine sP6 ?_ | refine sP7 ?_ | refine sP8 ?_ | refine sP9 ?_ | refine sP10 ?_ | refine sP11 ?_ | refine sP12 ?_ | refine sP13 ?_ | refine sP14 ?_ | refine sP15 ?_) | exact sub_refl | refine sP0 ?_ | refine sP1 ?_ | refine sP2 ?_ | refine sP3 ?_ | refine sP4 ?_ | refine sP5 ?_ | refine sP6 ?_ | refine sP7 ?_ | refine sP8 ?_ | refine sP9 ?_ | refine sP10 ?_ | refine sP11 ?_ | refine sP12 ?_ | refine sP13 ?_ | refine sP14 ?_ | refine sP15 ?_ | refine sub_drop ?_)))
 rw [enc_length] at hS
 (try simp only [o_chk,fa_235_2,Nat.zero_add,fa_39_0,Nat.add_zero])
 refine r_store (hS.pick 1) one22 (show 0 < 32 by omega) rfl fun w7 hS=>?_
 have hS:St o w7 (blk g4 39 (pk0 kd).cells::RefR g l 5 0::blk g1 39 pz.cells::R):=hS
 refine r_load one22 (hS.at m0 0 rfl) ?_
 refine (pLettersC Z kd).mono fun r w8 ⟨hr,hw⟩=>?_
 subst hr; subst hw
 obtain ⟨v,hvv,hS2⟩:=RefR.open hS.swap
 (try simp only [ln_9_3])
 refine r_load one43 (hS2.at m0 2 rfl) ?_
 clear hS2 hvv
 refine r1 (run_neq_int _ _ _ _ _ _ _ _) ?_
 rw [h00]
 (try simp only [o_pickF,guardW_ff,os_eql])
 have hs:((str (pLets kd)).toList == (str []).toList)=!isKd kd:=by
  rw [str_toList,str_toList]
  cases hkd:isKd kd with
  | false=>rw [pLets_nil.2 hkd]; rfl
  | true=>
   cases hl:pLets kd with
   | nil=>rw [pLets_nil.1 hl] at hkd; cases hkd
   | cons a l=>rfl
 have hs:((str (pLets kd)).toList == ({ data:=#[] }:ByteArray).toList)=!isKd kd:=hs
 rw [hs]
 clear hs
 cases hkd:isKd kd with
 | false=>
  simp only [Bool.not_false]
  (try simp only [o_pickT,condT,guardW_tf])
  exact stop _ pz (fun y hy hk e=>by
   have h1:=huk y.kd hy.kd (nokd (pk_has e))
   have h2:=(okP_iff.1 hk).1
   rw [h1,hkd] at h2
   cases h2) (by (refine Sh.St.sub ?_ (hS); repeat (first | with_reducible (first | exact sub_refl | exact sub_nil | refine sP0 ?_ | refine sP1 ?_ | refine sP2 ?_ | refine sP3 ?_ | refine sP4 ?_ | refine sP5 ?_ | refine sP6 ?_ | refine sP7 ?_ | refine sP8 ?_ | refine sP9 ?_ | refine sP10 ?_ | refine sP11 ?_ | refine sP12 ?_ | refine sP13 ?_ | refine sP14 ?_ | refine sP15 ?_) | exact sub_refl | refine sP0 ?_ | refine sP1 ?_ | refine sP2 ?_ | refine sP3 ?_ | refine sP4 ?_ | refine sP5 ?_ | refine sP6 ?_ | refine sP7 ?_ | refine sP8 ?_ | refine sP9 ?_ | refine sP10 ?_ | refine sP11 ?_ | refine sP12 ?_ | refine sP13 ?_ | refine sP14 ?_ | refine sP15 ?_ | refine sub_drop ?_)))
 | true=>
 simp only [Bool.not_true]
 have hK:=isKd_le hkd
 (try simp only [o_pickF,guardW_ff])
 refine r1 (run_slice_from el30 xa l.length c .i64 4 (by omega) (by omega) _) ?_
 refine (refSum Z (Rd.tail (hx _ (by (refine Sh.St.sub ?_ (hS); repeat (first | with_reducible (first | exact sub_refl | exact sub_nil | refine sP0 ?_ | refine sP1 ?_ | refine sP2 ?_ | refine sP3 ?_ | refine sP4 ?_ | refine sP5 ?_ | refine sP6 ?_ | refine sP7 ?_ | refine sP8 ?_ | refine sP9 ?_ | refine sP10 ?_ | refine sP11 ?_ | refine sP12 ?_ | refine sP13 ?_ | refine sP14 ?_ | refine sP15 ?_) | exact sub_refl | refine sP0 ?_ | refine sP1 ?_ | refine sP2 ?_ | refine sP3 ?_ | refine sP4 ?_ | refine sP5 ?_ | refine sP6 ?_ | refine sP7 ?_ | refine sP8 ?_ | refine sP9 ?_ | refine sP10 ?_ | refine sP11 ?_ | refine sP12 ?_ | refine sP13 ?_ | refine sP14 ?_ | refine sP15 ?_ | refine sub_drop ?_)))) hcap 4 hl4)).mono fun r w6 ⟨hr,hw⟩=>?_
 subst hr; subst hw
 refine r1 (run_neq_int _ _ _ _ _ _ _ _) ?_
 by_cases hea:a=adler (l.drop 4)
 rotate_left
 ·have hb:(a != adler (l.drop 4))=true:=by simpa using hea
  rw [hb]
  (try simp only [condT])
  refine stop _ pz (fun y hy hk e=>?_) (by (refine Sh.St.sub ?_ (hS); repeat (first | with_reducible (first | exact sub_refl | exact sub_nil | refine sP0 ?_ | refine sP1 ?_ | refine sP2 ?_ | refine sP3 ?_ | refine sP4 ?_ | refine sP5 ?_ | refine sP6 ?_ | refine sP7 ?_ | refine sP8 ?_ | refine sP9 ?_ | refine sP10 ?_ | refine sP11 ?_ | refine sP12 ?_ | refine sP13 ?_ | refine sP14 ?_ | refine sP15 ?_) | exact sub_refl | refine sP0 ?_ | refine sP1 ?_ | refine sP2 ?_ | refine sP3 ?_ | refine sP4 ?_ | refine sP5 ?_ | refine sP6 ?_ | refine sP7 ?_ | refine sP8 ?_ | refine sP9 ?_ | refine sP10 ?_ | refine sP11 ?_ | refine sP12 ?_ | refine sP13 ?_ | refine sP14 ?_ | refine sP15 ?_ | refine sub_drop ?_)))
  obtain ⟨h1,h2⟩:=hsum y e
  exact hea (by rw [h1,h2])
 have hb:(a != adler (l.drop 4))=false:=by simpa using hea
 rw [hb]
 (try simp only [condF])
 rw [pLets_ixs hkd]
 have hlx:((ixs kd.toNat 12).map ltrB).length=(ixs kd.toNat 12).length:=List.length_map ..
 have hix:(ixs kd.toNat 12).length≤12:=Nat.le_trans (List.length_filter_le ..) (by simp)
 obtain ⟨gap0,gapS⟩:=gap_fin ⟨kd.toNat,by omega⟩
 have hS:St o w6 (RefR g l 5 0::blk g4 39 (pk0 kd).cells::RSt (pk0 kd) (blk g1 39 pz.cells::R)):=by
  have h1:=tz_own (hS.own_nil 5 1)
  have h1:St o w6 (OwQ (pk0 kd).t.q::own 5 1 (pk0 kd).bv (pk0 kd).b.length (cb (pk0 kd).b)::blk g4 39 (pk0 kd).cells::RefR g l 5 0::blk g1 39 pz.cells::R):=h1
  unfold RSt
  (refine Sh.St.sub ?_ (h1); repeat (first | with_reducible (first | exact sub_refl | exact sub_nil | refine sP0 ?_ | refine sP1 ?_ | refine sP2 ?_ | refine sP3 ?_ | refine sP4 ?_ | refine sP5 ?_ | refine sP6 ?_ | refine sP7 ?_ | refine sP8 ?_ | refine sP9 ?_ | refine sP10 ?_ | refine sP11 ?_ | refine sP12 ?_ | refine sP13 ?_ | refine sP14 ?_ | refine sP15 ?_) | exact sub_refl | refine sP0 ?_ | refine sP1 ?_ | refine sP2 ?_ | refine sP3 ?_ | refine sP4 ?_ | refine sP5 ?_ | refine sP6 ?_ | refine sP7 ?_ | refine sP8 ?_ | refine sP9 ?_ | refine sP10 ?_ | refine sP11 ?_ | refine sP12 ?_ | refine sP13 ?_ | refine sP14 ?_ | refine sP15 ?_ | refine sub_drop ?_))
 refine ⟨fun m y w'=>∃j:Nat,y=.int .i64 j∧m+j=(ixs kd.toNat 12).length∧∃(p:Pk) (off:Nat) (err:Int),(err=0→WfP p)∧RdC l kd (nxI kd.toNat j) p off err∧St o w' (RefR g l off err::blk g4 39 p.cells::RSt p (blk g1 39 pz.cells::R)),
  ⟨(ixs kd.toNat 12).length,0,rfl,rfl,pk0 kd,5,0,fun _=>pk0_wf hkr,?_,hS⟩,?_⟩
 ·have c0:RdC l kd 0 (pk0 kd) 5 0:=.inl ⟨rfl,rfl,by show 5=4+(enc 1 kd).length; rw [enc_length],hhk,fun j hj _=>pk0_zr kd hj,fun y hy hk e=>⟨huk y.kd hy.kd (nokd e),fun j hj=>by omega⟩⟩
  have:=rdC_skips c0 (nxI kd.toNat 0) fun m _ h2=>gap0 ⟨m,by have:=nxI_le kd.toNat 0; omega⟩ (by simpa using h2)
  rwa [Nat.zero_add] at this
 clear hS
 rintro m _ w10 ⟨j,rfl,hj,p,off,err,hwf,hC,hS⟩ _
 by_cases hlt:(j:Int) < ((ixs kd.toNat 12).length:Int)
 ·have hjl:j < (ixs kd.toNat 12).length:=by omega
  have hmem:=ixs_mem.1 (List.getElem_mem hjl)
  have hnx:nxI kd.toNat j=(ixs kd.toNat 12)[j]:=by unfold nxI; rw [List.getElem?_eq_getElem hjl]; rfl
  rw [hnx] at hC
  obtain ⟨gap1,gap2⟩:=gapS ⟨j,by omega⟩ hjl
  have gap1:nxI kd.toNat j+1≤nxI kd.toNat (j+1):=gap1
  have gap2:∀m:Fin 12,nxI kd.toNat j < m.1→m.1 < nxI kd.toNat (j+1)→hasF kd.toNat m.1=false:=gap2
  rw [hnx] at gap1 gap2
  (try simp only [str_size,hlx,o_add,o_lss,hlt,decide_true,condT])
  refine ⟨fun w5 hd=>?_⟩
  have hS:=hS.drew hd
  refine rr_loadN ag39 (xs:=p.cells) rfl (hS.cells_at m1 0 (whole_at _)) ?_
  refine rp (fun w=>run_indexStr (by kernel_rfl) .i64 _ j (by rw [hlx]; exact hjl) w) ?_
  rw [List.getElem_map,ltrB_val ⟨_,hmem.1⟩]
  have hS:St o w5 (RefR g l off err::RSt p (blk g4 39 p.cells::blk g1 39 pz.cells::R)):=by unfold RSt; unfold RSt at hS; (refine Sh.St.sub ?_ (hS); repeat (first | with_reducible (first | exact sub_refl | exact sub_nil | refine sP0 ?_ | refine sP1 ?_ | refine sP2 ?_ | refine sP3 ?_ | refine sP4 ?_ | refine sP5 ?_ | refine sP6 ?_ | refine sP7 ?_ | refine sP8 ?_ | refine sP9 ?_ | refine sP10 ?_ | refine sP11 ?_ | refine sP12 ?_ | refine sP13 ?_ | refine sP14 ?_ | refine sP15 ?_) | exact sub_refl | refine sP0 ?_ | refine sP1 ?_ | refine sP2 ?_ | refine sP3 ?_ | refine sP4 ?_ | refine sP5 ?_ | refine sP6 ?_ | refine sP7 ?_ | refine sP8 ?_ | refine sP9 ?_ | refine sP10 ?_ | refine sP11 ?_ | refine sP12 ?_ | refine sP13 ?_ | refine sP14 ?_ | refine sP15 ?_ | refine sub_drop ?_))
  have fin:∀(w':World) (p':Pk) (off':Nat) (err':Int),(err'=0→WfP p')→RdC l kd ((ixs kd.toNat 12)[j]+1) p' off' err'→St o w' (RefR g l off' err'::RSt p' (blk g4 39 p.cells::blk g1 39 pz.cells::R)) →
    rO π Z (Instr.storeAt 39 (.pointer (some ⟨g4,0,none⟩)) (.agg p'.cells.toArray)) w' fun w=>∃n_25,n_25 < m∧∃j_1:Nat,Value.int .i64 (IntKind.i64.wrap (j+1))=.int .i64 j_1∧n_25+j_1=(ixs kd.toNat 12).length∧∃(p:Pk) (off:Nat) (err:Int),(err=0→WfP p)∧RdC l kd (nxI kd.toNat j_1) p off err∧St o w (RefR g l off err::blk g4 39 p.cells::RSt p (blk g1 39 pz.cells::R)):=by
   intro w' p' off' err' hwf' hC' hS
   have hone:ones p'.cells:=RdP.ones (w:=w') ⟨OwQ.rd _ (hS.pick 1),hS.own_rd m2⟩
   refine r_storeN (hS.pick 3) ag39 (xs:=p'.cells) rfl (show 0+32≤32 from Nat.le_refl _) hone fun w3 hS=>?_
   rw [setL_all _ _ (by rfl)] at hS
   have hS:St o w3 (blk g4 39 p'.cells::RefR g l off' err'::OwQ p'.t.q::own 5 1 p'.bv p'.b.length (cb p'.b)::blk g1 39 pz.cells::R):=hS
   rw [wr_i64 (x:=(j:Int)+1) (by omega) (by omega)]
   refine ⟨m - 1,by omega,j+1,rfl,by omega,p',off',err',hwf',?_,by unfold RSt; (refine Sh.St.sub ?_ (hS); repeat (first | with_reducible (first | exact sub_refl | exact sub_nil | refine sP0 ?_ | refine sP1 ?_ | refine sP2 ?_ | refine sP3 ?_ | refine sP4 ?_ | refine sP5 ?_ | refine sP6 ?_ | refine sP7 ?_ | refine sP8 ?_ | refine sP9 ?_ | refine sP10 ?_ | refine sP11 ?_ | refine sP12 ?_ | refine sP13 ?_ | refine sP14 ?_ | refine sP15 ?_) | exact sub_refl | refine sP0 ?_ | refine sP1 ?_ | refine sP2 ?_ | refine sP3 ?_ | refine sP4 ?_ | refine sP5 ?_ | refine sP6 ?_ | refine sP7 ?_ | refine sP8 ?_ | refine sP9 ?_ | refine sP10 ?_ | refine sP11 ?_ | refine sP12 ?_ | refine sP13 ?_ | refine sP14 ?_ | refine sP15 ?_ | refine sub_drop ?_))⟩
   have:=rdC_skips hC' (nxI kd.toNat (j+1) - ((ixs kd.toNat 12)[j]+1)) fun m h1 h2=>gap2 ⟨m,by have:=nxI_le kd.toNat (j+1); omega⟩ (by show _ < m; omega) (by show m < _; omega)
   rwa [show (ixs kd.toNat 12)[j]+1+(nxI kd.toNat (j+1) - ((ixs kd.toNat 12)[j]+1))=nxI kd.toNat (j+1) by omega] at this
  refine (getC Z hmem.1 hl hwf hS).mono fun r w6 hq=>?_
  rcases hq with ⟨p',rfl,hk,heq,hwf',he,hhas,hu2,hS⟩ | ⟨p',rfl,hno,off',e',he',hS⟩
  ·exact fin w6 p' _ 0 (fun _=>hwf') (rdC_good hC he hmem.1 hmem.2 hk heq hhas hu2) hS
  ·exact fin w6 p' off' e' (fun h=>absurd h he') (.inr ⟨he',rdC_bad hC hmem.1 hmem.2 hno⟩) hS
 ·obtain rfl:j=(ixs kd.toNat 12).length:=by omega
  have h12:nxI kd.toNat (ixs kd.toNat 12).length=12:=by unfold nxI; rw [List.getElem?_eq_none (Nat.le_refl _)]; rfl
  rw [h12] at hC
  (try simp only [str_size,hlx,o_add,o_lss,hlt,decide_false,condF])
  refine (dEnd Z hS).mono fun r w11 ⟨hr,hS⟩=>?_
  subst hr
  refine r1 (run_neq_int _ _ _ _ _ _ _ _) ?_
  by_cases hmore:err ≠ 0∨off < l.length
  ·have hb:((if err=0∧off < l.length then 13 else err) != (0:Int))=true:=by
    split
    ·rfl
    ·rename_i hn; exact nz (hmore.elim id fun h=>fun h0=>hn ⟨h0,h⟩)
   rw [hb]
   (try simp only [o_pickT,condT,guardW_tf])
   exact stop _ pz (rdC_more hC hmore) (by unfold RSt at hS; (refine Sh.St.sub ?_ (hS); repeat (first | with_reducible (first | exact sub_refl | exact sub_nil | refine sP0 ?_ | refine sP1 ?_ | refine sP2 ?_ | refine sP3 ?_ | refine sP4 ?_ | refine sP5 ?_ | refine sP6 ?_ | refine sP7 ?_ | refine sP8 ?_ | refine sP9 ?_ | refine sP10 ?_ | refine sP11 ?_ | refine sP12 ?_ | refine sP13 ?_ | refine sP14 ?_ | refine sP15 ?_) | exact sub_refl | refine sP0 ?_ | refine sP1 ?_ | refine sP2 ?_ | refine sP3 ?_ | refine sP4 ?_ | refine sP5 ?_ | refine sP6 ?_ | refine sP7 ?_ | refine sP8 ?_ | refine sP9 ?_ | refine sP10 ?_ | refine sP11 ?_ | refine sP12 ?_ | refine sP13 ?_ | refine sP14 ?_ | refine sP15 ?_ | refine sub_drop ?_)))
  ·have he:err=0:=Decidable.byContradiction fun h=>hmore (.inl h)
   have hle:¬ off < l.length:=fun h=>hmore (.inr h)
   have hb:((if err=0∧off < l.length then 13 else err) != (0:Int))=false:=by rw [if_neg (fun h=>hle h.2),he]; rfl
   rw [hb]
   (try simp only [o_pickF,guardW_ff])
   have hS:St o w11 (blk g4 39 p.cells::OwQ p.t.q::own 5 1 p.bv p.b.length (cb p.b)::blk g1 39 pz.cells::R):=by unfold RSt at hS; (refine Sh.St.sub ?_ (hS); repeat (first | with_reducible (first | exact sub_refl | exact sub_nil | refine sP0 ?_ | refine sP1 ?_ | refine sP2 ?_ | refine sP3 ?_ | refine sP4 ?_ | refine sP5 ?_ | refine sP6 ?_ | refine sP7 ?_ | refine sP8 ?_ | refine sP9 ?_ | refine sP10 ?_ | refine sP11 ?_ | refine sP12 ?_ | refine sP13 ?_ | refine sP14 ?_ | refine sP15 ?_) | exact sub_refl | refine sP0 ?_ | refine sP1 ?_ | refine sP2 ?_ | refine sP3 ?_ | refine sP4 ?_ | refine sP5 ?_ | refine sP6 ?_ | refine sP7 ?_ | refine sP8 ?_ | refine sP9 ?_ | refine sP10 ?_ | refine sP11 ?_ | refine sP12 ?_ | refine sP13 ?_ | refine sP14 ?_ | refine sP15 ?_ | refine sub_drop ?_))
   have hrd:Ent o (blk g4 39 p.cells::OwQ p.t.q::own 5 1 p.bv p.b.length (cb p.b)::blk g1 39 pz.cells::R) fun w=>RdP w p:=fun w hw=>⟨OwQ.rd _ (hw.pick 1),hw.own_rd m2⟩
   refine r_loadN ag39 (xs:=p.cells) rfl (hS.cells_at m0 0 (whole_at _)) ?_
   refine (refChkP Z (hwf he) hrd hS).mono fun r w12 ⟨hr,hS⟩=>?_
   subst hr
   refine r1 (run_neq_int _ _ _ _ _ _ _ _) ?_
   cases hok:okP p with
   | false=>
    have h150:((150:Int) != 0)=true:=rfl
    simp only [if_neg Bool.false_ne_true,h150]
    (try simp only [condT])
    exact stop _ pz (rdC_not hC hok) (by (refine Sh.St.sub ?_ (hS); repeat (first | with_reducible (first | exact sub_refl | exact sub_nil | refine sP0 ?_ | refine sP1 ?_ | refine sP2 ?_ | refine sP3 ?_ | refine sP4 ?_ | refine sP5 ?_ | refine sP6 ?_ | refine sP7 ?_ | refine sP8 ?_ | refine sP9 ?_ | refine sP10 ?_ | refine sP11 ?_ | refine sP12 ?_ | refine sP13 ?_ | refine sP14 ?_ | refine sP15 ?_) | exact sub_refl | refine sP0 ?_ | refine sP1 ?_ | refine sP2 ?_ | refine sP3 ?_ | refine sP4 ?_ | refine sP5 ?_ | refine sP6 ?_ | refine sP7 ?_ | refine sP8 ?_ | refine sP9 ?_ | refine sP10 ?_ | refine sP11 ?_ | refine sP12 ?_ | refine sP13 ?_ | refine sP14 ?_ | refine sP15 ?_ | refine sub_drop ?_)))
   | true=>
    simp only [if_true,h00]
    (try simp only [condF])
    have hpl:l=pkB p:=rdC_end hC he hle hl4 ?_
    rotate_left
    ·obtain ⟨rest,hr⟩:=hh
     rw [List.drop_zero] at hr
     have:l.drop 4=rest:=by rw [hr,List.drop_left' (enc_length _ _)]
     rw [← hea,this]
     exact hr.symm
    refine r_loadN ag39 (xs:=p.cells) rfl (hS.cells_at m0 0 (whole_at _)) ?_
    refine r_storeN (hS.pick 3) ag39 (xs:=p.cells) rfl (show 0+32≤32 from Nat.le_refl _) (hrd _ hS).ones fun w13 hS=>?_
    rw [setL_all _ _ (by rfl)] at hS
    refine r_resN ag39 (xs:=p.cells) rfl (hS.cells_at m0 0 (whole_at _)) (.inl ⟨p,hok,hwf he,hpl,rdC_same hC he,rfl,?_⟩)
    (refine Sh.St.sub ?_ (hS); repeat (first | with_reducible (first | exact sub_refl | exact sub_nil | refine sP0 ?_ | refine sP1 ?_ | refine sP2 ?_ | refine sP3 ?_ | refine sP4 ?_ | refine sP5 ?_ | refine sP6 ?_ | refine sP7 ?_ | refine sP8 ?_ | refine sP9 ?_ | refine sP10 ?_ | refine sP11 ?_ | refine sP12 ?_ | refine sP13 ?_ | refine sP14 ?_ | refine sP15 ?_) | exact sub_refl | refine sP0 ?_ | refine sP1 ?_ | refine sP2 ?_ | refine sP3 ?_ | refine sP4 ?_ | refine sP5 ?_ | refine sP6 ?_ | refine sP7 ?_ | refine sP8 ?_ | refine sP9 ?_ | refine sP10 ?_ | refine sP11 ?_ | refine sP12 ?_ | refine sP13 ?_ | refine sP14 ?_ | refine sP15 ?_ | refine sub_drop ?_))
end
end Go.Proofs.YtfijkedmbaghmaaGreatDoor

/- PacketReads: the walk. -/
set_option linter.unusedVariables false
set_option linter.unusedSimpArgs false
namespace Go.Proofs.YtfijkedmbaghmaaGreatDoor
open Go.Sh
open Tryz renaming prog → π
def Rds15 (l:List UInt8) (p:Pk) (e:Int):Prop:=(okP p=true∧WfP p∧l=pkB p∧(∀y,WfP y→okP y=true→Has l 4 (body y)→sameP y p)∧e=0)∨((∀y,WfP y→okP y=true→l ≠ pkB y)∧p=pz∧e=150)
theorem pz_wf:WfP pz:=pk0_wf (kd:=0) (by omega)
theorem Rds15.wf {l:List UInt8} {p:Pk} {e:Int} (h:Rds15 l p e):WfP p:=by
 rcases h with ⟨_,h,_⟩ | ⟨_,rfl,_⟩
 ·exact h
 ·exact pz_wf
theorem Rds15.same {l:List UInt8} {p q:Pk} {e f:Int} (h:Rds15 l p e) (k:Rds15 l q f):e=f∧sameP p q:=by
 rcases h with ⟨h1,h2,h3,h4,rfl⟩ | ⟨h1,rfl,rfl⟩
 ·rcases k with ⟨k1,k2,k3,k4,rfl⟩ | ⟨k1,rfl,rfl⟩
  ·exact ⟨rfl,k4 p h2 h1 (pk_has h3)⟩
  ·exact absurd h3 (k1 p h2 h1)
 ·rcases k with ⟨k1,k2,k3,k4,rfl⟩ | ⟨k1,rfl,rfl⟩
  ·exact absurd k3 (h1 q k2 k1)
  ·exact ⟨rfl,sameP_refl pz⟩
theorem ReadP.rds {o w:World} {R:List HProp} {l:List UInt8} {r:Value} (h:ReadP l o R r w):∃p e,r=.tuple #[.agg p.cells.toArray,.int .i64 e]∧Rds15 l p e∧St o w (OwQ p.t.q::own 5 1 p.bv p.b.length (cb p.b)::R):=by
 rcases h with ⟨p,h1,h2,h3,h4,hr,hS⟩ | ⟨hno,hr,hS⟩
 ·exact ⟨p,0,hr,.inl ⟨h1,h2,h3,h4,rfl⟩,hS⟩
 ·exact ⟨pz,150,hr,.inr ⟨hno,rfl,rfl⟩,tz_own (hS.own_nil 5 1)⟩
section
variable (Z:PZ) {o w:World} {R As:List HProp} {g:Nat} {p:Pk}
set_option maxRecDepth 100000 in
theorem readsC {x:Value} {n:Nat} {l:List UInt8} (hN:Names o) (hM:Named o) (hT:Tab o) (ho:old o ∈ R) (hx:Ent o R fun w=>Rd w 1 x n (cb l)) (hxc:CapOk x) (hl:l.length≤3000000000) (h:St o w R):CallV π Z 21 #[x] w fun r w'=>r=.bool true∧St o w' R:=by
 refine f21.calls ?_
 unfold f21.sh
 refine (wideB Z h hx (by omega)).mono fun r w1 ⟨gi,hr,hS⟩=>?_
 subst hr
 refine (refReadP Z (l:=l) (fun w hw=>hx w hw.drop) hxc (by omega) hS).mono fun r w2 hq=>?_
 obtain ⟨v,ev,hr,hv,hS⟩:=hq.rds
 subst hr
 (try simp only [o_ext2_1,o_eql,cond_beq,o_ext2_0])
 refine r_alloc hS ze39 fun gv w3 hS=>?_
 refine r_storeN hS ag39 (xs:=v.cells) rfl (show 0+32≤32 from Nat.le_refl _) (RdP.ones (w:=w3) ⟨OwQ.rd _ hS.drop,hS.own_rd m2⟩) fun w4 hS=>?_
 rw [setL_all _ _ (by rfl)] at hS
 -- gv Ov bv in R
 have hcin:CapOk (.slice (some ⟨gi,0,none⟩) l.length (l.length+64)):=fun a n c e=>by injection e with _ h1 h2; omega
 refine (readP Z hN hM (by simp [ho]) (l:=l) (n:=l.length) (fun w hw=>blk_rd hw m3 rfl (by omega)) hcin (by omega) hS).mono fun r w5 hq=>?_
 obtain ⟨p,ep,hr,hp,hS⟩:=hq.rds
 subst hr
 (try simp only [o_ext2_1,o_neq,o_ext2_0])
 refine r_alloc hS ze39 fun gp w6 hS=>?_
 refine r_storeN hS ag39 (xs:=p.cells) rfl (show 0+32≤32 from Nat.le_refl _) (RdP.ones (w:=w6) ⟨OwQ.rd _ hS.drop,hS.own_rd m2⟩) fun w7 hS=>?_
 rw [setL_all _ _ (by rfl)] at hS
 -- gp Op bp gv Ov bv in R
 refine (readP Z hN hM (by simp [ho]) (l:=l) (n:=l.length) (fun w hw=>blk_rd hw m6 rfl (by omega)) hcin (by omega) hS).mono fun r w8 hq=>?_
 obtain ⟨q,eq,hr,hq2,hS⟩:=hq.rds
 subst hr
 (try simp only [o_ext2_1,o_ext2_0])
 refine r_alloc hS ze39 fun gq w9 hS=>?_
 refine r_storeN hS ag39 (xs:=q.cells) rfl (show 0+32≤32 from Nat.le_refl _) (RdP.ones (w:=w9) ⟨OwQ.rd _ hS.drop,hS.own_rd m2⟩) fun w10 hS=>?_
 rw [setL_all _ _ (by rfl)] at hS
 -- gq Oq bq gp Op bp gv Ov bv in R
 have hS:St o w10 (blk gq 39 q.cells::OwQ q.t.q::own 5 1 q.bv q.b.length (cb q.b)::blk gp 39 p.cells::OwQ p.t.q::own 5 1 p.bv p.b.length (cb p.b)::blk gv 39 v.cells::OwQ v.t.q::own 5 1 v.bv v.b.length (cb v.b)::blk gi 5 (cb (l++marks l.length))::R):=hS
 obtain ⟨e1,s1⟩:=hp.same hv
 obtain ⟨e2,s2⟩:=hq2.same hv
 subst e1; subst e2
 have hbn:∀e:Int,(e != e)=false:=fun e=>by simp
 (try simp only [hbn,o_pickF,guardW_ff,o_neq])
 refine r_loadN ag39 (xs:=p.cells) rfl (hS.cells_at m3 0 (whole_at _)) ?_
 refine r_loadN ag39 (xs:=v.cells) rfl (hS.cells_at m6 0 (whole_at _)) ?_
 refine (eqP Z p v (fun w hw=>⟨OwQ.rd _ (hw.pick 4),hw.own_rd m5⟩) (fun w hw=>⟨OwQ.rd _ (hw.pick 7),hw.own_rd m8⟩) hS).mono fun r w11 ⟨⟨b1,hr,hb1⟩,hS⟩=>?_
 subst hr
 rw [hb1.2 s1]
 (try simp only [o_not,Bool.not_true,o_pickF,guardW_ff])
 refine r_loadN ag39 (xs:=q.cells) rfl (hS.cells_at m0 0 (whole_at _)) ?_
 skip
 refine r_loadN ag39 (xs:=v.cells) rfl (hS.cells_at m6 0 (whole_at _)) ?_
 refine (eqP Z q v (fun w hw=>⟨OwQ.rd _ (hw.pick 1),hw.own_rd m2⟩) (fun w hw=>⟨OwQ.rd _ (hw.pick 7),hw.own_rd m8⟩) hS).mono fun r w12 ⟨⟨b2,hr,hb2⟩,hS⟩=>?_
 subst hr
 rw [hb2.2 s2]
 (try simp only [o_not,Bool.not_true,o_pickF,guardW_ff])
 have hxR:∀{w:World},St o w (blk gq 39 q.cells::OwQ q.t.q::own 5 1 q.bv q.b.length (cb q.b)::blk gp 39 p.cells::OwQ p.t.q::own 5 1 p.bv p.b.length (cb p.b)::blk gv 39 v.cells::OwQ v.t.q::own 5 1 v.bv v.b.length (cb v.b)::blk gi 5 (cb (l++marks l.length))::R)→Rd w 1 x n (cb l):=fun hw=>hx _ hw.drop.drop.drop.drop.drop.drop.drop.drop.drop.drop
 refine (eqBytes Z (blk_rd (n:=l.length) hS (.tail _ m8) rfl (by omega)) (hxR hS)).mono fun r w13 ⟨hr,hd⟩=>?_
 subst hr
 have hS:=hS.drew hd
 rw [decide_eq_true rfl]
 (try simp only [o_not,Bool.not_true,o_pickF,guardW_ff])
 refine (spareB Z rfl (by omega) (hS.mem_blk (.tail _ m8))).mono fun r w14 ⟨hr,hw⟩=>?_
 subst hr; subst hw
 (try simp only [o_not,Bool.not_true,condF])
 intro j38 hj38
 have J:∀w',St o w' (blk gq 39 q.cells::OwQ q.t.q::own 5 1 q.bv q.b.length (cb q.b)::blk gp 39 p.cells::OwQ p.t.q::own 5 1 p.bv p.b.length (cb p.b)::blk gv 39 v.cells::OwQ v.t.q::own 5 1 v.bv v.b.length (cb v.b)::blk gi 5 (cb (l++marks l.length))::R)→j38 w':=by
  intro w15 hS
  refine hj38 _ fun _=>?_
  clear hj38
  refine r_build (cells:=(List.replicate 21 (.slice none 0 0)).toArray) (by kernel_rfl) ?_
  refine r_box _ _ hS fun gB w16 hS=>?_
  have hS:=bag_new hS
  refine r_loadN ag39 (xs:=p.cells) rfl (hS.cells_at m4 0 (whole_at _)) ?_
  refine (addPk Z hp.wf (by (refine Sh.St.sub ?_ (hS); repeat (first | with_reducible (first | exact sub_refl | exact sub_nil | refine sP0 ?_ | refine sP1 ?_ | refine sP2 ?_ | refine sP3 ?_ | refine sP4 ?_ | refine sP5 ?_ | refine sP6 ?_ | refine sP7 ?_ | refine sP8 ?_ | refine sP9 ?_ | refine sP10 ?_ | refine sP11 ?_ | refine sP12 ?_ | refine sP13 ?_ | refine sP14 ?_ | refine sP15 ?_) | exact sub_refl | refine sP0 ?_ | refine sP1 ?_ | refine sP2 ?_ | refine sP3 ?_ | refine sP4 ?_ | refine sP5 ?_ | refine sP6 ?_ | refine sP7 ?_ | refine sP8 ?_ | refine sP9 ?_ | refine sP10 ?_ | refine sP11 ?_ | refine sP12 ?_ | refine sP13 ?_ | refine sP14 ?_ | refine sP15 ?_ | refine sub_drop ?_)):St o w16 (bagP gB [] [] [] []::OwQ p.t.q::own 5 1 p.bv p.b.length (cb p.b)::blk gq 39 q.cells::OwQ q.t.q::own 5 1 q.bv q.b.length (cb q.b)::blk gi 5 (cb (l++marks l.length))::R))).mono fun r w17 ⟨n0,n1,n2,n3,hS⟩=>?_
  refine r_loadN ag39 (xs:=q.cells) rfl (hS.cells_at m2 0 (whole_at _)) ?_
  refine (addPk Z hq2.wf (by (refine Sh.St.sub ?_ (hS); repeat (first | with_reducible (first | exact sub_refl | exact sub_nil | refine sP0 ?_ | refine sP1 ?_ | refine sP2 ?_ | refine sP3 ?_ | refine sP4 ?_ | refine sP5 ?_ | refine sP6 ?_ | refine sP7 ?_ | refine sP8 ?_ | refine sP9 ?_ | refine sP10 ?_ | refine sP11 ?_ | refine sP12 ?_ | refine sP13 ?_ | refine sP14 ?_ | refine sP15 ?_) | exact sub_refl | refine sP0 ?_ | refine sP1 ?_ | refine sP2 ?_ | refine sP3 ?_ | refine sP4 ?_ | refine sP5 ?_ | refine sP6 ?_ | refine sP7 ?_ | refine sP8 ?_ | refine sP9 ?_ | refine sP10 ?_ | refine sP11 ?_ | refine sP12 ?_ | refine sP13 ?_ | refine sP14 ?_ | refine sP15 ?_ | refine sub_drop ?_)):St o w17 (bagP gB ([]++n0.map Prod.fst) ([]++n1.map Prod.fst) ([]++n2.map Prod.fst) ([]++n3.map Prod.fst)::OwQ q.t.q::own 5 1 q.bv q.b.length (cb q.b)::newR n0 n1 n2 n3::blk gi 5 (cb (l++marks l.length))::R))).mono fun r w18 ⟨k0,k1,k2,k3,hS⟩=>?_
  have hin:=(hS.pick 3).mono (wideB_ow (g:=gi) (l:=l) (by omega))
  have hS:St o w18 (bagP gB ([]++n0.map Prod.fst++k0.map Prod.fst) ([]++n1.map Prod.fst++k1.map Prod.fst) ([]++n2.map Prod.fst++k2.map Prod.fst) ([]++n3.map Prod.fst++k3.map Prod.fst)::newR k0 k1 k2 k3::newR n0 n1 n2 n3::own 5 1 (wv gi l.length) l.length (cb l)::R):=by (refine Sh.St.sub ?_ (hin); repeat (first | with_reducible (first | exact sub_refl | exact sub_nil | refine sP0 ?_ | refine sP1 ?_ | refine sP2 ?_ | refine sP3 ?_ | refine sP4 ?_ | refine sP5 ?_ | refine sP6 ?_ | refine sP7 ?_ | refine sP8 ?_ | refine sP9 ?_ | refine sP10 ?_ | refine sP11 ?_ | refine sP12 ?_ | refine sP13 ?_ | refine sP14 ?_ | refine sP15 ?_) | exact sub_refl | refine sP0 ?_ | refine sP1 ?_ | refine sP2 ?_ | refine sP3 ?_ | refine sP4 ?_ | refine sP5 ?_ | refine sP6 ?_ | refine sP7 ?_ | refine sP8 ?_ | refine sP9 ?_ | refine sP10 ?_ | refine sP11 ?_ | refine sP12 ?_ | refine sP13 ?_ | refine sP14 ?_ | refine sP15 ?_ | refine sub_drop ?_))
  refine (bagAddBytes Z (l:=wv gi l.length) rfl hS).mono fun r w19 ⟨b',hb',hS⟩=>?_
  obtain ⟨nn,hnn,hS⟩:=add_row (bt:=1) hb' (by omega) (hS.pick 3)
  subst hnn
  have c1:=newR.open (newR.none hS)
  have c2:St o w19 (rowsX 5 1 1 nn::rowsX 175 2 32 []::rowsX 178 3 40 []::rowsX 35 11 144 []::newR n0 n1 n2 n3::newR k0 k1 k2 k3::bagP gB ([]++n0.map Prod.fst++k0.map Prod.fst++nn.map Prod.fst) ([]++n1.map Prod.fst++k1.map Prod.fst) ([]++n2.map Prod.fst++k2.map Prod.fst) ([]++n3.map Prod.fst++k3.map Prod.fst)::R):=by (refine Sh.St.sub ?_ (c1); repeat (first | with_reducible (first | exact sub_refl | exact sub_nil | refine sP0 ?_ | refine sP1 ?_ | refine sP2 ?_ | refine sP3 ?_ | refine sP4 ?_ | refine sP5 ?_ | refine sP6 ?_ | refine sP7 ?_ | refine sP8 ?_ | refine sP9 ?_ | refine sP10 ?_ | refine sP11 ?_ | refine sP12 ?_ | refine sP13 ?_ | refine sP14 ?_ | refine sP15 ?_) | exact sub_refl | refine sP0 ?_ | refine sP1 ?_ | refine sP2 ?_ | refine sP3 ?_ | refine sP4 ?_ | refine sP5 ?_ | refine sP6 ?_ | refine sP7 ?_ | refine sP8 ?_ | refine sP9 ?_ | refine sP10 ?_ | refine sP11 ?_ | refine sP12 ?_ | refine sP13 ?_ | refine sP14 ?_ | refine sP15 ?_ | refine sub_drop ?_))
  have c3:=newR.shut c2
  have c4:=newR.join (c3.drop.drop.drop |> fun _=>(by (refine Sh.St.sub ?_ (c3); repeat (first | with_reducible (first | exact sub_refl | exact sub_nil | refine sP0 ?_ | refine sP1 ?_ | refine sP2 ?_ | refine sP3 ?_ | refine sP4 ?_ | refine sP5 ?_ | refine sP6 ?_ | refine sP7 ?_ | refine sP8 ?_ | refine sP9 ?_ | refine sP10 ?_ | refine sP11 ?_ | refine sP12 ?_ | refine sP13 ?_ | refine sP14 ?_ | refine sP15 ?_) | exact sub_refl | refine sP0 ?_ | refine sP1 ?_ | refine sP2 ?_ | refine sP3 ?_ | refine sP4 ?_ | refine sP5 ?_ | refine sP6 ?_ | refine sP7 ?_ | refine sP8 ?_ | refine sP9 ?_ | refine sP10 ?_ | refine sP11 ?_ | refine sP12 ?_ | refine sP13 ?_ | refine sP14 ?_ | refine sP15 ?_ | refine sub_drop ?_)):St o w19 (newR n0 n1 n2 n3::newR k0 k1 k2 k3::newR nn [] [] []::bagP gB ([]++n0.map Prod.fst++k0.map Prod.fst++nn.map Prod.fst) ([]++n1.map Prod.fst++k1.map Prod.fst) ([]++n2.map Prod.fst++k2.map Prod.fst) ([]++n3.map Prod.fst++k3.map Prod.fst)::R)))
  have c5:=newR.join c4
  have c6:=(newR.open c5).pick 4
  have e0:[]++n0.map Prod.fst++k0.map Prod.fst++nn.map Prod.fst=((n0++k0)++nn).map Prod.fst:=by simp
  have e1:[]++n1.map Prod.fst++k1.map Prod.fst=((n1++k1)++[]).map Prod.fst:=by simp
  have e2:[]++n2.map Prod.fst++k2.map Prod.fst=((n2++k2)++[]).map Prod.fst:=by simp
  have e3:[]++n3.map Prod.fst++k3.map Prod.fst=((n3++k3)++[]).map Prod.fst:=by simp
  rw [e0,e1,e2,e3] at c6
  refine (bagApart Z hT (by simp [ho]) c6).mono fun r w20 ⟨hr,hS⟩=>?_
  subst hr
  exact ⟨rfl,hS.drop.drop.drop.drop.drop⟩
 refine ⟨fun h0=>?_,fun _=>J _ hS⟩
 subst h0
 rcases hp with ⟨hpo,hpw,hpl,_,_⟩ | ⟨_,_,h⟩
 case inr=>omega
 refine r_loadN ag39 (xs:=p.cells) rfl (hS.cells_at m3 0 (whole_at _)) ?_
 refine (writeP Z hN hM (by simp [ho]) hpw (fun w hw=>⟨OwQ.rd _ (hw.pick 4),hw.own_rd m5⟩) hS).mono fun r w15 hr=>?_
 rw [if_pos hpo] at hr
 obtain ⟨vb,rfl,hS⟩:=hr
 have h00:((0:Int) != 0)=false:=rfl
 (try simp only [o_ext2_1,o_neq,h00,o_pickF,guardW_ff,o_ext2_0])
 refine (eqBytes Z (hS.own_rd m0) (hxR hS.drop)).mono fun r w16 ⟨hr,hd⟩=>?_
 subst hr
 have hS:=hS.drew hd
 rw [decide_eq_true hpl.symm]
 (try simp only [o_not,Bool.not_true,condF])
 exact J _ hS.drop
theorem packetReads {xa:Option Addr} {c:Nat} {l:List UInt8} (hc:l.length≤c) (hx:Rd w 1 (.slice xa l.length c) l.length (cb l)) (hN:Names w) (hM:Named w) (hT:Tab w) :
  CallV π Z 4 #[.slice xa l.length c] w fun r w'=>r=.bool true∧St w w' [old w]:=by
 refine f4.calls ?_
 unfold f4.sh
 have hS:=St.start w
 have hcap:CapOk (.slice xa l.length c):=fun a n c' e=>by injection e with _ h1 h2; omega
 by_cases hbig:(l.length:Int) > 2147483647
 ·(try simp only [ln_30_3,o_lss,cond_decide,o_gtr,hbig,decide_true,condT])
  exact ⟨by first | rfl | trivial,hS⟩
 (try simp only [ln_30_3,o_lss,cond_decide,o_gtr,hbig,decide_false,condF])
 refine (livesP Z hN hM m0 hS).mono fun r w1 ⟨hr,hS⟩=>?_
 subst hr
 refine (readsC Z (l:=l) hN hM hT m0 (fun w' hw'=>hx.of_old hw' m0) hcap (by omega) hS).mono fun r w2 ⟨hr,hS⟩=>?_
 subst hr
 (try simp only [o_pickT,guardW_true])
 refine ⟨fun h4=>⟨by first | rfl | trivial,hS⟩,fun h4=>?_⟩
 refine r1 (run_slice_from el30 xa l.length c .i64 4 (by omega) (by omega) _) ?_
 refine (summedC Z hS (fun w' hw'=>Rd.tail (hx.of_old hw' m0) hc 4 (by omega)) (by rw [List.length_drop]; omega)).mono fun r w3 hS=>?_
 have hsl:(summed (l.drop 4)).length≤3000000000:=by rw [summed,List.length_append,enc_length,List.length_drop]; omega
 refine (readsC Z (l:=summed (l.drop 4)) hN hM hT m1 (Ent.own (e:=5) m0) (own_cap hS) hsl hS).mono fun r w4 ⟨hr,hS⟩=>?_
 subst hr
 (try simp only [])
 exact ⟨by first | rfl | trivial,hS.drop⟩
end

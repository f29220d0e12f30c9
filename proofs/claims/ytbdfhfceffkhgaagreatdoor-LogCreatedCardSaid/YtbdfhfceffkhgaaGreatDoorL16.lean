
/- Append. -/
import Derived.Test.YtbdfhfceffkhgaaGreatDoorL14
set_option linter.unusedVariables false
set_option linter.unusedSimpArgs false
namespace Go.Proofs.YtbdfhfceffkhgaaGreatDoor
open Go.Sh
open Tryz renaming prog → π
def appN (l:Lg):List UInt8:=if l.size≤l.fil then nameI l.num (l.k+1:Nat) else nameB l.num.toNat l.k
def AppP (gl gd:Nat) (l:Lg) (d:Dk) (t:Tx) (o:World) (R:List HProp) (r:Value) (w':World):Prop:=
 (lchk t l.e l.n ≠ 0∧r=.int .i64 (lchk t l.e l.n)∧St o w' (LgM gl gd l::DiskM gd d::R))∨(lchk t l.e l.n=0∧WroteP gl gd l d (appN l) (decide (l.size≤l.fil)) [t] o R r w')
theorem segR_at {a k i:Nat} (hi:i < k):(segR a k)[i]? = some (.string (str (nameB a (i+1)))):=by simp [segR,hi]
section
variable (Z:PZ) {o w:World} {R As:List HProp} {gl gd:Nat} {l:Lg} {d:Dk}
theorem lNone {vn vt:Value} (h:St o w (LgO gl gd l vn vt R)):CallV π Z 43 #[.pointer (some ⟨gl,0,none⟩)] w fun r w'=>r=.bool false∧w'=w:=by
 refine f43.calls ?_
 unfold f43.sh
 unfold LgO at h
 (try simp only [eqlp_33,o_pickF,guardW_ff,o_chk,fa_85_0,Nat.add_zero])
 refine r_load one29 (h.at m0 0 rfl) ?_
 (try simp only [eqlp_29])
 exact ⟨by first | rfl | trivial,by first | rfl | trivial⟩
theorem lAppend (t:Tx) (hk:1≤l.k) (hk2:l.k≤1000000000000) (hnum:1≤l.num∧l.num≤9223372036854775807) (hlt:(l.ts.length+1) * 168≤140737488355328) (hfil:l.fil≤1000000000000) (hwf:WfQ t.q) (hN:Names o) (hB:Bits o) (ho:old o ∈ R) (hx:Ent o R fun w=>RdQ w t.q) (h:St o w (LgM gl gd l::DiskM gd d::R)) :
  CallV π Z 13 #[.pointer (some ⟨gl,0,none⟩),.agg t.cells.toArray] w (AppP gl gd l d t o R):=by
 refine f13.calls ?_
 unfold f13.sh
 obtain ⟨vn,vt,h⟩:=LgM.open h
 have hq:=txC_ones (hx w (by unfold LgO at h; exact h.drop.drop.drop.drop.drop)).ones
 refine r_box _ _ h fun g w1 hS=>?_
 have hS:St o w1 (blk g 50 t.cells::LgO gl gd l vn vt (DiskM gd d::R)):=hS
 refine (lNone Z hS.drop).mono fun r w2 ⟨hr,hw⟩=>?_
 subst hr hw
 rw [condF]
 refine ⟨fun w3 hd=>?_⟩
 have hS:=hS.drew hd
 unfold LgO at hS
 have hR:∀{A B C D E F:HProp} {w:World},St o w (A::B::C::D::E::F::R)→St o w R:=fun h=>h.drop.drop.drop.drop.drop.drop
 refine rr_loadN ag50 (xs:=t.cells) rfl (hS.cells_at m0 0 (whole_at _)) ?_
 (try simp only [o_chkp,fa_85_3p,Nat.zero_add,fa_85_1p,fa_85_2p,fa_85_4p,fa_85_5p])
 refine rr_loadN ag39 (xs:=zx l.e l.n) rfl (hS.cells_at m1 5 (fun j v hv=>by
  match j,hv with
  | 0,hv=>exact hv
  | 1,hv=>exact hv
  | j+2,hv=>simp [zx] at hv)) ?_
 refine (lCheck Z t l.e l.n hN (by simp [ho]) (fun w hw=>hx w (hR hw)) hS).mono fun r w4 ⟨hr,hS⟩=>?_
 subst hr
 refine r1 (run_neq_int _ _ _ _ _ _ _ _) ?_
 by_cases hc:lchk t l.e l.n=0
 case neg=>
  rw [bne_iff_ne.2 hc,condT]
  refine .inl ⟨hc,rfl,LgM.shut (vn:=vn) (vt:=vt) ?_⟩
  unfold LgO
  exact hS.drop
 rw [show (lchk t l.e l.n != 0)=false by rw [hc]; rfl,condF]
 refine ⟨fun w5 hd=>?_⟩
 have hS:=hS.drew hd
 skip
 refine rr_load one3 (hS.at m1 4 rfl) (rr_load one3 (hS.at m1 2 rfl) ?_)
 (try simp only [o_geqp,cond_decide])
 have hct:∀x ∈ [t],chkT x=true:=fun x hx=>by simp at hx; subst hx; exact (lchk_ok.1 hc).1
 have hwt:∀x ∈ [t],WfQ x.q:=fun x hx=>by simp at hx; subst hx; exact hwf
 have e1:[t.cells].flatten=t.cells:=by simp
 have wr:∀(fr:Bool) (nm:List UInt8) (g1:Nat) (w':World),fr=decide (l.size≤(l.fil:Int))→nm=appN l→(fr=true→nm=nameB l.num.toNat (l.k+1)∨(d.put nm (frT [t])).1 ≠ 0)→nm.length≤1000 →
   St o w' (own 50 16 (.slice (some ⟨g1,0,none⟩) 1 1) 1 t.cells::blk g 50 t.cells::LgO gl gd l vn vt (DiskM gd d::R)) →
   CallV π Z 41 #[.pointer (some ⟨gl,0,none⟩),.string (str nm),.bool fr,.slice (some ⟨g1,0,none⟩) 1 1] w' fun r w=>AppP gl gd l d t o R r w∧(fr=false→w.cell? ⟨gl,3,none⟩=some vn):=fun fr nm g1 w' hfr hnm hn1 hn2 hS=>by
  have hS:St o w' (LgO gl gd l vn vt (DiskM gd d::own 50 16 (.slice (some ⟨g1,0,none⟩) 1 1) 1 t.cells::blk g 50 t.cells::R)):=by
   unfold LgO at hS ⊢
   (refine Sh.St.sub ?_ (hS); repeat (first | with_reducible (first | exact sub_refl | exact sub_nil | refine sP0 ?_ | refine sP1 ?_ | refine sP2 ?_ | refine sP3 ?_ | refine sP4 ?_ | refine sP5 ?_ | refine sP6 ?_ | refine sP7 ?_ | refine sP8 ?_ | refine sP9 ?_ | refine sP10 ?_ | refine sP11 ?_ | refine sP12 ?_ | refine sP13 ?_ | refine sP14 ?_ | refine sP15 ?_) | exact sub_refl | refine sP0 ?_ | refine sP1 ?_ | refine sP2 ?_ | refine sP3 ?_ | refine sP4 ?_ | refine sP5 ?_ | refine sP6 ?_ | refine sP7 ?_ | refine sP8 ?_ | refine sP9 ?_ | refine sP10 ?_ | refine sP11 ?_ | refine sP12 ?_ | refine sP13 ?_ | refine sP14 ?_ | refine sP15 ?_ | refine sub_drop ?_))
  have hx':Ent o (own 50 16 (.slice (some ⟨g1,0,none⟩) 1 1) 1 t.cells::blk g 50 t.cells::R) fun w=>RdT w (.slice (some ⟨g1,0,none⟩) 1 1) [t]:=fun w hw=>by
   refine ⟨?_,fun x hxx=>?_⟩
   ·have:=hw.own_rd m0
    rw [← e1] at this
    exact this
   ·simp at hxx; subst hxx; exact hx w hw.drop.drop
  refine (lWriteO Z (fr:=fr) (nm:=nm) (ts:=[t]) hN (List.mem_cons_of_mem _ (List.mem_cons_of_mem _ ho)) hx' hwt hct (by simp) (by simpa using hlt) hk2 hfil hn2 hn1 hS).mono fun r w hh=>?_
  have hcell:fr=false→w.cell? ⟨gl,3,none⟩=some vn:=fun hf=>by
   obtain ⟨_,⟨_,h3⟩ | ⟨_,us,vn',vt',_,hv,h4⟩⟩:=hh
   ·unfold LgO at h3; exact h3.at m0 3 rfl
   ·have:=hv hf
    subst this
    unfold LgO at h4; exact h4.at m0 3 rfl
  refine ⟨.inr ⟨hc,?_⟩,hcell⟩
  rw [← hfr,← hnm]
  obtain ⟨h1,⟨h2,h3⟩ | ⟨h2,us,h3,h4⟩⟩:=hh.shut
  ·exact ⟨h1,.inl ⟨h2,by (refine Sh.St.sub ?_ (h3); repeat (first | with_reducible (first | exact sub_refl | exact sub_nil | refine sP0 ?_ | refine sP1 ?_ | refine sP2 ?_ | refine sP3 ?_ | refine sP4 ?_ | refine sP5 ?_ | refine sP6 ?_ | refine sP7 ?_ | refine sP8 ?_ | refine sP9 ?_ | refine sP10 ?_ | refine sP11 ?_ | refine sP12 ?_ | refine sP13 ?_ | refine sP14 ?_ | refine sP15 ?_) | exact sub_refl | refine sP0 ?_ | refine sP1 ?_ | refine sP2 ?_ | refine sP3 ?_ | refine sP4 ?_ | refine sP5 ?_ | refine sP6 ?_ | refine sP7 ?_ | refine sP8 ?_ | refine sP9 ?_ | refine sP10 ?_ | refine sP11 ?_ | refine sP12 ?_ | refine sP13 ?_ | refine sP14 ?_ | refine sP15 ?_ | refine sub_drop ?_))⟩⟩
  ·exact ⟨h1,.inr ⟨h2,us,h3,by (refine Sh.St.sub ?_ (h4); repeat (first | with_reducible (first | exact sub_refl | exact sub_nil | refine sP0 ?_ | refine sP1 ?_ | refine sP2 ?_ | refine sP3 ?_ | refine sP4 ?_ | refine sP5 ?_ | refine sP6 ?_ | refine sP7 ?_ | refine sP8 ?_ | refine sP9 ?_ | refine sP10 ?_ | refine sP11 ?_ | refine sP12 ?_ | refine sP13 ?_ | refine sP14 ?_ | refine sP15 ?_) | exact sub_refl | refine sP0 ?_ | refine sP1 ?_ | refine sP2 ?_ | refine sP3 ?_ | refine sP4 ?_ | refine sP5 ?_ | refine sP6 ?_ | refine sP7 ?_ | refine sP8 ?_ | refine sP9 ?_ | refine sP10 ?_ | refine sP11 ?_ | refine sP12 ?_ | refine sP13 ?_ | refine sP14 ?_ | refine sP15 ?_ | refine sub_drop ?_))⟩⟩
 refine ⟨fun hfr=>?_,fun hfr=>?_⟩
 ·have hap:appN l=nameI l.num (l.k+1:Nat):=if_pos hfr
  have hdec:true=decide (l.size≤(l.fil:Int)):=by rw [decide_eq_true hfr]
  have hn1:true=true→nameI l.num (l.k+1:Nat)=nameB l.num.toNat (l.k+1)∨(d.put (nameI l.num (l.k+1:Nat)) (frT [t])).1 ≠ 0:=fun _=>by
   by_cases hk4:l.k+1≤4095
   ·left
    unfold nameI
    rw [if_neg (by omega)]
    rfl
   ·right
    have e0:nameI l.num (l.k+1:Nat)=[]:=if_pos (by omega)
    rw [e0]
    exact put_nil _ _
  have hn2:=nameI_len l.num (l.k+1:Nat)
  refine ⟨fun w6 hd=>?_⟩
  have hS:=hS.drew hd
  refine rr_load one2 (hS.at m1 1 rfl) (rr_loadN ag50 (xs:=t.cells) rfl (hS.cells_at m0 0 (whole_at _)) ?_)
  obtain ⟨va,vc,rfl⟩:=(hS.own_rd m2).form
  refine ⟨?_,?_⟩
  ·refine r_load one66 (hS.at m1 3 rfl) ?_
   refine rs_loadN ag50 (xs:=t.cells) rfl (hS.cells_at m0 0 (whole_at _)) (rs_load one2 (hS.at m1 1 rfl) ?_)
   (try simp only [ln_66_3p,o_addp])
   rw [wr_i64 (x:=(l.k:Int)+1) (by omega) (by omega),show (l.k:Int)+1=((l.k+1:Nat):Int) by omega]
   refine ⟨?_,?_⟩
   ·refine (lName Z l.num (l.k+1:Nat) ⟨by omega,by omega⟩ ⟨by omega,by omega⟩ hB (by simp [ho]) hS).mono fun r w7 ⟨hr,hS⟩=>?_
    subst hr
    refine rs_loadN ag50 (xs:=t.cells) rfl (hS.cells_at m0 0 (whole_at _)) ?_
    refine r_sliceN el22 hS 1 _ [t.cells] rfl (by omega) (by omega) (by omega) (by intro v hv; simp at hv; subst hv; rfl) rfl fun g3 w8 hS=>?_
    rw [e1] at hS
    exact (wr true _ g3 w8 hdec hap.symm hn1 (by omega) hS).mono fun r w hh=>hh.1
   ·refine r_sliceN el22 hS 1 _ [t.cells] rfl (by omega) (by omega) (by omega) (by intro v hv; simp at hv; subst hv; rfl) rfl fun g3 w8 hS=>?_
    rw [e1] at hS
    refine rs_load one2 (hS.at m2 1 rfl) ?_
    refine (lName Z l.num (l.k+1:Nat) ⟨by omega,by omega⟩ ⟨by omega,by omega⟩ hB (by simp [ho]) hS).mono fun r w7 ⟨hr,hS⟩=>?_
    subst hr
    exact (wr true _ g3 w7 hdec hap.symm hn1 (by omega) hS).mono fun r w hh=>hh.1
  ·refine r_sliceN el22 hS 1 _ [t.cells] rfl (by omega) (by omega) (by omega) (by intro v hv; simp at hv; subst hv; rfl) rfl fun g3 w8 hS=>?_
   rw [e1] at hS
   refine rs_load one2 (hS.at m2 1 rfl) ?_
   refine r_load one66 (hS.at m2 3 rfl) ?_
   refine rs_load one2 (hS.at m2 1 rfl) ?_
   (try simp only [ln_66_3p,o_addp])
   rw [wr_i64 (x:=(l.k:Int)+1) (by omega) (by omega),show (l.k:Int)+1=((l.k+1:Nat):Int) by omega]
   refine (lName Z l.num (l.k+1:Nat) ⟨by omega,by omega⟩ ⟨by omega,by omega⟩ hB (by simp [ho]) hS).mono fun r w7 ⟨hr,hS⟩=>?_
   subst hr
   exact (wr true _ g3 w7 hdec hap.symm hn1 (by omega) hS).mono fun r w hh=>hh.1
 ·have hap:appN l=nameB l.num.toNat l.k:=if_neg hfr
  have hdec:false=decide (l.size≤(l.fil:Int)):=by rw [decide_eq_false hfr]
  have hn2:(nameB l.num.toNat l.k).length≤1000:=by
   have h1:(hexL l.num.toNat).length≤16:=hexR_len _ _
   have h2:(hexL l.k).length≤16:=hexR_len _ _
   simp [nameB,preB]; omega
  refine ⟨fun w6 hd=>?_⟩
  have hS:=hS.drew hd
  refine rr_load one66 (hS.at m1 3 rfl) (rr_load one66 (hS.at m1 3 rfl) ?_)
  obtain ⟨p,hp,hpc,_⟩:=(hS.own_rd m2).index el66 .i64 (l.k - 1) (by omega)
  rw [segR_at (by omega),show l.k - 1+1=l.k by omega] at hpc
  obtain ⟨va,vc,rfl⟩:=(hS.own_rd m2).form
  (try simp only [ln_66_3p,o_subp])
  rw [wr_i64 (x:=(l.k:Int) - 1) (by omega) (by omega),show (l.k:Int) - 1=((l.k - 1:Nat):Int) by omega]
  refine rp hp (rr_load one9 hpc (rr_loadN ag50 (xs:=t.cells) rfl (hS.cells_at m0 0 (whole_at _)) ?_))
  refine r_sliceN el22 hS 1 _ [t.cells] rfl (by omega) (by omega) (by omega) (by intro v hv; simp at hv; subst hv; rfl) rfl fun g3 w8 hS=>?_
  rw [e1] at hS
  have hpc2:w8.cell? p=some (.string (str (nameB l.num.toNat l.k))):=by
   obtain ⟨p2,hp2,hpc2,_⟩:=(hS.own_rd m3).index el66 .i64 (l.k - 1) (by omega)
   rw [segR_at (by omega),show l.k - 1+1=l.k by omega] at hpc2
   have:=(hp w8).symm.trans (hp2 w8)
   injection this with this _
   injection this with this
   injection this with this
   rw [this]; exact hpc2
  refine rs_load one9 hpc2 (rs_load one66 (hS.at m2 3 rfl) (rs_load one66 (hS.at m2 3 rfl) ?_))
  refine (wr false _ g3 w8 hdec hap.symm (fun hh=>by cases hh) hn2 hS).mono fun r w hh=>?_
  exact rs_load one66 (hh.2 rfl) (rs_load one66 (hh.2 rfl) hh.1)
end
end Go.Proofs.YtbdfhfceffkhgaaGreatDoor


/- All, Names. -/
set_option linter.unusedVariables false
set_option linter.unusedSimpArgs false
namespace Go.Proofs.YtbdfhfceffkhgaaGreatDoor
open Go.Sh
open Tryz renaming prog → π
section
variable (Z:PZ) {o w:World} {R As:List HProp} {gl gd:Nat} {l:Lg}
theorem LgO.rdT {vn vt:Value} {A:HProp} (h:St o w (A::LgO gl gd l vn vt R)):RdT w vt l.ts:=by
 unfold LgO at h
 have h2:St o w (own 50 16 vt l.ts.length (l.ts.map Tx.cells).flatten::OwT l.ts::R):=by (refine Sh.St.sub ?_ (h); repeat (first | with_reducible (first | exact sub_refl | exact sub_nil | refine sP0 ?_ | refine sP1 ?_ | refine sP2 ?_ | refine sP3 ?_ | refine sP4 ?_ | refine sP5 ?_ | refine sP6 ?_ | refine sP7 ?_ | refine sP8 ?_ | refine sP9 ?_ | refine sP10 ?_ | refine sP11 ?_ | refine sP12 ?_ | refine sP13 ?_ | refine sP14 ?_ | refine sP15 ?_) | exact sub_refl | refine sP0 ?_ | refine sP1 ?_ | refine sP2 ?_ | refine sP3 ?_ | refine sP4 ?_ | refine sP5 ?_ | refine sP6 ?_ | refine sP7 ?_ | refine sP8 ?_ | refine sP9 ?_ | refine sP10 ?_ | refine sP11 ?_ | refine sP12 ?_ | refine sP13 ?_ | refine sP14 ?_ | refine sP15 ?_ | refine sub_drop ?_))
 exact OwT.rd h2
theorem lAll (hwf:∀t ∈ l.ts,WfQ t.q) (hlt:l.ts.length * 168≤140737488355328) (h:St o w (LgM gl gd l::R)) :
  CallV π Z 17 #[.pointer (some ⟨gl,0,none⟩)] w fun r w'=>∃us,us.map tk=l.ts.map tk∧St o w' (own 50 16 r us.length (us.map Tx.cells).flatten::OwT us::LgM gl gd l::R):=by
 refine f17.calls ?_
 unfold f17.sh
 obtain ⟨vn,vt,hS⟩:=LgM.open h
 clear h
 refine (lNone Z hS).mono fun r w2 ⟨hr,hw⟩=>?_
 subst hr hw
 rw [condF]
 (try simp only [o_chk,fa_85_6,Nat.zero_add])
 refine r_load one22 (St.at (by unfold LgO at hS; exact hS) m0 7 rfl) ?_
 have hS:St o w2 (satH (([]:List Tx).map fun t=>OwQ t.q)::LgO gl gd l vn vt R):=St.all_intro hS
 obtain ⟨va,vc,rfl⟩:=(LgO.rdT hS).1.form
 (try simp only [ln_22_3])
 refine ⟨fun m x y w'=>∃(i:Nat) (us:List Tx),i≤l.ts.length∧y=.int .i64 i∧m+i=l.ts.length∧us.map tk=(l.ts.take i).map tk∧St o w' (own 50 16 x us.length (us.map Tx.cells).flatten::OwT us::LgO gl gd l vn (.slice va l.ts.length vc) R),⟨l.ts.length,0,[],Nat.zero_le _,rfl,rfl,rfl,hS.own_nil _ _⟩,?_⟩
 clear hS
 rintro m x _ w4 ⟨i,us,hile,rfl,hi,hus,hS⟩ _
 by_cases hlt2:(i:Int) < (l.ts.length:Int)
 case neg=>
  obtain rfl:i=l.ts.length:=by omega
  (try simp only [o_add,o_lss,hlt2,decide_false,condF])
  rw [List.take_length] at hus
  refine ⟨us,hus,?_⟩
  have h2:St o w4 (LgO gl gd l vn (.slice va l.ts.length vc) (own 50 16 x us.length (us.map Tx.cells).flatten::OwT us::R)):=by
   unfold LgO at hS ⊢
   (refine Sh.St.sub ?_ (hS); repeat (first | with_reducible (first | exact sub_refl | exact sub_nil | refine sP0 ?_ | refine sP1 ?_ | refine sP2 ?_ | refine sP3 ?_ | refine sP4 ?_ | refine sP5 ?_ | refine sP6 ?_ | refine sP7 ?_ | refine sP8 ?_ | refine sP9 ?_ | refine sP10 ?_ | refine sP11 ?_ | refine sP12 ?_ | refine sP13 ?_ | refine sP14 ?_ | refine sP15 ?_) | exact sub_refl | refine sP0 ?_ | refine sP1 ?_ | refine sP2 ?_ | refine sP3 ?_ | refine sP4 ?_ | refine sP5 ?_ | refine sP6 ?_ | refine sP7 ?_ | refine sP8 ?_ | refine sP9 ?_ | refine sP10 ?_ | refine sP11 ?_ | refine sP12 ?_ | refine sP13 ?_ | refine sP14 ?_ | refine sP15 ?_ | refine sub_drop ?_))
  have h3:=LgM.shut h2
  (refine Sh.St.sub ?_ (h3); repeat (first | with_reducible (first | exact sub_refl | exact sub_nil | refine sP0 ?_ | refine sP1 ?_ | refine sP2 ?_ | refine sP3 ?_ | refine sP4 ?_ | refine sP5 ?_ | refine sP6 ?_ | refine sP7 ?_ | refine sP8 ?_ | refine sP9 ?_ | refine sP10 ?_ | refine sP11 ?_ | refine sP12 ?_ | refine sP13 ?_ | refine sP14 ?_ | refine sP15 ?_) | exact sub_refl | refine sP0 ?_ | refine sP1 ?_ | refine sP2 ?_ | refine sP3 ?_ | refine sP4 ?_ | refine sP5 ?_ | refine sP6 ?_ | refine sP7 ?_ | refine sP8 ?_ | refine sP9 ?_ | refine sP10 ?_ | refine sP11 ?_ | refine sP12 ?_ | refine sP13 ?_ | refine sP14 ?_ | refine sP15 ?_ | refine sub_drop ?_))
 have hil:i < l.ts.length:=by omega
 have hmem:l.ts[i] ∈ l.ts:=List.getElem_mem hil
 have hul:us.length=i:=by have:=congrArg List.length hus; simp at this; omega
 obtain ⟨b,p,cs,hp,_,hcv,hcl⟩:=(rowR_rd (c:=Tx.cells) (fun x=>rfl) (LgO.rdT hS.drop).1 rfl).ix el22 .i64 i hil
 subst hcv
 (try simp only [o_add,o_lss,hlt2,decide_true,condT])
 refine r1 (hp _) (r_loadN ag50 (xs:=l.ts[i].cells) rfl (fun j u hu=>by rw [add_addr]; exact hcl j u hu) ?_)
 have hq:=txC_ones ((LgO.rdT hS.drop).2 _ hmem).ones
 refine r_alloc hS ze50 fun gt2 w5 hS=>?_
 refine r_storeN hS ag50 (xs:=l.ts[i].cells) rfl (show 0+16≤16 from Nat.le_refl _) hq fun w6 hS=>?_
 rw [setL_all _ _ (by rfl)] at hS
 refine r_loadN ag50 (xs:=l.ts[i].cells) rfl (hS.cells_at m0 0 (whole_at _)) ?_
 refine (cloneT Z l.ts[i] (hwf _ hmem) (fun w hw=>(LgO.rdT hw.drop.drop).2 _ hmem) hS).mono fun r w8 ⟨t',hr,hhd,hst,hS⟩=>?_
 subst hr
 have hqo:=txC_ones (OwQ.rd _ hS).ones
 refine r_pushN el22 (hS.pick 2) t'.cells rfl hqo (by omega) (by omega) (by simp only [maxLen]; omega) fun v2 w9 hS=>?_
 rw [wr_i64 (x:=(i:Int)+1) (by omega) (by omega)]
 refine ⟨m - 1,by omega,i+1,us++[t'],by omega,rfl,by omega,?_,?_⟩
 ·rw [List.take_succ_eq_append_getElem hil,List.map_append,List.map_append,hus]
  simp [tk,hhd,hst]
 ·have h2:St o w9 (satH (us.map fun t=>OwQ t.q)::OwQ t'.q::own 50 16 v2 (us.length+1) ((us.map Tx.cells).flatten++t'.cells)::LgO gl gd l vn (.slice va l.ts.length vc) R):=by
   unfold LgO at hS ⊢
   (refine Sh.St.sub ?_ (hS); repeat (first | with_reducible (first | exact sub_refl | exact sub_nil | refine sP0 ?_ | refine sP1 ?_ | refine sP2 ?_ | refine sP3 ?_ | refine sP4 ?_ | refine sP5 ?_ | refine sP6 ?_ | refine sP7 ?_ | refine sP8 ?_ | refine sP9 ?_ | refine sP10 ?_ | refine sP11 ?_ | refine sP12 ?_ | refine sP13 ?_ | refine sP14 ?_ | refine sP15 ?_) | exact sub_refl | refine sP0 ?_ | refine sP1 ?_ | refine sP2 ?_ | refine sP3 ?_ | refine sP4 ?_ | refine sP5 ?_ | refine sP6 ?_ | refine sP7 ?_ | refine sP8 ?_ | refine sP9 ?_ | refine sP10 ?_ | refine sP11 ?_ | refine sP12 ?_ | refine sP13 ?_ | refine sP14 ?_ | refine sP15 ?_ | refine sub_drop ?_))
  have h3:=h2.all_snoc
  have e2:(us.map fun t=>OwQ t.q)++[OwQ t'.q]=(us++[t']).map fun t=>OwQ t.q:=by simp
  have e3:(us.map Tx.cells).flatten++t'.cells=((us++[t']).map Tx.cells).flatten:=by simp
  have e4:us.length+1=(us++[t']).length:=by simp
  rw [e2,e3,e4] at h3
  exact h3.swap
theorem lNames (hlk:l.k≤1000000000000) (h:St o w (LgM gl gd l::R)) :
  CallV π Z 31 #[.pointer (some ⟨gl,0,none⟩)] w fun r w'=>St o w' (own 9 1 r l.k (segR l.num.toNat l.k)::LgM gl gd l::R):=by
 refine f31.calls ?_
 unfold f31.sh
 obtain ⟨vn,vt,hS⟩:=LgM.open h
 clear h
 refine (lNone Z hS).mono fun r w2 ⟨hr,hw⟩=>?_
 subst hr hw
 rw [condF]
 (try simp only [o_chk,fa_85_3,Nat.zero_add])
 refine r_load one66 (St.at (by unfold LgO at hS; exact hS) m0 3 rfl) ?_
 refine f54.calls ?_
 unfold f54.sh
 have ho:ones (segR l.num.toNat l.k):=by
  intro x hx
  obtain ⟨i,_,rfl⟩:=List.mem_map.1 hx
  rfl
 refine clone_go (n:=l.k) (kk:=fun t5 w=>St o w (own 9 1 t5 l.k (segR l.num.toNat l.k)::LgM gl gd l::R)) Z el66 sl66 ho (by omega) (Ent.own (e:=9) (R:=LgO gl gd l vn vt R) (by unfold LgO; exact m1)) hS fun r w3 hS=>?_
 exact (LgM.shut (R:=own 9 1 r l.k (segR l.num.toNat l.k)::R) (by unfold LgO at hS ⊢; (refine Sh.St.sub ?_ (hS); repeat (first | with_reducible (first | exact sub_refl | exact sub_nil | refine sP0 ?_ | refine sP1 ?_ | refine sP2 ?_ | refine sP3 ?_ | refine sP4 ?_ | refine sP5 ?_ | refine sP6 ?_ | refine sP7 ?_ | refine sP8 ?_ | refine sP9 ?_ | refine sP10 ?_ | refine sP11 ?_ | refine sP12 ?_ | refine sP13 ?_ | refine sP14 ?_ | refine sP15 ?_) | exact sub_refl | refine sP0 ?_ | refine sP1 ?_ | refine sP2 ?_ | refine sP3 ?_ | refine sP4 ?_ | refine sP5 ?_ | refine sP6 ?_ | refine sP7 ?_ | refine sP8 ?_ | refine sP9 ?_ | refine sP10 ?_ | refine sP11 ?_ | refine sP12 ?_ | refine sP13 ?_ | refine sP14 ?_ | refine sP15 ?_ | refine sub_drop ?_)))).swap
end


/- A log as it lies; what its write lays. -/
import Derived.Test.YtbdfhfceffkhgaaGreatDoorL9
import Derived.Test.YtbdfhfceffkhgaaGreatDoorL10
import Derived.Test.YtbdfhfceffkhgaaGreatDoorU4
import Derived.Test.YtbdfhfceffkhgaaGreatDoorS0d
import Derived.Test.YtbdfhfceffkhgaaGreatDoorD9
set_option linter.unusedVariables false
set_option linter.unusedSimpArgs false
namespace Go.Proofs.YtbdfhfceffkhgaaGreatDoor
open Go.Sh
open Tryz renaming prog → π
def tk (t:Tx):Hd × Qt:=(t.hd,t.q.st)
structure Lg where
 num:Int
 size:Int
 k:Nat
 fil:Nat
 e:Int
 n:Int
 ts:List Tx
def segR (a k:Nat):List Value:=(List.range k).map fun i=>.string (str (nameB a (i+1)))
theorem segR_succ (a k:Nat):segR a (k+1)=segR a k++[.string (str (nameB a (k+1)))]:=by simp [segR,List.range_succ]
def lgC (gd:Nat) (l:Lg) (vn vt:Value):List Value:=[.pointer (some ⟨gd,0,none⟩),.int .i64 l.num,.int .i64 l.size,vn,.int .i64 l.fil,.int .u32 l.e,.int .u32 l.n,vt]
def LgO (gl gd:Nat) (l:Lg) (vn vt:Value) (R:List HProp):List HProp:=blk gl 85 (lgC gd l vn vt)::own 9 1 vn l.k (segR l.num.toNat l.k)::own 50 16 vt l.ts.length (l.ts.map Tx.cells).flatten::OwT l.ts::R
def LgM (gl gd:Nat) (l:Lg):HProp:=fun h=>∃vn vt,sep (blk gl 85 (lgC gd l vn vt)) (sep (own 9 1 vn l.k (segR l.num.toNat l.k)) (sep (own 50 16 vt l.ts.length (l.ts.map Tx.cells).flatten) (OwT l.ts))) h
def lastZ (e n:Int):List Tx→Int × Int
 | []=>(e,n)
 | t::ts=>lastZ t.e t.n ts
theorem lastZ_snoc (t:Tx):∀(ts:List Tx) (e n:Int),lastZ e n (ts++[t])=(t.e,t.n)
 | [],_,_=>rfl
 | x::ts,_,_=>lastZ_snoc t ts x.e x.n
def Lg.took (l:Lg) (fr:Bool) (ts us:List Tx):Lg:={ l with k:=if fr then l.k+1 else l.k,fil:=(if fr then 0 else l.fil)+ts.length,e:=(lastZ l.e l.n ts).1,n:=(lastZ l.e l.n ts).2,ts:=l.ts++us }
section
variable (Z:PZ) {o w:World} {R As:List HProp} {gl gd:Nat} {l:Lg}
theorem LgM.open (h:St o w (LgM gl gd l::R)):∃vn vt,St o w (LgO gl gd l vn vt R):=by
 obtain ⟨vn,h⟩:=h.ex
 obtain ⟨vt,h⟩:=h.ex
 exact ⟨vn,vt,((h.sep.swap.sep.swap.sep).pick 3) |> fun h=>by unfold LgO; (refine Sh.St.sub ?_ (h); repeat (first | with_reducible (first | exact sub_refl | exact sub_nil | refine sP0 ?_ | refine sP1 ?_ | refine sP2 ?_ | refine sP3 ?_ | refine sP4 ?_ | refine sP5 ?_ | refine sP6 ?_ | refine sP7 ?_ | refine sP8 ?_ | refine sP9 ?_ | refine sP10 ?_ | refine sP11 ?_ | refine sP12 ?_ | refine sP13 ?_ | refine sP14 ?_ | refine sP15 ?_) | exact sub_refl | refine sP0 ?_ | refine sP1 ?_ | refine sP2 ?_ | refine sP3 ?_ | refine sP4 ?_ | refine sP5 ?_ | refine sP6 ?_ | refine sP7 ?_ | refine sP8 ?_ | refine sP9 ?_ | refine sP10 ?_ | refine sP11 ?_ | refine sP12 ?_ | refine sP13 ?_ | refine sP14 ?_ | refine sP15 ?_ | refine sub_drop ?_))⟩
theorem LgM.shut {vn vt:Value} (h:St o w (LgO gl gd l vn vt R)):St o w (LgM gl gd l::R):=by
 unfold LgO at h
 have h1:St o w (own 50 16 vt l.ts.length (l.ts.map Tx.cells).flatten::OwT l.ts::blk gl 85 (lgC gd l vn vt)::own 9 1 vn l.k (segR l.num.toNat l.k)::R):=by (refine Sh.St.sub ?_ (h); repeat (first | with_reducible (first | exact sub_refl | exact sub_nil | refine sP0 ?_ | refine sP1 ?_ | refine sP2 ?_ | refine sP3 ?_ | refine sP4 ?_ | refine sP5 ?_ | refine sP6 ?_ | refine sP7 ?_ | refine sP8 ?_ | refine sP9 ?_ | refine sP10 ?_ | refine sP11 ?_ | refine sP12 ?_ | refine sP13 ?_ | refine sP14 ?_ | refine sP15 ?_) | exact sub_refl | refine sP0 ?_ | refine sP1 ?_ | refine sP2 ?_ | refine sP3 ?_ | refine sP4 ?_ | refine sP5 ?_ | refine sP6 ?_ | refine sP7 ?_ | refine sP8 ?_ | refine sP9 ?_ | refine sP10 ?_ | refine sP11 ?_ | refine sP12 ?_ | refine sP13 ?_ | refine sP14 ?_ | refine sP15 ?_ | refine sub_drop ?_))
 have h2:=h1.sep_intro
 have h3:St o w (own 9 1 vn l.k (segR l.num.toNat l.k)::sep (own 50 16 vt l.ts.length (l.ts.map Tx.cells).flatten) (OwT l.ts)::blk gl 85 (lgC gd l vn vt)::R):=by (refine Sh.St.sub ?_ (h2); repeat (first | with_reducible (first | exact sub_refl | exact sub_nil | refine sP0 ?_ | refine sP1 ?_ | refine sP2 ?_ | refine sP3 ?_ | refine sP4 ?_ | refine sP5 ?_ | refine sP6 ?_ | refine sP7 ?_ | refine sP8 ?_ | refine sP9 ?_ | refine sP10 ?_ | refine sP11 ?_ | refine sP12 ?_ | refine sP13 ?_ | refine sP14 ?_ | refine sP15 ?_) | exact sub_refl | refine sP0 ?_ | refine sP1 ?_ | refine sP2 ?_ | refine sP3 ?_ | refine sP4 ?_ | refine sP5 ?_ | refine sP6 ?_ | refine sP7 ?_ | refine sP8 ?_ | refine sP9 ?_ | refine sP10 ?_ | refine sP11 ?_ | refine sP12 ?_ | refine sP13 ?_ | refine sP14 ?_ | refine sP15 ?_ | refine sub_drop ?_))
 have h4:=h3.sep_intro
 have h5:=h4.swap.sep_intro
 exact (h5.ex_intro (F:=fun vt=>sep (blk gl 85 (lgC gd l vn vt)) (sep (own 9 1 vn l.k (segR l.num.toNat l.k)) (sep (own 50 16 vt l.ts.length (l.ts.map Tx.cells).flatten) (OwT l.ts)))) vt).ex_intro (F:=fun vn h=>∃vt,sep (blk gl 85 (lgC gd l vn vt)) (sep (own 9 1 vn l.k (segR l.num.toNat l.k)) (sep (own 50 16 vt l.ts.length (l.ts.map Tx.cells).flatten) (OwT l.ts))) h) vn
theorem wr1D {x0 x1 x2 x3 x4:Value} {u:FrameMode} {Q:PQ} (h:f64.sh Z x0 x1 x2 x3 x4 w Q):CallD π Z 64 #[x0,x1,x2,x3,x4] u w fun u' w'=>u'=u∧∃v,Q v w':=
 clDn drawD_sound follows ents Tryz.func64 f64.an [x0,x1,x2,x3,x4] (by kernel_rfl) (by kernel_rfl) h
theorem wr1 {ge gf gp gn gt:Nat} {e:Int} {fr:Bool} {nm:List UInt8} {v vn vt:Value} {ts:List Tx} {Q:PQ} (hx:Ent o R fun w=>RdT w v ts) (hw:∀t ∈ ts,WfQ t.q) (hn:ts.length≤1000) (hlt:(l.ts.length+ts.length) * 168≤140737488355328) (hlk:l.k≤1000000000000) (hfil:l.fil≤1000000000000) (hnm:fr=true→e=0→nm=nameB l.num.toNat (l.k+1))
  (h:St o w (blk ge 30 [.int .i64 e]::blk gf 4 [.bool fr]::blk gp 33 [.pointer (some ⟨gl,0,none⟩)]::blk gn 9 [.string (str nm)]::blk gt 22 [v]::LgO gl gd l vn vt R))
  (hq0:e ≠ 0→∀r w',St o w' (blk ge 30 [.int .i64 e]::LgO gl gd l vn vt R)→Q r w')
  (hq1:e=0→∀r w' vn' vt' us,us.map tk=ts.map tk→(fr=false→vn'=vn)→St o w' (blk ge 30 [.int .i64 e]::LgO gl gd (l.took fr ts us) vn' vt' R)→Q r w') :
  f64.sh Z (.pointer (some ⟨ge,0,none⟩)) (.pointer (some ⟨gf,0,none⟩)) (.pointer (some ⟨gp,0,none⟩)) (.pointer (some ⟨gn,0,none⟩)) (.pointer (some ⟨gt,0,none⟩)) w Q:=by
 unfold f64.sh
 refine r_load one30 (h.at m0 0 rfl) ?_
 by_cases he:e=0
 case neg=>
  have e1:(e != 0)=true:=bne_iff_ne.2 he
  (try simp only [o_neq,e1,condT])
  exact hq0 he _ _ (by unfold LgO at *; (refine Sh.St.sub ?_ (h); repeat (first | with_reducible (first | exact sub_refl | exact sub_nil | refine sP0 ?_ | refine sP1 ?_ | refine sP2 ?_ | refine sP3 ?_ | refine sP4 ?_ | refine sP5 ?_ | refine sP6 ?_ | refine sP7 ?_ | refine sP8 ?_ | refine sP9 ?_ | refine sP10 ?_ | refine sP11 ?_ | refine sP12 ?_ | refine sP13 ?_ | refine sP14 ?_ | refine sP15 ?_) | exact sub_refl | refine sP0 ?_ | refine sP1 ?_ | refine sP2 ?_ | refine sP3 ?_ | refine sP4 ?_ | refine sP5 ?_ | refine sP6 ?_ | refine sP7 ?_ | refine sP8 ?_ | refine sP9 ?_ | refine sP10 ?_ | refine sP11 ?_ | refine sP12 ?_ | refine sP13 ?_ | refine sP14 ?_ | refine sP15 ?_ | refine sub_drop ?_)))
 subst he
 have hq1:=hq1 rfl
 clear hq0
 refine rk (v:=.bool false) (by kernel_rfl) ?_
 rw [condF]
 intro j3 hj3
 obtain ⟨a,c,rfl⟩:=(hx w (by unfold LgO at h; (refine Sh.St.sub ?_ (h); repeat (first | with_reducible (first | exact sub_refl | exact sub_nil | refine sP0 ?_ | refine sP1 ?_ | refine sP2 ?_ | refine sP3 ?_ | refine sP4 ?_ | refine sP5 ?_ | refine sP6 ?_ | refine sP7 ?_ | refine sP8 ?_ | refine sP9 ?_ | refine sP10 ?_ | refine sP11 ?_ | refine sP12 ?_ | refine sP13 ?_ | refine sP14 ?_ | refine sP15 ?_) | exact sub_refl | refine sP0 ?_ | refine sP1 ?_ | refine sP2 ?_ | refine sP3 ?_ | refine sP4 ?_ | refine sP5 ?_ | refine sP6 ?_ | refine sP7 ?_ | refine sP8 ?_ | refine sP9 ?_ | refine sP10 ?_ | refine sP11 ?_ | refine sP12 ?_ | refine sP13 ?_ | refine sP14 ?_ | refine sP15 ?_ | refine sub_drop ?_)))).1.form
 have rest:∀(w':World) (vn':Value),(fr=false→vn'=vn)→St o w' (blk ge 30 [.int .i64 0]::blk gf 4 [.bool fr]::blk gp 33 [.pointer (some ⟨gl,0,none⟩)]::blk gn 9 [.string (str nm)]::blk gt 22 [.slice a ts.length c]::LgO gl gd { l with k:=if fr then l.k+1 else l.k,fil:=if fr then 0 else l.fil } vn' vt R)→j3 w':=fun w' vn' hvv h=>by
  refine hj3 _ fun _=>?_
  refine ⟨fun w2 hd=>?_⟩
  have h:=h.drew hd
  unfold LgO at h
  refine rr_load one33 (h.at m2 0 rfl) ?_
  (try simp only [o_chkp,fa_85_4p,Nat.zero_add])
  refine rr_load one3 (h.at m5 4 rfl) (rr_load one22 (h.at m4 0 rfl) ?_)
  (try simp only [ln_22_3p,o_addp])
  generalize hf0:(if fr=true then 0 else l.fil)=f0 at h ⊢
  have hf1:f0≤1000000000000:=by subst hf0; split <;> omega
  generalize hk0:(if fr=true then l.k+1 else l.k)=k0 at h
  rw [wr_i64 (x:=(f0:Int)+(ts.length:Int)) (by omega) (by omega),show (f0:Int)+(ts.length:Int)=((f0+ts.length:Nat):Int) by omega]
  refine r_store (h.pick 5) one3 (by simp [lgC]) rfl fun w3 h=>?_
  refine r_load one22 (h.at m5 0 rfl) ?_
  (try simp only [ln_22_3])
  have hS:St o w3 (LgO gl gd { l with k:=k0,fil:=f0+ts.length,e:=(lastZ l.e l.n (ts.take 0)).1,n:=(lastZ l.e l.n (ts.take 0)).2,ts:=l.ts++[] } vn' vt (blk gt 22 [.slice a ts.length c]::blk gp 33 [.pointer (some ⟨gl,0,none⟩)]::blk ge 30 [.int .i64 0]::R)):=by
   unfold LgO
   rw [List.append_nil]
   have h:St o w3 (blk gl 85 (lgC gd { l with k:=k0,fil:=f0+ts.length,e:=(lastZ l.e l.n (ts.take 0)).1,n:=(lastZ l.e l.n (ts.take 0)).2,ts:=l.ts } vn' vt)::_):=h
   (refine Sh.St.sub ?_ (h); repeat (first | with_reducible (first | exact sub_refl | exact sub_nil | refine sP0 ?_ | refine sP1 ?_ | refine sP2 ?_ | refine sP3 ?_ | refine sP4 ?_ | refine sP5 ?_ | refine sP6 ?_ | refine sP7 ?_ | refine sP8 ?_ | refine sP9 ?_ | refine sP10 ?_ | refine sP11 ?_ | refine sP12 ?_ | refine sP13 ?_ | refine sP14 ?_ | refine sP15 ?_) | exact sub_refl | refine sP0 ?_ | refine sP1 ?_ | refine sP2 ?_ | refine sP3 ?_ | refine sP4 ?_ | refine sP5 ?_ | refine sP6 ?_ | refine sP7 ?_ | refine sP8 ?_ | refine sP9 ?_ | refine sP10 ?_ | refine sP11 ?_ | refine sP12 ?_ | refine sP13 ?_ | refine sP14 ?_ | refine sP15 ?_ | refine sub_drop ?_))
  clear h hd
  refine ⟨fun m y w'=>∃(i:Nat) (us:List Tx) (vt':Value),i≤ts.length∧y=.int .i64 i∧m+i=ts.length∧us.map tk=(ts.take i).map tk∧St o w' (LgO gl gd { l with k:=k0,fil:=f0+ts.length,e:=(lastZ l.e l.n (ts.take i)).1,n:=(lastZ l.e l.n (ts.take i)).2,ts:=l.ts++us } vn' vt' (blk gt 22 [.slice a ts.length c]::blk gp 33 [.pointer (some ⟨gl,0,none⟩)]::blk ge 30 [.int .i64 0]::R)),⟨ts.length,0,[],vt,Nat.zero_le _,rfl,rfl,rfl,hS⟩,?_⟩
  clear hS
  rintro m _ w4 ⟨i,us,vt',hile,rfl,hi,hus,hS⟩ _
  by_cases hlt2:(i:Int) < (ts.length:Int)
  case neg=>
   obtain rfl:i=ts.length:=by omega
   (try simp only [o_add,o_lss,hlt2,decide_false,condF])
   rw [List.take_length] at hus hS
   refine hq1 _ _ vn' vt' us hus hvv ?_
   unfold Lg.took
   rw [hf0,hk0]
   unfold LgO at hS ⊢
   (refine Sh.St.sub ?_ (hS); repeat (first | with_reducible (first | exact sub_refl | exact sub_nil | refine sP0 ?_ | refine sP1 ?_ | refine sP2 ?_ | refine sP3 ?_ | refine sP4 ?_ | refine sP5 ?_ | refine sP6 ?_ | refine sP7 ?_ | refine sP8 ?_ | refine sP9 ?_ | refine sP10 ?_ | refine sP11 ?_ | refine sP12 ?_ | refine sP13 ?_ | refine sP14 ?_ | refine sP15 ?_) | exact sub_refl | refine sP0 ?_ | refine sP1 ?_ | refine sP2 ?_ | refine sP3 ?_ | refine sP4 ?_ | refine sP5 ?_ | refine sP6 ?_ | refine sP7 ?_ | refine sP8 ?_ | refine sP9 ?_ | refine sP10 ?_ | refine sP11 ?_ | refine sP12 ?_ | refine sP13 ?_ | refine sP14 ?_ | refine sP15 ?_ | refine sub_drop ?_))
  have hil:i < ts.length:=by omega
  have hmem:ts[i] ∈ ts:=List.getElem_mem hil
  unfold LgO at hS
  have hR:∀{A B C D E F G:HProp} {w:World},St o w (A::B::C::D::E::F::G::R)→St o w R:=fun h=>h.drop.drop.drop.drop.drop.drop.drop
  obtain ⟨b,p,cs,hp,_,hcv,hcl⟩:=(rowR_rd (c:=Tx.cells) (fun x=>rfl) (hx w4 (hR hS)).1 rfl).ix el22 .i64 i hil
  subst hcv
  (try simp only [o_add,o_lss,hlt2,decide_true,condT])
  refine r1 (hp _) (r_loadN ag50 (xs:=ts[i].cells) rfl (fun j u hu=>by rw [add_addr]; exact hcl j u hu) ?_)
  have hq:=txC_ones ((hx w4 (hR hS)).2 _ hmem).ones
  refine r_alloc hS ze50 fun gt2 w5 hS=>?_
  refine r_storeN hS ag50 (xs:=ts[i].cells) rfl (show 0+16≤16 from Nat.le_refl _) hq fun w6 hS=>?_
  rw [setL_all _ _ (by rfl)] at hS
  refine ⟨fun w7 hd=>?_⟩
  have hS:=hS.drew hd
  refine rr_load one33 (hS.at m6 0 rfl) (rr_load one33 (hS.at m6 0 rfl) ?_)
  (try simp only [fa_50_0,Nat.add_zero,o_chkp,fa_85_6p,Nat.zero_add])
  refine rr_load one22 (hS.at m1 7 rfl) (rr_loadN ag50 (xs:=ts[i].cells) rfl (hS.cells_at m0 0 (whole_at _)) ?_)
  refine (cloneT Z ts[i] (hw _ hmem) (fun w hw=>(hx w (hR hw.drop)).2 _ hmem) hS).mono fun r w8 ⟨t',hr,hhd,hst,hS⟩=>?_
  subst hr
  refine rs_load one22 (hS.at m2 7 rfl) (rs_load one33 (hS.at m7 0 rfl) (rs_load one33 (hS.at m7 0 rfl) ?_))
  have hqo:=txC_ones (OwQ.rd _ hS).ones
  refine r_sliceN el22 hS 1 _ [t'.cells] rfl (by omega) (by omega) (by omega) (by intro v hv; simp at hv; subst hv; rfl) rfl fun g3 w9 hS=>?_
  refine rs_load one22 (hS.at m3 7 rfl) (rs_load one33 (hS.at m8 0 rfl) (rs_load one33 (hS.at m8 0 rfl) ?_))
  have e1:[t'.cells].flatten=t'.cells:=by simp
  rw [e1] at hS
  have hul:us.length=i:=by have:=congrArg List.length hus; simp at this; omega
  have hal:(l.ts++us).length=l.ts.length+i:=by rw [List.length_append,hul]
  refine r_append el22 (hS.pick 5) (((hS.pick 5).own_rd m1).src el22.ht hqo) (by simp only [hal]; omega) (by simp only [hal,maxLen]; omega) fun vt2 w10 hS=>?_
  have hvo:vt2.oneCell'=true:=by obtain ⟨_,_,e⟩:=hS.own_form; rw [e]; rfl
  refine rs_load one33 (hS.at m8 0 rfl) (rs_load one33 (hS.at m8 0 rfl) ?_)
  refine r_store (hS.pick 4) one22 (by simp [lgC]) hvo fun w11 hS=>?_
  refine r_load one33 (hS.at m8 0 rfl) ?_
  refine r_loadN ag39 (xs:=zx ts[i].e ts[i].n) rfl (hS.cells_at m4 0 (zx_at _)) ?_
  (try simp only [o_chk,fa_85_5,Nat.zero_add])
  refine r_storeN hS ag39 (xs:=zx ts[i].e ts[i].n) rfl (by simp [lgC]) (zx_ones _ _) fun w12 hS=>?_
  rw [wr_i64 (x:=(i:Int)+1) (by omega) (by omega)]
  refine ⟨m - 1,by omega,i+1,us++[t'],vt2,by omega,by first | rfl | trivial,by omega,?_,?_⟩
  ·rw [List.take_succ_eq_append_getElem hil,List.map_append,List.map_append,hus]
   simp [tk,hhd,hst]
  ·have elz:lastZ l.e l.n (ts.take (i+1))=(ts[i].e,ts[i].n):=by rw [List.take_succ_eq_append_getElem hil,lastZ_snoc]
   rw [elz]
   have hS:St o w12 (blk gl 85 (lgC gd { l with k:=k0,fil:=f0+ts.length,e:=ts[i].e,n:=ts[i].n,ts:=l.ts++(us++[t']) } vn' vt2)::own 50 16 vt2 ((l.ts++us).length+1) (((l.ts++us).map Tx.cells).flatten++t'.cells)::_):=hS
   have h2:St o w12 (satH ((l.ts++us).map fun t=>OwQ t.q)::OwQ t'.q::blk gl 85 (lgC gd { l with k:=k0,fil:=f0+ts.length,e:=ts[i].e,n:=ts[i].n,ts:=l.ts++(us++[t']) } vn' vt2)::own 50 16 vt2 ((l.ts++us).length+1) (((l.ts++us).map Tx.cells).flatten++t'.cells)::own 9 1 vn' k0 (segR l.num.toNat k0)::blk gt 22 [.slice a ts.length c]::blk gp 33 [.pointer (some ⟨gl,0,none⟩)]::blk ge 30 [.int .i64 0]::R):=by (refine Sh.St.sub ?_ (hS); repeat (first | with_reducible (first | exact sub_refl | exact sub_nil | refine sP0 ?_ | refine sP1 ?_ | refine sP2 ?_ | refine sP3 ?_ | refine sP4 ?_ | refine sP5 ?_ | refine sP6 ?_ | refine sP7 ?_ | refine sP8 ?_ | refine sP9 ?_ | refine sP10 ?_ | refine sP11 ?_ | refine sP12 ?_ | refine sP13 ?_ | refine sP14 ?_ | refine sP15 ?_) | exact sub_refl | refine sP0 ?_ | refine sP1 ?_ | refine sP2 ?_ | refine sP3 ?_ | refine sP4 ?_ | refine sP5 ?_ | refine sP6 ?_ | refine sP7 ?_ | refine sP8 ?_ | refine sP9 ?_ | refine sP10 ?_ | refine sP11 ?_ | refine sP12 ?_ | refine sP13 ?_ | refine sP14 ?_ | refine sP15 ?_ | refine sub_drop ?_))
   have h3:=h2.all_snoc
   have e2:((l.ts++us).map fun t=>OwQ t.q)++[OwQ t'.q]=(l.ts++(us++[t'])).map fun t=>OwQ t.q:=by simp
   have e3:((l.ts++us).map Tx.cells).flatten++t'.cells=((l.ts++(us++[t'])).map Tx.cells).flatten:=by simp
   have e4:(l.ts++us).length+1=(l.ts++(us++[t'])).length:=by simp; omega
   rw [e2,e3,e4] at h3
   unfold LgO OwT
   (refine Sh.St.sub ?_ (h3); repeat (first | with_reducible (first | exact sub_refl | exact sub_nil | refine sP0 ?_ | refine sP1 ?_ | refine sP2 ?_ | refine sP3 ?_ | refine sP4 ?_ | refine sP5 ?_ | refine sP6 ?_ | refine sP7 ?_ | refine sP8 ?_ | refine sP9 ?_ | refine sP10 ?_ | refine sP11 ?_ | refine sP12 ?_ | refine sP13 ?_ | refine sP14 ?_ | refine sP15 ?_) | exact sub_refl | refine sP0 ?_ | refine sP1 ?_ | refine sP2 ?_ | refine sP3 ?_ | refine sP4 ?_ | refine sP5 ?_ | refine sP6 ?_ | refine sP7 ?_ | refine sP8 ?_ | refine sP9 ?_ | refine sP10 ?_ | refine sP11 ?_ | refine sP12 ?_ | refine sP13 ?_ | refine sP14 ?_ | refine sP15 ?_ | refine sub_drop ?_))
 cases fr with
 | false=>
  refine r_load one4 (h.at m1 0 rfl) ?_
  rw [condF]
  exact rest _ vn (fun _=>rfl) h
 | true=>
 refine r_load one4 (h.at m1 0 rfl) ?_
 rw [condT]
 refine ⟨fun w2 hd=>?_⟩
 have h:=h.drew hd
 unfold LgO at h
 refine rr_load one33 (h.at m2 0 rfl) (rr_load one33 (h.at m2 0 rfl) ?_)
 (try simp only [o_chkp,fa_85_3p,Nat.zero_add])
 refine rr_load one66 (h.at m5 3 rfl) (rr_load one9 (h.at m3 0 rfl) ?_)
 refine r_slice el66 h 1 _ [.string (str nm)] rfl (by omega) (by omega) (by intro x hx; simp at hx; subst hx; rfl) rfl fun g1 w3 h=>?_
 refine rs_load one66 (h.at m6 3 rfl) (rs_load one33 (h.at m3 0 rfl) (rs_load one33 (h.at m3 0 rfl) ?_))
 have h1:ones [Value.string (str nm)]:=by intro x hx; simp at hx; subst hx; rfl
 refine r_append el66 (h.pick 7) (((h.pick 7).own_rd m1).src el66.ht h1) (by omega) (by simp only [maxLen]; omega) fun v2 w4 h=>?_
 have hvo:v2.oneCell'=true:=by obtain ⟨_,_,e⟩:=h.own_form; rw [e]; rfl
 refine rs_load one33 (h.at m4 0 rfl) (rs_load one33 (h.at m4 0 rfl) ?_)
 refine r_store (h.pick 7) one66 (by simp [lgC]) hvo fun w5 h=>?_
 refine r_load one33 (h.at m5 0 rfl) ?_
 (try simp only [o_chk,fa_85_4,Nat.zero_add])
 refine r_store h one3 (by simp [lgC]) rfl fun w6 h=>?_
 refine rest _ v2 (fun hh=>by cases hh) ?_
 have h:St o w6 (blk gl 85 (lgC gd { l with k:=l.k+1,fil:=0 } v2 vt)::own 9 1 v2 (l.k+1) (segR l.num.toNat l.k++[.string (str nm)])::_):=h
 rw [hnm rfl rfl,← segR_succ] at h
 rw [hnm rfl rfl]
 unfold LgO
 (refine Sh.St.sub ?_ (h); repeat (first | with_reducible (first | exact sub_refl | exact sub_nil | refine sP0 ?_ | refine sP1 ?_ | refine sP2 ?_ | refine sP3 ?_ | refine sP4 ?_ | refine sP5 ?_ | refine sP6 ?_ | refine sP7 ?_ | refine sP8 ?_ | refine sP9 ?_ | refine sP10 ?_ | refine sP11 ?_ | refine sP12 ?_ | refine sP13 ?_ | refine sP14 ?_ | refine sP15 ?_) | exact sub_refl | refine sP0 ?_ | refine sP1 ?_ | refine sP2 ?_ | refine sP3 ?_ | refine sP4 ?_ | refine sP5 ?_ | refine sP6 ?_ | refine sP7 ?_ | refine sP8 ?_ | refine sP9 ?_ | refine sP10 ?_ | refine sP11 ?_ | refine sP12 ?_ | refine sP13 ?_ | refine sP14 ?_ | refine sP15 ?_ | refine sub_drop ?_))
end
end Go.Proofs.YtbdfhfceffkhgaaGreatDoor


/- A log's write. -/
set_option linter.unusedVariables false
set_option linter.unusedSimpArgs false
namespace Go.Proofs.YtbdfhfceffkhgaaGreatDoor
open Go.Sh
open Tryz renaming prog → π
def Dk.put (d:Dk) (n p:Bs):Int × Dk:=if (d.append n p).1=0 then (d.append n p).2.sync n else d.append n p
def WroteP (gl gd:Nat) (l:Lg) (d:Dk) (nm:List UInt8) (fr:Bool) (ts:List Tx) (o:World) (R:List HProp) (r:Value) (w':World):Prop:=
 r=.int .i64 (d.put nm (frT ts)).1∧(((d.put nm (frT ts)).1 ≠ 0∧St o w' (LgM gl gd l::DiskM gd (d.put nm (frT ts)).2::R))∨((d.put nm (frT ts)).1=0∧∃us,us.map tk=ts.map tk∧St o w' (LgM gl gd (l.took fr ts us)::DiskM gd (d.put nm (frT ts)).2::R)))
def WroteO (gl gd:Nat) (l:Lg) (d:Dk) (nm:List UInt8) (fr:Bool) (ts:List Tx) (vn vt:Value) (o:World) (R:List HProp) (r:Value) (w':World):Prop:=
 r=.int .i64 (d.put nm (frT ts)).1∧(((d.put nm (frT ts)).1 ≠ 0∧St o w' (LgO gl gd l vn vt (DiskM gd (d.put nm (frT ts)).2::R)))∨((d.put nm (frT ts)).1=0∧∃us vn' vt',us.map tk=ts.map tk∧(fr=false→vn'=vn)∧St o w' (LgO gl gd (l.took fr ts us) vn' vt' (DiskM gd (d.put nm (frT ts)).2::R))))
theorem WroteO.shut {gl gd:Nat} {l:Lg} {d:Dk} {nm:List UInt8} {fr:Bool} {ts:List Tx} {vn vt:Value} {o:World} {R:List HProp} {r:Value} {w':World} (h:WroteO gl gd l d nm fr ts vn vt o R r w'):WroteP gl gd l d nm fr ts o R r w':=by
 obtain ⟨h1,⟨h2,h3⟩ | ⟨h2,us,vn',vt',h3,_,h4⟩⟩:=h
 ·exact ⟨h1,.inl ⟨h2,LgM.shut h3⟩⟩
 ·exact ⟨h1,.inr ⟨h2,us,h3,LgM.shut h4⟩⟩
section
variable (Z:PZ) {o w:World} {R As:List HProp} {gl gd:Nat} {l:Lg} {d:Dk}
theorem lWriteO {vn vt:Value} {fr:Bool} {nm:List UInt8} {v:Value} {ts:List Tx} (hN:Names o) (ho:old o ∈ R) (hx:Ent o R fun w=>RdT w v ts) (hw:∀t ∈ ts,WfQ t.q) (hc:∀t ∈ ts,chkT t=true) (hn:ts.length≤1000) (hlt:(l.ts.length+ts.length) * 168≤140737488355328) (hlk:l.k≤1000000000000) (hfil:l.fil≤1000000000000) (hnl:nm.length≤1000)
  (hnm:fr=true→nm=nameB l.num.toNat (l.k+1)∨(d.put nm (frT ts)).1 ≠ 0) (h:St o w (LgO gl gd l vn vt (DiskM gd d::R))) :
  CallV π Z 41 #[.pointer (some ⟨gl,0,none⟩),.string (str nm),.bool fr,v] w (WroteO gl gd l d nm fr ts vn vt o R):=by
 refine f41.calls ?_
 unfold f41.sh
 refine r_box _ _ h fun gp w1 hS=>?_
 refine r_box _ _ hS fun gn w2 hS=>?_
 refine r_box _ _ hS fun gf w3 hS=>?_
 refine r_box _ _ hS fun gt w4 hS=>?_
 refine r_alloc hS ze30 fun ge w5 hS=>?_
 obtain ⟨a,c,rfl⟩:=(hx w (by unfold LgO at h; exact h.drop.drop.drop.drop.drop)).1.form
 have hS:St o w5 (blk ge 30 [.int .i64 0]::blk gt 22 [.slice a ts.length c]::blk gf 4 [.bool fr]::blk gn 9 [.string (str nm)]::blk gp 33 [.pointer (some ⟨gl,0,none⟩)]::LgO gl gd l vn vt (DiskM gd d::R)):=hS
 (try simp only [o_fn])
 refine deferV_mk ?_
 intro Z2 hZ2
 refine ⟨fun w6 hd=>?_⟩
 have hS:=hS.drew hd
 unfold LgO at hS
 refine rr_load one33 (hS.at m4 0 rfl) ?_
 (try simp only [o_chkp,fa_85_0p,Nat.add_zero])
 refine rr_load one29 (hS.at m5 0 rfl) (rr_load one9 (hS.at m3 0 rfl) (rr_load one22 (hS.at m1 0 rfl) ?_))
 have leave:∀(e:Int) (d2:Dk) (w:World),d.put nm (frT ts)=(e,d2)→St o w (blk ge 30 [.int .i64 e]::blk gf 4 [.bool fr]::blk gp 33 [.pointer (some ⟨gl,0,none⟩)]::blk gn 9 [.string (str nm)]::blk gt 22 [.slice a ts.length c]::LgO gl gd l vn vt (DiskM gd d2::R)) →
   leaveV π { target:=Target.fn (Fn.func 64) #[Value.pointer (some ⟨ge,0,none⟩),Value.pointer (some ⟨gf,0,none⟩),Value.pointer (some ⟨gp,0,none⟩),Value.pointer (some ⟨gn,0,none⟩),Value.pointer (some ⟨gt,0,none⟩)],args:=#[]++#[] } FrameMode.returning w fun w=>
    ∃r_8,(do loadVar 30 (← asAddr (.pointer (some ⟨ge,0,none⟩))):Sem Value).run π w=.ok r_8 w∧WroteO gl gd l d nm fr ts vn vt o R r_8 w:=fun e d2 w hput hS=>by
  refine r_leave en64 (l:=[.pointer (some ⟨ge,0,none⟩),.pointer (some ⟨gf,0,none⟩),.pointer (some ⟨gp,0,none⟩),.pointer (some ⟨gn,0,none⟩),.pointer (some ⟨gt,0,none⟩)]) rfl ?_
  refine (wr1D (fun _ _=>False) (Q:=fun _ w=>∃r_8,(do loadVar 30 (← asAddr (.pointer (some ⟨ge,0,none⟩))):Sem Value).run π w=.ok r_8 w∧WroteO gl gd l d nm fr ts vn vt o R r_8 w) ?_).mono fun u w' ⟨hu,v,hv⟩=>⟨by rw [hu]; rfl,hv⟩
  refine wr1 (fun _ _=>False) (ts:=ts) (fun w hw=>hx w hw.drop) hw hn hlt hlk hfil (fun hf he=>?_) hS (fun he r w' hS=>?_) (fun he r w' vn' vt' us hus hvv hS=>?_)
  ·rcases hnm hf with h1 | h1
   ·exact h1
   ·rw [hput] at h1; exact absurd he h1
  ·refine r_res one30 (hS.at m0 0 rfl) ⟨by rw [hput],.inl ⟨by rw [hput]; exact he,?_⟩⟩
   rw [hput]
   exact hS.drop
  ·refine r_res one30 (hS.at m0 0 rfl) ⟨by rw [hput],.inr ⟨by rw [hput]; exact he,us,vn',vt',hus,hvv,?_⟩⟩
   rw [hput]
   exact hS.drop
 refine (lFramed Z2 (ts:=ts) hN (by simp [ho]) hc hn (fun w hw=>hx w hw.drop.drop.drop.drop.drop.drop.drop.drop.drop.drop) hS).mono fun r w7 hS=>?_
 refine rs_load one9 (hS.at m4 0 rfl) (rs_load one29 (hS.at m6 0 rfl) (rs_load one33 (hS.at m5 0 rfl) ?_))
 have hfl:=frT_len hc
 refine (dAppend Z2 nm (by omega) (hS.pick 10) (Ent.own m0) (by omega)).mono fun r w8 ⟨hr,hS⟩=>?_
 subst hr
 refine rs_load one33 (hS.at m6 0 rfl) ?_
 refine r_store (hS.pick 2) one30 (by simp) rfl fun w9 hS=>?_
 refine r_load one30 (hS.at m0 0 rfl) ?_
 refine r1 (run_neq_int _ _ _ _ _ _ _ _) ?_
 by_cases he:(d.append nm (frT ts)).1=0
 case neg=>
  rw [bne_iff_ne.2 he,condT]
  refine r_load one30 (hS.at m0 0 rfl) ?_
  refine r_store hS one30 (by simp) rfl fun w10 hS=>?_
  refine leave (d.append nm (frT ts)).1 (d.append nm (frT ts)).2 _ (by unfold Dk.put; rw [if_neg he]) ?_
  have hS:St o w10 (blk ge 30 [.int .i64 (d.append nm (frT ts)).1]::_):=hS
  unfold LgO
  (refine Sh.St.sub ?_ (hS); repeat (first | with_reducible (first | exact sub_refl | exact sub_nil | refine sP0 ?_ | refine sP1 ?_ | refine sP2 ?_ | refine sP3 ?_ | refine sP4 ?_ | refine sP5 ?_ | refine sP6 ?_ | refine sP7 ?_ | refine sP8 ?_ | refine sP9 ?_ | refine sP10 ?_ | refine sP11 ?_ | refine sP12 ?_ | refine sP13 ?_ | refine sP14 ?_ | refine sP15 ?_) | exact sub_refl | refine sP0 ?_ | refine sP1 ?_ | refine sP2 ?_ | refine sP3 ?_ | refine sP4 ?_ | refine sP5 ?_ | refine sP6 ?_ | refine sP7 ?_ | refine sP8 ?_ | refine sP9 ?_ | refine sP10 ?_ | refine sP11 ?_ | refine sP12 ?_ | refine sP13 ?_ | refine sP14 ?_ | refine sP15 ?_ | refine sub_drop ?_))
 rw [show ((d.append nm (frT ts)).1 != 0)=false by rw [he]; rfl,condF]
 refine ⟨fun w10 hd=>?_⟩
 have hS:=hS.drew hd
 refine rr_load one33 (hS.at m6 0 rfl) ?_
 (try simp only [o_chkp,fa_85_0p,Nat.add_zero])
 refine rr_load one29 (hS.at m7 0 rfl) (rr_load one9 (hS.at m5 0 rfl) ?_)
 refine (dSync Z2 nm (by omega) hS.swap).mono fun r w11 ⟨hr,hS⟩=>?_
 subst hr
 refine rs_load one33 (hS.at m6 0 rfl) ?_
 refine r_store hS.swap one30 (by simp) rfl fun w12 hS=>?_
 refine leave ((d.append nm (frT ts)).2.sync nm).1 ((d.append nm (frT ts)).2.sync nm).2 _ (by unfold Dk.put; rw [if_pos he]) ?_
 have hS:St o w12 (blk ge 30 [.int .i64 ((d.append nm (frT ts)).2.sync nm).1]::_):=hS
 unfold LgO
 (refine Sh.St.sub ?_ (hS); repeat (first | with_reducible (first | exact sub_refl | exact sub_nil | refine sP0 ?_ | refine sP1 ?_ | refine sP2 ?_ | refine sP3 ?_ | refine sP4 ?_ | refine sP5 ?_ | refine sP6 ?_ | refine sP7 ?_ | refine sP8 ?_ | refine sP9 ?_ | refine sP10 ?_ | refine sP11 ?_ | refine sP12 ?_ | refine sP13 ?_ | refine sP14 ?_ | refine sP15 ?_) | exact sub_refl | refine sP0 ?_ | refine sP1 ?_ | refine sP2 ?_ | refine sP3 ?_ | refine sP4 ?_ | refine sP5 ?_ | refine sP6 ?_ | refine sP7 ?_ | refine sP8 ?_ | refine sP9 ?_ | refine sP10 ?_ | refine sP11 ?_ | refine sP12 ?_ | refine sP13 ?_ | refine sP14 ?_ | refine sP15 ?_ | refine sub_drop ?_))
theorem lWrite {fr:Bool} {nm:List UInt8} {v:Value} {ts:List Tx} (hN:Names o) (ho:old o ∈ R) (hx:Ent o R fun w=>RdT w v ts) (hw:∀t ∈ ts,WfQ t.q) (hc:∀t ∈ ts,chkT t=true) (hn:ts.length≤1000) (hlt:(l.ts.length+ts.length) * 168≤140737488355328) (hlk:l.k≤1000000000000) (hfil:l.fil≤1000000000000) (hnl:nm.length≤1000)
  (hnm:fr=true→nm=nameB l.num.toNat (l.k+1)∨(d.put nm (frT ts)).1 ≠ 0) (h:St o w (LgM gl gd l::DiskM gd d::R)) :
  CallV π Z 41 #[.pointer (some ⟨gl,0,none⟩),.string (str nm),.bool fr,v] w (WroteP gl gd l d nm fr ts o R):=by
 obtain ⟨vn,vt,h⟩:=LgM.open h
 exact (lWriteO Z hN ho hx hw hc hn hlt hlk hfil hnl hnm h).mono fun r w' hh=>hh.shut
end

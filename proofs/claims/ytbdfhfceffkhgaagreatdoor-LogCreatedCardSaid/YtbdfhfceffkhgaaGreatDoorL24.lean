
/- What Open finds, plainly. -/
import Derived.Test.YtbdfhfceffkhgaaGreatDoorL18
import Derived.Test.YtbdfhfceffkhgaaGreatDoorT30
set_option linter.unusedVariables false
set_option linter.unusedSimpArgs false
namespace Go.Proofs.YtbdfhfceffkhgaaGreatDoor
open Go.Sh
open Tryz renaming prog → π
def Fit (e n:Int):List Tx→Prop
 | []=>True
 | t::ts=>(okT t∧lchk t e n=0)∧Fit t.e t.n ts
theorem Fit.app {b:List Tx}:∀{a:List Tx} {e n:Int},Fit e n (a++b) ↔ Fit e n a∧Fit (lastZ e n a).1 (lastZ e n a).2 b
 | [],_,_=>by simp [Fit,lastZ]
 | t::a,_,_=>by simp only [List.cons_append,Fit,lastZ,Fit.app (a:=a),and_assoc]
theorem Fit.mem:∀{a:List Tx} {e n:Int},Fit e n a→∀t ∈ a,okT t∧chkT t=true
 | [],_,_,_,_,ht=>by cases ht
 | x::a,_,_,h,t,ht=>by
  rcases List.mem_cons.1 ht with rfl | ht
  ·exact ⟨h.1.1,(lchk_ok.1 h.1.2).1⟩
  ·exact Fit.mem h.2 t ht
theorem tk_zx {x y:Tx} (h:tk x=tk y):x.e=y.e∧x.n=y.n:=by
 have h1:x.hd=y.hd:=congrArg Prod.fst h
 exact ⟨congrArg Hd.e h1,congrArg Hd.n h1⟩
theorem lastZ_tk:∀{a b:List Tx} (e n:Int),a.map tk=b.map tk→lastZ e n a=lastZ e n b
 | [],[],_,_,_=>rfl
 | [],_::_,_,_,h=>by simp at h
 | _::_,[],_,_,h=>by simp at h
 | x::a,y::b,e,n,h=>by
  simp only [List.map_cons,List.cons.injEq] at h
  obtain ⟨h1,h2⟩:=tk_zx h.1
  rw [lastZ,lastZ,h1,h2]
  exact lastZ_tk _ _ h.2
theorem took_same:∀{us ts:List Tx} {e n:Int},Chn e n us→(∀t ∈ ts,okT t)→us.map txB=(ts.take us.length).map txB→us.length≤ts.length→us.map tk=(ts.take us.length).map tk
 | [],_,_,_,_,_,_,_=>rfl
 | u::us,[],_,_,_,_,_,hl=>by simp at hl
 | u::us,t::ts,e,n,hc,hok,hb,hl=>by
  simp only [List.length_cons,List.take_succ_cons,List.map_cons,List.cons.injEq] at hb ⊢
  have h1:tk t=tk u:=hc.1.2.1 t (hok t List.mem_cons_self) hb.1.symm
  exact ⟨h1.symm,took_same hc.2 (fun x hx=>hok x (List.mem_cons_of_mem _ hx)) hb.2 (by simpa using hl)⟩
theorem took_all {l:Lg} {ts us:List Tx} (hF:Fit l.e l.n ts) (hT:Took l (ts.map txB) us.length us) (hs:us.length=(ts.map txB).length∨Stop l (ts.map txB) us):us.map tk=ts.map tk:=by
 obtain ⟨_,hb,hc⟩:=hT
 have hl:us.length≤ts.length:=by
  have:=congrArg List.length hb
  simp at this; omega
 rw [← List.map_take] at hb
 have h1:=took_same hc (fun t ht=>(hF.mem t ht).1) hb hl
 rcases hs with hs | ⟨hj,hs⟩
 ·rw [List.length_map] at hs
  rw [hs,List.take_length] at h1
  exact h1
 ·rw [List.length_map] at hj
  have hz:=lastZ_tk l.e l.n h1
  have hsp:ts=ts.take us.length++ts[us.length]::ts.drop (us.length+1):=by simp
  have hF2:=hF
  rw [hsp,Fit.app] at hF2
  have hk:=hF2.2.1.2
  rw [← hz] at hk
  exact absurd (by simp) (hs ts[us.length] hF2.2.1.1 hk)
theorem bods_frT {ts:List Tx} (h:∀t ∈ ts,chkT t=true) {r:List UInt8} (hr:frst r=none):bodsOf (frT ts++r)=ts.map txB:=by
 refine bods_frms (fun b hb=>?_) hr
 obtain ⟨t,ht,rfl⟩:=List.mem_map.1 hb
 have:=txB_len (h t ht)
 exact ⟨txB_pos t,by omega⟩
theorem pos_all (ts:List Tx) (n:Nat) (hn:n=ts.length):pos (ts.map txB) n=(frT ts).length:=by
 unfold pos frT
 rw [List.take_of_length_le (by rw [List.length_map]; omega)]
def cutR (d:Dk) (nm tail:Bs) (n:Nat) (l:Lg):Option Lg × Int × Dk:=
 if tail=[] then (some l,0,d) else if (d.cut nm (n:Nat)).1=0 then (some l,0,(d.cut nm (n:Nat)).2) else (none,(d.cut nm (n:Nat)).1,(d.cut nm (n:Nat)).2)
theorem opR_good (a:Int) (tail:Bs) (ht:frst tail=none):∀(chs:List (List Tx)) (ch:List Tx) (i:Nat) (d:Dk) (l:Lg) (res:Option Lg × Int × Dk),Fit l.e l.n ((chs++[ch]).flatten)→(∀c ∈ chs,c ≠ []) →
  (∀j (hj:j < chs.length),d.bytes (nameI a (i+j+1:Nat))=frT chs[j])→d.bytes (nameI a (i+chs.length+1:Nat))=frT ch++tail→OpR a (chs.length+1) i d l res →
  ∃us,us.map tk=((chs++[ch]).flatten).map tk∧res=cutR d (nameI a (i+chs.length+1:Nat)) tail (frT ch).length { l with k:=l.k+(chs.length+1),fil:=ch.length,e:=(lastZ l.e l.n ((chs++[ch]).flatten)).1,n:=(lastZ l.e l.n ((chs++[ch]).flatten)).2,ts:=l.ts++us }
 | [],ch,i,d,l,res,hF,_,_,hb,hR=>by
  simp only [List.nil_append,List.flatten_cons,List.flatten_nil,List.append_nil,List.length_nil,Nat.add_zero,Nat.zero_add] at *
  obtain ⟨us,hT,hs,hR⟩:=hR
  rw [hb] at hT hs hR
  have hbo:=bods_frT (fun t ht=>(hF.mem t ht).2) ht
  rw [hbo] at hT hs hR
  have htk:=took_all (l:=l.seg) hF hT hs
  have hul:us.length=ch.length:=by have:=congrArg List.length htk; simpa using this
  rw [pos_all ch us.length hul,if_neg (by simp [hul])] at hR
  refine ⟨us,htk,?_⟩
  have hl:l.seg.with us={ l with k:=l.k+1,fil:=ch.length,e:=(lastZ l.e l.n ch).1,n:=(lastZ l.e l.n ch).2,ts:=l.ts++us }:=by
   have hz:lastZ l.e l.n us=lastZ l.e l.n ch:=lastZ_tk _ _ htk
   unfold Lg.with Lg.seg
   simp only [hz,hul,Nat.zero_add]
  rw [hl] at hR
  unfold cutR
  by_cases htl:tail=[]
  ·rw [if_neg (by rw [htl,List.append_nil]; omega)] at hR
   rw [if_pos htl]
   exact hR
  ·have htp:=List.length_pos_iff.2 htl
   rw [if_pos (by rw [List.length_append]; omega)] at hR
   rw [if_neg htl]
   by_cases hc:(d.cut (nameI a (i+1:Nat)) ((frT ch).length:Nat)).1=0
   ·rw [if_neg (fun h=>h hc)] at hR
    rw [if_pos hc]
    exact hR
   ·rw [if_pos hc] at hR
    rw [if_neg hc]
    exact hR
 | c::chs,ch,i,d,l,res,hF,hne,hbs,hb,hR=>by
  obtain ⟨us,hT,hs,hR⟩:=hR
  have hb0:=hbs 0 (by simp)
  simp only [Nat.add_zero,List.getElem_cons_zero] at hb0
  have hF2:Fit l.e l.n (c++(chs++[ch]).flatten):=by simpa using hF
  rw [Fit.app] at hF2
  rw [hb0] at hT hs hR
  have hbo:=bods_frT (fun t ht=>(hF2.1.mem t ht).2) frst_nil
  rw [List.append_nil] at hbo
  rw [hbo] at hT hs hR
  have htk:=took_all (l:=l.seg) hF2.1 hT hs
  have hul:us.length=c.length:=by have:=congrArg List.length htk; simpa using this
  have hc0:=List.length_pos_iff.2 (hne c List.mem_cons_self)
  have hz:lastZ l.e l.n us=lastZ l.e l.n c:=lastZ_tk _ _ htk
  rw [pos_all c us.length hul,if_neg (fun h=>h.elim (fun h=>h (by rw [List.length_map]; exact hul)) fun h=>h.2.elim (fun h=>absurd h (Nat.lt_irrefl _)) fun h=>by omega),if_neg (by omega)] at hR
  have hFr:Fit (l.seg.with us).e (l.seg.with us).n ((chs++[ch]).flatten):=by
   show Fit (lastZ l.e l.n us).1 (lastZ l.e l.n us).2 _
   rw [hz]; exact hF2.2
  obtain ⟨vs,hvs,hres⟩:=opR_good a tail ht chs ch (i+1) d (l.seg.with us) res hFr (fun x hx=>hne x (List.mem_cons_of_mem _ hx)) (fun j hj=>by
   have:=hbs (j+1) (by simp; omega)
   rw [show i+(j+1)+1=i+1+j+1 by omega] at this
   simpa using this) (by
   rw [← hb]
   congr 2
   simp only [List.length_cons]; omega) hR
  refine ⟨us++vs,by rw [List.map_append,htk,hvs]; simp,?_⟩
  rw [hres]
  have e1:i+1+chs.length+1=i+(c::chs).length+1:=by simp only [List.length_cons]; omega
  rw [e1]
  congr 1
  have e2:lastZ (l.seg.with us).e (l.seg.with us).n ((chs++[ch]).flatten)=lastZ l.e l.n ((c::chs++[ch]).flatten):=by
   show lastZ (lastZ l.e l.n us).1 (lastZ l.e l.n us).2 _=_
   rw [hz]
   simp only [List.cons_append,List.flatten_cons,lastZ_append]
  rw [e2]
  unfold Lg.with Lg.seg
  simp only [List.length_cons,List.append_assoc,Nat.add_assoc,Nat.add_comm 1]
end Go.Proofs.YtbdfhfceffkhgaaGreatDoor


/- A log of one transaction is created, takes one more, is opened again. -/
set_option linter.unusedVariables false
set_option linter.unusedSimpArgs false
namespace Go.Proofs.YtbdfhfceffkhgaaGreatDoor
open Go.Sh
open Tryz renaming prog → π
def sQ:Rq:=.mk ⟨7,[],[],[],0,false,false,0,9,[]⟩ (.slice none 0 0) (.slice none 0 0) (.slice none 0 0) (.slice none 0 0) []
def tS (n:Nat):Tx:=⟨1,n,0,0,0,sQ⟩
theorem sQ_rd (w:World):RdQ w sQ:=.mk _ ⟨rd0 w 1,rd0 w 3,rd0 w 2⟩ (rd0 w 11) (fun x hx=>by cases hx)
theorem sQ_wf:WfQ sQ:=.mk _ ⟨by decide,by decide,by decide,⟨by decide,fun x hx=>by cases hx⟩,by decide,by decide,by decide,⟨by decide,fun x hx=>by cases hx⟩⟩ (by decide) (fun x hx=>by cases hx)
theorem tS_h (n:Nat) (hn:n≤4294967295):wfH (tS n).hd:=by
 unfold wfH
 refine ⟨⟨⟨⟨⟨trivial,?_⟩,?_⟩,?_⟩,?_⟩,?_⟩ <;> simp only [hokc,tS,Tx.hd] <;> omega
theorem s1_chk:chkT (tS 1)=true:=by decide +kernel
theorem s2_chk:chkT (tS 2)=true:=by decide +kernel
theorem s1_ok:okT (tS 1):=okT_chk s1_chk (tS_h 1 (by omega)) sQ_wf
theorem s2_ok:okT (tS 2):=okT_chk s2_chk (tS_h 2 (by omega)) sQ_wf
def wD1:Dk:=(crt 1 2 2 0 0 [tS 1] (Dk.new 1000)).2.1
def wD2:Dk:=(wD1.put (nameB 1 1) (frT [tS 2])).2
theorem w_crE:crE (Dk.new 1000) 1 2 [tS 1]=0:=by decide +kernel
theorem w_crt:(crt 1 2 2 0 0 [tS 1] (Dk.new 1000)).1=0:=by decide +kernel
theorem w_crt2:(crt 1 2 2 0 0 [tS 1] (Dk.new 1000)).2.2=(1,1):=by decide +kernel
theorem w_put:(wD1.put (nameB 1 1) (frT [tS 2])).1=0:=by decide +kernel
theorem w_on:wD2.on=true:=by decide +kernel
theorem w_nms:wD2.fs.map (·.nm)=[nameB 1 1]:=by decide +kernel
theorem w_seg:segNos 1 wD2.fs=[1]:=by decide +kernel
theorem w_at:isAt wD2.fs (nameB 1 1)=true:=by decide +kernel
theorem w_bytes:wD2.bytes (nameB 1 1)=frT [tS 1,tS 2]:=by decide +kernel
theorem w_fit:Fit 0 0 [tS 1,tS 2]:=⟨⟨s1_ok,by decide +kernel⟩,⟨s2_ok,by decide +kernel⟩,trivial⟩
theorem w_pre:∀f ∈ wD2.fs,∀rest,f.nm=preB 1++rest→isHex rest∧1≤rest.length∧rest.length≤15:=fun f hf rest he=>by
 have h1:f.nm ∈ wD2.fs.map (·.nm):=List.mem_map_of_mem hf
 rw [w_nms,List.mem_singleton] at h1
 rw [h1] at he
 have h2:hexL 1=rest:=List.append_cancel_left (show preB 1++hexL 1=preB 1++rest from he)
 subst h2
 exact ⟨hexL_hex (by omega),by decide,by decide⟩
theorem wfQ_same (x:Rq):∀y:Rq,y.st=x.st→WfQ y→WfQ x:=by
 induction x using Rq.ind with | h x ih=>?_
 intro y h hy
 refine .mk x (by rw [← st_f h]; exact hy.flat) (by rw [← st_len h]; exact hy.len) fun z hz=>?_
 have h1:z.st ∈ y.ops.map Rq.st:=by rw [st_ops h]; exact List.mem_map_of_mem hz
 obtain ⟨z',hz',e⟩:=List.mem_map.1 h1
 exact ih z hz z' e (hy.all z' hz')
theorem tk_wf {a b:List Tx} (h:a.map tk=b.map tk) (hb:∀t ∈ b,WfQ t.q):∀t ∈ a,WfQ t.q:=fun t ht=>by
 have h1:tk t ∈ b.map tk:=by rw [← h]; exact List.mem_map_of_mem ht
 obtain ⟨y,hy,e⟩:=List.mem_map.1 h1
 exact wfQ_same _ _ (congrArg Prod.snd e) (hb y hy)
section
variable (Z:PZ) {o w:World} {R As:List HProp}
theorem someC (n:Nat) (h:St o w R):CallV π Z 30 #[.int .u32 n] w fun r w'=>r=.agg (tS n).cells.toArray∧St o w' R:=by
 refine f30.calls ?_
 unfold f30.sh
 refine r_alloc h ze50 fun g w1 hS=>?_
 refine r_build (cells:=(zx 1 n).toArray) (by kernel_rfl) ?_
 refine r_build (cells:=sQ.cells.toArray) (by kernel_rfl) ?_
 refine r_build (cells:=(tS n).cells.toArray) (by kernel_rfl) ?_
 refine r_storeN hS ag50 (xs:=(tS n).cells) rfl (show 0+16≤16 from Nat.le_refl _) (txC_ones (sQ_rd w1).ones) fun w3 hS=>?_
 rw [setL_all _ _ (by rfl)] at hS
 refine r_resN ag50 (xs:=(tS n).cells) rfl (hS.cells_at m0 0 (whole_at _)) ?_
 exact ⟨rfl,hS.drop⟩
theorem works10 (hN:Names o) (hB:Bits o) (ho:old o ∈ R) (h:St o w R):CallV π Z 7 #[] w fun r w'=>r=.bool true∧St o w' R:=by
 refine f7.calls ?_
 unfold f7.sh
 refine (dkNew Z 1000 h).mono fun r w1 hr=>?_
 rcases hr with ⟨hbad,_⟩ | ⟨n,hn,_,g,rfl,hS⟩
 ·omega
 obtain rfl:n=1000:=by omega
 (try simp only [o_ext2_1,o_neq,bne_self_eq_false,o_pickF,guardW_ff,o_ext2_0,eqlp_29,condF])
 refine (someC Z 1 hS).mono fun r w2 ⟨hr,hS⟩=>?_
 subst hr
 have hq:=txC_ones (t:=tS 1) (sQ_rd w2).ones
 refine r_sliceN el22 hS 1 _ [(tS 1).cells] rfl (by omega) (by omega) (by omega) (by intro v hv; simp at hv; subst hv; rfl) rfl fun g1 w3 hS=>?_
 have hx:Ent o (own 50 16 (.slice (some ⟨g1,0,none⟩) 1 1) 1 [(tS 1).cells].flatten::R) fun w=>RdT w (.slice (some ⟨g1,0,none⟩) 1 1) [tS 1]:=fun w hw=>⟨hw.own_rd m0,fun t ht=>by simp at ht; subst ht; exact sQ_rd w⟩
 have hwf:WfT [tS 1]:=⟨by simp,fun t ht=>by simp at ht; subst ht; exact ⟨tS_h 1 (by omega),sQ_wf⟩⟩
 refine (lCreate Z (g:=g) (d:=Dk.new 1000) (ts:=[tS 1]) (a:=some ⟨g1,0,none⟩) (c:=1) 1 2 (by omega) (by omega) hwf (by simp) (fun f hf=>by cases hf) hN hB (List.mem_cons_of_mem _ ho) hx hS.swap).mono fun r w4 hr=>?_
 rcases hr with ⟨h1,_⟩ | ⟨_,h1,_⟩ | ⟨_,_,gl,us,hr,hus,hS⟩
 ·exact absurd w_crE h1
 ·exact absurd w_crt h1
 subst hr
 have hcr2:(crt 1 (2:Int).toNat ([tS 1].length+1) 0 0 [tS 1] (Dk.new 1000)).2.2=(1,1):=w_crt2
 rw [hcr2] at hS
 have hS:St o w4 (LgM gl g ⟨1,2,1,1,1,1,us⟩::DiskM g wD1::own 50 16 (.slice (some ⟨g1,0,none⟩) 1 1) 1 [(tS 1).cells].flatten::R):=hS
 have hul:us.length=1:=by have:=congrArg List.length hus; simpa using this
 (try simp only [o_ext2_1,o_neq,bne_self_eq_false,o_pickF,guardW_ff,o_ext2_0,eqlp_33,condF])
 refine (someC Z 2 hS).mono fun r w5 ⟨hr,hS⟩=>?_
 subst hr
 refine (lAppend Z (l:=⟨1,2,1,1,1,1,us⟩) (d:=wD1) (tS 2) (Nat.le_refl _) (show 1≤_ by omega) ⟨Int.le_refl _,show (1:Int)≤_ by omega⟩ (show (us.length+1) * 168≤_ by omega) (show 1≤_ by omega) sQ_wf hN hB (List.mem_cons_of_mem _ ho) (fun w _=>sQ_rd w) hS).mono fun r w6 hr=>?_
 rcases hr with ⟨h1,_⟩ | ⟨_,hr,hh⟩
 ·exact absurd w_fit.2.1.2 h1
 have hS:St o w6 (DiskM g wD2::R):=by
  rcases hh with ⟨h1,_⟩ | ⟨_,vs,hvs,hS⟩
  ·exact absurd w_put h1
  ·exact hS.drop.swap.drop
 subst hr
 have e0:(wD1.put (appN ⟨1,2,1,1,1,1,us⟩) (frT [tS 2])).1=0:=w_put
 rw [e0]
 refine r_build (cells:=(zx 0 0).toArray) (by kernel_rfl) ?_
 refine (lOpen Z (g:=g) (d:=wD2) 1 2 0 0 1 (by omega) (by omega) (by omega) (by
  show sortI (segNos 1 wD2.fs)=_
  rw [w_seg]; simp [sortI]) (fun i hi=>by rw [show i=0 by omega]; exact w_at) w_pre hN hB ho hS).mono fun r w7 hr=>?_
 rcases hr with ⟨h1,_⟩ | ⟨_,res,hR,hr⟩
 ·exact absurd (show opE wD2 1 2 1=0 by unfold opE; rw [if_neg (by omega),w_on]; rfl) h1
 obtain ⟨vs,hvs,hres⟩:=opR_good 1 [] frst_nil [] [tS 1,tS 2] 0 wD2 ⟨1,2,0,0,0,0,[]⟩ res w_fit (fun c hc=>by cases hc) (fun j hj=>by simp at hj) (by rw [List.append_nil]; exact w_bytes) hR
 have hres:res=(some ⟨1,2,1,2,1,2,vs⟩,0,wD2):=hres
 rcases hr with ⟨x,d',e1,hx0,_⟩ | ⟨l,d',gl2,e1,rfl,hS⟩
 ·rw [hres] at e1; cases e1
 rw [hres] at e1
 obtain ⟨rfl,rfl⟩:(⟨1,2,1,2,1,2,vs⟩:Lg)=l∧wD2=d':=by
  injection e1 with e1 e2
  injection e1 with e1
  injection e2 with _ e2
  exact ⟨e1,e2⟩
 (try simp only [o_neq,bne_self_eq_false,o_pickF,guardW_ff,o_ext2_1,o_ext2_0,eqlp_33,condF])
 have hvs:vs.map tk=[tS 1,tS 2].map tk:=hvs
 have hvl:vs.length=2:=by have:=congrArg List.length hvs; simpa using this
 refine (lAll Z (l:=⟨1,2,1,2,1,2,vs⟩) (tk_wf hvs fun t ht=>by simp at ht; rcases ht with rfl | rfl <;> exact sQ_wf) (show vs.length * 168≤_ by omega) hS).mono fun r w8 ⟨xs,hxs,hS⟩=>?_
 have hxs:xs.map tk=[tS 1,tS 2].map tk:=hxs.trans hvs
 have hxl:xs.length=2:=by have:=congrArg List.length hxs; simpa using this
 refine (lNames Z (l:=⟨1,2,1,2,1,2,vs⟩) (show 1≤_ by omega) (hS.pick 2)).mono fun r2 w9 hS=>?_
 obtain ⟨va,vc,rfl⟩:=(hS.own_rd m2).form
 rw [hxl] at hS
 obtain ⟨vb,vd,rfl⟩:=(hS.own_rd m0).form
 have hn2:(xs[1]'(by omega)).n=2:=by
  match xs,hxl,hxs with
  | [x,y],_,h=>
   simp only [List.map_cons,List.cons.injEq] at h
   exact (tk_zx h.2.1).2
 have hS2:St o w9 (own 50 16 (.slice va 2 vc) 2 (xs.map Tx.cells).flatten::OwT xs::own 9 1 (.slice vb 1 vd) 1 (segR 1 1)::R):=by (refine Sh.St.sub ?_ (hS); repeat (first | with_reducible (first | exact sub_refl | exact sub_nil | refine sP0 ?_ | refine sP1 ?_ | refine sP2 ?_ | refine sP3 ?_ | refine sP4 ?_ | refine sP5 ?_ | refine sP6 ?_ | refine sP7 ?_ | refine sP8 ?_ | refine sP9 ?_ | refine sP10 ?_ | refine sP11 ?_ | refine sP12 ?_ | refine sP13 ?_ | refine sP14 ?_ | refine sP15 ?_) | exact sub_refl | refine sP0 ?_ | refine sP1 ?_ | refine sP2 ?_ | refine sP3 ?_ | refine sP4 ?_ | refine sP5 ?_ | refine sP6 ?_ | refine sP7 ?_ | refine sP8 ?_ | refine sP9 ?_ | refine sP10 ?_ | refine sP11 ?_ | refine sP12 ?_ | refine sP13 ?_ | refine sP14 ?_ | refine sP15 ?_ | refine sub_drop ?_))
 have hrd:RdT w9 (.slice va xs.length vc) xs:=by
  have hS3:=hS2
  rw [← hxl] at hS3
  exact OwT.rd hS3
 obtain ⟨b,p,cs,hp,_,hcv,hcl⟩:=(rowR_rd (c:=Tx.cells) (fun x=>rfl) hrd.1 rfl).ix el22 .i64 1 (by omega)
 subst hcv
 have e2:((xs.length:Int) == 2)=true:=by rw [hxl]; rfl
 (try simp only [ln_22_3,o_eql,e2,o_pickT,guardW_true])
 refine r1 (hp _) ?_
 (try simp only [fa_50_0,Nat.add_zero,fa_39_1])
 refine r_load one37 (hcl 1 _ rfl) ?_
 rw [hn2]
 (try simp only [o_eql,beq_self_eq_true,o_pickT,guardW_true,ln_66_3])
 have e11:(((1:Nat):Int) == 1)=true:=rfl
 (try simp only [e11,o_pickT,guardW_true])
 obtain ⟨p2,hp2,hpc2,_⟩:=(hS2.own_rd m2).index el66 .i64 0 (by omega)
 refine r1 (hp2 _) (r_load one9 (hpc2.trans rfl) ?_)
 have hnm:nameB 1 1=[108,111,103,46,49,46,49]:=by decide +kernel
 have e3:(eqOp .eql 9 false true (.string (str (nameB 1 1))) (.string (str [108,111,103,46,49,46,49]))).run π w9=.ok (.bool true) w9:=by
  rw [run_eql_strS,decide_eq_true hnm]
 refine rk (v:=.bool true) e3 ?_
 (try simp only [])
 exact ⟨by first | rfl | trivial,hS2.drop.drop.drop⟩
end
end Go.Proofs.YtbdfhfceffkhgaaGreatDoor


/- Lists of transactions compared, do they rise (as in T35, for seats without marks). -/
set_option linter.unusedVariables false
set_option linter.unusedSimpArgs false
namespace Go.Proofs.YtbdfhfceffkhgaaGreatDoor
open Go.Sh
open Tryz renaming prog → π
def txK (t:Tx):Hd × Qt:=(t.hd,t.q.st)
section
variable (Z:PZ) {o w:World} {R As:List HProp}
theorem eqTs {v v2:Value} {l k:List Tx} (hx:Ent o R fun w=>RdT w v l) (hy:Ent o R fun w=>RdT w v2 k) (h:St o w R) :
  CallV π Z 16 #[v,v2] w fun r w'=>(∃b,r=.bool b∧(b=true ↔ l.map txK=k.map txK))∧St o w' R:=by
 obtain ⟨a,c,rfl⟩:=(hx w h).1.form
 obtain ⟨b,d,rfl⟩:=(hy w h).1.form
 have hlx:=(hx w h).1.2.1
 simp only [maxLen] at hlx
 refine f16.calls ?_
 unfold f16.sh
 (try simp only [ln_22_3,o_neq,cond_bne])
 refine ⟨fun hne=>⟨⟨_,rfl,⟨fun h=>(by cases h),fun e=>absurd (by have:=congrArg List.length e; simp at this; omega) hne⟩⟩,h⟩,fun he=>?_⟩
 have he':l.length=k.length:=by omega
 refine ⟨fun m y w'=>∃i:Nat,y=.int .i64 i∧m+i=l.length∧(l.map txK).take i=(k.map txK).take i∧St o w' R,⟨l.length,0,rfl,rfl,rfl,h⟩,?_⟩
 clear h
 rintro m _ w1 ⟨i,rfl,hi,ht,hS⟩ _
 by_cases hlt:(i:Int) < (l.length:Int)
 ·have hi1:i < l.length:=by omega
  have hi2:i < k.length:=by omega
  (try simp only [o_add,o_lss,hlt,decide_true,condT])
  refine ⟨fun w2 hd=>?_⟩
  have hS:=hS.drew hd
  obtain ⟨b1,p,cs,hp,_,hcv,hpc⟩:=(rowR_rd (c:=Tx.cells) (fun x=>rfl) (hx w2 hS).1 rfl).ix el22 .i64 i hi1
  subst hcv
  obtain ⟨b2,q,cs,hq,_,hcv,hqc⟩:=(rowR_rd (c:=Tx.cells) (fun x=>rfl) (hy w2 hS).1 rfl).ix el22 .i64 i hi2
  subst hcv
  refine rp hp (rr_loadN ag50 (xs:=l[i].cells) rfl (fun j u hu=>by rw [add_addr]; exact hpc j u hu) (rp hq (rr_loadN ag50 (xs:=k[i].cells) rfl (fun j u hu=>by rw [add_addr]; exact hqc j u hu) ?_)))
  refine (eqT Z l[i] k[i] (fun w hw=>(hx w hw).2 _ (List.getElem_mem hi1)) (fun w hw=>(hy w hw).2 _ (List.getElem_mem hi2)) hS).mono fun r w3 ⟨⟨bb,hr,hb⟩,hS⟩=>?_
  subst hr
  cases bb with
  | false=>
   (try simp only [o_notp,Bool.not_false,condT])
   refine ⟨⟨_,rfl,⟨fun h=>(by cases h),fun e=>?_⟩⟩,hS⟩
   have h1:=congrArg (fun l=>l[i]?) e
   simp only [List.getElem?_map,List.getElem?_eq_getElem hi1,List.getElem?_eq_getElem hi2,Option.map_some,Option.some.injEq] at h1
   exact hb.2 ⟨congrArg Prod.fst h1,congrArg Prod.snd h1⟩
  | true=>
   (try simp only [o_notp,Bool.not_true,condF])
   rw [wr_i64 (x:=(i:Int)+1) (by omega) (by omega)]
   refine ⟨m - 1,by omega,i+1,rfl,by omega,take_more (by simpa using hi1) (by simpa using hi2) ht ?_,hS⟩
   obtain ⟨h1,h2⟩:=hb.1 rfl
   simp only [List.getElem_map]
   unfold txK
   rw [h1,h2]
 ·obtain rfl:i=l.length:=by omega
  have t1:=List.take_length (l:=l.map txK)
  have t2:=List.take_length (l:=k.map txK)
  rw [List.length_map] at t1 t2
  rw [t1,he',t2] at ht
  (try simp only [o_add,o_lss,hlt,decide_false,condF])
  exact ⟨⟨_,rfl,⟨fun _=>ht,fun _=>rfl⟩⟩,hS⟩
theorem cmpZ_ne {e n e' n':Int} (hn:u32r n) (hn':u32r n'):(cmpZ e n e' n' != -1)=!decide (ls e n e' n'):=by
 rw [← ls_cmp hn hn']
 have h:=(cmpZ_pack (e:=e) (e':=e') hn hn').2.2.2
 by_cases h1:cmpZ e n e' n' < 0
 ·have:cmpZ e n e' n' = -1:=by omega
  rw [this]; rfl
 ·rw [decide_eq_false h1]
  simp only [Bool.not_false,bne_iff_ne]
  omega
theorem refRises {v:Value} {ts:List Tx} {e n:Int} (hn:u32r n) (hns:∀t ∈ ts,u32r t.n) (hx:Ent o R fun w=>RdT w v ts) (h:St o w R):CallV π Z 33 #[.agg (zx e n).toArray,v] w fun r w'=>r=.bool (rises e n (zxs ts))∧St o w' R:=by
 obtain ⟨a,c,rfl⟩:=(hx w h).1.form
 have hle:=(hx w h).1.2.1
 simp only [maxLen] at hle
 refine f33.calls ?_
 unfold f33.sh
 refine r_box _ _ h fun g w1 hS=>?_
 have hS:St o w1 (blk g 39 (zx e n)::R):=hS
 (try simp only [ln_22_3])
 refine ⟨fun m y w'=>∃(i:Nat),y=.int .i64 i∧m+i=ts.length∧(∀(h0:0 < i) (hi:i - 1 < ts.length),rises e n (zxs ts)=rises ts[i - 1].e ts[i - 1].n (zxs (ts.drop i)))∧St o w' (blk g 39 (zx e n)::R),⟨ts.length,0,rfl,rfl,fun h0=>by omega,hS⟩,?_⟩
 clear hS
 rintro m _ w2 ⟨i,rfl,hi,hri,hS⟩ _
 by_cases hlt:(i:Int) < (ts.length:Int)
 ·have hil:i < ts.length:=by omega
  have hmem:ts[i] ∈ ts:=List.getElem_mem hil
  (try simp only [o_add,o_sub,o_gtr,cond_decide,o_lss,hlt,decide_true,condT])
  intro j6 hj6
  refine r_loadN ag39 (xs:=zx e n) rfl (hS.cells_at m0 0 (whole_at _)) ?_
  refine r_alloc hS ze39 fun gz w3 hS=>?_
  refine r_storeN hS ag39 (xs:=zx e n) rfl (show 0+2≤2 from Nat.le_refl _) (zx_ones _ _) fun w4 hS=>?_
  rw [setL_all _ _ (by rfl)] at hS
  intro j10 hj10
  have H:∀(w':World) (pe pn:Int),u32r pn→rises e n (zxs ts)=(decide (ls pe pn ts[i].e ts[i].n) && rises ts[i].e ts[i].n (zxs (ts.drop (i+1))))→St o w' (blk gz 39 (zx pe pn)::blk g 39 (zx e n)::R)→j10 w':=by
   intro w' pe pn hpn hr hS
   refine hj10 w' fun _=>?_
   clear hj10
   refine ⟨fun w5 hd=>?_⟩
   have hS:=hS.drew hd
   obtain ⟨b,p,cs,hp,_,hcv,hc⟩:=(rowR_rd (c:=Tx.cells) (fun x=>rfl) (hx w5 hS.drop.drop).1 rfl).ix el22 .i64 i hil
   subst hcv
   refine rr_loadN ag39 (xs:=zx pe pn) rfl (hS.cells_at m0 0 (whole_at _)) ?_
   refine rp hp ?_
   (try simp only [fa_50_0p,Nat.add_zero])
   refine rr_loadN ag39 (xs:=zx ts[i].e ts[i].n) rfl (fun j u hu=>by rw [add_addr]; exact hc j u (by have:=zx_at ts[i] j u hu; rwa [Nat.zero_add] at this)) ?_
   refine (refCompare Z hS).mono fun r w6 ⟨hr2,hS⟩=>?_
   subst hr2
   refine rp (fun w=>run_neq_int _ w _ _ _ _ _ _) ?_
   rw [cmpZ_ne hpn (hns _ hmem)]
   refine cond_or (fun hb=>?_) fun hb=>?_
   ·have hb:decide (ls pe pn ts[i].e ts[i].n)=false:=by rw [Bool.not_eq_eq_eq_not] at hb; exact hb
    exact ⟨by rw [hr,hb]; rfl,hS.drop.drop⟩
   ·have hb:decide (ls pe pn ts[i].e ts[i].n)=true:=by rw [Bool.not_eq_eq_eq_not] at hb; exact hb
    refine hj6 _ fun _=>?_
    rw [wr_i64 (x:=(i:Int)+1) (by omega) (by omega)]
    refine ⟨m - 1,by omega,i+1,rfl,by omega,fun _ h2=>?_,hS.drop⟩
    rw [hr,hb,Bool.true_and]
    rfl
  clear hj10
  have hdrop:zxs (ts.drop i)=(ts[i].e,ts[i].n)::zxs (ts.drop (i+1)):=by rw [List.drop_eq_getElem_cons hil]; rfl
  skip
  refine ⟨fun h0=>?_,fun h0=>?_⟩
  ·have h0':0 < i:=by omega
   have hk:i - 1 < ts.length:=by omega
   have hm1:ts[i - 1] ∈ ts:=List.getElem_mem hk
   rw [wr_i64 (x:=(i:Int) - 1) (by omega) (by omega),show (i:Int) - 1=((i - 1:Nat):Int) by omega]
   obtain ⟨b,p,cs,hp,_,hcv,hc⟩:=(rowR_rd (c:=Tx.cells) (fun x=>rfl) (hx w4 hS.drop.drop).1 rfl).ix el22 .i64 (i - 1) hk
   subst hcv
   refine r1 (hp _) ?_
   (try simp only [fa_50_0,Nat.add_zero])
   refine r_loadN ag39 (xs:=zx ts[i - 1].e ts[i - 1].n) rfl (fun j u hu=>by rw [add_addr]; exact hc j u (by have:=zx_at ts[i - 1] j u hu; rwa [Nat.zero_add] at this)) ?_
   refine r_storeN hS ag39 (xs:=zx ts[i - 1].e ts[i - 1].n) rfl (show 0+2≤2 from Nat.le_refl _) (zx_ones _ _) fun w5 hS=>?_
   rw [setL_all _ _ (by rfl)] at hS
   exact H _ _ _ (hns _ hm1) (by rw [hri h0' hk,hdrop]; rfl) hS
  ·have h0':i=0:=by omega
   refine H _ _ _ hn ?_ hS
   have e:zxs ts=zxs (ts.drop i):=by rw [h0']; rfl
   rw [e,hdrop]; rfl
 ·obtain rfl:i=ts.length:=by omega
  (try simp only [o_add,o_sub,o_gtr,cond_decide,o_lss,hlt,decide_false,condF])
  refine ⟨?_,hS.drop⟩
  by_cases h0:ts.length=0
  ·have:ts=[]:=List.eq_nil_of_length_eq_zero h0
   rw [this]; rfl
  ·rw [hri (by omega) (by omega),List.drop_length]; rfl
end

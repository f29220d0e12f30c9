
/- One transaction more, plainly. -/
import Derived.Test.YtbdfhfceffkhgaaGreatDoorL26
import Derived.Test.YtbdfhfceffkhgaaGreatDoorL24
set_option linter.unusedVariables false
set_option linter.unusedSimpArgs false
namespace Go.Proofs.YtbdfhfceffkhgaaGreatDoor
open Go.Sh
open Tryz renaming prog → π
theorem put_code {a:Nat} {init:List (List Tx)} {last:List Tx} {t:Tx} {s:Nat} {d:Dk} (n:Bs) (ha2:a < 9223372036854775808) (hk:d.ok) (hl:d.live) (hd:HD d a (sgL init++[(frT last,s)])) (hn:init.length≤100)
  (hc:∀x ∈ init.flatten++last++[t],chkT x=true) (hr:(init.flatten++last++[t]).length * 4105≤d.room):(d.put n (frT [t])).1=0∨(d.put n (frT [t])).1=22:=by
 have htot:=hd.tot hk (by omega) (by simp [sgL]; omega)
 have hsum:sumL (sgL init++[(frT last,s)])+(frT [t]).length≤d.room:=by
  have h1:=sgL_sum (cs:=init) fun x hx=>hc x (List.mem_append_left _ (List.mem_append_left _ hx))
  have h2:=frT_len (ts:=[t]) fun x hx=>hc x (List.mem_append_right _ hx)
  have h3:=frT_len (ts:=last) fun x hx=>hc x (List.mem_append_left _ (List.mem_append_right _ hx))
  have e:sumL [(frT last,s)]=(frT last).length:=by simp [sumL]
  rw [sumL_app,e]
  simp only [List.length_append,List.length_cons,List.length_nil] at hr h2
  omega
 rcases put_cases hk hl.on n (frT [t]) with ⟨h1,_⟩ | ⟨_,ha,_⟩ | ⟨_,ha,_⟩ | ⟨h1,_⟩ | ⟨_,_,h3⟩
 ·exact .inl h1
 ·rw [hl.arm] at ha; cases ha
 ·rw [hl.arm] at ha; cases ha
 ·exact .inr h1
 ·omega
def lgS (size:Nat) (init:List (List Tx)) (last us:List Tx):Lg:=⟨3,size,init.length+1,last.length,(lastZ 0 0 (init.flatten++last)).1,(lastZ 0 0 (init.flatten++last)).2,us⟩
theorem lgS_took {size:Nat} {init:List (List Tx)} {last us vs:List Tx} {t t':Tx} (htt:tk t'=tk t):(lgS size init last us).took (decide ((size:Int)≤(last.length:Int))) [t'] vs=lgS size (nxI size init last) (nxL size last t) (us++vs):=by
 have h1:=tk_zx htt
 have hz:lastZ 0 0 ((nxI size init last).flatten++nxL size last t)=(t.e,t.n):=by
  rw [nx_flat]
  exact lastZ_snoc _ _ _ _
 unfold lgS Lg.took
 rw [hz]
 simp only [lastZ,h1.1,h1.2]
 unfold nxI nxL
 by_cases hf:size≤last.length
 ·have hf2:(size:Int)≤(last.length:Int):=by omega
  simp [hf,hf2]
 ·have hf2:¬ (size:Int)≤(last.length:Int):=by omega
  simp [hf,hf2]
theorem Fit.at {ts:List Tx} (h:Fit 0 0 ts) (i:Nat) (hi:i < ts.length):lchk ts[i] (lastZ 0 0 (ts.take i)).1 (lastZ 0 0 (ts.take i)).2=0:=by
 have e:ts=ts.take i++(ts[i]::ts.drop (i+1)):=by simp
 rw [e,Fit.app] at h
 exact h.2.1.2
theorem rises_pre:∀{a b:List (Int × Int)} {e n:Int},rises e n (a++b)=true→rises e n a=true
 | [],_,_,_,_=>rfl
 | z::a,b,e,n,h=>by
  simp only [List.cons_append,rises,Bool.and_eq_true] at h ⊢
  exact ⟨h.1,rises_pre h.2⟩
theorem zxs_app (a b:List Tx):zxs (a++b)=zxs a++zxs b:=by simp [zxs]
theorem HD.uniq {d d':Dk} {a:Nat} {L:List (Bs × Nat)} (h:HD d a L) (h':HD d' a L) (hk:d.ok) (hk':d'.ok):d.fs=d'.fs:=srt_ext hk.srt hk'.srt fun f=>(h f).trans (h' f).symm
end Go.Proofs.YtbdfhfceffkhgaaGreatDoor


/- One transaction more in a log. -/
set_option linter.unusedVariables false
set_option linter.unusedSimpArgs false
namespace Go.Proofs.YtbdfhfceffkhgaaGreatDoor
open Go.Sh
open Tryz renaming prog → π
section
variable (Z:PZ) {o w:World} {R As:List HProp} {gl gd:Nat} {d:Dk}
def StepP (gl gd size:Nat) (init:List (List Tx)) (last us:List Tx) (t:Tx) (d:Dk) (o:World) (R:List HProp) (r:Value) (w':World):Prop:=
 (∃us' d',r=.int .i64 0∧us'.map tk=(init.flatten++last++[t]).map tk∧HD d' 3 (sgL (nxI size init last++[nxL size last t]))∧d'.on=true∧d'.armed=d.armed∧d'.room=d.room∧d'.ok∧(nxI size init last).length+1≤64∧St o w' (LgM gl gd (lgS size (nxI size init last) (nxL size last t) us')::DiskM gd d'::R)) ∨
 (r=.int .i64 22∧init.length+1=64∧St o w' (LgM gl gd (lgS size init last us)::DiskM gd d::R)) ∨
 (∃d',r=.int .i64 23∧d.armed=true∧d'.on=false∧d'.armed=false∧d'.room=d.room∧d'.ok∧Torn 3 size init last t d'∧St o w' (LgM gl gd (lgS size init last us)::DiskM gd d'::R))
theorem lStep {size:Nat} {init:List (List Tx)} {last us:List Tx} {t t':Tx} (htt:tk t'=tk t) (h1:1≤size) (hus:us.map tk=(init.flatten++last).map tk) (hon:d.on=true) (hd:HD d 3 (sgL (init++[last]))) (hn:init.length+1≤64) (hfl:last.length≤1000)
  (hF:Fit 0 0 (init.flatten++last++[t])) (hlen:(init.flatten++last++[t]).length≤400) (hr:d.room=16777216) (hwf:WfQ t'.q) (hN:Names o) (hB:Bits o) (ho:old o ∈ R) (hx:Ent o R fun w=>RdQ w t'.q) (h:St o w (LgM gl gd (lgS size init last us)::DiskM gd d::R)) :
  CallV π Z 13 #[.pointer (some ⟨gl,0,none⟩),.agg t'.cells.toArray] w (StepP gl gd size init last us t d o R):=by
 have hk:d.ok:=by obtain ⟨_,_,hk,_⟩:=DiskM.open h.swap; exact hk
 have hul:us.length=(init.flatten++last).length:=by have:=congrArg List.length hus; rwa [List.length_map,List.length_map] at this
 have hlen2:us.length+1≤400:=by rw [hul]; rw [List.length_append (bs:=[t])] at hlen; exact hlen
 have hchk:lchk t' (lgS size init last us).e (lgS size init last us).n=0:=by
  rw [lchk_tk htt]
  rw [Fit.app] at hF
  exact hF.2.1.2
 refine (lAppend Z (l:=lgS size init last us) (d:=d) t' (show 1≤init.length+1 by omega) (show init.length+1≤_ by omega) ⟨show (1:Int)≤3 by omega,show (3:Int)≤_ by omega⟩ (show (us.length+1) * 168≤_ by omega) (show last.length≤_ by omega) hwf hN hB ho hx h).mono fun r w' hr'=>?_
 rcases hr' with ⟨hb,_⟩ | ⟨_,rfl,hh⟩
 ·exact absurd hchk hb
 have hfr:frT [t']=frT [t]:=frT_tk (by simp [htt])
 rw [hfr] at hh ⊢
 have hstep:=put_step (a:=3) (size:=size) (init:=init) (last:=last) (t:=t) (d:=d) (l:=lgS size init last us) (by omega) (by omega) hk hon hd hn rfl rfl rfl rfl (fun x hx=>(hF.mem x hx).2) (by rw [hr]; omega)
 have hk2:=put_ok hk (appN (lgS size init last us)) (frT [t])
 rcases hstep with ⟨s1,s2,s3,s4,s5,s6⟩ | ⟨s1,s2,s3⟩ | ⟨s1,s2,s3,s4,s5,s6⟩
 ·rcases hh with ⟨hb,_⟩ | ⟨_,vs,hvs,hS⟩
  ·exact absurd s1 hb
  ·have e:=lgS_took (size:=size) (init:=init) (last:=last) (us:=us) (vs:=vs) htt
   rw [show (decide ((lgS size init last us).size≤((lgS size init last us).fil:Int)))=decide ((size:Int)≤(last.length:Int)) from rfl,e] at hS
   rw [s1]
   refine .inl ⟨us++vs,_,rfl,?_,s2,s3,s4,s5,hk2,s6,hS⟩
   rw [List.map_append,List.map_append,hus,hvs]
   simp [htt]
 ·rcases hh with ⟨_,hS⟩ | ⟨hb,_⟩
  ·rw [s1]
   rw [s2] at hS
   exact .inr (.inl ⟨rfl,s3,hS⟩)
  ·rw [s1] at hb; cases hb
 ·rcases hh with ⟨_,hS⟩ | ⟨hb,_⟩
  ·rw [s1]
   exact .inr (.inr ⟨_,rfl,s2,s3,s4,s5,hk2,s6,hS⟩)
  ·rw [s1] at hb; cases hb
end
end Go.Proofs.YtbdfhfceffkhgaaGreatDoor


/- A log created on a new disk. -/
set_option linter.unusedVariables false
set_option linter.unusedSimpArgs false
namespace Go.Proofs.YtbdfhfceffkhgaaGreatDoor
open Go.Sh
open Tryz renaming prog → π
section
variable (Z:PZ) {o w:World} {R As:List HProp} {g:Nat}
theorem lCreate0 {a:Option Addr} {c sz:Nat} {ts ts':List Tx} (htk:ts'.map tk=ts.map tk) (h1:1≤sz) (h2:sz≤64) (hw':WfT ts') (hw:WfT ts) (hcap:ts'.length≤c) (hck:∀t ∈ ts,chkT t=true) (hri:rises 0 0 (zxs ts)=true) (hn:ts.length≤300) (hn2:ts.length≤60 * sz)
  (hN:Names o) (hB:Bits o) (ho:old o ∈ R) (hx:Ent o R fun w=>RdT w (.slice a ts'.length c) ts') (h:St o w (DiskM g (Dk.new 16777216)::R)) :
  CallV π Z 12 #[.pointer (some ⟨g,0,none⟩),.int .i64 3,.int .i64 sz,.slice a ts'.length c] w fun r w'=>∃gl us d init last,r=.tuple #[.pointer (some ⟨gl,0,none⟩),.int .i64 0]∧us.map tk=ts.map tk∧Seg sz init last∧init.flatten++last=ts∧init.length+1≤60 ∧
   HD d 3 (sgL (init++[last]))∧d.ok∧d.live∧d.room=16777216∧St o w' (LgM gl g (lgS sz init last us)::DiskM g d::R):=by
 obtain ⟨hF,hE,hM⟩:=created (size:=sz) (ts:=ts) (d:=Dk.new 16777216) h1 h2 hw hck hri hn hn2 (Dk.new_ok (Nat.le_refl _)) rfl rfl rfl
 have hlen:ts'.length=ts.length:=by have:=congrArg List.length htk; rwa [List.length_map,List.length_map] at this
 have hE':crE (Dk.new 16777216) 3 sz ts'=0:=(crE_tk htk _ 3 sz).trans hE
 have hC':crt 3 sz (ts'.length+1) 0 0 ts' (Dk.new 16777216)=crt 3 sz (ts.length+1) 0 0 ts (Dk.new 16777216):=by rw [hlen]; exact crt_tk _ _ _ _ _ _ htk
 refine (lCreate Z (g:=g) (d:=Dk.new 16777216) (ts:=ts') 3 sz (by omega) (by omega) hw' hcap (fun f hf=>by cases hf) hN hB ho hx h).mono fun r w' hr=>?_
 unfold MadeR at hM
 rcases hM with ⟨h0,m1,m2,m3,⟨init,last,m4,m5,m6,m7,m8,m9⟩,_⟩ | ⟨_,m1,_⟩
 ·rcases hr with ⟨hb,_⟩ | ⟨_,hb,_⟩ | ⟨_,_,gl,us,rfl,hus,hS⟩
  ·exact absurd hE' hb
  ·rw [Int.toNat_natCast,hC'] at hb
   exact absurd h0 hb
  ·rw [Int.toNat_natCast,hC',lastZ_tk 0 0 htk] at hS
   generalize crt 3 sz (ts.length+1) 0 0 ts (Dk.new 16777216)=cr at *
   obtain ⟨x0,d,k,fil⟩:=cr
   simp only at m1 m2 m3 m7 m8 m9 hS
   have hk:d.ok:=by obtain ⟨_,_,hk,_⟩:=DiskM.open hS.swap; exact hk
   subst m8 m9
   have e:(⟨3,sz,init.length+1,last.length,(lastZ 0 0 ts).1,(lastZ 0 0 ts).2,us⟩:Lg)=lgS sz init last us:=by unfold lgS; rw [m5]
   rw [e] at hS
   exact ⟨gl,us,d,init,last,rfl,hus.trans htk,m4,m5,m6,m7,hk,⟨m1,m2⟩,m3,hS⟩
 ·cases m1
end

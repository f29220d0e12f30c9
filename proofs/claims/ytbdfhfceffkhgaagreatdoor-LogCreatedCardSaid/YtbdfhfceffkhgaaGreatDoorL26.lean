
/- A disk that holds the segments of one log alone, plainly. -/
import Derived.Test.YtbdfhfceffkhgaaGreatDoorL24
import Derived.Test.YtbdfhfceffkhgaaGreatDoorL10
import Derived.Test.YtbdfhfceffkhgaaGreatDoorL16
import Derived.Test.YtbdfhfceffkhgaaGreatDoorD13
set_option linter.unusedVariables false
set_option linter.unusedSimpArgs false
namespace Go.Proofs.YtbdfhfceffkhgaaGreatDoor
open Go.Sh
open Tryz renaming prog → π
def HD (d:Dk) (a:Nat) (L:List (Bs × Nat)):Prop:=∀f,f ∈ d.fs ↔ ∃i,∃hi:i < L.length,f=⟨nameB a (i+1),L[i].1,L[i].2⟩
section
variable {d:Dk} {a:Nat} {L:List (Bs × Nat)}
theorem nm_inj {i k:Nat} (ha:a < 18446744073709551616) (hi:i < 1000000) (hk:k < 1000000) (h:nameB a (i+1)=nameB a (k+1)):i=k:=by
 have:=(nameB_inj ha ha (by omega) (by omega) h).2
 omega
theorem HD.has (h:HD d a L) {i:Nat} (hi:i < L.length):has d.fs (nameB a (i+1)) L[i].1 L[i].2:=(h _).2 ⟨i,hi,rfl⟩
theorem HD.isAt (h:HD d a L) (hk:d.ok) {i:Nat} (hi:i < L.length):isAt d.fs (nameB a (i+1))=true:=isAt_has hk.srt (h.has hi)
theorem HD.notAt (h:HD d a L) (hk:d.ok) (ha:a < 18446744073709551616) (hL:L.length≤1000) {i:Nat} (hi:L.length≤i) (hi2:i < 1000000):Go.Proofs.YtbdfhfceffkhgaaGreatDoor.isAt d.fs (nameB a (i+1))=false:=by
 cases hc:Go.Proofs.YtbdfhfceffkhgaaGreatDoor.isAt d.fs (nameB a (i+1)) with
 | false=>rfl
 | true=>
  obtain ⟨f,hf,hn⟩:=(isAt_iff hk.srt _).1 hc
  obtain ⟨j,hj,rfl⟩:=(h f).1 hf
  have:=nm_inj ha (by omega) hi2 hn
  omega
theorem HD.bytes (h:HD d a L) (hk:d.ok) {i:Nat} (hi:i < L.length):d.bytes (nameB a (i+1))=L[i].1:=by
 obtain ⟨h1,h2⟩:=has_at hk.srt (h.has hi)
 unfold Dk.bytes
 rw [List.getElem?_eq_getElem h1,h2]
 rfl
theorem HD.nil (h:d.fs=[]):HD d a []:=fun f=>by rw [h]; simp
theorem HD.off (h:HD d a L):HD d.off a L:=h
theorem append_ok_eq {n p:Bs} (h:(d.append n p).1=0):(d.append n p).2.fs=appF d.fs n p∧(d.append n p).2.on=d.on∧(d.append n p).2.room=d.room∧d.asked [n]=0:=by
 unfold Dk.append at *
 split at h
 ·rename_i h1; exact absurd h h1
 rename_i h0
 split at h
 ·cases h
 rename_i h1
 split at h
 ·cases h
 rename_i h2
 split at h
 ·cases h
 rename_i h3
 rw [if_neg h0,if_neg h1,if_neg h2,if_neg h3]
 exact ⟨rfl,rfl,rfl,by simpa using h0⟩
theorem HD.app_new (h:HD d a L) (hk:d.ok) (ha:a < 18446744073709551616) (hL:L.length≤1000) {p:Bs} {d':Dk} (hd:d'.fs=appF d.fs (nameB a (L.length+1)) p):HD d' a (L++[(p,0)]):=fun f=>by
 have hno:=(isAt_false hk.srt).1 (h.notAt hk ha hL (Nat.le_refl _) (by omega))
 rw [hd,appF_has hk.srt]
 constructor
 ·rintro (⟨hf,hn⟩ | ⟨b,s,hb,rfl⟩ | ⟨_,rfl⟩)
  ·obtain ⟨j,hj,rfl⟩:=(h f).1 hf
   exact ⟨j,by rw [List.length_append]; omega,by rw [List.getElem_append_left hj]⟩
  ·exact absurd rfl (hno _ hb)
  ·exact ⟨L.length,by simp,by simp⟩
 ·rintro ⟨j,hj,rfl⟩
  rw [List.length_append] at hj
  by_cases hjl:j < L.length
  ·rw [List.getElem_append_left hjl]
   exact .inl ⟨h.has hjl,hno _ (h.has hjl)⟩
  ·have e:j=L.length:=by simp at hj; omega
   subst e
   exact .inr (.inr ⟨hno,by simp⟩)
theorem HD.sync (h:HD d a L) (hk:d.ok) (ha:a < 18446744073709551616) (hL:L.length≤1000) {i:Nat} (hi:i < L.length) {d':Dk} (hd:d'.fs=d.fs.modify (ix d.fs (nameB a (i+1))) (fun f=>{ f with sy:=f.by_.length })):HD d' a (L.set i (L[i].1,L[i].1.length)):=fun f=>by
 obtain ⟨h1,h2⟩:=has_at hk.srt (h.has hi)
 rw [hd,modify_set h1,mem_set hk.srt h1,h2]
 constructor
 ·rintro (rfl | ⟨hf,hn⟩)
  ·exact ⟨i,by rw [List.length_set]; exact hi,by rw [List.getElem_set_self]⟩
  ·obtain ⟨j,hj,rfl⟩:=(h f).1 hf
   refine ⟨j,by rw [List.length_set]; exact hj,?_⟩
   rw [List.getElem_set_ne (fun e=>hn (by subst e; rfl))]
 ·rintro ⟨j,hj,rfl⟩
  rw [List.length_set] at hj
  by_cases hij:i=j
  ·subst hij
   rw [List.getElem_set_self]
   exact .inl rfl
  ·rw [List.getElem_set_ne hij]
   exact .inr ⟨h.has hj,fun e=>hij (nm_inj ha (by omega) (by omega) e).symm⟩
end
end Go.Proofs.YtbdfhfceffkhgaaGreatDoor


/- What a put leaves; a log that is created while nothing takes the power, plainly. -/
set_option linter.unusedVariables false
set_option linter.unusedSimpArgs false
namespace Go.Proofs.YtbdfhfceffkhgaaGreatDoor
open Go.Sh
open Tryz renaming prog → π
def synF (fs:List Fil) (n:Bs):List Fil:=fs.modify (ix fs n) (fun f=>{ f with sy:=f.by_.length })
def PutR (d:Dk) (n p:Bs):Prop:=
 ((d.put n p).1=0∧nameOk n=true∧(d.put n p).2={ d.wrote.wrote with fs:=synF (appF d.fs n p) n }) ∨
 ((d.put n p).1=23∧d.armed=true∧(d.put n p).2=d.off) ∨
 ((d.put n p).1=23∧d.armed=true∧nameOk n=true∧(d.put n p).2={ d.wrote.off with fs:=appF d.fs n p }) ∨
 ((d.put n p).1=22∧(d.put n p).2=d∧(nameOk n=false∨(isAt d.fs n=false∧64≤d.fs.length))) ∨
 ((d.put n p).1=21∧(d.put n p).2=d∧d.room < total d.fs+p.length)
theorem put_cases {d:Dk} (hk:d.ok) (hon:d.on=true) (n p:Bs):PutR d n p:=by
 have hask:d.asked [n]=if nameOk n=false then 22 else 0:=by
  unfold Dk.asked
  rw [hon]; simp
 unfold PutR Dk.put
 cases hn:nameOk n with
 | false=>
  rw [hn,if_pos rfl] at hask
  have e:d.append n p=(22,d):=by unfold Dk.append; rw [hask,if_pos (by decide)]
  rw [e]
  exact .inr (.inr (.inr (.inl ⟨rfl,rfl,.inl rfl⟩)))
 | true=>
 rw [hn,if_neg (by decide)] at hask
 by_cases h1:isAt d.fs n=false∧64≤d.fs.length
 ·have e:d.append n p=(22,d):=by unfold Dk.append; rw [hask,if_neg (by simp),if_pos h1]
  rw [e]
  exact .inr (.inr (.inr (.inl ⟨rfl,rfl,.inr h1⟩)))
 by_cases h2:d.room < total d.fs+p.length
 ·have e:d.append n p=(21,d):=by unfold Dk.append; rw [hask,if_neg (by simp),if_neg h1,if_pos h2]
  rw [e]
  exact .inr (.inr (.inr (.inr ⟨rfl,rfl,h2⟩)))
 cases h3:d.stops with
 | true=>
  have ha:d.armed=true:=by unfold Dk.stops at h3; simp at h3; exact h3.1
  have e:d.append n p=(23,d.off):=by unfold Dk.append; rw [hask,if_neg (by simp),if_neg h1,if_neg h2,if_pos h3]
  rw [e]
  exact .inr (.inl ⟨rfl,ha,rfl⟩)
 | false=>
 have e:d.append n p=(0,{ d.wrote with fs:=appF d.fs n p }):=by unfold Dk.append; rw [hask,if_neg (by simp),if_neg h1,if_neg h2,if_neg (by rw [h3]; decide)]; rfl
 rw [e,if_pos rfl]
 have hat:isAt (appF d.fs n p) n=true:=by
  have hs:Srt (appF d.fs n p):=by
   have:=(Dk.append_ok hk n p).srt
   rw [e] at this; exact this
  rw [isAt_iff hs]
  by_cases hh:hasNo d.fs n
  ·exact ⟨_,(appF_has hk.srt).2 (.inr (.inr ⟨hh,rfl⟩)),rfl⟩
  ·cases hi:isAt d.fs n with
   | false=>exact absurd ((isAt_false hk.srt).1 hi) hh
   | true=>
    obtain ⟨f,hf,hfn⟩:=(isAt_iff hk.srt n).1 hi
    refine ⟨⟨n,f.by_++p,f.sy⟩,(appF_has hk.srt).2 (.inr (.inl ⟨f.by_,f.sy,?_,rfl⟩)),rfl⟩
    unfold has
    rw [← hfn]; exact hf
 have hf:({ d.wrote with fs:=appF d.fs n p }:Dk).found n=0:=by
  unfold Dk.found
  rw [show ({ d.wrote with fs:=appF d.fs n p }:Dk).asked [n]=0 from hask,if_neg (by simp),if_pos hat]
 cases h4:({ d.wrote with fs:=appF d.fs n p }:Dk).stops with
 | true=>
  have ha:d.armed=true:=by unfold Dk.stops at h4; simp [Dk.wrote] at h4; exact h4.1
  have e2:({ d.wrote with fs:=appF d.fs n p }:Dk).sync n=(23,{ d.wrote.off with fs:=appF d.fs n p }):=by unfold Dk.sync; rw [hf,if_neg (by simp),if_pos h4]; rfl
  rw [e2]
  exact .inr (.inr (.inl ⟨rfl,ha,rfl,rfl⟩))
 | false=>
  have e2:({ d.wrote with fs:=appF d.fs n p }:Dk).sync n=(0,{ d.wrote.wrote with fs:=synF (appF d.fs n p) n }):=by unfold Dk.sync; rw [hf,if_neg (by simp),if_neg (by rw [h4]; decide)]; rfl
  rw [e2]
  exact .inl ⟨rfl,rfl,rfl⟩
theorem put_ok {d:Dk} (hk:d.ok) (n p:Bs):(d.put n p).2.ok:=by
 unfold Dk.put
 split
 ·exact Dk.sync_ok (Dk.append_ok hk n p) n
 ·exact Dk.append_ok hk n p
structure Dk.live (d:Dk):Prop where
 on:d.on=true
 arm:d.armed=false
end Go.Proofs.YtbdfhfceffkhgaaGreatDoor


/- The numbers of the segments that a disk holds, plainly; the disk behind a loss of power, behind a Cut. -/
set_option linter.unusedVariables false
set_option linter.unusedSimpArgs false
namespace Go.Proofs.YtbdfhfceffkhgaaGreatDoor
open Go.Sh
open Tryz renaming prog → π
theorem lt_ext:∀{fs gs:List Int},fs.Pairwise (· < ·)→gs.Pairwise (· < ·)→(∀f,f ∈ fs ↔ f ∈ gs)→fs=gs
 | [],[],_,_,_=>rfl
 | [],g::gs,_,_,h=>by have:=(h g).2 List.mem_cons_self; cases this
 | f::fs,[],_,_,h=>by have:=(h f).1 List.mem_cons_self; cases this
 | f::fs,g::gs,hf,hg,h=>by
  have hf':=List.pairwise_cons.1 hf
  have hg':=List.pairwise_cons.1 hg
  have e:f=g:=by
   rcases List.mem_cons.1 ((h f).1 List.mem_cons_self) with e | h1
   ·exact e
   rcases List.mem_cons.1 ((h g).2 List.mem_cons_self) with e | h2
   ·exact e.symm
   have a:=hg'.1 f h1
   have b:=hf'.1 g h2
   omega
  subst e
  have:fs=gs:=lt_ext hf'.2 hg'.2 fun x=>by
   constructor
   ·intro hx
    rcases List.mem_cons.1 ((h x).1 (List.mem_cons_of_mem _ hx)) with e | h1
    ·have:=hf'.1 x hx; omega
    ·exact h1
   ·intro hx
    rcases List.mem_cons.1 ((h x).2 (List.mem_cons_of_mem _ hx)) with e | h1
    ·have:=hg'.1 x hx; omega
    ·exact h1
  rw [this]
theorem segNo_name {a i:Nat} (ha:1≤a) (hi:i < 4095):segNo a (nameB a (i+1))=some ((i+1:Nat):Int):=by
 unfold segNo nameB
 have e1:(preB a++hexL (i+1)).take (preB a).length=preB a:=List.take_left
 have e2:(preB a++hexL (i+1)).drop (preB a).length=hexL (i+1):=List.drop_left
 have e3:unhex (hexL (i+1))=i+1:=unhex_hexR 16 (i+1) (by rw [p16]; omega)
 rw [e1,e2,e3,if_pos]
 refine ⟨rfl,?_⟩
 unfold nameI
 rw [if_neg (by omega)]
 rfl
theorem segNos_nodup (a:Nat):∀{fs:List Fil},Srt fs→(segNos a fs).Pairwise (· ≠ ·)
 | [],_=>List.Pairwise.nil
 | f::fs,h=>by
  have h':=List.pairwise_cons.1 h
  unfold segNos
  rw [List.filterMap_cons]
  cases hs:segNo a f.nm with
  | none=>exact segNos_nodup a h'.2
  | some k=>
   refine List.pairwise_cons.2 ⟨fun k' hk' e=>?_,segNos_nodup a h'.2⟩
   obtain ⟨g,hg,hgs⟩:=List.mem_filterMap.1 hk'
   subst e
   have key:∀nm,segNo a nm=some k→nameI a k=nm:=fun nm hh=>by
    unfold segNo at hh
    split at hh
    ·rename_i hc
     injection hh with hh
     rw [← hh]; exact hc.2
    ·cases hh
   have:=h'.1 g hg
   rw [← key _ hs,← key _ hgs,blt_irr] at this
   cases this
section
variable {d:Dk} {a:Nat} {L:List (Bs × Nat)}
theorem HD.seg (h:HD d a L) (hk:d.ok) (ha:1≤a) (hL:L.length≤1000):sortI (segNos a d.fs)=(List.range L.length).map fun i=>((i+1:Nat):Int):=by
 have hp:(sortI (segNos a d.fs)).Perm (segNos a d.fs):=List.mergeSort_perm ..
 have hs:(sortI (segNos a d.fs)).Pairwise (fun x y=>decide (x≤y)=true):=List.pairwise_mergeSort (fun x y z h1 h2=>by simp at *; omega) (fun x y=>by simp; omega) _
 have hn:(sortI (segNos a d.fs)).Pairwise (· ≠ ·):=(hp.pairwise_iff (fun h=>Ne.symm h)).2 (segNos_nodup a hk.srt)
 refine lt_ext ((List.Pairwise.and hs hn).imp fun h1=>?_) ?_ fun x=>?_
 ·have:=h1.1; have:=h1.2; simp at *; omega
 ·rw [List.pairwise_map]
  exact List.pairwise_lt_range.imp fun h1=>by omega
 ·rw [hp.mem_iff]
  constructor
  ·intro hx
   obtain ⟨f,hf,hfs⟩:=List.mem_filterMap.1 hx
   obtain ⟨i,hi,rfl⟩:=(h f).1 hf
   rw [segNo_name ha (by omega)] at hfs
   injection hfs with hfs
   exact List.mem_map.2 ⟨i,List.mem_range.2 hi,hfs⟩
  ·intro hx
   obtain ⟨i,hi,rfl⟩:=List.mem_map.1 hx
   have hi:=List.mem_range.1 hi
   exact List.mem_filterMap.2 ⟨_,h.has hi,segNo_name ha (by omega)⟩
theorem HD.hex (h:HD d a L) (hL:L.length≤1000):∀f ∈ d.fs,∀rest,f.nm=preB a++rest→isHex rest∧1≤rest.length∧rest.length≤15:=fun f hf rest hr=>by
 obtain ⟨i,hi,rfl⟩:=(h f).1 hf
 have e:hexL (i+1)=rest:=List.append_cancel_left hr
 subst e
 have h1:(hexL (i+1)).length≤2+1:=hexR_small 16 2 (i+1) (by omega)
 exact ⟨hexL_hex (by omega),hexR_pos 15 (i+1),by omega⟩
theorem HD.noSeg (h:d.fs=[]):segNos a d.fs=[]:=by rw [h]; rfl
def Left (L L':List (Bs × Nat)):Prop:=L'.length=L.length∧∀i (h:i < L.length) (h':i < L'.length),∃k,L[i].2≤k∧k≤max L[i].2 L[i].1.length∧L'[i]=(L[i].1.take k,k)
theorem HD.start (h:HD d a L) (hk:d.ok) (ha:a < 18446744073709551616) (hL:L.length≤1000) (ks:List Int) (hoff:d.on=false):∃L',Left L L'∧HD (d.start ks) a L'∧(d.start ks).on=true∧(d.start ks).armed=d.armed∧(d.start ks).room=d.room:=by
 have e:d.start ks={ d with on:=true,fs:=keepF d.fs ks }:=by unfold Dk.start; rw [if_neg (by rw [hoff]; decide)]
 have hk2:=Dk.start_ok hk ks
 rw [e] at hk2 ⊢
 have key:∀i,∃p:Bs × Nat,∀(hi:i < L.length),(⟨nameB a (i+1),p.1,p.2⟩:Fil) ∈ keepF d.fs ks∧∃k,L[i].2≤k∧k≤max L[i].2 L[i].1.length∧p=(L[i].1.take k,k):=fun i=>by
  by_cases hi:i < L.length
  ·obtain ⟨g,hg,hgn⟩:=keepF_all (ks:=ks) (h.has hi)
   obtain ⟨f,hf,hfn,l,hl,hb,hs⟩:=keepF_has hg
   have hff:=hk.srt.uniq hf (h.has hi) (hfn.trans hgn)
   subst hff
   simp only at hl hb hs hgn
   refine ⟨(g.by_,g.sy),fun _=>⟨?_,L[i].2+l,by omega,by omega,?_⟩⟩
   ·rw [← hgn]; exact hg
   ·rw [hb,hs]
  ·exact ⟨([],0),fun hh=>absurd hh hi⟩
 obtain ⟨F,hF⟩:=Classical.axiomOfChoice key
 refine ⟨(List.range L.length).map F,⟨by simp,fun i hi hi'=>?_⟩,fun f=>⟨fun hf=>?_,?_⟩,rfl,rfl,rfl⟩
 ·obtain ⟨_,k,h1,h2,h3⟩:=hF i hi
  exact ⟨k,h1,h2,by simp [h3]⟩
 ·obtain ⟨f0,hf0,hfn,_⟩:=keepF_has hf
  obtain ⟨i,hi,rfl⟩:=(h f0).1 hf0
  refine ⟨i,by simpa using hi,?_⟩
  have:=hk2.srt.uniq hf (hF i hi).1 hfn.symm
  simp [this]
 ·rintro ⟨i,hi,rfl⟩
  have hi:i < L.length:=by simpa using hi
  simpa using (hF i hi).1
theorem HD.cut (h:HD d a L) (hk:d.ok) (ha:a < 18446744073709551616) (hL:L.length≤1000) {i k:Nat} (hi:i < L.length) (hkl:k≤L[i].1.length) (hon:d.on=true) (harm:d.armed=false) (hn:nameOk (nameB a (i+1))=true) :
  (d.cut (nameB a (i+1)) k).1=0∧HD (d.cut (nameB a (i+1)) k).2 a (L.set i (L[i].1.take k,k))∧(d.cut (nameB a (i+1)) k).2.live∧(d.cut (nameB a (i+1)) k).2.room=d.room:=by
 obtain ⟨h1,h2⟩:=has_at hk.srt (h.has hi)
 have hf:d.found (nameB a (i+1))=0:=by
  unfold Dk.found Dk.asked
  simp [hon,hn,h.isAt hk hi]
 have hs:d.stops=false:=by unfold Dk.stops; simp [harm]
 have e:d.cut (nameB a (i+1)) k=(0,{ d.wrote with fs:=d.fs.modify (ix d.fs (nameB a (i+1))) fun f=>{ f with by_:=f.by_.take k,sy:=k } }):=by
  unfold Dk.cut
  rw [hf,if_neg (by simp),List.getElem?_eq_getElem h1,h2,if_neg (by simp; omega),if_neg (by rw [hs]; decide)]
  rfl
 rw [e]
 refine ⟨rfl,fun f=>?_,⟨hon,harm⟩,rfl⟩
 show f ∈ d.fs.modify _ _ ↔ _
 rw [modify_set h1,mem_set hk.srt h1,h2]
 constructor
 ·rintro (rfl | ⟨hf,hn⟩)
  ·exact ⟨i,by rw [List.length_set]; exact hi,by rw [List.getElem_set_self]⟩
  ·obtain ⟨j,hj,rfl⟩:=(h f).1 hf
   refine ⟨j,by rw [List.length_set]; exact hj,?_⟩
   rw [List.getElem_set_ne (fun e=>hn (by subst e; rfl))]
 ·rintro ⟨j,hj,rfl⟩
  rw [List.length_set] at hj
  by_cases hij:i=j
  ·subst hij
   rw [List.getElem_set_self]
   exact .inl rfl
  ·rw [List.getElem_set_ne hij]
   exact .inr ⟨h.has hj,fun e=>hij (nm_inj ha (by omega) (by omega) e).symm⟩
end
end Go.Proofs.YtbdfhfceffkhgaaGreatDoor


/- A put on a disk that holds the segments of one log alone; a log that is created on it, plainly. -/
set_option linter.unusedVariables false
set_option linter.unusedSimpArgs false
namespace Go.Proofs.YtbdfhfceffkhgaaGreatDoor
open Go.Sh
open Tryz renaming prog → π
def sumL (L:List (Bs × Nat)):Nat:=(L.map fun x=>x.1.length).sum
section
variable {d:Dk} {a:Nat} {L:List (Bs × Nat)}
theorem HD.perm (h:HD d a L) (hk:d.ok) (ha:a < 18446744073709551616) (hL:L.length≤1000):d.fs.Perm (L.zipIdx.map fun x=>⟨nameB a (x.2+1),x.1.1,x.1.2⟩):=by
 refine (List.perm_ext_iff_of_nodup ?_ ?_).2 fun f=>?_
 ·exact hk.srt.imp fun hlt e=>by rw [e,blt_irr] at hlt; cases hlt
 ·unfold List.Nodup
  rw [List.pairwise_iff_getElem]
  intro i j hi hj hij e
  simp only [List.length_map,List.length_zipIdx] at hi hj
  simp only [List.getElem_map,List.getElem_zipIdx,Nat.zero_add,Fil.mk.injEq] at e
  have:=nm_inj ha (by omega) (by omega) e.1
  omega
 ·rw [h f]
  constructor
  ·rintro ⟨i,hi,rfl⟩
   exact List.mem_map.2 ⟨(L[i],i),by rw [List.mem_zipIdx_iff_getElem?]; exact List.getElem?_eq_getElem hi,rfl⟩
  ·intro hf
   obtain ⟨⟨p,i⟩,hp,rfl⟩:=List.mem_map.1 hf
   rw [List.mem_zipIdx_iff_getElem?] at hp
   obtain ⟨hi,e⟩:=List.getElem?_eq_some_iff.1 hp
   exact ⟨i,hi,by simp only [] at e ⊢; rw [e]⟩
theorem HD.len (h:HD d a L) (hk:d.ok) (ha:a < 18446744073709551616) (hL:L.length≤1000):d.fs.length=L.length:=by
 have:=(h.perm hk ha hL).length_eq
 simpa using this
theorem HD.tot (h:HD d a L) (hk:d.ok) (ha:a < 18446744073709551616) (hL:L.length≤1000):total d.fs=sumL L:=by
 have:=((h.perm hk ha hL).map fun f=>f.by_.length).sum_nat
 unfold total sumL
 rw [this,List.map_map]
 congr 1
 have e:((fun f:Fil=>f.by_.length) ∘ fun x:(Bs × Nat) × Nat=>(⟨nameB a (x.2+1),x.1.1,x.1.2⟩:Fil))=(fun x:Bs × Nat=>x.1.length) ∘ Prod.fst:=rfl
 rw [e,← List.map_map,List.zipIdx_map_fst]
theorem HD.put_new (h:HD d a L) (hk:d.ok) (hon:d.on=true) (ha:a < 18446744073709551616) (hL:L.length < 64) {p:Bs} (hr:sumL L+p.length≤d.room) :
  ((d.put (nameB a (L.length+1)) p).1=0∧HD (d.put (nameB a (L.length+1)) p).2 a (L++[(p,p.length)])∧(d.put (nameB a (L.length+1)) p).2.on=true∧(d.put (nameB a (L.length+1)) p).2.armed=d.armed∧(d.put (nameB a (L.length+1)) p).2.room=d.room) ∨
  ((d.put (nameB a (L.length+1)) p).1=23∧d.armed=true∧(HD (d.put (nameB a (L.length+1)) p).2 a L∨HD (d.put (nameB a (L.length+1)) p).2 a (L++[(p,0)]))∧(d.put (nameB a (L.length+1)) p).2.on=false∧(d.put (nameB a (L.length+1)) p).2.armed=false∧(d.put (nameB a (L.length+1)) p).2.room=d.room):=by
 have hk2:=put_ok hk (nameB a (L.length+1)) p
 have hno:=h.notAt hk ha (by omega) (Nat.le_refl _) (by omega)
 rcases put_cases hk hon (nameB a (L.length+1)) p with ⟨h1,_,h2⟩ | ⟨h1,h3,h2⟩ | ⟨h1,h3,_,h2⟩ | ⟨h1,h2,h3⟩ | ⟨h1,h2,h3⟩
 ·left
  rw [h2]
  refine ⟨h1,?_,hon,rfl,rfl⟩
  have hd1:HD { d.wrote.wrote with fs:=appF d.fs (nameB a (L.length+1)) p } a (L++[(p,0)]):=h.app_new hk ha (by omega) rfl
  have hk1:({ d.wrote.wrote with fs:=appF d.fs (nameB a (L.length+1)) p }:Dk).ok:=by
   have e:(d.append (nameB a (L.length+1)) p).1=0:=by
    unfold Dk.put at h1
    split at h1
    ·assumption
    ·rename_i hh; exact absurd h1 hh
   have:=Dk.append_ok hk (nameB a (L.length+1)) p
   obtain ⟨e1,_,e3,_⟩:=append_ok_eq e
   exact ⟨hk.room,by rw [← e1]; have:=this.used; rw [e3] at this; exact this,by rw [← e1]; exact this.srt,by rw [← e1]; exact this.sy,by rw [← e1]; exact this.many⟩
  have:=hd1.sync (i:=L.length) (d':={ d.wrote.wrote with fs:=synF (appF d.fs (nameB a (L.length+1)) p) (nameB a (L.length+1)) }) hk1 ha (by simp; omega) (by simp) rfl
  simpa using this
 ·right
  rw [h2]
  exact ⟨h1,h3,.inl h,rfl,rfl,rfl⟩
 ·right
  rw [h2]
  exact ⟨h1,h3,.inr (h.app_new hk ha (by omega) rfl),rfl,rfl,rfl⟩
 ·rcases h3 with h3 | h3
  ·rw [nameB_ok ha (by omega)] at h3; cases h3
  ·have:=h.len hk ha (by omega)
   omega
 ·have:=h.tot hk ha (by omega)
  omega
end
def sgL (cs:List (List Tx)):List (Bs × Nat):=cs.map fun c=>(frT c,(frT c).length)
theorem sgL_len (cs:List (List Tx)):(sgL cs).length=cs.length:=by simp [sgL]
theorem sgL_sum:∀{cs:List (List Tx)},(∀t ∈ cs.flatten,chkT t=true)→sumL (sgL cs)≤cs.flatten.length * 4105
 | [],_=>by simp [sgL,sumL]
 | c::cs,h=>by
  have h1:=frT_len (ts:=c) fun t ht=>h t (by simp [ht])
  have h2:=sgL_sum (cs:=cs) fun t ht=>h t (by rw [List.flatten_cons]; exact List.mem_append_right _ ht)
  have e:sumL (sgL (c::cs))=(frT c).length+sumL (sgL cs):=by simp [sgL,sumL]
  rw [e,List.flatten_cons,List.length_append]; omega
def cks (size:Nat):Nat→Nat→List Tx→List (List Tx)
 | 0,_,_=>[]
 | f+1,k,ts=>if k=0∨ts ≠ [] then ts.take size::cks size f (k+1) (ts.drop size) else []
def CrtR (a:Nat) (pre all:List (List Tx)) (fil:Nat) (d:Dk) (r:Int × Dk × Nat × Nat):Prop:=
 (r.1=0∧HD r.2.1 a (sgL (pre++all))∧r.2.1.on=true∧r.2.1.armed=d.armed∧r.2.1.room=d.room∧r.2.2.1=(pre++all).length∧r.2.2.2=((all.getLast?.map List.length).getD fil)) ∨
 (r.1=23∧d.armed=true∧r.2.1.on=false∧r.2.1.armed=false∧r.2.1.room=d.room∧∃xs c ys,all=xs++c::ys∧(HD r.2.1 a (sgL (pre++xs))∨HD r.2.1 a (sgL (pre++xs)++[(frT c,0)])))
theorem crt_hd {a size:Nat} (ha:1≤a) (ha2:a < 9223372036854775808) (f:Nat):∀(pre:List (List Tx)) (fil:Nat) (ts:List Tx) (d:Dk),d.ok→d.on=true→HD d a (sgL pre)→(∀t ∈ pre.flatten++ts,chkT t=true)→(pre.flatten++ts).length * 4105≤d.room→pre.length+(cks size f pre.length ts).length≤64 →
  CrtR a pre (cks size f pre.length ts) fil d (crt a size f pre.length fil ts d):=by
 induction f with
 | zero=>
  intro pre fil ts d hk hon hd hc hr hl
  left
  simp only [crt,cks,List.append_nil]
  exact ⟨trivial,hd,hon,trivial,trivial,trivial,rfl⟩
 | succ f IH=>
  intro pre fil ts d hk hon hd hc hr hl
  by_cases hcd:pre.length=0∨ts ≠ []
  ·have e1:cks size (f+1) pre.length ts=ts.take size::cks size f (pre.length+1) (ts.drop size):=by rw [cks,if_pos hcd]
   rw [e1] at hl ⊢
   simp only [List.length_cons] at hl
   have hn:nameI a (pre.length+1:Nat)=nameB a ((sgL pre).length+1):=by
    unfold nameI
    rw [if_neg (by omega),sgL_len]
    rfl
   have hsum:sumL (sgL pre)+(frT (ts.take size)).length≤d.room:=by
    have h1:=sgL_sum (cs:=pre) fun t ht=>hc t (List.mem_append_left _ ht)
    have h2:=frT_len (ts:=ts.take size) fun t ht=>hc t (List.mem_append_right _ (List.mem_of_mem_take ht))
    have h3:(ts.take size).length≤ts.length:=by rw [List.length_take]; omega
    rw [List.length_append] at hr
    omega
   have hp:=hd.put_new hk hon (by omega) (by rw [sgL_len]; omega) hsum
   have hk2:=put_ok hk (nameI a (pre.length+1:Nat)) (frT (ts.take size))
   rw [← hn] at hp
   unfold CrtR
   rw [crt,if_pos hcd]
   rcases hp with ⟨h1,h2,h3,h4,h5⟩ | ⟨h1,h2,h3,h4,h5,h6⟩
   ·rw [if_pos h1]
    have hpre:sgL pre++[(frT (ts.take size),(frT (ts.take size)).length)]=sgL (pre++[ts.take size]):=by simp [sgL]
    rw [hpre] at h2
    have hsame:∀t,t ∈ (pre++[ts.take size]).flatten++ts.drop size ↔ t ∈ pre.flatten++ts:=fun t=>by
     have e:(pre++[ts.take size]).flatten++ts.drop size=pre.flatten++ts:=by simp
     rw [e]
    have hsl:((pre++[ts.take size]).flatten++ts.drop size).length=(pre.flatten++ts).length:=by
     simp
    have ih:=IH (pre++[ts.take size]) (ts.take size).length (ts.drop size) _ hk2 h3 h2 (fun t ht=>hc t ((hsame t).1 ht)) (by rw [hsl,h5]; exact hr) (by rw [List.length_append]; simp only [List.length_cons,List.length_nil,Nat.zero_add]; omega)
    unfold CrtR at ih
    simp only [List.length_append,List.length_cons,List.length_nil,Nat.zero_add,List.append_assoc,List.cons_append,List.nil_append] at ih ⊢
    rcases ih with ⟨i1,i2,i3,i4,i5,i6,i7⟩ | ⟨i1,i2,i3,i4,i5,xs,c,ys,i6,i7⟩
    ·refine .inl ⟨i1,i2,i3,by rw [i4,h4],by rw [i5,h5],i6,?_⟩
     rw [i7]
     cases hg:cks size f (pre.length+1) (ts.drop size) with
     | nil=>simp
     | cons x xs=>rw [List.getLast?_cons_cons]; simp [List.getLast?_cons]
    ·refine .inr ⟨i1,by rw [← h4]; exact i2,i3,i4,by rw [i5,h5],ts.take size::xs,c,ys,by rw [i6]; rfl,?_⟩
     simpa using i7
   ·rw [if_neg (by rw [h1]; decide)]
    refine .inr ⟨h1,h2,h4,h5,h6,[],ts.take size,_,rfl,?_⟩
    simpa using h3
  ·have e1:cks size (f+1) pre.length ts=[]:=by rw [cks,if_neg hcd]
   rw [e1]
   unfold CrtR
   rw [crt,if_neg hcd]
   left
   simp only [List.append_nil]
   exact ⟨trivial,hd,hon,trivial,trivial,trivial,rfl⟩
end Go.Proofs.YtbdfhfceffkhgaaGreatDoor


/- Segments of one length but the last; what Open finds behind a loss of power, plainly. -/
set_option linter.unusedVariables false
set_option linter.unusedSimpArgs false
namespace Go.Proofs.YtbdfhfceffkhgaaGreatDoor
open Go.Sh
open Tryz renaming prog → π
section
variable {α β:Type}
def Seg (size:Nat) (init:List (List α)) (last:List α):Prop:=(∀c ∈ init,c.length=size)∧last.length≤size∧(init ≠ []→last ≠ [])
theorem Seg.tail {size:Nat} {c:List α} {i:List (List α)} {l:List α} (h:Seg size (c::i) l):Seg size i l∧c.length=size∧l ≠ []:=⟨⟨fun x hx=>h.1 x (List.mem_cons_of_mem _ hx),h.2.1,fun _=>h.2.2 (by simp)⟩,h.1 c List.mem_cons_self,h.2.2 (by simp)⟩
theorem Seg.uniq {size:Nat}:∀{i i':List (List α)} {l l':List α},Seg size i l→Seg size i' l'→i.flatten++l=i'.flatten++l'→i=i'∧l=l'
 | [],[],l,l',_,_,e=>⟨rfl,by simpa using e⟩
 | [],c::i',l,l',h,h',e=>by
  obtain ⟨_,h2,h3⟩:=h'.tail
  have:=congrArg List.length e
  have hl:=List.length_pos_iff.2 h3
  have h4:=h.2.1
  simp at this; omega
 | c::i,[],l,l',h,h',e=>by
  obtain ⟨_,h2,h3⟩:=h.tail
  have:=congrArg List.length e
  have hl:=List.length_pos_iff.2 h3
  have h4:=h'.2.1
  simp at this; omega
 | c::i,c'::i',l,l',h,h',e=>by
  obtain ⟨h1,h2,_⟩:=h.tail
  obtain ⟨h1',h2',_⟩:=h'.tail
  rw [List.flatten_cons,List.flatten_cons,List.append_assoc,List.append_assoc] at e
  obtain ⟨e1,e2⟩:=List.append_inj e (by rw [h2,h2'])
  obtain ⟨e3,e4⟩:=h1.uniq h1' e2
  exact ⟨by rw [e1,e3],e4⟩
theorem Seg.map {size:Nat} {i:List (List α)} {l:List α} (h:Seg size i l) (F:α→β):Seg size (i.map (·.map F)) (l.map F):=
 ⟨fun c hc=>by obtain ⟨x,hx,rfl⟩:=List.mem_map.1 hc; rw [List.length_map]; exact h.1 x hx,by rw [List.length_map]; exact h.2.1,fun hn=>by
  have:=h.2.2 (fun e=>hn (by rw [e]; rfl))
  simpa using this⟩
theorem Seg.more {size:Nat} {i:List (List α)} {l:List α} (h:Seg size i l) (t:α) (hl:l.length < size):Seg size i (l++[t]):=⟨h.1,by simp; omega,fun _=>by simp⟩
theorem Seg.next {size:Nat} {i:List (List α)} {l:List α} (h:Seg size i l) (t:α) (h1:1≤size) (hl:size≤l.length):Seg size (i++[l]) [t]:=⟨fun c hc=>by
 rcases List.mem_append.1 hc with hc | hc
 ·exact h.1 c hc
 ·rw [List.mem_singleton.1 hc]; have:=h.2.1; omega,by simpa using h1,fun _=>by simp⟩
theorem Seg.ne {size:Nat} {i:List (List α)} {l:List α} (h:Seg size i l) (h1:1≤size):∀c ∈ i,c ≠ []:=fun c hc e=>by
 have:=h.1 c hc
 rw [e] at this; simp at this; omega
theorem Seg.len {size:Nat} {i:List (List α)} {l:List α} (h:Seg size i l):(i.flatten++l).length=i.length * size+l.length:=by
 have key:∀i:List (List α),(∀c ∈ i,c.length=size)→i.flatten.length=i.length * size:=fun i=>by
  induction i with
  | nil=>intro _; simp
  | cons c i ih=>
   intro hh
   rw [List.flatten_cons,List.length_append,hh c List.mem_cons_self,ih fun x hx=>hh x (List.mem_cons_of_mem _ hx),List.length_cons,Nat.add_mul]
   omega
 rw [List.length_append,key i h.1]
theorem Seg.few {size m:Nat} {i:List (List α)} {l:List α} (h:Seg size i l) (hm:(i.flatten++l).length≤m * size) (h1:1≤m):i.length+1≤m:=by
 rw [h.len] at hm
 cases i with
 | nil=>simpa using h1
 | cons c i=>
  have:=List.length_pos_iff.2 (h.2.2 (by simp))
  have:(c::i).length * size < m * size:=by omega
  have:=Nat.lt_of_mul_lt_mul_right this
  omega
end
theorem cks_nil (size f k:Nat) (hk:k ≠ 0):cks size f k []=[]:=by
 cases f with
 | zero=>rfl
 | succ f=>rw [cks,if_neg (by simp [hk])]
theorem cks_sg {size:Nat} (h1:1≤size) (f:Nat):∀(k:Nat) (ts:List Tx),ts.length+1≤f→(k=0∨ts ≠ [])→∃init last,cks size f k ts=init++[last]∧Seg size init last∧init.flatten++last=ts∧(ts ≠ []→last ≠ []):=by
 induction f with
 | zero=>intro k ts h; omega
 | succ f ih=>
  intro k ts hf hc
  rw [cks,if_pos hc]
  by_cases hd:ts.drop size=[]
  ·rw [hd,cks_nil _ _ _ (by omega)]
   have hl:ts.length≤size:=by simpa using hd
   exact ⟨[],ts,by rw [List.take_of_length_le hl]; rfl,⟨by simp,hl,by simp⟩,by simp,id⟩
  ·have hlen:size < ts.length:=by have:=List.length_pos_iff.2 hd; rw [List.length_drop] at this; omega
   obtain ⟨init,last,e1,e2,e3,e4⟩:=ih (k+1) (ts.drop size) (by rw [List.length_drop]; omega) (.inr hd)
   refine ⟨ts.take size::init,last,by rw [e1]; rfl,⟨fun c hc=>?_,e2.2.1,fun _=>e4 hd⟩,?_,fun _=>e4 hd⟩
   ·rcases List.mem_cons.1 hc with rfl | hc
    ·rw [List.length_take]; omega
    ·exact e2.1 c hc
   ·rw [List.flatten_cons,List.append_assoc,e3,List.take_append_drop]
theorem tk_parts {x y:Tx} (h:tk x=tk y):x.hd=y.hd∧x.q.st=y.q.st:=⟨congrArg Prod.fst h,congrArg Prod.snd h⟩
theorem txB_tk {a b:List Tx} (h:a.map tk=b.map tk):a.map txB=b.map txB:=by
 induction a generalizing b with
 | nil=>cases b with
  | nil=>rfl
  | cons y b=>simp at h
 | cons x a ih=>cases b with
  | nil=>simp at h
  | cons y b=>
   simp only [List.map_cons,List.cons.injEq] at h ⊢
   obtain ⟨h1,h2⟩:=tk_parts h.1
   exact ⟨txB_st h1 h2,ih h.2⟩
theorem frT_tk {a b:List Tx} (h:a.map tk=b.map tk):frT a=frT b:=by unfold frT; rw [txB_tk h]
theorem crt_tk {num:Int} {size:Nat} (f:Nat):∀(k fil:Nat) (a b:List Tx) (d:Dk),a.map tk=b.map tk→crt num size f k fil a d=crt num size f k fil b d:=by
 induction f with
 | zero=>intros; rfl
 | succ f ih=>
  intro k fil a b d h
  have hl:a.length=b.length:=by have:=congrArg List.length h; simpa using this
  have h1:(a.take size).map tk=(b.take size).map tk:=by rw [List.map_take,List.map_take,h]
  have h2:(a.drop size).map tk=(b.drop size).map tk:=by rw [List.map_drop,List.map_drop,h]
  have h3:a=[] ↔ b=[]:=by rw [← List.length_eq_zero_iff,← List.length_eq_zero_iff,hl]
  have h4:(a.take size).length=(b.take size).length:=by rw [List.length_take,List.length_take,hl]
  simp only [crt,frT_tk h1,h4,ne_eq,h3,ih _ _ _ _ _ h2]
theorem zxs_tk {a b:List Tx} (h:a.map tk=b.map tk):zxs a=zxs b:=by
 have e:∀l:List Tx,zxs l=(l.map tk).map fun x=>(x.1.e,x.1.n):=fun l=>by unfold zxs; rw [List.map_map]; rfl
 rw [e,e,h]
theorem crE_tk {a b:List Tx} (h:a.map tk=b.map tk) (d:Dk) (num size:Int):crE d num size a=crE d num size b:=by
 have e:∀l m:List Tx,l.map tk=m.map tk→(l.any fun t=>lchk t 0 0 != 0)=m.any fun t=>lchk t 0 0 != 0:=fun l=>by
  induction l with
  | nil=>intro m hm; cases m with
   | nil=>rfl
   | cons=>simp at hm
  | cons x l ih=>intro m hm; cases m with
   | nil=>simp at hm
   | cons y m=>
    simp only [List.map_cons,List.cons.injEq] at hm
    simp only [List.any_cons,lchk_tk hm.1,ih m hm.2]
 unfold crE
 rw [e a b h,zxs_tk h]
theorem fit_of:∀{ts:List Tx} {e n:Int},0≤e→u32r n→(∀t ∈ ts,chkT t=true∧wfH t.hd∧WfQ t.q)→rises e n (zxs ts)=true→Fit e n ts
 | [],_,_,_,_,_,_=>trivial
 | t::ts,e,n,he,hn,hw,hr=>by
  obtain ⟨h1,h2,h3⟩:=hw t List.mem_cons_self
  have he':0≤t.e∧t.e≤4294967295:=hok_le h2 (show 0 < 5 by omega)
  have hn':0≤t.n∧t.n≤4294967295:=hok_le h2 (show 1 < 5 by omega)
  have hu:u32r t.n:=by unfold u32r; omega
  have hr':(decide (ls e n t.e t.n) && rises t.e t.n (zxs ts))=true:=hr
  rw [Bool.and_eq_true] at hr'
  have hlt:=of_decide_eq_true hr'.1
  have hc:=ls_cmp (e:=e) (e':=t.e) hn hu
  rw [decide_eq_true hlt] at hc
  refine ⟨⟨okT_chk h1 h2 h3,lchk_ok.2 ⟨h1,fun h0=>?_,of_decide_eq_true hc⟩⟩,fit_of he'.1 hu (fun x hx=>hw x (List.mem_cons_of_mem _ hx)) hr'.2⟩
  unfold ls at hlt
  unfold u32r at hn
  rw [h0.1,h0.2] at hlt
  omega
theorem left_snoc {cs:List (List Tx)} {b:Bs} {s:Nat} {L':List (Bs × Nat)} (h:Left (sgL cs++[(b,s)]) L'):∃k,s≤k∧k≤max s b.length∧L'=sgL cs++[(b.take k,k)]:=by
 obtain ⟨hl,h⟩:=h
 have hlen:cs.length < (sgL cs++[(b,s)]).length:=by simp [sgL]
 obtain ⟨k,h3,h4,h5⟩:=h cs.length hlen (by omega)
 have hat:(sgL cs++[(b,s)])[cs.length]=(b,s):=by rw [List.getElem_append_right (Nat.le_of_eq (sgL_len _))]; simp [sgL]
 rw [hat] at h3 h4 h5
 refine ⟨k,h3,h4,List.ext_getElem (by rw [hl]; simp) fun i h1 h2=>?_⟩
 by_cases hi:i < cs.length
 ·obtain ⟨k2,g3,g4,g5⟩:=h i (by omega) h1
  rw [List.getElem_append_left (by rw [sgL_len]; exact hi)] at g3 g4 g5 ⊢
  rw [g5]
  simp only [sgL,List.getElem_map] at g3 g4 ⊢
  have e:k2=(frT cs[i]).length:=by omega
  rw [e,List.take_length]
 ·have e:i=cs.length:=by simp [sgL] at h2; omega
  subst e
  rw [h5,List.getElem_append_right (Nat.le_of_eq (sgL_len _))]
  simp [sgL]
theorem frT_cut {ts:List Tx} (h:∀t ∈ ts,chkT t=true) (k:Nat):∃j r,j≤ts.length∧(frT ts).take k=frT (ts.take j)++r∧frst r=none∧((frT ts).length≤k→r=[]):=by
 obtain ⟨j,r,h1,h2,h3,_,h5⟩:=frms_take (bs:=ts.map txB) (fun b hb=>by
  obtain ⟨t,ht,rfl⟩:=List.mem_map.1 hb
  have:=txB_len (h t ht)
  exact ⟨txB_pos t,by omega⟩) k
 rw [List.length_map] at h1
 rw [← List.map_take] at h2
 exact ⟨j,r,h1,h2,h3,h5⟩
theorem open_hd {a size:Nat} (ha:1≤a) (ha2:a < 9223372036854775808) {d:Dk} {init:List (List Tx)} {last:List Tx} {tail:Bs} {s:Nat} {res:Option Lg × Int × Dk} (hk:d.ok) (hl:d.live) (hd:HD d a (sgL init++[(frT last++tail,s)])) (ht:frst tail=none)
  (hF:Fit 0 0 (init.flatten++last)) (hne:∀c ∈ init,c ≠ []) (hn:init.length≤100) (hR:OpR a (init.length+1) 0 d ⟨a,size,0,0,0,0,[]⟩ res) :
  ∃us d' s',us.map tk=(init.flatten++last).map tk∧res=(some ⟨a,size,init.length+1,last.length,(lastZ 0 0 (init.flatten++last)).1,(lastZ 0 0 (init.flatten++last)).2,us⟩,0,d')∧HD d' a (sgL init++[(frT last,s')])∧d'.ok∧d'.live∧d'.room=d.room∧(tail=[]→d'=d):=by
 have hlen:(sgL init++[(frT last++tail,s)]).length=init.length+1:=by simp [sgL]
 have hfl:(init++[last]).flatten=init.flatten++last:=by simp
 have hnm:∀j,j≤init.length→nameI a (j+1:Nat)=nameB a (j+1):=fun j hj=>by
  unfold nameI
  rw [if_neg (by omega)]
  rfl
 have hb:d.bytes (nameB a (init.length+1))=frT last++tail:=by
  rw [hd.bytes hk (i:=init.length) (by rw [hlen]; omega),List.getElem_append_right (Nat.le_of_eq (sgL_len _))]
  simp [sgL]
 obtain ⟨us,hus,hres⟩:=opR_good a tail ht init last 0 d ⟨a,size,0,0,0,0,[]⟩ res (by rw [hfl]; exact hF) hne (fun j hj=>by
  rw [Nat.zero_add,hnm j (by omega),hd.bytes hk (i:=j) (by rw [hlen]; omega),List.getElem_append_left (by rw [sgL_len]; exact hj)]
  simp [sgL]) (by rw [Nat.zero_add,hnm _ (Nat.le_refl _)]; exact hb) hR
 rw [hfl] at hus hres
 simp only [Nat.zero_add,List.nil_append] at hres
 rw [hnm _ (Nat.le_refl _)] at hres
 unfold cutR at hres
 by_cases htl:tail=[]
 ·rw [if_pos htl] at hres
  refine ⟨us,d,s,hus,hres,?_,hk,hl,rfl,fun _=>rfl⟩
  rw [htl,List.append_nil] at hd
  exact hd
 ·rw [if_neg htl] at hres
  have hcut:=hd.cut hk (by omega) (by rw [hlen]; omega) (i:=init.length) (k:=(frT last).length) (by rw [hlen]; omega) (by
   rw [List.getElem_append_right (Nat.le_of_eq (sgL_len _))]
   simp [sgL]) hl.on hl.arm (nameB_ok (by omega) (by omega))
  obtain ⟨c1,c2,c3,c4⟩:=hcut
  rw [if_pos c1] at hres
  refine ⟨us,_,(frT last).length,hus,hres,?_,Dk.cut_ok hk _ _,c3,c4,fun h=>absurd h htl⟩
  have e:(sgL init++[(frT last++tail,s)]).set init.length (((sgL init++[(frT last++tail,s)])[init.length]'(by rw [hlen]; omega)).1.take (frT last).length,(frT last).length)=sgL init++[(frT last,(frT last).length)]:=by
   have h1:((sgL init++[(frT last++tail,s)])[init.length]'(by rw [hlen]; omega))=(frT last++tail,s):=by
    rw [List.getElem_append_right (Nat.le_of_eq (sgL_len _))]; simp [sgL]
   rw [h1]
   rw [List.set_append_right _ _ (Nat.le_of_eq (sgL_len _))]
   simp [sgL]
  rw [e] at c2
  exact c2
end Go.Proofs.YtbdfhfceffkhgaaGreatDoor


/- Why a transaction is refused, plainly. -/
set_option linter.unusedVariables false
set_option linter.unusedSimpArgs false
namespace Go.Proofs.YtbdfhfceffkhgaaGreatDoor
open Go.Sh
open Tryz renaming prog → π
theorem chkT_n {t:Tx} (h:chkT t=true):(t.e=0∧t.n=0)∨1≤t.n:=by
 unfold chkT prop at h
 simp only [Bool.and_eq_true,Bool.or_eq_true,decide_eq_true_eq] at h
 rcases h.1 with h1 | h1
 ·exact .inl h1
 ·exact .inr h1.2
end Go.Proofs.YtbdfhfceffkhgaaGreatDoor


/- A log and its disk: a step, a loss of power, what is found, plainly. -/
set_option linter.unusedVariables false
set_option linter.unusedSimpArgs false
namespace Go.Proofs.YtbdfhfceffkhgaaGreatDoor
open Go.Sh
open Tryz renaming prog → π
theorem start_found {a:Nat} {d:Dk} {init:List (List Tx)} {c x:List Tx} (ha2:a < 9223372036854775808) (hk:d.ok) (hoff:d.on=false) (harm:d.armed=false) (hn:init.length≤100) (hd:HD d a (sgL init++[(frT c++frT x,(frT c).length)])) (hc:∀t ∈ x,chkT t=true) (ks:List Int) :
  ∃j tail s,j≤x.length∧frst tail=none∧HD (d.start ks) a (sgL init++[(frT (c++x.take j)++tail,s)])∧(d.start ks).live∧(d.start ks).room=d.room:=by
 obtain ⟨L',hL,h1,h2,h3,h4⟩:=hd.start hk (by omega) (by simp [sgL]; omega) ks hoff
 obtain ⟨k,hk1,hk2,rfl⟩:=left_snoc hL
 obtain ⟨j,r,hj,e,hr,_⟩:=frT_cut hc (k - (frT c).length)
 refine ⟨j,r,k,hj,hr,?_,⟨h2,by rw [h3,harm]⟩,h4⟩
 have e2:(frT c++frT x).take k=frT (c++x.take j)++r:=by
  rw [List.take_append,List.take_of_length_le (by omega),e,frT_append,List.append_assoc]
 rw [e2] at h1
 exact h1
end Go.Proofs.YtbdfhfceffkhgaaGreatDoor


/- The laws' own functions; what Open answers on a disk that holds a log's segments alone. -/
set_option linter.unusedVariables false
set_option linter.unusedSimpArgs false
namespace Go.Proofs.YtbdfhfceffkhgaaGreatDoor
open Go.Sh
open Tryz renaming prog → π
section
variable (Z:PZ) {o w:World} {R As:List HProp} {g:Nat} {d:Dk}
theorem rightC {v:Value} {ts:List Tx} (hw:WfT ts) (hx:Ent o R fun w=>RdT w v ts) (h:St o w R) :
  CallV π Z 10 #[v] w fun r w'=>(∃b,r=.bool b∧(b=true→(∀t ∈ ts,chkT t=true)∧rises 0 0 (zxs ts)=true))∧St o w' R:=by
 obtain ⟨a,c,rfl⟩:=(hx w h).1.form
 have hle:=(hx w h).1.2.1
 simp only [maxLen] at hle
 refine f10.calls ?_
 unfold f10.sh
 refine ⟨fun m y w'=>∃i:Nat,y=.int .i64 i∧i≤ts.length∧m+i=ts.length∧(∀t ∈ ts.take i,chkT t=true)∧St o w' R,⟨ts.length,0,rfl,Nat.zero_le _,rfl,by simp,h⟩,?_⟩
 clear h
 rintro m _ w1 ⟨i,rfl,hi,hm,hck,hS⟩ _
 by_cases hlt:(i:Int) < (ts.length:Int)
 ·have hi1:i < ts.length:=by omega
  (try simp only [o_add,ln_22_3,o_lss,hlt,decide_true,condT])
  obtain ⟨b1,p,cs,hp,_,hcv,hpc⟩:=(rowR_rd (c:=Tx.cells) (fun x=>rfl) (hx w1 hS).1 rfl).ix el22 .i64 i hi1
  subst hcv
  refine r1 (hp _) (r_loadN ag50 (xs:=ts[i].cells) rfl (fun j u hu=>by rw [add_addr]; exact hpc j u hu) ?_)
  refine (refChkT Z ts[i] (hw.2 _ (List.getElem_mem hi1)).1 (fun w hh=>(hx w hh).2 _ (List.getElem_mem hi1)) hS).mono fun r w2 ⟨hr,hS⟩=>?_
  subst hr
  by_cases hc:chkT ts[i]=true
  ·rw [if_pos hc]
   (try simp only [o_neq,bne_self_eq_false,condF])
   rw [wr_i64 (x:=(i:Int)+1) (by omega) (by omega)]
   refine ⟨m - 1,by omega,i+1,rfl,by omega,by omega,fun t ht=>?_,hS⟩
   rw [List.take_succ_eq_append_getElem hi1] at ht
   rcases List.mem_append.1 ht with ht | ht
   ·exact hck t ht
   ·rw [List.mem_singleton.1 ht]; exact hc
  ·rw [if_neg hc]
   (try simp only [o_neq,Int.reduceBNe,condT])
   exact ⟨⟨_,rfl,fun hh=>(by cases hh)⟩,hS⟩
 ·obtain rfl:i=ts.length:=by omega
  rw [List.take_length] at hck
  (try simp only [o_add,ln_22_3,o_lss,hlt,decide_false,condF])
  refine r_build (cells:=(zx 0 0).toArray) (by kernel_rfl) ?_
  refine (refRises Z (e:=0) (n:=0) (by unfold u32r; omega) (fun t ht=>?_) hx hS).mono fun r w2 ⟨hr,hS⟩=>?_
  ·have hn:0≤t.n∧t.n≤4294967295:=hok_le (hw.2 _ ht).1 (show 1 < 5 by omega)
   unfold u32r; omega
  ·subst hr
   exact ⟨⟨_,rfl,fun hh=>⟨hck,hh⟩⟩,hS⟩
theorem beginsC {v v2:Value} {l k:List Tx} (short:Int) (hx:Ent o R fun w=>RdT w v l) (hy:Ent o R fun w=>RdT w v2 k) (hle:l.length≤k.length) (hs:(k.length:Int) - l.length≤short) (he:l.map tk=(k.take l.length).map tk) (hcap:∀a n c,v2=.slice a n c→n≤c) (h:St o w R) :
  CallV π Z 29 #[v,v2,.int .i64 short] w fun r w'=>r=.bool true∧St o w' R:=by
 obtain ⟨a,c,rfl⟩:=(hx w h).1.form
 obtain ⟨b,e,rfl⟩:=(hy w h).1.form
 have hc:=hcap _ _ _ rfl
 have hlx:=(hx w h).1.2.1
 have hly:=(hy w h).1.2.1
 simp only [maxLen] at hlx hly
 refine f29.calls ?_
 unfold f29.sh
 have h1:(l.length:Int)≤k.length:=by omega
 (try simp only [ln_22_3,o_leq,h1,decide_true,o_pickT,guardW_true,o_sub])
 rw [wr_i64 (x:=(k.length:Int) - l.length) (by omega) (by omega)]
 (try simp only [hs,decide_true,o_pickT,guardW_true,ln_22_3])
 refine r1 (run_slice_to el22 b k.length e .i64 _ (by omega) (by omega) _) ?_
 rw [Int.toNat_natCast]
 refine (eqTs Z hx (fun w hw=>(hy w hw).take l.length hle) h).mono fun r w1 ⟨⟨bb,hr,hb⟩,hS⟩=>?_
 subst hr
 obtain rfl:=hb.2 he
 (try simp only [])
 exact ⟨by first | rfl | trivial,hS⟩
theorem lOpenHD {size:Nat} {init:List (List Tx)} {last:List Tx} {tail:Bs} {s:Nat} (h1:1≤size) (h2:size≤64) (hl:d.live) (hd:HD d 3 (sgL init++[(frT last++tail,s)])) (ht:frst tail=none) (hF:Fit 0 0 (init.flatten++last)) (hne:∀c ∈ init,c ≠ []) (hn:init.length≤100)
  (hN:Names o) (hB:Bits o) (ho:old o ∈ R) (h:St o w (DiskM g d::R)) :
  CallV π Z 15 #[.pointer (some ⟨g,0,none⟩),.int .i64 3,.int .i64 size,.agg (zx 0 0).toArray] w fun r w'=>∃gl us d' s',r=.tuple #[.pointer (some ⟨gl,0,none⟩),.int .i64 0]∧us.map tk=(init.flatten++last).map tk∧HD d' 3 (sgL init++[(frT last,s')])∧d'.ok∧d'.live∧d'.room=d.room∧(tail=[]→d'=d) ∧
   St o w' (LgM gl g ⟨3,size,init.length+1,last.length,(lastZ 0 0 (init.flatten++last)).1,(lastZ 0 0 (init.flatten++last)).2,us⟩::DiskM g d'::R):=by
 have hk:d.ok:=by obtain ⟨_,_,hk,_⟩:=DiskM.open h; exact hk
 have hlen:(sgL init++[(frT last++tail,s)]).length=init.length+1:=by simp [sgL]
 have hsg:=hd.seg hk (by omega) (by rw [hlen]; omega)
 rw [hlen] at hsg
 refine (lOpen Z (g:=g) (d:=d) 3 size 0 0 (init.length+1) (by omega) (by omega) (by omega) hsg (fun i hi=>hd.isAt hk (by rw [hlen]; exact hi)) (hd.hex (by rw [hlen]; omega)) hN hB ho h).mono fun r w' hr=>?_
 have e0:opE d 3 size (init.length+1)=0:=by
  unfold opE
  rw [if_neg (by omega),hl.on,if_neg (by decide),if_neg (by omega)]
 rcases hr with ⟨hb,_⟩ | ⟨_,res,hR,hr⟩
 ·exact absurd e0 hb
 obtain ⟨us,d',s',hus,hres,hd',hk',hl',hrm,hsm⟩:=open_hd (a:=3) (by omega) (by omega) hk hl hd ht hF hne hn hR
 subst hres
 rcases hr with ⟨x,d2,e1,_⟩ | ⟨l,d2,gl,e1,rfl,hS⟩
 ·cases e1
 ·injection e1 with e1 e2
  injection e1 with e1
  injection e2 with _ e2
  subst e1 e2
  exact ⟨gl,us,d',s',rfl,hus,hd',hk',hl',hrm,hsm,hS⟩
end
end Go.Proofs.YtbdfhfceffkhgaaGreatDoor


/- A log that is created on an empty disk: all of it, or what its segments hold where the power went, plainly. -/
set_option linter.unusedVariables false
set_option linter.unusedSimpArgs false
namespace Go.Proofs.YtbdfhfceffkhgaaGreatDoor
open Go.Sh
open Tryz renaming prog → π
theorem Fit.all0:∀{ts:List Tx} {e n:Int},Fit e n ts→∀t ∈ ts,lchk t 0 0=0
 | [],_,_,_,_,ht=>by cases ht
 | x::ts,e,n,h,t,ht=>by
  rcases List.mem_cons.1 ht with rfl | ht
  ·obtain ⟨h1,h2,h3⟩:=lchk_ok.1 h.1.2
   have hn:=(chkT_n h1).resolve_left h2
   have hu:=hok_le h.1.1.1 (show 0 < 5 by omega)
   have he:0≤t.e:=hu.1
   refine lchk_ok.2 ⟨h1,h2,?_⟩
   unfold cmpZ cmpI
   split <;> (try split) <;> (try split) <;> (try split) <;> omega
  ·exact Fit.all0 h.2 t ht
def After (a:Nat) (ts:List Tx) (full:Bool) (d:Dk):Prop:=∃init c x rest,HD d a (sgL init++[(frT c++frT x,(frT c).length)])∧(∀c ∈ init,c ≠ [])∧init.length≤100∧ts=init.flatten++c++x++rest∧(full=true→x=[]∧rest=[])
theorem sg_end (a:Nat) (d:Dk) (init:List (List Tx)) (c:List Tx) (h:HD d a (sgL (init++[c]))):HD d a (sgL init++[(frT c++frT [],(frT c).length)]):=by
 have e:sgL (init++[c])=sgL init++[(frT c++frT [],(frT c).length)]:=by simp [sgL,frT,frms]
 rw [← e]; exact h
def MadeR (size:Nat) (ts:List Tx) (d:Dk) (r:Int × Dk × Nat × Nat):Prop:=
 (r.1=0∧r.2.1.on=true∧r.2.1.armed=d.armed∧r.2.1.room=d.room∧(∃init last,Seg size init last∧init.flatten++last=ts∧init.length+1≤60∧HD r.2.1 3 (sgL (init++[last]))∧r.2.2.1=init.length+1∧r.2.2.2=last.length)∧After 3 ts true r.2.1) ∨
 (r.1=23∧d.armed=true∧r.2.1.on=false∧r.2.1.armed=false∧r.2.1.room=d.room∧(HD r.2.1 3 []∨After 3 ts false r.2.1))
theorem created {size:Nat} {ts:List Tx} {d:Dk} (h1:1≤size) (h2:size≤64) (hw:WfT ts) (hc:∀t ∈ ts,chkT t=true) (hr:rises 0 0 (zxs ts)=true) (hn:ts.length≤300) (hn2:ts.length≤60 * size) (hk:d.ok) (hfs:d.fs=[]) (hon:d.on=true) (hrm:d.room=16777216) :
  Fit 0 0 ts∧crE d 3 size ts=0∧MadeR size ts d (crt 3 size (ts.length+1) 0 0 ts d):=by
 have hF:Fit 0 0 ts:=fit_of (Int.le_refl 0) (by unfold u32r; omega) (fun t ht=>⟨hc t ht,hw.2 t ht⟩) hr
 have he:crE d 3 size ts=0:=by
  unfold crE
  have e1:(ts.any fun t=>lchk t 0 0 != 0)=false:=by
   rw [List.any_eq_false]
   intro t ht
   rw [hF.all0 t ht]; decide
  rw [if_neg (by omega),e1,if_neg (by decide),hr,if_neg (by decide),hon,if_neg (by decide),HD.noSeg hfs]
  rfl
 refine ⟨hF,he,?_⟩
 obtain ⟨init,last,e1,hs,hfl,_⟩:=cks_sg h1 (ts.length+1) 0 ts (Nat.le_refl _) (.inl rfl)
 have hfew:init.length+1≤60:=hs.few (by rw [hfl]; exact hn2) (by omega)
 have hcr:CrtR 3 [] (cks size (ts.length+1) ([]:List (List Tx)).length ts) 0 d (crt 3 size (ts.length+1) ([]:List (List Tx)).length 0 ts d):=crt_hd (a:=3) (size:=size) (by omega) (by omega) (ts.length+1) [] 0 ts d hk hon (HD.nil hfs) (by simpa using hc) (by rw [hrm]; simp; omega) (by
  simp only [List.length_nil,Nat.zero_add]
  rw [e1,List.length_append]; simp only [List.length_cons,List.length_nil]; omega)
 simp only [List.length_nil] at hcr
 rw [e1] at hcr
 have hne:=hs.ne h1
 unfold MadeR
 rcases hcr with ⟨c1,c2,c3,c4,c5,c6,c7⟩ | ⟨c1,c2,c3,c4,c5,xs,c,ys,c6,c7⟩
 ·rw [List.nil_append] at c2 c6
  refine .inl ⟨c1,c3,c4,c5,⟨init,last,hs,hfl,hfew,c2,by rw [c6]; simp,by rw [c7]; simp⟩,init,last,[],[],sg_end _ _ _ _ c2,hne,by omega,by simp [hfl],fun _=>⟨rfl,rfl⟩⟩
 ·have hts:ts=(xs++c::ys).flatten:=by rw [← c6]; simp [hfl]
  have hxs:∀z ∈ xs,z ≠ []:=fun z hz=>by
   refine hne z ?_
   rcases List.eq_nil_or_concat ys with rfl | ⟨ys',y,rfl⟩
   ·have:=(List.append_inj' c6 rfl).1
    rw [this]; exact hz
   ·have e:init++[last]=(xs++c::ys')++[y]:=by rw [c6]; simp
    have:=(List.append_inj' e rfl).1
    rw [this]; exact List.mem_append_left _ hz
  have hxl:xs.length≤init.length:=by
   have:=congrArg List.length c6
   simp at this; omega
  refine .inr ⟨c1,c2,c3,c4,c5,?_⟩
  rw [List.nil_append] at c7
  rcases c7 with c7 | c7
  ·rcases List.eq_nil_or_concat xs with rfl | ⟨xs',z,rfl⟩
   ·exact .inl c7
   ·refine .inr ⟨xs',z,[],c++ys.flatten,sg_end _ _ _ _ (by simpa using c7),fun q hq=>hxs q (by simp [hq]),by simp at hxl; omega,?_,fun h=>by cases h⟩
    rw [hts]; simp
  ·refine .inr ⟨xs,[],c,ys.flatten,?_,hxs,by omega,by rw [hts]; simp,fun h=>by cases h⟩
   have e:sgL xs++[(frT []++frT c,(frT []).length)]=sgL xs++[(frT c,0)]:=by simp [frT,frms]
   rw [e]; exact c7
theorem After.back {ts:List Tx} {full:Bool} {d:Dk} (h:After 3 ts full d) (hk:d.ok) (hoff:d.on=false) (harm:d.armed=false) (hF:Fit 0 0 ts) (ks:List Int) :
  ∃init last tail s rest,frst tail=none∧HD (d.start ks) 3 (sgL init++[(frT last++tail,s)])∧(d.start ks).live∧(∀c ∈ init,c ≠ [])∧init.length≤100∧ts=init.flatten++last++rest∧Fit 0 0 (init.flatten++last)∧(full=true→rest=[]):=by
 obtain ⟨init,c,x,rest,h1,h2,h3,h4,h5⟩:=h
 obtain ⟨j,tail,s,hj,ht,hd,hl,_⟩:=start_found (a:=3) (by omega) hk hoff harm h3 h1 (fun t ht=>by
  have:t ∈ ts:=by rw [h4]; simp [ht]
  exact (hF.mem t this).2) ks
 have e:ts=init.flatten++(c++x.take j)++(x.drop j++rest):=by
  rw [h4]
  simp only [List.append_assoc]
  rw [← List.append_assoc (x.take j),List.take_append_drop]
 refine ⟨init,c++x.take j,tail,s,x.drop j++rest,ht,hd,hl,h2,h3,e,?_,fun hf=>by
  obtain ⟨rfl,rfl⟩:=h5 hf
  simp⟩
 rw [e,Fit.app] at hF
 exact hF.1
end Go.Proofs.YtbdfhfceffkhgaaGreatDoor


/- A life of a log as it comes in; numbers copied; the power goes. -/
set_option linter.unusedVariables false
set_option linter.unusedSimpArgs false
namespace Go.Proofs.YtbdfhfceffkhgaaGreatDoor
open Go.Sh
open Tryz renaming prog → π
def TxsV (w:World) (v:Value):Prop:=∃a c ts,v=.slice a (List.length ts) c∧ts.length≤c∧WfT ts∧RdT w (.slice a ts.length c) ts
theorem txsV_of {w:World} {cs:List Value} (h:TxsC w cs):∃v,cs=[v]∧TxsV w v:=by
 obtain ⟨⟨v,rfl,l,hl,hwf,hr⟩,a,n,c,hv,hnc⟩:=h
 injection hv with hv
 subst hv
 exact ⟨_,rfl,txsC_open ⟨⟨_,rfl,l,hl,hwf,hr⟩,a,n,c,rfl,hnc⟩⟩
def IntsV (w:World) (v:Value):Prop:=∃l:List Int,l.length * 8≤140737488351232∧(∀n ∈ l,-9223372036854775808≤n∧n≤9223372036854775807)∧Rd w 1 v l.length (ci l)
def cuC (v1 v2:Value) (size at_:Int) (v3:Value):List Value:=[v1,v2,.int .i64 size,.int .i64 at_,v3]
def CutO (w:World) (cs:List Value):Prop:=∃v1 v2 size at_ v3,cs=cuC v1 v2 size at_ v3∧TxsV w v1∧TxsV w v2∧(-9223372036854775808≤size∧size≤9223372036854775807)∧(-9223372036854775808≤at_∧at_≤9223372036854775807)∧IntsV w v3
theorem opn_CutO (w:World):Opn π w 25 (CutO w):=(opn_struct Tryz.underlying25 [(1,TxsC w),(1,TxsC w),(1,IntO w),(1,IntO w),(1,IntsO w)] (by kernel_rfl) (by kernel_rfl)
 ⟨by kernel_rfl,opn_TxsC w,by kernel_rfl,opn_TxsC w,by kernel_rfl,opn_IntO w,by kernel_rfl,opn_IntO w,by kernel_rfl,opn_ints_of el23 Tryz.underlying3 w,trivial⟩).mono (by
  rintro cs ⟨_,_,rfl,_,hts,_,_,rfl,_,hts2,_,_,rfl,_,⟨ca,rfl,hca⟩,_,_,rfl,_,⟨im,rfl,him⟩,_,_,rfl,_,⟨v3,rfl,hv3⟩,h4⟩
  simp only [Sh.Cut] at h4
  subst h4
  obtain ⟨v,rfl,hv⟩:=txsV_of hts
  obtain ⟨v2,rfl,hv2⟩:=txsV_of hts2
  exact ⟨v,v2,ca,im,v3,rfl,hv,hv2,hca,him,hv3⟩)
section
variable (Z:PZ) {o w:World} {R As:List HProp} {g:Nat} {d:Dk}
theorem dOffM (h:St o w (DiskM g d::R)):CallV π Z 25 #[.pointer (some ⟨g,0,none⟩)] w fun r w'=>r=.tuple #[]∧St o w' (DiskM g d.off::R):=by
 obtain ⟨v,L,hk,hL,hS⟩:=DiskM.open h
 unfold DiskO at hS
 refine (dOff Z hS).mono fun r w' ⟨hr,hS⟩=>⟨hr,DiskM.shut (v:=v) (L:=L) (u:=total d.fs) (Dk.off_ok hk) hL rfl (by unfold DiskO; exact hS)⟩
theorem copyInts {x:Value} {ks:List Int} (hb:ks.length * 8≤140737488351232) (hx:Ent o R fun w=>Rd w 1 x ks.length (ci ks)) (h:St o w R):CallV π Z 27 #[x] w fun r w'=>St o w' (own 3 1 r ks.length (ci ks)::R):=by
 obtain ⟨a,c,rfl⟩:=(hx w h).form
 have hle:=(hx w h).2.1
 simp only [maxLen] at hle
 refine f27.calls ?_
 unfold f27.sh
 refine ⟨fun m x y w'=>∃i:Nat,y=.int .i64 i∧i≤ks.length∧m+i=ks.length∧St o w' (own 3 1 x i (ci (ks.take i))::R),⟨ks.length,0,rfl,Nat.zero_le _,rfl,h.own_nil _ _⟩,?_⟩
 clear h
 rintro m x _ w1 ⟨i,rfl,hi,hm,hS⟩ _
 by_cases hlt:(i:Int) < (ks.length:Int)
 ·have hi1:i < ks.length:=by omega
  (try simp only [o_add,ln_23_3,o_lss,hlt,decide_true,condT])
  obtain ⟨p,hp,hc,_⟩:=(hx w1 hS.drop).index el23 .i64 i hi1
  rw [ci_at hi1] at hc
  refine r1 (hp _) (r_load one3 hc (r_push el23 hS _ rfl (by omega) (by simp only [maxLen]; omega) fun v2 w2 hS=>?_))
  rw [wr_i64 (x:=(i:Int)+1) (by omega) (by omega)]
  refine ⟨m - 1,by omega,i+1,rfl,by omega,by omega,?_⟩
  have e:ci (ks.take (i+1))=ci (ks.take i)++[.int .i64 ks[i]]:=by
   unfold ci
   rw [List.take_succ_eq_append_getElem hi1,List.map_append]
   rfl
  rw [e]
  exact hS
 ·obtain rfl:i=ks.length:=by omega
  rw [List.take_length] at hS
  (try simp only [o_add,ln_23_3,o_lss,hlt,decide_false,condF])
  exact hS
end

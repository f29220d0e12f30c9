
/- A disk that holds the segments of one log alone, plainly. -/
import Derived.Test.YtbdfhfceffkhgaaGreatDoorL24
import Derived.Test.YtbdfhfceffkhgaaGreatDoorL10
import Derived.Test.YtbdfhfceffkhgaaGreatDoorD13
set_option linter.unusedVariables false
set_option linter.unusedSimpArgs false
namespace Go.Proofs.YtbdfhfceffkhgaaGreatDoor
open Go.Sh
open Tryz renaming prog → π
def HD (d:Dk) (a:Nat) (L:List (Bs × Nat)):Prop:=∀f,f ∈ d.fs ↔ ∃i,∃hi:i < L.length,f=⟨nameB a (i+1),L[i].1,L[i].2⟩
section
variable {d:Dk} {a:Nat} {L:List (Bs × Nat)}
theorem nm_inj {i k:Nat} (ha:a < 18446744073709551616) (hi:i < 1000000) (hk:k < 1000000) (h:nameB a (i+1)=nameB a (k+1)):i=k:=by
 have:=(nameB_inj ha ha (by omega) (by omega) h).2
 omega
theorem HD.has (h:HD d a L) {i:Nat} (hi:i < L.length):has d.fs (nameB a (i+1)) L[i].1 L[i].2:=(h _).2 ⟨i,hi,rfl⟩
theorem HD.isAt (h:HD d a L) (hk:d.ok) {i:Nat} (hi:i < L.length):isAt d.fs (nameB a (i+1))=true:=isAt_has hk.srt (h.has hi)
theorem HD.bytes (h:HD d a L) (hk:d.ok) {i:Nat} (hi:i < L.length):d.bytes (nameB a (i+1))=L[i].1:=by
 obtain ⟨h1,h2⟩:=has_at hk.srt (h.has hi)
 unfold Dk.bytes
 rw [List.getElem?_eq_getElem h1,h2]
 rfl
theorem HD.nil (h:d.fs=[]):HD d a []:=fun f=>by rw [h]; simp
theorem HD.off (h:HD d a L):HD d.off a L:=h
theorem HD.sync (h:HD d a L) (hk:d.ok) (ha:a < 18446744073709551616) (hL:L.length≤1000) {i:Nat} (hi:i < L.length) {d':Dk} (hd:d'.fs=d.fs.modify (ix d.fs (nameB a (i+1))) (fun f=>{ f with sy:=f.by_.length })):HD d' a (L.set i (L[i].1,L[i].1.length)):=fun f=>by
 obtain ⟨h1,h2⟩:=has_at hk.srt (h.has hi)
 rw [hd,modify_set h1,mem_set hk.srt h1,h2]
 constructor
 ·rintro (rfl | ⟨hf,hn⟩)
  ·exact ⟨i,by rw [List.length_set]; exact hi,by rw [List.getElem_set_self]⟩
  ·obtain ⟨j,hj,rfl⟩:=(h f).1 hf
   refine ⟨j,by rw [List.length_set]; exact hj,?_⟩
   rw [List.getElem_set_ne (fun e=>hn (by subst e; rfl))]
 ·rintro ⟨j,hj,rfl⟩
  rw [List.length_set] at hj
  by_cases hij:i=j
  ·subst hij
   rw [List.getElem_set_self]
   exact .inl rfl
  ·rw [List.getElem_set_ne hij]
   exact .inr ⟨h.has hj,fun e=>hij (nm_inj ha (by omega) (by omega) e).symm⟩
end
end Go.Proofs.YtbdfhfceffkhgaaGreatDoor


/- What a put leaves; a log that is created while nothing takes the power, plainly. -/
set_option linter.unusedVariables false
set_option linter.unusedSimpArgs false
namespace Go.Proofs.YtbdfhfceffkhgaaGreatDoor
open Go.Sh
open Tryz renaming prog → π
def synF (fs:List Fil) (n:Bs):List Fil:=fs.modify (ix fs n) (fun f=>{ f with sy:=f.by_.length })
def PutR (d:Dk) (n p:Bs):Prop:=
 ((d.put n p).1=0∧nameOk n=true∧(d.put n p).2={ d.wrote.wrote with fs:=synF (appF d.fs n p) n }) ∨
 ((d.put n p).1=23∧d.armed=true∧(d.put n p).2=d.off) ∨
 ((d.put n p).1=23∧d.armed=true∧nameOk n=true∧(d.put n p).2={ d.wrote.off with fs:=appF d.fs n p }) ∨
 ((d.put n p).1=22∧(d.put n p).2=d∧(nameOk n=false∨(isAt d.fs n=false∧64≤d.fs.length))) ∨
 ((d.put n p).1=21∧(d.put n p).2=d∧d.room < total d.fs+p.length)
theorem put_cases {d:Dk} (hk:d.ok) (hon:d.on=true) (n p:Bs):PutR d n p:=by
 have hask:d.asked [n]=if nameOk n=false then 22 else 0:=by
  unfold Dk.asked
  rw [hon]; simp
 unfold PutR Dk.put
 cases hn:nameOk n with
 | false=>
  rw [hn,if_pos rfl] at hask
  have e:d.append n p=(22,d):=by unfold Dk.append; rw [hask,if_pos (by decide)]
  rw [e]
  exact .inr (.inr (.inr (.inl ⟨rfl,rfl,.inl rfl⟩)))
 | true=>
 rw [hn,if_neg (by decide)] at hask
 by_cases h1:isAt d.fs n=false∧64≤d.fs.length
 ·have e:d.append n p=(22,d):=by unfold Dk.append; rw [hask,if_neg (by simp),if_pos h1]
  rw [e]
  exact .inr (.inr (.inr (.inl ⟨rfl,rfl,.inr h1⟩)))
 by_cases h2:d.room < total d.fs+p.length
 ·have e:d.append n p=(21,d):=by unfold Dk.append; rw [hask,if_neg (by simp),if_neg h1,if_pos h2]
  rw [e]
  exact .inr (.inr (.inr (.inr ⟨rfl,rfl,h2⟩)))
 cases h3:d.stops with
 | true=>
  have ha:d.armed=true:=by unfold Dk.stops at h3; simp at h3; exact h3.1
  have e:d.append n p=(23,d.off):=by unfold Dk.append; rw [hask,if_neg (by simp),if_neg h1,if_neg h2,if_pos h3]
  rw [e]
  exact .inr (.inl ⟨rfl,ha,rfl⟩)
 | false=>
 have e:d.append n p=(0,{ d.wrote with fs:=appF d.fs n p }):=by unfold Dk.append; rw [hask,if_neg (by simp),if_neg h1,if_neg h2,if_neg (by rw [h3]; decide)]; rfl
 rw [e,if_pos rfl]
 have hat:isAt (appF d.fs n p) n=true:=by
  have hs:Srt (appF d.fs n p):=by
   have:=(Dk.append_ok hk n p).srt
   rw [e] at this; exact this
  rw [isAt_iff hs]
  by_cases hh:hasNo d.fs n
  ·exact ⟨_,(appF_has hk.srt).2 (.inr (.inr ⟨hh,rfl⟩)),rfl⟩
  ·cases hi:isAt d.fs n with
   | false=>exact absurd ((isAt_false hk.srt).1 hi) hh
   | true=>
    obtain ⟨f,hf,hfn⟩:=(isAt_iff hk.srt n).1 hi
    refine ⟨⟨n,f.by_++p,f.sy⟩,(appF_has hk.srt).2 (.inr (.inl ⟨f.by_,f.sy,?_,rfl⟩)),rfl⟩
    unfold has
    rw [← hfn]; exact hf
 have hf:({ d.wrote with fs:=appF d.fs n p }:Dk).found n=0:=by
  unfold Dk.found
  rw [show ({ d.wrote with fs:=appF d.fs n p }:Dk).asked [n]=0 from hask,if_neg (by simp),if_pos hat]
 cases h4:({ d.wrote with fs:=appF d.fs n p }:Dk).stops with
 | true=>
  have ha:d.armed=true:=by unfold Dk.stops at h4; simp [Dk.wrote] at h4; exact h4.1
  have e2:({ d.wrote with fs:=appF d.fs n p }:Dk).sync n=(23,{ d.wrote.off with fs:=appF d.fs n p }):=by unfold Dk.sync; rw [hf,if_neg (by simp),if_pos h4]; rfl
  rw [e2]
  exact .inr (.inr (.inl ⟨rfl,ha,rfl,rfl⟩))
 | false=>
  have e2:({ d.wrote with fs:=appF d.fs n p }:Dk).sync n=(0,{ d.wrote.wrote with fs:=synF (appF d.fs n p) n }):=by unfold Dk.sync; rw [hf,if_neg (by simp),if_neg (by rw [h4]; decide)]; rfl
  rw [e2]
  exact .inl ⟨rfl,rfl,rfl⟩
theorem put_ok {d:Dk} (hk:d.ok) (n p:Bs):(d.put n p).2.ok:=by
 unfold Dk.put
 split
 ·exact Dk.sync_ok (Dk.append_ok hk n p) n
 ·exact Dk.append_ok hk n p
structure Dk.live (d:Dk):Prop where
 on:d.on=true
 arm:d.armed=false
theorem put_live {d:Dk} (hk:d.ok) (hl:d.live) (n p:Bs):(d.put n p).2.live∧(((d.put n p).1=0∧(d.put n p).2.writes=d.wrote.wrote.writes)∨((d.put n p).1 ≠ 0∧(d.put n p).2=d)):=by
 rcases put_cases hk hl.on n p with ⟨h1,_,h2⟩ | ⟨_,ha,_⟩ | ⟨_,ha,_⟩ | ⟨h1,h2,_⟩ | ⟨h1,h2,_⟩
 ·exact ⟨⟨by rw [h2]; exact hl.on,by rw [h2]; exact hl.arm⟩,.inl ⟨h1,by rw [h2]⟩⟩
 ·rw [hl.arm] at ha; cases ha
 ·rw [hl.arm] at ha; cases ha
 ·exact ⟨by rw [h2]; exact hl,.inr ⟨by rw [h1]; decide,h2⟩⟩
 ·exact ⟨by rw [h2]; exact hl,.inr ⟨by rw [h1]; decide,h2⟩⟩
theorem wrap_small {x:Int} (h0:0≤x) (h1:x≤1000000):IntKind.i64.wrap x=x:=by
 rw [wr_i64 (by omega) (by omega)]
theorem crt_live {num:Int} {size:Nat}:∀(f k fil:Nat) (ts:List Tx) (d:Dk),d.ok→d.live→0≤d.writes→d.writes+2 * f≤1000000→(f ≠ 0→k=0∨1≤k)→fil≤ts.length+fil →
  (crt num size f k fil ts d).2.1.ok∧(crt num size f k fil ts d).2.1.live∧0≤(crt num size f k fil ts d).2.1.writes∧(crt num size f k fil ts d).2.1.writes≤d.writes+2 * f ∧
  k≤(crt num size f k fil ts d).2.2.1∧(crt num size f k fil ts d).2.2.1≤k+f∧(crt num size f k fil ts d).2.2.2≤max fil size∧(f ≠ 0→(crt num size f k fil ts d).1=0→1≤(crt num size f k fil ts d).2.2.1)
 | 0,k,fil,ts,d,hk,hl,h0,hw,_,_=>by
  simp only [crt]
  exact ⟨hk,hl,h0,by omega,by omega,by omega,by omega,fun h=>absurd rfl h⟩
 | f+1,k,fil,ts,d,hk,hl,h0,hw,_,_=>by
  by_cases hc:k=0∨ts ≠ []
  ·obtain ⟨hl2,hp⟩:=put_live hk hl (nameI num (k+1:Nat)) (frT (ts.take size))
   by_cases hz:(d.put (nameI num (k+1:Nat)) (frT (ts.take size))).1=0
   ·have e:crt num size (f+1) k fil ts d=crt num size f (k+1) (ts.take size).length (ts.drop size) (d.put (nameI num (k+1:Nat)) (frT (ts.take size))).2:=by rw [crt,if_pos hc,if_pos hz]
    rw [e]
    rcases hp with ⟨_,hp⟩ | ⟨hp,_⟩
    ·have hwr:(d.put (nameI num (k+1:Nat)) (frT (ts.take size))).2.writes=d.writes+2:=by
      rw [hp]
      show IntKind.i64.wrap (IntKind.i64.wrap (d.writes+1)+1)=_
      rw [wrap_small (x:=d.writes+1) (by omega) (by omega),wrap_small (by omega) (by omega)]; omega
     obtain ⟨g1,g2,g3,g4,g5,g6,g7,g8⟩:=crt_live f (k+1) (ts.take size).length (ts.drop size) _ (put_ok hk (nameI num (k+1:Nat)) (frT (ts.take size))) hl2 (by omega) (by omega) (fun _=>.inr (by omega)) (by omega)
     have hts:(ts.take size).length≤size:=by rw [List.length_take]; omega
     exact ⟨g1,g2,g3,by omega,by omega,by omega,by omega,fun _ _=>by omega⟩
    ·exact absurd hz hp
   ·have e:crt num size (f+1) k fil ts d=((d.put (nameI num (k+1:Nat)) (frT (ts.take size))).1,(d.put (nameI num (k+1:Nat)) (frT (ts.take size))).2,k,fil):=by rw [crt,if_pos hc,if_neg hz]
    rw [e]
    rcases hp with ⟨hp,_⟩ | ⟨_,hp⟩
    ·exact absurd hp hz
    ·simp only [hp]
     exact ⟨hk,hl,h0,by omega,by omega,by omega,by omega,fun _ h=>absurd h hz⟩
  ·have e:crt num size (f+1) k fil ts d=(0,d,k,fil):=by rw [crt,if_neg hc]
   rw [e]
   simp only [not_or] at hc
   exact ⟨hk,hl,h0,by simp only []; omega,by simp,by simp only []; omega,by simp only []; omega,fun _ _=>by simp only []; omega⟩
end Go.Proofs.YtbdfhfceffkhgaaGreatDoor


/- The numbers of the segments that a disk holds, plainly; the disk behind a loss of power, behind a Cut. -/
set_option linter.unusedVariables false
set_option linter.unusedSimpArgs false
namespace Go.Proofs.YtbdfhfceffkhgaaGreatDoor
open Go.Sh
open Tryz renaming prog → π
theorem lt_ext:∀{fs gs:List Int},fs.Pairwise (· < ·)→gs.Pairwise (· < ·)→(∀f,f ∈ fs ↔ f ∈ gs)→fs=gs
 | [],[],_,_,_=>rfl
 | [],g::gs,_,_,h=>by have:=(h g).2 List.mem_cons_self; cases this
 | f::fs,[],_,_,h=>by have:=(h f).1 List.mem_cons_self; cases this
 | f::fs,g::gs,hf,hg,h=>by
  have hf':=List.pairwise_cons.1 hf
  have hg':=List.pairwise_cons.1 hg
  have e:f=g:=by
   rcases List.mem_cons.1 ((h f).1 List.mem_cons_self) with e | h1
   ·exact e
   rcases List.mem_cons.1 ((h g).2 List.mem_cons_self) with e | h2
   ·exact e.symm
   have a:=hg'.1 f h1
   have b:=hf'.1 g h2
   omega
  subst e
  have:fs=gs:=lt_ext hf'.2 hg'.2 fun x=>by
   constructor
   ·intro hx
    rcases List.mem_cons.1 ((h x).1 (List.mem_cons_of_mem _ hx)) with e | h1
    ·have:=hf'.1 x hx; omega
    ·exact h1
   ·intro hx
    rcases List.mem_cons.1 ((h x).2 (List.mem_cons_of_mem _ hx)) with e | h1
    ·have:=hg'.1 x hx; omega
    ·exact h1
  rw [this]
theorem segNo_name {a i:Nat} (ha:1≤a) (hi:i < 4095):segNo a (nameB a (i+1))=some ((i+1:Nat):Int):=by
 unfold segNo nameB
 have e1:(preB a++hexL (i+1)).take (preB a).length=preB a:=List.take_left
 have e2:(preB a++hexL (i+1)).drop (preB a).length=hexL (i+1):=List.drop_left
 have e3:unhex (hexL (i+1))=i+1:=unhex_hexR 16 (i+1) (by rw [p16]; omega)
 rw [e1,e2,e3,if_pos]
 refine ⟨rfl,?_⟩
 unfold nameI
 rw [if_neg (by omega)]
 rfl
theorem segNos_nodup (a:Nat):∀{fs:List Fil},Srt fs→(segNos a fs).Pairwise (· ≠ ·)
 | [],_=>List.Pairwise.nil
 | f::fs,h=>by
  have h':=List.pairwise_cons.1 h
  unfold segNos
  rw [List.filterMap_cons]
  cases hs:segNo a f.nm with
  | none=>exact segNos_nodup a h'.2
  | some k=>
   refine List.pairwise_cons.2 ⟨fun k' hk' e=>?_,segNos_nodup a h'.2⟩
   obtain ⟨g,hg,hgs⟩:=List.mem_filterMap.1 hk'
   subst e
   have key:∀nm,segNo a nm=some k→nameI a k=nm:=fun nm hh=>by
    unfold segNo at hh
    split at hh
    ·rename_i hc
     injection hh with hh
     rw [← hh]; exact hc.2
    ·cases hh
   have:=h'.1 g hg
   rw [← key _ hs,← key _ hgs,blt_irr] at this
   cases this
section
variable {d:Dk} {a:Nat} {L:List (Bs × Nat)}
theorem HD.seg (h:HD d a L) (hk:d.ok) (ha:1≤a) (hL:L.length≤1000):sortI (segNos a d.fs)=(List.range L.length).map fun i=>((i+1:Nat):Int):=by
 have hp:(sortI (segNos a d.fs)).Perm (segNos a d.fs):=List.mergeSort_perm ..
 have hs:(sortI (segNos a d.fs)).Pairwise (fun x y=>decide (x≤y)=true):=List.pairwise_mergeSort (fun x y z h1 h2=>by simp at *; omega) (fun x y=>by simp; omega) _
 have hn:(sortI (segNos a d.fs)).Pairwise (· ≠ ·):=(hp.pairwise_iff (fun h=>Ne.symm h)).2 (segNos_nodup a hk.srt)
 refine lt_ext ((List.Pairwise.and hs hn).imp fun h1=>?_) ?_ fun x=>?_
 ·have:=h1.1; have:=h1.2; simp at *; omega
 ·rw [List.pairwise_map]
  exact List.pairwise_lt_range.imp fun h1=>by omega
 ·rw [hp.mem_iff]
  constructor
  ·intro hx
   obtain ⟨f,hf,hfs⟩:=List.mem_filterMap.1 hx
   obtain ⟨i,hi,rfl⟩:=(h f).1 hf
   rw [segNo_name ha (by omega)] at hfs
   injection hfs with hfs
   exact List.mem_map.2 ⟨i,List.mem_range.2 hi,hfs⟩
  ·intro hx
   obtain ⟨i,hi,rfl⟩:=List.mem_map.1 hx
   have hi:=List.mem_range.1 hi
   exact List.mem_filterMap.2 ⟨_,h.has hi,segNo_name ha (by omega)⟩
theorem HD.hex (h:HD d a L) (hL:L.length≤1000):∀f ∈ d.fs,∀rest,f.nm=preB a++rest→isHex rest∧1≤rest.length∧rest.length≤15:=fun f hf rest hr=>by
 obtain ⟨i,hi,rfl⟩:=(h f).1 hf
 have e:hexL (i+1)=rest:=List.append_cancel_left hr
 subst e
 have h1:(hexL (i+1)).length≤2+1:=hexR_small 16 2 (i+1) (by omega)
 exact ⟨hexL_hex (by omega),hexR_pos 15 (i+1),by omega⟩
def Left (L L':List (Bs × Nat)):Prop:=L'.length=L.length∧∀i (h:i < L.length) (h':i < L'.length),∃k,L[i].2≤k∧k≤max L[i].2 L[i].1.length∧L'[i]=(L[i].1.take k,k)
theorem HD.start (h:HD d a L) (hk:d.ok) (ha:a < 18446744073709551616) (hL:L.length≤1000) (ks:List Int) (hoff:d.on=false):∃L',Left L L'∧HD (d.start ks) a L'∧(d.start ks).on=true∧(d.start ks).armed=d.armed∧(d.start ks).room=d.room:=by
 have e:d.start ks={ d with on:=true,fs:=keepF d.fs ks }:=by unfold Dk.start; rw [if_neg (by rw [hoff]; decide)]
 have hk2:=Dk.start_ok hk ks
 rw [e] at hk2 ⊢
 have key:∀i,∃p:Bs × Nat,∀(hi:i < L.length),(⟨nameB a (i+1),p.1,p.2⟩:Fil) ∈ keepF d.fs ks∧∃k,L[i].2≤k∧k≤max L[i].2 L[i].1.length∧p=(L[i].1.take k,k):=fun i=>by
  by_cases hi:i < L.length
  ·obtain ⟨g,hg,hgn⟩:=keepF_all (ks:=ks) (h.has hi)
   obtain ⟨f,hf,hfn,l,hl,hb,hs⟩:=keepF_has hg
   have hff:=hk.srt.uniq hf (h.has hi) (hfn.trans hgn)
   subst hff
   simp only at hl hb hs hgn
   refine ⟨(g.by_,g.sy),fun _=>⟨?_,L[i].2+l,by omega,by omega,?_⟩⟩
   ·rw [← hgn]; exact hg
   ·rw [hb,hs]
  ·exact ⟨([],0),fun hh=>absurd hh hi⟩
 obtain ⟨F,hF⟩:=Classical.axiomOfChoice key
 refine ⟨(List.range L.length).map F,⟨by simp,fun i hi hi'=>?_⟩,fun f=>⟨fun hf=>?_,?_⟩,rfl,rfl,rfl⟩
 ·obtain ⟨_,k,h1,h2,h3⟩:=hF i hi
  exact ⟨k,h1,h2,by simp [h3]⟩
 ·obtain ⟨f0,hf0,hfn,_⟩:=keepF_has hf
  obtain ⟨i,hi,rfl⟩:=(h f0).1 hf0
  refine ⟨i,by simpa using hi,?_⟩
  have:=hk2.srt.uniq hf (hF i hi).1 hfn.symm
  simp [this]
 ·rintro ⟨i,hi,rfl⟩
  have hi:i < L.length:=by simpa using hi
  simpa using (hF i hi).1
theorem HD.cut (h:HD d a L) (hk:d.ok) (ha:a < 18446744073709551616) (hL:L.length≤1000) {i k:Nat} (hi:i < L.length) (hkl:k≤L[i].1.length) (hon:d.on=true) (harm:d.armed=false) (hn:nameOk (nameB a (i+1))=true) :
  (d.cut (nameB a (i+1)) k).1=0∧HD (d.cut (nameB a (i+1)) k).2 a (L.set i (L[i].1.take k,k))∧(d.cut (nameB a (i+1)) k).2.live∧(d.cut (nameB a (i+1)) k).2.room=d.room:=by
 obtain ⟨h1,h2⟩:=has_at hk.srt (h.has hi)
 have hf:d.found (nameB a (i+1))=0:=by
  unfold Dk.found Dk.asked
  simp [hon,hn,h.isAt hk hi]
 have hs:d.stops=false:=by unfold Dk.stops; simp [harm]
 have e:d.cut (nameB a (i+1)) k=(0,{ d.wrote with fs:=d.fs.modify (ix d.fs (nameB a (i+1))) fun f=>{ f with by_:=f.by_.take k,sy:=k } }):=by
  unfold Dk.cut
  rw [hf,if_neg (by simp),List.getElem?_eq_getElem h1,h2,if_neg (by simp; omega),if_neg (by rw [hs]; decide)]
  rfl
 rw [e]
 refine ⟨rfl,fun f=>?_,⟨hon,harm⟩,rfl⟩
 show f ∈ d.fs.modify _ _ ↔ _
 rw [modify_set h1,mem_set hk.srt h1,h2]
 constructor
 ·rintro (rfl | ⟨hf,hn⟩)
  ·exact ⟨i,by rw [List.length_set]; exact hi,by rw [List.getElem_set_self]⟩
  ·obtain ⟨j,hj,rfl⟩:=(h f).1 hf
   refine ⟨j,by rw [List.length_set]; exact hj,?_⟩
   rw [List.getElem_set_ne (fun e=>hn (by subst e; rfl))]
 ·rintro ⟨j,hj,rfl⟩
  rw [List.length_set] at hj
  by_cases hij:i=j
  ·subst hij
   rw [List.getElem_set_self]
   exact .inl rfl
  ·rw [List.getElem_set_ne hij]
   exact .inr ⟨h.has hj,fun e=>hij (nm_inj ha (by omega) (by omega) e).symm⟩
end
end Go.Proofs.YtbdfhfceffkhgaaGreatDoor


/- A put on a disk that holds the segments of one log alone; a log that is created on it, plainly. -/
set_option linter.unusedVariables false
set_option linter.unusedSimpArgs false
namespace Go.Proofs.YtbdfhfceffkhgaaGreatDoor
open Go.Sh
open Tryz renaming prog → π
section
variable {d:Dk} {a:Nat} {L:List (Bs × Nat)}
theorem HD.perm (h:HD d a L) (hk:d.ok) (ha:a < 18446744073709551616) (hL:L.length≤1000):d.fs.Perm (L.zipIdx.map fun x=>⟨nameB a (x.2+1),x.1.1,x.1.2⟩):=by
 refine (List.perm_ext_iff_of_nodup ?_ ?_).2 fun f=>?_
 ·exact hk.srt.imp fun hlt e=>by rw [e,blt_irr] at hlt; cases hlt
 ·unfold List.Nodup
  rw [List.pairwise_iff_getElem]
  intro i j hi hj hij e
  simp only [List.length_map,List.length_zipIdx] at hi hj
  simp only [List.getElem_map,List.getElem_zipIdx,Nat.zero_add,Fil.mk.injEq] at e
  have:=nm_inj ha (by omega) (by omega) e.1
  omega
 ·rw [h f]
  constructor
  ·rintro ⟨i,hi,rfl⟩
   exact List.mem_map.2 ⟨(L[i],i),by rw [List.mem_zipIdx_iff_getElem?]; exact List.getElem?_eq_getElem hi,rfl⟩
  ·intro hf
   obtain ⟨⟨p,i⟩,hp,rfl⟩:=List.mem_map.1 hf
   rw [List.mem_zipIdx_iff_getElem?] at hp
   obtain ⟨hi,e⟩:=List.getElem?_eq_some_iff.1 hp
   exact ⟨i,hi,by simp only [] at e ⊢; rw [e]⟩
theorem HD.len (h:HD d a L) (hk:d.ok) (ha:a < 18446744073709551616) (hL:L.length≤1000):d.fs.length=L.length:=by
 have:=(h.perm hk ha hL).length_eq
 simpa using this
end
end Go.Proofs.YtbdfhfceffkhgaaGreatDoor


/- Segments of one length but the last; what Open finds behind a loss of power, plainly. -/
set_option linter.unusedVariables false
set_option linter.unusedSimpArgs false
namespace Go.Proofs.YtbdfhfceffkhgaaGreatDoor
open Go.Sh
open Tryz renaming prog → π
section
variable {α β:Type}
def Seg (size:Nat) (init:List (List α)) (last:List α):Prop:=(∀c ∈ init,c.length=size)∧last.length≤size∧(init ≠ []→last ≠ [])
theorem Seg.tail {size:Nat} {c:List α} {i:List (List α)} {l:List α} (h:Seg size (c::i) l):Seg size i l∧c.length=size∧l ≠ []:=⟨⟨fun x hx=>h.1 x (List.mem_cons_of_mem _ hx),h.2.1,fun _=>h.2.2 (by simp)⟩,h.1 c List.mem_cons_self,h.2.2 (by simp)⟩
theorem Seg.uniq {size:Nat}:∀{i i':List (List α)} {l l':List α},Seg size i l→Seg size i' l'→i.flatten++l=i'.flatten++l'→i=i'∧l=l'
 | [],[],l,l',_,_,e=>⟨rfl,by simpa using e⟩
 | [],c::i',l,l',h,h',e=>by
  obtain ⟨_,h2,h3⟩:=h'.tail
  have:=congrArg List.length e
  have hl:=List.length_pos_iff.2 h3
  have h4:=h.2.1
  simp at this; omega
 | c::i,[],l,l',h,h',e=>by
  obtain ⟨_,h2,h3⟩:=h.tail
  have:=congrArg List.length e
  have hl:=List.length_pos_iff.2 h3
  have h4:=h'.2.1
  simp at this; omega
 | c::i,c'::i',l,l',h,h',e=>by
  obtain ⟨h1,h2,_⟩:=h.tail
  obtain ⟨h1',h2',_⟩:=h'.tail
  rw [List.flatten_cons,List.flatten_cons,List.append_assoc,List.append_assoc] at e
  obtain ⟨e1,e2⟩:=List.append_inj e (by rw [h2,h2'])
  obtain ⟨e3,e4⟩:=h1.uniq h1' e2
  exact ⟨by rw [e1,e3],e4⟩
theorem Seg.map {size:Nat} {i:List (List α)} {l:List α} (h:Seg size i l) (F:α→β):Seg size (i.map (·.map F)) (l.map F):=
 ⟨fun c hc=>by obtain ⟨x,hx,rfl⟩:=List.mem_map.1 hc; rw [List.length_map]; exact h.1 x hx,by rw [List.length_map]; exact h.2.1,fun hn=>by
  have:=h.2.2 (fun e=>hn (by rw [e]; rfl))
  simpa using this⟩
theorem Seg.more {size:Nat} {i:List (List α)} {l:List α} (h:Seg size i l) (t:α) (hl:l.length < size):Seg size i (l++[t]):=⟨h.1,by simp; omega,fun _=>by simp⟩
theorem Seg.next {size:Nat} {i:List (List α)} {l:List α} (h:Seg size i l) (t:α) (h1:1≤size) (hl:size≤l.length):Seg size (i++[l]) [t]:=⟨fun c hc=>by
 rcases List.mem_append.1 hc with hc | hc
 ·exact h.1 c hc
 ·rw [List.mem_singleton.1 hc]; have:=h.2.1; omega,by simpa using h1,fun _=>by simp⟩
theorem Seg.ne {size:Nat} {i:List (List α)} {l:List α} (h:Seg size i l) (h1:1≤size):∀c ∈ i,c ≠ []:=fun c hc e=>by
 have:=h.1 c hc
 rw [e] at this; simp at this; omega
theorem Seg.len {size:Nat} {i:List (List α)} {l:List α} (h:Seg size i l):(i.flatten++l).length=i.length * size+l.length:=by
 have key:∀i:List (List α),(∀c ∈ i,c.length=size)→i.flatten.length=i.length * size:=fun i=>by
  induction i with
  | nil=>intro _; simp
  | cons c i ih=>
   intro hh
   rw [List.flatten_cons,List.length_append,hh c List.mem_cons_self,ih fun x hx=>hh x (List.mem_cons_of_mem _ hx),List.length_cons,Nat.add_mul]
   omega
 rw [List.length_append,key i h.1]
end
theorem tk_parts {x y:Tx} (h:tk x=tk y):x.hd=y.hd∧x.q.st=y.q.st:=⟨congrArg Prod.fst h,congrArg Prod.snd h⟩
end Go.Proofs.YtbdfhfceffkhgaaGreatDoor


/- Why a transaction is refused, plainly. -/
set_option linter.unusedVariables false
set_option linter.unusedSimpArgs false
namespace Go.Proofs.YtbdfhfceffkhgaaGreatDoor
open Go.Sh
open Tryz renaming prog → π
theorem lastZ_at (e n:Int) (ts:List Tx) (h:ts.length - 1 < ts.length):lastZ e n ts=(ts[ts.length - 1].e,ts[ts.length - 1].n):=by
 have hne:ts ≠ []:=fun h0=>by rw [h0] at h; simp at h
 have e1:ts=ts.dropLast++[ts.getLast hne]:=(List.dropLast_concat_getLast hne).symm
 have e2:ts[ts.length - 1]=ts.getLast hne:=(List.getLast_eq_getElem hne).symm
 rw [e2]
 conv=>lhs; rw [e1]
 exact lastZ_snoc _ _ _ _
theorem cmpZ_flip {e n e' n':Int}:cmpZ e' n' e n ≠ 1 ↔ 0≤cmpZ e n e' n':=by
 unfold cmpZ cmpI
 split <;> split <;> (try split) <;> (try split) <;> (try split) <;> (try split) <;> (try split) <;> (try split) <;> (try split) <;> omega
theorem chkT_n {t:Tx} (h:chkT t=true):(t.e=0∧t.n=0)∨1≤t.n:=by
 unfold chkT prop at h
 simp only [Bool.and_eq_true,Bool.or_eq_true,decide_eq_true_eq] at h
 rcases h.1 with h1 | h1
 ·exact .inl h1
 ·exact .inr h1.2
theorem refuse {t:Tx} {ts:List Tx} (hw:wfH t.hd) :
  (lchk t (lastZ 0 0 ts).1 (lastZ 0 0 ts).2=0∧(chkT t=true∧0 < t.n)∧¬ (ts ≠ []∧cmpZ t.e t.n (lastZ 0 0 ts).1 (lastZ 0 0 ts).2 ≠ 1)) ∨
  (lchk t (lastZ 0 0 ts).1 (lastZ 0 0 ts).2=100∧(chkT t=true∧0 < t.n)∧(ts ≠ []∧cmpZ t.e t.n (lastZ 0 0 ts).1 (lastZ 0 0 ts).2 ≠ 1)) ∨
  (lchk t (lastZ 0 0 ts).1 (lastZ 0 0 ts).2=40∧¬ (chkT t=true∧0 < t.n)):=by
 have he:0≤t.e∧t.e≤4294967295:=hok_le hw (show 0 < 5 by omega)
 have hn:0≤t.n∧t.n≤4294967295:=hok_le hw (show 1 < 5 by omega)
 unfold lchk
 by_cases hc:chkT t=true
 ·by_cases hz:t.e=0∧t.n=0
  ·rw [if_pos (.inr hz)]
   exact .inr (.inr ⟨rfl,fun h=>by omega⟩)
  ·have h1:=(chkT_n hc).resolve_left hz
   rw [if_neg (by rw [hc]; simpa using hz)]
   by_cases h0:0≤cmpZ (lastZ 0 0 ts).1 (lastZ 0 0 ts).2 t.e t.n
   ·rw [if_pos h0]
    refine .inr (.inl ⟨rfl,⟨hc,by omega⟩,fun hts=>?_,cmpZ_flip.2 h0⟩)
    subst hts
    simp only [lastZ] at h0
    unfold cmpZ cmpI at h0
    split at h0 <;> (try split at h0) <;> (try split at h0) <;> (try split at h0) <;> omega
   ·rw [if_neg h0]
    exact .inl ⟨rfl,⟨hc,by omega⟩,fun h=>h0 (cmpZ_flip.1 h.2)⟩
 ·rw [if_pos (.inl (by simpa using hc))]
  exact .inr (.inr ⟨rfl,fun h=>hc h.1⟩)
end Go.Proofs.YtbdfhfceffkhgaaGreatDoor


/- LogRefuses: the walk. -/
set_option linter.unusedVariables false
set_option linter.unusedSimpArgs false
namespace Go.Proofs.YtbdfhfceffkhgaaGreatDoor
open Go.Sh
open Tryz renaming prog → π
theorem tk_of {a b:List Tx} (h1:a.map Tx.hd=b.map Tx.hd) (h2:a.map (fun t=>t.q.st)=b.map (fun t=>t.q.st)):a.map tk=b.map tk:=by
 induction a generalizing b with
 | nil=>cases b with
  | nil=>rfl
  | cons y b=>simp at h1
 | cons x a ih=>cases b with
  | nil=>simp at h1
  | cons y b=>
   simp only [List.map_cons,List.cons.injEq] at h1 h2 ⊢
   exact ⟨by unfold tk; rw [h1.1,h2.1],ih h1.2 h2.2⟩
theorem own_caps {o w:World} {R:List HProp} {e sz n:Nat} {v:Value} {xs:List Value} (h:St o w (own e sz v n xs::R)):∃a c,v=.slice a n c∧n≤c:=by
 obtain ⟨_,⟨rfl,rfl,_⟩ | ⟨g,cap,rest,rfl,h1,_⟩⟩:=h.own_open
 ·exact ⟨_,_,rfl,Nat.le_refl _⟩
 ·exact ⟨_,_,rfl,h1⟩
theorem tk_wfT {a b:List Tx} (h:a.map tk=b.map tk) (hb:WfT b):WfT a:=by
 have hl:a.length=b.length:=by have:=congrArg List.length h; simpa using this
 refine ⟨by rw [hl]; exact hb.1,fun t ht=>⟨?_,tk_wf h (fun t ht=>(hb.2 t ht).2) t ht⟩⟩
 have hm:tk t ∈ b.map tk:=by rw [← h]; exact List.mem_map_of_mem ht
 obtain ⟨y,hy,e⟩:=List.mem_map.1 hm
 rw [← (tk_parts e).1]; exact (hb.2 y hy).1
theorem app_out {gl gd:Nat} {l:Lg} {d:Dk} {t:Tx} {o w':World} {R:List HProp} {r:Value} (hk:d.ok) (hl:d.live) (h0:0≤d.writes∧d.writes≤100000) (hwf:∀x ∈ l.ts,WfQ x.q) (ht:WfQ t.q) (h:AppP gl gd l d t o R r w') :
  (∃l2 d2,r=.int .i64 0∧St o w' (LgM gl gd l2::DiskM gd d2::R)∧(∀x ∈ l2.ts,WfQ x.q)∧lchk t l.e l.n=0∧d2.writes=d.writes+2∧∃u,l2.ts=l.ts++[u]) ∨
  (∃c,c ≠ 0∧r=.int .i64 c∧St o w' (LgM gl gd l::DiskM gd d::R)∧(lchk t l.e l.n ≠ 0→c=lchk t l.e l.n)):=by
 rcases h with ⟨h1,rfl,hS⟩ | ⟨h1,rfl,h2⟩
 ·exact .inr ⟨_,h1,rfl,hS,fun _=>rfl⟩
 ·obtain ⟨hl2,hp⟩:=put_live hk hl (appN l) (frT [t])
  rcases h2 with ⟨h2,hS⟩ | ⟨h2,us,hus,hS⟩
  ·rcases hp with ⟨hp,_⟩ | ⟨_,hp⟩
   ·exact absurd hp h2
   ·rw [hp] at hS
    exact .inr ⟨_,h2,rfl,hS,fun hn=>absurd h1 hn⟩
  ·rcases hp with ⟨_,hp⟩ | ⟨hp,_⟩
   ·have hwr:(d.put (appN l) (frT [t])).2.writes=d.writes+2:=by
     rw [hp]
     show IntKind.i64.wrap (IntKind.i64.wrap (d.writes+1)+1)=_
     rw [wrap_small (x:=d.writes+1) (by omega) (by omega),wrap_small (by omega) (by omega)]; omega
    have hul:us.length=1:=by have:=congrArg List.length hus; simpa using this
    obtain ⟨u,rfl⟩:∃u,us=[u]:=by
     match us,hul with
     | [u],_=>exact ⟨u,rfl⟩
    have hwu:=tk_wf hus (fun x hx=>by rw [List.mem_singleton.1 hx]; exact ht)
    rw [h2]
    refine .inl ⟨_,_,rfl,hS,fun x hx=>?_,h1,hwr,u,rfl⟩
    rcases List.mem_append.1 hx with hx | hx
    ·exact hwf x hx
    ·exact hwu x hx
   ·exact absurd h2 hp
section
variable (Z:PZ) {o w:World} {R As:List HProp}
theorem logRefuses {v:Value} {ts:List Tx} {t:Tx} (size room:Int) (hsz : -9223372036854775808≤size∧size≤9223372036854775807) (hrm : -9223372036854775808≤room∧room≤9223372036854775807) (hw:WfT ts) (hv:RdT w v ts) (hh:wfH t.hd) (hqw:WfQ t.q) (hq:RdQ w t.q) (hN:Names w) (hB:Bits w) :
  CallV π Z 4 #[v,.int .i64 size,.agg t.cells.toArray,.int .i64 room] w fun r w'=>r=.bool true∧St w w' [old w]:=by
 have hones:=txC_ones hq.ones
 have hv:∀(As:List HProp),old w ∈ As→Ent w As fun w=>RdT w v ts:=fun As hm w' hS=>hv.of_old hS hm
 have hq:∀(As:List HProp),old w ∈ As→Ent w As fun w=>RdQ w t.q:=fun As hm w' hS=>RdQ.of_old _ hq hS hm
 obtain ⟨va,vc,rfl⟩:=(hv _ m0 w (St.start w)).1.form
 refine f4.calls ?_
 unfold f4.sh
 refine r_box _ _ (St.start w) fun gt w1 hS=>?_
 have hS:St w w1 (blk gt 50 t.cells::[old w]):=hS
 refine (works10 Z hN hB m1 hS).mono fun r w2 ⟨hr,hS⟩=>?_
 subst hr
 refine (largeTs Z (hv _ m1) hS).mono fun r w3 ⟨⟨b,hr⟩,hS⟩=>?_
 subst hr
 cases b with
 | true=>
  (try simp only [fa_50_2,Nat.zero_add,o_pickT,guardW_true,fa_50_0p,Nat.add_zero,fa_50_0,ln_22_3p,o_gtrp,condT,guardW_tf])
  exact ⟨by first | rfl | trivial,hS.drop⟩
 | false=>
 (try simp only [fa_50_2,Nat.zero_add,o_pickT,guardW_true,fa_50_0p,Nat.add_zero,fa_50_0,ln_22_3p,o_gtrp,o_pickF,guardW_ff])
 refine r_loadN ag48 (xs:=t.q.cells) rfl (hS.cells_at m0 5 (rq_at t)) ?_
 refine (largeC Z t.q (hq _ m1) hS).mono fun r w4 ⟨⟨b,hr⟩,hS⟩=>?_
 subst hr
 cases b with
 | true=>
  (try simp only [o_pickT,condT,guardW_tf])
  exact ⟨by first | rfl | trivial,hS.drop⟩
 | false=>
 by_cases c1:100 < (ts.length:Int)
 ·(try simp only [o_pickF,guardW_ff,ln_22_3,o_gtr,c1,decide_true,o_pickT,condT,guardW_tf])
  exact ⟨by first | rfl | trivial,hS.drop⟩
 by_cases c2:size < 1
 ·(try simp only [o_pickF,guardW_ff,ln_22_3,o_gtr,c1,decide_false,o_lss,c2,decide_true,o_pickT,condT,guardW_tf])
  exact ⟨by first | rfl | trivial,hS.drop⟩
 by_cases c3:64 < size
 ·(try simp only [o_pickF,guardW_ff,ln_22_3,o_gtr,c1,decide_false,o_lss,c2,c3,decide_true,o_pickT,condT,guardW_tf])
  exact ⟨by first | rfl | trivial,hS.drop⟩
 by_cases c4:room < 0
 ·(try simp only [o_pickF,guardW_ff,ln_22_3,o_gtr,c1,decide_false,o_lss,c2,c3,c4,decide_true,o_pickT,condT,guardW_tf])
  exact ⟨by first | rfl | trivial,hS.drop⟩
 by_cases c5:16777216 < room
 ·(try simp only [o_pickF,guardW_ff,ln_22_3,o_gtr,c1,decide_false,o_lss,c2,c3,c4,c5,decide_true,condT])
  exact ⟨by first | rfl | trivial,hS.drop⟩
 (try simp only [o_pickF,guardW_ff,ln_22_3,o_gtr,c1,decide_false,o_lss,c2,c3,c4,c5,condF])
 refine (dkNew Z room hS).mono fun r w5 hr=>?_
 rcases hr with ⟨hbad,_⟩ | ⟨n,hn,hn2,g,rfl,hS⟩
 ·omega
 subst hn
 (try simp only [o_ext2_1,o_ext2_0])
 refine (copyTs Z hw (hv _ m2) hS).mono fun r w6 ⟨ts',hh1,hh2,hS⟩=>?_
 have htk:ts'.map tk=ts.map tk:=tk_of hh1 hh2
 have hwf':WfT ts':=tk_wfT htk hw
 have hlen:ts'.length=ts.length:=by have:=congrArg List.length htk; simpa using this
 obtain ⟨a',c',rfl,hcap⟩:=own_caps hS
 refine (lCreate Z (g:=g) (d:=Dk.new n) (ts:=ts') 3 size (by omega) hsz hwf' hcap (fun f hf=>by cases hf) hN hB m3 (R:=[own 50 16 (.slice a' ts'.length c') ts'.length (ts'.map Tx.cells).flatten,OwT ts',blk gt 50 t.cells,old w]) (fun w hw=>OwT.rd hw) (by (refine Sh.St.sub ?_ (hS); repeat (first | with_reducible (first | exact sub_refl | exact sub_nil | refine sP0 ?_ | refine sP1 ?_ | refine sP2 ?_ | refine sP3 ?_ | refine sP4 ?_ | refine sP5 ?_ | refine sP6 ?_ | refine sP7 ?_ | refine sP8 ?_ | refine sP9 ?_ | refine sP10 ?_ | refine sP11 ?_ | refine sP12 ?_ | refine sP13 ?_ | refine sP14 ?_ | refine sP15 ?_) | exact sub_refl | refine sP0 ?_ | refine sP1 ?_ | refine sP2 ?_ | refine sP3 ?_ | refine sP4 ?_ | refine sP5 ?_ | refine sP6 ?_ | refine sP7 ?_ | refine sP8 ?_ | refine sP9 ?_ | refine sP10 ?_ | refine sP11 ?_ | refine sP12 ?_ | refine sP13 ?_ | refine sP14 ?_ | refine sP15 ?_ | refine sub_drop ?_)))).mono fun r w7 hr=>?_
 rcases hr with ⟨h1,rfl,hS⟩ | ⟨h0,h1,rfl,hS⟩ | ⟨h0,h1,gl,us,rfl,hus,hS⟩
 ·have e1:(crE (Dk.new n) 3 size ts' != 0)=true:=bne_iff_ne.2 h1
  (try simp only [o_ext2_1,o_neq,e1,o_pickT,condT,guardW_tf,o_ext2_0,eqln_33,guardW_true])
  exact ⟨by first | rfl | trivial,hS.drop.drop.drop.drop⟩
 ·have e1:((crt 3 size.toNat (ts'.length+1) 0 0 ts' (Dk.new n)).1 != 0)=true:=bne_iff_ne.2 h1
  (try simp only [o_ext2_1,o_neq,e1,o_pickT,condT,guardW_tf,o_ext2_0,eqln_33,guardW_true])
  exact ⟨by first | rfl | trivial,hS.drop.drop.drop.drop⟩
 have hlive:=crt_live (num:=3) (size:=size.toNat) (ts'.length+1) 0 0 ts' (Dk.new n) (Dk.new_ok hn2) ⟨rfl,rfl⟩ (Int.le_refl 0) (by show (0:Int)+2 * _≤_; omega) (fun _=>.inl rfl) (by omega)
 rw [show (Dk.new n).writes=0 from rfl] at hlive
 generalize crt 3 size.toNat (ts'.length+1) 0 0 ts' (Dk.new n)=cr at *
 obtain ⟨c0,d1,k1,f1⟩:=cr
 obtain rfl:c0=0:=h1
 obtain ⟨q1,q2,q3,q4,_,q5,q6,q7⟩:=hlive
 simp only at q1 q2 q3 q4 q5 q6 q7 hS
 have q7:=q7 (by omega) trivial
 have hul:us.length=ts.length:=by have:=congrArg List.length hus; rw [List.length_map,List.length_map] at this; omega
 have hwus:∀t ∈ us,WfQ t.q:=tk_wf hus fun t ht=>(hwf'.2 t ht).2
 rw [lastZ_tk 0 0 htk] at hS
 (try simp only [o_ext2_1,o_neq,bne_self_eq_false,o_pickF,guardW_ff,o_ext2_0,eqlp_33,guardW_ft,condF])
 refine (dImage Z hS.swap).mono fun before w8 ⟨F1,hF1,hS⟩=>?_
 refine (dWrites Z (hS.pick 2)).mono fun r w9 ⟨hr,hw9⟩=>?_
 subst hr hw9
 have hS:St w w9 (blk gt 50 t.cells::LgM gl g ⟨3,size,k1,f1,(lastZ 0 0 ts).1,(lastZ 0 0 ts).2,us⟩::DiskM g d1::own 94 3 before F1.length (F1.flatMap fc)::satH (F1.map fb)::[old w]):=by (refine Sh.St.sub ?_ (hS); repeat (first | with_reducible (first | exact sub_refl | exact sub_nil | refine sP0 ?_ | refine sP1 ?_ | refine sP2 ?_ | refine sP3 ?_ | refine sP4 ?_ | refine sP5 ?_ | refine sP6 ?_ | refine sP7 ?_ | refine sP8 ?_ | refine sP9 ?_ | refine sP10 ?_ | refine sP11 ?_ | refine sP12 ?_ | refine sP13 ?_ | refine sP14 ?_ | refine sP15 ?_) | exact sub_refl | refine sP0 ?_ | refine sP1 ?_ | refine sP2 ?_ | refine sP3 ?_ | refine sP4 ?_ | refine sP5 ?_ | refine sP6 ?_ | refine sP7 ?_ | refine sP8 ?_ | refine sP9 ?_ | refine sP10 ?_ | refine sP11 ?_ | refine sP12 ?_ | refine sP13 ?_ | refine sP14 ?_ | refine sP15 ?_ | refine sub_drop ?_))
 refine r_loadN ag50 (xs:=t.cells) rfl (hS.cells_at m0 0 (whole_at _)) ?_
 refine (copyT Z t hqw (hq _ m5) hS).mono fun r w10 ⟨t',hr,ht1,ht2,hS⟩=>?_
 subst hr
 have htt:tk t'=tk t:=by unfold tk; rw [ht1,ht2]
 have hS:St w w10 (LgM gl g ⟨3,size,k1,f1,(lastZ 0 0 ts).1,(lastZ 0 0 ts).2,us⟩::DiskM g d1::[OwQ t'.q,blk gt 50 t.cells,own 94 3 before F1.length (F1.flatMap fc),satH (F1.map fb),old w]):=by (refine Sh.St.sub ?_ (hS); repeat (first | with_reducible (first | exact sub_refl | exact sub_nil | refine sP0 ?_ | refine sP1 ?_ | refine sP2 ?_ | refine sP3 ?_ | refine sP4 ?_ | refine sP5 ?_ | refine sP6 ?_ | refine sP7 ?_ | refine sP8 ?_ | refine sP9 ?_ | refine sP10 ?_ | refine sP11 ?_ | refine sP12 ?_ | refine sP13 ?_ | refine sP14 ?_ | refine sP15 ?_) | exact sub_refl | refine sP0 ?_ | refine sP1 ?_ | refine sP2 ?_ | refine sP3 ?_ | refine sP4 ?_ | refine sP5 ?_ | refine sP6 ?_ | refine sP7 ?_ | refine sP8 ?_ | refine sP9 ?_ | refine sP10 ?_ | refine sP11 ?_ | refine sP12 ?_ | refine sP13 ?_ | refine sP14 ?_ | refine sP15 ?_ | refine sub_drop ?_))
 refine (lAppend Z (l:=⟨3,size,k1,f1,(lastZ 0 0 ts).1,(lastZ 0 0 ts).2,us⟩) (d:=d1) t' q7 (show k1≤_ by omega) ⟨show (1:Int)≤3 by omega,show (3:Int)≤_ by omega⟩ (show (us.length+1) * 168≤_ by omega) (show f1≤_ by omega) (wfQ_same _ _ ht2.symm hqw) hN hB m4 (fun w hw=>OwQ.rd _ hw) hS).mono fun r w11 hr=>?_
 -- SCENARIOS
 rcases app_out q1 q2 ⟨q3,by omega⟩ hwus (wfQ_same _ _ ht2.symm hqw) hr with ⟨l2,d2,rfl,hS,hwf2,hz,hwr,u,hl2⟩ | ⟨c,hc0,rfl,hS,hcl⟩
 ·rw [lchk_tk htt] at hz
  obtain ⟨hfine,hold⟩:(chkT t=true∧0 < t.n)∧¬ (ts ≠ []∧cmpZ t.e t.n (lastZ 0 0 ts).1 (lastZ 0 0 ts).2 ≠ 1):=by
   rcases refuse (ts:=ts) hh with ⟨_,h1,h2⟩ | ⟨h1,_⟩ | ⟨h1,_⟩
   ·exact ⟨h1,h2⟩
   ·have:(0:Int)=100:=hz.symm.trans h1
    omega
   ·have:(0:Int)=40:=hz.symm.trans h1
    omega
  apply viaW (p:=fun w'=>St w w' (LgM gl g l2::DiskM g d2::[OwQ t'.q,blk gt 50 t.cells,own 94 3 before F1.length (F1.flatMap fc),satH (F1.map fb),old w]))
  ·intro post
   refine ⟨fun w12 hd=>?_⟩
   have hS:=hS.drew hd
   by_cases hts:ts=[]
   ·have hz:¬ 0 < (ts.length:Int):=by rw [hts]; simp
    (try simp only [hz,decide_false,o_eql,beq_self_eq_true,condT,o_pickFp,guardV_ft,guardW_ft])
    exact post w12 hS
   ·have hlt:ts.length - 1 < ts.length:=by have:=List.length_pos_iff.2 hts; omega
    have hz:0 < (ts.length:Int):=by omega
    have hzl:=lastZ_at 0 0 ts hlt
    have ho:(cmpZ t.e t.n ts[ts.length - 1].e ts[ts.length - 1].n != 1)=false:=by
     rw [hzl] at hold
     exact bne_eq_false_iff_eq.2 (Decidable.byContradiction fun hne=>hold ⟨hts,hne⟩)
    (try simp only [hz,decide_true,o_eql,beq_self_eq_true,condT,o_pickTp,guardV_true,guardW_true,ln_22_3p,o_subp])
    rw [wr_i64 (x:=(ts.length:Int) - 1) (by omega) (by omega),show (ts.length:Int) - 1=((ts.length - 1:Nat):Int) by omega]
    obtain ⟨b1,p,cs,hp,_,hcv,hpc⟩:=(rowR_rd (c:=Tx.cells) (fun x=>rfl) (hv _ m6 w12 hS).1 rfl).ix el22 .i64 (ts.length - 1) hlt
    subst hcv
    refine rr_loadN ag39 (xs:=zx t.e t.n) rfl (hS.cells_at m3 0 (zx_at t)) ?_
    skip
    refine rp hp ?_
    (try simp only [fa_50_0p,Nat.add_zero])
    refine rr_loadN ag39 (xs:=zx ts[ts.length - 1].e ts[ts.length - 1].n) rfl (fun j u hu=>by rw [add_addr]; have:=hpc (0+j) u (zx_at _ j u hu); rw [Nat.zero_add] at this; exact this) ?_
    refine (refCompare Z hS).mono fun r w13 ⟨hr,hS⟩=>?_
    subst hr
    (try simp only [o_neqp,ho])
    exact post w13 hS
  intro w13 hS
  refine r_loadN ag50 (xs:=t.cells) rfl (hS.cells_at m3 0 (whole_at _)) ?_
  refine (refChkT Z t hh (hq _ m6) hS).mono fun r w14 ⟨hr,hS⟩=>?_
  subst hr
  have hc1:=hfine.1
  have hn1:0 < t.n:=hfine.2
  rw [if_pos hc1]
  (try simp only [o_eql,beq_self_eq_true,o_pickT,guardW_true,fa_39_1,Nat.zero_add])
  refine r_load one37 (hS.at m3 1 rfl) ?_
  (try simp only [o_gtr,hn1,decide_true,o_pickT,guardW_true,o_not,Bool.not_false,o_add])
  refine (dWrites Z (hS.pick 1)).mono fun r w15 ⟨hr,hw15⟩=>?_
  subst hr hw15
  rw [hwr,wr_i64 (x:=d1.writes+2) (by omega) (by omega)]
  (try simp only [o_eql,beq_self_eq_true,o_pickT,guardW_true,ln_22_3,o_add])
  refine (lAll Z (l:=l2) hwf2 (by rw [hl2,List.length_append,hul]; simp only [List.length_cons,List.length_nil]; omega) hS).mono fun r w16 ⟨xs,hxs,hS⟩=>?_
  have hxl:xs.length=ts.length+1:=by
   have:=congrArg List.length hxs
   rw [List.length_map,List.length_map,hl2,List.length_append,hul] at this
   exact this
  obtain ⟨xa,xc,rfl,_⟩:=own_caps hS
  have e3:((xs.length:Int) == IntKind.i64.wrap ((ts.length:Int)+1))=true:=by
   rw [wr_i64 (x:=(ts.length:Int)+1) (by omega) (by omega),hxl]; simp
  (try simp only [ln_22_3,o_eql,e3])
  exact ⟨by first | rfl | trivial,hS.drop.drop.drop.drop.drop.drop.drop.drop⟩

 rw [lchk_tk htt] at hcl
 rcases refuse (ts:=ts) hh with ⟨h1,hfine,hold⟩ | ⟨h1,hfine,hold⟩ | ⟨h1,hfine⟩
 ·apply viaW (p:=fun w'=>St w w' (LgM gl g ⟨3,size,k1,f1,(lastZ 0 0 ts).1,(lastZ 0 0 ts).2,us⟩::DiskM g d1::[OwQ t'.q,blk gt 50 t.cells,own 94 3 before F1.length (F1.flatMap fc),satH (F1.map fb),old w]))
  ·intro post
   refine ⟨fun w12 hd=>?_⟩
   have hS:=hS.drew hd
   by_cases hts:ts=[]
   ·have hz:¬ 0 < (ts.length:Int):=by rw [hts]; simp
    (try simp only [hz,decide_false,o_eql,cond_beq,o_pickFp,guardV_ft,guardW_ft])
    exact post w12 hS
   ·have hlt:ts.length - 1 < ts.length:=by have:=List.length_pos_iff.2 hts; omega
    have hz:0 < (ts.length:Int):=by omega
    have hzl:=lastZ_at 0 0 ts hlt
    have ho:(cmpZ t.e t.n ts[ts.length - 1].e ts[ts.length - 1].n != 1)=false:=by
     rw [hzl] at hold
     exact bne_eq_false_iff_eq.2 (Decidable.byContradiction fun hne=>hold ⟨hts,hne⟩)
    (try simp only [hz,decide_true,o_eql,cond_beq,o_pickTp,guardV_true,guardW_true,ln_22_3p,o_subp])
    rw [wr_i64 (x:=(ts.length:Int) - 1) (by omega) (by omega),show (ts.length:Int) - 1=((ts.length - 1:Nat):Int) by omega]
    obtain ⟨b1,p,cs,hp,_,hcv,hpc⟩:=(rowR_rd (c:=Tx.cells) (fun x=>rfl) (hv _ m6 w12 hS).1 rfl).ix el22 .i64 (ts.length - 1) hlt
    subst hcv
    refine rr_loadN ag39 (xs:=zx t.e t.n) rfl (hS.cells_at m3 0 (zx_at t)) ?_
    skip
    refine rp hp ?_
    (try simp only [fa_50_0p,Nat.add_zero])
    refine rr_loadN ag39 (xs:=zx ts[ts.length - 1].e ts[ts.length - 1].n) rfl (fun j u hu=>by rw [add_addr]; have:=hpc (0+j) u (zx_at _ j u hu); rw [Nat.zero_add] at this; exact this) ?_
    refine (refCompare Z hS).mono fun r w13 ⟨hr,hS⟩=>?_
    subst hr
    (try simp only [o_neqp,ho])
    exact post w13 hS
  intro w13 hS
  refine r_loadN ag50 (xs:=t.cells) rfl (hS.cells_at m3 0 (whole_at _)) ?_
  refine (refChkT Z t hh (hq _ m6) hS).mono fun r w14 ⟨hr,hS⟩=>?_
  subst hr
  have hc1:=hfine.1
  have hn1:0 < t.n:=hfine.2
  rw [if_pos hc1]
  (try simp only [o_eql,beq_self_eq_true,o_pickT,guardW_true,fa_39_1,Nat.zero_add])
  refine r_load one37 (hS.at m3 1 rfl) ?_
  (try simp only [o_gtr,hn1,decide_true,o_pickT,guardW_true,o_not,Bool.not_false,o_add,o_pickF,guardW_ff,Bool.not_true,condF,guardW_ft])
  refine ⟨fun h0=>absurd h0 hc0,fun _=>?_⟩
  refine (dImage Z (hS.pick 1)).mono fun after w15 ⟨F2,hF2,hS⟩=>?_
  have hFF:(F2.map toFi).map (·.1)=(F1.map toFi).map (·.1):=by rw [fi_map,fi_map,hF1,hF2]
  have hS1:St w w15 (own 94 3 before F1.length (F1.flatMap fc)::satH (F1.map fb)::own 94 3 after F2.length (F2.flatMap fc)::satH (F2.map fb)::LgM gl g ⟨3,size,k1,f1,(lastZ 0 0 ts).1,(lastZ 0 0 ts).2,us⟩::DiskM g d1::[old w]):=by (refine Sh.St.sub ?_ (hS); repeat (first | with_reducible (first | exact sub_refl | exact sub_nil | refine sP0 ?_ | refine sP1 ?_ | refine sP2 ?_ | refine sP3 ?_ | refine sP4 ?_ | refine sP5 ?_ | refine sP6 ?_ | refine sP7 ?_ | refine sP8 ?_ | refine sP9 ?_ | refine sP10 ?_ | refine sP11 ?_ | refine sP12 ?_ | refine sP13 ?_ | refine sP14 ?_ | refine sP15 ?_) | exact sub_refl | refine sP0 ?_ | refine sP1 ?_ | refine sP2 ?_ | refine sP3 ?_ | refine sP4 ?_ | refine sP5 ?_ | refine sP6 ?_ | refine sP7 ?_ | refine sP8 ?_ | refine sP9 ?_ | refine sP10 ?_ | refine sP11 ?_ | refine sP12 ?_ | refine sP13 ?_ | refine sP14 ?_ | refine sP15 ?_ | refine sub_drop ?_))
  refine (eqFiles Z (own_rdFi hS) (own_rdFi hS1) hFF).mono fun r w16 ⟨hr,hd⟩=>?_
  subst hr
  have hS:=hS1.drew hd
  (try simp only [o_pickT,guardW_true])
  refine (lAll Z (l:=⟨3,size,k1,f1,(lastZ 0 0 ts).1,(lastZ 0 0 ts).2,us⟩) hwus (show us.length * 168≤_ by omega) (hS.pick 4)).mono fun r w17 ⟨xs,hxs,hS⟩=>?_
  have hxt:xs.map txK=ts.map txK:=(hxs.trans hus).trans htk
  refine (eqTs Z (fun w hw=>OwT.rd hw) (hv _ m8) hS).mono fun r w18 ⟨⟨b,hr,hb⟩,hS⟩=>?_
  subst hr
  obtain rfl:=hb.2 hxt
  have hS:St w w18 (DiskM g d1::[old w]):=by (refine Sh.St.sub ?_ (hS); repeat (first | with_reducible (first | exact sub_refl | exact sub_nil | refine sP0 ?_ | refine sP1 ?_ | refine sP2 ?_ | refine sP3 ?_ | refine sP4 ?_ | refine sP5 ?_ | refine sP6 ?_ | refine sP7 ?_ | refine sP8 ?_ | refine sP9 ?_ | refine sP10 ?_ | refine sP11 ?_ | refine sP12 ?_ | refine sP13 ?_ | refine sP14 ?_ | refine sP15 ?_) | exact sub_refl | refine sP0 ?_ | refine sP1 ?_ | refine sP2 ?_ | refine sP3 ?_ | refine sP4 ?_ | refine sP5 ?_ | refine sP6 ?_ | refine sP7 ?_ | refine sP8 ?_ | refine sP9 ?_ | refine sP10 ?_ | refine sP11 ?_ | refine sP12 ?_ | refine sP13 ?_ | refine sP14 ?_ | refine sP15 ?_ | refine sub_drop ?_))
  (try simp only [o_pickT,guardW_true])
  refine (dWrites Z hS).mono fun r w19 ⟨hr,hw19⟩=>?_
  subst hr hw19
  (try simp only [o_eql,beq_self_eq_true])
  exact ⟨by first | rfl | trivial,hS.drop⟩

 ·obtain rfl:c=100:=(hcl (by rw [show lchk t _ _=100 from h1]; decide)).trans h1
  apply viaW (p:=fun w'=>St w w' (LgM gl g ⟨3,size,k1,f1,(lastZ 0 0 ts).1,(lastZ 0 0 ts).2,us⟩::DiskM g d1::[OwQ t'.q,blk gt 50 t.cells,own 94 3 before F1.length (F1.flatMap fc),satH (F1.map fb),old w]))
  ·intro post
   refine ⟨fun w12 hd=>?_⟩
   have hS:=hS.drew hd
   by_cases hts:ts=[]
   ·exact absurd hts hold.1
   ·have hlt:ts.length - 1 < ts.length:=by have:=List.length_pos_iff.2 hts; omega
    have hz:0 < (ts.length:Int):=by omega
    have hzl:=lastZ_at 0 0 ts hlt
    have ho:(cmpZ t.e t.n ts[ts.length - 1].e ts[ts.length - 1].n != 1)=true:=by
     rw [hzl] at hold
     exact bne_iff_ne.2 hold.2
    (try simp only [hz,decide_true,o_eql,Int.reduceBEq,condF,o_pickTp,guardV_true,guardW_true,ln_22_3p,o_subp])
    rw [wr_i64 (x:=(ts.length:Int) - 1) (by omega) (by omega),show (ts.length:Int) - 1=((ts.length - 1:Nat):Int) by omega]
    obtain ⟨b1,p,cs,hp,_,hcv,hpc⟩:=(rowR_rd (c:=Tx.cells) (fun x=>rfl) (hv _ m6 w12 hS).1 rfl).ix el22 .i64 (ts.length - 1) hlt
    subst hcv
    refine rr_loadN ag39 (xs:=zx t.e t.n) rfl (hS.cells_at m3 0 (zx_at t)) ?_
    skip
    refine rp hp ?_
    (try simp only [fa_50_0p,Nat.add_zero])
    refine rr_loadN ag39 (xs:=zx ts[ts.length - 1].e ts[ts.length - 1].n) rfl (fun j u hu=>by rw [add_addr]; have:=hpc (0+j) u (zx_at _ j u hu); rw [Nat.zero_add] at this; exact this) ?_
    refine (refCompare Z hS).mono fun r w13 ⟨hr,hS⟩=>?_
    subst hr
    (try simp only [o_neqp,ho])
    exact post w13 hS
  intro w13 hS
  refine r_loadN ag50 (xs:=t.cells) rfl (hS.cells_at m3 0 (whole_at _)) ?_
  refine (refChkT Z t hh (hq _ m6) hS).mono fun r w14 ⟨hr,hS⟩=>?_
  subst hr
  have hc1:=hfine.1
  have hn1:0 < t.n:=hfine.2
  rw [if_pos hc1]
  (try simp only [o_eql,beq_self_eq_true,o_pickT,guardW_true,fa_39_1,Nat.zero_add])
  refine r_load one37 (hS.at m3 1 rfl) ?_
  (try simp only [o_gtr,hn1,decide_true,o_pickT,guardW_true,o_neq,bne_self_eq_false,o_pickF,guardW_ff,o_not,Bool.not_true,condF,guardW_ft])
  refine (dImage Z (hS.pick 1)).mono fun after w15 ⟨F2,hF2,hS⟩=>?_
  have hFF:(F2.map toFi).map (·.1)=(F1.map toFi).map (·.1):=by rw [fi_map,fi_map,hF1,hF2]
  have hS1:St w w15 (own 94 3 before F1.length (F1.flatMap fc)::satH (F1.map fb)::own 94 3 after F2.length (F2.flatMap fc)::satH (F2.map fb)::LgM gl g ⟨3,size,k1,f1,(lastZ 0 0 ts).1,(lastZ 0 0 ts).2,us⟩::DiskM g d1::[old w]):=by (refine Sh.St.sub ?_ (hS); repeat (first | with_reducible (first | exact sub_refl | exact sub_nil | refine sP0 ?_ | refine sP1 ?_ | refine sP2 ?_ | refine sP3 ?_ | refine sP4 ?_ | refine sP5 ?_ | refine sP6 ?_ | refine sP7 ?_ | refine sP8 ?_ | refine sP9 ?_ | refine sP10 ?_ | refine sP11 ?_ | refine sP12 ?_ | refine sP13 ?_ | refine sP14 ?_ | refine sP15 ?_) | exact sub_refl | refine sP0 ?_ | refine sP1 ?_ | refine sP2 ?_ | refine sP3 ?_ | refine sP4 ?_ | refine sP5 ?_ | refine sP6 ?_ | refine sP7 ?_ | refine sP8 ?_ | refine sP9 ?_ | refine sP10 ?_ | refine sP11 ?_ | refine sP12 ?_ | refine sP13 ?_ | refine sP14 ?_ | refine sP15 ?_ | refine sub_drop ?_))
  refine (eqFiles Z (own_rdFi hS) (own_rdFi hS1) hFF).mono fun r w16 ⟨hr,hd⟩=>?_
  subst hr
  have hS:=hS1.drew hd
  (try simp only [o_pickT,guardW_true])
  refine (lAll Z (l:=⟨3,size,k1,f1,(lastZ 0 0 ts).1,(lastZ 0 0 ts).2,us⟩) hwus (show us.length * 168≤_ by omega) (hS.pick 4)).mono fun r w17 ⟨xs,hxs,hS⟩=>?_
  have hxt:xs.map txK=ts.map txK:=(hxs.trans hus).trans htk
  refine (eqTs Z (fun w hw=>OwT.rd hw) (hv _ m8) hS).mono fun r w18 ⟨⟨b,hr,hb⟩,hS⟩=>?_
  subst hr
  obtain rfl:=hb.2 hxt
  have hS:St w w18 (DiskM g d1::[old w]):=by (refine Sh.St.sub ?_ (hS); repeat (first | with_reducible (first | exact sub_refl | exact sub_nil | refine sP0 ?_ | refine sP1 ?_ | refine sP2 ?_ | refine sP3 ?_ | refine sP4 ?_ | refine sP5 ?_ | refine sP6 ?_ | refine sP7 ?_ | refine sP8 ?_ | refine sP9 ?_ | refine sP10 ?_ | refine sP11 ?_ | refine sP12 ?_ | refine sP13 ?_ | refine sP14 ?_ | refine sP15 ?_) | exact sub_refl | refine sP0 ?_ | refine sP1 ?_ | refine sP2 ?_ | refine sP3 ?_ | refine sP4 ?_ | refine sP5 ?_ | refine sP6 ?_ | refine sP7 ?_ | refine sP8 ?_ | refine sP9 ?_ | refine sP10 ?_ | refine sP11 ?_ | refine sP12 ?_ | refine sP13 ?_ | refine sP14 ?_ | refine sP15 ?_ | refine sub_drop ?_))
  (try simp only [o_pickT,guardW_true])
  refine (dWrites Z hS).mono fun r w19 ⟨hr,hw19⟩=>?_
  subst hr hw19
  (try simp only [o_eql,beq_self_eq_true])
  exact ⟨by first | rfl | trivial,hS.drop⟩

 have hc40:c=40:=(hcl (by rw [show lchk t _ _=40 from h1]; decide)).trans h1
 subst hc40
 by_cases hold:ts ≠ []∧cmpZ t.e t.n (lastZ 0 0 ts).1 (lastZ 0 0 ts).2 ≠ 1
 ·apply viaW (p:=fun w'=>St w w' (LgM gl g ⟨3,size,k1,f1,(lastZ 0 0 ts).1,(lastZ 0 0 ts).2,us⟩::DiskM g d1::[OwQ t'.q,blk gt 50 t.cells,own 94 3 before F1.length (F1.flatMap fc),satH (F1.map fb),old w]))
  ·intro post
   refine ⟨fun w12 hd=>?_⟩
   have hS:=hS.drew hd
   by_cases hts:ts=[]
   ·exact absurd hts hold.1
   ·have hlt:ts.length - 1 < ts.length:=by have:=List.length_pos_iff.2 hts; omega
    have hz:0 < (ts.length:Int):=by omega
    have hzl:=lastZ_at 0 0 ts hlt
    have ho:(cmpZ t.e t.n ts[ts.length - 1].e ts[ts.length - 1].n != 1)=true:=by
     rw [hzl] at hold
     exact bne_iff_ne.2 hold.2
    (try simp only [hz,decide_true,o_eql,Int.reduceBEq,condF,o_pickTp,guardV_true,guardW_true,ln_22_3p,o_subp])
    rw [wr_i64 (x:=(ts.length:Int) - 1) (by omega) (by omega),show (ts.length:Int) - 1=((ts.length - 1:Nat):Int) by omega]
    obtain ⟨b1,p,cs,hp,_,hcv,hpc⟩:=(rowR_rd (c:=Tx.cells) (fun x=>rfl) (hv _ m6 w12 hS).1 rfl).ix el22 .i64 (ts.length - 1) hlt
    subst hcv
    refine rr_loadN ag39 (xs:=zx t.e t.n) rfl (hS.cells_at m3 0 (zx_at t)) ?_
    skip
    refine rp hp ?_
    (try simp only [fa_50_0p,Nat.add_zero])
    refine rr_loadN ag39 (xs:=zx ts[ts.length - 1].e ts[ts.length - 1].n) rfl (fun j u hu=>by rw [add_addr]; have:=hpc (0+j) u (zx_at _ j u hu); rw [Nat.zero_add] at this; exact this) ?_
    refine (refCompare Z hS).mono fun r w13 ⟨hr,hS⟩=>?_
    subst hr
    (try simp only [o_neqp,ho])
    exact post w13 hS
  intro w13 hS
  apply viaW (p:=fun w'=>St w w' (LgM gl g ⟨3,size,k1,f1,(lastZ 0 0 ts).1,(lastZ 0 0 ts).2,us⟩::DiskM g d1::[OwQ t'.q,blk gt 50 t.cells,own 94 3 before F1.length (F1.flatMap fc),satH (F1.map fb),old w]))
  ·intro post
   refine r_loadN ag50 (xs:=t.cells) rfl (hS.cells_at m3 0 (whole_at _)) ?_
   refine (refChkT Z t hh (hq _ m6) hS).mono fun r w14 ⟨hr,hS⟩=>?_
   subst hr
   by_cases hc1:chkT t=true
   ·have hn1:¬ 0 < t.n:=fun hh=>hfine ⟨hc1,hh⟩
    rw [if_pos hc1]
    (try simp only [o_eql,beq_self_eq_true,o_pickT,guardW_true,fa_39_1,Nat.zero_add])
    refine r_load one37 (hS.at m3 1 rfl) ?_
    (try simp only [o_gtr,hn1,decide_false,o_pickF,guardW_ff,o_not,Bool.not_false,o_pickT,guardW_true,o_neq,bne_self_eq_false,condF,guardW_ft])
    exact post w14 hS
   ·rw [if_neg hc1]
    (try simp only [o_eql,Int.reduceBEq,o_pickF,guardW_ff,o_not,Bool.not_false,o_pickT,guardW_true,o_neq,bne_self_eq_false,condF,guardW_ft])
    exact post w14 hS
  intro w14 hS
  refine (dImage Z (hS.pick 1)).mono fun after w15 ⟨F2,hF2,hS⟩=>?_
  have hFF:(F2.map toFi).map (·.1)=(F1.map toFi).map (·.1):=by rw [fi_map,fi_map,hF1,hF2]
  have hS1:St w w15 (own 94 3 before F1.length (F1.flatMap fc)::satH (F1.map fb)::own 94 3 after F2.length (F2.flatMap fc)::satH (F2.map fb)::LgM gl g ⟨3,size,k1,f1,(lastZ 0 0 ts).1,(lastZ 0 0 ts).2,us⟩::DiskM g d1::[old w]):=by (refine Sh.St.sub ?_ (hS); repeat (first | with_reducible (first | exact sub_refl | exact sub_nil | refine sP0 ?_ | refine sP1 ?_ | refine sP2 ?_ | refine sP3 ?_ | refine sP4 ?_ | refine sP5 ?_ | refine sP6 ?_ | refine sP7 ?_ | refine sP8 ?_ | refine sP9 ?_ | refine sP10 ?_ | refine sP11 ?_ | refine sP12 ?_ | refine sP13 ?_ | refine sP14 ?_ | refine sP15 ?_) | exact sub_refl | refine sP0 ?_ | refine sP1 ?_ | refine sP2 ?_ | refine sP3 ?_ | refine sP4 ?_ | refine sP5 ?_ | refine sP6 ?_ | refine sP7 ?_ | refine sP8 ?_ | refine sP9 ?_ | refine sP10 ?_ | refine sP11 ?_ | refine sP12 ?_ | refine sP13 ?_ | refine sP14 ?_ | refine sP15 ?_ | refine sub_drop ?_))
  refine (eqFiles Z (own_rdFi hS) (own_rdFi hS1) hFF).mono fun r w16 ⟨hr,hd⟩=>?_
  subst hr
  have hS:=hS1.drew hd
  (try simp only [o_pickT,guardW_true])
  refine (lAll Z (l:=⟨3,size,k1,f1,(lastZ 0 0 ts).1,(lastZ 0 0 ts).2,us⟩) hwus (show us.length * 168≤_ by omega) (hS.pick 4)).mono fun r w17 ⟨xs,hxs,hS⟩=>?_
  have hxt:xs.map txK=ts.map txK:=(hxs.trans hus).trans htk
  refine (eqTs Z (fun w hw=>OwT.rd hw) (hv _ m8) hS).mono fun r w18 ⟨⟨b,hr,hb⟩,hS⟩=>?_
  subst hr
  obtain rfl:=hb.2 hxt
  have hS:St w w18 (DiskM g d1::[old w]):=by (refine Sh.St.sub ?_ (hS); repeat (first | with_reducible (first | exact sub_refl | exact sub_nil | refine sP0 ?_ | refine sP1 ?_ | refine sP2 ?_ | refine sP3 ?_ | refine sP4 ?_ | refine sP5 ?_ | refine sP6 ?_ | refine sP7 ?_ | refine sP8 ?_ | refine sP9 ?_ | refine sP10 ?_ | refine sP11 ?_ | refine sP12 ?_ | refine sP13 ?_ | refine sP14 ?_ | refine sP15 ?_) | exact sub_refl | refine sP0 ?_ | refine sP1 ?_ | refine sP2 ?_ | refine sP3 ?_ | refine sP4 ?_ | refine sP5 ?_ | refine sP6 ?_ | refine sP7 ?_ | refine sP8 ?_ | refine sP9 ?_ | refine sP10 ?_ | refine sP11 ?_ | refine sP12 ?_ | refine sP13 ?_ | refine sP14 ?_ | refine sP15 ?_ | refine sub_drop ?_))
  (try simp only [o_pickT,guardW_true])
  refine (dWrites Z hS).mono fun r w19 ⟨hr,hw19⟩=>?_
  subst hr hw19
  (try simp only [o_eql,beq_self_eq_true])
  exact ⟨by first | rfl | trivial,hS.drop⟩

 ·apply viaW (p:=fun w'=>St w w' (LgM gl g ⟨3,size,k1,f1,(lastZ 0 0 ts).1,(lastZ 0 0 ts).2,us⟩::DiskM g d1::[OwQ t'.q,blk gt 50 t.cells,own 94 3 before F1.length (F1.flatMap fc),satH (F1.map fb),old w]))
  ·intro post
   refine ⟨fun w12 hd=>?_⟩
   have hS:=hS.drew hd
   by_cases hts:ts=[]
   ·have hz:¬ 0 < (ts.length:Int):=by rw [hts]; simp
    (try simp only [hz,decide_false,o_eql,Int.reduceBEq,condF,o_pickFp,guardV_ft,guardW_ft])
    exact post w12 hS
   ·have hlt:ts.length - 1 < ts.length:=by have:=List.length_pos_iff.2 hts; omega
    have hz:0 < (ts.length:Int):=by omega
    have hzl:=lastZ_at 0 0 ts hlt
    have ho:(cmpZ t.e t.n ts[ts.length - 1].e ts[ts.length - 1].n != 1)=false:=by
     rw [hzl] at hold
     exact bne_eq_false_iff_eq.2 (Decidable.byContradiction fun hne=>hold ⟨hts,hne⟩)
    (try simp only [hz,decide_true,o_eql,Int.reduceBEq,condF,o_pickTp,guardV_true,guardW_true,ln_22_3p,o_subp])
    rw [wr_i64 (x:=(ts.length:Int) - 1) (by omega) (by omega),show (ts.length:Int) - 1=((ts.length - 1:Nat):Int) by omega]
    obtain ⟨b1,p,cs,hp,_,hcv,hpc⟩:=(rowR_rd (c:=Tx.cells) (fun x=>rfl) (hv _ m6 w12 hS).1 rfl).ix el22 .i64 (ts.length - 1) hlt
    subst hcv
    refine rr_loadN ag39 (xs:=zx t.e t.n) rfl (hS.cells_at m3 0 (zx_at t)) ?_
    skip
    refine rp hp ?_
    (try simp only [fa_50_0p,Nat.add_zero])
    refine rr_loadN ag39 (xs:=zx ts[ts.length - 1].e ts[ts.length - 1].n) rfl (fun j u hu=>by rw [add_addr]; have:=hpc (0+j) u (zx_at _ j u hu); rw [Nat.zero_add] at this; exact this) ?_
    refine (refCompare Z hS).mono fun r w13 ⟨hr,hS⟩=>?_
    subst hr
    (try simp only [o_neqp,ho])
    exact post w13 hS
  intro w13 hS
  apply viaW (p:=fun w'=>St w w' (LgM gl g ⟨3,size,k1,f1,(lastZ 0 0 ts).1,(lastZ 0 0 ts).2,us⟩::DiskM g d1::[OwQ t'.q,blk gt 50 t.cells,own 94 3 before F1.length (F1.flatMap fc),satH (F1.map fb),old w]))
  ·intro post
   refine r_loadN ag50 (xs:=t.cells) rfl (hS.cells_at m3 0 (whole_at _)) ?_
   refine (refChkT Z t hh (hq _ m6) hS).mono fun r w14 ⟨hr,hS⟩=>?_
   subst hr
   by_cases hc1:chkT t=true
   ·have hn1:¬ 0 < t.n:=fun hh=>hfine ⟨hc1,hh⟩
    rw [if_pos hc1]
    (try simp only [o_eql,beq_self_eq_true,o_pickT,guardW_true,fa_39_1,Nat.zero_add])
    refine r_load one37 (hS.at m3 1 rfl) ?_
    (try simp only [o_gtr,hn1,decide_false,o_pickF,guardW_ff,o_not,Bool.not_false,o_pickT,guardW_true,o_neq,bne_self_eq_false,condF,guardW_ft])
    exact post w14 hS
   ·rw [if_neg hc1]
    (try simp only [o_eql,Int.reduceBEq,o_pickF,guardW_ff,o_not,Bool.not_false,o_pickT,guardW_true,o_neq,bne_self_eq_false,condF,guardW_ft])
    exact post w14 hS
  intro w14 hS
  refine (dImage Z (hS.pick 1)).mono fun after w15 ⟨F2,hF2,hS⟩=>?_
  have hFF:(F2.map toFi).map (·.1)=(F1.map toFi).map (·.1):=by rw [fi_map,fi_map,hF1,hF2]
  have hS1:St w w15 (own 94 3 before F1.length (F1.flatMap fc)::satH (F1.map fb)::own 94 3 after F2.length (F2.flatMap fc)::satH (F2.map fb)::LgM gl g ⟨3,size,k1,f1,(lastZ 0 0 ts).1,(lastZ 0 0 ts).2,us⟩::DiskM g d1::[old w]):=by (refine Sh.St.sub ?_ (hS); repeat (first | with_reducible (first | exact sub_refl | exact sub_nil | refine sP0 ?_ | refine sP1 ?_ | refine sP2 ?_ | refine sP3 ?_ | refine sP4 ?_ | refine sP5 ?_ | refine sP6 ?_ | refine sP7 ?_ | refine sP8 ?_ | refine sP9 ?_ | refine sP10 ?_ | refine sP11 ?_ | refine sP12 ?_ | refine sP13 ?_ | refine sP14 ?_ | refine sP15 ?_) | exact sub_refl | refine sP0 ?_ | refine sP1 ?_ | refine sP2 ?_ | refine sP3 ?_ | refine sP4 ?_ | refine sP5 ?_ | refine sP6 ?_ | refine sP7 ?_ | refine sP8 ?_ | refine sP9 ?_ | refine sP10 ?_ | refine sP11 ?_ | refine sP12 ?_ | refine sP13 ?_ | refine sP14 ?_ | refine sP15 ?_ | refine sub_drop ?_))
  refine (eqFiles Z (own_rdFi hS) (own_rdFi hS1) hFF).mono fun r w16 ⟨hr,hd⟩=>?_
  subst hr
  have hS:=hS1.drew hd
  (try simp only [o_pickT,guardW_true])
  refine (lAll Z (l:=⟨3,size,k1,f1,(lastZ 0 0 ts).1,(lastZ 0 0 ts).2,us⟩) hwus (show us.length * 168≤_ by omega) (hS.pick 4)).mono fun r w17 ⟨xs,hxs,hS⟩=>?_
  have hxt:xs.map txK=ts.map txK:=(hxs.trans hus).trans htk
  refine (eqTs Z (fun w hw=>OwT.rd hw) (hv _ m8) hS).mono fun r w18 ⟨⟨b,hr,hb⟩,hS⟩=>?_
  subst hr
  obtain rfl:=hb.2 hxt
  have hS:St w w18 (DiskM g d1::[old w]):=by (refine Sh.St.sub ?_ (hS); repeat (first | with_reducible (first | exact sub_refl | exact sub_nil | refine sP0 ?_ | refine sP1 ?_ | refine sP2 ?_ | refine sP3 ?_ | refine sP4 ?_ | refine sP5 ?_ | refine sP6 ?_ | refine sP7 ?_ | refine sP8 ?_ | refine sP9 ?_ | refine sP10 ?_ | refine sP11 ?_ | refine sP12 ?_ | refine sP13 ?_ | refine sP14 ?_ | refine sP15 ?_) | exact sub_refl | refine sP0 ?_ | refine sP1 ?_ | refine sP2 ?_ | refine sP3 ?_ | refine sP4 ?_ | refine sP5 ?_ | refine sP6 ?_ | refine sP7 ?_ | refine sP8 ?_ | refine sP9 ?_ | refine sP10 ?_ | refine sP11 ?_ | refine sP12 ?_ | refine sP13 ?_ | refine sP14 ?_ | refine sP15 ?_ | refine sub_drop ?_))
  (try simp only [o_pickT,guardW_true])
  refine (dWrites Z hS).mono fun r w19 ⟨hr,hw19⟩=>?_
  subst hr hw19
  (try simp only [o_eql,beq_self_eq_true])
  exact ⟨by first | rfl | trivial,hS.drop⟩
end

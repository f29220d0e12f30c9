
/- Disks, plainly: what each call makes of a disk's files. -/
import Derived.Test.YtbdfhfceffkhgaaGreatDoorS0
import Derived.Test.YtbdfhfceffkhgaaGreatDoorP4
import Derived.Test.YtbdfhfceffkhgaaGreatDoorShIns
set_option linter.unusedVariables false
set_option linter.unusedSimpArgs false
namespace Go.Proofs.YtbdfhfceffkhgaaGreatDoor
open Go.Sh
open Tryz renaming prog → π
abbrev Bs:=List UInt8
def blt (a b:Bs):Bool:=Op.bytesLess a b
theorem blt_cons (a b:UInt8) (x y:Bs):blt (a::x) (b::y)=(decide (a < b) || (a == b && blt x y)):=rfl
theorem blt_irr:∀a:Bs,blt a a=false
 | []=>rfl
 | a::x=>by rw [blt_cons,blt_irr x]; simp
theorem blt_trans:∀{a b c:Bs},blt a b=true→blt b c=true→blt a c=true
 | _,_,[],_,h=>by cases ‹Bs› <;> simp [blt,Op.bytesLess] at h
 | [],_,_::_,_,_=>rfl
 | _::_,[],_::_,h,_=>by simp [blt,Op.bytesLess] at h
 | a::x,b::y,c::z,h1,h2=>by
  rw [blt_cons] at h1 h2 ⊢
  simp only [Bool.or_eq_true,decide_eq_true_eq,Bool.and_eq_true,beq_iff_eq] at h1 h2 ⊢
  rcases h1 with h1 | ⟨rfl,h1⟩
  ·rcases h2 with h2 | ⟨rfl,h2⟩
   ·exact .inl (by rw [UInt8.lt_iff_toNat_lt] at *; omega)
   ·exact .inl h1
  ·rcases h2 with h2 | ⟨rfl,h2⟩
   ·exact .inl h2
   ·exact .inr ⟨rfl,blt_trans h1 h2⟩
theorem blt_tri:∀{a b:Bs},blt a b=false→blt b a=false→a=b
 | [],[],_,_=>rfl
 | [],_::_,h,_=>by simp [blt,Op.bytesLess] at h
 | _::_,[],_,h=>by simp [blt,Op.bytesLess] at h
 | a::x,b::y,h1,h2=>by
  rw [blt_cons] at h1 h2
  simp only [Bool.or_eq_false_iff,decide_eq_false_iff_not,Bool.and_eq_false_imp,beq_iff_eq] at h1 h2
  have e:a=b:=by
   have p1:=h1.1
   have p2:=h2.1
   rw [UInt8.lt_iff_toNat_lt] at p1 p2
   exact UInt8.toNat_inj.1 (by omega)
  subst e
  rw [blt_tri (h1.2 rfl) (h2.2 rfl)]
structure Fil where
 nm:Bs
 by_:Bs
 sy:Nat
def Srt (fs:List Fil):Prop:=fs.Pairwise fun a b=>blt a.nm b.nm=true
def ix:List Fil→Bs→Nat
 | [],_=>0
 | f::fs,n=>if blt f.nm n then ix fs n+1 else 0
def isAt (fs:List Fil) (n:Bs):Bool:=match fs[ix fs n]? with
 | some f=>decide (f.nm=n)
 | none=>false
theorem ix_le:∀(fs:List Fil) (n:Bs),ix fs n≤fs.length
 | [],_=>Nat.le_refl _
 | f::fs,n=>by unfold ix; have:=ix_le fs n; split <;> simp <;> omega
theorem ix_of:∀(fs:List Fil) (n:Bs) (lo:Nat),lo≤fs.length→(∀j (hj:j < fs.length),j < lo→blt fs[j].nm n=true)→(∀(h:lo < fs.length),blt fs[lo].nm n=false)→ix fs n=lo
 | [],_,lo,hl,_,_=>by simp at hl; subst hl; rfl
 | f::fs,n,0,_,_,h=>by
  have:=h (by simp)
  simp only [List.getElem_cons_zero] at this
  simp [ix,this]
 | f::fs,n,lo+1,hl,h1,h2=>by
  have h0:=h1 0 (by simp) (by omega)
  simp only [List.getElem_cons_zero] at h0
  rw [ix,if_pos h0,ix_of fs n lo (by simpa using hl) (fun j hj hlt=>h1 (j+1) (by simpa using hj) (by omega)) (fun h=>h2 (by simpa using h))]
theorem ix_lt:∀(fs:List Fil) (n:Bs) (j:Nat) (hj:j < fs.length),j < ix fs n→blt fs[j].nm n=true
 | f::fs,n,j,hj,h=>by
  unfold ix at h
  split at h
  ·rename_i hb
   cases j with
   | zero=>exact hb
   | succ j=>simpa using ix_lt fs n j (by simpa using hj) (by omega)
  ·omega
theorem ix_ge:∀(fs:List Fil) (n:Bs) (h:ix fs n < fs.length),blt fs[ix fs n].nm n=false
 | f::fs,n,h=>by
  by_cases hb:blt f.nm n=true
  ·have e:ix (f::fs) n=ix fs n+1:=by simp [ix,hb]
   have h':ix fs n < fs.length:=by rw [e] at h; simpa using h
   have:=ix_ge fs n h'
   simpa [e] using this
  ·have e:ix (f::fs) n=0:=by simp [ix,hb]
   have hb':blt f.nm n=false:=by simpa using hb
   simpa [e] using hb'
theorem Srt.lt {fs:List Fil} (h:Srt fs) {i j:Nat} (hi:i < fs.length) (hj:j < fs.length) (hij:i < j):blt fs[i].nm fs[j].nm=true:=List.pairwise_iff_getElem.1 h i j hi hj hij
theorem Srt.ix_at {fs:List Fil} (h:Srt fs) {i:Nat} (hi:i < fs.length):ix fs fs[i].nm=i:=
 ix_of fs _ i (by omega) (fun j hj hlt=>h.lt hj hi hlt) (fun h=>blt_irr _)
theorem isAt_iff {fs:List Fil} (h:Srt fs) (n:Bs):isAt fs n=true ↔ ∃f ∈ fs,f.nm=n:=by
 unfold isAt
 constructor
 ·intro hh
  split at hh
  ·rename_i f hf
   exact ⟨f,List.mem_of_getElem? hf,of_decide_eq_true hh⟩
  ·cases hh
 ·rintro ⟨f,hf,rfl⟩
  obtain ⟨i,hi,rfl⟩:=List.getElem_of_mem hf
  rw [h.ix_at hi,List.getElem?_eq_getElem hi]
  simp
theorem isAt_some {fs:List Fil} {n:Bs} (h:isAt fs n=true):∃hi:ix fs n < fs.length,fs[ix fs n].nm=n:=by
 unfold isAt at h
 split at h
 ·rename_i f hf
  obtain ⟨hi,e⟩:=List.getElem?_eq_some_iff.1 hf
  exact ⟨hi,by rw [e]; exact of_decide_eq_true h⟩
 ·cases h
def total (fs:List Fil):Nat:=(fs.map fun f=>f.by_.length).sum
theorem total_append (a b:List Fil):total (a++b)=total a+total b:=by unfold total; rw [List.map_append,List.sum_append]
theorem total_cons (f:Fil) (b:List Fil):total (f::b)=f.by_.length+total b:=rfl
theorem total_ge {fs:List Fil} {f:Fil} (h:f ∈ fs):f.by_.length≤total fs:=by
 obtain ⟨a,b,rfl⟩:=List.append_of_mem h
 rw [total_append,total_cons]; omega
def insF (fs:List Fil) (f:Fil):List Fil:=fs.take (ix fs f.nm)++f::fs.drop (ix fs f.nm)
theorem insF_length (fs:List Fil) (f:Fil):(insF fs f).length=fs.length+1:=by
 unfold insF
 have:=ix_le fs f.nm
 simp; omega
theorem insF_total (fs:List Fil) (f:Fil):total (insF fs f)=total fs+f.by_.length:=by
 unfold insF
 rw [total_append,total_cons]
 have:total fs=total (fs.take (ix fs f.nm))+total (fs.drop (ix fs f.nm)):=by rw [← total_append,List.take_append_drop]
 omega
theorem insF_mem {fs:List Fil} {f g:Fil}:g ∈ insF fs f ↔ g=f∨g ∈ fs:=by
 unfold insF
 conv=>rhs; rhs; rw [← List.take_append_drop (ix fs f.nm) fs]
 simp only [List.mem_append,List.mem_cons]
 constructor
 ·rintro (h | h | h)
  ·exact .inr (.inl h)
  ·exact .inl h
  ·exact .inr (.inr h)
 ·rintro (h | h | h)
  ·exact .inr (.inl h)
  ·exact .inl h
  ·exact .inr (.inr h)
theorem insF_srt {fs:List Fil} {f:Fil} (h:Srt fs) (hn:isAt fs f.nm=false):Srt (insF fs f):=by
 have hlt:∀g ∈ fs.take (ix fs f.nm),blt g.nm f.nm=true:=fun g hg=>by
  obtain ⟨j,hj,rfl⟩:=List.getElem_of_mem hg
  rw [List.getElem_take]
  have:=hj
  rw [List.length_take] at this
  exact ix_lt fs f.nm j (by omega) (by omega)
 have hgt:∀g ∈ fs.drop (ix fs f.nm),blt f.nm g.nm=true:=fun g hg=>by
  obtain ⟨j,hj,rfl⟩:=List.getElem_of_mem hg
  rw [List.length_drop] at hj
  rw [List.getElem_drop]
  have h0:ix fs f.nm < fs.length:=by omega
  have h1:=ix_ge fs f.nm h0
  have h2:fs[ix fs f.nm].nm ≠ f.nm:=fun e=>by
   unfold isAt at hn
   rw [List.getElem?_eq_getElem h0] at hn
   exact absurd e (of_decide_eq_false hn)
  have h3:blt f.nm fs[ix fs f.nm].nm=true:=by
   cases hb:blt f.nm fs[ix fs f.nm].nm with
   | true=>rfl
   | false=>exact absurd (blt_tri h1 hb) h2
  cases j with
  | zero=>exact h3
  | succ j=>exact blt_trans h3 (h.lt h0 (by omega) (by omega))
 unfold insF Srt
 rw [List.pairwise_append,List.pairwise_cons]
 refine ⟨List.Pairwise.sublist (List.take_sublist _ _) h,⟨hgt,List.Pairwise.sublist (List.drop_sublist _ _) h⟩,fun a ha b hb=>?_⟩
 rcases List.mem_cons.1 hb with rfl | hb
 ·exact hlt a ha
 ·exact blt_trans (hlt a ha) (hgt b hb)
theorem total_set {fs:List Fil} {i:Nat} (hi:i < fs.length) (f:Fil):total (fs.set i f)+fs[i].by_.length=total fs+f.by_.length:=by
 have h1:fs=fs.take i++fs[i]::fs.drop (i+1):=by simp
 have h2:total fs=total (fs.take i)+(fs[i].by_.length+total (fs.drop (i+1))):=by
  conv=>lhs; rw [h1]
  rw [total_append,total_cons]
 have h3:fs.set i f=fs.take i++f::fs.drop (i+1):=List.set_eq_take_append_cons_drop .. |>.trans (if_pos hi)
 rw [h3,total_append,total_cons]; omega
theorem Srt.set {fs:List Fil} (h:Srt fs) {i:Nat} (hi:i < fs.length) (f:Fil) (hn:f.nm=fs[i].nm):Srt (fs.set i f):=by
 unfold Srt
 rw [List.pairwise_iff_getElem]
 intro a b ha hb hab
 simp only [List.length_set] at ha hb
 have:=h.lt ha hb hab
 rw [List.getElem_set,List.getElem_set]
 split <;> split
 ·omega
 ·subst_vars; rw [hn]; exact this
 ·subst_vars; rw [hn]; exact this
 ·exact this
structure Dk where
 room:Nat
 fs:List Fil
 on:Bool
 armed:Bool
 more:Int
 writes:Int
structure Dk.ok (d:Dk):Prop where
 room:d.room≤16777216
 used:total d.fs≤d.room
 srt:Srt d.fs
 sy:∀f ∈ d.fs,f.sy≤f.by_.length
 many:d.fs.length≤64
def okch (b:UInt8):Bool:=(decide (97≤b.toNat) && decide (b.toNat≤122)) || (decide (48≤b.toNat) && decide (b.toNat≤57)) || decide (b.toNat=46)
def nameOk (s:Bs):Bool:=s.all okch && (decide (1≤s.length) && decide (s.length≤24))
def Dk.new (room:Nat):Dk:=⟨room,[],true,false,0,0⟩
def Dk.stops (d:Dk):Bool:=d.armed && d.more == 0
def Dk.off (d:Dk):Dk:={ d with on:=false,armed:=false }
def Dk.wrote (d:Dk):Dk:={ d with more:=IntKind.i64.wrap (d.more - 1),writes:=IntKind.i64.wrap (d.writes+1) }
def Dk.asked (d:Dk) (ns:List Bs):Int:=if d.on=false then 23 else if ns.all nameOk=false then 22 else 0
def Dk.found (d:Dk) (n:Bs):Int:=if d.asked [n] ≠ 0 then d.asked [n] else if isAt d.fs n then 0 else 20
def makeF (fs:List Fil) (n:Bs):List Fil:=if isAt fs n then fs else insF fs ⟨n,[],0⟩
def Dk.append (d:Dk) (n p:Bs):Int × Dk:=
 if d.asked [n] ≠ 0 then (d.asked [n],d)
 else if isAt d.fs n=false∧64≤d.fs.length then (22,d)
 else if d.room < total d.fs+p.length then (21,d)
 else if d.stops then (23,d.off)
 else (0,{ d.wrote with fs:=(makeF d.fs n).modify (ix d.fs n) fun f=>{ f with by_:=f.by_++p } })
def Dk.sync (d:Dk) (n:Bs):Int × Dk:=
 if d.found n ≠ 0 then (d.found n,d)
 else if d.stops then (23,d.off)
 else (0,{ d.wrote with fs:=d.fs.modify (ix d.fs n) fun f=>{ f with sy:=f.by_.length } })
def Dk.cut (d:Dk) (n:Bs) (k:Int):Int × Dk:=
 if d.found n ≠ 0 then (d.found n,d)
 else if k < 0∨((d.fs[ix d.fs n]?.map fun f=>f.by_.length).getD 0:Int) < k then (1,d)
 else if d.stops then (23,d.off)
 else (0,{ d.wrote with fs:=d.fs.modify (ix d.fs n) fun f=>{ f with by_:=f.by_.take k.toNat,sy:=k.toNat } })
def Dk.arm (d:Dk) (n:Int):Dk:=if d.on then { d with armed:=decide (0≤n),more:=n } else d
def left (tail:Nat) (k:Int):Nat:=min tail k.toNat
def keepF:List Fil→List Int→List Fil
 | [],_=>[]
 | f::fs,[]=>{ f with by_:=f.by_.take f.sy }::keepF fs []
 | f::fs,k::ks=>{ f with by_:=f.by_.take (f.sy+left (f.by_.length - f.sy) k),sy:=f.sy+left (f.by_.length - f.sy) k }::keepF fs ks
def Dk.start (d:Dk) (ks:List Int):Dk:=if d.on then d else { d with on:=true,fs:=keepF d.fs ks }
theorem Dk.off_ok {d:Dk} (h:d.ok):d.off.ok:=⟨h.room,h.used,h.srt,h.sy,h.many⟩
theorem Dk.wrote_ok {d:Dk} (h:d.ok):d.wrote.ok:=⟨h.room,h.used,h.srt,h.sy,h.many⟩
theorem modify_set {fs:List Fil} {i:Nat} (hi:i < fs.length) (F:Fil→Fil):fs.modify i F=fs.set i (F fs[i]):=by
 apply List.ext_getElem?
 intro j
 rw [List.getElem?_modify,List.getElem?_set]
 by_cases e:i=j
 ·subst e; simp [hi]
 ·simp [e]
theorem makeF_srt {fs:List Fil} (h:Srt fs) (n:Bs):Srt (makeF fs n):=by
 unfold makeF
 split
 ·exact h
 ·rename_i hb
  exact insF_srt h (by simpa using hb)
theorem ix_insF {fs:List Fil} (n:Bs) (f:Fil) (hf:f.nm=n):(insF fs f)[ix fs n]? = some f:=by
 unfold insF
 subst hf
 have:=ix_le fs f.nm
 rw [List.getElem?_append_right (by rw [List.length_take]; omega),List.length_take,show ix fs f.nm - min (ix fs f.nm) fs.length=0 by omega]
 rfl
theorem makeF_at {fs:List Fil} (n:Bs):∃hi:ix fs n < (makeF fs n).length,(makeF fs n)[ix fs n].nm=n:=by
 unfold makeF
 by_cases h:isAt fs n=true
 ·rw [if_pos h]; exact isAt_some h
 ·rw [if_neg h]
  have:=ix_insF (fs:=fs) n ⟨n,[],0⟩ rfl
  obtain ⟨hi,e⟩:=List.getElem?_eq_some_iff.1 this
  exact ⟨hi,by rw [e]⟩
theorem makeF_total (fs:List Fil) (n:Bs):total (makeF fs n)=total fs:=by
 unfold makeF
 split
 ·rfl
 ·rw [insF_total]; rfl
theorem makeF_sy {fs:List Fil} (h:∀f ∈ fs,f.sy≤f.by_.length) (n:Bs):∀f ∈ makeF fs n,f.sy≤f.by_.length:=by
 unfold makeF
 split
 ·exact h
 ·intro f hf
  rcases insF_mem.1 hf with rfl | hf
  ·exact Nat.le_refl _
  ·exact h f hf
theorem set_all {fs:List Fil} {p:Fil→Prop} (h:∀f ∈ fs,p f) {i:Nat} {g:Fil} (hg:p g):∀f ∈ fs.set i g,p f:=fun f hf=>by
 rcases List.mem_or_eq_of_mem_set hf with hf | rfl
 ·exact h f hf
 ·exact hg
theorem Dk.append_ok {d:Dk} (h:d.ok) (n p:Bs):(d.append n p).2.ok:=by
 unfold Dk.append
 split
 ·exact h
 split
 ·exact h
 split
 ·exact h
 split
 ·exact Dk.off_ok h
 rename_i h1 h2 h3 h4
 obtain ⟨hi,hn⟩:=makeF_at (fs:=d.fs) n
 have ht:=makeF_total d.fs n
 have hs:=total_set hi { (makeF d.fs n)[ix d.fs n] with by_:=(makeF d.fs n)[ix d.fs n].by_++p }
 simp only [List.length_append] at hs
 refine ⟨h.room,?_,?_,?_,?_⟩
 ·show total ((makeF d.fs n).modify _ _)≤d.room
  rw [modify_set hi]; omega
 ·show Srt ((makeF d.fs n).modify _ _)
  rw [modify_set hi]; exact (makeF_srt h.srt n).set hi _ rfl
 ·show ∀f ∈ (makeF d.fs n).modify _ _,_
  rw [modify_set hi]
  have hm:=makeF_sy h.sy n
  refine set_all hm ?_
  have:=hm _ (List.getElem_mem hi)
  simp; omega
 ·show ((makeF d.fs n).modify _ _).length≤64
  rw [List.length_modify]
  unfold makeF
  split
  ·exact h.many
  ·rename_i hb
   rw [insF_length]
   have hb:isAt d.fs n=false:=by simpa using hb
   have:¬ 64≤d.fs.length:=fun hh=>h2 ⟨hb,hh⟩
   omega
theorem Dk.sync_ok {d:Dk} (h:d.ok) (n:Bs):(d.sync n).2.ok:=by
 unfold Dk.sync
 split
 ·exact h
 split
 ·exact Dk.off_ok h
 by_cases hi:ix d.fs n < d.fs.length
 ·have hs:=total_set hi { d.fs[ix d.fs n] with sy:=d.fs[ix d.fs n].by_.length }
  refine ⟨h.room,?_,?_,?_,?_⟩
  ·show total (d.fs.modify _ _)≤d.room
   rw [modify_set hi]; have:=h.used; simp at hs; omega
  ·show Srt (d.fs.modify _ _)
   rw [modify_set hi]; exact h.srt.set hi _ rfl
  ·show ∀f ∈ d.fs.modify _ _,_
   rw [modify_set hi]
   exact set_all h.sy (Nat.le_refl _)
  ·show (d.fs.modify _ _).length≤64
   rw [List.length_modify]; exact h.many
 ·have:d.fs.modify (ix d.fs n) (fun f=>{ f with sy:=f.by_.length })=d.fs:=List.modify_eq_self (by omega)
  rw [this]; exact Dk.wrote_ok h
end Go.Proofs.YtbdfhfceffkhgaaGreatDoor


/- Disks in memory: slices.Insert, slices.Delete; the place of a name; a file is put in, is taken out. -/
set_option linter.unusedVariables false
set_option linter.unusedSimpArgs false
namespace Go.Proofs.YtbdfhfceffkhgaaGreatDoor
open Go.Sh
open Tryz renaming prog → π
def fc (p:Fil × Value):List Value:=[.string (str p.1.nm),p.2,.int .i64 p.1.sy]
def fb (p:Fil × Value):HProp:=own 5 1 p.2 p.1.by_.length (cb p.1.by_)
def Fils (v:Value) (L:List (Fil × Value)):HProp:=own 97 3 v L.length (L.flatMap fc)
def dcells (v:Value) (u:Nat) (d:Dk):List Value:=[v,.int .i64 u,.bool true,.int .i64 d.room,.bool d.on,.bool d.armed,.int .i64 d.more,.int .i64 d.writes]
def DiskO (g:Nat) (u:Nat) (d:Dk) (v:Value) (L:List (Fil × Value)) (R:List HProp):List HProp:=blk g 76 (dcells v u d)::Fils v L::satH (L.map fb)::R
def DiskM (g:Nat) (d:Dk):HProp:=fun h=>∃v L,(d.ok∧L.map (·.1)=d.fs)∧sep (blk g 76 (dcells v (total d.fs) d)) (sep (Fils v L) (satH (L.map fb))) h
theorem fc_flat (L:List (Fil × Value)):(L.flatMap fc).length=L.length * 3:=by
 induction L with
 | nil=>rfl
 | cons a L ih=>rw [List.flatMap_cons,List.length_append,ih,List.length_cons]; simp [fc]; omega
theorem fc_ones {L:List (Fil × Value)} (h:∀p ∈ L,p.2.oneCell'=true):ones (L.flatMap fc):=by
 intro u hu
 obtain ⟨p,hp,hu⟩:=List.mem_flatMap.1 hu
 simp only [fc,List.mem_cons,List.not_mem_nil,or_false] at hu
 rcases hu with rfl | rfl | rfl
 ·rfl
 ·exact h p hp
 ·rfl
theorem fc_cut {L:List (Fil × Value)} {i:Nat} (hi:i < L.length):((L.flatMap fc).drop (i * 3)).take 3=fc L[i]:=by
 have h:=flatten_cut (sz:=3) (css:=L.map fc) (fun c hc=>by obtain ⟨q,_,rfl⟩:=List.mem_map.1 hc; rfl) i (by rw [List.length_map]; exact hi)
 rw [List.getElem_map] at h
 exact h
section
variable {o w:World} {R:List HProp} {g:Nat} {d:Dk}
theorem DiskM.open (h:St o w (DiskM g d::R)):∃v L,d.ok∧L.map (·.1)=d.fs∧St o w (DiskO g (total d.fs) d v L R):=by
 obtain ⟨v,h⟩:=h.ex
 obtain ⟨L,h⟩:=h.ex
 obtain ⟨⟨hk,hL⟩,h⟩:=h.pure
 exact ⟨v,L,hk,hL,h.sep.swap.sep.pick 2⟩
theorem DiskM.shut {v:Value} {L:List (Fil × Value)} {u:Nat} (hk:d.ok) (hL:L.map (·.1)=d.fs) (hu:u=total d.fs) (h:St o w (DiskO g u d v L R)):St o w (DiskM g d::R):=by
 subst hu
 exact (((((h.pick 2).pick 2).sep_intro.swap.sep_intro).pure_intro ⟨hk,hL⟩).ex_intro L).ex_intro v
theorem Fils.form {v:Value} {L:List (Fil × Value)} {As:List HProp} (h:St o w As) (hm:Fils v L ∈ As):∃a c,v=.slice a L.length c:=(h.own_rd hm).form
theorem fb_one {L:List (Fil × Value)} (h:St o w (satH (L.map fb)::R)):∀p ∈ L,p.2.oneCell'=true:=fun p hp=>by
 have hm:fb p ∈ L.map fb++R:=List.mem_append_left _ (List.mem_map_of_mem hp)
 obtain ⟨a,c,e⟩:=(h.all.own_rd hm).form
 rw [e]; rfl
theorem Fils.ix {v:Value} {L:List (Fil × Value)} {As:List HProp} (h:St o w As) (hm:Fils v L ∈ As) (i:Nat) (hi:i < L.length) :
  ∃b q,(∀w,(Instr.indexAt 72 v (.int .i64 i)).run π w=.ok (.pointer (some ⟨b,q,none⟩)) w)∧∀j u,(fc L[i])[j]? = some u→w.cell? ⟨b,q+j,none⟩=some u:=by
 obtain ⟨b,q,h1,h2,_⟩:=(h.own_rd hm).ix el72 .i64 i hi
 rw [fc_cut hi] at h2
 exact ⟨b,q,h1,h2⟩
theorem fb_rd {L:List (Fil × Value)} (h:St o w (satH (L.map fb)::R)) (i:Nat) (hi:i < L.length):Rd w 1 L[i].2 L[i].1.by_.length (cb L[i].1.by_):=by
 have hm:fb L[i] ∈ L.map fb++R:=List.mem_append_left _ (List.mem_map_of_mem (List.getElem_mem hi))
 exact h.all.own_rd hm
end
section
variable (Z:PZ) {o w:World} {R As:List HProp} {g:Nat} {d:Dk} {v:Value} {L:List (Fil × Value)}
theorem isName (s:Bs) (hs:s.length≤9223372036854775806):CallV π Z 133 #[.string (str s)] w fun r w'=>r=.bool (nameOk s)∧w'=w:=by
 refine f133.calls ?_
 unfold f133.sh
 refine r1 (run_lenStr st9 _ rfl _ _ _) ?_
 rw [str_size]
 refine ⟨fun m y w'=>∃i:Nat,y=.int .i64 i∧m+i=s.length∧(s.take i).all okch=true∧w'=w,⟨s.length,0,rfl,rfl,rfl,rfl⟩,?_⟩
 rintro m _ w1 ⟨i,rfl,hi,hall,rfl⟩ _
 by_cases hlt:(i:Int) < (s.length:Int)
 ·have hil:i < s.length:=by omega
  (try simp only [o_add,ln_9_3,o_geq,o_lss,hlt,decide_true,condT])
  refine r1 (run_indexStr st9 .i64 s i hil _) ?_
  have hb:=s[i].toNat_lt
  have hok:okch s[i]=true→∃n_2,n_2 < m∧∃i_1:Nat,Value.int .i64 (IntKind.i64.wrap ((i:Int)+1))=.int .i64 i_1∧n_2+i_1=s.length∧(s.take i_1).all okch=true∧True:=fun h=>by
   rw [wr_i64 (x:=(i:Int)+1) (by omega) (by omega)]
   refine ⟨m - 1,by omega,i+1,rfl,by omega,?_,trivial⟩
   rw [List.take_succ_eq_append_getElem hil,List.all_append,hall]
   simp [h]
  have hno:okch s[i]=false→Value.bool false=.bool (nameOk s)∧True:=fun h=>by
   refine ⟨?_,trivial⟩
   have:s.all okch=false:=by
    rw [List.all_eq_false]
    exact ⟨s[i],List.getElem_mem hil,by simp [h]⟩
   simp [nameOk,this]
  obtain ⟨b,hbe⟩:∃b,s[i].toNat=b:=⟨_,rfl⟩
  rw [hbe] at hb ⊢
  by_cases h1:(b:Int) < 97
  ·by_cases h2:(b:Int) < 48
   ·(try simp only [o_lss,h1,decide_true,o_pickT,guardW_true,h2,o_neq,cond_bne,guardW_tf])
    exact ⟨fun h3=>hno (by unfold okch; rw [hbe]; simp; omega),fun h3=>hok (by unfold okch; rw [hbe]; simp; omega)⟩
   ·by_cases h4:(57:Int) < b
    ·(try simp only [o_lss,h1,decide_true,o_pickT,guardW_true,h2,decide_false,o_pickF,guardW_ff,o_gtr,h4,o_neq,cond_bne,guardW_tf])
     exact ⟨fun h3=>hno (by unfold okch; rw [hbe]; simp; omega),fun h3=>hok (by unfold okch; rw [hbe]; simp; omega)⟩
    ·(try simp only [o_lss,h1,decide_true,o_pickT,guardW_true,h2,decide_false,o_pickF,guardW_ff,o_gtr,h4,condF,guardW_ft,guardW_tf])
     exact hok (by unfold okch; rw [hbe]; simp; omega)
  ·by_cases h5:(122:Int) < b
   ·have h2:¬ (b:Int) < 48:=by omega
    have h4:(57:Int) < b:=by omega
    (try simp only [o_lss,h1,decide_false,o_pickF,guardW_ff,o_gtr,h5,decide_true,o_pickT,guardW_true,h2,h4,o_neq,cond_bne])
    exact ⟨fun h3=>hno (by unfold okch; rw [hbe]; simp; omega),fun h3=>hok (by unfold okch; rw [hbe]; simp; omega)⟩
   ·(try simp only [o_lss,h1,decide_false,o_pickF,guardW_ff,o_gtr,h5,condF,guardW_ft,guardW_u])
    exact hok (by unfold okch; rw [hbe]; simp; omega)
 ·(try simp only [o_add,ln_9_3,o_geq,o_lss,hlt,decide_false,condF])
  obtain rfl:i=s.length:=by omega
  rw [List.take_length] at hall
  rw [str_size]
  unfold nameOk
  rw [hall]
  by_cases h1:(1:Int)≤(s.length:Int)
  ·(try simp only [h1,decide_true,o_pickT,guardW_true,ln_9_3,str_size,o_leq])
   refine ⟨?_,trivial⟩
   have h1':1≤s.length:=by omega
   simp [h1']
   omega
  ·(try simp only [h1,decide_false,o_pickF,guardW_ft])
   refine ⟨?_,trivial⟩
   have h1':¬ 1≤s.length:=by omega
   simp [h1']
theorem dAtN {T:TypeId} {cs:List Value} (n:Bs) (h:St o w As) (hm:blk g T cs ∈ As) (hv:cs[0]? = some v) (hF:Fils v L ∈ As) (hs:Srt (L.map (·.1))) (hl:L.length≤1000) :
  CallV π Z 88 #[.pointer (some ⟨g,0,none⟩),.string (str n)] w fun r w'=>r=.tuple #[.int .i64 (ix (L.map (·.1)) n),.bool (isAt (L.map (·.1)) n)]∧Drew w w':=by
 refine f88.calls ?_
 unfold f88.sh
 refine ⟨fun w1 hd1=>?_⟩
 have hS:=h.drew hd1
 (try simp only [o_chk,fa_74_0,Nat.add_zero,o_chkp,fa_74_0p])
 refine rr_load one72 (hS.at hm 0 hv) ?_
 obtain ⟨va,vc,hvf⟩:=Fils.form hS hF
 have hvf0:=hvf
 subst hvf
 (try simp only [ln_72_3p])
 refine ⟨fun m a b w'=>∃lo hi:Nat,a=.int .i64 lo∧b=.int .i64 hi∧m=hi - lo∧lo≤hi∧hi≤L.length∧(∀j (hj:j < L.length),j < lo→blt L[j].1.nm n=true)∧(∀j (hj:j < L.length),hi≤j→blt L[j].1.nm n=false)∧w'=w1,
  ⟨L.length,0,L.length,rfl,rfl,by omega,by omega,by omega,fun j hj h=>by omega,fun j hj h=>by omega,rfl⟩,?_⟩
 rintro m _ _ w2 ⟨lo,hi,rfl,rfl,hm',hlo,hhi,hlt,hge,rfl⟩ _
 by_cases hlh:(lo:Int) < (hi:Int)
 ·(try simp only [o_add,o_lss,hlh,decide_true,condT])
  rw [wr_i64 (x:=(lo:Int)+hi) (by omega) (by omega)]
  refine r1 (run_quo _ _ _ .i64 _ 2 (by omega)) ?_
  have hq:((lo:Int)+hi).tdiv 2=(((lo+hi) / 2:Nat):Int):=by
   rw [show (lo:Int)+hi=((lo+hi:Nat):Int) by omega]; rfl
  rw [hq,wr_i64 (x:=(((lo+hi) / 2:Nat):Int)) (by omega) (by omega)]
  refine r_load one72 (hS.at hm 0 hv) ?_
  have hmid:(lo+hi) / 2 < L.length:=by omega
  obtain ⟨b,q,hp,hc⟩:=Fils.ix hS hF _ hmid
  refine r1 (hp _) ?_
  (try simp only [o_add,fa_97_0,Nat.add_zero])
  refine r_load one9 (hc 0 _ rfl) (r1 (run_lss_strS _ _ _ _) ?_)
  have hsrt:∀i j (hi:i < L.length) (hj:j < L.length),i < j→blt L[i].1.nm L[j].1.nm=true:=fun i j hi hj hij=>by
   have:=hs.lt (i:=i) (j:=j) (by simpa using hi) (by simpa using hj) hij
   simpa using this
  cases hb:Op.bytesLess L[(lo+hi) / 2].1.nm n with
  | true=>
   (try simp only [condT])
   rw [wr_i64 (x:=(((lo+hi) / 2:Nat):Int)+1) (by omega) (by omega)]
   refine ⟨_,?_,(lo+hi) / 2+1,hi,rfl,rfl,rfl,by omega,hhi,fun j hj hjl=>?_,hge,trivial⟩
   ·omega
   ·rcases Nat.lt_or_ge j ((lo+hi) / 2) with h1 | h1
    ·exact blt_trans (hsrt j _ hj hmid h1) hb
    ·obtain rfl:j=(lo+hi) / 2:=by omega
     exact hb
  | false=>
   (try simp only [condF])
   refine ⟨_,?_,lo,(lo+hi) / 2,rfl,rfl,rfl,by omega,by omega,hlt,fun j hj hjl=>?_,trivial⟩
   ·omega
   ·rcases Nat.lt_or_ge ((lo+hi) / 2) j with h1 | h1
    ·cases hb2:blt L[j].1.nm n with
     | false=>rfl
     | true=>
      have:=blt_trans (hsrt _ j hmid hj h1) hb2
      rw [show blt L[(lo+hi) / 2].1.nm n=Op.bytesLess L[(lo+hi) / 2].1.nm n from rfl,hb] at this
      cases this
    ·obtain rfl:j=(lo+hi) / 2:=by omega
     exact hb
 ·(try simp only [o_add,o_lss,hlh,decide_false,condF])
  obtain rfl:lo=hi:=by omega
  have hix:ix (L.map (·.1)) n=lo:=ix_of _ n lo (by simpa using hhi) (fun j hj hjl=>by simpa using hlt j (by simpa using hj) hjl) (fun h=>by simpa using hge lo (by simpa using h) (Nat.le_refl _))
  refine ⟨fun w3 hd3=>?_⟩
  have hS:=hS.drew hd3
  refine rr_load one72 (hS.at hm 0 hv) ?_
  by_cases hl2:(lo:Int) < (L.length:Int)
  ·have hll:lo < L.length:=by omega
   (try simp only [ln_72_3p,o_lssp,hl2,decide_true,o_pickTp,guardV_true,o_chkp,fa_74_0p,Nat.add_zero])
   refine rr_load one72 (hS.at hm 0 hv) ?_
   obtain ⟨b,q,hp,hc⟩:=Fils.ix hS hF lo hll
   refine rp hp ?_
   (try simp only [fa_97_0p,Nat.add_zero])
   refine rr_load one9 (hc 0 _ rfl) (rp (fun w=>run_eql_strS _ _ _ _ _ w) ?_)
   skip
   refine ⟨?_,hd1.trans hd3⟩
   unfold isAt
   rw [hix,List.getElem?_map,List.getElem?_eq_getElem hll]
   rfl
  ·(try simp only [ln_72_3p,o_lssp,hl2,decide_false,o_pickFp,guardV_ft])
   refine ⟨?_,hd1.trans hd3⟩
   unfold isAt
   rw [hix,List.getElem?_map,List.getElem?_eq_none (by omega)]
   rfl
end
end Go.Proofs.YtbdfhfceffkhgaaGreatDoor


/- Disks, plainly: files told by what is among them. -/
set_option linter.unusedVariables false
set_option linter.unusedSimpArgs false
namespace Go.Proofs.YtbdfhfceffkhgaaGreatDoor
open Go.Sh
open Tryz renaming prog → π
theorem Srt.uniq {fs:List Fil} (h:Srt fs) {f g:Fil} (hf:f ∈ fs) (hg:g ∈ fs) (e:f.nm=g.nm):f=g:=by
 obtain ⟨i,hi,rfl⟩:=List.getElem_of_mem hf
 obtain ⟨j,hj,rfl⟩:=List.getElem_of_mem hg
 have h1:=h.ix_at hi
 have h2:=h.ix_at hj
 have:i=j:=by rw [← h1,← h2,e]
 subst this; rfl
theorem at_iff {fs:List Fil} (h:Srt fs) {n:Bs} {f:Fil}:(f ∈ fs∧f.nm=n) ↔ ∃hi:ix fs n < fs.length,fs[ix fs n]=f∧f.nm=n:=by
 constructor
 ·rintro ⟨hf,rfl⟩
  obtain ⟨i,hi,rfl⟩:=List.getElem_of_mem hf
  have e:=h.ix_at hi
  exact ⟨by rw [e]; exact hi,by simp only [e],rfl⟩
 ·rintro ⟨hi,rfl,hn⟩
  exact ⟨List.getElem_mem hi,hn⟩
theorem mem_set {fs:List Fil} (h:Srt fs) {i:Nat} (hi:i < fs.length) (x:Fil) {g:Fil}:g ∈ fs.set i x ↔ g=x∨(g ∈ fs∧g.nm ≠ fs[i].nm):=by
 have e1:fs.set i x=fs.take i++x::fs.drop (i+1):=List.set_eq_take_append_cons_drop .. |>.trans (if_pos hi)
 have ne:∀j (hj:j < fs.length),j ≠ i→fs[j].nm ≠ fs[i].nm:=fun j hj hne e=>by
  have h1:=h.ix_at hj
  have h2:=h.ix_at hi
  rw [e,h2] at h1; exact hne h1.symm
 constructor
 ·intro hg
  rw [e1,List.mem_append,List.mem_cons] at hg
  rcases hg with hg | rfl | hg
  ·obtain ⟨j,hj,rfl⟩:=List.getElem_of_mem hg
   rw [List.length_take] at hj
   rw [List.getElem_take]
   exact .inr ⟨List.getElem_mem _,ne j (by omega) (by omega)⟩
  ·exact .inl rfl
  ·obtain ⟨j,hj,rfl⟩:=List.getElem_of_mem hg
   rw [List.length_drop] at hj
   rw [List.getElem_drop]
   exact .inr ⟨List.getElem_mem _,ne _ (by omega) (by omega)⟩
 ·rintro (rfl | ⟨hg,hn⟩)
  ·rw [e1]; simp
  ·obtain ⟨j,hj,rfl⟩:=List.getElem_of_mem hg
   have hne:i ≠ j:=fun e=>hn (by subst e; rfl)
   rw [List.mem_iff_getElem]
   exact ⟨j,by simpa using hj,by rw [List.getElem_set,if_neg hne]⟩
theorem mem_makeF {fs:List Fil} {n:Bs} (h:Srt fs) {g:Fil}:g ∈ makeF fs n ↔ g ∈ fs∨((∀f ∈ fs,f.nm ≠ n)∧g=⟨n,[],0⟩):=by
 unfold makeF
 cases hb:isAt fs n with
 | true=>
  rw [if_pos rfl]
  obtain ⟨f,hf,hn⟩:=(isAt_iff h n).1 hb
  exact ⟨.inl,fun hg=>hg.elim id fun ⟨h1,_⟩=>absurd hn (h1 f hf)⟩
 | false=>
  rw [if_neg Bool.false_ne_true,insF_mem]
  have hno:∀f ∈ fs,f.nm ≠ n:=fun f hf hn=>by
   rw [(isAt_iff h n).2 ⟨f,hf,hn⟩] at hb; cases hb
  exact ⟨fun hg=>hg.elim (fun e=>.inr ⟨hno,e⟩) .inl,fun hg=>hg.elim .inr fun ⟨_,e⟩=>.inl e⟩
def has (fs:List Fil) (n:Bs) (b:Bs) (s:Nat):Prop:=(⟨n,b,s⟩:Fil) ∈ fs
def hasNo (fs:List Fil) (n:Bs):Prop:=∀f ∈ fs,f.nm ≠ n
theorem isAt_false {fs:List Fil} (h:Srt fs) {n:Bs}:isAt fs n=false ↔ hasNo fs n:=by
 constructor
 ·intro hb f hf hn
  rw [(isAt_iff h n).2 ⟨f,hf,hn⟩] at hb; cases hb
 ·intro hno
  cases hb:isAt fs n with
  | false=>rfl
  | true=>obtain ⟨f,hf,hn⟩:=(isAt_iff h n).1 hb; exact absurd hn (hno f hf)
theorem isAt_has {fs:List Fil} (h:Srt fs) {n b:Bs} {s:Nat} (hb:has fs n b s):isAt fs n=true:=(isAt_iff h n).2 ⟨_,hb,rfl⟩
theorem has_at {fs:List Fil} (h:Srt fs) {n b:Bs} {s:Nat} (hb:has fs n b s):∃hi:ix fs n < fs.length,fs[ix fs n]=⟨n,b,s⟩:=by
 obtain ⟨hi,e,_⟩:=(at_iff h (n:=n)).1 ⟨hb,rfl⟩
 exact ⟨hi,e⟩
def appF (fs:List Fil) (n p:Bs):List Fil:=(makeF fs n).modify (ix fs n) fun f=>{ f with by_:=f.by_++p }
theorem appF_has {fs:List Fil} (h:Srt fs) {n p:Bs} {g:Fil}:g ∈ appF fs n p ↔ (g ∈ fs∧g.nm ≠ n)∨(∃b s,has fs n b s∧g=⟨n,b++p,s⟩)∨(hasNo fs n∧g=⟨n,p,0⟩):=by
 obtain ⟨hi,hn⟩:=makeF_at (fs:=fs) n
 have hset:appF fs n p=(makeF fs n).set (ix fs n) { (makeF fs n)[ix fs n] with by_:=(makeF fs n)[ix fs n].by_++p }:=modify_set hi _
 have hm:(makeF fs n)[ix fs n] ∈ makeF fs n:=List.getElem_mem hi
 have hmem:=mem_set (makeF_srt h n) hi { (makeF fs n)[ix fs n] with by_:=(makeF fs n)[ix fs n].by_++p } (g:=g)
 rw [← hset] at hmem
 clear hset
 obtain ⟨⟨n0,b0,s0⟩,hf0⟩:∃f0:Fil,(makeF fs n)[ix fs n]=f0:=⟨_,rfl⟩
 rw [hf0] at hmem hm hn
 obtain rfl:n0=n:=hn
 rw [hmem]
 constructor
 ·rintro (rfl | ⟨hg,hne⟩)
  ·rcases (mem_makeF h).1 hm with h1 | ⟨h1,h2⟩
   ·exact .inr (.inl ⟨b0,s0,h1,rfl⟩)
   ·injection h2 with _ h3 h4
    subst h3 h4
    exact .inr (.inr ⟨h1,rfl⟩)
  ·rcases (mem_makeF h).1 hg with h1 | ⟨_,h2⟩
   ·exact .inl ⟨h1,hne⟩
   ·subst h2; exact absurd rfl hne
 ·rintro (⟨hg,hne⟩ | ⟨b,s,hb,rfl⟩ | ⟨hno,rfl⟩)
  ·exact .inr ⟨(mem_makeF h).2 (.inl hg),hne⟩
  ·left
   have e:=(makeF_srt h n0).uniq hm ((mem_makeF h).2 (.inl hb)) rfl
   injection e with _ e1 e2
   subst e1 e2; rfl
  ·left
   have e:=(makeF_srt h n0).uniq hm ((mem_makeF h).2 (.inr ⟨hno,rfl⟩)) rfl
   injection e with _ e1 e2
   subst e1 e2; rfl
end Go.Proofs.YtbdfhfceffkhgaaGreatDoor


/- Disks, plainly: cut, a loss of power, what stays as it must be. -/
set_option linter.unusedVariables false
set_option linter.unusedSimpArgs false
namespace Go.Proofs.YtbdfhfceffkhgaaGreatDoor
open Go.Sh
open Tryz renaming prog → π
theorem keepF_nm:∀(fs:List Fil) (ks:List Int),(keepF fs ks).map (·.nm)=fs.map (·.nm)
 | [],_=>rfl
 | f::fs,[]=>by simp only [keepF,List.map_cons,keepF_nm fs []]
 | f::fs,k::ks=>by simp only [keepF,List.map_cons,keepF_nm fs ks]
theorem srt_nm {fs gs:List Fil} (h:Srt fs) (e:gs.map (·.nm)=fs.map (·.nm)):Srt gs:=by
 have h1:(fs.map (·.nm)).Pairwise fun a b=>blt a b=true:=List.pairwise_map.2 h
 rw [← e] at h1
 exact List.pairwise_map.1 h1
theorem keepF_has:∀{fs:List Fil} {ks:List Int} {g:Fil},g ∈ keepF fs ks→∃f ∈ fs,f.nm=g.nm∧∃l,l≤f.by_.length - f.sy∧g.by_=f.by_.take (f.sy+l)∧g.sy=f.sy+l
 | [],_,g,h=>by cases h
 | f::fs,[],g,h=>by
  simp only [keepF,List.mem_cons] at h
  rcases h with rfl | h
  ·exact ⟨f,List.mem_cons_self,rfl,0,Nat.zero_le _,rfl,rfl⟩
  ·obtain ⟨f',hf,r⟩:=keepF_has h
   exact ⟨f',List.mem_cons_of_mem _ hf,r⟩
 | f::fs,k::ks,g,h=>by
  simp only [keepF,List.mem_cons] at h
  rcases h with rfl | h
  ·exact ⟨f,List.mem_cons_self,rfl,left (f.by_.length - f.sy) k,Nat.min_le_left _ _,rfl,rfl⟩
  ·obtain ⟨f',hf,r⟩:=keepF_has h
   exact ⟨f',List.mem_cons_of_mem _ hf,r⟩
theorem keepF_all {fs:List Fil} {ks:List Int} {f:Fil} (hf:f ∈ fs):∃g ∈ keepF fs ks,g.nm=f.nm:=by
 have:f.nm ∈ (keepF fs ks).map (·.nm):=by rw [keepF_nm]; exact List.mem_map_of_mem hf
 obtain ⟨g,hg,e⟩:=List.mem_map.1 this
 exact ⟨g,hg,e⟩
theorem keepF_total:∀(fs:List Fil) (ks:List Int),total (keepF fs ks)≤total fs
 | [],_=>Nat.le_refl _
 | f::fs,[]=>by
  have:=keepF_total fs []
  simp only [keepF,total_cons,List.length_take]; omega
 | f::fs,k::ks=>by
  have:=keepF_total fs ks
  simp only [keepF,total_cons,List.length_take]; omega
theorem Dk.start_ok {d:Dk} (h:d.ok) (ks:List Int):(d.start ks).ok:=by
 unfold Dk.start
 split
 ·exact h
 refine ⟨h.room,Nat.le_trans (keepF_total _ _) h.used,srt_nm h.srt (keepF_nm _ _),?_,?_⟩
 ·intro g hg
  obtain ⟨f,hf,_,l,hl,hb,hs⟩:=keepF_has hg
  have:=h.sy f hf
  rw [hb,hs,List.length_take]; omega
 ·have:=congrArg List.length (keepF_nm d.fs ks)
  rw [List.length_map,List.length_map] at this
  show (keepF d.fs ks).length≤64
  rw [this]; exact h.many
theorem Dk.arm_ok {d:Dk} (h:d.ok) (n:Int):(d.arm n).ok:=by
 unfold Dk.arm
 split
 ·exact ⟨h.room,h.used,h.srt,h.sy,h.many⟩
 ·exact h
theorem Dk.cut_ok {d:Dk} (h:d.ok) (n:Bs) (k:Int):(d.cut n k).2.ok:=by
 unfold Dk.cut
 split
 ·exact h
 split
 ·exact h
 split
 ·exact Dk.off_ok h
 rename_i h1 h2 h3
 by_cases hi:ix d.fs n < d.fs.length
 ·rw [List.getElem?_eq_getElem hi] at h2
  simp only [Option.map_some,Option.getD_some] at h2
  have hs:=total_set hi { d.fs[ix d.fs n] with by_:=d.fs[ix d.fs n].by_.take k.toNat,sy:=k.toNat }
  simp only [List.length_take] at hs
  refine ⟨h.room,?_,?_,?_,?_⟩
  ·show total (d.fs.modify _ _)≤d.room
   rw [modify_set hi]; have:=h.used; omega
  ·show Srt (d.fs.modify _ _)
   rw [modify_set hi]; exact h.srt.set hi _ rfl
  ·show ∀f ∈ d.fs.modify _ _,_
   rw [modify_set hi]
   refine set_all h.sy ?_
   simp only [List.length_take]; omega
  ·show (d.fs.modify _ _).length≤64
   rw [List.length_modify]; exact h.many
 ·have:d.fs.modify (ix d.fs n) (fun f=>{ f with by_:=f.by_.take k.toNat,sy:=k.toNat })=d.fs:=List.modify_eq_self (by omega)
  rw [this]; exact Dk.wrote_ok h
theorem Dk.new_ok {n:Nat} (h:n≤16777216):(Dk.new n).ok:=⟨h,Nat.zero_le _,List.Pairwise.nil,(fun f hf=>by cases hf),Nat.zero_le _⟩

/- Reference 15: part, Forged, Write. Printed by wip/sh/mkG15.py. -/
import Derived.Test.YtfijkedmbaghmaaGreatDoorG13
import Derived.Test.YtfijkedmbaghmaaGreatDoorT38
import Derived.Test.YtfijkedmbaghmaaGreatDoorU1
set_option linter.unusedVariables false
set_option linter.unusedSimpArgs false
namespace Go.Proofs.YtfijkedmbaghmaaGreatDoor
open Go.Sh
open Tryz renaming prog → π
def ixs (K n:Nat):List Nat:=(List.range n).filter (hasF K)
def ltrB (i:Nat):UInt8:=UInt8.ofNat (ltr i).toNat
theorem lets_fin:∀K:Fin 15,pLets K.1=(ixs K.1 12).map ltrB:=by decide +kernel
theorem pLets_ixs {kd:Int} (h:isKd kd=true):pLets kd=(ixs kd.toNat 12).map ltrB:=by
 have hK:=isKd_le h
 have h0:0≤kd:=by simp [isKd] at h; omega
 have:=lets_fin ⟨kd.toNat,by omega⟩
 have e:((kd.toNat:Nat):Int)=kd:=by omega
 rw [← this]
 simp only [e]
theorem ltrB_val:∀i:Fin 12,((ltrB i.1).toNat:Int)=ltr i.1:=by decide
theorem ixs_mem {K n i:Nat}:i ∈ ixs K n ↔ i < n∧hasF K i=true:=by simp [ixs]
section
variable (Z:PZ) {o w:World} {R As:List HProp} {g:Nat} {p:Pk}
end
end Go.Proofs.YtfijkedmbaghmaaGreatDoor

/- Packets: wide ones, copies; what a Bag takes of them. -/
set_option linter.unusedVariables false
set_option linter.unusedSimpArgs false
namespace Go.Proofs.YtfijkedmbaghmaaGreatDoor
open Go.Sh
open Tryz renaming prog → π
theorem wideB_ow {g:Nat} {l:List UInt8} (hl:l.length≤140737488351232) (h:Hp) (hb:blk g 5 (cb (l++marks l.length)) h):own 5 1 (wv g l.length) l.length (cb l) h:=by
 refine ⟨by rw [cb_length,Nat.mul_one],.inr ⟨g,l.length+64,cb (marks l.length),rfl,by omega,by simp only [maxLen]; omega,?_,?_⟩⟩
 ·rw [← cb_append,cb_length,List.length_append,marks_length,Nat.mul_one]
 ·rw [← cb_append]; exact hb
section
variable (Z:PZ) {o w:World} {R As:List HProp} {g:Nat} {p:Pk}
end
end Go.Proofs.YtfijkedmbaghmaaGreatDoor

/- PacketWrites: the walk. -/
set_option linter.unusedVariables false
set_option linter.unusedSimpArgs false
namespace Go.Proofs.YtfijkedmbaghmaaGreatDoor
open Go.Sh
open Tryz renaming prog → π
theorem St.only {o w:World} {As:List HProp} {A:HProp} (h:St o w As) (hm:A ∈ As):St o w [A]:=by
 refine ⟨h.os,h.tape,h.output,h.size,?_⟩
 have key:∀(As:List HProp) (x:Hp),A ∈ As→satH As x→satH [A] x:=by
  intro As
  induction As with
  | nil=>intro x hm; cases hm
  | cons B As ih=>
   intro x hm ⟨S,hB,hs⟩
   rcases List.mem_cons.1 hm with rfl | hm
   ·exact ⟨S,hB,trivial⟩
   ·obtain ⟨T,hA,_⟩:=ih _ hm hs
    rw [Hp.on_on] at hA
    exact ⟨_,hA,trivial⟩
 exact key As _ hm h.sat
def dat (q:Rq) (d:List UInt8):Rq:=.mk { q.f with data:=d } q.vd q.va q.vw q.vo q.ops
theorem WdQ.data {o w:World} {R:List HProp} (q:Rq) (h:St o w (WdQ q::R)):∃(gd:Nat) (B:HProp),q.vd=wv gd q.f.data.length∧St o w (blk gd 5 (cb (q.f.data++marks q.f.data.length))::B::R) ∧
  ∀(d:List UInt8) (o' w':World) (R':List HProp),d.length=q.f.data.length→St o' w' (blk gd 5 (cb (d++marks q.f.data.length))::B::R')→St o' w' (WdQ (dat q d)::R'):=by
 rw [WdQ_eq] at h
 obtain ⟨gd,g2,g3,⟨e1,e2,e3⟩,h2⟩:=WdF.open h.sep
 obtain ⟨OPS,hO⟩:∃OPS:HProp,OPS=sep (fun h=>∃g:Nat,q.vo=wv g q.ops.length∧blk g 35 ((wide rqM q.ops).map Rq.cells).flatten h) (satH (q.ops.map WdQ)):=⟨_,rfl⟩
 rw [← hO] at h2
 refine ⟨gd,sep (blk g2 178 ((wide enM q.f.acl).map enC).flatten) (sep (blk g3 175 ((wide idM q.f.who).map idC).flatten) OPS),e1,?_,fun d o' w' R' hd hS=>?_⟩
 ·have a:St o w (blk g3 175 ((wide idM q.f.who).map idC).flatten::OPS::blk g2 178 ((wide enM q.f.acl).map enC).flatten::blk gd 5 (cb (q.f.data++marks q.f.data.length))::R):=by (refine Sh.St.sub ?_ (h2); repeat (first | with_reducible (first | exact sub_refl | exact sub_nil | refine sP0 ?_ | refine sP1 ?_ | refine sP2 ?_ | refine sP3 ?_ | refine sP4 ?_ | refine sP5 ?_ | refine sP6 ?_ | refine sP7 ?_ | refine sP8 ?_ | refine sP9 ?_ | refine sP10 ?_ | refine sP11 ?_ | refine sP12 ?_ | refine sP13 ?_ | refine sP14 ?_ | refine sP15 ?_) | exact sub_refl | refine sP0 ?_ | refine sP1 ?_ | refine sP2 ?_ | refine sP3 ?_ | refine sP4 ?_ | refine sP5 ?_ | refine sP6 ?_ | refine sP7 ?_ | refine sP8 ?_ | refine sP9 ?_ | refine sP10 ?_ | refine sP11 ?_ | refine sP12 ?_ | refine sP13 ?_ | refine sP14 ?_ | refine sP15 ?_ | refine sub_drop ?_))
  exact a.sep_intro.swap.sep_intro.swap
 ·have a:=(hS.swap.sep).swap.sep
  have b:St o' w' (blk gd 5 (cb ((dat q d).f.data++marks (dat q d).f.data.length))::blk g2 178 ((wide enM (dat q d).f.acl).map enC).flatten::blk g3 175 ((wide idM (dat q d).f.who).map idC).flatten::OPS::R'):=by
   show St o' w' (blk gd 5 (cb (d++marks d.length))::_)
   rw [hd]
   have a:St o' w' (blk g3 175 ((wide idM q.f.who).map idC).flatten::OPS::blk g2 178 ((wide enM q.f.acl).map enC).flatten::blk gd 5 (cb (d++marks q.f.data.length))::R'):=a
   show St o' w' (blk gd 5 (cb (d++marks q.f.data.length))::blk g2 178 ((wide enM q.f.acl).map enC).flatten::blk g3 175 ((wide idM q.f.who).map idC).flatten::OPS::R')
   (refine Sh.St.sub ?_ (a); repeat (first | with_reducible (first | exact sub_refl | exact sub_nil | refine sP0 ?_ | refine sP1 ?_ | refine sP2 ?_ | refine sP3 ?_ | refine sP4 ?_ | refine sP5 ?_ | refine sP6 ?_ | refine sP7 ?_ | refine sP8 ?_ | refine sP9 ?_ | refine sP10 ?_ | refine sP11 ?_ | refine sP12 ?_ | refine sP13 ?_ | refine sP14 ?_ | refine sP15 ?_) | exact sub_refl | refine sP0 ?_ | refine sP1 ?_ | refine sP2 ?_ | refine sP3 ?_ | refine sP4 ?_ | refine sP5 ?_ | refine sP6 ?_ | refine sP7 ?_ | refine sP8 ?_ | refine sP9 ?_ | refine sP10 ?_ | refine sP11 ?_ | refine sP12 ?_ | refine sP13 ?_ | refine sP14 ?_ | refine sP15 ?_ | refine sub_drop ?_))
  have c:=WdF.shut b
  rw [WdQ_eq]
  have e1':(dat q d).vd=wv gd (dat q d).f.data.length:=by show q.vd=wv gd d.length; rw [hd]; exact e1
  have e2':(dat q d).va=wv g2 (dat q d).f.acl.length:=e2
  have e3':(dat q d).vw=wv g3 (dat q d).f.who.length:=e3
  rw [e1',e2',e3']
  rw [hO] at c
  exact c.sep_intro
section
variable (Z:PZ) {o w:World} {R As:List HProp} {g:Nat} {p:Pk} {b0 b1 b2 b3:List Value}
theorem addPk (hw:WfP p) (h:St o w (bagP g b0 b1 b2 b3::OwQ p.t.q::own 5 1 p.bv p.b.length (cb p.b)::R)):CallV π Z 19 #[.pointer (some ⟨g,0,none⟩),.agg p.cells.toArray] w fun r w'=>
  ∃n0 n1 n2 n3:List (Value × Nat),St o w' (bagP g (b0++n0.map Prod.fst) (b1++n1.map Prod.fst) (b2++n2.map Prod.fst) (b3++n3.map Prod.fst)::newR n0 n1 n2 n3::R):=by
 refine f19.calls ?_
 unfold f19.sh
 refine r_box _ _ h fun g1 w1 hS=>?_
 have hS:St o w1 (blk g1 39 p.cells::bagP g b0 b1 b2 b3::OwQ p.t.q::own 5 1 p.bv p.b.length (cb p.b)::R):=hS
 (try simp only [fa_39_10,Nat.zero_add,fa_37_2,fa_39_11])
 refine r_load one30 (hS.at m0 30 rfl) ?_
 obtain ⟨ba,bc,hbv⟩:=(hS.own_rd m3).form
 refine (bagAddBytes Z (l:=p.bv) (by rw [hbv]; rfl) hS.swap).mono fun r w2 ⟨b',hb',hS⟩=>?_
 skip
 refine r_loadN ag35 (xs:=p.t.q.cells) rfl (hS.cells_at m1 19 fun j v hv=>?_) ?_
 ·have:=pk_tx p (5+j) v (rq_at p.t j v hv)
  rwa [← Nat.add_assoc] at this
 refine (addReq Z p.t.q hw.q (by (refine Sh.St.sub ?_ (hS); repeat (first | with_reducible (first | exact sub_refl | exact sub_nil | refine sP0 ?_ | refine sP1 ?_ | refine sP2 ?_ | refine sP3 ?_ | refine sP4 ?_ | refine sP5 ?_ | refine sP6 ?_ | refine sP7 ?_ | refine sP8 ?_ | refine sP9 ?_ | refine sP10 ?_ | refine sP11 ?_ | refine sP12 ?_ | refine sP13 ?_ | refine sP14 ?_ | refine sP15 ?_) | exact sub_refl | refine sP0 ?_ | refine sP1 ?_ | refine sP2 ?_ | refine sP3 ?_ | refine sP4 ?_ | refine sP5 ?_ | refine sP6 ?_ | refine sP7 ?_ | refine sP8 ?_ | refine sP9 ?_ | refine sP10 ?_ | refine sP11 ?_ | refine sP12 ?_ | refine sP13 ?_ | refine sP14 ?_ | refine sP15 ?_ | refine sub_drop ?_)):St o w2 (bagP g b' b1 b2 b3::OwQ p.t.q::own 5 1 p.bv p.b.length (cb p.b)::R))).mono fun r w3 ⟨n0,n1,n2,n3,hS⟩=>?_
 have hbl:=hw.b
 by_cases hlt:b0.length < 600
 ·rw [if_pos hlt] at hb'
  subst hb'
  refine ⟨(p.bv,p.b.length)::n0,n1,n2,n3,?_⟩
  have a:=newR.open (hS.pick 1)
  have b:=rows_cons (p:=(p.bv,p.b.length)) (by show p.b.length * 1≤_; omega) (by (refine Sh.St.sub ?_ (a); repeat (first | with_reducible (first | exact sub_refl | exact sub_nil | refine sP0 ?_ | refine sP1 ?_ | refine sP2 ?_ | refine sP3 ?_ | refine sP4 ?_ | refine sP5 ?_ | refine sP6 ?_ | refine sP7 ?_ | refine sP8 ?_ | refine sP9 ?_ | refine sP10 ?_ | refine sP11 ?_ | refine sP12 ?_ | refine sP13 ?_ | refine sP14 ?_ | refine sP15 ?_) | exact sub_refl | refine sP0 ?_ | refine sP1 ?_ | refine sP2 ?_ | refine sP3 ?_ | refine sP4 ?_ | refine sP5 ?_ | refine sP6 ?_ | refine sP7 ?_ | refine sP8 ?_ | refine sP9 ?_ | refine sP10 ?_ | refine sP11 ?_ | refine sP12 ?_ | refine sP13 ?_ | refine sP14 ?_ | refine sP15 ?_ | refine sub_drop ?_)):St o w3 (own 5 1 p.bv p.b.length (cb p.b)::rowsX 5 1 1 n0::rowsX 175 2 32 n1::rowsX 178 3 40 n2::rowsX 35 11 144 n3::bagP g ((b0++[p.bv])++n0.map Prod.fst) (b1++n1.map Prod.fst) (b2++n2.map Prod.fst) (b3++n3.map Prod.fst)::R))
  have c:=newR.shut b
  have e:b0++((p.bv,p.b.length)::n0).map Prod.fst=(b0++[p.bv])++n0.map Prod.fst:=by simp
  rw [e]
  exact c.swap
 ·rw [if_neg hlt] at hb'
  rw [hb'] at hS
  exact ⟨n0,n1,n2,n3,by (refine Sh.St.sub ?_ (hS); repeat (first | with_reducible (first | exact sub_refl | exact sub_nil | refine sP0 ?_ | refine sP1 ?_ | refine sP2 ?_ | refine sP3 ?_ | refine sP4 ?_ | refine sP5 ?_ | refine sP6 ?_ | refine sP7 ?_ | refine sP8 ?_ | refine sP9 ?_ | refine sP10 ?_ | refine sP11 ?_ | refine sP12 ?_ | refine sP13 ?_ | refine sP14 ?_ | refine sP15 ?_) | exact sub_refl | refine sP0 ?_ | refine sP1 ?_ | refine sP2 ?_ | refine sP3 ?_ | refine sP4 ?_ | refine sP5 ?_ | refine sP6 ?_ | refine sP7 ?_ | refine sP8 ?_ | refine sP9 ?_ | refine sP10 ?_ | refine sP11 ?_ | refine sP12 ?_ | refine sP13 ?_ | refine sP14 ?_ | refine sP15 ?_ | refine sub_drop ?_))⟩
end

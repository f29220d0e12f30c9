/- Lists with marks behind them: bytes, ids, entries. -/
import Derived.Test.YtfijkedmbaghmaaGreatDoorT30
import Derived.Test.YtfijkedmbaghmaaGreatDoorW1
set_option linter.unusedVariables false
set_option linter.unusedSimpArgs false
namespace Go.Proofs.YtfijkedmbaghmaaGreatDoor
open Go.Sh
open Tryz renaming prog → π
def mk (i:Nat):List UInt8:=33::Lib.itoa (-3000000 - (i:Int))
def idM (i:Nat):Idd:=⟨[],mk i⟩
def enM (i:Nat):En:=⟨0,[],mk i⟩
def wide {α:Type} (M:Nat→α) (l:List α):List α:=l++(List.range 64).map fun j=>M (l.length+j)
section
variable (Z:PZ) {o w:World} {R As:List HProp}
theorem wideB {x:Value} {n:Nat} {l:List UInt8} (h:St o w R) (hx:Ent o R fun w=>Rd w 1 x n (cb l)) (hl:l.length≤140737488351232) :
  CallV π Z 26 #[x] w fun r w'=>∃g,r=.slice (some ⟨g,0,none⟩) l.length (l.length+64)∧St o w' (blk g 5 (cb (l++marks l.length))::R):=by
 have h0:=hx w h
 have hn:=rd_len h0
 obtain ⟨a,c,rfl⟩:=h0.form
 subst hn
 refine f26.calls ?_
 unfold f26.sh
 (try simp only [ln_30_3,o_add])
 rw [wr_i64 (x:=(l.length:Int)+64) (by omega) (by omega),show ((l.length:Int)+64)=((l.length+64:Nat):Int) by omega]
 refine r_make el30 h .i64 .i64 (l.length+64) (by omega) (by simp only [maxLen]; omega) fun g w1 hS1=>?_
 (try simp only [ln_30_3])
 refine ⟨fun m y w'=>∃(i:Nat) (xs:List Value),y=.int .i64 i∧m+i=l.length+64∧xs.length=l.length+64∧(∀j,j < i→xs[j]? = (cb (l++marks l.length))[j]?)∧St o w' (own 5 1 (.slice (some ⟨g,0,none⟩) (l.length+64) (l.length+64)) (l.length+64) xs::R),
  ⟨l.length+64,0,_,rfl,rfl,by rw [Array.length_toList,size_madeCells]; omega,fun j hj=>by omega,hS1⟩,?_⟩
 rintro m _ w2 ⟨i,xs,rfl,hi,hxl,hpt,hS⟩ _
 (try simp only [o_add,o_lss,cond_decide])
 refine ⟨fun hlt=>?_,fun hge=>?_⟩
 ·intro j hj
  have hj':∀(w':World) (xs:List Value),xs.length=l.length+64→(∀j,j < i+1→xs[j]? = (cb (l++marks l.length))[j]?)→St o w' (own 5 1 (.slice (some ⟨g,0,none⟩) (l.length+64) (l.length+64)) (l.length+64) xs::R)→j w':=by
   intro w' xs hxl hpt hS
   refine hj w' fun _=>?_
   rw [wr_i64 (x:=(i:Int)+1) (by omega) (by omega)]
   exact ⟨m - 1,by omega,i+1,xs,rfl,by omega,hxl,hpt,hS⟩
  clear hj
  refine r1 (run_rem _ _ _ .i64 i 5 (by omega)) ?_
  (try simp only [o_add,cv_3_5])
  rw [mark_int]
  have hrd:=hS.own_rd List.mem_cons_self
  obtain ⟨info,hinfo,hsz,_,_⟩:=el30.info
  refine r1 (run_indexAt Tryz.underlying30 hinfo g 0 (l.length+64) (l.length+64) .i64 i (by omega) (by omega) _) ?_
  rw [hsz]
  simp only [Nat.mul_one,Nat.zero_add,Int.toNat_natCast]
  refine r_store_own hS one5 (by omega) rfl fun w3 hS3=>?_
  skip
  refine ⟨fun hlt2=>?_,fun hge2=>?_⟩
  ·have hi1:i < l.length:=by omega
   obtain ⟨p,hp,hpc⟩:=rd_index (hx w3 hS3.drop) i hi1
   refine r1 (hp _) (r_load one5 hpc ?_)
   refine r1 (run_indexAt Tryz.underlying30 hinfo g 0 (l.length+64) (l.length+64) .i64 i (by omega) (by omega) _) ?_
   rw [hsz]
   simp only [Nat.mul_one,Nat.zero_add,Int.toNat_natCast]
   refine r_store_own hS3 one5 (by omega) rfl fun w4 hS4=>hj' w4 _ (by simp [hxl]) (fun j hj=>?_) hS4
   by_cases e:j=i
   ·subst e
    rw [List.getElem?_set_self (by simp; omega),cb_append,List.getElem?_append_left (by rw [cb_length]; exact hi1),cb_at hi1]
   ·rw [List.getElem?_set_ne (Ne.symm e),List.getElem?_set_ne (Ne.symm e)]
    exact hpt j (by omega)
  ·refine hj' w3 _ (by simp [hxl]) (fun j hj=>?_) hS3
   by_cases e:j=i
   ·subst e
    have hm:=marks_at l.length j (by omega) (by omega)
    rw [List.getElem?_set_self (by omega),cb_append,List.getElem?_append_right (by rw [cb_length]; omega),cb_length]
    simp only [cb,List.getElem?_map,hm]
    rfl
   ·rw [List.getElem?_set_ne (Ne.symm e)]
    exact hpt j (by omega)
 ·obtain rfl:i=l.length+64:=by omega
  refine r1 (run_slice_to el30 _ _ _ .i64 _ (by omega) (by omega) _) ?_
  simp only [Int.toNat_natCast]
  refine ⟨g,rfl,?_⟩
  obtain ⟨_,⟨hq,_⟩ | ⟨g',cap,rest,hq,a1,a2,a3,hB⟩⟩:=hS.own_open
  ·cases hq
  ·injection hq with q1 q2 q3
   injection q1 with q1
   injection q1 with q1
   subst q1; subst q3
   have hr:rest=[]:=by
    rw [List.length_append] at a3
    exact List.eq_nil_of_length_eq_zero (by omega)
   have hxs:xs=cb (l++marks l.length):=by
    apply List.ext_getElem?
    intro j
    by_cases hj:j < l.length+64
    ·exact hpt j hj
    ·rw [List.getElem?_eq_none (by omega),List.getElem?_eq_none (by rw [cb_length,List.length_append,marks_length]; omega)]
   rw [hr,List.append_nil,hxs] at hB
   exact hB
theorem spareB {g n:Nat} {l:List UInt8} (hn:n=l.length) (hl:l.length≤140737488351232) (h:ob 5 (cb (l++marks l.length)) w.heap[g]?) :
  CallV π Z 44 #[.slice (some ⟨g,0,none⟩) n (n+64)] w fun r w'=>r=.bool true∧w'=w:=by
 subst hn
 refine f44.calls ?_
 unfold f44.sh
 (try simp only [ln_30_3,o_add])
 rw [wr_i64 (x:=(l.length:Int)+64) (by omega) (by omega)]
 refine r1 (run_slice_to el30 _ _ _ .i64 _ (by omega) (by omega) _) ?_
 rw [show ((l.length:Int)+64).toNat=l.length+64 by omega]
 (try simp only [ln_30_3])
 refine ⟨fun m y w'=>∃i:Nat,y=.int .i64 i∧m+i=l.length+64∧l.length≤i∧w'=w,⟨64,l.length,rfl,by omega,by omega,rfl⟩,?_⟩
 rintro m _ w1 ⟨i,rfl,hi,hli,rfl⟩ _
 (try simp only [o_add,o_lss,cond_decide])
 refine ⟨fun hlt=>?_,fun hge=>⟨trivial,trivial⟩⟩
 obtain ⟨info,hinfo,hsz,_,_⟩:=el30.info
 refine r1 (run_indexAt Tryz.underlying30 hinfo g 0 (l.length+64) (l.length+64) .i64 i (by omega) (by omega) _) ?_
 rw [hsz]
 simp only [Nat.mul_one,Nat.zero_add,Int.toNat_natCast]
 have hm:=marks_at l.length i hli (by omega)
 refine r_load one5 (v:=.int .u8 ((UInt8.ofNat (170+i % 5)).toNat:Int)) ?_ ?_
 ·rw [cell_of_blk h,cb_append,List.getElem?_append_right (by rw [cb_length]; omega),cb_length]
  simp only [cb,List.getElem?_map,hm]
  rfl
 ·refine r1 (run_rem _ _ _ .i64 i 5 (by omega)) ?_
  (try simp only [o_add,cv_3_5,o_neq,cond_bne])
  rw [mark_int]
  refine ⟨fun hne=>absurd rfl hne,fun _=>?_⟩
  rw [wr_i64 (x:=(i:Int)+1) (by omega) (by omega)]
  exact ⟨m - 1,by omega,i+1,rfl,by omega,by omega,trivial⟩
end
end Go.Proofs.YtfijkedmbaghmaaGreatDoor

/- Requests with marks behind each list. -/
set_option linter.unusedVariables false
set_option linter.unusedSimpArgs false
namespace Go.Proofs.YtfijkedmbaghmaaGreatDoor
open Go.Sh
open Tryz renaming prog → π
def rqM (i:Nat):Rq:=.mk ⟨0,[],[],[],0,false,false,-3000000 - (i:Int),0,[]⟩ (.slice none 0 0) (.slice none 0 0) (.slice none 0 0) (.slice none 0 0) []
def wv (g n:Nat):Value:=.slice (some ⟨g,0,none⟩) n (n+64)
def WdF (f:Fl) (vd va vw:Value):HProp:=fun h=>∃g1 g2 g3:Nat,(vd=wv g1 f.data.length∧va=wv g2 f.acl.length∧vw=wv g3 f.who.length)∧sep (blk g1 5 (cb (f.data++marks f.data.length))) (sep (blk g2 178 ((wide enM f.acl).map enC).flatten) (blk g3 175 ((wide idM f.who).map idC).flatten)) h
mutual
def WdQ:Rq→HProp
 | .mk f vd va vw vo l=>sep (WdF f vd va vw) (sep (fun h=>∃g:Nat,vo=wv g l.length∧blk g 35 ((wide rqM l).map Rq.cells).flatten h) (WdS l))
def WdS:List Rq→HProp
 | []=>fun _=>True
 | x::l=>sep (WdQ x) (WdS l)
end
theorem WdS_sat (l:List Rq):WdS l=satH (l.map WdQ):=by
 induction l with
 | nil=>rfl
 | cons x l ih=>
  rw [WdS,ih]
  rfl
theorem WdQ_eq (q:Rq):WdQ q=sep (WdF q.f q.vd q.va q.vw) (sep (fun h=>∃g:Nat,q.vo=wv g q.ops.length∧blk g 35 ((wide rqM q.ops).map Rq.cells).flatten h) (satH (q.ops.map WdQ))):=by
 cases q with
 | mk f a b c d l=>rw [WdQ,WdS_sat]; rfl
theorem wide_rd {α:Type} {o w:World} {R:List HProp} {M:Nat→α} {C:α→List Value} {sz:Nat} {e g:Nat} {l:List α} (hC:∀x,(C x).length=sz) (hl:l.length≤maxLen) (h:St o w (blk g e ((wide M l).map C).flatten::R)):Rd w sz (wv g l.length) l.length (l.map C).flatten:=
 h.rd_blk m0 _ (len_flatten_of (sz:=sz) (fun d hd=>by obtain ⟨y,_,rfl⟩:=List.mem_map.1 hd; exact hC y) |>.trans (by rw [List.length_map])) hl fun j v hv=>by
  rw [Nat.zero_add]
  unfold wide
  rw [List.map_append,List.flatten_append,List.getElem?_append_left (List.getElem?_eq_some_iff.1 hv).1]
  exact hv
theorem WdF.open {o w:World} {R:List HProp} {f:Fl} {vd va vw:Value} (h:St o w (WdF f vd va vw::R)):∃g1 g2 g3:Nat,(vd=wv g1 f.data.length∧va=wv g2 f.acl.length∧vw=wv g3 f.who.length) ∧
  St o w (blk g1 5 (cb (f.data++marks f.data.length))::blk g2 178 ((wide enM f.acl).map enC).flatten::blk g3 175 ((wide idM f.who).map idC).flatten::R):=by
 obtain ⟨g1,h⟩:=h.ex
 obtain ⟨g2,h⟩:=h.ex
 obtain ⟨g3,h⟩:=h.ex
 obtain ⟨hp,h⟩:=h.pure
 have a:=h.sep
 have b:=a.swap.sep
 exact ⟨g1,g2,g3,hp,b.pick 2⟩
theorem WdF.shut {o w:World} {R:List HProp} {f:Fl} {g1 g2 g3:Nat} (h:St o w (blk g1 5 (cb (f.data++marks f.data.length))::blk g2 178 ((wide enM f.acl).map enC).flatten::blk g3 175 ((wide idM f.who).map idC).flatten::R)):St o w (WdF f (wv g1 f.data.length) (wv g2 f.acl.length) (wv g3 f.who.length)::R):=by
 have a:=((h.pick 1).pick 2).swap
 have b:St o w (blk g2 178 ((wide enM f.acl).map enC).flatten::blk g3 175 ((wide idM f.who).map idC).flatten::blk g1 5 (cb (f.data++marks f.data.length))::R):=a
 have c:=b.sep_intro.swap.sep_intro
 exact (((c.pure_intro ⟨rfl,rfl,rfl⟩).ex_intro g3).ex_intro g2).ex_intro g1
theorem WfF.lens {f:Fl} (h:WfF f):f.data.length≤maxLen∧f.acl.length≤maxLen∧f.who.length≤maxLen:=by
 have h1:=h.data
 have h2:=h.acl.1
 have h3:=h.who.1
 simp only [maxLen]
 exact ⟨by omega,by omega,by omega⟩
theorem WdF.rd {o w:World} {R:List HProp} {f:Fl} {vd va vw:Value} (hw:WfF f) (h:St o w (WdF f vd va vw::R)):RdF w f vd va vw:=by
 obtain ⟨g1,g2,g3,⟨rfl,rfl,rfl⟩,k⟩:=WdF.open h
 obtain ⟨l1,l2,l3⟩:=hw.lens
 refine ⟨?_,wide_rd (fun x=>rfl) l2 k.drop,wide_rd (fun x=>rfl) l3 k.drop.drop⟩
 refine k.rd_blk m0 _ (by rw [cb_length,Nat.mul_one]) l1 fun j v hv=>?_
 rw [Nat.zero_add,cb_append,List.getElem?_append_left (List.getElem?_eq_some_iff.1 hv).1]
 exact hv
theorem WdQ.rd (q:Rq):∀{o w:World} {R:List HProp},WfQ q→St o w (WdQ q::R)→RdQ w q:=by
 induction q using Rq.ind with | h q ih=>?_
 intro o w R hw h
 rw [WdQ_eq] at h
 have h1:=h.sep
 have h2:=h1.swap.sep
 obtain ⟨g,h3⟩:=h2.ex
 obtain ⟨hg,h3⟩:=h3.pure
 have hl:q.ops.length≤maxLen:=by have:=hw.len; simp only [maxLen]; omega
 refine .mk q (WdF.rd hw.flat h1) (by rw [hg]; exact wide_rd Rq.cells_len hl h3) fun x hx=>?_
 obtain ⟨As,Bs,e⟩:=List.append_of_mem hx
 have h4:=h2.swap
 rw [e,List.map_append,List.map_cons] at h4
 exact ih x hx (hw.all x hx) h4.all_out
section
variable (Z:PZ) {o w:World} {R As:List HProp}
end
end Go.Proofs.YtfijkedmbaghmaaGreatDoor

/- WideRequest, WideTxn; SpareRequest. -/
set_option linter.unusedVariables false
set_option linter.unusedSimpArgs false
namespace Go.Proofs.YtfijkedmbaghmaaGreatDoor
open Go.Sh
open Tryz renaming prog → π
section
variable (Z:PZ) {o w:World} {R As:List HProp}
end

/- TxnOne: the walk. -/
import Derived.Test.YtfijkedmbaghmaaGreatDoorT20
import Derived.Test.YtfijkedmbaghmaaGreatDoorShRec
set_option linter.unusedVariables false
set_option linter.unusedSimpArgs false
namespace Go.Proofs.YtfijkedmbaghmaaGreatDoor
open Go.Sh
open Tryz renaming prog → π
theorem opn_cap {P:Program} {w:World} {t e:TypeId} (ht:P.underlying t=some (.slice e)):Opn P w t fun cs=>∃a n c,cs=[.slice a n c]∧n≤c:=fun H enc fuel cs x hx hw=>by
 rcases DataW.trod_slice ht hx with ⟨h0,_⟩ | ⟨a,len,cap,elems,rest,n,_,h0,_,_,hl,_⟩
 ·exact ⟨none,0,0,h0,Nat.le_refl _⟩
 ·exact ⟨some a,len,cap,h0,hl⟩
theorem Opn.and {P:Program} {w:World} {t:TypeId} {Φ Ψ:List Value→Prop} (h1:Opn P w t Φ) (h2:Opn P w t Ψ):Opn P w t fun cs=>Φ cs∧Ψ cs:=fun H enc fuel cs x hx hw=>⟨h1 H enc fuel cs x hx hw,h2 H enc fuel cs x hx hw⟩
def BytesC (w:World) (cs:List Value):Prop:=BytesO w cs∧∃a n c,cs=[.slice a n c]∧n≤c
theorem opn_BytesC (w:World):Opn π w 30 (BytesC w):=Opn.and (opn_BytesO w) (opn_cap Tryz.underlying30)
section
variable (Z:PZ) {o w:World} {R As:List HProp}
end
end Go.Proofs.YtfijkedmbaghmaaGreatDoor

/- Requests and transactions that came in; Large; copies. -/
set_option linter.unusedVariables false
set_option linter.unusedSimpArgs false
namespace Go.Proofs.YtfijkedmbaghmaaGreatDoor
open Go.Sh
open Tryz renaming prog → π
def wfId (x:Idd):Prop:=x.sch.length≤140737488351232∧x.nam.length≤140737488351232
def wfEn (x:En):Prop:=(-128≤x.perms∧x.perms≤127)∧wfId x.who
structure WfF (f:Fl):Prop where
 kd : -128≤f.kd∧f.kd≤127
 path:f.path.length≤140737488351232
 data:f.data.length≤140737488351232
 acl:f.acl.length * 40≤140737488351232∧∀x ∈ f.acl,wfEn x
 ver : -2147483648≤f.ver∧f.ver≤2147483647
 ses : -9223372036854775808≤f.ses∧f.ses≤9223372036854775807
 tmo : -2147483648≤f.tmo∧f.tmo≤2147483647
 who:f.who.length * 32≤140737488351232∧∀x ∈ f.who,wfId x
inductive WfQ:Rq→Prop where
 | mk (q:Rq):WfF q.f→q.ops.length * 144≤140737488351232→(∀x ∈ q.ops,WfQ x)→WfQ q
theorem WfQ.flat {q:Rq} (h:WfQ q):WfF q.f:=by cases h; assumption
theorem WfQ.len {q:Rq} (h:WfQ q):q.ops.length * 144≤140737488351232:=by cases h; assumption
theorem WfQ.all {q:Rq} (h:WfQ q):∀x ∈ q.ops,WfQ x:=by cases h; assumption
def wfH (h:Hd):Prop:=hok h 5
theorem Rd.later {o w w':World} {As:List HProp} {sz n:Nat} {v:Value} {xs:List Value} (h:Rd o sz v n xs) (hS:St o w As) (hm:old o ∈ As):Rd w sz v n xs:=h.of_old hS hm
theorem RdQ.of_old {o:World} (q:Rq):∀{o' w:World} {As:List HProp},RdQ o q→St o' w As→old o ∈ As→RdQ w q:=by
 induction q using Rq.ind with | h q ih=>?_
 intro o' w As h hS hm
 exact .mk q ⟨h.flat.data.of_old hS hm,h.flat.acl.of_old hS hm,h.flat.who.of_old hS hm⟩ (h.row.of_old hS hm) fun x hx=>ih x hx (h.all x hx) hS hm
end Go.Proofs.YtfijkedmbaghmaaGreatDoor

/- Large; copies. -/
set_option linter.unusedVariables false
set_option linter.unusedSimpArgs false
namespace Go.Proofs.YtfijkedmbaghmaaGreatDoor
open Go.Sh
open Tryz renaming prog → π
section
variable (Z:PZ) {o w:World} {R As:List HProp}
end
end Go.Proofs.YtfijkedmbaghmaaGreatDoor

/- Lists of transactions: LargeTxns, CopyTxns, Rises. -/
set_option linter.unusedVariables false
set_option linter.unusedSimpArgs false
namespace Go.Proofs.YtfijkedmbaghmaaGreatDoor
open Go.Sh
open Tryz renaming prog → π
def RdT (w:World) (v:Value) (ts:List Tx):Prop:=Rd w 16 v ts.length (ts.map Tx.cells).flatten∧∀t ∈ ts,RdQ w t.q
def WfT (ts:List Tx):Prop:=ts.length * 168≤140737488351232∧∀t ∈ ts,wfH t.hd∧WfQ t.q
def OwT (ts:List Tx):HProp:=satH (ts.map fun t=>OwQ t.q)
theorem OwT.rd {o w:World} {R:List HProp} {v:Value} {ts:List Tx} (h:St o w (own 37 16 v ts.length (ts.map Tx.cells).flatten::OwT ts::R)):RdT w v ts:=by
 refine ⟨h.own_rd m0,fun t ht=>?_⟩
 obtain ⟨As,Bs,e⟩:=List.append_of_mem ht
 have h3:=h.swap
 unfold OwT at h3
 rw [e,List.map_append,List.map_cons] at h3
 exact OwQ.rd _ h3.all_out
def ls (e n e' n':Int):Prop:=e * 4294967296+n < e' * 4294967296+n'
instance (e n e' n':Int):Decidable (ls e n e' n'):=by unfold ls; infer_instance
section
variable (Z:PZ) {o w:World} {R As:List HProp}
end
end Go.Proofs.YtfijkedmbaghmaaGreatDoor

/- TxnStairs: the walk. -/
set_option linter.unusedVariables false
set_option linter.unusedSimpArgs false
namespace Go.Proofs.YtfijkedmbaghmaaGreatDoor
open Go.Sh
open Tryz renaming prog → π
theorem rd_takeN {α:Type} {w:World} {sz:Nat} {C:α→List Value} (hC:∀x,(C x).length=sz) {a:Option Addr} {c:Nat} {l:List α} (h:Rd w sz (.slice a l.length c) l.length (l.map C).flatten) (k:Nat) (hk:k≤l.length):Rd w sz (.slice a k c) (l.take k).length ((l.take k).map C).flatten:=by
 obtain ⟨h1,h2,h3⟩:=h
 have hl:(l.take k).length=k:=by rw [List.length_take]; omega
 have e:(l.map C).flatten=((l.take k).map C).flatten++((l.drop k).map C).flatten:=by
  rw [← List.flatten_append,← List.map_append,List.take_append_drop]
 have hfl:((l.take k).map C).flatten.length=k * sz:=by
  rw [len_flatten_of (sz:=sz) (fun c hc=>by obtain ⟨x,_,rfl⟩:=List.mem_map.1 hc; exact hC x),List.length_map,hl]
 refine ⟨by rw [hfl,hl],by omega,?_⟩
 rcases h3 with ⟨c',hq,hn⟩ | ⟨a',c',hq,hc⟩
 ·injection hq with q1 q2 q3
  subst q1
  exact .inl ⟨c,by rw [show k=0 by omega],by omega⟩
 ·injection hq with q1 q2 q3
  subst q1
  refine .inr ⟨a',c,by rw [hl],fun j u hu=>hc j u ?_⟩
  rw [e,List.getElem?_append_left (List.getElem?_eq_some_iff.1 hu).1]
  exact hu
theorem rd_dropN {α:Type} {w:World} {sz:Nat} {C:α→List Value} (hC:∀x,(C x).length=sz) {a:Option Addr} {c:Nat} {l:List α} (hnc:l.length≤c) (h:Rd w sz (.slice a l.length c) l.length (l.map C).flatten) (k:Nat) (hk:k≤l.length):Rd w sz (.slice (if c=k then a else a.map (·.add (k * sz))) (l.length - k) (c - k)) (l.drop k).length ((l.drop k).map C).flatten:=by
 obtain ⟨h1,h2,h3⟩:=h
 have hl:(l.drop k).length=l.length - k:=List.length_drop
 have e:(l.map C).flatten=((l.take k).map C).flatten++((l.drop k).map C).flatten:=by
  rw [← List.flatten_append,← List.map_append,List.take_append_drop]
 have hfl:((l.drop k).map C).flatten.length=(l.length - k) * sz:=by
  rw [len_flatten_of (sz:=sz) (fun c hc=>by obtain ⟨x,_,rfl⟩:=List.mem_map.1 hc; exact hC x),List.length_map,hl]
 have hft:((l.take k).map C).flatten.length=k * sz:=by
  rw [len_flatten_of (sz:=sz) (fun c hc=>by obtain ⟨x,_,rfl⟩:=List.mem_map.1 hc; exact hC x),List.length_map,List.length_take,Nat.min_eq_left hk]
 refine ⟨by rw [hfl,hl],by omega,?_⟩
 rcases h3 with ⟨c',hq,hn⟩ | ⟨a',c',hq,hc⟩
 ·injection hq with q1 q2 q3
  subst q1
  refine .inl ⟨c - k,?_,by omega⟩
  rw [show l.length - k=0 by omega]
  simp
 ·injection hq with q1 q2 q3
  subst q1
  by_cases he:k=l.length
  ·have hx0:((l.drop k).map C).flatten=[]:=List.eq_nil_of_length_eq_zero (by rw [hfl,he,Nat.sub_self,Nat.zero_mul])
   by_cases hck:c=k
   ·rw [if_pos hck]
    exact .inr ⟨a',c - k,by rw [hl],fun j u hu=>by rw [hx0] at hu; simp at hu⟩
   ·rw [if_neg hck]
    exact .inr ⟨_,c - k,by rw [hl]; rfl,fun j u hu=>by rw [hx0] at hu; simp at hu⟩
  ·by_cases hck:c=k
   ·omega
   ·rw [if_neg hck]
    refine .inr ⟨a'.add (k * sz),c - k,by rw [hl]; rfl,fun j u hu=>?_⟩
    rw [addr_add2]
    refine hc _ u ?_
    rw [e,List.getElem?_append_right (by omega),hft,Nat.add_sub_cancel_left]
    exact hu
theorem RdT.take {w:World} {a:Option Addr} {c:Nat} {ts:List Tx} (h:RdT w (.slice a ts.length c) ts) (k:Nat) (hk:k≤ts.length):RdT w (.slice a k c) (ts.take k):=
 ⟨rd_takeN Tx.cells_len h.1 k hk,fun t ht=>h.2 t (List.mem_of_mem_take ht)⟩
theorem RdT.drop {w:World} {a:Option Addr} {c:Nat} {ts:List Tx} (hnc:ts.length≤c) (h:RdT w (.slice a ts.length c) ts) (k:Nat) (hk:k≤ts.length):RdT w (.slice (if c=k then a else a.map (·.add (k * 16))) (ts.length - k) (c - k)) (ts.drop k):=
 ⟨rd_dropN Tx.cells_len hnc h.1 k hk,fun t ht=>h.2 t (List.mem_of_mem_drop ht)⟩
theorem RdT.of_old {o o' w:World} {As:List HProp} {v:Value} {ts:List Tx} (h:RdT o v ts) (hS:St o' w As) (hm:old o ∈ As):RdT w v ts:=⟨h.1.of_old hS hm,fun t ht=>RdQ.of_old _ (h.2 t ht) hS hm⟩
theorem WfT.take {ts:List Tx} (h:WfT ts) (k:Nat):WfT (ts.take k):=⟨by have:=h.1; rw [List.length_take]; omega,fun t ht=>h.2 t (List.mem_of_mem_take ht)⟩
theorem WfT.drop {ts:List Tx} (h:WfT ts) (k:Nat):WfT (ts.drop k):=⟨by have:=h.1; rw [List.length_drop]; omega,fun t ht=>h.2 t (List.mem_of_mem_drop ht)⟩
theorem WfT.es {ts:List Tx} (h:WfT ts):∀t ∈ ts,u32r t.e:=fun t ht=>hok_le (h.2 t ht).1 (show 0 < 5 by omega)
section
variable (Z:PZ) {o w:World} {R As:List HProp}
end
end Go.Proofs.YtfijkedmbaghmaaGreatDoor

/- Same of package txn. -/
set_option linter.unusedVariables false
set_option linter.unusedSimpArgs false
namespace Go.Proofs.YtfijkedmbaghmaaGreatDoor
open Go.Sh
open Tryz renaming prog → π
section
variable (Z:PZ) {o w:World} {R As:List HProp}
theorem sameBytes {x y:Value} {l k:List UInt8} (hx:Rd w 1 x l.length (cb l)) (hy:Rd w 1 y k.length (cb k)) :
  CallV π Z 225 #[x,y] w fun r w'=>r=.bool (decide (l=k))∧w'=w:=by
 refine f225.calls ?_
 unfold f225.sh
 refine r1 (run_toString Tryz.underlying30 Tryz.underlying5 Tryz.underlying9 (l:=l) hx) ?_
 refine r1 (run_toString Tryz.underlying30 Tryz.underlying5 Tryz.underlying9 (l:=k) hy) ?_
 exact r1 (run_eql_strS _ _ _ _ _ _) ⟨rfl,rfl⟩
theorem sameAcl {x y:Value} {l k:List En} (hx:Rd w 3 x l.length (l.map enC).flatten) (hy:Rd w 3 y k.length (k.map enC).flatten) :
  CallV π Z 226 #[x,y] w fun r w'=>(∃b,r=.bool b∧(b=true ↔ l=k))∧Drew w w':=by
 obtain ⟨a,c,rfl⟩:=hx.form
 obtain ⟨b,d,rfl⟩:=hy.form
 have hlx:=hx.2.1
 simp only [maxLen] at hlx
 refine f226.calls ?_
 unfold f226.sh
 (try simp only [ln_31_3,o_neq,cond_bne])
 refine ⟨fun hne=>⟨⟨_,rfl,⟨fun h=>(by cases h),fun e=>absurd (by rw [e]) hne⟩⟩,Drew.refl _⟩,fun he=>?_⟩
 have he':l.length=k.length:=by omega
 refine ⟨fun m y w'=>∃i:Nat,y=.int .i64 i∧m+i=l.length∧l.take i=k.take i∧Drew w w',⟨l.length,0,rfl,rfl,rfl,Drew.refl _⟩,?_⟩
 rintro m _ w1 ⟨i,rfl,hi,ht,hd⟩ _
 (try simp only [o_add,o_lss,cond_decide])
 refine ⟨fun hlt=>⟨fun w2 hd2=>?_⟩,fun hge=>?_⟩
 ·have hi1:i < l.length:=by omega
  have hi2:i < k.length:=by omega
  obtain ⟨b1,p,cs,hp,_,hcv,hpc⟩:=(rowR_rd (c:=enC) (fun x=>rfl) (hx.drew (hd.trans hd2)) rfl).ix el31 .i64 i hi1
  subst hcv
  obtain ⟨b2,q,cs,hq,_,hcv,hqc⟩:=(rowR_rd (c:=enC) (fun x=>rfl) (hy.drew (hd.trans hd2)) rfl).ix el31 .i64 i hi2
  subst hcv
  refine rp hp (rr_loadN ag178 (xs:=enC l[i]) rfl (fun j u hu=>by rw [add_addr]; exact hpc j u hu) (rp hq (rr_loadN ag178 (xs:=enC k[i]) rfl (fun j u hu=>by rw [add_addr]; exact hqc j u hu) ?_)))
  refine rp (fun w=>neqEn l[i] k[i] w) ?_
  rw [show (decide (l[i].perms=k[i].perms∧l[i].who.sch=k[i].who.sch∧l[i].who.nam=k[i].who.nam))=decide (l[i].perms=k[i].perms∧l[i].who.sch=k[i].who.sch∧l[i].who.nam=k[i].who.nam) from rfl]
  by_cases hen:l[i].perms=k[i].perms∧l[i].who.sch=k[i].who.sch∧l[i].who.nam=k[i].who.nam
  ·rw [decide_eq_true hen]
   (try simp only [Bool.not_true,condF])
   rw [wr_i64 (x:=(i:Int)+1) (by omega) (by omega)]
   exact ⟨m - 1,by omega,i+1,rfl,by omega,take_more hi1 hi2 ht ((en_iff _ _).2 hen),hd.trans hd2⟩
  ·rw [decide_eq_false hen]
   (try simp only [Bool.not_false,condT])
   exact ⟨⟨_,rfl,⟨fun h=>(by cases h),fun e=>absurd ((en_iff _ _).1 (by subst e; rfl)) hen⟩⟩,hd.trans hd2⟩
 ·obtain rfl:i=l.length:=by omega
  rw [List.take_length,he',List.take_length] at ht
  exact ⟨⟨_,rfl,⟨fun _=>ht,fun _=>rfl⟩⟩,hd⟩
theorem sameIds {x y:Value} {l k:List Idd} (hx:Rd w 2 x l.length (l.map idC).flatten) (hy:Rd w 2 y k.length (k.map idC).flatten) :
  CallV π Z 227 #[x,y] w fun r w'=>(∃b,r=.bool b∧(b=true ↔ l=k))∧Drew w w':=by
 obtain ⟨a,c,rfl⟩:=hx.form
 obtain ⟨b,d,rfl⟩:=hy.form
 have hlx:=hx.2.1
 simp only [maxLen] at hlx
 refine f227.calls ?_
 unfold f227.sh
 (try simp only [ln_32_3,o_neq,cond_bne])
 refine ⟨fun hne=>⟨⟨_,rfl,⟨fun h=>(by cases h),fun e=>absurd (by rw [e]) hne⟩⟩,Drew.refl _⟩,fun he=>?_⟩
 have he':l.length=k.length:=by omega
 refine ⟨fun m y w'=>∃i:Nat,y=.int .i64 i∧m+i=l.length∧l.take i=k.take i∧Drew w w',⟨l.length,0,rfl,rfl,rfl,Drew.refl _⟩,?_⟩
 rintro m _ w1 ⟨i,rfl,hi,ht,hd⟩ _
 (try simp only [o_add,o_lss,cond_decide])
 refine ⟨fun hlt=>⟨fun w2 hd2=>?_⟩,fun hge=>?_⟩
 ·have hi1:i < l.length:=by omega
  have hi2:i < k.length:=by omega
  obtain ⟨b1,p,cs,hp,_,hcv,hpc⟩:=(rowR_rd (c:=idC) (fun x=>rfl) (hx.drew (hd.trans hd2)) rfl).ix el32 .i64 i hi1
  subst hcv
  obtain ⟨b2,q,cs,hq,_,hcv,hqc⟩:=(rowR_rd (c:=idC) (fun x=>rfl) (hy.drew (hd.trans hd2)) rfl).ix el32 .i64 i hi2
  subst hcv
  refine rp hp (rr_loadN ag175 (xs:=idC l[i]) rfl (fun j u hu=>by rw [add_addr]; exact hpc j u hu) (rp hq (rr_loadN ag175 (xs:=idC k[i]) rfl (fun j u hu=>by rw [add_addr]; exact hqc j u hu) ?_)))
  refine rp (fun w=>neqId l[i] k[i] w) ?_
  by_cases hen:l[i].sch=k[i].sch∧l[i].nam=k[i].nam
  ·rw [decide_eq_true hen]
   (try simp only [Bool.not_true,condF])
   rw [wr_i64 (x:=(i:Int)+1) (by omega) (by omega)]
   exact ⟨m - 1,by omega,i+1,rfl,by omega,take_more hi1 hi2 ht ((idd_iff _ _).2 hen),hd.trans hd2⟩
  ·rw [decide_eq_false hen]
   (try simp only [Bool.not_false,condT])
   exact ⟨⟨_,rfl,⟨fun h=>(by cases h),fun e=>absurd ((idd_iff _ _).1 (by subst e; rfl)) hen⟩⟩,hd.trans hd2⟩
 ·obtain rfl:i=l.length:=by omega
  rw [List.take_length,he',List.take_length] at ht
  exact ⟨⟨_,rfl,⟨fun _=>ht,fun _=>rfl⟩⟩,hd⟩
theorem sameQ (q:Rq):∀(c:Rq) {w:World} {R:List HProp},(Ent o R fun w=>RdQ w q)→(Ent o R fun w=>RdQ w c)→St o w R →
  CallV π Z 200 #[.agg q.cells.toArray,.agg c.cells.toArray] w fun r w'=>(∃b,r=.bool b∧(b=true ↔ q.st=c.st))∧St o w' R:=by
 induction q using Rq.ind with | h q ih=>?_
 intro c w R hx hy h
 refine f200.calls ?_
 unfold f200.sh
 refine r_box _ _ h fun g1 w1 hS=>?_
 refine r_box _ _ hS fun g2 w2 hS=>?_
 have hS:St o w2 (blk g2 35 c.cells::blk g1 35 q.cells::R):=hS
 have hx':Ent o (blk g2 35 c.cells::blk g1 35 q.cells::R) fun w=>RdQ w q:=fun w hw=>hx w hw.drop.drop
 have hy':Ent o (blk g2 35 c.cells::blk g1 35 q.cells::R) fun w=>RdQ w c:=fun w hw=>hy w hw.drop.drop
 obtain ⟨a1,c1,e1⟩:=(hx' w2 hS).row.form
 obtain ⟨a2,c2,e2⟩:=(hy' w2 hS).row.form
 have hle:=(hx' w2 hS).row.2.1
 simp only [maxLen] at hle
 have bad:∀{w':World},¬ (q.f=c.f∧q.ops.map Rq.st=c.ops.map Rq.st)→St o w' (blk g2 35 c.cells::blk g1 35 q.cells::R)→((∃b,Value.bool false=.bool b∧(b=true ↔ q.st=c.st))∧St o w' R):=
  fun hne hS=>⟨⟨_,rfl,⟨fun h=>(by cases h),fun e=>absurd ((st_iff _ _).1 e) hne⟩⟩,hS.drop.drop⟩
 have rows:∀{w':World} {R':List HProp},(Ent o R' fun w=>RdQ w q)→(Ent o R' fun w=>RdQ w c)→St o w' R'→CallV π Z 228 #[q.vo,c.vo,.func (.func 200) #[] #[]] w' fun r w2=>(∃b,r=.bool b∧(b=true ↔ q.ops.map Rq.st=c.ops.map Rq.st))∧St o w2 R':=by
  intro w' R' hx hy h
  rw [e1,e2]
  refine f228.calls ?_
  unfold f228.sh
  (try simp only [ln_33_3,o_neq,cond_bne])
  refine ⟨fun hne=>⟨⟨_,rfl,⟨fun h=>(by cases h),fun e=>absurd (by have:=congrArg List.length e; simp at this; omega) hne⟩⟩,h⟩,fun he=>?_⟩
  have hll:q.ops.length=c.ops.length:=by omega
  refine ⟨fun m y w'=>∃i:Nat,y=.int .i64 i∧m+i=q.ops.length∧(q.ops.map Rq.st).take i=(c.ops.map Rq.st).take i∧St o w' R',⟨q.ops.length,0,rfl,rfl,rfl,h⟩,?_⟩
  clear h
  rintro m _ w6 ⟨i,rfl,hi,ht2,hS⟩ _
  by_cases hlt:(i:Int) < (q.ops.length:Int)
  ·have hi1:i < q.ops.length:=by omega
   have hi2:i < c.ops.length:=by omega
   have hr1:=(hx w6 hS).rowR
   rw [e1] at hr1
   obtain ⟨b1,p1,cs,hp1,_,hcv,hpc1⟩:=hr1.ix el33 .i64 i hi1
   subst hcv
   (try simp only [o_add,o_lss,hlt,decide_true,condT])
   refine r1 (hp1 _) (r_loadN ag35 (xs:=q.ops[i].cells) rfl (fun j u hu=>by rw [add_addr]; exact hpc1 j u hu) ?_)
   have ho1:=((hx w6 hS).all _ (List.getElem_mem hi1)).ones
   refine r_alloc hS ze35 fun ge w7 hS=>?_
   refine r_storeN hS ag35 (xs:=q.ops[i].cells) rfl (show 0+11≤11 from Nat.le_refl _) ho1 fun w8 hS=>?_
   rw [setL_all _ _ (by rfl)] at hS
   have hr2:=(hy w8 hS.drop).rowR
   rw [e2] at hr2
   obtain ⟨b2,p2,cs,hp2,_,hcv,hpc2⟩:=hr2.ix el33 .i64 i hi2
   subst hcv
   refine r1 (hp2 _) (r_loadN ag35 (xs:=c.ops[i].cells) rfl (fun j u hu=>by rw [add_addr]; exact hpc2 j u hu) ?_)
   have ho2:=((hy w8 hS.drop).all _ (List.getElem_mem hi2)).ones
   refine r_alloc hS ze35 fun gf w9 hS=>?_
   refine r_storeN hS ag35 (xs:=c.ops[i].cells) rfl (show 0+11≤11 from Nat.le_refl _) ho2 fun w10 hS=>?_
   rw [setL_all _ _ (by rfl)] at hS
   refine r_loadN ag35 (xs:=q.ops[i].cells) rfl (hS.cells_at m1 0 (whole_at _)) ?_
   refine r_loadN ag35 (xs:=c.ops[i].cells) rfl (hS.cells_at m0 0 (whole_at _)) ?_
   refine r_callVal en200 (l1:=[]) (l2:=[_,_]) (l3:=[]) rfl rfl rfl ?_
   refine (ih q.ops[i] (List.getElem_mem hi1) c.ops[i] (fun w hw=>(hx w hw.drop.drop).all _ (List.getElem_mem hi1)) (fun w hw=>(hy w hw.drop.drop).all _ (List.getElem_mem hi2)) hS).mono fun r w11 ⟨⟨b,hr,hb⟩,hS⟩=>?_
   subst hr
   cases b with
   | false=>
    (try simp only [o_not,Bool.not_false,condT])
    refine ⟨⟨_,rfl,⟨fun h=>(by cases h),fun e=>?_⟩⟩,hS.drop.drop⟩
    have h1:=congrArg (fun l=>l[i]?) e
    simp only [List.getElem?_map,List.getElem?_eq_getElem hi1,List.getElem?_eq_getElem hi2,Option.map_some,Option.some.injEq] at h1
    exact hb.2 h1
   | true=>
    (try simp only [o_not,Bool.not_true,condF])
    rw [wr_i64 (x:=(i:Int)+1) (by omega) (by omega)]
    exact ⟨m - 1,by omega,i+1,rfl,by omega,take_more (by simpa using hi1) (by simpa using hi2) ht2 (by simpa using hb.1 rfl),hS.drop.drop⟩
  ·obtain rfl:i=q.ops.length:=by omega
   have t1:=List.take_length (l:=q.ops.map Rq.st)
   have t2:=List.take_length (l:=c.ops.map Rq.st)
   rw [List.length_map] at t1 t2
   rw [t1,hll,t2] at ht2
   (try simp only [o_add,o_lss,hlt,decide_false,condF])
   exact ⟨⟨_,rfl,⟨fun _=>ht2,fun _=>rfl⟩⟩,hS⟩
 (try simp only [fa_35_1,Nat.zero_add,fa_35_2,fa_35_3,fa_35_4,fa_35_5,fa_35_6,fa_35_7,fa_35_8,fa_35_9,fa_35_10,fa_35_0,Nat.add_zero])
 refine r_load one22 (hS.at m1 0 rfl) (r_load one22 (hS.at m0 0 rfl) ?_)
 refine r1 (run_eql_int _ _ _ _ _ _ _ _) ?_
 by_cases hkd:q.f.kd=c.f.kd
 case neg=>
  rw [show (q.f.kd == c.f.kd)=false by simp [hkd]]
  (try simp only [o_pickF,guardW_ft])
  exact bad (fun e=>hkd (by rw [e.1])) hS
 rw [show (q.f.kd == c.f.kd)=true by simp [hkd]]
 (try simp only [o_pickT,guardW_true])
 refine r_load one9 (hS.at m1 1 rfl) (r_load one9 (hS.at m0 1 rfl) ?_)
 refine r1 (run_eql_strS _ _ _ _ _ _) ?_
 by_cases hpath:q.f.path=c.f.path
 case neg=>
  rw [decide_eq_false hpath]
  (try simp only [o_pickF,guardW_ft])
  exact bad (fun e=>hpath (by rw [e.1])) hS
 rw [decide_eq_true hpath]
 (try simp only [o_pickT,guardW_true])
 refine r_load one30 (hS.at m1 2 rfl) (r_load one30 (hS.at m0 2 rfl) ?_)
 refine (sameBytes Z (hx' _ hS).flat.data (hy' _ hS).flat.data).mono fun r w3 ⟨hr,hw⟩=>?_
 subst hr; subst hw
 by_cases hdd:q.f.data=c.f.data
 case neg=>
  rw [decide_eq_false hdd]
  (try simp only [o_pickF,guardW_ft])
  exact bad (fun e=>hdd (by rw [e.1])) hS
 rw [decide_eq_true hdd]
 (try simp only [o_pickT,guardW_true])
 refine r_load one31 (hS.at m1 3 rfl) (r_load one31 (hS.at m0 3 rfl) ?_)
 refine (sameAcl Z (hx' _ hS).flat.acl (hy' _ hS).flat.acl).mono fun r w4 ⟨⟨ba,hr,hba⟩,hd⟩=>?_
 subst hr
 have hS:=hS.drew hd
 cases ba with
 | false=>
  (try simp only [o_pickF,guardW_ft])
  exact bad (fun e=>(by have:=hba.2 (by rw [e.1]); cases this)) hS
 | true=>
 have hac:=hba.1 rfl
 (try simp only [o_pickT,guardW_true])
 refine r_load one21 (hS.at m1 4 rfl) (r_load one21 (hS.at m0 4 rfl) ?_)
 refine r1 (run_eql_int _ _ _ _ _ _ _ _) ?_
 by_cases hver:q.f.ver=c.f.ver
 case neg=>
  rw [show (q.f.ver == c.f.ver)=false by simp [hver]]
  (try simp only [o_pickF,guardW_ft])
  exact bad (fun e=>hver (by rw [e.1])) hS
 rw [show (q.f.ver == c.f.ver)=true by simp [hver]]
 (try simp only [o_pickT,guardW_true])
 refine r_load one4 (hS.at m1 5 rfl) (r_load one4 (hS.at m0 5 rfl) ?_)
 refine r1 (run_eql_boolV bo4 _ _ _ _ _) ?_
 by_cases heph:q.f.eph=c.f.eph
 case neg=>
  rw [show (q.f.eph == c.f.eph)=false by simp [heph]]
  (try simp only [o_pickF,guardW_ft])
  exact bad (fun e=>heph (by rw [e.1])) hS
 rw [show (q.f.eph == c.f.eph)=true by simp [heph]]
 (try simp only [o_pickT,guardW_true])
 refine r_load one4 (hS.at m1 6 rfl) (r_load one4 (hS.at m0 6 rfl) ?_)
 refine r1 (run_eql_boolV bo4 _ _ _ _ _) ?_
 by_cases hseq:q.f.seq=c.f.seq
 case neg=>
  rw [show (q.f.seq == c.f.seq)=false by simp [hseq]]
  (try simp only [o_pickF,guardW_ft])
  exact bad (fun e=>hseq (by rw [e.1])) hS
 rw [show (q.f.seq == c.f.seq)=true by simp [hseq]]
 (try simp only [o_pickT,guardW_true])
 refine r_load one2 (hS.at m1 7 rfl) (r_load one2 (hS.at m0 7 rfl) ?_)
 refine r1 (run_eql_int _ _ _ _ _ _ _ _) ?_
 by_cases hses:q.f.ses=c.f.ses
 case neg=>
  rw [show (q.f.ses == c.f.ses)=false by simp [hses]]
  (try simp only [o_pickF,guardW_ft])
  exact bad (fun e=>hses (by rw [e.1])) hS
 rw [show (q.f.ses == c.f.ses)=true by simp [hses]]
 (try simp only [o_pickT,guardW_true])
 refine r_load one21 (hS.at m1 8 rfl) (r_load one21 (hS.at m0 8 rfl) ?_)
 refine r1 (run_eql_int _ _ _ _ _ _ _ _) ?_
 by_cases htmo:q.f.tmo=c.f.tmo
 case neg=>
  rw [show (q.f.tmo == c.f.tmo)=false by simp [htmo]]
  (try simp only [o_pickF,guardW_ft])
  exact bad (fun e=>htmo (by rw [e.1])) hS
 rw [show (q.f.tmo == c.f.tmo)=true by simp [htmo]]
 (try simp only [o_pickT,guardW_true])
 refine r_load one32 (hS.at m1 9 rfl) (r_load one32 (hS.at m0 9 rfl) ?_)
 refine (sameIds Z (hx' _ hS).flat.who (hy' _ hS).flat.who).mono fun r w5 ⟨⟨bw,hr,hbw⟩,hd⟩=>?_
 subst hr
 have hS:=hS.drew hd
 cases bw with
 | false=>
  (try simp only [o_pickF,guardW_ft])
  exact bad (fun e=>(by have:=hbw.2 (by rw [e.1]); cases this)) hS
 | true=>
 have hwh:=hbw.1 rfl
 have hff:q.f=c.f:=by
  generalize q.f=x at *
  generalize c.f=y at *
  cases x; cases y
  simp_all
 (try simp only [o_pickT,guardW_true])
 refine r_load one33 (hS.at m1 10 rfl) (r_load one33 (hS.at m0 10 rfl) ?_)
 refine (rows hx' hy' hS).mono fun r w6 ⟨⟨b,hr,hb⟩,hS⟩=>?_
 subst hr
 skip
 exact ⟨⟨b,rfl,hb.trans ⟨fun h=>(st_iff _ _).2 ⟨hff,h⟩,fun h=>((st_iff _ _).1 h).2⟩⟩,hS.drop.drop⟩
theorem sameT (a c:Tx) (hx:Ent o R fun w=>RdQ w a.q) (hy:Ent o R fun w=>RdQ w c.q) (h:St o w R) :
  CallV π Z 120 #[.agg a.cells.toArray,.agg c.cells.toArray] w fun r w'=>(∃b,r=.bool b∧(b=true ↔ a.hd=c.hd∧a.q.st=c.q.st))∧St o w' R:=by
 refine f120.calls ?_
 unfold f120.sh
 refine r_box _ _ h fun g1 w1 hS=>?_
 refine r_box _ _ hS fun g2 w2 hS=>?_
 have hS:St o w2 (blk g2 37 c.cells::blk g1 37 a.cells::R):=hS
 have bad:∀{w':World},¬ (a.hd=c.hd∧a.q.st=c.q.st)→St o w' (blk g2 37 c.cells::blk g1 37 a.cells::R)→((∃b,Value.bool false=.bool b∧(b=true ↔ a.hd=c.hd∧a.q.st=c.q.st))∧St o w' R):=
  fun hne hS=>⟨⟨_,rfl,⟨fun h=>(by cases h),fun e=>absurd e hne⟩⟩,hS.drop.drop⟩
 (try simp only [fa_37_1,Nat.zero_add,fa_37_2,fa_37_0,Nat.add_zero])
 refine r_loadN ag27 (xs:=zx a.e a.n) rfl (hS.cells_at m1 0 (zx_at a)) ?_
 refine r_loadN ag27 (xs:=zx c.e c.n) rfl (hS.cells_at m0 0 (zx_at c)) ?_
 refine r1 (eqZx a.e a.n c.e c.n _) ?_
 by_cases hz:a.e=c.e∧a.n=c.n
 case neg=>
  have e:((a.e == c.e) && (a.n == c.n))=false:=by
   by_cases h1:a.e=c.e <;> by_cases h2:a.n=c.n <;> simp [h1,h2]
   exact hz ⟨h1,h2⟩
  rw [e]
  (try simp only [o_pickF,guardW_ft])
  exact bad (fun h=>hz ⟨congrArg Hd.e h.1,congrArg Hd.n h.1⟩) hS
 have e:((a.e == c.e) && (a.n == c.n))=true:=by simp [hz.1,hz.2]
 rw [e]
 (try simp only [o_pickT,guardW_true])
 refine r_loadN ag29 (xs:=orC a.sv a.bo a.nu) rfl (hS.cells_at m1 2 (or_at a)) ?_
 refine r_loadN ag29 (xs:=orC c.sv c.bo c.nu) rfl (hS.cells_at m0 2 (or_at c)) ?_
 refine r1 (eqOr a.sv a.bo a.nu c.sv c.bo c.nu _) ?_
 by_cases ho:a.sv=c.sv∧a.bo=c.bo∧a.nu=c.nu
 case neg=>
  rw [decide_eq_false ho]
  (try simp only [o_pickF,guardW_ft])
  exact bad (fun h=>ho ⟨congrArg Hd.sv h.1,congrArg Hd.bo h.1,congrArg Hd.nu h.1⟩) hS
 rw [decide_eq_true ho]
 (try simp only [o_pickT,guardW_true])
 refine r_loadN ag35 (xs:=a.q.cells) rfl (hS.cells_at m1 5 (rq_at a)) ?_
 refine r_loadN ag35 (xs:=c.q.cells) rfl (hS.cells_at m0 5 (rq_at c)) ?_
 refine (sameQ Z a.q c.q (fun w hw=>hx w hw.drop.drop) (fun w hw=>hy w hw.drop.drop) hS).mono fun r w3 ⟨⟨b,hr,hb⟩,hS⟩=>?_
 subst hr
 skip
 refine ⟨⟨b,rfl,hb.trans ⟨fun h=>⟨?_,h⟩,fun h=>h.2⟩⟩,hS.drop.drop⟩
 show (⟨a.e,a.n,a.sv,a.bo,a.nu⟩:Hd)=⟨c.e,c.n,c.sv,c.bo,c.nu⟩
 rw [hz.1,hz.2,ho.1,ho.2.1,ho.2.2]
end
end Go.Proofs.YtfijkedmbaghmaaGreatDoor

/- TxnBack: the plain law and the walk. -/
set_option linter.unusedVariables false
set_option linter.unusedSimpArgs false
namespace Go.Proofs.YtfijkedmbaghmaaGreatDoor
open Go.Sh
open Tryz renaming prog → π
theorem map_st {α:Type} {k:Rq→α} (hk:∀x y:Rq,x.st=y.st→k x=k y):∀(l m:List Rq),l.map Rq.st=m.map Rq.st→l.map k=m.map k
 | [],[],_=>rfl
 | [],_::_,h=>by simp at h
 | _::_,[],h=>by simp at h
 | x::l,y::m,h=>by
  simp only [List.map_cons,List.cons.injEq] at h
  rw [List.map_cons,List.map_cons,hk _ _ h.1,map_st hk l m h.2]
theorem st_f {x y:Rq} (h:x.st=y.st):x.f=y.f:=((st_iff _ _).1 h).1
theorem st_ops {x y:Rq} (h:x.st=y.st):x.ops.map Rq.st=y.ops.map Rq.st:=((st_iff _ _).1 h).2
theorem st_len {x y:Rq} (h:x.st=y.st):x.ops.length=y.ops.length:=by have:=congrArg List.length (st_ops h); simpa using this
theorem isOp_st (x y:Rq) (h:x.st=y.st):isOp x=isOp y:=by unfold isOp; rw [st_f h,st_len h]
theorem all_map {α:Type} (p:α→Bool) (l:List α):l.all p=(l.map p).all id:=by rw [List.all_map]; rfl
theorem chkQ_st {x y:Rq} (h:x.st=y.st):chkQ x=chkQ y:=by
 unfold chkQ
 rw [st_f h,st_len h,all_map isOp,all_map isOp,map_st isOp_st _ _ (st_ops h)]
theorem chkT_st {x y:Tx} (h:x.hd=y.hd) (hs:x.q.st=y.q.st):chkT x=chkT y:=by
 have h1:x.e=y.e:=congrArg Hd.e h
 have h2:x.n=y.n:=congrArg Hd.n h
 have h3:x.sv=y.sv:=congrArg Hd.sv h
 have h4:x.nu=y.nu:=congrArg Hd.nu h
 unfold chkT
 rw [h1,h2,h3,h4,st_f hs,chkQ_st hs]
theorem keyQ_st {x y:Rq} (h:x.st=y.st):keyQ x=keyQ y:=by
 unfold keyQ
 rw [st_f h,map_st (fun a b=>st_f) _ _ (st_ops h)]
theorem txB_st {x y:Tx} (h:x.hd=y.hd) (hs:x.q.st=y.q.st):txB x=txB y:=by
 rw [txB_pre,txB_pre,h,keyQ_bytes _ _ (keyQ_st hs)]
theorem st_of_key {x y:Rq} (hx:okR false x) (hy:okR false y) (h:keyQ x=keyQ y):x.st=y.st:=by
 have h1:x.f=y.f:=congrArg Prod.fst h
 have h2:x.ops.map Rq.f=y.ops.map Rq.f:=congrArg Prod.snd h
 have hox:∀q,okR false q→∀z ∈ q.ops,z.ops=[]:=by
  intro q hq z hz
  have h3:=hq.2
  by_cases hb:bi false q.f 8=true
  ·rw [if_pos hb] at h3; exact (h3.2 z hz).2
  ·rw [if_neg hb] at h3; rw [h3] at hz; cases hz
 have key:∀(l m:List Rq),(∀z ∈ l,z.ops=[])→(∀z ∈ m,z.ops=[])→l.map Rq.f=m.map Rq.f→l.map Rq.st=m.map Rq.st:=by
  intro l
  induction l with
  | nil=>intro m _ _ h; cases m with
   | nil=>rfl
   | cons _ _=>simp at h
  | cons z l ih=>
   intro m hl hm h
   cases m with
   | nil=>simp at h
   | cons z' m=>
    simp only [List.map_cons,List.cons.injEq] at h
    rw [List.map_cons,List.map_cons,ih m (fun z hz=>hl z (List.mem_cons_of_mem _ hz)) (fun z hz=>hm z (List.mem_cons_of_mem _ hz)) h.2]
    congr 1
    rw [st_iff,hl z List.mem_cons_self,hm z' List.mem_cons_self]
    exact ⟨h.1,rfl⟩
 exact (st_iff _ _).2 ⟨h1,key _ _ (hox x hx) (hox y hy) h2⟩
theorem within_spec {f:Fl} {m:Nat} (h:within f m=true) :
  (bt f 0=false→f.path=[])∧(bt f 1=false→f.data=[])∧(bt f 2=false→f.acl=[])∧(bt f 3=false→f.ver=0)∧(bt f 4=false→f.eph=false∧f.seq=false)∧(bt f 5=false→f.ses=0)∧(bt f 6=false→f.tmo=0)∧(bt f 7=false→f.who=[])∧(bt f 8=false→m=0):=by
 simp only [within,Bool.and_eq_true,Bool.not_eq_true'] at h
 obtain ⟨h1,h2,_,_,_⟩:=h
 simp only [wg1,wg2,Bool.or_eq_false_iff,Bool.and_eq_false_iff,Bool.not_eq_false',decide_eq_true_eq,decide_eq_false_iff_not] at h1 h2
 obtain ⟨a0,a1,a2,a3⟩:=h1
 obtain ⟨a4,a5,a6,a7,a8⟩:=h2
 have z:∀{α:Type} {l:List α},¬ 0 < l.length→l=[]:=fun {α} {l} h=>List.eq_nil_of_length_eq_zero (by omega)
 refine ⟨fun h=>?_,fun h=>?_,fun h=>?_,fun h=>?_,fun h=>?_,fun h=>?_,fun h=>?_,fun h=>?_,fun h=>?_⟩
 ·exact a0.resolve_left (by rw [h]; simp)
 ·exact z (a1.resolve_left (by rw [h]; simp))
 ·exact z (a2.resolve_left (by rw [h]; simp))
 ·exact a3.resolve_left (by rw [h]; simp)
 ·exact a4.resolve_left (by rw [h]; simp)
 ·exact a5.resolve_left (by rw [h]; simp)
 ·exact a6.resolve_left (by rw [h]; simp)
 ·exact z (a7.resolve_left (by rw [h]; simp))
 ·have:=a8.resolve_left (by rw [h]; simp)
  omega
theorem bi_false (f:Fl) (i:Nat):bi false f i=bt f i:=rfl
theorem bi_true (f:Fl) (hk:0≤f.kd∧f.kd≤12) (i:Nat) (hi:i≤8):bi true f i=(bt f i && !(i == 5 || i == 7)):=by
 obtain ⟨k,hk'⟩:∃k:Nat,f.kd=k:=⟨f.kd.toNat,by omega⟩
 unfold bi bt
 rw [hk',Int.toNat_natCast]
 have key:∀k < 13,∀i < 9,(nmF true k).testBit i=((nm k).testBit i && !(i == 5 || i == 7)):=by decide +kernel
 exact key k (by omega) i (by omega)
theorem okL_of {n:Int} {l:List UInt8} (h:(l.length:Int)≤n) (hn:n≤2147483647):okL n l:=⟨h,by omega⟩
theorem okId_of {x:Idd} (h:idMay x=true):okId x:=by
 simp only [idMay,Bool.and_eq_true,decide_eq_true_eq] at h
 exact ⟨okL_of (by omega) (by omega),okL_of (by omega) (by omega)⟩
theorem okTo_of {inner:Bool} {f:Fl} {m:Nat} (hk:1≤f.kd∧f.kd≤12∧(inner=true→f.kd≤5)) (hw:within f m=true) (hf:WfF f) (h5:inner=true→f.ses=0∧f.who=[]):okTo inner f 8:=by
 obtain ⟨b,_⟩:=bnd_of hw
 obtain ⟨s0,s1,s2,s3,s4,s5,s6,s7,_⟩:=within_spec hw
 have hbit:∀i,i≤8→bi inner f i=false→bt f i=false∨(inner=true∧(i=5∨i=7)):=by
  intro i hi h
  cases inner with
  | false=>exact .inl h
  | true=>
   rw [bi_true f (by omega) i hi] at h
   by_cases e:i=5∨i=7
   ·exact .inr ⟨rfl,e⟩
   ·left
    have:(i == 5 || i == 7)=false:=by
     simp only [Bool.or_eq_false_iff,beq_eq_false_iff_ne]
     omega
    rw [this] at h
    simpa using h
 refine ⟨⟨⟨⟨⟨⟨⟨⟨hk,?_⟩,?_⟩,?_⟩,?_⟩,?_⟩,?_⟩,?_⟩,?_⟩
 ·simp only [okc]
  split
  ·exact okL_of (by have:=b.path; omega) (by omega)
  ·rename_i h
   rcases hbit 0 (by omega) (by simpa using h) with h | ⟨_,h⟩
   ·exact s0 h
   ·omega
 ·simp only [okc]
  split
  ·exact okL_of (by have:=b.data; omega) (by omega)
  ·rename_i h
   rcases hbit 1 (by omega) (by simpa using h) with h | ⟨_,h⟩
   ·exact s1 h
   ·omega
 ·simp only [okc]
  split
  ·exact ⟨b.acl,fun x hx=>⟨(hf.acl.2 x hx).1,okId_of (List.all_eq_true.1 b.ea x hx)⟩⟩
  ·rename_i h
   rcases hbit 2 (by omega) (by simpa using h) with h | ⟨_,h⟩
   ·exact s2 h
   ·omega
 ·simp only [okc]
  split
  ·exact hf.ver
  ·rename_i h
   rcases hbit 3 (by omega) (by simpa using h) with h | ⟨_,h⟩
   ·exact s3 h
   ·omega
 ·simp only [okc]
  split
  ·trivial
  ·rename_i h
   rcases hbit 4 (by omega) (by simpa using h) with h | ⟨_,h⟩
   ·exact s4 h
   ·omega
 ·simp only [okc]
  split
  ·exact hf.ses
  ·rename_i h
   rcases hbit 5 (by omega) (by simpa using h) with h | ⟨hi,h⟩
   ·exact s5 h
   ·exact (h5 hi).1
 ·simp only [okc]
  split
  ·exact hf.tmo
  ·rename_i h
   rcases hbit 6 (by omega) (by simpa using h) with h | ⟨_,h⟩
   ·exact s6 h
   ·omega
 ·simp only [okc]
  split
  ·exact ⟨b.who,fun x hx=>okId_of (List.all_eq_true.1 b.ew x hx)⟩
  ·rename_i h
   rcases hbit 7 (by omega) (by simpa using h) with h | ⟨hi,h⟩
   ·exact s7 h
   ·exact (h5 hi).2
theorem bt8 {f:Fl} (h:1≤f.kd∧f.kd≤5):bt f 8=false:=by
 have:=bi8 f ⟨by omega,h.2⟩
 rw [bi_true f (by omega) 8 (by omega)] at this
 simpa using this
theorem okI_of {x:Rq} (h:isOp x=true) (hw:WfQ x):okTo true x.f 8∧x.ops=[]:=by
 obtain ⟨h1,h2,h3,h4⟩:=isOp_spec h
 have h8:=(within_spec h4).2.2.2.2.2.2.2.2 (bt8 h1)
 exact ⟨okTo_of ⟨h1.1,by omega,fun _=>h1.2⟩ h4 hw.flat fun _=>⟨h2,List.eq_nil_of_length_eq_zero h3⟩,List.eq_nil_of_length_eq_zero h8⟩
theorem okR_chk {q:Rq} (h:chkQ q=true) (hw:WfQ q):okR false q:=by
 obtain ⟨h1,h2,h3⟩:=chkQ_spec h
 obtain ⟨_,hm⟩:=bnd_of h2
 refine ⟨okTo_of ⟨h1.1,h1.2,(fun h=>by cases h)⟩ h2 hw.flat (fun h=>by cases h),?_⟩
 split
 ·exact ⟨hm,fun x hx=>okI_of (List.all_eq_true.1 h3 x hx) (hw.all x hx)⟩
 ·rename_i h
  have h8:bt q.f 8=false:=by rw [← bi_false]; simpa using h
  exact List.eq_nil_of_length_eq_zero ((within_spec h2).2.2.2.2.2.2.2.2 h8)
theorem okT_chk {t:Tx} (h:chkT t=true) (hh:wfH t.hd) (hw:WfQ t.q):okT t:=by
 refine ⟨hh,okR_chk ?_ hw⟩
 unfold chkT at h
 simp only [Bool.and_eq_true] at h
 exact h.2.2.2
theorem multi {f:Fl} (hk:1≤f.kd∧f.kd≤12) (h:bt f 8=true):bt f 0=false∧bt f 1=false∧bt f 2=false∧bt f 3=false∧bt f 4=false∧bt f 6=false:=by
 obtain ⟨k,hk'⟩:∃k:Nat,f.kd=k:=⟨f.kd.toNat,by omega⟩
 unfold bt at *
 have hkn:f.kd.toNat=k:=by omega
 rw [hkn] at h ⊢
 have key:∀k < 13,(nm k).testBit 8=true→(nm k).testBit 0=false∧(nm k).testBit 1=false∧(nm k).testBit 2=false∧(nm k).testBit 3=false∧(nm k).testBit 4=false∧(nm k).testBit 6=false:=by decide +kernel
 exact key k (by omega) h
theorem opB_len' {x:Rq} (h:isOp x=true):(opB x).length≤407:=by
 obtain ⟨h1,h2,h3,h4⟩:=isOp_spec h
 obtain ⟨b,_⟩:=bnd_of h4
 have b5:bi true x.f 5=false:=by rw [bi_true _ (by omega) 5 (by omega)]; simp
 have b7:bi true x.f 7=false:=by rw [bi_true _ (by omega) 7 (by omega)]; simp
 have b6:bi true x.f 6=false:=by
  obtain ⟨k,hk⟩:∃k:Nat,x.f.kd=k:=⟨x.f.kd.toNat,by omega⟩
  unfold bi
  rw [hk,Int.toNat_natCast]
  have key:∀k < 6,(nmF true k).testBit 6=false:=by decide +kernel
  exact key k (by omega)
 have e0:(p0 true x.f).length≤68:=ite_len (by rw [encL_len]; have:=b.path; omega)
 have e1:(p1 true x.f).length≤100:=ite_len (by rw [encL_len]; have:=b.data; omega)
 have e2:(p2 true x.f).length≤232:=ite_len (by
  have:=lsB_len enB 57 x.f.acl fun y hy=>enB_len y (List.all_eq_true.1 b.ea _ hy)
  have:=b.acl
  omega)
 have e3:(p3 true x.f).length≤4:=ite_len (by rw [enc_length]; omega)
 have e4:(p4 true x.f).length≤2:=ite_len (by simp [encB])
 have e5:p5 true x.f=[]:=by rw [p5,b5]; rfl
 have e6:p6 true x.f=[]:=by rw [p6,b6]; rfl
 have e7:p7 true x.f=[]:=by rw [p7,b7]; rfl
 simp only [opB,flB,List.length_append,enc_length,e5,e6,e7,List.length_nil]
 omega
theorem txB_len {t:Tx} (h:chkT t=true):(txB t).length≤4096:=by
 have hq:chkQ t.q=true:=by
  unfold chkT at h
  simp only [Bool.and_eq_true] at h
  exact h.2.2.2
 obtain ⟨h1,h2,h3⟩:=chkQ_spec hq
 obtain ⟨b,hm⟩:=bnd_of h2
 have hr:(reqB t.q).length≤3600:=by
  unfold reqB
  cases h8:bi false t.q.f 8 with
  | false=>
   have:=flB_len false b
   simp only [Bool.false_eq_true,if_false,List.append_nil]
   omega
  | true=>
   obtain ⟨z0,z1,z2,z3,z4,z6⟩:=multi h1 h8
   have e0:p0 false t.q.f=[]:=by rw [p0,bi_false,z0]; rfl
   have e1:p1 false t.q.f=[]:=by rw [p1,bi_false,z1]; rfl
   have e2:p2 false t.q.f=[]:=by rw [p2,bi_false,z2]; rfl
   have e3:p3 false t.q.f=[]:=by rw [p3,bi_false,z3]; rfl
   have e4:p4 false t.q.f=[]:=by rw [p4,bi_false,z4]; rfl
   have e6:p6 false t.q.f=[]:=by rw [p6,bi_false,z6]; rfl
   have e5:(p5 false t.q.f).length≤8:=ite_len (by rw [enc_length]; omega)
   have e7:(p7 false t.q.f).length≤240:=ite_len (who_len b)
   have e8:=lsB_len opB 407 t.q.ops fun x hx=>opB_len' (List.all_eq_true.1 h3 _ hx)
   simp only [if_true,List.length_append,flB,e0,e1,e2,e3,e4,e6,enc_length,List.length_nil,opsB]
   omega
 simp only [txB,List.length_append,enc_length]
 omega
section
variable (Z:PZ) {o w:World} {R As:List HProp}
end

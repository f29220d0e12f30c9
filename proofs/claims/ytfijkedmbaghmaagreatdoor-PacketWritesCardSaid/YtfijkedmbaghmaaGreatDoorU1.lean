import Derived.Test.YtfijkedmbaghmaaGreatDoorQ2
import Derived.Test.YtfijkedmbaghmaaGreatDoorT38
/- A request's lists are put into a Bag. -/
set_option linter.unusedVariables false
set_option linter.unusedSimpArgs false
namespace Go.Proofs.YtfijkedmbaghmaaGreatDoor
open Go.Sh
open Tryz renaming prog → π
def newR (n0 n1 n2 n3:List (Value × Nat)):HProp:=satH [rowsX 5 1 1 n0,rowsX 175 2 32 n1,rowsX 178 3 40 n2,rowsX 35 11 144 n3]
section
variable {o w:World} {R:List HProp} {n0 n1 n2 n3 k0 k1 k2 k3:List (Value × Nat)}
theorem newR.open (h:St o w (newR n0 n1 n2 n3::R)):St o w (rowsX 5 1 1 n0::rowsX 175 2 32 n1::rowsX 178 3 40 n2::rowsX 35 11 144 n3::R):=h.all
theorem newR.shut (h:St o w (rowsX 5 1 1 n0::rowsX 175 2 32 n1::rowsX 178 3 40 n2::rowsX 35 11 144 n3::R)):St o w (newR n0 n1 n2 n3::R):=St.all_intro h
theorem newR.none (h:St o w R):St o w (newR [] [] [] []::R):=newR.shut (rows_empty (rows_empty (rows_empty (rows_empty h))))
theorem newR.join (h:St o w (newR n0 n1 n2 n3::newR k0 k1 k2 k3::R)):St o w (newR (n0++k0) (n1++k1) (n2++k2) (n3++k3)::R):=by
 have a:=newR.open ((newR.open h).pick 4)
 -- k0 k1 k2 k3 n0 n1 n2 n3
 have a:=(rows_join (a.pick 4)).put 6
 -- k1 k2 k3 n1 n2 n3 j0
 have a:=(rows_join (a.pick 3)).put 5
 -- k2 k3 n2 n3 j0 j1
 have a:=(rows_join (a.pick 2)).put 4
 -- k3 n3 j0 j1 j2
 have a:=(rows_join (a.pick 1)).put 3
 exact newR.shut a
theorem add_row {e:TypeId} {sz bt n:Nat} {l:Value} {xs b b':List Value} (hb:b'=if b.length < 600 then b++[l] else b) (hbd:n * bt≤140737488351232) (h:St o w (own e sz l n xs::R)):∃nn:List (Value × Nat),b'=b++nn.map Prod.fst∧St o w (rowsX e sz bt nn::R):=by
 by_cases hl:b.length < 600
 ·rw [if_pos hl] at hb
  exact ⟨[(l,n)],hb,rows_cons (p:=(l,n)) hbd ((rows_empty h).swap)⟩
 ·rw [if_neg hl] at hb
  exact ⟨[],by rw [hb]; simp,rows_empty h.drop⟩
end
section
variable (Z:PZ) {o w:World} {R:List HProp} {g:Nat} {b0 b1 b2 b3:List Value}
def AddsQ (g:Nat) (o:World) (q:Rq):Prop:=∀{w:World} {R:List HProp} {b0 b1 b2 b3:List Value},St o w (bagP g b0 b1 b2 b3::OwQ q::R)→CallV π Z 47 #[.pointer (some ⟨g,0,none⟩),.agg q.cells.toArray] w fun r w'=>
  ∃n0 n1 n2 n3:List (Value × Nat),St o w' (bagP g (b0++n0.map Prod.fst) (b1++n1.map Prod.fst) (b2++n2.map Prod.fst) (b3++n3.map Prod.fst)::newR n0 n1 n2 n3::R)
set_option maxRecDepth 100000 in
theorem addReqs {v:Value} (l:List Rq) (hwl:l.length * 144≤140737488351232) (ih:∀x ∈ l,AddsQ Z g o x) (h:St o w (bagP g b0 b1 b2 b3::own 35 11 v l.length (l.map Rq.cells).flatten::satH (l.map OwQ)::R)) :
  CallV π Z 140 #[.pointer (some ⟨g,0,none⟩),v] w fun r w'=>
   ∃n0 n1 n2 n3:List (Value × Nat),St o w' (bagP g (b0++n0.map Prod.fst) (b1++n1.map Prod.fst) (b2++n2.map Prod.fst) (b3++n3.map Prod.fst)::newR n0 n1 n2 n3::R):=by
 obtain ⟨a,c,rfl⟩:=(h.own_rd m1).form
 refine f140.calls ?_
 unfold f140.sh
 intro j hj
 refine bagPushRequests Z rfl h fun b' w1 hb hS=>?_
 refine hj w1 fun _=>?_
 clear hj h
 refine ⟨fun m y w'=>∃(i:Nat) (n0 n1 n2 n3:List (Value × Nat)),y=.int .i64 i∧m+i=l.length∧St o w' (bagP g (b0++n0.map Prod.fst) (b1++n1.map Prod.fst) (b2++n2.map Prod.fst) (b'++n3.map Prod.fst)::newR n0 n1 n2 n3::own 35 11 (.slice a l.length c) l.length (l.map Rq.cells).flatten::satH ((l.drop i).map OwQ)::R),
  ⟨l.length,0,[],[],[],[],rfl,rfl,?_⟩,?_⟩
 ·simp only [List.map_nil,List.append_nil,List.drop_zero]
  exact (newR.none hS).swap
 clear hS
 rintro m _ w2 ⟨i,n0,n1,n2,n3,rfl,hi,hS⟩ _
 have fin:∃n0 n1 n2 n3:List (Value × Nat),St o w2 (bagP g (b0++n0.map Prod.fst) (b1++n1.map Prod.fst) (b2++n2.map Prod.fst) (b3++n3.map Prod.fst)::newR n0 n1 n2 n3::R):=by
  have hS:=(hS.pick 3).drop
  by_cases hl:b3.length < 600
  ·rw [if_pos hl] at hb
   have a1:=newR.open (hS.swap)
   -- r0 r1 r2 r3 bag own R
   have a2:=rows_cons (bt:=144) (p:=(.slice a l.length c,l.length)) hwl ((a1.pick 3).pick 5)
   refine ⟨n0,n1,n2,(.slice a l.length c,l.length)::n3,?_⟩
   rw [hb] at a2
   have e:b3++((Value.slice a l.length c,l.length)::n3).map Prod.fst=(b3++[.slice a l.length c])++n3.map Prod.fst:=by simp
   rw [e]
   exact (newR.shut (a2.put 3)).swap
  ·rw [if_neg hl] at hb
   rw [hb] at hS
   exact ⟨n0,n1,n2,n3,(hS.pick 2).drop⟩
 by_cases hlt:(i:Int) < (l.length:Int)
 ·by_cases h6:(i:Int) < 600
  ·have hil:i < l.length:=by omega
   have hmem:l[i] ∈ l:=List.getElem_mem hil
   (try simp only [o_add,ln_33_3,o_lss,hlt,decide_true,o_pickT,guardW_true,h6,condT])
   clear fin
   obtain ⟨b,p,cs,hp,_,hcv,hc⟩:=(rowR_rd (c:=Rq.cells) Rq.cells_len (hS.own_rd m2) rfl).ix el33 .i64 i hil
   subst hcv
   refine r1 (hp _) (r_loadN ag35 (xs:=l[i].cells) rfl (fun j u hu=>by rw [add_addr]; exact hc j u hu) ?_)
   have hS:=hS.pick 3
   rw [List.drop_eq_getElem_cons hil,List.map_cons] at hS
   have hS:=(hS.all_cons).pick 2
   refine (ih l[i] hmem hS).mono fun r w3 ⟨k0,k1,k2,k3,hS⟩=>?_
   -- bag :: newR k :: satH :: newR n :: own :: R
   have hS:=newR.join ((hS.pick 1).pick 3)
   -- newR (n ++ k) :: bag :: satH :: own :: R
   skip
   rw [wr_i64 (x:=(i:Int)+1) (by omega) (by omega)]
   refine ⟨m - 1,by omega,i+1,n0++k0,n1++k1,n2++k2,n3++k3,rfl,by omega,?_⟩
   simp only [List.map_append,← List.append_assoc]
   skip
   exact (hS.swap).pick 3 |>.put 2 |>.pick 0
  ·(try simp only [o_add,ln_33_3,o_lss,hlt,decide_true,o_pickT,guardW_true,h6,decide_false,condF])
   exact fin
 ·(try simp only [o_add,ln_33_3,o_lss,hlt,decide_false,o_pickF,condF,guardW_ft])
  exact fin
theorem addReq (q:Rq) (hw:WfQ q):AddsQ Z g o q:=by
 induction q using Rq.ind with | h q ih=>?_
 intro w R b0 b1 b2 b3 h
 have hf:=hw.flat
 have hwl:=hw.len
 refine f47.calls ?_
 unfold f47.sh
 have h:=h.swap
 rw [OwQ_eq] at h
 have hd:=h.sep.sep
 have h2:=hd.swap.sep
 -- acl :: ids :: bytes :: sep ops :: bag :: R
 have h3:=(h2.pick 3).sep
 -- ops :: satH :: acl :: ids :: bytes :: bag :: R
 have o0:=St.own_one h3
 have o1:=St.own_one (h3.pick 2)
 have o2:=St.own_one (h3.pick 3)
 have o3:=St.own_one (h3.pick 4)
 refine r_box _ _ h3 fun gx w1 hS=>?_
 have hS:St o w1 (blk gx 35 q.cells::_):=hS
 (try simp only [fa_35_10,Nat.zero_add,fa_35_9,fa_35_3,fa_35_2])
 refine r_load one30 (hS.at m0 2 rfl) ?_
 -- blk :: ops :: satH :: acl :: ids :: bytes :: bag :: R
 refine (bagAddBytes Z o3 (hS.pick 6)).mono fun r w2 ⟨c0,hc0,hS⟩=>?_
 obtain ⟨n0,e0,hS⟩:=add_row (bt:=1) hc0 (by have:=hf.data; omega) (hS.pick 6)
 subst e0
 -- rows0 :: bag :: blk :: ops :: satH :: acl :: ids :: R
 skip
 refine r_load one31 (hS.at m2 3 rfl) ?_
 refine (bagAddAcl Z o1 (hS.pick 1)).mono fun r w3 ⟨c2,hc2,hS⟩=>?_
 obtain ⟨n2,e2,hS⟩:=add_row (bt:=40) hc2 (by exact hf.acl.1) (hS.pick 5)
 subst e2
 -- rows2 :: bag :: rows0 :: blk :: ops :: satH :: ids :: R
 skip
 refine r_load one32 (hS.at m3 9 rfl) ?_
 refine (bagAddIds Z o2 (hS.pick 1)).mono fun r w4 ⟨c1,hc1,hS⟩=>?_
 obtain ⟨n1,e1,hS⟩:=add_row (bt:=32) hc1 (by exact hf.who.1) (hS.pick 6)
 subst e1
 -- rows1 :: bag :: rows2 :: rows0 :: blk :: ops :: satH :: R
 skip
 refine r_load one33 (hS.at m4 10 rfl) ?_
 have hS:=((hS.pick 6).pick 6).pick 3
 -- bag :: ops :: satH :: rows1 :: rows2 :: rows0 :: blk :: R
 refine (addReqs Z q.ops hwl (fun x hx=>ih x hx (hw.all x hx)) hS).mono fun r w5 ⟨k0,k1,k2,k3,hS⟩=>?_
 -- bag :: newR k :: rows1 :: rows2 :: rows0 :: blk :: R
 have a:=rows_empty (e:=35) (sz:=11) (bt:=144) hS
 -- rows3 :: bag :: newR :: rows1 :: rows2 :: rows0 :: blk
 have a:=((a.pick 4).pick 4).pick 5
 -- rows0 rows1 rows2 rows3 bag newR blk
 have a:=newR.shut a
 have a:=newR.join (a.pick 2 |>.swap)
 refine ⟨n0++k0,n1++k1,n2++k2,[]++k3,?_⟩
 simp only [List.map_append,← List.append_assoc] at a ⊢
 simp only [List.nil_append,List.map_nil,List.append_nil] at a ⊢
 exact (a.pick 2).drop.swap
end
end Go.Proofs.YtfijkedmbaghmaaGreatDoor

/- A request's lists are written over where they lie. -/
set_option linter.unusedVariables false
set_option linter.unusedSimpArgs false
namespace Go.Proofs.YtfijkedmbaghmaaGreatDoor
open Go.Sh
open Tryz renaming prog → π
theorem wide_flat_len {α:Type} {C:α→List Value} {sz:Nat} (hC:∀x,(C x).length=sz) (M:Nat→α) (l:List α):((wide M l).map C).flatten.length=(l.length+64) * sz:=by
 rw [len_flatten_of (sz:=sz) (fun c hc=>by obtain ⟨x,_,rfl⟩:=List.mem_map.1 hc; exact hC x),List.length_map,wide_len]
theorem run_wv (P:Program) {t e:TypeId} {sz bt:Nat} {z:Value} (hel:El P t e sz bt z) (g n i:Nat) (hi:i < n) (w:World):(Instr.indexAt t (wv g n) (.int .i64 i)).run P w=.ok (.pointer (some ⟨g,i * sz,none⟩)) w:=by
 obtain ⟨info,hinfo,hs,_,_⟩:=hel.info
 have:=run_indexAt hel.ht hinfo g 0 n (n+64) .i64 (i:Int) (by omega) (by omega) w
 rw [hs,Nat.zero_add,Int.toNat_natCast] at this
 exact this
section
variable (Z:PZ) {o w:World} {R:List HProp}
end

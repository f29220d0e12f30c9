
/- Clone. -/
import Derived.Test.YtbdfhfceffkhgaaGreatDoorT27
import Derived.Test.YtbdfhfceffkhgaaGreatDoorShTwin
set_option linter.unusedVariables false
set_option linter.unusedSimpArgs false
namespace Go.Proofs.YtbdfhfceffkhgaaGreatDoor
open Go.Sh
open Tryz renaming prog → π
theorem r_slice0 {P:Program} {Z:PZ} {o w:World} {kk:PQ} {R:List HProp} {t e:TypeId} {sz bt:Nat} {z:Value} (hel:El P t e sz bt z) (h:St o w R)
  (hk:∀g w',St o w' (own e sz (.slice (some ⟨g,0,none⟩) 0 0) 0 []::R)→kk (.slice (some ⟨g,0,none⟩) 0 0) w'):rN P Z (Instr.buildSlice t 0 #[]) w kk:=by
 obtain ⟨i,hi,hs,_,hz⟩:=hel.info
 have hcs:P.cellsOf e=sz:=by simp [Program.cellsOf,hi,hs]
 have hrun:(Instr.buildSlice t 0 #[]).run P w=.ok (.slice (some ⟨w.heap.size,0,none⟩) 0 0) (w.alloc (.cells #[] e)):=by
  unfold Instr.buildSlice
  simp only [Sem.run_bind,run_underlying hel.ht,Result.andThen_ok,run_sizeOf _ hi,hcs]
  have e0:Array.map (fun _=>(default:Value)) (Array.range 0)=#[]:=Array.eq_empty_of_size_eq_zero (by simp)
  simp [Instr.fill,newRow,newObj,Sem.run,World.alloc_eq,e0]
 refine r1 hrun (hk _ _ ?_)
 have ha:=h.alloc e []
 have hmk:=ha.own_mk (sz:=sz) (cap:=0) 0 (Nat.le_refl _) (Nat.zero_le _) (by simp)
 simpa using hmk
theorem flat_setL {α:Type} {C:α→List Value} {sz:Nat} (hC:∀x,(C x).length=sz) (A B:List α) (x y:α):setL (((A++x::B).map C).flatten) (A.length * sz) (C y)=((A++y::B).map C).flatten:=by
 have hl:(A.map C).flatten.length=A.length * sz:=by
  rw [len_flatten_of (sz:=sz) (fun c hc=>by obtain ⟨x,_,rfl⟩:=List.mem_map.1 hc; exact hC x),List.length_map]
 simp only [List.map_append,List.map_cons,List.flatten_append,List.flatten_cons]
 have h:=setL_mid (A.map C).flatten (C x) (C y) (B.map C).flatten (by rw [hC,hC])
 rw [hl] at h
 exact h
section
variable (Z:PZ) {o w:World} {R:List HProp}
theorem clone_go {t e:TypeId} {sz bt:Nat} {z:Value} {x:Value} {n:Nat} {xs:List Value} {kk:PQ} (hel:El π t e sz bt z) (hs:isSliceT π t=true) (h1:ones xs) (hb:n * bt≤140737488355328) (hx:Ent o R fun w=>Rd w sz x n xs) (h:St o w R)
  (hk:∀r w',St o w' (own e sz r n xs::R)→kk r w') :
  rN π Z (eqOp BinOp.eql t false true x (Value.slice none 0 0)) w fun t4 w=>cV t4 (kk (Value.slice none 0 0) w) (rN π Z (Instr.buildSlice t 0 #[]) w fun t5 w=>rN π Z (Builtin.append_ #[t,t] t #[t5,x]) w kk):=by
 have h0:=hx w h
 have hn:=h0.2.1
 obtain ⟨a,c,rfl⟩:=h0.form
 refine r1 (run_eql_slice_nil' hs _ _ _ _ _ _) ?_
 cases a with
 | none=>
  simp only [Option.isNone_none,condT]
  obtain ⟨hl,_,⟨c',_,hz⟩ | ⟨_,_,hc,_⟩⟩:=h0
  ·subst hz
   have:xs=[]:=List.eq_nil_of_length_eq_zero (by simpa using hl)
   subst this
   exact hk _ _ (h.own_nil _ _)
  ·cases hc
 | some a=>
  simp only [Option.isNone_some,condF]
  refine r_slice0 hel h fun g w1 hS=>?_
  refine r_append hel hS ((hx w1 hS.drop).src hel.ht h1) (by rw [Nat.zero_add]; exact hb) (by rw [Nat.zero_add]; exact hn) fun v' w2 hS=>?_
  rw [Nat.zero_add,List.nil_append] at hS
  exact hk _ _ hS
theorem cloneBytes {x:Value} {l:List UInt8} (hl:l.length≤140737488355328) (hx:Ent o R fun w=>Rd w 1 x l.length (cb l)) (h:St o w R):CallV π Z 104 #[x] w fun r w'=>St o w' (own 5 1 r l.length (cb l)::R):=by
 refine f104.calls ?_
 unfold f104.sh
 exact clone_go Z el43 sl43 (cb_ones _) (by omega) hx h fun r w' hS=>hS
theorem cloneAcl {x:Value} {l:List En} (hl:l.length * 40≤140737488355328) (hx:Ent o R fun w=>Rd w 3 x l.length (l.map enC).flatten) (h:St o w R):CallV π Z 105 #[x] w fun r w'=>St o w' (own 140 3 r l.length (l.map enC).flatten::R):=by
 refine f105.calls ?_
 unfold f105.sh
 exact clone_go Z el44 sl44 (fun u hu=>by obtain ⟨c,hc,hu⟩:=List.mem_flatten.1 hu; obtain ⟨x,_,rfl⟩:=List.mem_map.1 hc; exact enB_ones _ u hu) hl hx h fun r w' hS=>hS
theorem cloneIds {x:Value} {l:List Idd} (hl:l.length * 32≤140737488355328) (hx:Ent o R fun w=>Rd w 2 x l.length (l.map idC).flatten) (h:St o w R):CallV π Z 106 #[x] w fun r w'=>St o w' (own 138 2 r l.length (l.map idC).flatten::R):=by
 refine f106.calls ?_
 unfold f106.sh
 exact clone_go Z el45 sl45 (fun u hu=>by obtain ⟨c,hc,hu⟩:=List.mem_flatten.1 hu; obtain ⟨x,_,rfl⟩:=List.mem_map.1 hc; exact idB_ones _ u hu) hl hx h fun r w' hS=>hS
theorem cloneReqs {x:Value} {l:List Rq} (hl:l.length * 144≤140737488355328) (hx:Ent o R fun w=>Rd w 11 x l.length (l.map Rq.cells).flatten∧∀y ∈ l,RdQ w y) (h:St o w R):CallV π Z 107 #[x] w fun r w'=>St o w' (own 48 11 r l.length (l.map Rq.cells).flatten::R):=by
 have hr:=(hx w h).2
 refine f107.calls ?_
 unfold f107.sh
 exact clone_go Z el46 sl46 (fun u hu=>by obtain ⟨c,hc,hu⟩:=List.mem_flatten.1 hu; obtain ⟨x,hx,rfl⟩:=List.mem_map.1 hc; exact (hr x hx).ones u hu) hl (fun w hw=>(hx w hw).1) h fun r w' hS=>hS
theorem clone_split {l:List Rq} {xs:List Rq} {i:Nat} (hi:i < l.length):xs++l.drop i=xs++l[i]::l.drop (i+1):=by rw [List.drop_eq_getElem_cons hi]
theorem cloneQ (q:Rq) (hw:WfQ q):∀{w:World} {R:List HProp},(Ent o R fun w=>RdQ w q)→St o w R→CallV π Z 77 #[.agg q.cells.toArray] w fun r w'=>∃q',r=.agg q'.cells.toArray∧q'.st=q.st∧St o w' (OwQ q'::R):=by
 induction q using Rq.ind with | h q ih=>?_
 intro w R hx h
 have hfl:=hw.flat
 have hwl:=hw.len
 refine f77.calls ?_
 unfold f77.sh
 refine r_box _ _ h fun g1 w1 hS=>?_
 refine r_alloc hS ze48 fun g2 w2 hS=>?_
 have hS:St o w2 (blk g2 48 (rqC zf (.slice none 0 0) (.slice none 0 0) (.slice none 0 0) (.slice none 0 0))::blk g1 48 q.cells::R):=hS
 refine ⟨fun w3 hd=>?_⟩
 have hS:=hS.drew hd
 (try simp only [fa_48_10p,Nat.zero_add,fa_48_10,fa_48_9p,fa_48_3p,fa_48_2p])
 refine rr_load one43 (hS.at m1 2 rfl) ?_
 skip
 refine rr_load one44 (hS.at m1 3 rfl) ?_
 skip
 refine rr_load one45 (hS.at m1 9 rfl) ?_
 skip
 refine rr_load one46 (hS.at m1 10 rfl) ?_
 refine (cloneBytes Z (l:=q.f.data) (by have:=hfl.data; omega) (fun w hS=>(hx w hS.drop.drop).flat.data) hS).mono fun vd w4 hS=>?_
 refine rs_load one46 (hS.at m2 10 rfl) (rs_load one45 (hS.at m2 9 rfl) (rs_load one44 (hS.at m2 3 rfl) ?_))
 skip
 refine (cloneAcl Z (l:=q.f.acl) (by have:=hfl.acl.1; omega) (fun w hS=>(hx w hS.drop.drop.drop).flat.acl) hS).mono fun va w5 hS=>?_
 refine rs_load one46 (hS.at m3 10 rfl) (rs_load one45 (hS.at m3 9 rfl) ?_)
 refine (cloneIds Z (l:=q.f.who) (by have:=hfl.who.1; omega) (fun w hS=>(hx w hS.drop.drop.drop.drop).flat.who) hS).mono fun vw w6 hS=>?_
 refine rs_load one46 (hS.at m4 10 rfl) ?_
 refine (cloneReqs Z (l:=q.ops) (by omega) (fun w hS=>⟨(hx w hS.drop.drop.drop.drop.drop).row,(hx w hS.drop.drop.drop.drop.drop).all⟩) hS).mono fun vo w7 hS=>?_
 have h1:=St.own_one (hS.pick 3)
 have h2:=St.own_one (hS.pick 2)
 have h3:=St.own_one (hS.pick 1)
 have h4:=St.own_one hS
 refine r_store (hS.pick 5) one43 (by simp [Rq.cells,rqC]) h1 fun w8 hS=>?_
 skip
 refine r_store hS one44 (by simp [Rq.cells,rqC]) h2 fun w9 hS=>?_
 skip
 refine r_store hS one45 (by simp [Rq.cells,rqC]) h3 fun w10 hS=>?_
 skip
 refine r_store hS one46 (by simp [Rq.cells,rqC]) h4 fun w11 hS=>?_
 have hS:St o w11 (blk g1 48 (rqC q.f vd va vw vo)::own 48 11 vo q.ops.length (q.ops.map Rq.cells).flatten::own 138 2 vw q.f.who.length (q.f.who.map idC).flatten::own 140 3 va q.f.acl.length (q.f.acl.map enC).flatten::own 5 1 vd q.f.data.length (cb q.f.data)::blk g2 48 (rqC zf (.slice none 0 0) (.slice none 0 0) (.slice none 0 0) (.slice none 0 0))::R):=hS
 have hS:St o w11 (OwF q.f vd va vw::blk g1 48 (rqC q.f vd va vw vo)::own 48 11 vo q.ops.length (q.ops.map Rq.cells).flatten::blk g2 48 (rqC zf (.slice none 0 0) (.slice none 0 0) (.slice none 0 0) (.slice none 0 0))::R):=by
  have a1:=(((hS.pick 2).pick 3).pick 4)
  have a2:St o w11 (own 140 3 va q.f.acl.length (q.f.acl.map enC).flatten::own 138 2 vw q.f.who.length (q.f.who.map idC).flatten::own 5 1 vd q.f.data.length (cb q.f.data)::_):=a1.put 2
  exact ((a2.sep_intro).swap).sep_intro
 skip
 refine r_load one46 (hS.at m1 10 rfl) ?_
 refine r1 ((hS.own_rd m2).len sl46 _ rfl _ _) ?_
 refine ⟨fun m y w'=>∃(i:Nat) (xs:List Rq),y=.int .i64 i∧m+i=q.ops.length∧xs.length=i∧xs.map Rq.st=(q.ops.take i).map Rq.st ∧
   St o w' (own 48 11 vo q.ops.length ((xs++q.ops.drop i).map Rq.cells).flatten::satH (xs.map OwQ)::OwF q.f vd va vw::blk g1 48 (rqC q.f vd va vw vo)::blk g2 48 (rqC zf (.slice none 0 0) (.slice none 0 0) (.slice none 0 0) (.slice none 0 0))::R),
  ⟨q.ops.length,0,[],rfl,rfl,rfl,rfl,(((hS.emp.mono fun _ _=>(trivial:satH (([]:List Rq).map OwQ) _))).pick 3)⟩,?_⟩
 clear hS
 rintro m _ w12 ⟨i,xs,rfl,hi,hxl,hst,hS⟩ _
 by_cases hlt:(i:Int) < (q.ops.length:Int)
 ·have hil:i < q.ops.length:=by omega
  have hmem:q.ops[i] ∈ q.ops:=List.getElem_mem hil
  (try simp only [o_add,o_lss,hlt,decide_true,condT])
  refine ⟨fun w13 hd=>?_⟩
  have hS:=hS.drew hd
  rw [clone_split hil] at hS
  obtain ⟨b,p,hp,hc⟩:=(hS.own_rd m0).adr el46 .i64 i hil
  have hcell:∀j u,q.ops[i].cells[j]? = some u→w13.cell? ⟨b,p+j,none⟩=some u:=fun j u hu=>hc w13 (hS.own_rd m0) j u (by
   have e:((((xs++q.ops[i]::q.ops.drop (i+1)).map Rq.cells).flatten).drop (i * 11)).take 11=q.ops[i].cells:=by
    have:=flatten_cut (sz:=11) (css:=(xs++q.ops[i]::q.ops.drop (i+1)).map Rq.cells) (fun c hc=>by obtain ⟨x,_,rfl⟩:=List.mem_map.1 hc; rfl) i (by simp; omega)
    rw [this]
    simp [hxl,List.getElem_append_right]
   rw [e]; exact hu)
  refine rr_load one46 (hS.at m3 10 rfl) ?_
  skip
  refine rr_load one46 (hS.at m3 10 rfl) ?_
  refine rp hp (rr_loadN ag48 (xs:=q.ops[i].cells) rfl (fun j u hu=>by rw [add_addr]; exact hcell j u hu) ?_)
  refine (ih q.ops[i] hmem (hw.all _ hmem) (fun w hw=>(hx w hw.drop.drop.drop.drop.drop).all _ hmem) hS).mono fun r w14 ⟨x',hr,hxst,hS⟩=>?_
  subst hr
  have hxo:=(OwQ.rd _ hS).ones
  refine rs_load one46 (hS.at m4 10 rfl) (rs_load one46 (hS.at m4 10 rfl) ?_)
  refine rp hp ?_
  refine r_store_ixN (hS.pick 1) el46 ag48 .i64 i hil (hp _) (us:=x'.cells) rfl hxo fun w15 hS=>?_
  have e1:=flat_setL Rq.cells_len xs (q.ops.drop (i+1)) q.ops[i] x'
  rw [hxl] at e1
  rw [e1] at hS
  skip
  rw [wr_i64 (x:=(i:Int)+1) (by omega) (by omega)]
  refine ⟨m - 1,by omega,i+1,xs++[x'],rfl,by omega,by simp [hxl],?_,?_⟩
  ·rw [List.take_succ_eq_append_getElem hil,List.map_append,List.map_append,hst]
   simp [hxst]
  ·have e2:(xs++[x'])++q.ops.drop (i+1)=xs++x'::q.ops.drop (i+1):=by simp
   have e3:(xs++[x']).map OwQ=xs.map OwQ++[OwQ x']:=by simp
   rw [e2,e3]
   exact ((((hS.pick 1).pick 2).all_snoc).swap)
 ·have hil:i=q.ops.length:=by omega
  subst hil
  rw [List.take_length] at hst
  rw [List.drop_length,List.append_nil] at hS
  have hones:ones (rqC q.f vd va vw vo):=rqC_ones h1 h2 h3 h4
  (try simp only [o_add,o_lss,hlt,decide_false,condF])
  refine r_loadN ag48 (xs:=rqC q.f vd va vw vo) rfl (hS.cells_at m3 0 (whole_at _)) ?_
  refine r_storeN (hS.pick 4) ag48 (xs:=rqC q.f vd va vw vo) rfl (show 0+11≤11 from Nat.le_refl _) hones fun w13 hS=>?_
  rw [setL_all _ _ (by rfl)] at hS
  refine r_resN ag48 (xs:=rqC q.f vd va vw vo) rfl (hS.cells_at m0 0 (whole_at _)) ?_
  refine ⟨.mk q.f vd va vw vo xs,rfl,(st_iff _ _).2 ⟨rfl,hst⟩,?_⟩
  rw [OwQ_eq]
  have b1:=hS.drop.sep_intro.swap.sep_intro
  rw [← hxl] at b1
  exact (b1.swap.drop)
theorem cloneT (t:Tx) (hw:WfQ t.q) (hx:Ent o R fun w=>RdQ w t.q) (h:St o w R):CallV π Z 49 #[.agg t.cells.toArray] w fun r w'=>∃t':Tx,r=.agg t'.cells.toArray∧t'.hd=t.hd∧t'.q.st=t.q.st∧St o w' (OwQ t'.q::R):=by
 refine f49.calls ?_
 unfold f49.sh
 refine r_box _ _ h fun g1 w1 hS=>?_
 refine r_alloc hS ze50 fun g2 w2 hS=>?_
 have hS:St o w2 (blk g2 50 zTx::blk g1 50 t.cells::R):=hS
 (try simp only [fa_50_2,Nat.zero_add])
 refine r_loadN ag48 (xs:=t.q.cells) rfl (hS.cells_at m1 5 (rq_at t)) ?_
 refine (cloneQ Z t.q hw (fun w hw=>hx w hw.drop.drop) hS).mono fun r w3 ⟨q',hr,hst,hS⟩=>?_
 subst hr
 have hqo:=(OwQ.rd _ hS).ones
 skip
 refine r_storeN (hS.pick 2) ag48 (xs:=q'.cells) rfl (show 5+11≤16 from Nat.le_refl _) hqo fun w4 hS=>?_
 have hS:St o w4 (blk g1 50 (Tx.cells ⟨t.e,t.n,t.sv,t.bo,t.nu,q'⟩)::OwQ q'::blk g2 50 zTx::R):=hS
 refine r_loadN ag50 (xs:=Tx.cells ⟨t.e,t.n,t.sv,t.bo,t.nu,q'⟩) rfl (hS.cells_at m0 0 (whole_at _)) ?_
 refine r_storeN (hS.pick 2) ag50 (xs:=Tx.cells ⟨t.e,t.n,t.sv,t.bo,t.nu,q'⟩) rfl (show 0+16≤16 from Nat.le_refl _) (txC_ones hqo) fun w5 hS=>?_
 rw [setL_all _ _ (by rfl)] at hS
 refine r_resN ag50 (xs:=Tx.cells ⟨t.e,t.n,t.sv,t.bo,t.nu,q'⟩) rfl (hS.cells_at m0 0 (whole_at _)) ?_
 exact ⟨⟨t.e,t.n,t.sv,t.bo,t.nu,q'⟩,rfl,rfl,hst,hS.drop.drop⟩
end

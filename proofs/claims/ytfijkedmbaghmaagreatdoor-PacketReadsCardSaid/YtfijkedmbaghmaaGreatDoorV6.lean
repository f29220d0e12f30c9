/- The lists that the document's read reads of a request. Printed by wip/sh/mkV4.py. -/
import Derived.Test.YtfijkedmbaghmaaGreatDoorV3
import Derived.Test.YtfijkedmbaghmaaGreatDoorT30
set_option linter.unusedVariables false
set_option linter.unusedSimpArgs false
namespace Go.Proofs.YtfijkedmbaghmaaGreatDoor
open Go.Sh
open Tryz renaming prog → π
section
variable (Z:PZ) {o w:World} {R:List HProp} {g g2:Nat} {all:List UInt8} {off:Nat} {inner:Bool} {kd:Int} {K:World→Prop}
theorem dgs2 (hb:bi inner (kf kd) 2=true) (hG:DgG inner kd g g2 all off o R 2 w) (hk:∀w',DgG inner kd g g2 all off o R (2+1) w'∨DgB inner g g2 all off o R w'→K w') :
  CallV π Z 259 #[.pointer (some ⟨g,0,none⟩),.int .i64 4] w fun t60 w=>
   ∃J:Nat→PQ,(∃m,J m (Value.int IntKind.i64 0) w)∧∀m,∀t9:Value,∀w:World,J m t9 w→Env →
    rN π Z (binOp BinOp.lss 3 t9 t60) w fun t63 w=>
    cV t63 (
     CallV π Z 165 #[.pointer (some ⟨g,0,none⟩)] w fun t67 w=>
     Drawn w fun w=>
     pU π (Instr.fieldAt 35 (.pointer (some ⟨g2,0,none⟩)) 3) fun t68=>
     rD π (Instr.loadAt 31 t68) w fun t69=>
     CallV π Z 260 #[.pointer (some ⟨g,0,none⟩)] w fun t72 w=>
      Still π (nx (Instr.loadAt 31 t68)) t69 w <|
     pU π (Instr.build 178 #[(0,t67),(1,t72)]) fun t73=>
     rN π Z (Instr.buildSlice 31 1 #[(0,t73)]) w fun t74 w=>
      Still π (nx (Instr.loadAt 31 t68)) t69 w <|
     rN π Z (Builtin.append_ #[31,31] 31 #[t69,t74]) w fun t75 w=>
     pU π (Instr.fieldAt 35 (.pointer (some ⟨g2,0,none⟩)) 3) fun t76=>
     rO π Z (Instr.storeAt 31 t76 t75) w fun w=>
     rN π Z (binOp BinOp.add 3 t9 (Value.int IntKind.i64 1)) w fun t65 w=>
     ∃n,n < m∧J n t65 w) (
     K w):=by
 obtain ⟨f,vd,va,vw,hfk,hcut,hok,hh,hu,hva,hvw,hS⟩:=hG
 obtain rfl:=hva (by omega)
 have hbf:bi inner f 2=true:=by rw [bi_kf hfk]; exact hb
 have hle:=RefR.le hS
 have hrd:=OwF.rd (hS.pick 2)
 have hro:∀v:Value,v.oneCell'=true→ones (rqC f vd v vw (.slice none 0 0)):=fun v hv1=>by first | exact rqC_ones (Rd.one hrd.data) hv1 (Rd.one hrd.who) rfl | exact rqC_ones (Rd.one hrd.data) (Rd.one hrd.acl) hv1 rfl | exact rqC_ones (Rd.one hrd.data) (Rd.one hrd.acl) (Rd.one hrd.who) hv1
 refine (dCount Z 4 hS).mono fun r w1 ⟨c,off',e',hv,hr,hS⟩=>?_
 subst hr
 have hfin:∀w',DLF enB okEn id enC (fun _=>emp) 3 178 4 g all (off+(pre inner f 2).length) o (fun v=>blk g2 35 (rqC f vd v vw (.slice none 0 0))::OwF f vd (.slice none 0 0) vw::R) w'→DgG inner kd g g2 all off o R (2+1) w'∨DgB inner g g2 all off o R w':=by
  rintro w' (⟨xs,v,hn,hxk,hh2,hu2,hS⟩ | ⟨hnx,off',e',v,k,rows,S,he',hS⟩)
  ·left
   have hbf':bi inner { f with acl:=xs } 2=true:=hbf
   obtain ⟨a1,a2,a3,a4⟩:=good_step (inner:=inner) (all:=all) (off:=off) (i:=2) (by omega) (f:=f) (f':={ f with acl:=xs }) (by rw [← hcut]; rfl) hok (by show (if bi inner f 2 then _ else _); rw [if_pos hbf]; exact ⟨hn,hxk⟩) hh (by show Has all _ (p2 inner { f with acl:=xs }); rw [p2,if_pos hbf']; exact hh2) hu (fun y hy hc hyp=>by
     obtain ⟨hyb,hyo⟩:=y_has (i:=2) (by omega) hbf hy hc
     replace hyp:Has all _ (p2 inner y.f):=hyp
     rw [p2,if_pos hyb] at hyp
     replace hyo:if bi inner y.f 2 then _ else _:=hyo
     rw [if_pos hyb] at hyo
     have hv:=hu2 _ hyo.1 hyo.2 hyp
     rw [List.map_id,List.map_id] at hv
     subst hv
     rw [← hc]; rfl)
   refine ⟨{ f with acl:=xs },vd,v,vw,hfk,by rw [← hcut]; rfl,a1,a2,a3,fun h=>absurd h (by omega),fun h=>hvw (by omega),?_⟩
   rw [a4]
   have e9:pc inner { f with acl:=xs } 2=_:=if_pos hbf'
   rw [e9]
   have h1:=OwF.acl ((hS.pick 4).pick 2)
   exact (h1.pick 2).drop.put 2
  ·right
   refine ⟨fun y hy hhy=>?_,off',e',_,he',?_,hro v (St.own_one hS.swap),((hS.pick 1).drop.pick 1).drop.pick 1 |> fun h=>h.swap |> fun h=>(h.pick 2).drop⟩
   ·obtain ⟨hyb,hyo⟩:=y_has (i:=2) (by omega) hbf hy (hu y hy hhy)
    have hyp:Has all _ (p2 inner y.f):=piece_at (i:=2) (by omega) (hu y hy hhy) hhy
    rw [p2,if_pos hyb] at hyp
    replace hyo:if bi inner y.f 2 then _ else _:=hyo
    rw [if_pos hyb] at hyo
    exact hnx _ hyo.1 hyo.2 hyp
   ·rfl
 rcases ct_gets (e:=enB) (ok:=okEn) enB_pos (by omega) hle hv with ⟨n,rfl,hn,_,rfl,rfl,hh4,hlen⟩ | ⟨rfl,he',hno⟩
 ·refine ⟨fun m y w'=>∃(k:Nat) (v:Value),y=.int .i64 k∧m+k=n∧DL enB okEn id enC (fun _=>emp) 3 178 n g all (off+(pre inner f 2).length+4) o (fun v=>blk g2 35 (rqC f vd v vw (.slice none 0 0))::OwF f vd (.slice none 0 0) vw::R) v k w',⟨n,0,.slice none 0 0,rfl,rfl,DL.start hS⟩,?_⟩
  clear hS
  rintro m _ w2 ⟨k,v,rfl,hk2,hD⟩ _
  (try simp only [o_add,fa_35_3p,Nat.zero_add,o_lss,cond_decide])
  refine ⟨fun hlt=>?_,fun hge=>?_⟩
  ·have hkn:k < n:=by omega
   obtain ⟨off1,e1,rows,S,hrows,hS,hnext⟩:=DL.read (fun x y h=>by rw [show x=y from h]) hkn hD
   refine (enRead Z hS).mono fun r w3 ⟨p,off2,e2,hr,hS,hen⟩=>?_
   subst hr
   refine ⟨fun w4 hd=>?_⟩
   have hS:=hS.drew hd
   refine rr_load one31 (hS.at m3 3 rfl) ?_
   refine (dgId Z hS).mono fun r w5 hq=>?_
   obtain ⟨ys,hr,hyl,hyo,hq2⟩:=hen r w5 hq
   clear hq
   subst hr
   obtain ⟨ya,yb,rfl⟩:∃a b,ys=[a,b]:=by
    match ys,hyl with
    | [a,b],_=>exact ⟨a,b,rfl⟩
   obtain ⟨cs,off3,e3,S2,hcs,hcl,hco,hS,hnew⟩:=hnext _ w5 hq2
   refine rs_load one31 (hS.at m3 3 rfl) ?_
   refine rp_build (cells:=#[.int .i8 p,ya,yb]) (by kernel_rfl) ?_
   have hcs:Value.agg #[.int .i8 p,ya,yb]=.agg cs.toArray:=hcs
   rw [hcs]
   refine r_pushS el31 (hS.pick 1) cs hcl hco (by omega) (by omega) (by simp only [maxLen]; omega) (fun w' A hS hA=>rs_load one31 (hS.at m3 3 rfl) hA) fun v' w6 hS=>?_
   skip
   have hv1:=St.own_one hS
   refine r_store (hS.pick 3) one31 (by simp [rqC]) hv1 fun w7 hS=>?_
   rw [wr_i64 (x:=(k:Int)+1) (by omega) (by omega)]
   refine ⟨m - 1,by omega,k+1,v',rfl,by omega,hnew v' w7 ?_⟩
   exact ((hS.pick 1).pick 2).pick 3 |>.put 3 |>.pick 0 |> fun h=>(((hS.pick 1).put 1).pick 0) |> fun _=>((hS.put 3).pick 0).swap

  ·obtain rfl:k=n:=by omega
   exact hk _ (hfin _ (DL.fin (by omega) hh4 (fun ys hy hh=>hlen ys hy hh) hD))
 ·refine ⟨fun m y w'=>y=.int .i64 0∧w'=w1,⟨0,rfl,rfl⟩,?_⟩
  rintro m _ w2 ⟨rfl,rfl⟩ _
  have z0:¬ ((0:Int) < -1):=by decide
  (try simp only [o_add,fa_35_3p,Nat.zero_add,o_lss,z0,decide_false,condF])
  refine hk _ (hfin _ (.inr ⟨fun ys h1 h2 h3=>hno ys (by omega) h2 ⟨rfl,h3⟩,off',e',.slice none 0 0,0,[],emp,he',?_⟩))
  exact (hS.emp.own_nil 178 3).pick 2
theorem dgs7 (hb:bi inner (kf kd) 7=true) (hG:DgG inner kd g g2 all off o R 7 w) (hk:∀w',DgG inner kd g g2 all off o R (7+1) w'∨DgB inner g g2 all off o R w'→K w') :
  CallV π Z 259 #[.pointer (some ⟨g,0,none⟩),.int .i64 4] w fun t60 w=>
   ∃J:Nat→PQ,(∃m,J m (Value.int IntKind.i64 0) w)∧∀m,∀t9:Value,∀w:World,J m t9 w→Env →
    rN π Z (binOp BinOp.lss 3 t9 t60) w fun t63 w=>
    cV t63 (
     Drawn w fun w=>
     pU π (Instr.fieldAt 35 (.pointer (some ⟨g2,0,none⟩)) 9) fun t68=>
     rD π (Instr.loadAt 32 t68) w fun t69=>
     CallV π Z 260 #[.pointer (some ⟨g,0,none⟩)] w fun t72 w=>
      Still π (nx (Instr.loadAt 32 t68)) t69 w <|
     rN π Z (Instr.buildSlice 32 1 #[(0,t72)]) w fun t74 w=>
      Still π (nx (Instr.loadAt 32 t68)) t69 w <|
     rN π Z (Builtin.append_ #[32,32] 32 #[t69,t74]) w fun t75 w=>
     pU π (Instr.fieldAt 35 (.pointer (some ⟨g2,0,none⟩)) 9) fun t76=>
     rO π Z (Instr.storeAt 32 t76 t75) w fun w=>
     rN π Z (binOp BinOp.add 3 t9 (Value.int IntKind.i64 1)) w fun t65 w=>
     ∃n,n < m∧J n t65 w) (
     K w):=by
 obtain ⟨f,vd,va,vw,hfk,hcut,hok,hh,hu,hva,hvw,hS⟩:=hG
 obtain rfl:=hvw (by omega)
 have hbf:bi inner f 7=true:=by rw [bi_kf hfk]; exact hb
 have hle:=RefR.le hS
 have hrd:=OwF.rd (hS.pick 2)
 have hro:∀v:Value,v.oneCell'=true→ones (rqC f vd va v (.slice none 0 0)):=fun v hv1=>by first | exact rqC_ones (Rd.one hrd.data) hv1 (Rd.one hrd.who) rfl | exact rqC_ones (Rd.one hrd.data) (Rd.one hrd.acl) hv1 rfl | exact rqC_ones (Rd.one hrd.data) (Rd.one hrd.acl) (Rd.one hrd.who) hv1
 refine (dCount Z 4 hS).mono fun r w1 ⟨c,off',e',hv,hr,hS⟩=>?_
 subst hr
 have hfin:∀w',DLF idB okId id idC (fun _=>emp) 2 175 4 g all (off+(pre inner f 7).length) o (fun v=>blk g2 35 (rqC f vd va v (.slice none 0 0))::OwF f vd va (.slice none 0 0)::R) w'→DgG inner kd g g2 all off o R (7+1) w'∨DgB inner g g2 all off o R w':=by
  rintro w' (⟨xs,v,hn,hxk,hh2,hu2,hS⟩ | ⟨hnx,off',e',v,k,rows,S,he',hS⟩)
  ·left
   have hbf':bi inner { f with who:=xs } 7=true:=hbf
   obtain ⟨a1,a2,a3,a4⟩:=good_step (inner:=inner) (all:=all) (off:=off) (i:=7) (by omega) (f:=f) (f':={ f with who:=xs }) (by rw [← hcut]; rfl) hok (by show (if bi inner f 7 then _ else _); rw [if_pos hbf]; exact ⟨hn,hxk⟩) hh (by show Has all _ (p7 inner { f with who:=xs }); rw [p7,if_pos hbf']; exact hh2) hu (fun y hy hc hyp=>by
     obtain ⟨hyb,hyo⟩:=y_has (i:=7) (by omega) hbf hy hc
     replace hyp:Has all _ (p7 inner y.f):=hyp
     rw [p7,if_pos hyb] at hyp
     replace hyo:if bi inner y.f 7 then _ else _:=hyo
     rw [if_pos hyb] at hyo
     have hv:=hu2 _ hyo.1 hyo.2 hyp
     rw [List.map_id,List.map_id] at hv
     subst hv
     rw [← hc]; rfl)
   refine ⟨{ f with who:=xs },vd,va,v,hfk,by rw [← hcut]; rfl,a1,a2,a3,fun h=>absurd h (by omega),fun h=>absurd h (by omega),?_⟩
   rw [a4]
   have e9:pc inner { f with who:=xs } 7=_:=if_pos hbf'
   rw [e9]
   have h1:=OwF.who ((hS.pick 4).pick 2)
   exact (h1.pick 2).drop.put 2
  ·right
   refine ⟨fun y hy hhy=>?_,off',e',_,he',?_,hro v (St.own_one hS.swap),((hS.pick 1).drop.pick 1).drop.pick 1 |> fun h=>h.swap |> fun h=>(h.pick 2).drop⟩
   ·obtain ⟨hyb,hyo⟩:=y_has (i:=7) (by omega) hbf hy (hu y hy hhy)
    have hyp:Has all _ (p7 inner y.f):=piece_at (i:=7) (by omega) (hu y hy hhy) hhy
    rw [p7,if_pos hyb] at hyp
    replace hyo:if bi inner y.f 7 then _ else _:=hyo
    rw [if_pos hyb] at hyo
    exact hnx _ hyo.1 hyo.2 hyp
   ·rfl
 rcases ct_gets (e:=idB) (ok:=okId) idB_pos (by omega) hle hv with ⟨n,rfl,hn,_,rfl,rfl,hh4,hlen⟩ | ⟨rfl,he',hno⟩
 ·refine ⟨fun m y w'=>∃(k:Nat) (v:Value),y=.int .i64 k∧m+k=n∧DL idB okId id idC (fun _=>emp) 2 175 n g all (off+(pre inner f 7).length+4) o (fun v=>blk g2 35 (rqC f vd va v (.slice none 0 0))::OwF f vd va (.slice none 0 0)::R) v k w',⟨n,0,.slice none 0 0,rfl,rfl,DL.start hS⟩,?_⟩
  clear hS
  rintro m _ w2 ⟨k,v,rfl,hk2,hD⟩ _
  (try simp only [o_add,fa_35_9p,Nat.zero_add,o_lss,cond_decide])
  refine ⟨fun hlt=>?_,fun hge=>?_⟩
  ·have hkn:k < n:=by omega
   obtain ⟨off1,e1,rows,S,hrows,hS,hnext⟩:=DL.read (fun x y h=>by rw [show x=y from h]) hkn hD
   refine ⟨fun w4 hd=>?_⟩
   have hS:=hS.drew hd
   refine rr_load one32 (hS.at m3 9 rfl) ?_
   refine (dgId Z hS).mono fun r w5 hq=>?_
   obtain ⟨cs,off3,e3,S2,hcs,hcl,hco,hS,hnew⟩:=hnext r w5 hq
   subst hcs
   refine rs_load one32 (hS.at m3 9 rfl) ?_
   refine r_pushS el32 (hS.pick 1) cs hcl hco (by omega) (by omega) (by simp only [maxLen]; omega) (fun w' A hS hA=>rs_load one32 (hS.at m3 9 rfl) hA) fun v' w6 hS=>?_
   skip
   have hv1:=St.own_one hS
   refine r_store (hS.pick 3) one32 (by simp [rqC]) hv1 fun w7 hS=>?_
   rw [wr_i64 (x:=(k:Int)+1) (by omega) (by omega)]
   refine ⟨m - 1,by omega,k+1,v',rfl,by omega,hnew v' w7 ?_⟩
   exact ((hS.pick 1).pick 2).pick 3 |>.put 3 |>.pick 0 |> fun h=>(((hS.pick 1).put 1).pick 0) |> fun _=>((hS.put 3).pick 0).swap

  ·obtain rfl:k=n:=by omega
   exact hk _ (hfin _ (DL.fin (by omega) hh4 (fun ys hy hh=>hlen ys hy hh) hD))
 ·refine ⟨fun m y w'=>y=.int .i64 0∧w'=w1,⟨0,rfl,rfl⟩,?_⟩
  rintro m _ w2 ⟨rfl,rfl⟩ _
  have z0:¬ ((0:Int) < -1):=by decide
  (try simp only [o_add,fa_35_9p,Nat.zero_add,o_lss,z0,decide_false,condF])
  refine hk _ (hfin _ (.inr ⟨fun ys h1 h2 h3=>hno ys (by omega) h2 ⟨rfl,h3⟩,off',e',.slice none 0 0,0,[],emp,he',?_⟩))
  exact (hS.emp.own_nil 175 2).pick 2
theorem dgs8 (hrec:∀(w:World) (R':List HProp) (off':Nat) (err':Int),St o w (RefR g all off' err'::R')→CallV π Z 235 #[.pointer (some ⟨g,0,none⟩),.bool true] w fun r w'=>DGE (reqI true) (okR true) keyQ Rq.cells OwQ 11 g all off' err' o R' r w') (hb:bi inner (kf kd) 8=true) (hG:DgG inner kd g g2 all off o R 8 w) (hk:∀w',DqG inner kd g g2 all off o R w'∨DgB inner g g2 all off o R w'→K w') :
  CallV π Z 259 #[.pointer (some ⟨g,0,none⟩),.int .i64 8] w fun t60 w=>
   ∃J:Nat→PQ,(∃m,J m (Value.int IntKind.i64 0) w)∧∀m,∀t9:Value,∀w:World,J m t9 w→Env →
    rN π Z (binOp BinOp.lss 3 t9 t60) w fun t63 w=>
    cV t63 (
     Drawn w fun w=>
     pU π (Instr.fieldAt 35 (.pointer (some ⟨g2,0,none⟩)) 10) fun t68=>
     rD π (Instr.loadAt 33 t68) w fun t69=>
     CallV π Z 235 #[.pointer (some ⟨g,0,none⟩),.bool true] w fun t72 w=>
      Still π (nx (Instr.loadAt 33 t68)) t69 w <|
     rN π Z (Instr.buildSlice 33 1 #[(0,t72)]) w fun t74 w=>
      Still π (nx (Instr.loadAt 33 t68)) t69 w <|
     rN π Z (Builtin.append_ #[33,33] 33 #[t69,t74]) w fun t75 w=>
     pU π (Instr.fieldAt 35 (.pointer (some ⟨g2,0,none⟩)) 10) fun t76=>
     rO π Z (Instr.storeAt 33 t76 t75) w fun w=>
     rN π Z (binOp BinOp.add 3 t9 (Value.int IntKind.i64 1)) w fun t65 w=>
     ∃n,n < m∧J n t65 w) (
     K w):=by
 obtain ⟨f,vd,va,vw,hfk,hcut,hok,hh,hu,hva,hvw,hS⟩:=hG
 have hyo:∀y,okR inner y→Has all off (reqI inner y)→y.ops.length≤8∧(∀x ∈ y.ops,okR true x)∧Has all (off+(pre inner f 8).length) (lsB y.ops.length (y.ops.map (reqI true))):=by
  intro y hy hhy
  have hf8:bi inner f 8=true:=by rw [bi_kf hfk]; exact hb
  have hyf:y.f=f:=hu y hy hhy
  have h2:=hy.2
  rw [hyf,hf8] at h2
  have h2:y.ops.length≤8∧∀x ∈ y.ops,okTo true x.f 8∧x.ops=[]:=by simpa using h2
  have h3:∀x ∈ y.ops,okR true x:=fun x hx=>okR_of (h2.2 x hx)
  refine ⟨h2.1,h3,?_⟩
  have h4:Has all off (flB inner y.f++if bi inner y.f 8 then opsB y else []):=hhy
  rw [hyf,hf8,if_pos rfl,opsB_req h3] at h4
  exact h4.right
 have hbf:bi inner f 8=true:=by rw [bi_kf hfk]; exact hb
 have hle:=RefR.le hS
 have hrd:=OwF.rd (hS.pick 2)
 have hro:∀v:Value,v.oneCell'=true→ones (rqC f vd va vw v):=fun v hv1=>by first | exact rqC_ones (Rd.one hrd.data) hv1 (Rd.one hrd.who) rfl | exact rqC_ones (Rd.one hrd.data) (Rd.one hrd.acl) hv1 rfl | exact rqC_ones (Rd.one hrd.data) (Rd.one hrd.acl) (Rd.one hrd.who) hv1
 refine (dCount Z 8 hS).mono fun r w1 ⟨c,off',e',hv,hr,hS⟩=>?_
 subst hr
 have hfin:∀w',DLF (reqI true) (okR true) keyQ Rq.cells OwQ 11 35 8 g all (off+(pre inner f 8).length) o (fun v=>blk g2 35 (rqC f vd va vw v)::OwF f vd va vw::R) w'→DqG inner kd g g2 all off o R w'∨DgB inner g g2 all off o R w':=by
  rintro w' (⟨xs,v,hn,hxk,hh2,hu2,hS⟩ | ⟨hnx,off',e',v,k,rows,S,he',hS⟩)
  ·left
   refine ⟨.mk f vd va vw v xs,?_,?_,?_,?_⟩
   ·refine ⟨hok,?_⟩
    show (if bi inner f 8 then xs.length≤8∧∀x ∈ xs,okTo true x.f 8∧x.ops=[] else xs=[])
    rw [if_pos hbf]
    exact ⟨hn,fun x hx=>⟨(hxk x hx).1,(okTo_ops (hxk x hx)).1⟩⟩
   ·show Has all off (flB inner f++if bi inner f 8 then opsB (.mk f vd va vw v xs) else [])
    rw [if_pos hbf,opsB_req (q:=.mk f vd va vw v xs) hxk,flB_pre]
    exact Has.split.2 ⟨hh,hh2⟩
   ·intro y hy hhy
    obtain ⟨h1,h2,h3⟩:=hyo y hy hhy
    have h4:=hu2 _ h1 h2 h3
    have hyf:y.f=f:=hu y hy hhy
    have h5:y.ops.map Rq.f=xs.map Rq.f:=by
     have:=congrArg (List.map Prod.fst) h4
     rw [List.map_map,List.map_map] at this
     exact this
    unfold keyQ
    rw [hyf,h5]
    rfl
   ·have e9:(reqI inner (.mk f vd va vw v xs)).length=(pre inner f 8).length+(lsB xs.length (xs.map (reqI true))).length:=by
     show (flB inner f++if bi inner f 8 then opsB (.mk f vd va vw v xs) else []).length=_
     rw [if_pos hbf,opsB_req (q:=.mk f vd va vw v xs) hxk,flB_pre,List.length_append]
     rfl
    rw [e9,OwQ_eq,← Nat.add_assoc]
    -- RefR own satH blk OwF
    have h1:=((hS.pick 1).pick 2).pick 1
    have h2:=(((hS.pick 2).pick 2).sep_intro)
    have h3:=(h2.pick 3).sep_intro
    exact h3.put 2
  ·right
   refine ⟨fun y hy hhy=>?_,off',e',_,he',?_,hro v (St.own_one hS.swap),((hS.pick 1).drop.pick 1).drop.pick 1 |> fun h=>h.swap |> fun h=>(h.pick 2).drop⟩
   ·obtain ⟨h1,h2,h3⟩:=hyo y hy hhy
    exact hnx _ h1 h2 h3
   ·rfl
 rcases ct_gets (e:=(reqI true)) (ok:=(okR true)) (reqI_pos true) (by omega) hle hv with ⟨n,rfl,hn,_,rfl,rfl,hh4,hlen⟩ | ⟨rfl,he',hno⟩
 ·refine ⟨fun m y w'=>∃(k:Nat) (v:Value),y=.int .i64 k∧m+k=n∧DL (reqI true) (okR true) keyQ Rq.cells OwQ 11 35 n g all (off+(pre inner f 8).length+4) o (fun v=>blk g2 35 (rqC f vd va vw v)::OwF f vd va vw::R) v k w',⟨n,0,.slice none 0 0,rfl,rfl,DL.start hS⟩,?_⟩
  clear hS
  rintro m _ w2 ⟨k,v,rfl,hk2,hD⟩ _
  (try simp only [o_add,fa_35_10p,Nat.zero_add,o_lss,cond_decide])
  refine ⟨fun hlt=>?_,fun hge=>?_⟩
  ·have hkn:k < n:=by omega
   obtain ⟨off1,e1,rows,S,hrows,hS,hnext⟩:=DL.read (fun x y h=>keyQ_bytes x y h) hkn hD
   refine ⟨fun w4 hd=>?_⟩
   have hS:=hS.drew hd
   refine rr_load one33 (hS.at m3 10 rfl) ?_
   refine (hrec _ _ _ _ hS).mono fun r w5 hq=>?_
   obtain ⟨cs,off3,e3,S2,hcs,hcl,hco,hS,hnew⟩:=hnext r w5 hq
   subst hcs
   refine rs_load one33 (hS.at m3 10 rfl) ?_
   refine r_pushS el33 (hS.pick 1) cs hcl hco (by omega) (by omega) (by simp only [maxLen]; omega) (fun w' A hS hA=>rs_load one33 (hS.at m3 10 rfl) hA) fun v' w6 hS=>?_
   skip
   have hv1:=St.own_one hS
   refine r_store (hS.pick 3) one33 (by simp [rqC]) hv1 fun w7 hS=>?_
   rw [wr_i64 (x:=(k:Int)+1) (by omega) (by omega)]
   refine ⟨m - 1,by omega,k+1,v',rfl,by omega,hnew v' w7 ?_⟩
   exact ((hS.pick 1).pick 2).pick 3 |>.put 3 |>.pick 0 |> fun h=>(((hS.pick 1).put 1).pick 0) |> fun _=>((hS.put 3).pick 0).swap

  ·obtain rfl:k=n:=by omega
   exact hk _ (hfin _ (DL.fin (by omega) hh4 (fun ys hy hh=>hlen ys hy hh) hD))
 ·refine ⟨fun m y w'=>y=.int .i64 0∧w'=w1,⟨0,rfl,rfl⟩,?_⟩
  rintro m _ w2 ⟨rfl,rfl⟩ _
  have z0:¬ ((0:Int) < -1):=by decide
  (try simp only [o_add,fa_35_10p,Nat.zero_add,o_lss,z0,decide_false,condF])
  refine hk _ (hfin _ (.inr ⟨fun ys h1 h2 h3=>hno ys (by omega) h2 ⟨rfl,h3⟩,off',e',.slice none 0 0,0,[],emp,he',?_⟩))
  exact (hS.emp.own_nil 35 11).pick 2
end
end Go.Proofs.YtfijkedmbaghmaaGreatDoor

/- The document's read: a request. -/
set_option linter.unusedVariables false
set_option linter.unusedSimpArgs false
namespace Go.Proofs.YtfijkedmbaghmaaGreatDoor
open Go.Sh
open Tryz renaming prog → π
def fno (c:UInt8):Nat:=if c=112 then 0 else if c=100 then 1 else if c=97 then 2 else if c=118 then 3 else if c=102 then 4 else if c=115 then 5 else if c=116 then 6 else if c=119 then 7 else 8
def nxf (k i:Nat):Nat:=if i < (lets k).length then fno ((lets k).getD i 0) else 8
def tabP (inner:Bool) (k i:Nat):Bool:=
 let c:=(lets k).getD i 0
 [112,100,97,118,102,115,116,119,111].elem c && decide (fno c≤8) && decide (nxf k 0≤8) && (List.range 8).all (fun j=>decide (nxf k 0≤j) || !(nmF inner k).testBit j) && ((nmF inner k).testBit (fno c) == !(inner && (fno c == 5 || fno c == 7))) &&
 (if fno c=8 then decide (¬ i+1 < (lets k).length) else decide (fno c+1≤nxf k (i+1)) && decide (nxf k (i+1)≤8) && (List.range 8).all (fun j=>decide (j≤fno c) || decide (nxf k (i+1)≤j) || !(nmF inner k).testBit j) && (decide (i+1 < (lets k).length) || !(nmF inner k).testBit 8))
theorem tab_all:∀inner:Bool,∀k < 13,1≤k→(inner=true→k≤5)→∀i < 7,i < (lets k).length→tabP inner k i=true:=by decide +kernel
theorem lets_len:∀k < 13,1≤k→0 < (lets k).length∧(lets k).length≤6:=by decide +kernel
section
variable {o w:World} {R:List HProp} {g g2:Nat} {all:List UInt8} {off:Nat} {err:Int} {inner:Bool} {kd:Int} {i:Nat}
def DgX (inner:Bool) (g g2:Nat) (all:List UInt8) (off:Nat) (err:Int) (o:World) (R:List HProp) (w:World):Prop:=
 (∀y,okR inner y→¬ (err=0∧Has all off (reqI inner y)))∧∃off' e' xs,e' ≠ 0∧xs.length=11∧ones xs∧St o w (RefR g all off' e'::blk g2 35 xs::R)
def LIs (inner:Bool) (kd:Int) (g g2:Nat) (all:List UInt8) (off:Nat) (o:World) (R:List HProp) (i:Nat) (w:World):Prop:=
 if h:i < (letsI kd).length then DgG inner kd g g2 all off o R (fno (letsI kd)[i]) w else DqG inner kd g g2 all off o R w
structure LTab (inner:Bool) (kd:Int) (i:Nat) (c:UInt8):Prop where
 mem:c ∈ ([112,100,97,118,102,115,116,119,111]:List UInt8)
 bit:bi inner (kf kd) (fno c)=!(inner && (fno c == 5 || fno c == 7))
theorem okK_iff:okK inner kd=true ↔ 1≤kd∧kd≤12∧(inner=true→kd≤5):=by
 unfold okK
 simp only [Bool.and_eq_true,decide_eq_true_eq,Bool.not_eq_true',Bool.and_eq_false_iff,decide_eq_false_iff_not]
 constructor
 ·rintro ⟨⟨h1,h2⟩,h3⟩
  refine ⟨h1,h2,fun hi=>?_⟩
  rcases h3 with h3 | h3
  ·rw [hi] at h3; cases h3
  ·omega
 ·rintro ⟨h1,h2,h3⟩
  refine ⟨⟨h1,h2⟩,?_⟩
  cases inner with
  | false=>left; rfl
  | true=>right; have:=h3 rfl; omega
theorem tabK (hk:okK inner kd=true):∃k:Nat,kd=k∧1≤k∧k < 13∧(inner=true→k≤5)∧letsI kd=lets k∧∀j,bi inner (kf kd) j=(nmF inner k).testBit j:=by
 obtain ⟨h1,h2,h3⟩:=okK_iff.1 hk
 refine ⟨kd.toNat,by omega,by omega,by omega,fun h=>by have:=h3 h; omega,by unfold letsI; rw [if_pos ⟨h1,h2⟩],fun j=>rfl⟩
theorem tab_at (hk:okK inner kd=true) (hi:i < (letsI kd).length):LTab inner kd i (letsI kd)[i]:=by
 obtain ⟨k,rfl,h1,h2,h3,hl,hb⟩:=tabK hk
 have hL:=lets_len k h2 h1
 have hi':i < (lets k).length:=by rw [← hl]; exact hi
 have ht:=tab_all inner k h2 h1 h3 i (by omega) hi'
 have hc:(lets k).getD i 0=(letsI (k:Int))[i]:=by simp [hl,hi']
 unfold tabP at ht
 simp only [hc,Bool.and_eq_true,beq_iff_eq] at ht
 exact ⟨by simpa using ht.1.1.1.1.1,by rw [hb]; exact ht.1.2⟩
theorem LIs.zero (hk:okK inner kd=true) (h:DgG inner kd g g2 all off o R 0 w):LIs inner kd g g2 all off o R 0 w:=by
 obtain ⟨k,rfl,h1,h2,h3,hl,hb⟩:=tabK hk
 have hL:=lets_len k h2 h1
 have ht:=tab_all inner k h2 h1 h3 0 (by omega) hL.1
 have hi:0 < (letsI (k:Int)).length:=by rw [hl]; exact hL.1
 have hc:(lets k).getD 0 0=(letsI (k:Int))[0]:=by simp [hl,hL.1]
 unfold tabP at ht
 simp only [hc,Bool.and_eq_true,decide_eq_true_eq,List.all_eq_true,List.mem_range,Bool.or_eq_true,Bool.not_eq_true'] at ht
 unfold LIs
 rw [dif_pos hi]
 have hn:nxf k 0=fno (letsI (k:Int))[0]:=by unfold nxf; rw [if_pos hL.1,hc]
 rw [hn] at ht
 have:=h.skips (fno (letsI (k:Int))[0]) (by omega) (fun j _ hj=>by
  rw [hb]
  rcases ht.1.1.2 j (by omega) with h | h
  ·omega
  ·exact h)
 rwa [Nat.zero_add] at this
theorem LIs.adv (hk:okK inner kd=true) (hi:i < (letsI kd).length) (h8:fno (letsI kd)[i] ≠ 8) (h:DgG inner kd g g2 all off o R (fno (letsI kd)[i]+1) w):LIs inner kd g g2 all off o R (i+1) w:=by
 obtain ⟨k,rfl,h1,h2,h3,hl,hb⟩:=tabK hk
 have hL:=lets_len k h2 h1
 have hi':i < (lets k).length:=by rw [← hl]; exact hi
 have ht:=tab_all inner k h2 h1 h3 i (by omega) hi'
 have hc:(lets k).getD i 0=(letsI (k:Int))[i]:=by simp [hl,hi']
 unfold tabP at ht
 simp only [hc,if_neg h8,Bool.and_eq_true,decide_eq_true_eq,List.all_eq_true,List.mem_range,Bool.or_eq_true,Bool.not_eq_true'] at ht
 obtain ⟨_,⟨⟨t1,t2⟩,t3⟩,t4⟩:=ht
 have hs:=h.skips (nxf k (i+1) - (fno (letsI (k:Int))[i]+1)) (by omega) (fun j hj1 hj2=>by
  rw [hb]
  rcases t3 j (by omega) with (h | h) | h
  ·omega
  ·omega
  ·exact h)
 rw [show fno (letsI (k:Int))[i]+1+(nxf k (i+1) - (fno (letsI (k:Int))[i]+1))=nxf k (i+1) by omega] at hs
 unfold LIs
 by_cases hn:i+1 < (letsI (k:Int)).length
 ·rw [dif_pos hn]
  have hn':i+1 < (lets k).length:=by rw [← hl]; exact hn
  have hc2:(lets k).getD (i+1) 0=(letsI (k:Int))[i+1]:=by simp [hl,hn']
  have e:nxf k (i+1)=fno (letsI (k:Int))[i+1]:=by unfold nxf; rw [if_pos hn',hc2]
  rwa [e] at hs
 ·rw [dif_neg hn]
  have hn':¬ i+1 < (lets k).length:=by rw [← hl]; exact hn
  have e:nxf k (i+1)=8:=by unfold nxf; rw [if_neg hn']
  rw [e] at hs
  refine hs.noOps ?_
  rw [hb]
  rcases t4 with h | h
  ·exact absurd h hn'
  ·exact h
theorem LIs.adv8 (hk:okK inner kd=true) (hi:i < (letsI kd).length) (h8:fno (letsI kd)[i]=8) (h:DqG inner kd g g2 all off o R w):LIs inner kd g g2 all off o R (i+1) w:=by
 obtain ⟨k,rfl,h1,h2,h3,hl,hb⟩:=tabK hk
 have hL:=lets_len k h2 h1
 have hi':i < (lets k).length:=by rw [← hl]; exact hi
 have ht:=tab_all inner k h2 h1 h3 i (by omega) hi'
 have hc:(lets k).getD i 0=(letsI (k:Int))[i]:=by simp [hl,hi']
 unfold tabP at ht
 simp only [hc,if_pos h8,Bool.and_eq_true,decide_eq_true_eq] at ht
 unfold LIs
 rw [dif_neg (by rw [hl]; exact ht.2)]
 exact h
end
end Go.Proofs.YtfijkedmbaghmaaGreatDoor

/- The document's read: the walk. -/
set_option linter.unusedVariables false
set_option linter.unusedSimpArgs false
namespace Go.Proofs.YtfijkedmbaghmaaGreatDoor
open Go.Sh
open Tryz renaming prog → π
section
variable (Z:PZ) {o w:World} {R:List HProp} {g:Nat} {all:List UInt8} {off:Nat} {err:Int}
theorem letsI_empty (kd:Int):decide (letsI kd=[])=!(decide (1≤kd∧kd≤12)):=by
 unfold letsI
 by_cases h:1≤kd∧kd≤12
 ·rw [if_pos h,decide_eq_true h]
  have:=lets_len kd.toNat (by omega) (by omega)
  cases hl:lets kd.toNat with
  | nil=>rw [hl] at this; simp at this
  | cons x l=>simp
 ·rw [if_neg h,decide_eq_false h]; rfl
set_option maxRecDepth 100000 in
theorem readD (inner:Bool)
  (hrec:inner=false→∀(w:World) (R':List HProp) (off':Nat) (err':Int),St o w (RefR g all off' err'::R')→CallV π Z 235 #[.pointer (some ⟨g,0,none⟩),.bool true] w fun r w'=>DGE (reqI true) (okR true) keyQ Rq.cells OwQ 11 g all off' err' o R' r w')
  (h:St o w (RefR g all off err::R)) :
  CallV π Z 235 #[.pointer (some ⟨g,0,none⟩),.bool inner] w fun r w'=>DGE (reqI inner) (okR inner) keyQ Rq.cells OwQ 11 g all off err o R r w':=by
 refine f235.calls ?_
 unfold f235.sh
 refine r_alloc h ze35 fun g4 w1 hS=>?_
 refine r_alloc hS ze35 fun g5 w2 hS=>?_
 have hS:St o w2 (blk g5 35 (rqC zf (.slice none 0 0) (.slice none 0 0) (.slice none 0 0) (.slice none 0 0))::blk g4 35 (rqC zf (.slice none 0 0) (.slice none 0 0) (.slice none 0 0) (.slice none 0 0))::RefR g all off err::R):=hS
 refine (dgInt8 Z (hS.pick 2)).mono fun r w3 hq=>?_
 have hc:∃(kd:Int) (off':Nat) (e':Int),r=.int .i8 kd∧(e'=0→err=0∧off'=off+1∧Has all off (enc 1 kd)∧∀y:Int,-128≤y∧y≤127→Has all off (enc 1 y)→y=kd)∧(e' ≠ 0→kd=0∧∀y:Int,-128≤y∧y≤127→¬ (err=0∧Has all off (enc 1 y))) ∧
   St o w3 (RefR g all off' e'::blk g5 35 (rqC zf (.slice none 0 0) (.slice none 0 0) (.slice none 0 0) (.slice none 0 0))::blk g4 35 (rqC zf (.slice none 0 0) (.slice none 0 0) (.slice none 0 0) (.slice none 0 0))::R):=by
  rcases hq with ⟨x,hx,he,hh,hu,hr,hS⟩ | ⟨hr,hno,off',e',he',hS⟩
  ·exact ⟨x,_,0,hr,fun _=>⟨he,by rw [enc_length],hh,hu⟩,fun h=>absurd rfl h,hS⟩
  ·exact ⟨0,off',e',hr,fun h=>absurd h he',fun _=>⟨rfl,hno⟩,hS⟩
 obtain ⟨kd,off1,e1,rfl,hgood,hbad,hS⟩:=hc
 clear hq h
 generalize hR:(blk g4 35 (rqC zf (.slice none 0 0) (.slice none 0 0) (.slice none 0 0) (.slice none 0 0))::R)=RR at hS
 have hkey:∀y,okR inner y→Has all off (reqI inner y)→(1≤y.f.kd∧y.f.kd≤12∧(inner=true→y.f.kd≤5))∧Has all off (enc 1 y.f.kd):=fun y hy hh=>by
  refine ⟨okTo_kd hy.1,?_⟩
  have h1:=hh.left
  rw [flB_pre] at h1
  obtain ⟨rest,hr⟩:=pre_add inner y.f 0 8
  rw [show 0+8=8 from rfl] at hr
  rw [hr] at h1
  exact h1.left
 (try simp only [fa_35_1,Nat.zero_add,fa_35_2,fa_35_3p,fa_35_4,fa_35_6,fa_35_5,fa_35_7,o_not,cond_not,fa_35_8,fa_35_9p,fa_35_10p,fa_35_0,Nat.add_zero])
 refine r_store hS.swap one22 (by simp [rqC]) rfl fun w4 hS=>?_
 have hS:St o w4 (blk g5 35 (rqC (kf kd) (.slice none 0 0) (.slice none 0 0) (.slice none 0 0) (.slice none 0 0))::RefR g all off1 e1::RR):=hS
 skip
 refine r_load one22 (hS.at m0 0 rfl) ?_
 refine (lettersC Z kd).mono fun r w5 ⟨hr,hw⟩=>?_
 subst hr; subst hw
 intro j hj
 have HJ:∀w',(DgX inner g g5 all off err o RR w'∨(err=0∧okK inner kd=true∧DgG inner kd g g5 all off o RR 0 w'))→j w':=by
  intro w' hst
  refine hj w' fun _=>?_
  clear hj
  have hst:DgX inner g g5 all off err o RR w'∨(err=0∧okK inner kd=true∧LIs inner kd g g5 all off o RR 0 w'):=by
   rcases hst with h | ⟨h1,h2,h3⟩
   ·exact .inl h
   ·exact .inr ⟨h1,h2,LIs.zero h2 h3⟩
  have hll:(letsI kd).length≤1000:=by
   unfold letsI
   by_cases hk:1≤kd∧kd≤12
   ·rw [if_pos hk]
    have:=lets_len kd.toNat (by omega) (by omega)
    omega
   ·rw [if_neg hk]; simp
  -- the end
  have fin:∀w2:World,(DgX inner g g5 all off err o RR w2∨(err=0∧DqG inner kd g g5 all off o RR w2)) →
    rN π Z (Instr.loadAt 35 (.pointer (some ⟨g5,0,none⟩))) w2 fun t9 w=>rO π Z (Instr.storeAt 35 (.pointer (some ⟨g4,0,none⟩)) t9) w fun w=>
     ∃r,(do loadVar 35 (← asAddr (.pointer (some ⟨g4,0,none⟩))):Sem Value).run π w=.ok r w∧DGE (reqI inner) (okR inner) keyQ Rq.cells OwQ 11 g all off err o R r w:=by
   subst hR
   intro w2 hst
   have go:∀(xs:List Value) (As:List HProp),xs.length=11→ones xs→St o w2 (blk g5 35 xs::blk g4 35 (rqC zf (.slice none 0 0) (.slice none 0 0) (.slice none 0 0) (.slice none 0 0))::As)→(∀w2,St o w2 As→DGE (reqI inner) (okR inner) keyQ Rq.cells OwQ 11 g all off err o R (.agg xs.toArray) w2) →
     rN π Z (Instr.loadAt 35 (.pointer (some ⟨g5,0,none⟩))) w2 fun t9 w=>rO π Z (Instr.storeAt 35 (.pointer (some ⟨g4,0,none⟩)) t9) w fun w=>
      ∃r,(do loadVar 35 (← asAddr (.pointer (some ⟨g4,0,none⟩))):Sem Value).run π w=.ok r w∧DGE (reqI inner) (okR inner) keyQ Rq.cells OwQ 11 g all off err o R r w:=by
    intro xs As hl hon hS hQ
    refine r_loadN ag35 (xs:=xs) hl (hS.cells_at m0 0 (whole_at _)) ?_
    refine r_storeN hS.swap ag35 (xs:=xs) hl (show 0+11≤11 from Nat.le_refl _) hon fun w2 hS=>?_
    rw [setL_all _ _ (by rw [hl]; rfl)] at hS
    exact r_resN ag35 (xs:=xs) hl (hS.cells_at m0 0 (whole_at _)) (hQ _ hS.drop.drop)
   rcases hst with ⟨hno,off',e',xs,he',hxl,hxo,hS⟩ | ⟨he,q,hok,hh,hu,hS⟩
   ·exact go xs _ hxl hxo ((hS.pick 2).pick 2) fun w2 hS=>.inr ⟨⟨xs,rfl,hxl,hxo⟩,hno,off',e',he',hS⟩
   ·have hqo:=(OwQ.rd q (hS.pick 2)).ones
    exact go q.cells _ rfl hqo ((hS.pick 3).pick 2) fun w2 hS=>.inl ⟨q,hok,he,hh,hu,rfl,rfl,hqo,hS⟩
  refine ⟨fun m y w'=>∃i:Nat,y=.int .i64 i∧m+i=(letsI kd).length∧(DgX inner g g5 all off err o RR w'∨(err=0∧okK inner kd=true∧LIs inner kd g g5 all off o RR i w')),⟨(letsI kd).length,0,rfl,rfl,hst⟩,?_⟩
  clear hst
  rintro m _ w6 ⟨i,rfl,hi,hst⟩ _
  by_cases hlt:(i:Int) < ((letsI kd).length:Int)
  case neg=>
   obtain rfl:i=(letsI kd).length:=by omega
   (try simp only [o_add,ln_9_3,str_size,o_lss,hlt,decide_false,o_pickF,condF,guardW_ft])
   refine fin _ ?_
   rcases hst with h | ⟨h1,h2,h3⟩
   ·exact .inl h
   ·unfold LIs at h3
    rw [dif_neg (by omega)] at h3
    exact .inr ⟨h1,h3⟩
  have hil:i < (letsI kd).length:=by omega
  (try simp only [o_add,ln_9_3,str_size,o_lss,hlt,decide_true,o_pickT,guardW_true,o_chk,fa_235_2,Nat.zero_add])
  rcases hst with hX | ⟨he,hkk,hL⟩
  ·obtain ⟨hno,off',e',xs,he',hxl,hxo,hS⟩:=id hX
   obtain ⟨v,⟨o1,o2⟩,hO⟩:=RefR.open hS
   refine r_load one43 (hO.at m0 2 rfl) ?_
   have hb:(e' == 0)=false:=by simpa using he'
   (try simp only [o_eql,hb,condF])
   exact fin _ (.inl hX)
  have hG:=hL
  unfold LIs at hG
  rw [dif_pos hil] at hG
  obtain ⟨_,_,_,_,_,_,_,_,_,_,_,hS⟩:=id hG
  obtain ⟨v,⟨o1,o2⟩,hO⟩:=RefR.open hS
  refine r_load one43 (hO.at m0 2 rfl) ?_
  clear hS hO hL
  (try simp only [o_eql,beq_self_eq_true,condT])
  intro j2 hj2
  have HX:∀w',DgB inner g g5 all off o RR w'→j2 w':=fun w' hB=>by
   refine hj2 w' fun _=>?_
   skip
   rw [wr_i64 (x:=(i:Int)+1) (by omega) (by omega)]
   exact ⟨m - 1,by omega,i+1,rfl,by omega,.inl ⟨fun y hy ⟨_,hh⟩=>hB.1 y hy hh,hB.2⟩⟩
  have HL:∀w',LIs inner kd g g5 all off o RR (i+1) w'→j2 w':=fun w' hL=>by
   refine hj2 w' fun _=>?_
   skip
   rw [wr_i64 (x:=(i:Int)+1) (by omega) (by omega)]
   exact ⟨m - 1,by omega,i+1,rfl,by omega,.inr ⟨he,hkk,hL⟩⟩
  clear hj2
  have hadv:=fun w'=>LIs.adv (w:=w') (o:=o) (R:=RR) (g:=g) (g2:=g5) (all:=all) (off:=off) hkk hil
  have hadv8:=fun w'=>LIs.adv8 (w:=w') (o:=o) (R:=RR) (g:=g) (g2:=g5) (all:=all) (off:=off) hkk hil
  obtain ⟨hmem,hbit⟩:=tab_at hkk hil
  refine r1 (run_indexStr st9 .i64 _ i hil _) ?_
  generalize (letsI kd)[i]=c at hmem hbit hadv hadv8 hG ⊢
  have ec:∀n:Nat,n < 256→((c.toNat:Int) == (n:Int))=true→c=UInt8.ofNat n:=fun n hn h=>by
   have:=eq_of_beq h
   apply UInt8.toNat_inj.1
   rw [UInt8.toNat_ofNat']
   omega
  have nc:∀n:Nat,n < 256→((c.toNat:Int) == (n:Int))=false→c ≠ UInt8.ofNat n:=fun n hn h e=>by
   rw [e,UInt8.toNat_ofNat',show (n % 2 ^ 8:Nat)=n by omega] at h
   simp at h
  have HK:∀F,fno c=F→F ≠ 8→∀w',DgG inner kd g g5 all off o RR (F+1) w'∨DgB inner g g5 all off o RR w'→j2 w':=fun F hF h8 w' hw=>by
   subst hF
   rcases hw with hw | hw
   ·exact HL _ (hadv w' h8 hw)
   ·exact HX _ hw
  refine r1 (run_eql_int _ _ _ _ _ _ _ _) (cond_or (fun h=>?_) fun h=>?_)
  ·obtain rfl:=ec 112 (by omega) h
   have hs:=dgs0 Z (by simpa [fno] using hbit) hG (HK 0 rfl (by omega))
   (try simp only [fa_35_1,Nat.zero_add] at hs)
   exact hs
  have n1:c ≠ 112:=nc 112 (by omega) h
  clear h
  refine r1 (run_eql_int _ _ _ _ _ _ _ _) (cond_or (fun h=>?_) fun h=>?_)
  ·obtain rfl:=ec 100 (by omega) h
   have hs:=dgs1 Z (by simpa [fno] using hbit) hG (HK 1 rfl (by omega))
   (try simp only [fa_35_2,Nat.zero_add] at hs)
   exact hs
  have n2:c ≠ 100:=nc 100 (by omega) h
  clear h
  refine r1 (run_eql_int _ _ _ _ _ _ _ _) (cond_or (fun h=>?_) fun h=>?_)
  ·obtain rfl:=ec 97 (by omega) h
   have hs:=dgs2 Z (by simpa [fno] using hbit) hG (HK 2 rfl (by omega))
   (try simp only [fa_35_3p,Nat.zero_add] at hs)
   exact hs
  have n3:c ≠ 97:=nc 97 (by omega) h
  clear h
  refine r1 (run_eql_int _ _ _ _ _ _ _ _) (cond_or (fun h=>?_) fun h=>?_)
  ·obtain rfl:=ec 118 (by omega) h
   have hs:=dgs3 Z (by simpa [fno] using hbit) hG (HK 3 rfl (by omega))
   (try simp only [fa_35_4,Nat.zero_add] at hs)
   exact hs
  have n4:c ≠ 118:=nc 118 (by omega) h
  clear h
  refine r1 (run_eql_int _ _ _ _ _ _ _ _) (cond_or (fun h=>?_) fun h=>?_)
  ·obtain rfl:=ec 102 (by omega) h
   have hs:=dgs4 Z (by simpa [fno] using hbit) hG (HK 4 rfl (by omega))
   (try simp only [fa_35_6,Nat.zero_add,fa_35_5] at hs)
   exact hs
  have n5:c ≠ 102:=nc 102 (by omega) h
  clear h
  refine r1 (run_eql_int _ _ _ _ _ _ _ _) (cond_or (fun h=>?_) fun h=>?_)
  ·obtain rfl:=ec 115 (by omega) h
   cases inner with
   | true=>
    (try simp only [condT])
    exact HK 5 rfl (by omega) _ (.inl (hG.skip (i:=5) (by omega) (by simpa [fno] using hbit)))
   | false=>
    have hs:=dgs5 Z (by simpa [fno] using hbit) hG (HK 5 rfl (by omega))
    (try simp only [fa_35_7,Nat.zero_add] at hs)
    (try simp only [condF])
    exact hs
  have n6:c ≠ 115:=nc 115 (by omega) h
  clear h
  refine r1 (run_eql_int _ _ _ _ _ _ _ _) (cond_or (fun h=>?_) fun h=>?_)
  ·obtain rfl:=ec 116 (by omega) h
   have hs:=dgs6 Z (by simpa [fno] using hbit) hG (HK 6 rfl (by omega))
   (try simp only [fa_35_8,Nat.zero_add] at hs)
   exact hs
  have n7:c ≠ 116:=nc 116 (by omega) h
  clear h
  refine r1 (run_eql_int _ _ _ _ _ _ _ _) (cond_or (fun h=>?_) fun h=>?_)
  ·obtain rfl:=ec 119 (by omega) h
   cases inner with
   | true=>
    (try simp only [condT])
    exact HK 7 rfl (by omega) _ (.inl (hG.skip (i:=7) (by omega) (by simpa [fno] using hbit)))
   | false=>
    have hs:=dgs7 Z (by simpa [fno] using hbit) hG (HK 7 rfl (by omega))
    (try simp only [fa_35_9p,Nat.zero_add] at hs)
    (try simp only [condF])
    exact hs
  have n8:c ≠ 119:=nc 119 (by omega) h
  clear h
  refine r1 (run_eql_int _ _ _ _ _ _ _ _) (cond_or (fun h=>?_) fun h=>?_)
  ·obtain rfl:=ec 111 (by omega) h
   cases inner with
   | true=>
    exfalso
    have h9:=okK_iff.1 hkk
    have hb9:bi true (kf kd) 8=true:=by simpa [fno] using hbit
    rw [bi8 (kf kd) ⟨by show 0≤kd; omega,h9.2.2 rfl⟩] at hb9
    cases hb9
   | false=>
    have hs:=dgs8 Z (hrec rfl) (by simpa [fno] using hbit) hG (K:=j2) (fun w' hw=>by
     rcases hw with hw | hw
     ·exact HL _ (hadv8 w' rfl hw)
     ·exact HX _ hw)
    (try simp only [fa_35_10p,Nat.zero_add] at hs)
    exact hs
  have n9:c ≠ 111:=nc 111 (by omega) h
  exfalso
  simp only [List.mem_cons,List.not_mem_nil,or_false] at hmem
  rcases hmem with h | h | h | h | h | h | h | h | h <;> contradiction
 clear hj
 have hX:okK inner kd=false→∀w',St o w' (RefR g all off1 (if e1=0 then 40 else e1)::blk g5 35 (rqC (kf kd) (.slice none 0 0) (.slice none 0 0) (.slice none 0 0) (.slice none 0 0))::RR)→j w':=fun hno w' hS=>by
  refine HJ w' (.inl ⟨fun y hy ⟨h0,hh⟩=>?_,_,_,_,?_,rfl,rqC_ones rfl rfl rfl rfl,hS⟩)
  ·obtain ⟨hky,hhk⟩:=hkey y hy hh
   by_cases he:e1=0
   ·obtain ⟨_,_,_,hu⟩:=hgood he
    have:=hu y.f.kd (by omega) hhk
    rw [← this,okK_iff.2 hky] at hno
    cases hno
   ·exact (hbad he).2 y.f.kd (by omega) ⟨h0,hhk⟩
  ·by_cases he:e1=0
   ·rw [if_pos he]; omega
   ·rw [if_neg he]; exact he
 have hY:okK inner kd=true→j w5:=fun hyes=>by
  have hkk:=okK_iff.1 hyes
  have he1:e1=0:=by
   by_cases he:e1=0
   ·exact he
   ·have:=(hbad he).1; omega
  obtain ⟨herr,hoff1,hhk,huk⟩:=hgood he1
  subst he1; subst herr; subst hoff1
  refine HJ w5 (.inr ⟨rfl,hyes,kf kd,.slice none 0 0,.slice none 0 0,.slice none 0 0,rfl,rfl,hkk,hhk,fun y hy hh=>?_,fun _=>rfl,fun _=>rfl,?_⟩)
  ·obtain ⟨hky,hk1⟩:=hkey y hy hh
   have:=huk y.f.kd (by omega) hk1
   show kf y.f.kd=kf kd
   rw [this]
  ·have e9:(pre inner (kf kd) 0).length=1:=by show (enc 1 kd).length=1; rw [enc_length]
   rw [e9]
   exact (OwF.plain kd hS.swap).put 2
 refine r1 (run_eql_strS _ _ _ (letsI kd) [] _) ?_
 rw [letsI_empty]
 by_cases hk:1≤kd∧kd≤12
 ·rw [decide_eq_true hk]
  cases inner with
  | false=>
   (try simp only [Bool.not_true,o_pickF,guardW_ff,condF,guardW_ft])
   exact hY (okK_iff.2 ⟨hk.1,hk.2,fun h=>by cases h⟩)
  | true=>
   (try simp only [Bool.not_true,o_pickF,guardW_ff,o_pickT,guardW_true])
   refine r_load one22 (hS.at m0 0 rfl) ?_
   (try simp only [o_gtr,cond_decide])
   refine ⟨fun hgt=>?_,fun hgt=>?_⟩
   ·refine (dFail Z 40 hS.swap).mono fun r w6 hS=>hX ?_ _ hS
    cases hz:okK true kd with
    | false=>rfl
    | true=>have hgt:5 < kd:=hgt; have:=(okK_iff.1 hz).2.2 rfl; omega
   ·have hgt:¬ 5 < kd:=hgt
    exact hY (okK_iff.2 ⟨hk.1,hk.2,fun _=>by omega⟩)
 ·rw [decide_eq_false hk]
  (try simp only [Bool.not_false,o_pickT,condT,guardW_tf,guardW_u])
  refine (dFail Z 40 hS.swap).mono fun r w6 hS=>hX ?_ _ hS
  cases hz:okK inner kd with
  | false=>rfl
  | true=>have:=okK_iff.1 hz; exact absurd ⟨this.1,this.2.1⟩ hk
theorem readD1 (h:St o w (RefR g all off err::R)):CallV π Z 235 #[.pointer (some ⟨g,0,none⟩),.bool true] w fun r w'=>DGE (reqI true) (okR true) keyQ Rq.cells OwQ 11 g all off err o R r w':=
 readD Z true (fun h=>by cases h) h
theorem readD0 (h:St o w (RefR g all off err::R)):CallV π Z 235 #[.pointer (some ⟨g,0,none⟩),.bool false] w fun r w'=>DGE (reqI false) (okR false) keyQ Rq.cells OwQ 11 g all off err o R r w':=
 readD Z false (fun _ w R' off' err' h=>readD1 Z h) h
end

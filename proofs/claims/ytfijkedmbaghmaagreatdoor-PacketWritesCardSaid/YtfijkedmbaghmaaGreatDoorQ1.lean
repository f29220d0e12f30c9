/- Lists that share no memory: what is written into each is found in it, grown by one and by many. Printed by wip/sh/mkap.py. -/
import Derived.Test.YtfijkedmbaghmaaGreatDoorShTwin
import Derived.Test.YtfijkedmbaghmaaGreatDoorW1
import Derived.Test.YtfijkedmbaghmaaGreatDoorP1
set_option linter.unusedVariables false
set_option linter.unusedSimpArgs false
namespace Go.Proofs.YtfijkedmbaghmaaGreatDoor
open Go.Sh
open Tryz renaming prog → π
def mkBytes (d:Nat) (i:Nat):List Value:=[.int .u8 (IntKind.u8.wrap (((i:Int).tdiv d).tmod 100))]
def mkBytes' (d:Nat) (i:Nat):List Value:=[.int .u8 (IntKind.u8.wrap (100+((i:Int).tdiv d).tmod 100))]
theorem mkBytes_ones (d i:Nat):ones (mkBytes d i)∧ones (mkBytes' d i):=⟨by intro u hu; simp [mkBytes] at hu; subst hu; rfl,by intro u hu; simp [mkBytes'] at hu; subst hu; rfl⟩
theorem mkBytes_len (d:Nat) (i:Nat):((mkBytes d) i).length=1:=rfl
theorem mkBytes_len' (d:Nat) (i:Nat):((mkBytes' d) i).length=1:=rfl
section
variable (Z:PZ) {o w:World} {R As:List HProp}
set_option maxRecDepth 100000 in
theorem grownBytes {d:Nat} (hd0:1≤d) (hd1:d≤10000) (cnt:Nat) (hcnt:cnt≤64) {es:List (Value × Nat)} {vl:Value} (hl:es.length≤600) (hT:Tab o) (ho:old o ∈ R) (hx:Ent o R fun w=>Rd w 1 vl es.length (es.map Prod.fst)) (h:St o w (rowsM 5 1 1 (mkBytes d) 0 es::R)) :
  CallV π Z 141 #[vl,.int .i64 d,.int .i64 cnt] w fun r w'=>r=.bool true∧St o w' (rowsM 5 1 1 (mkBytes d) 0 es::R):=by
 obtain ⟨al,cl,rfl⟩:=(hx w h.drop).form
 refine f141.calls ?_
 unfold f141.sh
 refine ⟨fun m x y w'=>∃(i:Nat) (ds:List ((Value × Nat) × Value)),y=.int .i64 i∧m+i=es.length∧ds.map Prod.fst=es.take i∧St o w' (own 30 1 x i (ds.map Prod.snd)::pairsM 5 1 1 (mkBytes d) (mkBytes' d) cnt ds::rowsM 5 1 1 (mkBytes d) i (es.drop i)::R),⟨es.length,0,[],rfl,rfl,rfl,(h.emp.mono fun _ _=>trivial).own_nil _ _⟩,?_⟩
 clear h
 rintro m vm _ w1 ⟨i,ds,rfl,hi,hds,hS⟩ _
 by_cases hlt:(i:Int) < (es.length:Int)
 ·have hil:i < es.length:=by omega
  have hdl:ds.length=i:=by have:=congrArg List.length hds; simp only [List.length_map,List.length_take] at this; omega
  (try simp only [o_add,ln_50_3,o_lss,hlt,decide_true,condT])
  obtain ⟨b0,q0,hp0,hc0⟩:=(hx w1 hS.drop.drop.drop).adr el50 .i64 i hil
  refine r1 (hp0 _) (r_load one30 (v:=es[i].1) (by have:=hc0 w1 (hx w1 hS.drop.drop.drop) 0 es[i].1 (by rw [at_one]; simp [hil]); simpa using this) ?_)
  obtain ⟨hb,hS⟩:=grow_step (hS.put 2) hil
  have hS:=hS.twin_start
  refine ⟨fun m2 x y w'=>∃k:Nat,y=.int .i64 k∧m2+k=cnt∧St o w' (twin 5 1 es[i].1 es[i].2 x k (rep es[i].2 ((mkBytes d) i)) (rep k ((mkBytes' d) i))::pairsM 5 1 1 (mkBytes d) (mkBytes' d) cnt ds::rowsM 5 1 1 (mkBytes d) (i+1) (es.drop (i+1))::own 30 1 vm i (ds.map Prod.snd)::R),⟨cnt,0,rfl,rfl,hS⟩,?_⟩
  clear hS
  rintro m2 vk _ w2 ⟨k,rfl,hk,hS⟩ _
  by_cases hlt2:(k:Int) < (cnt:Int)
  ·(try simp only [o_add,o_lss,hlt2,decide_true,condT])
   refine r1 (run_quo _ _ _ _ _ _ (by omega)) ?_
   rw [wr_i64 (x:=(i:Int).tdiv d) (tdv_lo _ _) (tdv_hi hl hil hd0)]
   refine r1 (run_rem _ _ _ _ _ _ (by decide)) ?_
   (try simp only [o_add,cv_3_5])
   rw [wr_i64 (x:=100+((i:Int).tdiv d).tmod 100) (tmh_lo _) (tmh_hi _)]
   refine r_slice el30 hS 1 _ ((mkBytes' d) i) rfl (by omega) (by omega) (mkBytes_ones d i).2 rfl fun g w4 hS=>?_
   have hsrc:=(hS.own_rd m0).src Tryz.underlying30 (mkBytes_ones d i).2
   refine r_twin el30 hS.swap hsrc (by omega) (by simp only [maxLen]; omega) fun v' w5 hS=>?_
   have hS:=hS.swap.drop
   rw [← rep_succ] at hS
   skip
   rw [wr_i64 (x:=(k:Int)+1) (by omega) (by omega)]
   exact ⟨m2 - 1,by omega,k+1,rfl,by omega,hS⟩
  ·have hkc:k=cnt:=by omega
   subst hkc
   (try simp only [o_add,o_lss,hlt2,decide_false,condF])
   have hvk:=hS.twin_one
   refine r_push el50 (hS.pick 3) vk hvk (by omega) (by simp only [maxLen]; omega) fun v' w3 hS=>?_
   skip
   rw [wr_i64 (x:=(i:Int)+1) (by omega) (by omega)]
   have hS:=grow_done hil hdl hb (hS.put 2)
   refine ⟨m - 1,by omega,i+1,ds++[(es[i],vk)],rfl,by omega,by rw [List.map_append,hds,List.take_succ_eq_append_getElem hil]; rfl,?_⟩
   rw [List.map_append]
   exact hS.swap
 ·have hil:i=es.length:=by omega
  subst hil
  rw [List.take_length] at hds
  (try simp only [o_add,ln_50_3,o_lss,hlt,decide_false,condF])
  refine ⟨fun m y w'=>∃j:Nat,y=.int .i64 j∧m+j=es.length∧St o w' (own 30 1 vm es.length (ds.map Prod.snd)::pairsM 5 1 1 (mkBytes d) (mkBytes' d) cnt ds::R),⟨es.length,0,rfl,rfl,(hS.pick 2).drop⟩,?_⟩
  clear hS hi hlt
  rintro m _ w2 ⟨j,rfl,hj,hS⟩ _
  by_cases hlt2:(j:Int) < (es.length:Int)
  ·have hjl:j < es.length:=by omega
   (try simp only [o_add,o_lss,hlt2,decide_true,condT])
   obtain ⟨b0,q0,hp0,hc0⟩:=(hx w2 hS.drop.drop).adr el50 .i64 j hjl
   obtain ⟨hd,hb,hr1,hr2⟩:=pairs_rd hds m1 hS hjl
   have hmr:=hS.own_rd m0
   obtain ⟨bm,qm,hpm,hcm⟩:=hmr.adr el50 .i64 j hjl
   have P1:∀w',St o w' (own 30 1 vm es.length (ds.map Prod.snd)::pairsM 5 1 1 (mkBytes d) (mkBytes' d) cnt ds::R)→w'.cell? ⟨b0,q0,none⟩=some es[j].1:=fun w' hS=>by have:=hc0 w' (hx w' hS.drop.drop) 0 es[j].1 (by rw [at_one]; simp [hjl]); simpa using this
   have P2:∀w',St o w' (own 30 1 vm es.length (ds.map Prod.snd)::pairsM 5 1 1 (mkBytes d) (mkBytes' d) cnt ds::R)→w'.cell? ⟨bm,qm,none⟩=some ds[j].2:=fun w' hS=>by have:=hcm w' (hS.own_rd m0) 0 ds[j].2 (by rw [at_one]; simp [hd]); simpa using this
   refine r1 (hp0 _) (r_load one30 (P1 _ hS) ?_)
   refine r1 (hr1.len sl30 _ rfl _ _) ?_
   refine ⟨fun m3 y w'=>∃k:Nat,y=.int .i64 k∧m3+k=es[j].2+cnt∧St o w' (own 30 1 vm es.length (ds.map Prod.snd)::pairsM 5 1 1 (mkBytes d) (mkBytes' d) cnt ds::R),⟨es[j].2+cnt,0,rfl,rfl,hS⟩,?_⟩
   clear hS
   rintro m3 _ w3 ⟨k,rfl,hk,hS⟩ _
   refine r1 (run_add _ _ _ _ _ _) ?_
   rw [wr_i64 (x:=(es[j].2:Int)+(cnt:Int)) (by omega) (by omega)]
   by_cases hlt3:(k:Int) < (es[j].2:Int)+(cnt:Int)
   ·(try simp only [o_add,o_lssp,o_lss,hlt3,decide_true,condT])
    have hk3:k < es[j].2+cnt:=by omega
    obtain ⟨b2,q2,hp2,hc2⟩:=hr2.adr el30 .i64 k hk3
    refine ⟨fun w4 hdr=>?_⟩
    have hS:=hS.drew hdr
    by_cases hkn:(k:Int) < (es[j].2:Int)
    ·have hkl:k < es[j].2:=by omega
     have hge:¬ (es[j].2:Int)≤(k:Int):=by omega
     obtain ⟨b1,q1,hp1,hc1⟩:=hr1.adr el30 .i64 k hkl
     have P3:∀w',St o w' (own 30 1 vm es.length (ds.map Prod.snd)::pairsM 5 1 1 (mkBytes d) (mkBytes' d) cnt ds::R)→w'.cell? ⟨b1,q1+0,none⟩=((mkBytes d) j)[0]? := fun w' hS=>hc1 w' (pairs_rd hds m1 hS hjl).2.2.1 0 _ (by have:=rep_at (n:=es[j].2) (c:=(mkBytes d) j) (rest:=[]) hkl; rw [List.append_nil] at this; rw [show ((mkBytes d) j).length=1 from rfl] at this; rw [this]; rfl)
     have P4:∀w',St o w' (own 30 1 vm es.length (ds.map Prod.snd)::pairsM 5 1 1 (mkBytes d) (mkBytes' d) cnt ds::R)→w'.cell? ⟨b2,q2+0,none⟩=((mkBytes d) j)[0]? := fun w' hS=>hc2 w' (pairs_rd hds m1 hS hjl).2.2.2 0 _ (by have:=rep_at (n:=es[j].2) (c:=(mkBytes d) j) (rest:=rep cnt ((mkBytes' d) j)) hkl; rw [show ((mkBytes d) j).length=1 from rfl] at this; rw [this]; rfl)
     (try simp only [hkn,decide_true,o_pickTp,guardV_true])
     refine rp hp0 ?_
     refine rr_load one30 (P1 _ hS) ?_
     refine rp hp1 ?_
     refine rr_load one5 (P3 _ hS) ?_
     refine rp (fun w=>run_quo _ w _ _ _ _ (by omega)) ?_
     rw [wr_i64 (x:=(j:Int).tdiv d) (tdv_lo _ _) (tdv_hi hl hjl hd0)]
     refine rp (fun w=>run_rem _ w _ _ _ _ (by decide)) ?_
     (try simp only [cv_3_5p,o_neqp,bne_self_eq_false,o_pickFp,guardV_ff])
     (try refine rp (fun w=>run_neq_int _ w _ _ _ _ _ _) ?_)
     (first | rw [bne_self] | refine ⟨fun hh=>absurd rfl hh,fun _=>?_⟩ | skip)
     skip
     refine rp hpm ?_
     refine rr_load one30 (P2 _ hS) ?_
     refine rp hp2 ?_
     refine rr_load one5 (P4 _ hS) ?_
     refine rp (fun w=>run_quo _ w _ _ _ _ (by omega)) ?_
     rw [wr_i64 (x:=(j:Int).tdiv d) (tdv_lo _ _) (tdv_hi hl hjl hd0)]
     refine rp (fun w=>run_rem _ w _ _ _ _ (by decide)) ?_
     (try simp only [cv_3_5p,o_neqp,bne_self_eq_false,o_pickFp,guardV_ff,o_geqp])
     (try refine rp (fun w=>run_neq_int _ w _ _ _ _ _ _) ?_)
     (first | rw [bne_self] | refine ⟨fun hh=>absurd rfl hh,fun _=>?_⟩ | skip)
     skip
     (try simp only [hge,decide_false,o_pickFp,condF,guardV_ft])
     rw [wr_i64 (x:=(k:Int)+1) (by omega) (by omega)]
     exact ⟨m3 - 1,by omega,k+1,rfl,by omega,hS⟩
    ·have hge:(es[j].2:Int)≤(k:Int):=by omega
     have P5:∀w',St o w' (own 30 1 vm es.length (ds.map Prod.snd)::pairsM 5 1 1 (mkBytes d) (mkBytes' d) cnt ds::R)→w'.cell? ⟨b2,q2+0,none⟩=((mkBytes' d) j)[0]? := fun w' hS=>hc2 w' (pairs_rd hds m1 hS hjl).2.2.2 0 _ (by have:=rep_at2 (n:=es[j].2) (m:=cnt) (c:=(mkBytes d) j) (d:=(mkBytes' d) j) (i:=k) (by rw [mkBytes_len',mkBytes_len]) (by omega) hk3; rw [show ((mkBytes d) j).length=1 from rfl] at this; rw [this]; rfl)
     (try simp only [hkn,decide_false,o_pickFp,guardV_ff,o_geqp,hge,decide_true,o_pickTp,guardV_true,guardV_ft,guardV_u])
     refine rp hpm ?_
     refine rr_load one30 (P2 _ hS) ?_
     refine rp hp2 ?_
     refine rr_load one5 (P5 _ hS) ?_
     refine rp (fun w=>run_quo _ w _ _ _ _ (by omega)) ?_
     rw [wr_i64 (x:=(j:Int).tdiv d) (tdv_lo _ _) (tdv_hi hl hjl hd0)]
     refine rp (fun w=>run_rem _ w _ _ _ _ (by decide)) ?_
     (try simp only [o_addp,cv_3_5p,o_neqp,cond_bne])
     rw [wr_i64 (x:=100+((j:Int).tdiv d).tmod 100) (tmh_lo _) (tmh_hi _)]
     (try refine rp (fun w=>run_neq_int _ w _ _ _ _ _ _) ?_)
     (first | rw [bne_self] | refine ⟨fun hh=>absurd rfl hh,fun _=>?_⟩ | skip)
     skip
     rw [wr_i64 (x:=(k:Int)+1) (by omega) (by omega)]
     exact ⟨m3 - 1,by omega,k+1,rfl,by omega,hS⟩
   ·(try simp only [o_add,o_lssp,o_lss,hlt3,decide_false,condF])
    rw [wr_i64 (x:=(j:Int)+1) (by omega) (by omega)]
    exact ⟨m - 1,by omega,j+1,rfl,by omega,hS⟩
  ·(try simp only [o_add,o_lss,hlt2,decide_false,condF])
   exact ⟨by first | rfl | trivial,pairs_end hds hS.drop⟩
set_option maxRecDepth 100000 in
theorem apartBytes {es:List (Value × Nat)} {vl:Value} (hl:es.length≤600) (hT:Tab o) (ho:old o ∈ R) (hx:Ent o R fun w=>Rd w 1 vl es.length (es.map Prod.fst)) (h:St o w (rowsX 5 1 1 es::R)) :
  CallV π Z 48 #[vl] w fun r w'=>r=.bool true∧St o w' (rowsX 5 1 1 es::R):=by
 obtain ⟨al,cl,rfl⟩:=(hx w h.drop).form
 refine f48.calls ?_
 unfold f48.sh
 refine ⟨fun m y w'=>∃d:Nat,y=.int .i64 d∧(d=1∧m=2∨d=100∧m=1∨d=10000∧m=0)∧St o w' (rowsX 5 1 1 es::R),⟨2,1,rfl,by omega,h⟩,?_⟩
 clear h
 rintro mm _ w0 ⟨d,rfl,hd,hS⟩ _
 have hd0:1≤d:=by omega
 have hd1:d≤10000:=by omega
 by_cases hin:d=1∨d≤es.length
 case neg=>
  have hb:((d:Int) == 1)=false:=by simp; omega
  have h2:¬ (d:Int)≤(es.length:Int):=by omega
  (try simp only [o_mul,ln_50_3,o_eql,hb,o_pickF,guardW_ff,o_leq,h2,decide_false,condF])
  exact ⟨by first | rfl | trivial,hS⟩
 apply via
 ·intro post
  by_cases h1:d=1
  ·have hb:((d:Int) == 1)=true:=by simp [h1]
   (try simp only [o_mul,ln_50_3,o_eql,hb,o_pickT,condT,guardW_tf])
   exact post
  ·have hb:((d:Int) == 1)=false:=by simp; omega
   have h2:(d:Int)≤(es.length:Int):=by omega
   (try simp only [o_mul,ln_50_3,o_eql,hb,o_pickF,guardW_ff,o_leq,h2,decide_true,condT])
   exact post
 have hd2:d=1∨d=100:=by omega
 have h:=hS
 clear hS
 refine ⟨fun m y w'=>∃i:Nat,y=.int .i64 i∧m+i=es.length∧St o w' (rowsM 5 1 1 (mkBytes d) 0 (es.take i)::rowsX 5 1 1 (es.drop i)::R),⟨es.length,0,rfl,rfl,h.emp.mono fun _ _=>trivial⟩,?_⟩
 clear h
 rintro m _ w1 ⟨i,rfl,hi,hS⟩ _
 by_cases hlt:(i:Int) < (es.length:Int)
 ·have hil:i < es.length:=by omega
  (try simp only [o_add,o_lss,hlt,decide_true,condT])
  obtain ⟨b0,q0,hp0,hc0⟩:=(hx w1 hS.drop.drop).adr el50 .i64 i hil
  have P0:∀w',St o w' R→w'.cell? ⟨b0,q0,none⟩=some es[i].1:=fun w' hS=>by have:=hc0 w' (hx w' hS) 0 es[i].1 (by rw [at_one]; simp [hil]); simpa using this
  obtain ⟨xs,hb,hxl,hS⟩:=mark_step hS hil
  refine ⟨fun m2 y w'=>∃k:Nat,y=.int .i64 k∧m2+k=es[i].2∧St o w' (own 5 1 es[i].1 es[i].2 (rep k ((mkBytes d) i)++xs.drop (k * 1))::rowsM 5 1 1 (mkBytes d) 0 (es.take i)::rowsX 5 1 1 (es.drop (i+1))::R),⟨es[i].2,0,rfl,rfl,by simpa [rep] using hS⟩,?_⟩
  clear hS
  rintro m2 _ w2 ⟨k,rfl,hk,hS⟩ _
  refine r1 (hp0 _) (r_load one30 (P0 _ hS.drop.drop.drop) ?_)
  refine r1 ((hS.own_rd m0).len sl30 _ rfl _ _) ?_
  by_cases hlt2:(k:Int) < (es[i].2:Int)
  ·have hkn:k < es[i].2:=by omega
   (try simp only [o_add,o_lss,hlt2,decide_true,condT])
   refine ⟨fun w3 hdr=>?_⟩
   have hS:=hS.drew hdr
   obtain ⟨b,q,hp,hc⟩:=(hS.own_rd m0).adr el30 .i64 k hkn
   refine rp hp0 ?_
   refine rr_load one30 (P0 _ hS.drop.drop.drop) ?_
   refine rp (fun w=>run_quo _ w _ _ _ _ (by omega)) ?_
   rw [wr_i64 (x:=(i:Int).tdiv d) (tdv_lo _ _) (tdv_hi hl hil hd0)]
   refine rp (fun w=>run_rem _ w _ _ _ _ (by decide)) ?_
   (try simp only [cv_3_5p])
   refine rp hp ?_
   refine r_store_ix hS el30 one5 .i64 k hkn (hp _) rfl fun w5 hS=>?_
   have e2:=mark_set (c:=(mkBytes d) i) (sz:=1) (k:=k) rfl hxl hkn
   have hS:St o w5 (own 5 1 es[i].1 es[i].2 (setL (rep k ((mkBytes d) i)++xs.drop (k * 1)) (k * 1) ((mkBytes d) i))::rowsM 5 1 1 (mkBytes d) 0 (es.take i)::rowsX 5 1 1 (es.drop (i+1))::R):=by rw [Nat.mul_one] at hS ⊢; exact hS
   rw [e2] at hS
   skip
   rw [wr_i64 (x:=(k:Int)+1) (by omega) (by omega)]
   exact ⟨m2 - 1,by omega,k+1,rfl,by omega,hS⟩
  ·have hkn:k=es[i].2:=by omega
   subst hkn
   (try simp only [o_add,o_lss,hlt2,decide_false,condF])
   have hdr0:xs.drop (es[i].2 * 1)=[]:=List.drop_eq_nil_of_le (by omega)
   rw [hdr0,List.append_nil] at hS
   have hS:=mark_done hil hb hS
   rw [wr_i64 (x:=(i:Int)+1) (by omega) (by omega)]
   exact ⟨m - 1,by omega,i+1,rfl,by omega,hS⟩
 ·have hil:i=es.length:=by omega
  subst hil
  (try simp only [o_add,o_lss,hlt,decide_false,condF])
  have hS:=hS.swap.drop
  rw [List.take_length] at hS
  refine (grownBytes Z (d:=d) hd0 hd1 1 (by omega) hl hT ho hx hS).mono fun r w2 ⟨hr,hS⟩=>?_
  subst hr
  (try simp only [o_pickT,guardW_true])
  refine (grownBytes Z (d:=d) hd0 hd1 64 (by omega) hl hT ho hx hS).mono fun r w3 ⟨hr,hS⟩=>?_
  subst hr
  (try simp only [o_not,Bool.not_true,condF])
  rw [wr_i64 (x:=(d:Int) * 100) (by omega) (by omega)]
  exact ⟨mm - 1,by omega,d * 100,by rw [Int.natCast_mul]; rfl,by omega,rowsM_end hS⟩
end
def mkIds (i:Nat):List Value:=[.string ByteArray.empty,.string (str (33::Lib.itoa (-1000000 - (i:Int))))]
def mkIds' (i:Nat):List Value:=[.string ByteArray.empty,.string (str (33::Lib.itoa (-2000000 - (i:Int))))]
theorem mkIds_ones (i:Nat):ones (mkIds i)∧ones (mkIds' i):=by
 constructor
 ·intro u hu
  simp only [mkIds,List.mem_cons,List.not_mem_nil,or_false] at hu
  rcases hu with rfl | rfl <;> rfl
 ·intro u hu
  simp only [mkIds',List.mem_cons,List.not_mem_nil,or_false] at hu
  rcases hu with rfl | rfl <;> rfl
theorem mkIds_len (i:Nat):(mkIds i).length=2:=rfl
theorem mkIds_len' (i:Nat):(mkIds' i).length=2:=rfl
section
variable (Z:PZ) {o w:World} {R As:List HProp}
set_option maxRecDepth 100000 in
theorem grownIds (cnt:Nat) (hcnt:cnt≤24) {es:List (Value × Nat)} {vl:Value} (hl:es.length≤600) (hT:Tab o) (ho:old o ∈ R) (hx:Ent o R fun w=>Rd w 1 vl es.length (es.map Prod.fst)) (h:St o w (rowsM 175 2 32 mkIds 0 es::R)) :
  CallV π Z 146 #[vl,.int .i64 cnt] w fun r w'=>r=.bool true∧St o w' (rowsM 175 2 32 mkIds 0 es::R):=by
 obtain ⟨al,cl,rfl⟩:=(hx w h.drop).form
 refine f146.calls ?_
 unfold f146.sh
 refine ⟨fun m x y w'=>∃(i:Nat) (ds:List ((Value × Nat) × Value)),y=.int .i64 i∧m+i=es.length∧ds.map Prod.fst=es.take i∧St o w' (own 32 1 x i (ds.map Prod.snd)::pairsM 175 2 32 mkIds mkIds' cnt ds::rowsM 175 2 32 mkIds i (es.drop i)::R),⟨es.length,0,[],rfl,rfl,rfl,(h.emp.mono fun _ _=>trivial).own_nil _ _⟩,?_⟩
 clear h
 rintro m vm _ w1 ⟨i,ds,rfl,hi,hds,hS⟩ _
 by_cases hlt:(i:Int) < (es.length:Int)
 ·have hil:i < es.length:=by omega
  have hdl:ds.length=i:=by have:=congrArg List.length hds; simp only [List.length_map,List.length_take] at this; omega
  (try simp only [o_sub,o_add,ln_54_3,o_lss,hlt,decide_true,condT])
  obtain ⟨b0,q0,hp0,hc0⟩:=(hx w1 hS.drop.drop.drop).adr el54 .i64 i hil
  refine r1 (hp0 _) (r_load one32 (v:=es[i].1) (by have:=hc0 w1 (hx w1 hS.drop.drop.drop) 0 es[i].1 (by rw [at_one]; simp [hil]); simpa using this) ?_)
  obtain ⟨hb,hS⟩:=grow_step (hS.put 2) hil
  have hS:=hS.twin_start
  refine ⟨fun m2 x y w'=>∃k:Nat,y=.int .i64 k∧m2+k=cnt∧St o w' (twin 175 2 es[i].1 es[i].2 x k (rep es[i].2 (mkIds i)) (rep k (mkIds' i))::pairsM 175 2 32 mkIds mkIds' cnt ds::rowsM 175 2 32 mkIds (i+1) (es.drop (i+1))::own 32 1 vm i (ds.map Prod.snd)::R),⟨cnt,0,rfl,rfl,hS⟩,?_⟩
  clear hS
  rintro m2 vk _ w2 ⟨k,rfl,hk,hS⟩ _
  by_cases hlt2:(k:Int) < (cnt:Int)
  ·(try simp only [o_add,o_lss,hlt2,decide_true,condT])
   rw [wr_i64 (x := -2000000 - (i:Int)) (by omega) (by omega)]
   refine (mark Z hT (by simp [ho]) (-2000000 - (i:Int)) (by omega) (by omega) hS).mono fun r w3 ⟨hr,hS⟩=>?_
   subst hr
   generalize hsm:str (33::Lib.itoa (-2000000 - (i:Int)))=sm
   refine r_build (cells:=#[.string ByteArray.empty,.string sm]) (by kernel_rfl) ?_
   subst hsm
   refine r_sliceN el32 hS 1 _ [mkIds' i] rfl (by omega) (by omega) (by omega) (by intro v hv; simp at hv; subst hv; rfl) rfl fun g w4 hS=>?_
   have e1:[mkIds' i].flatten=mkIds' i:=by simp
   rw [e1] at hS
   have hsrc:=(hS.own_rd m0).src Tryz.underlying32 (mkIds_ones i).2
   refine r_twin el32 hS.swap hsrc (by omega) (by simp only [maxLen]; omega) fun v' w5 hS=>?_
   have hS:=hS.swap.drop
   rw [← rep_succ] at hS
   skip
   rw [wr_i64 (x:=(k:Int)+1) (by omega) (by omega)]
   exact ⟨m2 - 1,by omega,k+1,rfl,by omega,hS⟩
  ·have hkc:k=cnt:=by omega
   subst hkc
   (try simp only [o_add,o_lss,hlt2,decide_false,condF])
   have hvk:=hS.twin_one
   refine r_push el54 (hS.pick 3) vk hvk (by omega) (by simp only [maxLen]; omega) fun v' w3 hS=>?_
   skip
   rw [wr_i64 (x:=(i:Int)+1) (by omega) (by omega)]
   have hS:=grow_done hil hdl hb (hS.put 2)
   refine ⟨m - 1,by omega,i+1,ds++[(es[i],vk)],rfl,by omega,by rw [List.map_append,hds,List.take_succ_eq_append_getElem hil]; rfl,?_⟩
   rw [List.map_append]
   exact hS.swap
 ·have hil:i=es.length:=by omega
  subst hil
  rw [List.take_length] at hds
  (try simp only [o_sub,o_add,ln_54_3,o_lss,hlt,decide_false,condF])
  refine ⟨fun m y w'=>∃j:Nat,y=.int .i64 j∧m+j=es.length∧St o w' (own 32 1 vm es.length (ds.map Prod.snd)::pairsM 175 2 32 mkIds mkIds' cnt ds::R),⟨es.length,0,rfl,rfl,(hS.pick 2).drop⟩,?_⟩
  clear hS hi hlt
  rintro m _ w2 ⟨j,rfl,hj,hS⟩ _
  by_cases hlt2:(j:Int) < (es.length:Int)
  ·have hjl:j < es.length:=by omega
   (try simp only [o_add,o_lss,hlt2,decide_true,condT])
   obtain ⟨b0,q0,hp0,hc0⟩:=(hx w2 hS.drop.drop).adr el54 .i64 j hjl
   obtain ⟨hd,hb,hr1,hr2⟩:=pairs_rd hds m1 hS hjl
   have hmr:=hS.own_rd m0
   obtain ⟨bm,qm,hpm,hcm⟩:=hmr.adr el54 .i64 j hjl
   have P1:∀w',St o w' (own 32 1 vm es.length (ds.map Prod.snd)::pairsM 175 2 32 mkIds mkIds' cnt ds::R)→w'.cell? ⟨b0,q0,none⟩=some es[j].1:=fun w' hS=>by have:=hc0 w' (hx w' hS.drop.drop) 0 es[j].1 (by rw [at_one]; simp [hjl]); simpa using this
   have P2:∀w',St o w' (own 32 1 vm es.length (ds.map Prod.snd)::pairsM 175 2 32 mkIds mkIds' cnt ds::R)→w'.cell? ⟨bm,qm,none⟩=some ds[j].2:=fun w' hS=>by have:=hcm w' (hS.own_rd m0) 0 ds[j].2 (by rw [at_one]; simp [hd]); simpa using this
   refine r1 (hp0 _) (r_load one32 (P1 _ hS) ?_)
   refine r1 (hr1.len sl32 _ rfl _ _) ?_
   refine ⟨fun m3 y w'=>∃k:Nat,y=.int .i64 k∧m3+k=es[j].2+cnt∧St o w' (own 32 1 vm es.length (ds.map Prod.snd)::pairsM 175 2 32 mkIds mkIds' cnt ds::R),⟨es[j].2+cnt,0,rfl,rfl,hS⟩,?_⟩
   clear hS
   rintro m3 _ w3 ⟨k,rfl,hk,hS⟩ _
   refine r1 (run_add _ _ _ _ _ _) ?_
   rw [wr_i64 (x:=(es[j].2:Int)+(cnt:Int)) (by omega) (by omega)]
   by_cases hlt3:(k:Int) < (es[j].2:Int)+(cnt:Int)
   ·(try simp only [o_add,o_lssp,o_lss,hlt3,decide_true,condT])
    have hk3:k < es[j].2+cnt:=by omega
    obtain ⟨b2,q2,hp2,hc2⟩:=hr2.adr el32 .i64 k hk3
    refine ⟨fun w4 hdr=>?_⟩
    have hS:=hS.drew hdr
    by_cases hkn:(k:Int) < (es[j].2:Int)
    ·have hkl:k < es[j].2:=by omega
     have hge:¬ (es[j].2:Int)≤(k:Int):=by omega
     obtain ⟨b1,q1,hp1,hc1⟩:=hr1.adr el32 .i64 k hkl
     have P3:∀w',St o w' (own 32 1 vm es.length (ds.map Prod.snd)::pairsM 175 2 32 mkIds mkIds' cnt ds::R)→w'.cell? ⟨b1,q1+1,none⟩=(mkIds j)[1]? := fun w' hS=>hc1 w' (pairs_rd hds m1 hS hjl).2.2.1 1 _ (by have:=rep_at (n:=es[j].2) (c:=mkIds j) (rest:=[]) hkl; rw [List.append_nil] at this; rw [show (mkIds j).length=2 from rfl] at this; rw [this]; rfl)
     have P4:∀w',St o w' (own 32 1 vm es.length (ds.map Prod.snd)::pairsM 175 2 32 mkIds mkIds' cnt ds::R)→w'.cell? ⟨b2,q2+1,none⟩=(mkIds j)[1]? := fun w' hS=>hc2 w' (pairs_rd hds m1 hS hjl).2.2.2 1 _ (by have:=rep_at (n:=es[j].2) (c:=mkIds j) (rest:=rep cnt (mkIds' j)) hkl; rw [show (mkIds j).length=2 from rfl] at this; rw [this]; rfl)
     (try simp only [hkn,decide_true,still_tt,o_pickTp,guardV_true,guardW_true,o_subp])
     refine rp hp0 ?_
     refine rr_load one32 (P1 _ hS) ?_
     refine rp hp1 ?_
     (try simp only [fa_175_1p])
     refine rr_load one9 (P3 _ hS) ?_
     skip
     rw [wr_i64 (x := -1000000 - (j:Int)) (by omega) (by omega)]
     refine (mark Z hT (by simp [ho]) (-1000000 - (j:Int)) (by omega) (by omega) hS).mono fun r w5 ⟨hr,hS⟩=>?_
     subst hr
     refine rs_load one9 (P3 _ hS) ?_
     refine rs_load one32 (P1 _ hS) ?_
     (try refine rp (fun w=>run_eql_strB _ _ _ _ w) ?_)
     (try simp only [o_notp,Bool.not_true,o_pickFp,guardV_ff,o_lssp])
     (try simp only [hkn,decide_true,still_tt,o_pickTp,guardV_true,guardW_true,o_subp])
     refine rp hpm ?_
     refine rr_load one32 (P2 _ hS) ?_
     refine rp hp2 ?_
     (try simp only [fa_175_1p])
     refine rr_load one9 (P4 _ hS) ?_
     skip
     rw [wr_i64 (x := -1000000 - (j:Int)) (by omega) (by omega)]
     refine (mark Z hT (by simp [ho]) (-1000000 - (j:Int)) (by omega) (by omega) hS).mono fun r w5 ⟨hr,hS⟩=>?_
     subst hr
     (try simp only [os_eqlp,beq_self_eq_true,o_notp,Bool.not_true,o_pickFp,guardV_ff,o_geqp])
     refine rs_load one9 (P4 _ hS) ?_
     refine rs_load one32 (P2 _ hS) ?_
     refine rs_load one9 (P3 _ hS) ?_
     refine rs_load one32 (P1 _ hS) ?_
     (try refine rp (fun w=>run_eql_strB _ _ _ _ w) ?_)
     skip
     (try simp only [hge,decide_false,o_pickFp,condF,guardV_ft,guardW_ft,still_ft])
     refine rs_load one9 (P4 _ hS) (rs_load one32 (P2 _ hS) (rs_load one9 (P3 _ hS) (rs_load one32 (P1 _ hS) ?_)))
     skip
     rw [wr_i64 (x:=(k:Int)+1) (by omega) (by omega)]
     exact ⟨m3 - 1,by omega,k+1,rfl,by omega,hS⟩
    ·have hge:(es[j].2:Int)≤(k:Int):=by omega
     have P5:∀w',St o w' (own 32 1 vm es.length (ds.map Prod.snd)::pairsM 175 2 32 mkIds mkIds' cnt ds::R)→w'.cell? ⟨b2,q2+1,none⟩=(mkIds' j)[1]? := fun w' hS=>hc2 w' (pairs_rd hds m1 hS hjl).2.2.2 1 _ (by have:=rep_at2 (n:=es[j].2) (m:=cnt) (c:=mkIds j) (d:=mkIds' j) (i:=k) (by rw [mkIds_len',mkIds_len]) (by omega) hk3; rw [show (mkIds j).length=2 from rfl] at this; rw [this]; rfl)
     (try simp only [hkn,decide_false,o_pickFp,guardV_ff,o_lssp,o_geqp,hge,decide_true,o_pickTp,guardV_true,still_tt,guardW_true,o_subp,guardV_ft,guardW_ft,still_ft])
     refine rp hpm ?_
     refine rr_load one32 (P2 _ hS) ?_
     refine rp hp2 ?_
     (try simp only [fa_175_1p])
     refine rr_load one9 (P5 _ hS) ?_
     skip
     rw [wr_i64 (x := -2000000 - (j:Int)) (by omega) (by omega)]
     refine (mark Z hT (by simp [ho]) (-2000000 - (j:Int)) (by omega) (by omega) hS).mono fun r w5 ⟨hr,hS⟩=>?_
     subst hr
     refine rs_load one9 (P5 _ hS) ?_
     refine rs_load one32 (P2 _ hS) ?_
     (try refine rp (fun w=>run_eql_strB _ _ _ _ w) ?_)
     (try simp only [o_notp,Bool.not_true,condF])
     rw [wr_i64 (x:=(k:Int)+1) (by omega) (by omega)]
     exact ⟨m3 - 1,by omega,k+1,rfl,by omega,hS⟩
   ·(try simp only [o_add,o_lssp,o_lss,hlt3,decide_false,condF])
    rw [wr_i64 (x:=(j:Int)+1) (by omega) (by omega)]
    exact ⟨m - 1,by omega,j+1,rfl,by omega,hS⟩
  ·(try simp only [o_add,o_lss,hlt2,decide_false,condF])
   exact ⟨by first | rfl | trivial,pairs_end hds hS.drop⟩
set_option maxRecDepth 100000 in
theorem apartIds {es:List (Value × Nat)} {vl:Value} (hl:es.length≤600) (hT:Tab o) (ho:old o ∈ R) (hx:Ent o R fun w=>Rd w 1 vl es.length (es.map Prod.fst)) (h:St o w (rowsX 175 2 32 es::R)) :
  CallV π Z 52 #[vl] w fun r w'=>r=.bool true∧St o w' (rowsX 175 2 32 es::R):=by
 obtain ⟨al,cl,rfl⟩:=(hx w h.drop).form
 refine f52.calls ?_
 unfold f52.sh
 refine ⟨fun m y w'=>∃i:Nat,y=.int .i64 i∧m+i=es.length∧St o w' (rowsM 175 2 32 mkIds 0 (es.take i)::rowsX 175 2 32 (es.drop i)::R),⟨es.length,0,rfl,rfl,h.emp.mono fun _ _=>trivial⟩,?_⟩
 clear h
 rintro m _ w1 ⟨i,rfl,hi,hS⟩ _
 by_cases hlt:(i:Int) < (es.length:Int)
 ·have hil:i < es.length:=by omega
  (try simp only [o_subp,o_add,ln_54_3,o_lss,hlt,decide_true,condT])
  obtain ⟨b0,q0,hp0,hc0⟩:=(hx w1 hS.drop.drop).adr el54 .i64 i hil
  have P0:∀w',St o w' R→w'.cell? ⟨b0,q0,none⟩=some es[i].1:=fun w' hS=>by have:=hc0 w' (hx w' hS) 0 es[i].1 (by rw [at_one]; simp [hil]); simpa using this
  obtain ⟨xs,hb,hxl,hS⟩:=mark_step hS hil
  refine ⟨fun m2 y w'=>∃k:Nat,y=.int .i64 k∧m2+k=es[i].2∧St o w' (own 175 2 es[i].1 es[i].2 (rep k (mkIds i)++xs.drop (k * 2))::rowsM 175 2 32 mkIds 0 (es.take i)::rowsX 175 2 32 (es.drop (i+1))::R),⟨es[i].2,0,rfl,rfl,by simpa [rep] using hS⟩,?_⟩
  clear hS
  rintro m2 _ w2 ⟨k,rfl,hk,hS⟩ _
  refine r1 (hp0 _) (r_load one32 (P0 _ hS.drop.drop.drop) ?_)
  refine r1 ((hS.own_rd m0).len sl32 _ rfl _ _) ?_
  by_cases hlt2:(k:Int) < (es[i].2:Int)
  ·have hkn:k < es[i].2:=by omega
   (try simp only [o_add,o_lss,hlt2,decide_true,condT])
   refine ⟨fun w3 hdr=>?_⟩
   have hS:=hS.drew hdr
   obtain ⟨b,q,hp,hc⟩:=(hS.own_rd m0).adr el32 .i64 k hkn
   refine rp hp0 ?_
   refine rr_load one32 (P0 _ hS.drop.drop.drop) ?_
   skip
   rw [wr_i64 (x := -1000000 - (i:Int)) (by omega) (by omega)]
   refine (mark Z hT (by simp [ho]) (-1000000 - (i:Int)) (by omega) (by omega) hS).mono fun r w4 ⟨hr,hS⟩=>?_
   subst hr
   refine rs_load one32 (P0 _ hS.drop.drop.drop) ?_
   generalize hsm:str (33::Lib.itoa (-1000000 - (i:Int)))=sm
   refine rp_build (cells:=#[.string ByteArray.empty,.string sm]) (by kernel_rfl) ?_
   subst hsm
   refine rp hp ?_
   refine r_store_ixN hS el32 ag175 .i64 k hkn (hp _) (us:=mkIds i) rfl (mkIds_ones i).1 fun w5 hS=>?_
   have e2:=mark_set (c:=mkIds i) (sz:=2) (k:=k) rfl hxl hkn
   rw [e2] at hS
   skip
   rw [wr_i64 (x:=(k:Int)+1) (by omega) (by omega)]
   exact ⟨m2 - 1,by omega,k+1,rfl,by omega,hS⟩
  ·have hkn:k=es[i].2:=by omega
   subst hkn
   (try simp only [o_add,o_lss,hlt2,decide_false,condF])
   have hdr0:xs.drop (es[i].2 * 2)=[]:=List.drop_eq_nil_of_le (by omega)
   rw [hdr0,List.append_nil] at hS
   have hS:=mark_done hil hb hS
   rw [wr_i64 (x:=(i:Int)+1) (by omega) (by omega)]
   exact ⟨m - 1,by omega,i+1,rfl,by omega,hS⟩
 ·have hil:i=es.length:=by omega
  subst hil
  (try simp only [o_subp,o_add,ln_54_3,o_lss,hlt,decide_false,condF])
  have hS:=hS.swap.drop
  rw [List.take_length] at hS
  refine (grownIds Z 1 (by omega) hl hT ho hx hS).mono fun r w2 ⟨hr,hS⟩=>?_
  subst hr
  refine (grownIds Z 24 (by omega) hl hT ho hx hS).mono fun r w3 ⟨hr,hS⟩=>?_
  subst hr
  (try simp only [o_pickT,guardW_true])
  exact ⟨by first | rfl | trivial,rowsM_end hS⟩
end
def mkAcl (i:Nat):List Value:=[.int .i8 0,.string ByteArray.empty,.string (str (33::Lib.itoa (-1000000 - (i:Int))))]
def mkAcl' (i:Nat):List Value:=[.int .i8 0,.string ByteArray.empty,.string (str (33::Lib.itoa (-2000000 - (i:Int))))]
theorem mkAcl_ones (i:Nat):ones (mkAcl i)∧ones (mkAcl' i):=by
 constructor
 ·intro u hu
  simp only [mkAcl,List.mem_cons,List.not_mem_nil,or_false] at hu
  rcases hu with rfl | rfl | rfl <;> rfl
 ·intro u hu
  simp only [mkAcl',List.mem_cons,List.not_mem_nil,or_false] at hu
  rcases hu with rfl | rfl | rfl <;> rfl
theorem mkAcl_len (i:Nat):(mkAcl i).length=3:=rfl
theorem mkAcl_len' (i:Nat):(mkAcl' i).length=3:=rfl
section
variable (Z:PZ) {o w:World} {R As:List HProp}
set_option maxRecDepth 100000 in
theorem grownAcl (cnt:Nat) (hcnt:cnt≤24) {es:List (Value × Nat)} {vl:Value} (hl:es.length≤600) (hT:Tab o) (ho:old o ∈ R) (hx:Ent o R fun w=>Rd w 1 vl es.length (es.map Prod.fst)) (h:St o w (rowsM 178 3 40 mkAcl 0 es::R)) :
  CallV π Z 147 #[vl,.int .i64 cnt] w fun r w'=>r=.bool true∧St o w' (rowsM 178 3 40 mkAcl 0 es::R):=by
 obtain ⟨al,cl,rfl⟩:=(hx w h.drop).form
 refine f147.calls ?_
 unfold f147.sh
 refine ⟨fun m x y w'=>∃(i:Nat) (ds:List ((Value × Nat) × Value)),y=.int .i64 i∧m+i=es.length∧ds.map Prod.fst=es.take i∧St o w' (own 31 1 x i (ds.map Prod.snd)::pairsM 178 3 40 mkAcl mkAcl' cnt ds::rowsM 178 3 40 mkAcl i (es.drop i)::R),⟨es.length,0,[],rfl,rfl,rfl,(h.emp.mono fun _ _=>trivial).own_nil _ _⟩,?_⟩
 clear h
 rintro m vm _ w1 ⟨i,ds,rfl,hi,hds,hS⟩ _
 by_cases hlt:(i:Int) < (es.length:Int)
 ·have hil:i < es.length:=by omega
  have hdl:ds.length=i:=by have:=congrArg List.length hds; simp only [List.length_map,List.length_take] at this; omega
  (try simp only [o_sub,o_add,ln_55_3,o_lss,hlt,decide_true,condT])
  obtain ⟨b0,q0,hp0,hc0⟩:=(hx w1 hS.drop.drop.drop).adr el55 .i64 i hil
  refine r1 (hp0 _) (r_load one31 (v:=es[i].1) (by have:=hc0 w1 (hx w1 hS.drop.drop.drop) 0 es[i].1 (by rw [at_one]; simp [hil]); simpa using this) ?_)
  obtain ⟨hb,hS⟩:=grow_step (hS.put 2) hil
  have hS:=hS.twin_start
  refine ⟨fun m2 x y w'=>∃k:Nat,y=.int .i64 k∧m2+k=cnt∧St o w' (twin 178 3 es[i].1 es[i].2 x k (rep es[i].2 (mkAcl i)) (rep k (mkAcl' i))::pairsM 178 3 40 mkAcl mkAcl' cnt ds::rowsM 178 3 40 mkAcl (i+1) (es.drop (i+1))::own 31 1 vm i (ds.map Prod.snd)::R),⟨cnt,0,rfl,rfl,hS⟩,?_⟩
  clear hS
  rintro m2 vk _ w2 ⟨k,rfl,hk,hS⟩ _
  by_cases hlt2:(k:Int) < (cnt:Int)
  ·(try simp only [o_add,o_lss,hlt2,decide_true,condT])
   rw [wr_i64 (x := -2000000 - (i:Int)) (by omega) (by omega)]
   refine (mark Z hT (by simp [ho]) (-2000000 - (i:Int)) (by omega) (by omega) hS).mono fun r w3 ⟨hr,hS⟩=>?_
   subst hr
   generalize hsm:str (33::Lib.itoa (-2000000 - (i:Int)))=sm
   refine r_build (cells:=#[.string ByteArray.empty,.string sm]) (by kernel_rfl) ?_
   refine r_build (cells:=#[.int .i8 0,.string ByteArray.empty,.string sm]) (by kernel_rfl) ?_
   subst hsm
   refine r_sliceN el31 hS 1 _ [mkAcl' i] rfl (by omega) (by omega) (by omega) (by intro v hv; simp at hv; subst hv; rfl) rfl fun g w4 hS=>?_
   have e1:[mkAcl' i].flatten=mkAcl' i:=by simp
   rw [e1] at hS
   have hsrc:=(hS.own_rd m0).src Tryz.underlying31 (mkAcl_ones i).2
   refine r_twin el31 hS.swap hsrc (by omega) (by simp only [maxLen]; omega) fun v' w5 hS=>?_
   have hS:=hS.swap.drop
   rw [← rep_succ] at hS
   skip
   rw [wr_i64 (x:=(k:Int)+1) (by omega) (by omega)]
   exact ⟨m2 - 1,by omega,k+1,rfl,by omega,hS⟩
  ·have hkc:k=cnt:=by omega
   subst hkc
   (try simp only [o_add,o_lss,hlt2,decide_false,condF])
   have hvk:=hS.twin_one
   refine r_push el55 (hS.pick 3) vk hvk (by omega) (by simp only [maxLen]; omega) fun v' w3 hS=>?_
   skip
   rw [wr_i64 (x:=(i:Int)+1) (by omega) (by omega)]
   have hS:=grow_done hil hdl hb (hS.put 2)
   refine ⟨m - 1,by omega,i+1,ds++[(es[i],vk)],rfl,by omega,by rw [List.map_append,hds,List.take_succ_eq_append_getElem hil]; rfl,?_⟩
   rw [List.map_append]
   exact hS.swap
 ·have hil:i=es.length:=by omega
  subst hil
  rw [List.take_length] at hds
  (try simp only [o_sub,o_add,ln_55_3,o_lss,hlt,decide_false,condF])
  refine ⟨fun m y w'=>∃j:Nat,y=.int .i64 j∧m+j=es.length∧St o w' (own 31 1 vm es.length (ds.map Prod.snd)::pairsM 178 3 40 mkAcl mkAcl' cnt ds::R),⟨es.length,0,rfl,rfl,(hS.pick 2).drop⟩,?_⟩
  clear hS hi hlt
  rintro m _ w2 ⟨j,rfl,hj,hS⟩ _
  by_cases hlt2:(j:Int) < (es.length:Int)
  ·have hjl:j < es.length:=by omega
   (try simp only [o_add,o_lss,hlt2,decide_true,condT])
   obtain ⟨b0,q0,hp0,hc0⟩:=(hx w2 hS.drop.drop).adr el55 .i64 j hjl
   obtain ⟨hd,hb,hr1,hr2⟩:=pairs_rd hds m1 hS hjl
   have hmr:=hS.own_rd m0
   obtain ⟨bm,qm,hpm,hcm⟩:=hmr.adr el55 .i64 j hjl
   have P1:∀w',St o w' (own 31 1 vm es.length (ds.map Prod.snd)::pairsM 178 3 40 mkAcl mkAcl' cnt ds::R)→w'.cell? ⟨b0,q0,none⟩=some es[j].1:=fun w' hS=>by have:=hc0 w' (hx w' hS.drop.drop) 0 es[j].1 (by rw [at_one]; simp [hjl]); simpa using this
   have P2:∀w',St o w' (own 31 1 vm es.length (ds.map Prod.snd)::pairsM 178 3 40 mkAcl mkAcl' cnt ds::R)→w'.cell? ⟨bm,qm,none⟩=some ds[j].2:=fun w' hS=>by have:=hcm w' (hS.own_rd m0) 0 ds[j].2 (by rw [at_one]; simp [hd]); simpa using this
   refine r1 (hp0 _) (r_load one31 (P1 _ hS) ?_)
   refine r1 (hr1.len sl31 _ rfl _ _) ?_
   refine ⟨fun m3 y w'=>∃k:Nat,y=.int .i64 k∧m3+k=es[j].2+cnt∧St o w' (own 31 1 vm es.length (ds.map Prod.snd)::pairsM 178 3 40 mkAcl mkAcl' cnt ds::R),⟨es[j].2+cnt,0,rfl,rfl,hS⟩,?_⟩
   clear hS
   rintro m3 _ w3 ⟨k,rfl,hk,hS⟩ _
   refine r1 (run_add _ _ _ _ _ _) ?_
   rw [wr_i64 (x:=(es[j].2:Int)+(cnt:Int)) (by omega) (by omega)]
   by_cases hlt3:(k:Int) < (es[j].2:Int)+(cnt:Int)
   ·(try simp only [o_add,o_lssp,o_lss,hlt3,decide_true,condT])
    have hk3:k < es[j].2+cnt:=by omega
    obtain ⟨b2,q2,hp2,hc2⟩:=hr2.adr el31 .i64 k hk3
    refine ⟨fun w4 hdr=>?_⟩
    have hS:=hS.drew hdr
    by_cases hkn:(k:Int) < (es[j].2:Int)
    ·have hkl:k < es[j].2:=by omega
     have hge:¬ (es[j].2:Int)≤(k:Int):=by omega
     obtain ⟨b1,q1,hp1,hc1⟩:=hr1.adr el31 .i64 k hkl
     have P3:∀w',St o w' (own 31 1 vm es.length (ds.map Prod.snd)::pairsM 178 3 40 mkAcl mkAcl' cnt ds::R)→w'.cell? ⟨b1,q1+2,none⟩=(mkAcl j)[2]? := fun w' hS=>hc1 w' (pairs_rd hds m1 hS hjl).2.2.1 2 _ (by have:=rep_at (n:=es[j].2) (c:=mkAcl j) (rest:=[]) hkl; rw [List.append_nil] at this; rw [show (mkAcl j).length=3 from rfl] at this; rw [this]; rfl)
     have P4:∀w',St o w' (own 31 1 vm es.length (ds.map Prod.snd)::pairsM 178 3 40 mkAcl mkAcl' cnt ds::R)→w'.cell? ⟨b2,q2+2,none⟩=(mkAcl j)[2]? := fun w' hS=>hc2 w' (pairs_rd hds m1 hS hjl).2.2.2 2 _ (by have:=rep_at (n:=es[j].2) (c:=mkAcl j) (rest:=rep cnt (mkAcl' j)) hkl; rw [show (mkAcl j).length=3 from rfl] at this; rw [this]; rfl)
     (try simp only [hkn,decide_true,still_tt,o_pickTp,guardV_true,guardW_true,o_subp])
     refine rp hp0 ?_
     refine rr_load one31 (P1 _ hS) ?_
     refine rp hp1 ?_
     (try simp only [fa_178_1p,fa_175_1p])
     refine rr_load one9 (P3 _ hS) ?_
     skip
     rw [wr_i64 (x := -1000000 - (j:Int)) (by omega) (by omega)]
     refine (mark Z hT (by simp [ho]) (-1000000 - (j:Int)) (by omega) (by omega) hS).mono fun r w5 ⟨hr,hS⟩=>?_
     subst hr
     refine rs_load one9 (P3 _ hS) ?_
     refine rs_load one31 (P1 _ hS) ?_
     (try refine rp (fun w=>run_eql_strB _ _ _ _ w) ?_)
     (try simp only [o_notp,Bool.not_true,o_pickFp,guardV_ff,o_lssp])
     (try simp only [hkn,decide_true,still_tt,o_pickTp,guardV_true,guardW_true,o_subp])
     refine rp hpm ?_
     refine rr_load one31 (P2 _ hS) ?_
     refine rp hp2 ?_
     (try simp only [fa_178_1p,fa_175_1p])
     refine rr_load one9 (P4 _ hS) ?_
     skip
     rw [wr_i64 (x := -1000000 - (j:Int)) (by omega) (by omega)]
     refine (mark Z hT (by simp [ho]) (-1000000 - (j:Int)) (by omega) (by omega) hS).mono fun r w5 ⟨hr,hS⟩=>?_
     subst hr
     (try simp only [os_eqlp,beq_self_eq_true,o_notp,Bool.not_true,o_pickFp,guardV_ff,o_geqp])
     refine rs_load one9 (P4 _ hS) ?_
     refine rs_load one31 (P2 _ hS) ?_
     refine rs_load one9 (P3 _ hS) ?_
     refine rs_load one31 (P1 _ hS) ?_
     (try refine rp (fun w=>run_eql_strB _ _ _ _ w) ?_)
     skip
     (try simp only [hge,decide_false,o_pickFp,condF,guardV_ft,guardW_ft,still_ft])
     refine rs_load one9 (P4 _ hS) (rs_load one31 (P2 _ hS) (rs_load one9 (P3 _ hS) (rs_load one31 (P1 _ hS) ?_)))
     skip
     rw [wr_i64 (x:=(k:Int)+1) (by omega) (by omega)]
     exact ⟨m3 - 1,by omega,k+1,rfl,by omega,hS⟩
    ·have hge:(es[j].2:Int)≤(k:Int):=by omega
     have P5:∀w',St o w' (own 31 1 vm es.length (ds.map Prod.snd)::pairsM 178 3 40 mkAcl mkAcl' cnt ds::R)→w'.cell? ⟨b2,q2+2,none⟩=(mkAcl' j)[2]? := fun w' hS=>hc2 w' (pairs_rd hds m1 hS hjl).2.2.2 2 _ (by have:=rep_at2 (n:=es[j].2) (m:=cnt) (c:=mkAcl j) (d:=mkAcl' j) (i:=k) (by rw [mkAcl_len',mkAcl_len]) (by omega) hk3; rw [show (mkAcl j).length=3 from rfl] at this; rw [this]; rfl)
     (try simp only [hkn,decide_false,o_pickFp,guardV_ff,o_lssp,o_geqp,hge,decide_true,o_pickTp,guardV_true,still_tt,guardW_true,o_subp,guardV_ft,guardW_ft,still_ft])
     refine rp hpm ?_
     refine rr_load one31 (P2 _ hS) ?_
     refine rp hp2 ?_
     (try simp only [fa_178_1p,fa_175_1p])
     refine rr_load one9 (P5 _ hS) ?_
     skip
     rw [wr_i64 (x := -2000000 - (j:Int)) (by omega) (by omega)]
     refine (mark Z hT (by simp [ho]) (-2000000 - (j:Int)) (by omega) (by omega) hS).mono fun r w5 ⟨hr,hS⟩=>?_
     subst hr
     refine rs_load one9 (P5 _ hS) ?_
     refine rs_load one31 (P2 _ hS) ?_
     (try refine rp (fun w=>run_eql_strB _ _ _ _ w) ?_)
     (try simp only [o_notp,Bool.not_true,condF])
     rw [wr_i64 (x:=(k:Int)+1) (by omega) (by omega)]
     exact ⟨m3 - 1,by omega,k+1,rfl,by omega,hS⟩
   ·(try simp only [o_add,o_lssp,o_lss,hlt3,decide_false,condF])
    rw [wr_i64 (x:=(j:Int)+1) (by omega) (by omega)]
    exact ⟨m - 1,by omega,j+1,rfl,by omega,hS⟩
  ·(try simp only [o_add,o_lss,hlt2,decide_false,condF])
   exact ⟨by first | rfl | trivial,pairs_end hds hS.drop⟩
set_option maxRecDepth 100000 in
theorem apartAcl {es:List (Value × Nat)} {vl:Value} (hl:es.length≤600) (hT:Tab o) (ho:old o ∈ R) (hx:Ent o R fun w=>Rd w 1 vl es.length (es.map Prod.fst)) (h:St o w (rowsX 178 3 40 es::R)) :
  CallV π Z 53 #[vl] w fun r w'=>r=.bool true∧St o w' (rowsX 178 3 40 es::R):=by
 obtain ⟨al,cl,rfl⟩:=(hx w h.drop).form
 refine f53.calls ?_
 unfold f53.sh
 refine ⟨fun m y w'=>∃i:Nat,y=.int .i64 i∧m+i=es.length∧St o w' (rowsM 178 3 40 mkAcl 0 (es.take i)::rowsX 178 3 40 (es.drop i)::R),⟨es.length,0,rfl,rfl,h.emp.mono fun _ _=>trivial⟩,?_⟩
 clear h
 rintro m _ w1 ⟨i,rfl,hi,hS⟩ _
 by_cases hlt:(i:Int) < (es.length:Int)
 ·have hil:i < es.length:=by omega
  (try simp only [o_subp,o_add,ln_55_3,o_lss,hlt,decide_true,condT])
  obtain ⟨b0,q0,hp0,hc0⟩:=(hx w1 hS.drop.drop).adr el55 .i64 i hil
  have P0:∀w',St o w' R→w'.cell? ⟨b0,q0,none⟩=some es[i].1:=fun w' hS=>by have:=hc0 w' (hx w' hS) 0 es[i].1 (by rw [at_one]; simp [hil]); simpa using this
  obtain ⟨xs,hb,hxl,hS⟩:=mark_step hS hil
  refine ⟨fun m2 y w'=>∃k:Nat,y=.int .i64 k∧m2+k=es[i].2∧St o w' (own 178 3 es[i].1 es[i].2 (rep k (mkAcl i)++xs.drop (k * 3))::rowsM 178 3 40 mkAcl 0 (es.take i)::rowsX 178 3 40 (es.drop (i+1))::R),⟨es[i].2,0,rfl,rfl,by simpa [rep] using hS⟩,?_⟩
  clear hS
  rintro m2 _ w2 ⟨k,rfl,hk,hS⟩ _
  refine r1 (hp0 _) (r_load one31 (P0 _ hS.drop.drop.drop) ?_)
  refine r1 ((hS.own_rd m0).len sl31 _ rfl _ _) ?_
  by_cases hlt2:(k:Int) < (es[i].2:Int)
  ·have hkn:k < es[i].2:=by omega
   (try simp only [o_add,o_lss,hlt2,decide_true,condT])
   refine ⟨fun w3 hdr=>?_⟩
   have hS:=hS.drew hdr
   obtain ⟨b,q,hp,hc⟩:=(hS.own_rd m0).adr el31 .i64 k hkn
   refine rp hp0 ?_
   refine rr_load one31 (P0 _ hS.drop.drop.drop) ?_
   skip
   rw [wr_i64 (x := -1000000 - (i:Int)) (by omega) (by omega)]
   refine (mark Z hT (by simp [ho]) (-1000000 - (i:Int)) (by omega) (by omega) hS).mono fun r w4 ⟨hr,hS⟩=>?_
   subst hr
   refine rs_load one31 (P0 _ hS.drop.drop.drop) ?_
   generalize hsm:str (33::Lib.itoa (-1000000 - (i:Int)))=sm
   refine rp_build (cells:=#[.string ByteArray.empty,.string sm]) (by kernel_rfl) ?_
   refine rp_build (cells:=#[.int .i8 0,.string ByteArray.empty,.string sm]) (by kernel_rfl) ?_
   subst hsm
   refine rp hp ?_
   refine r_store_ixN hS el31 ag178 .i64 k hkn (hp _) (us:=mkAcl i) rfl (mkAcl_ones i).1 fun w5 hS=>?_
   have e2:=mark_set (c:=mkAcl i) (sz:=3) (k:=k) rfl hxl hkn
   rw [e2] at hS
   skip
   rw [wr_i64 (x:=(k:Int)+1) (by omega) (by omega)]
   exact ⟨m2 - 1,by omega,k+1,rfl,by omega,hS⟩
  ·have hkn:k=es[i].2:=by omega
   subst hkn
   (try simp only [o_add,o_lss,hlt2,decide_false,condF])
   have hdr0:xs.drop (es[i].2 * 3)=[]:=List.drop_eq_nil_of_le (by omega)
   rw [hdr0,List.append_nil] at hS
   have hS:=mark_done hil hb hS
   rw [wr_i64 (x:=(i:Int)+1) (by omega) (by omega)]
   exact ⟨m - 1,by omega,i+1,rfl,by omega,hS⟩
 ·have hil:i=es.length:=by omega
  subst hil
  (try simp only [o_subp,o_add,ln_55_3,o_lss,hlt,decide_false,condF])
  have hS:=hS.swap.drop
  rw [List.take_length] at hS
  refine (grownAcl Z 1 (by omega) hl hT ho hx hS).mono fun r w2 ⟨hr,hS⟩=>?_
  subst hr
  refine (grownAcl Z 24 (by omega) hl hT ho hx hS).mono fun r w3 ⟨hr,hS⟩=>?_
  subst hr
  (try simp only [o_pickT,guardW_true])
  exact ⟨by first | rfl | trivial,rowsM_end hS⟩
end
def mkRequests (i:Nat):List Value:=[.int .i8 0,.string ByteArray.empty,.slice none 0 0,.slice none 0 0,.int .i32 0,.bool false,.bool false,.int .i64 (-1000000 - (i:Int)),.int .i32 0,.slice none 0 0,.slice none 0 0]
def mkRequests' (i:Nat):List Value:=[.int .i8 0,.string ByteArray.empty,.slice none 0 0,.slice none 0 0,.int .i32 0,.bool false,.bool false,.int .i64 (-2000000 - (i:Int)),.int .i32 0,.slice none 0 0,.slice none 0 0]
theorem mkRequests_ones (i:Nat):ones (mkRequests i)∧ones (mkRequests' i):=by
 constructor
 ·intro u hu
  simp only [mkRequests,List.mem_cons,List.not_mem_nil,or_false] at hu
  rcases hu with rfl | rfl | rfl | rfl | rfl | rfl | rfl | rfl | rfl | rfl | rfl <;> rfl
 ·intro u hu
  simp only [mkRequests',List.mem_cons,List.not_mem_nil,or_false] at hu
  rcases hu with rfl | rfl | rfl | rfl | rfl | rfl | rfl | rfl | rfl | rfl | rfl <;> rfl
theorem mkRequests_len (i:Nat):(mkRequests i).length=11:=rfl
theorem mkRequests_len' (i:Nat):(mkRequests' i).length=11:=rfl
section
variable (Z:PZ) {o w:World} {R As:List HProp}
set_option maxRecDepth 100000 in
theorem grownRequests (cnt:Nat) (hcnt:cnt≤24) {es:List (Value × Nat)} {vl:Value} (hl:es.length≤600) (hT:Tab o) (ho:old o ∈ R) (hx:Ent o R fun w=>Rd w 1 vl es.length (es.map Prod.fst)) (h:St o w (rowsM 35 11 144 mkRequests 0 es::R)) :
  CallV π Z 148 #[vl,.int .i64 cnt] w fun r w'=>r=.bool true∧St o w' (rowsM 35 11 144 mkRequests 0 es::R):=by
 obtain ⟨al,cl,rfl⟩:=(hx w h.drop).form
 refine f148.calls ?_
 unfold f148.sh
 refine ⟨fun m x y w'=>∃(i:Nat) (ds:List ((Value × Nat) × Value)),y=.int .i64 i∧m+i=es.length∧ds.map Prod.fst=es.take i∧St o w' (own 33 1 x i (ds.map Prod.snd)::pairsM 35 11 144 mkRequests mkRequests' cnt ds::rowsM 35 11 144 mkRequests i (es.drop i)::R),⟨es.length,0,[],rfl,rfl,rfl,(h.emp.mono fun _ _=>trivial).own_nil _ _⟩,?_⟩
 clear h
 rintro m vm _ w1 ⟨i,ds,rfl,hi,hds,hS⟩ _
 by_cases hlt:(i:Int) < (es.length:Int)
 ·have hil:i < es.length:=by omega
  have hdl:ds.length=i:=by have:=congrArg List.length hds; simp only [List.length_map,List.length_take] at this; omega
  (try simp only [o_sub,o_add,ln_56_3,o_lss,hlt,decide_true,condT])
  obtain ⟨b0,q0,hp0,hc0⟩:=(hx w1 hS.drop.drop.drop).adr el56 .i64 i hil
  refine r1 (hp0 _) (r_load one33 (v:=es[i].1) (by have:=hc0 w1 (hx w1 hS.drop.drop.drop) 0 es[i].1 (by rw [at_one]; simp [hil]); simpa using this) ?_)
  obtain ⟨hb,hS⟩:=grow_step (hS.put 2) hil
  have hS:=hS.twin_start
  refine ⟨fun m2 x y w'=>∃k:Nat,y=.int .i64 k∧m2+k=cnt∧St o w' (twin 35 11 es[i].1 es[i].2 x k (rep es[i].2 (mkRequests i)) (rep k (mkRequests' i))::pairsM 35 11 144 mkRequests mkRequests' cnt ds::rowsM 35 11 144 mkRequests (i+1) (es.drop (i+1))::own 33 1 vm i (ds.map Prod.snd)::R),⟨cnt,0,rfl,rfl,hS⟩,?_⟩
  clear hS
  rintro m2 vk _ w2 ⟨k,rfl,hk,hS⟩ _
  by_cases hlt2:(k:Int) < (cnt:Int)
  ·(try simp only [o_add,o_lss,hlt2,decide_true,condT])
   rw [wr_i64 (x := -2000000 - (i:Int)) (by omega) (by omega)]
   generalize hnn : -2000000 - (i:Int)=nn
   refine r_build (cells:=#[.int .i8 0,.string ByteArray.empty,.slice none 0 0,.slice none 0 0,.int .i32 0,.bool false,.bool false,.int .i64 nn,.int .i32 0,.slice none 0 0,.slice none 0 0]) (by kernel_rfl) ?_
   subst hnn
   refine r_sliceN el33 hS 1 _ [mkRequests' i] rfl (by omega) (by omega) (by omega) (by intro v hv; simp at hv; subst hv; rfl) rfl fun g w4 hS=>?_
   have e1:[mkRequests' i].flatten=mkRequests' i:=by simp
   rw [e1] at hS
   have hsrc:=(hS.own_rd m0).src Tryz.underlying33 (mkRequests_ones i).2
   refine r_twin el33 hS.swap hsrc (by omega) (by simp only [maxLen]; omega) fun v' w5 hS=>?_
   have hS:=hS.swap.drop
   rw [← rep_succ] at hS
   skip
   rw [wr_i64 (x:=(k:Int)+1) (by omega) (by omega)]
   exact ⟨m2 - 1,by omega,k+1,rfl,by omega,hS⟩
  ·have hkc:k=cnt:=by omega
   subst hkc
   (try simp only [o_add,o_lss,hlt2,decide_false,condF])
   have hvk:=hS.twin_one
   refine r_push el56 (hS.pick 3) vk hvk (by omega) (by simp only [maxLen]; omega) fun v' w3 hS=>?_
   skip
   rw [wr_i64 (x:=(i:Int)+1) (by omega) (by omega)]
   have hS:=grow_done hil hdl hb (hS.put 2)
   refine ⟨m - 1,by omega,i+1,ds++[(es[i],vk)],rfl,by omega,by rw [List.map_append,hds,List.take_succ_eq_append_getElem hil]; rfl,?_⟩
   rw [List.map_append]
   exact hS.swap
 ·have hil:i=es.length:=by omega
  subst hil
  rw [List.take_length] at hds
  (try simp only [o_sub,o_add,ln_56_3,o_lss,hlt,decide_false,condF])
  refine ⟨fun m y w'=>∃j:Nat,y=.int .i64 j∧m+j=es.length∧St o w' (own 33 1 vm es.length (ds.map Prod.snd)::pairsM 35 11 144 mkRequests mkRequests' cnt ds::R),⟨es.length,0,rfl,rfl,(hS.pick 2).drop⟩,?_⟩
  clear hS hi hlt
  rintro m _ w2 ⟨j,rfl,hj,hS⟩ _
  by_cases hlt2:(j:Int) < (es.length:Int)
  ·have hjl:j < es.length:=by omega
   (try simp only [o_add,o_lss,hlt2,decide_true,condT])
   obtain ⟨b0,q0,hp0,hc0⟩:=(hx w2 hS.drop.drop).adr el56 .i64 j hjl
   obtain ⟨hd,hb,hr1,hr2⟩:=pairs_rd hds m1 hS hjl
   have hmr:=hS.own_rd m0
   obtain ⟨bm,qm,hpm,hcm⟩:=hmr.adr el56 .i64 j hjl
   have P1:∀w',St o w' (own 33 1 vm es.length (ds.map Prod.snd)::pairsM 35 11 144 mkRequests mkRequests' cnt ds::R)→w'.cell? ⟨b0,q0,none⟩=some es[j].1:=fun w' hS=>by have:=hc0 w' (hx w' hS.drop.drop) 0 es[j].1 (by rw [at_one]; simp [hjl]); simpa using this
   have P2:∀w',St o w' (own 33 1 vm es.length (ds.map Prod.snd)::pairsM 35 11 144 mkRequests mkRequests' cnt ds::R)→w'.cell? ⟨bm,qm,none⟩=some ds[j].2:=fun w' hS=>by have:=hcm w' (hS.own_rd m0) 0 ds[j].2 (by rw [at_one]; simp [hd]); simpa using this
   refine r1 (hp0 _) (r_load one33 (P1 _ hS) ?_)
   refine r1 (hr1.len sl33 _ rfl _ _) ?_
   refine ⟨fun m3 y w'=>∃k:Nat,y=.int .i64 k∧m3+k=es[j].2+cnt∧St o w' (own 33 1 vm es.length (ds.map Prod.snd)::pairsM 35 11 144 mkRequests mkRequests' cnt ds::R),⟨es[j].2+cnt,0,rfl,rfl,hS⟩,?_⟩
   clear hS
   rintro m3 _ w3 ⟨k,rfl,hk,hS⟩ _
   refine r1 (run_add _ _ _ _ _ _) ?_
   rw [wr_i64 (x:=(es[j].2:Int)+(cnt:Int)) (by omega) (by omega)]
   by_cases hlt3:(k:Int) < (es[j].2:Int)+(cnt:Int)
   ·(try simp only [o_add,o_lss,hlt3,decide_true,condT])
    have hk3:k < es[j].2+cnt:=by omega
    obtain ⟨b2,q2,hp2,hc2⟩:=hr2.adr el33 .i64 k hk3
    by_cases hkn:(k:Int) < (es[j].2:Int)
    ·have hkl:k < es[j].2:=by omega
     have hge:¬ (es[j].2:Int)≤(k:Int):=by omega
     obtain ⟨b1,q1,hp1,hc1⟩:=hr1.adr el33 .i64 k hkl
     have P3:∀w',St o w' (own 33 1 vm es.length (ds.map Prod.snd)::pairsM 35 11 144 mkRequests mkRequests' cnt ds::R)→w'.cell? ⟨b1,q1+7,none⟩=(mkRequests j)[7]? := fun w' hS=>hc1 w' (pairs_rd hds m1 hS hjl).2.2.1 7 _ (by have:=rep_at (n:=es[j].2) (c:=mkRequests j) (rest:=[]) hkl; rw [List.append_nil] at this; rw [show (mkRequests j).length=11 from rfl] at this; rw [this]; rfl)
     have P4:∀w',St o w' (own 33 1 vm es.length (ds.map Prod.snd)::pairsM 35 11 144 mkRequests mkRequests' cnt ds::R)→w'.cell? ⟨b2,q2+7,none⟩=(mkRequests j)[7]? := fun w' hS=>hc2 w' (pairs_rd hds m1 hS hjl).2.2.2 7 _ (by have:=rep_at (n:=es[j].2) (c:=mkRequests j) (rest:=rep cnt (mkRequests' j)) hkl; rw [show (mkRequests j).length=11 from rfl] at this; rw [this]; rfl)
     (try simp only [hkn,decide_true,o_pickT,guardW_true,o_sub])
     refine r1 (hp0 _) ?_
     refine r_load one33 (P1 _ hS) ?_
     refine r1 (hp1 _) ?_
     (try simp only [fa_35_7])
     refine r_load one2 (P3 _ hS) ?_
     (try simp only [o_eql,o_not])
     rw [wr_i64 (x := -1000000 - (j:Int)) (by omega) (by omega)]
     (try refine r1 (run_eql_int _ _ _ _ _ _ _ _) ?_)
     (first | rw [beq_self_eq_true] | refine ⟨fun _=>?_,fun hh=>absurd rfl hh⟩)
     (try simp only [Bool.not_true,o_pickF,guardW_ff,o_lss])
     (try simp only [hkn,decide_true,o_pickT,guardW_true,o_sub])
     refine r1 (hpm _) ?_
     refine r_load one33 (P2 _ hS) ?_
     refine r1 (hp2 _) ?_
     (try simp only [fa_35_7])
     refine r_load one2 (P4 _ hS) ?_
     (try simp only [o_eql,o_not])
     rw [wr_i64 (x := -1000000 - (j:Int)) (by omega) (by omega)]
     (try refine r1 (run_eql_int _ _ _ _ _ _ _ _) ?_)
     (first | rw [beq_self_eq_true] | refine ⟨fun _=>?_,fun hh=>absurd rfl hh⟩)
     (try simp only [Bool.not_true,o_pickF,guardW_ff,o_geq])
     (try simp only [hge,decide_false,o_pickF,condF,guardW_ft])
     rw [wr_i64 (x:=(k:Int)+1) (by omega) (by omega)]
     exact ⟨m3 - 1,by omega,k+1,rfl,by omega,hS⟩
    ·have hge:(es[j].2:Int)≤(k:Int):=by omega
     have P5:∀w',St o w' (own 33 1 vm es.length (ds.map Prod.snd)::pairsM 35 11 144 mkRequests mkRequests' cnt ds::R)→w'.cell? ⟨b2,q2+7,none⟩=(mkRequests' j)[7]? := fun w' hS=>hc2 w' (pairs_rd hds m1 hS hjl).2.2.2 7 _ (by have:=rep_at2 (n:=es[j].2) (m:=cnt) (c:=mkRequests j) (d:=mkRequests' j) (i:=k) (by rw [mkRequests_len',mkRequests_len]) (by omega) hk3; rw [show (mkRequests j).length=11 from rfl] at this; rw [this]; rfl)
     (try simp only [hkn,decide_false,o_pickF,guardW_ff,o_lss,o_geq,hge,decide_true,o_pickT,guardW_true,o_sub,guardW_ft])
     refine r1 (hpm _) ?_
     refine r_load one33 (P2 _ hS) ?_
     refine r1 (hp2 _) ?_
     (try simp only [fa_35_7])
     refine r_load one2 (P5 _ hS) ?_
     (try simp only [o_eql,o_not,cond_not,cond_beq])
     rw [wr_i64 (x := -2000000 - (j:Int)) (by omega) (by omega)]
     (try refine r1 (run_eql_int _ _ _ _ _ _ _ _) ?_)
     (first | rw [beq_self_eq_true] | refine ⟨fun _=>?_,fun hh=>absurd rfl hh⟩)
     skip
     rw [wr_i64 (x:=(k:Int)+1) (by omega) (by omega)]
     exact ⟨m3 - 1,by omega,k+1,rfl,by omega,hS⟩
   ·(try simp only [o_add,o_lss,hlt3,decide_false,condF])
    rw [wr_i64 (x:=(j:Int)+1) (by omega) (by omega)]
    exact ⟨m - 1,by omega,j+1,rfl,by omega,hS⟩
  ·(try simp only [o_add,o_lss,hlt2,decide_false,condF])
   exact ⟨by first | rfl | trivial,pairs_end hds hS.drop⟩
set_option maxRecDepth 100000 in
theorem apartRequests {es:List (Value × Nat)} {vl:Value} (hl:es.length≤600) (hT:Tab o) (ho:old o ∈ R) (hx:Ent o R fun w=>Rd w 1 vl es.length (es.map Prod.fst)) (h:St o w (rowsX 35 11 144 es::R)) :
  CallV π Z 54 #[vl] w fun r w'=>r=.bool true∧St o w' (rowsX 35 11 144 es::R):=by
 obtain ⟨al,cl,rfl⟩:=(hx w h.drop).form
 refine f54.calls ?_
 unfold f54.sh
 refine ⟨fun m y w'=>∃i:Nat,y=.int .i64 i∧m+i=es.length∧St o w' (rowsM 35 11 144 mkRequests 0 (es.take i)::rowsX 35 11 144 (es.drop i)::R),⟨es.length,0,rfl,rfl,h.emp.mono fun _ _=>trivial⟩,?_⟩
 clear h
 rintro m _ w1 ⟨i,rfl,hi,hS⟩ _
 by_cases hlt:(i:Int) < (es.length:Int)
 ·have hil:i < es.length:=by omega
  (try simp only [o_sub,o_add,ln_56_3,o_lss,hlt,decide_true,condT])
  obtain ⟨b0,q0,hp0,hc0⟩:=(hx w1 hS.drop.drop).adr el56 .i64 i hil
  have P0:∀w',St o w' R→w'.cell? ⟨b0,q0,none⟩=some es[i].1:=fun w' hS=>by have:=hc0 w' (hx w' hS) 0 es[i].1 (by rw [at_one]; simp [hil]); simpa using this
  obtain ⟨xs,hb,hxl,hS⟩:=mark_step hS hil
  refine ⟨fun m2 y w'=>∃k:Nat,y=.int .i64 k∧m2+k=es[i].2∧St o w' (own 35 11 es[i].1 es[i].2 (rep k (mkRequests i)++xs.drop (k * 11))::rowsM 35 11 144 mkRequests 0 (es.take i)::rowsX 35 11 144 (es.drop (i+1))::R),⟨es[i].2,0,rfl,rfl,by simpa [rep] using hS⟩,?_⟩
  clear hS
  rintro m2 _ w2 ⟨k,rfl,hk,hS⟩ _
  refine r1 (hp0 _) (r_load one33 (P0 _ hS.drop.drop.drop) ?_)
  refine r1 ((hS.own_rd m0).len sl33 _ rfl _ _) ?_
  by_cases hlt2:(k:Int) < (es[i].2:Int)
  ·have hkn:k < es[i].2:=by omega
   (try simp only [o_add,o_lss,hlt2,decide_true,condT])
   obtain ⟨b,q,hp,hc⟩:=(hS.own_rd m0).adr el33 .i64 k hkn
   refine r1 (hp0 _) ?_
   refine r_load one33 (P0 _ hS.drop.drop.drop) ?_
   skip
   rw [wr_i64 (x := -1000000 - (i:Int)) (by omega) (by omega)]
   generalize hnn : -1000000 - (i:Int)=nn
   refine r_build (cells:=#[.int .i8 0,.string ByteArray.empty,.slice none 0 0,.slice none 0 0,.int .i32 0,.bool false,.bool false,.int .i64 nn,.int .i32 0,.slice none 0 0,.slice none 0 0]) (by kernel_rfl) ?_
   subst hnn
   refine r1 (hp _) ?_
   refine r_store_ixN hS el33 ag35 .i64 k hkn (hp _) (us:=mkRequests i) rfl (mkRequests_ones i).1 fun w5 hS=>?_
   have e2:=mark_set (c:=mkRequests i) (sz:=11) (k:=k) rfl hxl hkn
   rw [e2] at hS
   skip
   rw [wr_i64 (x:=(k:Int)+1) (by omega) (by omega)]
   exact ⟨m2 - 1,by omega,k+1,rfl,by omega,hS⟩
  ·have hkn:k=es[i].2:=by omega
   subst hkn
   (try simp only [o_add,o_lss,hlt2,decide_false,condF])
   have hdr0:xs.drop (es[i].2 * 11)=[]:=List.drop_eq_nil_of_le (by omega)
   rw [hdr0,List.append_nil] at hS
   have hS:=mark_done hil hb hS
   rw [wr_i64 (x:=(i:Int)+1) (by omega) (by omega)]
   exact ⟨m - 1,by omega,i+1,rfl,by omega,hS⟩
 ·have hil:i=es.length:=by omega
  subst hil
  (try simp only [o_sub,o_add,ln_56_3,o_lss,hlt,decide_false,condF])
  have hS:=hS.swap.drop
  rw [List.take_length] at hS
  refine (grownRequests Z 1 (by omega) hl hT ho hx hS).mono fun r w2 ⟨hr,hS⟩=>?_
  subst hr
  refine (grownRequests Z 24 (by omega) hl hT ho hx hS).mono fun r w3 ⟨hr,hS⟩=>?_
  subst hr
  (try simp only [o_pickT,guardW_true])
  exact ⟨by first | rfl | trivial,rowsM_end hS⟩
end

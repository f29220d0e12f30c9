/- Reference 15: pair, get. Printed by wip/sh/mkG19.py. -/
import Derived.Test.YtfijkedmbaghmaaGreatDoorG17
import Derived.Test.YtfijkedmbaghmaaGreatDoorV8
set_option linter.unusedVariables false
set_option linter.unusedSimpArgs false
namespace Go.Proofs.YtfijkedmbaghmaaGreatDoor
open Go.Sh
open Tryz renaming prog → π
def RSt (p:Pk) (R:List HProp):List HProp:=OwQ p.t.q::own 5 1 p.bv p.b.length (cb p.b)::R
def GotR (i:Nat) (p:Pk) (g:Nat) (all:List UInt8) (off:Nat) (err:Int) (o:World) (R:List HProp) (r:Value) (w':World):Prop:=
 (∃p':Pk,r=.agg p'.cells.toArray∧p'.kd=p.kd∧(∀j,j < 12→j ≠ i→eqF p' p j)∧WfP p'∧err=0∧Has all off (fb p' i)∧(∀y,WfP y→rt y i=true→Has all off (fb y i)→sameF y p' i)∧St o w' (RefR g all (off+(fb p' i).length) 0::RSt p' R)) ∨
 (∃p':Pk,r=.agg p'.cells.toArray∧(∀y,WfP y→rt y i=true→¬ (err=0∧Has all off (fb y i)))∧∃off' e',e' ≠ 0∧St o w' (RefR g all off' e'::RSt p' R))
section
variable (Z:PZ) {o w:World} {R As:List HProp} {g:Nat} {p:Pk} {all:List UInt8} {off:Nat} {err:Int}
theorem pairC (h:St o w (RefR g all off err::R)):CallV π Z 208 #[.pointer (some ⟨g,0,none⟩)] w fun r w'=>
  (∃a b,u32r a∧u32r b∧err=0∧Has all off (enc 4 a++enc 4 b)∧(∀c d,u32r c→u32r d→Has all off (enc 4 c++enc 4 d)→c=a∧d=b)∧r=.tuple #[.int .u32 a,.int .u32 b]∧St o w' (RefR g all (off+8) 0::R)) ∨
  (∃a b,(∀c d,u32r c→u32r d→¬ (err=0∧Has all off (enc 4 c++enc 4 d)))∧r=.tuple #[.int .u32 a,.int .u32 b]∧∃off' e',e' ≠ 0∧St o w' (RefR g all off' e'::R)):=by
 refine f208.calls ?_
 unfold f208.sh
 refine (dgUint32 Z h).mono fun r w2 hq=>?_
 rcases hq with ⟨a,ha,he,hh,hu,rfl,hS⟩ | ⟨rfl,hno,off',e',he',hS⟩
 ·rw [enc_length] at hS
  refine (dgUint32 Z hS).mono fun r w3 hq=>?_
  rcases hq with ⟨b,hb,he2,hh2,hu2,rfl,hS⟩ | ⟨rfl,hno,off',e',he',hS⟩
  ·rw [enc_length] at hS
   refine .inl ⟨a,b,ha,hb,he,Has.split.2 ⟨hh,by rw [enc_length]; exact hh2⟩,fun c d hc hd hcd=>?_,rfl,hS⟩
   obtain ⟨h1,h2⟩:=Has.split.1 hcd
   rw [enc_length] at h2
   exact ⟨hu c hc h1,hu2 d hd h2⟩
  ·refine .inr ⟨a,_,fun c d hc hd ⟨_,hcd⟩=>?_,rfl,off',e',he',hS⟩
   obtain ⟨h1,h2⟩:=Has.split.1 hcd
   rw [enc_length] at h2
   exact hno d hd ⟨rfl,h2⟩
 ·refine (dgUint32 Z hS).mono fun r w3 hq=>?_
  rcases hq with ⟨b,hb,he2,_⟩ | ⟨rfl,_,off2,e2,he2,hS⟩
  ·exact absurd he2 he'
  ·exact .inr ⟨_,_,fun c d hc hd ⟨h0,hcd⟩=>hno c hc ⟨h0,(Has.split.1 hcd).1⟩,rfl,off2,e2,he2,hS⟩
theorem dgBuf (most:Int) (h:St o w (RefR g all off err::R)):CallV π Z 212 #[.pointer (some ⟨g,0,none⟩),.int .i64 most] w fun r w'=>
  (∃k,okL most k∧err=0∧Has all off (encL k)∧(∀y,okL most y→Has all off (encL y)→y=k)∧St o w' (own 5 1 r k.length (cb k)::RefR g all (off+(encL k).length) 0::R)) ∨
  ((∀y,okL most y→¬ (err=0∧Has all off (encL y)))∧∃off' e',e' ≠ 0∧St o w' (own 5 1 r 0 (cb [])::RefR g all off' e'::R)):=by
 have hle:=RefR.le h
 refine (dBuffer Z most h).mono fun r w' ⟨k,off',e',hv,hS⟩=>?_
 rcases sz_gets hle hv with ⟨hx,h0,rfl,hh2,rfl,hu2⟩ | ⟨rfl,he',hnx⟩
 ·exact .inl ⟨k,hx,h0,hh2,hu2,hS⟩
 ·exact .inr ⟨hnx,off',e',he',hS⟩
set_option maxRecDepth 100000 in
theorem getC {i:Nat} (hi:i < 12) (hall:all.length≤140737488355328) (hw:err=0→WfP p) (h:St o w (RefR g all off err::RSt p R)):CallV π Z 166 #[.pointer (some ⟨g,0,none⟩),.agg p.cells.toArray,.int .u8 (ltr i)] w fun r w'=>GotR i p g all off err o R r w':=by
 refine f166.calls ?_
 unfold f166.sh
 refine r_box _ _ h fun g1 w1 hS=>?_
 have hS:St o w1 (blk g1 39 p.cells::RefR g all off err::RSt p R):=hS
 refine r_alloc hS ze39 fun g2 w2 hS=>?_
 have hS:St o w2 (blk g2 39 pz.cells::blk g1 39 p.cells::RefR g all off err::RSt p R):=hS
 intro j3 hj3
 have J:∀(w:World) (p':Pk) (off':Nat) (e':Int),St o w (RefR g all off' e'::blk g2 39 pz.cells::blk g1 39 p'.cells::RSt p' R)→(∀w',St o w' (RefR g all off' e'::RSt p' R)→GotR i p g all off err o R (.agg p'.cells.toArray) w')→j3 w:=by
  intro w p' off' e' hS hk
  refine hj3 _ fun _=>?_
  have hone:ones p'.cells:=RdP.ones (w:=w) ⟨OwQ.rd _ (hS.pick 3),hS.own_rd m4⟩
  refine r_loadN ag39 (xs:=p'.cells) rfl (hS.cells_at m2 0 (whole_at _)) ?_
  refine r_storeN (hS.pick 1) ag39 (xs:=p'.cells) rfl (show 0+32≤32 from Nat.le_refl _) hone fun w3 hS=>?_
  rw [setL_all _ _ (by rfl)] at hS
  refine r_resN ag39 (xs:=p'.cells) rfl (hS.cells_at m0 0 (whole_at _)) (hk _ ?_)
  unfold RSt
  unfold RSt at hS
  (refine Sh.St.sub ?_ (hS); repeat (first | with_reducible (first | exact sub_refl | exact sub_nil | refine sP0 ?_ | refine sP1 ?_ | refine sP2 ?_ | refine sP3 ?_ | refine sP4 ?_ | refine sP5 ?_ | refine sP6 ?_ | refine sP7 ?_ | refine sP8 ?_ | refine sP9 ?_ | refine sP10 ?_ | refine sP11 ?_ | refine sP12 ?_ | refine sP13 ?_ | refine sP14 ?_ | refine sP15 ?_) | exact sub_refl | refine sP0 ?_ | refine sP1 ?_ | refine sP2 ?_ | refine sP3 ?_ | refine sP4 ?_ | refine sP5 ?_ | refine sP6 ?_ | refine sP7 ?_ | refine sP8 ?_ | refine sP9 ?_ | refine sP10 ?_ | refine sP11 ?_ | refine sP12 ?_ | refine sP13 ?_ | refine sP14 ?_ | refine sP15 ?_ | refine sub_drop ?_))
 clear hj3
 have hS:St o w2 (RefR g all off err::blk g1 39 p.cells::blk g2 39 pz.cells::RSt p R):=by unfold RSt; unfold RSt at hS; (refine Sh.St.sub ?_ (hS); repeat (first | with_reducible (first | exact sub_refl | exact sub_nil | refine sP0 ?_ | refine sP1 ?_ | refine sP2 ?_ | refine sP3 ?_ | refine sP4 ?_ | refine sP5 ?_ | refine sP6 ?_ | refine sP7 ?_ | refine sP8 ?_ | refine sP9 ?_ | refine sP10 ?_ | refine sP11 ?_ | refine sP12 ?_ | refine sP13 ?_ | refine sP14 ?_ | refine sP15 ?_) | exact sub_refl | refine sP0 ?_ | refine sP1 ?_ | refine sP2 ?_ | refine sP3 ?_ | refine sP4 ?_ | refine sP5 ?_ | refine sP6 ?_ | refine sP7 ?_ | refine sP8 ?_ | refine sP9 ?_ | refine sP10 ?_ | refine sP11 ?_ | refine sP12 ?_ | refine sP13 ?_ | refine sP14 ?_ | refine sP15 ?_ | refine sub_drop ?_))
 obtain rfl | rfl | rfl | rfl | rfl | rfl | rfl | rfl | rfl | rfl | rfl | rfl:=lt12 hi
 ·simp only [ltr]
  have y:((99:Int) == 99)=true:=rfl
  (try simp only [fa_39_1,Nat.zero_add,fa_39_2,fa_39_3,fa_39_4,fa_39_5,fa_39_6,fa_39_7,fa_39_8,fa_39_9,fa_39_10,fa_39_11,fa_39_12,o_eql,Int.reduceBEq,condF,y,condT])
  refine (pairC Z hS).mono fun r w3 hq=>?_
  rcases hq with ⟨a,b,ha,hb,he,hh,hu,rfl,hS⟩ | ⟨a,b,hno,rfl,off',e',he',hS⟩
  ·(try simp only [o_ext2_1,o_ext2_0])
   refine r_build (cells:=(zx a b).toArray) (by kernel_rfl) ?_
   refine r_storeN (hS.pick 1) ag25 (xs:=zx a b) rfl (show 1+2≤32 by omega) (zx_ones _ _) fun w4 hS=>?_
   have hS:St o w4 (blk g1 39 ({ p with cb:=a,ct:=b }:Pk).cells::RefR g all (off+8) 0::blk g2 39 pz.cells::RSt { p with cb:=a,ct:=b } R):=hS
   refine J _ { p with cb:=a,ct:=b } (off+8) 0 (by unfold RSt; unfold RSt at hS; (refine Sh.St.sub ?_ (hS); repeat (first | with_reducible (first | exact sub_refl | exact sub_nil | refine sP0 ?_ | refine sP1 ?_ | refine sP2 ?_ | refine sP3 ?_ | refine sP4 ?_ | refine sP5 ?_ | refine sP6 ?_ | refine sP7 ?_ | refine sP8 ?_ | refine sP9 ?_ | refine sP10 ?_ | refine sP11 ?_ | refine sP12 ?_ | refine sP13 ?_ | refine sP14 ?_ | refine sP15 ?_) | exact sub_refl | refine sP0 ?_ | refine sP1 ?_ | refine sP2 ?_ | refine sP3 ?_ | refine sP4 ?_ | refine sP5 ?_ | refine sP6 ?_ | refine sP7 ?_ | refine sP8 ?_ | refine sP9 ?_ | refine sP10 ?_ | refine sP11 ?_ | refine sP12 ?_ | refine sP13 ?_ | refine sP14 ?_ | refine sP15 ?_ | refine sub_drop ?_))) fun w' hS=>.inl ⟨{ p with cb:=a,ct:=b },rfl,rfl,fun j hj hne=>by
    have hi:=hj
    obtain rfl | rfl | rfl | rfl | rfl | rfl | rfl | rfl | rfl | rfl | rfl | rfl:=lt12 hi <;> first | exact absurd rfl hne | exact ⟨rfl,rfl⟩ | rfl,{ hw he with cb:=ha,ct:=hb },he,hh,fun y hy _ hyh=>hu _ _ hy.cb hy.ct hyh,?_⟩
   have e:(fb { p with cb:=a,ct:=b } 0).length=8:=by simp [fb,enc_length]
   rw [e]
   exact hS
  ·(try simp only [o_ext2_1,o_ext2_0])
   refine r_build (cells:=(zx a b).toArray) (by kernel_rfl) ?_
   refine r_storeN (hS.pick 1) ag25 (xs:=zx a b) rfl (show 1+2≤32 by omega) (zx_ones _ _) fun w4 hS=>?_
   have hS:St o w4 (blk g1 39 ({ p with cb:=a,ct:=b }:Pk).cells::RefR g all off' e'::blk g2 39 pz.cells::RSt { p with cb:=a,ct:=b } R):=hS
   exact J _ { p with cb:=a,ct:=b } off' e' (by unfold RSt; unfold RSt at hS; (refine Sh.St.sub ?_ (hS); repeat (first | with_reducible (first | exact sub_refl | exact sub_nil | refine sP0 ?_ | refine sP1 ?_ | refine sP2 ?_ | refine sP3 ?_ | refine sP4 ?_ | refine sP5 ?_ | refine sP6 ?_ | refine sP7 ?_ | refine sP8 ?_ | refine sP9 ?_ | refine sP10 ?_ | refine sP11 ?_ | refine sP12 ?_ | refine sP13 ?_ | refine sP14 ?_ | refine sP15 ?_) | exact sub_refl | refine sP0 ?_ | refine sP1 ?_ | refine sP2 ?_ | refine sP3 ?_ | refine sP4 ?_ | refine sP5 ?_ | refine sP6 ?_ | refine sP7 ?_ | refine sP8 ?_ | refine sP9 ?_ | refine sP10 ?_ | refine sP11 ?_ | refine sP12 ?_ | refine sP13 ?_ | refine sP14 ?_ | refine sP15 ?_ | refine sub_drop ?_))) fun w' hS=>.inr ⟨{ p with cb:=a,ct:=b },rfl,fun y hy _ hyh=>hno _ _ hy.cb hy.ct hyh,off',e',he',hS⟩
 ·simp only [ltr]
  have n0:((108:Int) == 99)=false:=rfl
  have y:((108:Int) == 108)=true:=rfl
  (try simp only [fa_39_1,Nat.zero_add,fa_39_2,fa_39_3,fa_39_4,fa_39_5,fa_39_6,fa_39_7,fa_39_8,fa_39_9,fa_39_10,fa_39_11,fa_39_12,o_eql,Int.reduceBEq,condF,y,condT,n0])
  refine (pairC Z hS).mono fun r w3 hq=>?_
  rcases hq with ⟨a,b,ha,hb,he,hh,hu,rfl,hS⟩ | ⟨a,b,hno,rfl,off',e',he',hS⟩
  ·(try simp only [o_ext2_1,o_ext2_0])
   refine r_build (cells:=(zx a b).toArray) (by kernel_rfl) ?_
   refine r_storeN (hS.pick 1) ag25 (xs:=zx a b) rfl (show 3+2≤32 by omega) (zx_ones _ _) fun w4 hS=>?_
   have hS:St o w4 (blk g1 39 ({ p with lb:=a,lt:=b }:Pk).cells::RefR g all (off+8) 0::blk g2 39 pz.cells::RSt { p with lb:=a,lt:=b } R):=hS
   refine J _ { p with lb:=a,lt:=b } (off+8) 0 (by unfold RSt; unfold RSt at hS; (refine Sh.St.sub ?_ (hS); repeat (first | with_reducible (first | exact sub_refl | exact sub_nil | refine sP0 ?_ | refine sP1 ?_ | refine sP2 ?_ | refine sP3 ?_ | refine sP4 ?_ | refine sP5 ?_ | refine sP6 ?_ | refine sP7 ?_ | refine sP8 ?_ | refine sP9 ?_ | refine sP10 ?_ | refine sP11 ?_ | refine sP12 ?_ | refine sP13 ?_ | refine sP14 ?_ | refine sP15 ?_) | exact sub_refl | refine sP0 ?_ | refine sP1 ?_ | refine sP2 ?_ | refine sP3 ?_ | refine sP4 ?_ | refine sP5 ?_ | refine sP6 ?_ | refine sP7 ?_ | refine sP8 ?_ | refine sP9 ?_ | refine sP10 ?_ | refine sP11 ?_ | refine sP12 ?_ | refine sP13 ?_ | refine sP14 ?_ | refine sP15 ?_ | refine sub_drop ?_))) fun w' hS=>.inl ⟨{ p with lb:=a,lt:=b },rfl,rfl,fun j hj hne=>by
    have hi:=hj
    obtain rfl | rfl | rfl | rfl | rfl | rfl | rfl | rfl | rfl | rfl | rfl | rfl:=lt12 hi <;> first | exact absurd rfl hne | exact ⟨rfl,rfl⟩ | rfl,{ hw he with lb:=ha,lt:=hb },he,hh,fun y hy _ hyh=>hu _ _ hy.lb hy.lt hyh,?_⟩
   have e:(fb { p with lb:=a,lt:=b } 1).length=8:=by simp [fb,enc_length]
   rw [e]
   exact hS
  ·(try simp only [o_ext2_1,o_ext2_0])
   refine r_build (cells:=(zx a b).toArray) (by kernel_rfl) ?_
   refine r_storeN (hS.pick 1) ag25 (xs:=zx a b) rfl (show 3+2≤32 by omega) (zx_ones _ _) fun w4 hS=>?_
   have hS:St o w4 (blk g1 39 ({ p with lb:=a,lt:=b }:Pk).cells::RefR g all off' e'::blk g2 39 pz.cells::RSt { p with lb:=a,lt:=b } R):=hS
   exact J _ { p with lb:=a,lt:=b } off' e' (by unfold RSt; unfold RSt at hS; (refine Sh.St.sub ?_ (hS); repeat (first | with_reducible (first | exact sub_refl | exact sub_nil | refine sP0 ?_ | refine sP1 ?_ | refine sP2 ?_ | refine sP3 ?_ | refine sP4 ?_ | refine sP5 ?_ | refine sP6 ?_ | refine sP7 ?_ | refine sP8 ?_ | refine sP9 ?_ | refine sP10 ?_ | refine sP11 ?_ | refine sP12 ?_ | refine sP13 ?_ | refine sP14 ?_ | refine sP15 ?_) | exact sub_refl | refine sP0 ?_ | refine sP1 ?_ | refine sP2 ?_ | refine sP3 ?_ | refine sP4 ?_ | refine sP5 ?_ | refine sP6 ?_ | refine sP7 ?_ | refine sP8 ?_ | refine sP9 ?_ | refine sP10 ?_ | refine sP11 ?_ | refine sP12 ?_ | refine sP13 ?_ | refine sP14 ?_ | refine sP15 ?_ | refine sub_drop ?_))) fun w' hS=>.inr ⟨{ p with lb:=a,lt:=b },rfl,fun y hy _ hyh=>hno _ _ hy.lb hy.lt hyh,off',e',he',hS⟩
 ·simp only [ltr]
  have n0:((112:Int) == 99)=false:=rfl
  have n1:((112:Int) == 108)=false:=rfl
  have y:((112:Int) == 112)=true:=rfl
  (try simp only [fa_39_1,Nat.zero_add,fa_39_2,fa_39_3,fa_39_4,fa_39_5,fa_39_6,fa_39_7,fa_39_8,fa_39_9,fa_39_10,fa_39_11,fa_39_12,o_eql,Int.reduceBEq,condF,y,condT,n1,n0])
  refine (dgInt64 Z hS).mono fun r w3 hq=>?_
  rcases hq with ⟨a,ha,he,hh,hu,rfl,hS⟩ | ⟨rfl,hno,off',e',he',hS⟩
  ·(try simp only [])
   refine r_store (hS.pick 1) one2 (show 5 < 32 by omega) rfl fun w4 hS=>?_
   have hS:St o w4 (blk g1 39 ({ p with pl:=a }:Pk).cells::RefR g all (off+(fb { p with pl:=a } 2).length) 0::blk g2 39 pz.cells::RSt { p with pl:=a } R):=hS
   exact J _ { p with pl:=a } _ 0 (by unfold RSt; unfold RSt at hS; (refine Sh.St.sub ?_ (hS); repeat (first | with_reducible (first | exact sub_refl | exact sub_nil | refine sP0 ?_ | refine sP1 ?_ | refine sP2 ?_ | refine sP3 ?_ | refine sP4 ?_ | refine sP5 ?_ | refine sP6 ?_ | refine sP7 ?_ | refine sP8 ?_ | refine sP9 ?_ | refine sP10 ?_ | refine sP11 ?_ | refine sP12 ?_ | refine sP13 ?_ | refine sP14 ?_ | refine sP15 ?_) | exact sub_refl | refine sP0 ?_ | refine sP1 ?_ | refine sP2 ?_ | refine sP3 ?_ | refine sP4 ?_ | refine sP5 ?_ | refine sP6 ?_ | refine sP7 ?_ | refine sP8 ?_ | refine sP9 ?_ | refine sP10 ?_ | refine sP11 ?_ | refine sP12 ?_ | refine sP13 ?_ | refine sP14 ?_ | refine sP15 ?_ | refine sub_drop ?_))) fun w' hS=>.inl ⟨{ p with pl:=a },rfl,rfl,fun j hj hne=>by
    have hi:=hj
    obtain rfl | rfl | rfl | rfl | rfl | rfl | rfl | rfl | rfl | rfl | rfl | rfl:=lt12 hi <;> first | exact absurd rfl hne | exact ⟨rfl,rfl⟩ | rfl,{ hw he with pl:=ha },he,hh,fun y hy _ hyh=>hu _ hy.pl hyh,hS⟩
  ·skip
   refine r_store (hS.pick 1) one2 (show 5 < 32 by omega) rfl fun w4 hS=>?_
   have hS:St o w4 (blk g1 39 ({ p with pl:=0 }:Pk).cells::RefR g all off' e'::blk g2 39 pz.cells::RSt { p with pl:=0 } R):=hS
   exact J _ { p with pl:=0 } off' e' (by unfold RSt; unfold RSt at hS; (refine Sh.St.sub ?_ (hS); repeat (first | with_reducible (first | exact sub_refl | exact sub_nil | refine sP0 ?_ | refine sP1 ?_ | refine sP2 ?_ | refine sP3 ?_ | refine sP4 ?_ | refine sP5 ?_ | refine sP6 ?_ | refine sP7 ?_ | refine sP8 ?_ | refine sP9 ?_ | refine sP10 ?_ | refine sP11 ?_ | refine sP12 ?_ | refine sP13 ?_ | refine sP14 ?_ | refine sP15 ?_) | exact sub_refl | refine sP0 ?_ | refine sP1 ?_ | refine sP2 ?_ | refine sP3 ?_ | refine sP4 ?_ | refine sP5 ?_ | refine sP6 ?_ | refine sP7 ?_ | refine sP8 ?_ | refine sP9 ?_ | refine sP10 ?_ | refine sP11 ?_ | refine sP12 ?_ | refine sP13 ?_ | refine sP14 ?_ | refine sP15 ?_ | refine sub_drop ?_))) fun w' hS=>.inr ⟨{ p with pl:=0 },rfl,fun y hy _ hyh=>hno _ hy.pl hyh,off',e',he',hS⟩
 ·simp only [ltr]
  have n0:((101:Int) == 99)=false:=rfl
  have n1:((101:Int) == 108)=false:=rfl
  have n2:((101:Int) == 112)=false:=rfl
  have y:((101:Int) == 101)=true:=rfl
  (try simp only [fa_39_1,Nat.zero_add,fa_39_2,fa_39_3,fa_39_4,fa_39_5,fa_39_6,fa_39_7,fa_39_8,fa_39_9,fa_39_10,fa_39_11,fa_39_12,o_eql,Int.reduceBEq,condF,y,condT,n2,n1,n0])
  refine (dgUint32 Z hS).mono fun r w3 hq=>?_
  rcases hq with ⟨a,ha,he,hh,hu,rfl,hS⟩ | ⟨rfl,hno,off',e',he',hS⟩
  ·(try simp only [])
   refine r_store (hS.pick 1) one23 (show 6 < 32 by omega) rfl fun w4 hS=>?_
   have hS:St o w4 (blk g1 39 ({ p with ep:=a }:Pk).cells::RefR g all (off+(fb { p with ep:=a } 3).length) 0::blk g2 39 pz.cells::RSt { p with ep:=a } R):=hS
   exact J _ { p with ep:=a } _ 0 (by unfold RSt; unfold RSt at hS; (refine Sh.St.sub ?_ (hS); repeat (first | with_reducible (first | exact sub_refl | exact sub_nil | refine sP0 ?_ | refine sP1 ?_ | refine sP2 ?_ | refine sP3 ?_ | refine sP4 ?_ | refine sP5 ?_ | refine sP6 ?_ | refine sP7 ?_ | refine sP8 ?_ | refine sP9 ?_ | refine sP10 ?_ | refine sP11 ?_ | refine sP12 ?_ | refine sP13 ?_ | refine sP14 ?_ | refine sP15 ?_) | exact sub_refl | refine sP0 ?_ | refine sP1 ?_ | refine sP2 ?_ | refine sP3 ?_ | refine sP4 ?_ | refine sP5 ?_ | refine sP6 ?_ | refine sP7 ?_ | refine sP8 ?_ | refine sP9 ?_ | refine sP10 ?_ | refine sP11 ?_ | refine sP12 ?_ | refine sP13 ?_ | refine sP14 ?_ | refine sP15 ?_ | refine sub_drop ?_))) fun w' hS=>.inl ⟨{ p with ep:=a },rfl,rfl,fun j hj hne=>by
    have hi:=hj
    obtain rfl | rfl | rfl | rfl | rfl | rfl | rfl | rfl | rfl | rfl | rfl | rfl:=lt12 hi <;> first | exact absurd rfl hne | exact ⟨rfl,rfl⟩ | rfl,{ hw he with ep:=ha },he,hh,fun y hy _ hyh=>hu _ hy.ep hyh,hS⟩
  ·skip
   refine r_store (hS.pick 1) one23 (show 6 < 32 by omega) rfl fun w4 hS=>?_
   have hS:St o w4 (blk g1 39 ({ p with ep:=0 }:Pk).cells::RefR g all off' e'::blk g2 39 pz.cells::RSt { p with ep:=0 } R):=hS
   exact J _ { p with ep:=0 } off' e' (by unfold RSt; unfold RSt at hS; (refine Sh.St.sub ?_ (hS); repeat (first | with_reducible (first | exact sub_refl | exact sub_nil | refine sP0 ?_ | refine sP1 ?_ | refine sP2 ?_ | refine sP3 ?_ | refine sP4 ?_ | refine sP5 ?_ | refine sP6 ?_ | refine sP7 ?_ | refine sP8 ?_ | refine sP9 ?_ | refine sP10 ?_ | refine sP11 ?_ | refine sP12 ?_ | refine sP13 ?_ | refine sP14 ?_ | refine sP15 ?_) | exact sub_refl | refine sP0 ?_ | refine sP1 ?_ | refine sP2 ?_ | refine sP3 ?_ | refine sP4 ?_ | refine sP5 ?_ | refine sP6 ?_ | refine sP7 ?_ | refine sP8 ?_ | refine sP9 ?_ | refine sP10 ?_ | refine sP11 ?_ | refine sP12 ?_ | refine sP13 ?_ | refine sP14 ?_ | refine sP15 ?_ | refine sub_drop ?_))) fun w' hS=>.inr ⟨{ p with ep:=0 },rfl,fun y hy _ hyh=>hno _ hy.ep hyh,off',e',he',hS⟩
 ·simp only [ltr]
  have n0:((117:Int) == 99)=false:=rfl
  have n1:((117:Int) == 108)=false:=rfl
  have n2:((117:Int) == 112)=false:=rfl
  have n3:((117:Int) == 101)=false:=rfl
  have y:((117:Int) == 117)=true:=rfl
  (try simp only [fa_39_1,Nat.zero_add,fa_39_2,fa_39_3,fa_39_4,fa_39_5,fa_39_6,fa_39_7,fa_39_8,fa_39_9,fa_39_10,fa_39_11,fa_39_12,o_eql,Int.reduceBEq,condF,y,condT,n3,n2,n1,n0])
  refine (dgUint32 Z hS).mono fun r w3 hq=>?_
  rcases hq with ⟨a,ha,he,hh,hu,rfl,hS⟩ | ⟨rfl,hno,off',e',he',hS⟩
  ·(try simp only [])
   refine r_store (hS.pick 1) one23 (show 7 < 32 by omega) rfl fun w4 hS=>?_
   have hS:St o w4 (blk g1 39 ({ p with cu:=a }:Pk).cells::RefR g all (off+(fb { p with cu:=a } 4).length) 0::blk g2 39 pz.cells::RSt { p with cu:=a } R):=hS
   exact J _ { p with cu:=a } _ 0 (by unfold RSt; unfold RSt at hS; (refine Sh.St.sub ?_ (hS); repeat (first | with_reducible (first | exact sub_refl | exact sub_nil | refine sP0 ?_ | refine sP1 ?_ | refine sP2 ?_ | refine sP3 ?_ | refine sP4 ?_ | refine sP5 ?_ | refine sP6 ?_ | refine sP7 ?_ | refine sP8 ?_ | refine sP9 ?_ | refine sP10 ?_ | refine sP11 ?_ | refine sP12 ?_ | refine sP13 ?_ | refine sP14 ?_ | refine sP15 ?_) | exact sub_refl | refine sP0 ?_ | refine sP1 ?_ | refine sP2 ?_ | refine sP3 ?_ | refine sP4 ?_ | refine sP5 ?_ | refine sP6 ?_ | refine sP7 ?_ | refine sP8 ?_ | refine sP9 ?_ | refine sP10 ?_ | refine sP11 ?_ | refine sP12 ?_ | refine sP13 ?_ | refine sP14 ?_ | refine sP15 ?_ | refine sub_drop ?_))) fun w' hS=>.inl ⟨{ p with cu:=a },rfl,rfl,fun j hj hne=>by
    have hi:=hj
    obtain rfl | rfl | rfl | rfl | rfl | rfl | rfl | rfl | rfl | rfl | rfl | rfl:=lt12 hi <;> first | exact absurd rfl hne | exact ⟨rfl,rfl⟩ | rfl,{ hw he with cu:=ha },he,hh,fun y hy _ hyh=>hu _ hy.cu hyh,hS⟩
  ·skip
   refine r_store (hS.pick 1) one23 (show 7 < 32 by omega) rfl fun w4 hS=>?_
   have hS:St o w4 (blk g1 39 ({ p with cu:=0 }:Pk).cells::RefR g all off' e'::blk g2 39 pz.cells::RSt { p with cu:=0 } R):=hS
   exact J _ { p with cu:=0 } off' e' (by unfold RSt; unfold RSt at hS; (refine Sh.St.sub ?_ (hS); repeat (first | with_reducible (first | exact sub_refl | exact sub_nil | refine sP0 ?_ | refine sP1 ?_ | refine sP2 ?_ | refine sP3 ?_ | refine sP4 ?_ | refine sP5 ?_ | refine sP6 ?_ | refine sP7 ?_ | refine sP8 ?_ | refine sP9 ?_ | refine sP10 ?_ | refine sP11 ?_ | refine sP12 ?_ | refine sP13 ?_ | refine sP14 ?_ | refine sP15 ?_) | exact sub_refl | refine sP0 ?_ | refine sP1 ?_ | refine sP2 ?_ | refine sP3 ?_ | refine sP4 ?_ | refine sP5 ?_ | refine sP6 ?_ | refine sP7 ?_ | refine sP8 ?_ | refine sP9 ?_ | refine sP10 ?_ | refine sP11 ?_ | refine sP12 ?_ | refine sP13 ?_ | refine sP14 ?_ | refine sP15 ?_ | refine sub_drop ?_))) fun w' hS=>.inr ⟨{ p with cu:=0 },rfl,fun y hy _ hyh=>hno _ hy.cu hyh,off',e',he',hS⟩
 ·simp only [ltr]
  have n0:((122:Int) == 99)=false:=rfl
  have n1:((122:Int) == 108)=false:=rfl
  have n2:((122:Int) == 112)=false:=rfl
  have n3:((122:Int) == 101)=false:=rfl
  have n4:((122:Int) == 117)=false:=rfl
  have y:((122:Int) == 122)=true:=rfl
  (try simp only [fa_39_1,Nat.zero_add,fa_39_2,fa_39_3,fa_39_4,fa_39_5,fa_39_6,fa_39_7,fa_39_8,fa_39_9,fa_39_10,fa_39_11,fa_39_12,o_eql,Int.reduceBEq,condF,y,condT,n4,n3,n2,n1,n0])
  refine (pairC Z hS).mono fun r w3 hq=>?_
  rcases hq with ⟨a,b,ha,hb,he,hh,hu,rfl,hS⟩ | ⟨a,b,hno,rfl,off',e',he',hS⟩
  ·(try simp only [o_ext2_1,o_ext2_0])
   refine r_build (cells:=(zx a b).toArray) (by kernel_rfl) ?_
   refine r_storeN (hS.pick 1) ag27 (xs:=zx a b) rfl (show 8+2≤32 by omega) (zx_ones _ _) fun w4 hS=>?_
   have hS:St o w4 (blk g1 39 ({ p with ze:=a,zn:=b }:Pk).cells::RefR g all (off+8) 0::blk g2 39 pz.cells::RSt { p with ze:=a,zn:=b } R):=hS
   refine J _ { p with ze:=a,zn:=b } (off+8) 0 (by unfold RSt; unfold RSt at hS; (refine Sh.St.sub ?_ (hS); repeat (first | with_reducible (first | exact sub_refl | exact sub_nil | refine sP0 ?_ | refine sP1 ?_ | refine sP2 ?_ | refine sP3 ?_ | refine sP4 ?_ | refine sP5 ?_ | refine sP6 ?_ | refine sP7 ?_ | refine sP8 ?_ | refine sP9 ?_ | refine sP10 ?_ | refine sP11 ?_ | refine sP12 ?_ | refine sP13 ?_ | refine sP14 ?_ | refine sP15 ?_) | exact sub_refl | refine sP0 ?_ | refine sP1 ?_ | refine sP2 ?_ | refine sP3 ?_ | refine sP4 ?_ | refine sP5 ?_ | refine sP6 ?_ | refine sP7 ?_ | refine sP8 ?_ | refine sP9 ?_ | refine sP10 ?_ | refine sP11 ?_ | refine sP12 ?_ | refine sP13 ?_ | refine sP14 ?_ | refine sP15 ?_ | refine sub_drop ?_))) fun w' hS=>.inl ⟨{ p with ze:=a,zn:=b },rfl,rfl,fun j hj hne=>by
    have hi:=hj
    obtain rfl | rfl | rfl | rfl | rfl | rfl | rfl | rfl | rfl | rfl | rfl | rfl:=lt12 hi <;> first | exact absurd rfl hne | exact ⟨rfl,rfl⟩ | rfl,{ hw he with ze:=ha,zn:=hb },he,hh,fun y hy _ hyh=>hu _ _ hy.ze hy.zn hyh,?_⟩
   have e:(fb { p with ze:=a,zn:=b } 5).length=8:=by simp [fb,enc_length]
   rw [e]
   exact hS
  ·(try simp only [o_ext2_1,o_ext2_0])
   refine r_build (cells:=(zx a b).toArray) (by kernel_rfl) ?_
   refine r_storeN (hS.pick 1) ag27 (xs:=zx a b) rfl (show 8+2≤32 by omega) (zx_ones _ _) fun w4 hS=>?_
   have hS:St o w4 (blk g1 39 ({ p with ze:=a,zn:=b }:Pk).cells::RefR g all off' e'::blk g2 39 pz.cells::RSt { p with ze:=a,zn:=b } R):=hS
   exact J _ { p with ze:=a,zn:=b } off' e' (by unfold RSt; unfold RSt at hS; (refine Sh.St.sub ?_ (hS); repeat (first | with_reducible (first | exact sub_refl | exact sub_nil | refine sP0 ?_ | refine sP1 ?_ | refine sP2 ?_ | refine sP3 ?_ | refine sP4 ?_ | refine sP5 ?_ | refine sP6 ?_ | refine sP7 ?_ | refine sP8 ?_ | refine sP9 ?_ | refine sP10 ?_ | refine sP11 ?_ | refine sP12 ?_ | refine sP13 ?_ | refine sP14 ?_ | refine sP15 ?_) | exact sub_refl | refine sP0 ?_ | refine sP1 ?_ | refine sP2 ?_ | refine sP3 ?_ | refine sP4 ?_ | refine sP5 ?_ | refine sP6 ?_ | refine sP7 ?_ | refine sP8 ?_ | refine sP9 ?_ | refine sP10 ?_ | refine sP11 ?_ | refine sP12 ?_ | refine sP13 ?_ | refine sP14 ?_ | refine sP15 ?_ | refine sub_drop ?_))) fun w' hS=>.inr ⟨{ p with ze:=a,zn:=b },rfl,fun y hy _ hyh=>hno _ _ hy.ze hy.zn hyh,off',e',he',hS⟩
 ·simp only [ltr]
  have n0:((118:Int) == 99)=false:=rfl
  have n1:((118:Int) == 108)=false:=rfl
  have n2:((118:Int) == 112)=false:=rfl
  have n3:((118:Int) == 101)=false:=rfl
  have n4:((118:Int) == 117)=false:=rfl
  have n5:((118:Int) == 122)=false:=rfl
  have y:((118:Int) == 118)=true:=rfl
  (try simp only [fa_39_1,Nat.zero_add,fa_39_2,fa_39_3,fa_39_4,fa_39_5,fa_39_6,fa_39_7,fa_39_8,fa_39_9,fa_39_10,fa_39_11,fa_39_12,o_eql,Int.reduceBEq,condF,y,condT,n5,n4,n3,n2,n1,n0])
  refine (pairC Z hS).mono fun r w3 hq=>?_
  rcases hq with ⟨a,b,ha,hb,he,hh,hu,rfl,hS⟩ | ⟨a,b,hno,rfl,off',e',he',hS⟩
  ·(try simp only [o_ext2_1,o_ext2_0])
   refine r_build (cells:=(zx a b).toArray) (by kernel_rfl) ?_
   refine r_storeN (hS.pick 1) ag27 (xs:=zx a b) rfl (show 10+2≤32 by omega) (zx_ones _ _) fun w4 hS=>?_
   have hS:St o w4 (blk g1 39 ({ p with ve:=a,vn:=b }:Pk).cells::RefR g all (off+8) 0::blk g2 39 pz.cells::RSt { p with ve:=a,vn:=b } R):=hS
   refine J _ { p with ve:=a,vn:=b } (off+8) 0 (by unfold RSt; unfold RSt at hS; (refine Sh.St.sub ?_ (hS); repeat (first | with_reducible (first | exact sub_refl | exact sub_nil | refine sP0 ?_ | refine sP1 ?_ | refine sP2 ?_ | refine sP3 ?_ | refine sP4 ?_ | refine sP5 ?_ | refine sP6 ?_ | refine sP7 ?_ | refine sP8 ?_ | refine sP9 ?_ | refine sP10 ?_ | refine sP11 ?_ | refine sP12 ?_ | refine sP13 ?_ | refine sP14 ?_ | refine sP15 ?_) | exact sub_refl | refine sP0 ?_ | refine sP1 ?_ | refine sP2 ?_ | refine sP3 ?_ | refine sP4 ?_ | refine sP5 ?_ | refine sP6 ?_ | refine sP7 ?_ | refine sP8 ?_ | refine sP9 ?_ | refine sP10 ?_ | refine sP11 ?_ | refine sP12 ?_ | refine sP13 ?_ | refine sP14 ?_ | refine sP15 ?_ | refine sub_drop ?_))) fun w' hS=>.inl ⟨{ p with ve:=a,vn:=b },rfl,rfl,fun j hj hne=>by
    have hi:=hj
    obtain rfl | rfl | rfl | rfl | rfl | rfl | rfl | rfl | rfl | rfl | rfl | rfl:=lt12 hi <;> first | exact absurd rfl hne | exact ⟨rfl,rfl⟩ | rfl,{ hw he with ve:=ha,vn:=hb },he,hh,fun y hy _ hyh=>hu _ _ hy.ve hy.vn hyh,?_⟩
   have e:(fb { p with ve:=a,vn:=b } 6).length=8:=by simp [fb,enc_length]
   rw [e]
   exact hS
  ·(try simp only [o_ext2_1,o_ext2_0])
   refine r_build (cells:=(zx a b).toArray) (by kernel_rfl) ?_
   refine r_storeN (hS.pick 1) ag27 (xs:=zx a b) rfl (show 10+2≤32 by omega) (zx_ones _ _) fun w4 hS=>?_
   have hS:St o w4 (blk g1 39 ({ p with ve:=a,vn:=b }:Pk).cells::RefR g all off' e'::blk g2 39 pz.cells::RSt { p with ve:=a,vn:=b } R):=hS
   exact J _ { p with ve:=a,vn:=b } off' e' (by unfold RSt; unfold RSt at hS; (refine Sh.St.sub ?_ (hS); repeat (first | with_reducible (first | exact sub_refl | exact sub_nil | refine sP0 ?_ | refine sP1 ?_ | refine sP2 ?_ | refine sP3 ?_ | refine sP4 ?_ | refine sP5 ?_ | refine sP6 ?_ | refine sP7 ?_ | refine sP8 ?_ | refine sP9 ?_ | refine sP10 ?_ | refine sP11 ?_ | refine sP12 ?_ | refine sP13 ?_ | refine sP14 ?_ | refine sP15 ?_) | exact sub_refl | refine sP0 ?_ | refine sP1 ?_ | refine sP2 ?_ | refine sP3 ?_ | refine sP4 ?_ | refine sP5 ?_ | refine sP6 ?_ | refine sP7 ?_ | refine sP8 ?_ | refine sP9 ?_ | refine sP10 ?_ | refine sP11 ?_ | refine sP12 ?_ | refine sP13 ?_ | refine sP14 ?_ | refine sP15 ?_ | refine sub_drop ?_))) fun w' hS=>.inr ⟨{ p with ve:=a,vn:=b },rfl,fun y hy _ hyh=>hno _ _ hy.ve hy.vn hyh,off',e',he',hS⟩
 ·simp only [ltr]
  have n0:((111:Int) == 99)=false:=rfl
  have n1:((111:Int) == 108)=false:=rfl
  have n2:((111:Int) == 112)=false:=rfl
  have n3:((111:Int) == 101)=false:=rfl
  have n4:((111:Int) == 117)=false:=rfl
  have n5:((111:Int) == 122)=false:=rfl
  have n6:((111:Int) == 118)=false:=rfl
  have y:((111:Int) == 111)=true:=rfl
  (try simp only [fa_39_1,Nat.zero_add,fa_39_2,fa_39_3,fa_39_4,fa_39_5,fa_39_6,fa_39_7,fa_39_8,fa_39_9,fa_39_10,fa_39_11,fa_39_12,o_eql,Int.reduceBEq,condF,y,condT,n6,n5,n4,n3,n2,n1,n0])
  refine (dgBool Z hS).mono fun r w3 hq=>?_
  rcases hq with ⟨a,ha,he,hh,hu,rfl,hS⟩ | ⟨rfl,hno,off',e',he',hS⟩
  ·(try simp only [])
   refine r_store (hS.pick 1) one4 (show 12 < 32 by omega) rfl fun w4 hS=>?_
   have hS:St o w4 (blk g1 39 ({ p with co:=a }:Pk).cells::RefR g all (off+(fb { p with co:=a } 7).length) 0::blk g2 39 pz.cells::RSt { p with co:=a } R):=hS
   exact J _ { p with co:=a } _ 0 (by unfold RSt; unfold RSt at hS; (refine Sh.St.sub ?_ (hS); repeat (first | with_reducible (first | exact sub_refl | exact sub_nil | refine sP0 ?_ | refine sP1 ?_ | refine sP2 ?_ | refine sP3 ?_ | refine sP4 ?_ | refine sP5 ?_ | refine sP6 ?_ | refine sP7 ?_ | refine sP8 ?_ | refine sP9 ?_ | refine sP10 ?_ | refine sP11 ?_ | refine sP12 ?_ | refine sP13 ?_ | refine sP14 ?_ | refine sP15 ?_) | exact sub_refl | refine sP0 ?_ | refine sP1 ?_ | refine sP2 ?_ | refine sP3 ?_ | refine sP4 ?_ | refine sP5 ?_ | refine sP6 ?_ | refine sP7 ?_ | refine sP8 ?_ | refine sP9 ?_ | refine sP10 ?_ | refine sP11 ?_ | refine sP12 ?_ | refine sP13 ?_ | refine sP14 ?_ | refine sP15 ?_ | refine sub_drop ?_))) fun w' hS=>.inl ⟨{ p with co:=a },rfl,rfl,fun j hj hne=>by
    have hi:=hj
    obtain rfl | rfl | rfl | rfl | rfl | rfl | rfl | rfl | rfl | rfl | rfl | rfl:=lt12 hi <;> first | exact absurd rfl hne | exact ⟨rfl,rfl⟩ | rfl,{ hw he with },he,hh,fun y hy _ hyh=>hu _ trivial hyh,hS⟩
  ·skip
   refine r_store (hS.pick 1) one4 (show 12 < 32 by omega) rfl fun w4 hS=>?_
   have hS:St o w4 (blk g1 39 ({ p with co:=false }:Pk).cells::RefR g all off' e'::blk g2 39 pz.cells::RSt { p with co:=false } R):=hS
   exact J _ { p with co:=false } off' e' (by unfold RSt; unfold RSt at hS; (refine Sh.St.sub ?_ (hS); repeat (first | with_reducible (first | exact sub_refl | exact sub_nil | refine sP0 ?_ | refine sP1 ?_ | refine sP2 ?_ | refine sP3 ?_ | refine sP4 ?_ | refine sP5 ?_ | refine sP6 ?_ | refine sP7 ?_ | refine sP8 ?_ | refine sP9 ?_ | refine sP10 ?_ | refine sP11 ?_ | refine sP12 ?_ | refine sP13 ?_ | refine sP14 ?_ | refine sP15 ?_) | exact sub_refl | refine sP0 ?_ | refine sP1 ?_ | refine sP2 ?_ | refine sP3 ?_ | refine sP4 ?_ | refine sP5 ?_ | refine sP6 ?_ | refine sP7 ?_ | refine sP8 ?_ | refine sP9 ?_ | refine sP10 ?_ | refine sP11 ?_ | refine sP12 ?_ | refine sP13 ?_ | refine sP14 ?_ | refine sP15 ?_ | refine sub_drop ?_))) fun w' hS=>.inr ⟨{ p with co:=false },rfl,fun y hy _ hyh=>hno _ trivial hyh,off',e',he',hS⟩
 ·simp only [ltr]
  have n0:((102:Int) == 99)=false:=rfl
  have n1:((102:Int) == 108)=false:=rfl
  have n2:((102:Int) == 112)=false:=rfl
  have n3:((102:Int) == 101)=false:=rfl
  have n4:((102:Int) == 117)=false:=rfl
  have n5:((102:Int) == 122)=false:=rfl
  have n6:((102:Int) == 118)=false:=rfl
  have n7:((102:Int) == 111)=false:=rfl
  have y:((102:Int) == 102)=true:=rfl
  (try simp only [fa_39_1,Nat.zero_add,fa_39_2,fa_39_3,fa_39_4,fa_39_5,fa_39_6,fa_39_7,fa_39_8,fa_39_9,fa_39_10,fa_39_11,fa_39_12,o_eql,Int.reduceBEq,condF,y,condT,n7,n6,n5,n4,n3,n2,n1,n0])
  refine (dgBool Z hS).mono fun r w3 hq=>?_
  rcases hq with ⟨a,ha,he,hh,hu,rfl,hS⟩ | ⟨rfl,hno,off',e',he',hS⟩
  ·(try simp only [])
   refine r_store (hS.pick 1) one4 (show 13 < 32 by omega) rfl fun w4 hS=>?_
   have hS:St o w4 (blk g1 39 ({ p with fi:=a }:Pk).cells::RefR g all (off+(fb { p with fi:=a } 8).length) 0::blk g2 39 pz.cells::RSt { p with fi:=a } R):=hS
   exact J _ { p with fi:=a } _ 0 (by unfold RSt; unfold RSt at hS; (refine Sh.St.sub ?_ (hS); repeat (first | with_reducible (first | exact sub_refl | exact sub_nil | refine sP0 ?_ | refine sP1 ?_ | refine sP2 ?_ | refine sP3 ?_ | refine sP4 ?_ | refine sP5 ?_ | refine sP6 ?_ | refine sP7 ?_ | refine sP8 ?_ | refine sP9 ?_ | refine sP10 ?_ | refine sP11 ?_ | refine sP12 ?_ | refine sP13 ?_ | refine sP14 ?_ | refine sP15 ?_) | exact sub_refl | refine sP0 ?_ | refine sP1 ?_ | refine sP2 ?_ | refine sP3 ?_ | refine sP4 ?_ | refine sP5 ?_ | refine sP6 ?_ | refine sP7 ?_ | refine sP8 ?_ | refine sP9 ?_ | refine sP10 ?_ | refine sP11 ?_ | refine sP12 ?_ | refine sP13 ?_ | refine sP14 ?_ | refine sP15 ?_ | refine sub_drop ?_))) fun w' hS=>.inl ⟨{ p with fi:=a },rfl,rfl,fun j hj hne=>by
    have hi:=hj
    obtain rfl | rfl | rfl | rfl | rfl | rfl | rfl | rfl | rfl | rfl | rfl | rfl:=lt12 hi <;> first | exact absurd rfl hne | exact ⟨rfl,rfl⟩ | rfl,{ hw he with },he,hh,fun y hy _ hyh=>hu _ trivial hyh,hS⟩
  ·skip
   refine r_store (hS.pick 1) one4 (show 13 < 32 by omega) rfl fun w4 hS=>?_
   have hS:St o w4 (blk g1 39 ({ p with fi:=false }:Pk).cells::RefR g all off' e'::blk g2 39 pz.cells::RSt { p with fi:=false } R):=hS
   exact J _ { p with fi:=false } off' e' (by unfold RSt; unfold RSt at hS; (refine Sh.St.sub ?_ (hS); repeat (first | with_reducible (first | exact sub_refl | exact sub_nil | refine sP0 ?_ | refine sP1 ?_ | refine sP2 ?_ | refine sP3 ?_ | refine sP4 ?_ | refine sP5 ?_ | refine sP6 ?_ | refine sP7 ?_ | refine sP8 ?_ | refine sP9 ?_ | refine sP10 ?_ | refine sP11 ?_ | refine sP12 ?_ | refine sP13 ?_ | refine sP14 ?_ | refine sP15 ?_) | exact sub_refl | refine sP0 ?_ | refine sP1 ?_ | refine sP2 ?_ | refine sP3 ?_ | refine sP4 ?_ | refine sP5 ?_ | refine sP6 ?_ | refine sP7 ?_ | refine sP8 ?_ | refine sP9 ?_ | refine sP10 ?_ | refine sP11 ?_ | refine sP12 ?_ | refine sP13 ?_ | refine sP14 ?_ | refine sP15 ?_ | refine sub_drop ?_))) fun w' hS=>.inr ⟨{ p with fi:=false },rfl,fun y hy _ hyh=>hno _ trivial hyh,off',e',he',hS⟩
 ·simp only [ltr]
  have n0:((116:Int) == 99)=false:=rfl
  have n1:((116:Int) == 108)=false:=rfl
  have n2:((116:Int) == 112)=false:=rfl
  have n3:((116:Int) == 101)=false:=rfl
  have n4:((116:Int) == 117)=false:=rfl
  have n5:((116:Int) == 122)=false:=rfl
  have n6:((116:Int) == 118)=false:=rfl
  have n7:((116:Int) == 111)=false:=rfl
  have n8:((116:Int) == 102)=false:=rfl
  have y:((116:Int) == 116)=true:=rfl
  (try simp only [fa_39_1,Nat.zero_add,fa_39_2,fa_39_3,fa_39_4,fa_39_5,fa_39_6,fa_39_7,fa_39_8,fa_39_9,fa_39_10,fa_39_11,fa_39_12,o_eql,Int.reduceBEq,condF,y,condT,n8,n7,n6,n5,n4,n3,n2,n1,n0])
  have hct:∀y:Pk,rt y 9=true→chkT y.t=true:=fun y hr=>(Bool.and_eq_true_iff.1 (show (chkT y.t && (if y.kd=13 then ((y.t.e == 0) && (y.t.n == 0)) && decide (0 < y.t.nu) else decide (cmpZ y.ve y.vn y.t.e y.t.n < 0)))=true from hr)).1
  have hok:∀y:Pk,rt y 9=true→okL 4096 (txB y.t):=fun y hr=>by
   have:=txB_len (hct y hr)
   exact ⟨by omega,by omega⟩
  have h40:((40:Int) != 0)=true:=rfl
  have h00:((0:Int) != 0)=false:=rfl
  have J2:∀(w:World) (t:Tx) (et:Int) (off':Nat) (e':Int) (rb:Value) (nb:Nat) (kb:List Value),St o w (OwQ t.q::own 5 1 rb nb kb::RefR g all off' e'::blk g1 39 p.cells::blk g2 39 pz.cells::RSt p R) →
    (et=0∧(∀w',St o w' (RefR g all off' e'::RSt { p with t:=t } R)→GotR 9 p g all off err o R (.agg ({ p with t:=t }:Pk).cells.toArray) w'))∨(et=40∧∀y,WfP y→rt y 9=true→¬ (err=0∧Has all off (fb y 9))) →
    rN π Z (Instr.alloc 37 true (.tuple #[])) w fun t50 w=>rO π Z (Instr.storeAt 37 t50 (.agg t.cells.toArray)) w fun w=>rN π Z (Instr.loadAt 37 t50) w fun t51 w=>rO π Z (Instr.storeAt 37 (.pointer (some ⟨g1,14,none⟩)) t51) w fun w=>
     (et ≠ 0→CallV π Z 213 #[.pointer (some ⟨g,0,none⟩),.int .i64 150] w fun t54 w=>j3 w)∧(et=0→j3 w):=by
   intro w t et off' e' rb nb kb hS hc
   have hto:ones t.cells:=txC_ones (OwQ.rd _ hS).ones
   refine r_alloc hS ze37 fun g5 w3 hS=>?_
   refine r_storeN hS ag37 (xs:=t.cells) (Tx.cells_len _) (show 0+16≤16 from Nat.le_refl _) hto fun w4 hS=>?_
   rw [setL_all _ _ (by rfl)] at hS
   refine r_loadN ag37 (xs:=t.cells) (Tx.cells_len _) (hS.cells_at m0 0 (whole_at _)) ?_
   refine r_storeN (hS.pick 4) ag37 (xs:=t.cells) (Tx.cells_len _) (show 14+16≤32 by omega) hto fun w5 hS=>?_
   have e14:setL p.cells 14 t.cells=({ p with t:=t }:Pk).cells:=setL_mid p.hd p.t.cells t.cells _ rfl
   rw [e14] at hS
   have hS:St o w5 (RefR g all off' e'::blk g2 39 pz.cells::blk g1 39 ({ p with t:=t }:Pk).cells::OwQ t.q::own 5 1 p.bv p.b.length (cb p.b)::R):=by unfold RSt at hS; (refine Sh.St.sub ?_ (hS); repeat (first | with_reducible (first | exact sub_refl | exact sub_nil | refine sP0 ?_ | refine sP1 ?_ | refine sP2 ?_ | refine sP3 ?_ | refine sP4 ?_ | refine sP5 ?_ | refine sP6 ?_ | refine sP7 ?_ | refine sP8 ?_ | refine sP9 ?_ | refine sP10 ?_ | refine sP11 ?_ | refine sP12 ?_ | refine sP13 ?_ | refine sP14 ?_ | refine sP15 ?_) | exact sub_refl | refine sP0 ?_ | refine sP1 ?_ | refine sP2 ?_ | refine sP3 ?_ | refine sP4 ?_ | refine sP5 ?_ | refine sP6 ?_ | refine sP7 ?_ | refine sP8 ?_ | refine sP9 ?_ | refine sP10 ?_ | refine sP11 ?_ | refine sP12 ?_ | refine sP13 ?_ | refine sP14 ?_ | refine sP15 ?_ | refine sub_drop ?_))
   rcases hc with ⟨rfl,hk⟩ | ⟨rfl,hno⟩
   ·exact ⟨fun h=>absurd rfl h,fun _=>J _ { p with t:=t } off' e' (by unfold RSt; (refine Sh.St.sub ?_ (hS); repeat (first | with_reducible (first | exact sub_refl | exact sub_nil | refine sP0 ?_ | refine sP1 ?_ | refine sP2 ?_ | refine sP3 ?_ | refine sP4 ?_ | refine sP5 ?_ | refine sP6 ?_ | refine sP7 ?_ | refine sP8 ?_ | refine sP9 ?_ | refine sP10 ?_ | refine sP11 ?_ | refine sP12 ?_ | refine sP13 ?_ | refine sP14 ?_ | refine sP15 ?_) | exact sub_refl | refine sP0 ?_ | refine sP1 ?_ | refine sP2 ?_ | refine sP3 ?_ | refine sP4 ?_ | refine sP5 ?_ | refine sP6 ?_ | refine sP7 ?_ | refine sP8 ?_ | refine sP9 ?_ | refine sP10 ?_ | refine sP11 ?_ | refine sP12 ?_ | refine sP13 ?_ | refine sP14 ?_ | refine sP15 ?_ | refine sub_drop ?_))) hk⟩
   ·refine ⟨fun _=>?_,fun h=>by omega⟩
    refine (dFail Z 150 hS).mono fun r w6 hS=>?_
    have hne:(if e'=0 then (150:Int) else e') ≠ 0:=by split <;> omega
    exact J _ { p with t:=t } off' _ (by unfold RSt; (refine Sh.St.sub ?_ (hS); repeat (first | with_reducible (first | exact sub_refl | exact sub_nil | refine sP0 ?_ | refine sP1 ?_ | refine sP2 ?_ | refine sP3 ?_ | refine sP4 ?_ | refine sP5 ?_ | refine sP6 ?_ | refine sP7 ?_ | refine sP8 ?_ | refine sP9 ?_ | refine sP10 ?_ | refine sP11 ?_ | refine sP12 ?_ | refine sP13 ?_ | refine sP14 ?_ | refine sP15 ?_) | exact sub_refl | refine sP0 ?_ | refine sP1 ?_ | refine sP2 ?_ | refine sP3 ?_ | refine sP4 ?_ | refine sP5 ?_ | refine sP6 ?_ | refine sP7 ?_ | refine sP8 ?_ | refine sP9 ?_ | refine sP10 ?_ | refine sP11 ?_ | refine sP12 ?_ | refine sP13 ?_ | refine sP14 ?_ | refine sP15 ?_ | refine sub_drop ?_))) fun w' hS=>.inr ⟨{ p with t:=t },rfl,hno,off',_,hne,hS⟩
  refine (dgBuf Z 4096 hS).mono fun r w3 hq=>?_
  rcases hq with ⟨k,hk,he,hh,hu,hS⟩ | ⟨hno,off',e',he',hS⟩
  ·refine (readY Z (n:=k.length) (l:=k) (Ent.own (e:=5) m0) (by have:=hk.2; omega) hS).mono fun r2 w4 ⟨t,et,hr2,ht,hS⟩=>?_
   subst hr2
   (try simp only [o_ext2_1,o_neq,cond_bne,o_ext2_0])
   rcases ht with ⟨h1,h2,h3,h4,rfl⟩ | ⟨hnone,rfl,rfl⟩
   ·subst h3
    refine J2 _ t 0 _ 0 r _ _ hS (.inl ⟨rfl,fun w' hS=>.inl ⟨{ p with t:=t },rfl,rfl,fun j hj hne=>by
    have hi:=hj
    obtain rfl | rfl | rfl | rfl | rfl | rfl | rfl | rfl | rfl | rfl | rfl | rfl:=lt12 hi <;> first | exact absurd rfl hne | exact ⟨rfl,rfl⟩ | rfl,{ hw he with h:=h1.1,q:=okR_wf h1.2 },he,hh,fun y hy hr hyh=>?_,hS⟩⟩)
    have e:=hu _ (hok y hr) hyh
    have hyt:=okT_chk (hct y hr) hy.h hy.q
    obtain ⟨a,b⟩:=h4 y.t hyt ⟨[],by rw [List.append_nil]; exact e.symm⟩
    exact ⟨a,st_of_key hyt.2 h1.2 b⟩
   ·refine J2 _ tz 40 _ 0 r _ _ hS (.inr ⟨rfl,fun y hy hr ⟨_,hyh⟩=>?_⟩)
    have e:=hu _ (hok y hr) hyh
    exact hnone y.t (okT_chk (hct y hr) hy.h hy.q) (hct y hr) e.symm
  ·refine (readY Z (n:=0) (l:=[]) (Ent.own (e:=5) m0) (by simp) hS).mono fun r2 w4 ⟨t,et,hr2,ht,hS⟩=>?_
   subst hr2
   (try simp only [o_ext2_1,o_neq,cond_bne,o_ext2_0])
   rcases ht with ⟨h1,h2,h3,h4,rfl⟩ | ⟨hnone,rfl,rfl⟩
   ·have:=txB_pos t
    rw [← h3] at this
    simp at this
   ·exact J2 _ tz 40 off' e' r _ _ hS (.inr ⟨rfl,fun y hy hr hyh=>hno _ (hok y hr) hyh⟩)
 ·simp only [ltr]
  have n0:((98:Int) == 99)=false:=rfl
  have n1:((98:Int) == 108)=false:=rfl
  have n2:((98:Int) == 112)=false:=rfl
  have n3:((98:Int) == 101)=false:=rfl
  have n4:((98:Int) == 117)=false:=rfl
  have n5:((98:Int) == 122)=false:=rfl
  have n6:((98:Int) == 118)=false:=rfl
  have n7:((98:Int) == 111)=false:=rfl
  have n8:((98:Int) == 102)=false:=rfl
  have n9:((98:Int) == 116)=false:=rfl
  have y:((98:Int) == 98)=true:=rfl
  (try simp only [fa_39_1,Nat.zero_add,fa_39_2,fa_39_3,fa_39_4,fa_39_5,fa_39_6,fa_39_7,fa_39_8,fa_39_9,fa_39_10,fa_39_11,fa_39_12,o_eql,Int.reduceBEq,condF,y,condT,n9,n8,n7,n6,n5,n4,n3,n2,n1,n0])
  have hok:∀y:Pk,rt y 10=true→okL 4096 y.b:=fun y hr=>by
   have h:(decide (0 < (y.b.length:Int)) && decide ((y.b.length:Int)≤4096))=true:=hr
   have h2:=of_decide_eq_true (Bool.and_eq_true_iff.1 h).2
   exact ⟨h2,by omega⟩
  refine (dgBuf Z 4096 hS).mono fun r w3 hq=>?_
  rcases hq with ⟨k,hk,he,hh,hu,hS⟩ | ⟨hno,off',e',he',hS⟩
  ·have h1:=St.own_one hS
   skip
   refine r_store (hS.pick 2) one30 (show 30 < 32 by omega) h1 fun w4 hS=>?_
   have hS:St o w4 (blk g1 39 ({ p with bv:=r,b:=k }:Pk).cells::own 5 1 r k.length (cb k)::RefR g all (off+(encL k).length) 0::blk g2 39 pz.cells::OwQ p.t.q::own 5 1 p.bv p.b.length (cb p.b)::R):=hS
   exact J _ { p with bv:=r,b:=k } _ 0 (by unfold RSt; (refine Sh.St.sub ?_ (hS); repeat (first | with_reducible (first | exact sub_refl | exact sub_nil | refine sP0 ?_ | refine sP1 ?_ | refine sP2 ?_ | refine sP3 ?_ | refine sP4 ?_ | refine sP5 ?_ | refine sP6 ?_ | refine sP7 ?_ | refine sP8 ?_ | refine sP9 ?_ | refine sP10 ?_ | refine sP11 ?_ | refine sP12 ?_ | refine sP13 ?_ | refine sP14 ?_ | refine sP15 ?_) | exact sub_refl | refine sP0 ?_ | refine sP1 ?_ | refine sP2 ?_ | refine sP3 ?_ | refine sP4 ?_ | refine sP5 ?_ | refine sP6 ?_ | refine sP7 ?_ | refine sP8 ?_ | refine sP9 ?_ | refine sP10 ?_ | refine sP11 ?_ | refine sP12 ?_ | refine sP13 ?_ | refine sP14 ?_ | refine sP15 ?_ | refine sub_drop ?_))) fun w' hS=>.inl ⟨{ p with bv:=r,b:=k },rfl,rfl,fun j hj hne=>by
    have hi:=hj
    obtain rfl | rfl | rfl | rfl | rfl | rfl | rfl | rfl | rfl | rfl | rfl | rfl:=lt12 hi <;> first | exact absurd rfl hne | exact ⟨rfl,rfl⟩ | rfl,{ hw he with b:=by have:=hk.2; show k.length≤_; omega },he,hh,fun y hy hr hyh=>hu _ (hok y hr) hyh,hS⟩
  ·have h1:=St.own_one hS
   skip
   refine r_store (hS.pick 2) one30 (show 30 < 32 by omega) h1 fun w4 hS=>?_
   have hS:St o w4 (blk g1 39 ({ p with bv:=r,b:=[] }:Pk).cells::own 5 1 r 0 (cb [])::RefR g all off' e'::blk g2 39 pz.cells::OwQ p.t.q::own 5 1 p.bv p.b.length (cb p.b)::R):=hS
   exact J _ { p with bv:=r,b:=[] } off' e' (by unfold RSt; (refine Sh.St.sub ?_ (hS); repeat (first | with_reducible (first | exact sub_refl | exact sub_nil | refine sP0 ?_ | refine sP1 ?_ | refine sP2 ?_ | refine sP3 ?_ | refine sP4 ?_ | refine sP5 ?_ | refine sP6 ?_ | refine sP7 ?_ | refine sP8 ?_ | refine sP9 ?_ | refine sP10 ?_ | refine sP11 ?_ | refine sP12 ?_ | refine sP13 ?_ | refine sP14 ?_ | refine sP15 ?_) | exact sub_refl | refine sP0 ?_ | refine sP1 ?_ | refine sP2 ?_ | refine sP3 ?_ | refine sP4 ?_ | refine sP5 ?_ | refine sP6 ?_ | refine sP7 ?_ | refine sP8 ?_ | refine sP9 ?_ | refine sP10 ?_ | refine sP11 ?_ | refine sP12 ?_ | refine sP13 ?_ | refine sP14 ?_ | refine sP15 ?_ | refine sub_drop ?_))) fun w' hS=>.inr ⟨{ p with bv:=r,b:=[] },rfl,fun y hy hr hyh=>hno _ (hok y hr) hyh,off',e',he',hS⟩
 ·simp only [ltr]
  have n0:((115:Int) == 99)=false:=rfl
  have n1:((115:Int) == 108)=false:=rfl
  have n2:((115:Int) == 112)=false:=rfl
  have n3:((115:Int) == 101)=false:=rfl
  have n4:((115:Int) == 117)=false:=rfl
  have n5:((115:Int) == 122)=false:=rfl
  have n6:((115:Int) == 118)=false:=rfl
  have n7:((115:Int) == 111)=false:=rfl
  have n8:((115:Int) == 102)=false:=rfl
  have n9:((115:Int) == 116)=false:=rfl
  have n10:((115:Int) == 98)=false:=rfl
  have y:((115:Int) == 115)=true:=rfl
  (try simp only [fa_39_1,Nat.zero_add,fa_39_2,fa_39_3,fa_39_4,fa_39_5,fa_39_6,fa_39_7,fa_39_8,fa_39_9,fa_39_10,fa_39_11,fa_39_12,o_eql,y,condT,n10,condF,n9,n8,n7,n6,n5,n4,n3,n2,n1,n0])
  refine (dgInt64 Z hS).mono fun r w3 hq=>?_
  rcases hq with ⟨a,ha,he,hh,hu,rfl,hS⟩ | ⟨rfl,hno,off',e',he',hS⟩
  ·(try simp only [])
   refine r_store (hS.pick 1) one2 (show 31 < 32 by omega) rfl fun w4 hS=>?_
   have hS:St o w4 (blk g1 39 ({ p with se:=a }:Pk).cells::RefR g all (off+(fb { p with se:=a } 11).length) 0::blk g2 39 pz.cells::RSt { p with se:=a } R):=hS
   exact J _ { p with se:=a } _ 0 (by unfold RSt; unfold RSt at hS; (refine Sh.St.sub ?_ (hS); repeat (first | with_reducible (first | exact sub_refl | exact sub_nil | refine sP0 ?_ | refine sP1 ?_ | refine sP2 ?_ | refine sP3 ?_ | refine sP4 ?_ | refine sP5 ?_ | refine sP6 ?_ | refine sP7 ?_ | refine sP8 ?_ | refine sP9 ?_ | refine sP10 ?_ | refine sP11 ?_ | refine sP12 ?_ | refine sP13 ?_ | refine sP14 ?_ | refine sP15 ?_) | exact sub_refl | refine sP0 ?_ | refine sP1 ?_ | refine sP2 ?_ | refine sP3 ?_ | refine sP4 ?_ | refine sP5 ?_ | refine sP6 ?_ | refine sP7 ?_ | refine sP8 ?_ | refine sP9 ?_ | refine sP10 ?_ | refine sP11 ?_ | refine sP12 ?_ | refine sP13 ?_ | refine sP14 ?_ | refine sP15 ?_ | refine sub_drop ?_))) fun w' hS=>.inl ⟨{ p with se:=a },rfl,rfl,fun j hj hne=>by
    have hi:=hj
    obtain rfl | rfl | rfl | rfl | rfl | rfl | rfl | rfl | rfl | rfl | rfl | rfl:=lt12 hi <;> first | exact absurd rfl hne | exact ⟨rfl,rfl⟩ | rfl,{ hw he with se:=ha },he,hh,fun y hy _ hyh=>hu _ hy.se hyh,hS⟩
  ·skip
   refine r_store (hS.pick 1) one2 (show 31 < 32 by omega) rfl fun w4 hS=>?_
   have hS:St o w4 (blk g1 39 ({ p with se:=0 }:Pk).cells::RefR g all off' e'::blk g2 39 pz.cells::RSt { p with se:=0 } R):=hS
   exact J _ { p with se:=0 } off' e' (by unfold RSt; unfold RSt at hS; (refine Sh.St.sub ?_ (hS); repeat (first | with_reducible (first | exact sub_refl | exact sub_nil | refine sP0 ?_ | refine sP1 ?_ | refine sP2 ?_ | refine sP3 ?_ | refine sP4 ?_ | refine sP5 ?_ | refine sP6 ?_ | refine sP7 ?_ | refine sP8 ?_ | refine sP9 ?_ | refine sP10 ?_ | refine sP11 ?_ | refine sP12 ?_ | refine sP13 ?_ | refine sP14 ?_ | refine sP15 ?_) | exact sub_refl | refine sP0 ?_ | refine sP1 ?_ | refine sP2 ?_ | refine sP3 ?_ | refine sP4 ?_ | refine sP5 ?_ | refine sP6 ?_ | refine sP7 ?_ | refine sP8 ?_ | refine sP9 ?_ | refine sP10 ?_ | refine sP11 ?_ | refine sP12 ?_ | refine sP13 ?_ | refine sP14 ?_ | refine sP15 ?_ | refine sub_drop ?_))) fun w' hS=>.inr ⟨{ p with se:=0 },rfl,fun y hy _ hyh=>hno _ hy.se hyh,off',e',he',hS⟩
end

import Derived.Test.YtfijkedmbaghmaaGreatDoorG13
import Derived.Test.YtfijkedmbaghmaaGreatDoorT38
import Derived.Test.YtfijkedmbaghmaaGreatDoorU1
/- Reference 15: part, Forged, Write. Printed by wip/sh/mkG15.py. -/
set_option linter.unusedVariables false
set_option linter.unusedSimpArgs false
namespace Go.Proofs.YtfijkedmbaghmaaGreatDoor
open Go.Sh
open Tryz renaming prog → π
def ixs (K n:Nat):List Nat:=(List.range n).filter (hasF K)
def ltrB (i:Nat):UInt8:=UInt8.ofNat (ltr i).toNat
theorem lets_fin:∀K:Fin 15,pLets K.1=(ixs K.1 12).map ltrB:=by decide +kernel
theorem pLets_ixs {kd:Int} (h:isKd kd=true):pLets kd=(ixs kd.toNat 12).map ltrB:=by
 have hK:=isKd_le h
 have h0:0≤kd:=by simp [isKd] at h; omega
 have:=lets_fin ⟨kd.toNat,by omega⟩
 have e:((kd.toNat:Nat):Int)=kd:=by omega
 rw [← this]
 simp only [e]
theorem ltrB_val:∀i:Fin 12,((ltrB i.1).toNat:Int)=ltr i.1:=by decide
theorem ixs_mem {K n i:Nat}:i ∈ ixs K n ↔ i < n∧hasF K i=true:=by simp [ixs]
theorem fpre_ixs (K:Nat) (p:Pk):∀n,fpre K p n=enc 1 p.kd++(ixs K n).flatMap (fb p)
 | 0=>by simp [fpre,ixs]
 | n+1=>by
  have ih:=fpre_ixs K p n
  unfold ixs at ih
  unfold ixs
  rw [fpre,ih,List.range_succ,List.filter_append,List.flatMap_append,List.append_assoc]
  cases h:hasF K n <;> simp [h]
section
variable (Z:PZ) {o w:World} {R As:List HProp} {g:Nat} {p:Pk}
theorem twoC (a b:Int) (ha:u32r a) (hb:u32r b) (h:St o w R):CallV π Z 176 #[.int .u32 a,.int .u32 b] w fun r w'=>St o w' (own 5 1 r (enc 4 a++enc 4 b).length (cb (enc 4 a++enc 4 b))::R):=by
 refine f176.calls ?_
 unfold f176.sh
 refine (refUint32 Z a ha h).mono fun r w1 hS=>?_
 refine (refUint32 Z b hb hS).mono fun r2 w2 hS=>?_
 have hS:St o w2 (own 5 1 r (enc 4 a).length (cb (enc 4 a))::own 5 1 r2 4 (cb (enc 4 b))::R):=by rw [enc_length]; exact hS.swap
 refine (pBehindC Z hS (Ent.own (e:=5) m0) (by rw [enc_length,enc_length]; omega)).mono fun r3 w3 hS=>?_
 (refine Sh.St.sub ?_ (hS); repeat (first | with_reducible (first | exact sub_refl | exact sub_nil | refine sP0 ?_ | refine sP1 ?_ | refine sP2 ?_ | refine sP3 ?_ | refine sP4 ?_ | refine sP5 ?_ | refine sP6 ?_ | refine sP7 ?_ | refine sP8 ?_ | refine sP9 ?_ | refine sP10 ?_ | refine sP11 ?_ | refine sP12 ?_ | refine sP13 ?_ | refine sP14 ?_ | refine sP15 ?_) | exact sub_refl | refine sP0 ?_ | refine sP1 ?_ | refine sP2 ?_ | refine sP3 ?_ | refine sP4 ?_ | refine sP5 ?_ | refine sP6 ?_ | refine sP7 ?_ | refine sP8 ?_ | refine sP9 ?_ | refine sP10 ?_ | refine sP11 ?_ | refine sP12 ?_ | refine sP13 ?_ | refine sP14 ?_ | refine sP15 ?_ | refine sub_drop ?_))
set_option maxRecDepth 100000 in
theorem partC {i:Nat} (hi:i < 12) (hr:rt p i=true) (hw:WfP p) (hx:Ent o R fun w=>RdP w p) (h:St o w R):CallV π Z 82 #[.agg p.cells.toArray,.int .u8 (ltr i)] w fun r w'=>St o w' (own 5 1 r (fb p i).length (cb (fb p i))::R):=by
 refine f82.calls ?_
 unfold f82.sh
 refine r_box _ _ h fun g w1 hS=>?_
 have hS:St o w1 (blk g 39 p.cells::R):=hS
 have hbuf:∀{w:World} {As:List HProp} {x:Value} {k:List UInt8},St o w As→(Ent o As fun w=>Rd w 1 x k.length (cb k))→k.length≤4096→CallV π Z 180 #[x] w fun r w'=>St o w' (own 5 1 r (encL k).length (cb (encL k))::As):=fun {w As x k} hS hx hk=>by
  refine (refBuffer Z hS hx (by omega)).mono fun r w2 hS=>?_
  have e:(encL k).length=4+k.length:=by unfold encL; rw [List.length_append,enc_length]
  rw [e]
  exact hS
 obtain rfl | rfl | rfl | rfl | rfl | rfl | rfl | rfl | rfl | rfl | rfl | rfl:=lt12 hi
 ·simp only [ltr]
  have y:((99:Int) == 99)=true:=rfl
  (try simp only [fa_39_1,Nat.zero_add,fa_25_1,fa_25_0,Nat.add_zero,fa_39_2,fa_39_3,fa_39_4,fa_39_5,fa_39_6,fa_27_1,fa_27_0,fa_39_7,fa_39_8,fa_39_9,fa_39_10,fa_39_11,fa_39_12,o_eql,Int.reduceBEq,condF,y,condT])
  refine r_load one23 (hS.at m0 1 rfl) ?_
  skip
  refine r_load one23 (hS.at m0 2 rfl) ?_
  refine (twoC Z p.cb p.ct hw.cb hw.ct hS).mono fun r w2 hS=>?_
  exact hS.swap.drop
 ·simp only [ltr]
  have n0:((108:Int) == 99)=false:=rfl
  have y:((108:Int) == 108)=true:=rfl
  (try simp only [fa_39_1,Nat.zero_add,fa_25_1,fa_25_0,Nat.add_zero,fa_39_2,fa_39_3,fa_39_4,fa_39_5,fa_39_6,fa_27_1,fa_27_0,fa_39_7,fa_39_8,fa_39_9,fa_39_10,fa_39_11,fa_39_12,o_eql,Int.reduceBEq,condF,y,condT,n0])
  refine r_load one23 (hS.at m0 3 rfl) ?_
  skip
  refine r_load one23 (hS.at m0 4 rfl) ?_
  refine (twoC Z p.lb p.lt hw.lb hw.lt hS).mono fun r w2 hS=>?_
  exact hS.swap.drop
 ·simp only [ltr]
  have n0:((112:Int) == 99)=false:=rfl
  have n1:((112:Int) == 108)=false:=rfl
  have y:((112:Int) == 112)=true:=rfl
  (try simp only [fa_39_1,Nat.zero_add,fa_25_1,fa_25_0,Nat.add_zero,fa_39_2,fa_39_3,fa_39_4,fa_39_5,fa_39_6,fa_27_1,fa_27_0,fa_39_7,fa_39_8,fa_39_9,fa_39_10,fa_39_11,fa_39_12,o_eql,Int.reduceBEq,condF,y,condT,n1,n0])
  refine r_load one2 (hS.at m0 5 rfl) ?_
  refine (refInt64 Z p.pl hw.pl hS).mono fun r w2 hS=>?_
  have hS:St o w2 (own 5 1 r (enc 8 p.pl).length (cb (enc 8 p.pl))::blk g 39 p.cells::R):=by rw [enc_length]; exact hS
  exact hS.swap.drop
 ·simp only [ltr]
  have n0:((101:Int) == 99)=false:=rfl
  have n1:((101:Int) == 108)=false:=rfl
  have n2:((101:Int) == 112)=false:=rfl
  have y:((101:Int) == 101)=true:=rfl
  (try simp only [fa_39_1,Nat.zero_add,fa_25_1,fa_25_0,Nat.add_zero,fa_39_2,fa_39_3,fa_39_4,fa_39_5,fa_39_6,fa_27_1,fa_27_0,fa_39_7,fa_39_8,fa_39_9,fa_39_10,fa_39_11,fa_39_12,o_eql,Int.reduceBEq,condF,y,condT,n2,n1,n0])
  refine r_load one23 (hS.at m0 6 rfl) ?_
  refine (refUint32 Z p.ep hw.ep hS).mono fun r w2 hS=>?_
  have hS:St o w2 (own 5 1 r (enc 4 p.ep).length (cb (enc 4 p.ep))::blk g 39 p.cells::R):=by rw [enc_length]; exact hS
  exact hS.swap.drop
 ·simp only [ltr]
  have n0:((117:Int) == 99)=false:=rfl
  have n1:((117:Int) == 108)=false:=rfl
  have n2:((117:Int) == 112)=false:=rfl
  have n3:((117:Int) == 101)=false:=rfl
  have y:((117:Int) == 117)=true:=rfl
  (try simp only [fa_39_1,Nat.zero_add,fa_25_1,fa_25_0,Nat.add_zero,fa_39_2,fa_39_3,fa_39_4,fa_39_5,fa_39_6,fa_27_1,fa_27_0,fa_39_7,fa_39_8,fa_39_9,fa_39_10,fa_39_11,fa_39_12,o_eql,Int.reduceBEq,condF,y,condT,n3,n2,n1,n0])
  refine r_load one23 (hS.at m0 7 rfl) ?_
  refine (refUint32 Z p.cu hw.cu hS).mono fun r w2 hS=>?_
  have hS:St o w2 (own 5 1 r (enc 4 p.cu).length (cb (enc 4 p.cu))::blk g 39 p.cells::R):=by rw [enc_length]; exact hS
  exact hS.swap.drop
 ·simp only [ltr]
  have n0:((122:Int) == 99)=false:=rfl
  have n1:((122:Int) == 108)=false:=rfl
  have n2:((122:Int) == 112)=false:=rfl
  have n3:((122:Int) == 101)=false:=rfl
  have n4:((122:Int) == 117)=false:=rfl
  have y:((122:Int) == 122)=true:=rfl
  (try simp only [fa_39_1,Nat.zero_add,fa_25_1,fa_25_0,Nat.add_zero,fa_39_2,fa_39_3,fa_39_4,fa_39_5,fa_39_6,fa_27_1,fa_27_0,fa_39_7,fa_39_8,fa_39_9,fa_39_10,fa_39_11,fa_39_12,o_eql,Int.reduceBEq,condF,y,condT,n4,n3,n2,n1,n0])
  refine r_load one23 (hS.at m0 8 rfl) ?_
  skip
  refine r_load one23 (hS.at m0 9 rfl) ?_
  refine (twoC Z p.ze p.zn hw.ze hw.zn hS).mono fun r w2 hS=>?_
  exact hS.swap.drop
 ·simp only [ltr]
  have n0:((118:Int) == 99)=false:=rfl
  have n1:((118:Int) == 108)=false:=rfl
  have n2:((118:Int) == 112)=false:=rfl
  have n3:((118:Int) == 101)=false:=rfl
  have n4:((118:Int) == 117)=false:=rfl
  have n5:((118:Int) == 122)=false:=rfl
  have y:((118:Int) == 118)=true:=rfl
  (try simp only [fa_39_1,Nat.zero_add,fa_25_1,fa_25_0,Nat.add_zero,fa_39_2,fa_39_3,fa_39_4,fa_39_5,fa_39_6,fa_27_1,fa_27_0,fa_39_7,fa_39_8,fa_39_9,fa_39_10,fa_39_11,fa_39_12,o_eql,Int.reduceBEq,condF,y,condT,n5,n4,n3,n2,n1,n0])
  refine r_load one23 (hS.at m0 10 rfl) ?_
  skip
  refine r_load one23 (hS.at m0 11 rfl) ?_
  refine (twoC Z p.ve p.vn hw.ve hw.vn hS).mono fun r w2 hS=>?_
  exact hS.swap.drop
 ·simp only [ltr]
  have n0:((111:Int) == 99)=false:=rfl
  have n1:((111:Int) == 108)=false:=rfl
  have n2:((111:Int) == 112)=false:=rfl
  have n3:((111:Int) == 101)=false:=rfl
  have n4:((111:Int) == 117)=false:=rfl
  have n5:((111:Int) == 122)=false:=rfl
  have n6:((111:Int) == 118)=false:=rfl
  have y:((111:Int) == 111)=true:=rfl
  (try simp only [fa_39_1,Nat.zero_add,fa_25_1,fa_25_0,Nat.add_zero,fa_39_2,fa_39_3,fa_39_4,fa_39_5,fa_39_6,fa_27_1,fa_27_0,fa_39_7,fa_39_8,fa_39_9,fa_39_10,fa_39_11,fa_39_12,o_eql,Int.reduceBEq,condF,y,condT,n6,n5,n4,n3,n2,n1,n0])
  refine r_load one4 (hS.at m0 12 rfl) ?_
  refine (refBool Z p.co hS).mono fun r w2 hS=>?_
  have hS:St o w2 (own 5 1 r (encB p.co).length (cb (encB p.co))::_):=hS
  exact hS.swap.drop
 ·simp only [ltr]
  have n0:((102:Int) == 99)=false:=rfl
  have n1:((102:Int) == 108)=false:=rfl
  have n2:((102:Int) == 112)=false:=rfl
  have n3:((102:Int) == 101)=false:=rfl
  have n4:((102:Int) == 117)=false:=rfl
  have n5:((102:Int) == 122)=false:=rfl
  have n6:((102:Int) == 118)=false:=rfl
  have n7:((102:Int) == 111)=false:=rfl
  have y:((102:Int) == 102)=true:=rfl
  (try simp only [fa_39_1,Nat.zero_add,fa_25_1,fa_25_0,Nat.add_zero,fa_39_2,fa_39_3,fa_39_4,fa_39_5,fa_39_6,fa_27_1,fa_27_0,fa_39_7,fa_39_8,fa_39_9,fa_39_10,fa_39_11,fa_39_12,o_eql,Int.reduceBEq,condF,y,condT,n7,n6,n5,n4,n3,n2,n1,n0])
  refine r_load one4 (hS.at m0 13 rfl) ?_
  refine (refBool Z p.fi hS).mono fun r w2 hS=>?_
  have hS:St o w2 (own 5 1 r (encB p.fi).length (cb (encB p.fi))::_):=hS
  exact hS.swap.drop
 ·simp only [ltr]
  have n0:((116:Int) == 99)=false:=rfl
  have n1:((116:Int) == 108)=false:=rfl
  have n2:((116:Int) == 112)=false:=rfl
  have n3:((116:Int) == 101)=false:=rfl
  have n4:((116:Int) == 117)=false:=rfl
  have n5:((116:Int) == 122)=false:=rfl
  have n6:((116:Int) == 118)=false:=rfl
  have n7:((116:Int) == 111)=false:=rfl
  have n8:((116:Int) == 102)=false:=rfl
  have y:((116:Int) == 116)=true:=rfl
  (try simp only [fa_39_1,Nat.zero_add,fa_25_1,fa_25_0,Nat.add_zero,fa_39_2,fa_39_3,fa_39_4,fa_39_5,fa_39_6,fa_27_1,fa_27_0,fa_39_7,fa_39_8,fa_39_9,fa_39_10,fa_39_11,fa_39_12,o_eql,Int.reduceBEq,condF,y,condT,n8,n7,n6,n5,n4,n3,n2,n1,n0])
  have hc:chkT p.t=true:=(Bool.and_eq_true_iff.1 (show (chkT p.t && (if p.kd=13 then ((p.t.e == 0) && (p.t.n == 0)) && decide (0 < p.t.nu) else decide (cmpZ p.ve p.vn p.t.e p.t.n < 0)))=true from hr)).1
  refine r_loadN ag37 (xs:=p.t.cells) (Tx.cells_len _) (hS.cells_at m0 14 (pk_tx p)) ?_
  refine (refWrite Z p.t hw.h hw.q (fun w hw=>(hx w hw.drop).t) hS).mono fun r w2 hq=>?_
  rw [if_pos hc] at hq
  obtain ⟨v,rfl,hS⟩:=hq
  (try simp only [o_ext2_1,o_ext2_0])
  refine (hbuf hS (Ent.own (e:=5) m0) (txB_len hc)).mono fun r w3 hS=>?_
  exact hS.swap.drop.swap.drop
 ·simp only [ltr]
  have n0:((98:Int) == 99)=false:=rfl
  have n1:((98:Int) == 108)=false:=rfl
  have n2:((98:Int) == 112)=false:=rfl
  have n3:((98:Int) == 101)=false:=rfl
  have n4:((98:Int) == 117)=false:=rfl
  have n5:((98:Int) == 122)=false:=rfl
  have n6:((98:Int) == 118)=false:=rfl
  have n7:((98:Int) == 111)=false:=rfl
  have n8:((98:Int) == 102)=false:=rfl
  have n9:((98:Int) == 116)=false:=rfl
  have y:((98:Int) == 98)=true:=rfl
  (try simp only [fa_39_1,Nat.zero_add,fa_25_1,fa_25_0,Nat.add_zero,fa_39_2,fa_39_3,fa_39_4,fa_39_5,fa_39_6,fa_27_1,fa_27_0,fa_39_7,fa_39_8,fa_39_9,fa_39_10,fa_39_11,fa_39_12,o_eql,y,condT,n9,condF,n8,n7,n6,n5,n4,n3,n2,n1,n0])
  have hb:p.b.length≤4096:=by have:=of_decide_eq_true (Bool.and_eq_true_iff.1 (show (decide (0 < (p.b.length:Int)) && decide ((p.b.length:Int)≤4096))=true from hr)).2; omega
  refine r_load one30 (hS.at m0 30 rfl) ?_
  refine (hbuf hS (fun w hw=>(hx w hw.drop).b) hb).mono fun r w3 hS=>?_
  exact hS.swap.drop
 ·simp only [ltr]
  have n0:((115:Int) == 99)=false:=rfl
  have n1:((115:Int) == 108)=false:=rfl
  have n2:((115:Int) == 112)=false:=rfl
  have n3:((115:Int) == 101)=false:=rfl
  have n4:((115:Int) == 117)=false:=rfl
  have n5:((115:Int) == 122)=false:=rfl
  have n6:((115:Int) == 118)=false:=rfl
  have n7:((115:Int) == 111)=false:=rfl
  have n8:((115:Int) == 102)=false:=rfl
  have n9:((115:Int) == 116)=false:=rfl
  have n10:((115:Int) == 98)=false:=rfl
  (try simp only [fa_39_1,Nat.zero_add,fa_25_1,fa_25_0,Nat.add_zero,fa_39_2,fa_39_3,fa_39_4,fa_39_5,fa_39_6,fa_27_1,fa_27_0,fa_39_7,fa_39_8,fa_39_9,fa_39_10,fa_39_11,fa_39_12,o_eql,n10,condF,n9,n8,n7,n6,n5,n4,n3,n2,n1,n0])
  refine r_load one2 (hS.at m0 31 rfl) ?_
  refine (refInt64 Z p.se hw.se hS).mono fun r w2 hS=>?_
  have hS:St o w2 (own 5 1 r (enc 8 p.se).length (cb (enc 8 p.se))::blk g 39 p.cells::R):=by rw [enc_length]; exact hS
  exact hS.swap.drop
theorem forgedC (hok:okP p=true) (hw:WfP p) (hx:Ent o R fun w=>RdP w p) (h:St o w R):CallV π Z 28 #[.agg p.cells.toArray] w fun r w'=>St o w' (own 5 1 r (pkB p).length (cb (pkB p))::R):=by
 refine f28.calls ?_
 unfold f28.sh
 refine r_box _ _ h fun g w1 hS=>?_
 have hS:St o w1 (blk g 39 p.cells::R):=hS
 have hkd:=(okP_iff.1 hok).1
 have hall:=(okP_iff.1 hok).2.2
 (try simp only [fa_39_0,Nat.add_zero])
 refine r_load one22 (hS.at m0 0 rfl) ?_
 refine (pLettersC Z p.kd).mono fun r w2 ⟨hr,hw2⟩=>?_
 subst hr; subst hw2
 refine r_load one22 (hS.at m0 0 rfl) ?_
 refine (refInt8 Z p.kd hw.kd hS).mono fun r w3 hS=>?_
 rw [pLets_ixs hkd]
 have hlx:((ixs p.kd.toNat 12).map ltrB).length=(ixs p.kd.toNat 12).length:=List.length_map ..
 have hix:(ixs p.kd.toNat 12).length≤12:=Nat.le_trans (List.length_filter_le ..) (by simp)
 obtain ⟨bs,hbs⟩:∃bs:Nat→List UInt8,bs=fun j=>enc 1 p.kd++((ixs p.kd.toNat 12).take j).flatMap (fb p):=⟨_,rfl⟩
 have hb0:bs 0=enc 1 p.kd:=by rw [hbs]; simp
 have hbE:bs (ixs p.kd.toNat 12).length=body p:=by rw [hbs]; simp only [List.take_length]; exact (fpre_ixs _ _ _).symm
 have hbS:∀j (hj:j < (ixs p.kd.toNat 12).length),bs (j+1)=bs j++fb p (ixs p.kd.toNat 12)[j]:=fun j hj=>by
  rw [hbs]
  simp only
  rw [List.take_succ_eq_append_getElem hj,List.flatMap_append,List.append_assoc]
  simp
 have hbl:∀j,j≤(ixs p.kd.toNat 12).length→(bs j).length≤60000:=fun j hj=>by
  have h1:(body p).length≤1+12 * 4200:=fpre_len hok hw 12 (by omega)
  rw [← hbE,hbs] at h1
  rw [hbs]
  simp only [List.take_length] at h1
  simp only
  have e:(ixs p.kd.toNat 12)=(ixs p.kd.toNat 12).take j++(ixs p.kd.toNat 12).drop j:=(List.take_append_drop j _).symm
  rw [e,List.flatMap_append] at h1
  simp only [List.length_append] at h1 ⊢
  omega
 clear hbs
 refine ⟨fun m x y w'=>∃j:Nat,y=.int .i64 j∧m+j=(ixs p.kd.toNat 12).length∧St o w' (own 5 1 x (bs j).length (cb (bs j))::blk g 39 p.cells::R),⟨(ixs p.kd.toNat 12).length,0,rfl,rfl,by rw [hb0,enc_length]; exact hS⟩,?_⟩
 clear hS
 rintro m x _ w4 ⟨j,rfl,hj,hS⟩ _
 by_cases hlt:(j:Int) < ((ixs p.kd.toNat 12).length:Int)
 ·have hjl:j < (ixs p.kd.toNat 12).length:=by omega
  have hmem:=ixs_mem.1 (List.getElem_mem hjl)
  (try simp only [o_add,ln_9_3,str_size,hlx,o_lss,hlt,decide_true,condT])
  refine ⟨fun w5 hd=>?_⟩
  have hS:=hS.drew hd
  refine rr_loadN ag39 (xs:=p.cells) rfl (hS.cells_at m1 0 (whole_at _)) ?_
  refine rp (fun w=>run_indexStr (by kernel_rfl) .i64 _ j (by rw [hlx]; exact hjl) w) ?_
  rw [List.getElem_map,ltrB_val ⟨_,hmem.1⟩]
  refine (partC Z hmem.1 (hall _ hmem.1 hmem.2) hw (fun w hw=>hx w hw.drop.drop) hS).mono fun r w6 hS=>?_
  have hb1:=hbS j hjl
  have hb2:=hbl (j+1) (by omega)
  rw [hb1,List.length_append] at hb2
  refine (pBehindC Z hS.swap (Ent.own (e:=5) m0) (by omega)).mono fun r2 w7 hS=>?_
  rw [← hb1] at hS
  skip
  rw [wr_i64 (x:=(j:Int)+1) (by omega) (by omega)]
  exact ⟨m - 1,by omega,j+1,rfl,by omega,hS.swap.drop⟩
 ·obtain rfl:j=(ixs p.kd.toNat 12).length:=by omega
  (try simp only [o_add,ln_9_3,str_size,hlx,o_lss,hlt,decide_false,condF])
  have hb2:=hbl _ (Nat.le_refl _)
  rw [hbE] at hS hb2
  refine (summedC Z hS (Ent.own (e:=5) m0) (by omega)).mono fun r2 w7 hS=>?_
  have hS:St o w7 (own 5 1 r2 (pkB p).length (cb (pkB p))::_):=hS
  (refine Sh.St.sub ?_ (hS); repeat (first | with_reducible (first | exact sub_refl | exact sub_nil | refine sP0 ?_ | refine sP1 ?_ | refine sP2 ?_ | refine sP3 ?_ | refine sP4 ?_ | refine sP5 ?_ | refine sP6 ?_ | refine sP7 ?_ | refine sP8 ?_ | refine sP9 ?_ | refine sP10 ?_ | refine sP11 ?_ | refine sP12 ?_ | refine sP13 ?_ | refine sP14 ?_ | refine sP15 ?_) | exact sub_refl | refine sP0 ?_ | refine sP1 ?_ | refine sP2 ?_ | refine sP3 ?_ | refine sP4 ?_ | refine sP5 ?_ | refine sP6 ?_ | refine sP7 ?_ | refine sP8 ?_ | refine sP9 ?_ | refine sP10 ?_ | refine sP11 ?_ | refine sP12 ?_ | refine sP13 ?_ | refine sP14 ?_ | refine sP15 ?_ | refine sub_drop ?_))
theorem refWriteP (hw:WfP p) (hx:Ent o R fun w=>RdP w p) (h:St o w R):CallV π Z 10 #[.agg p.cells.toArray] w fun r w'=>if okP p then ∃v,r=.tuple #[v,.int .i64 0]∧St o w' (own 5 1 v (pkB p).length (cb (pkB p))::R) else r=.tuple #[.slice none 0 0,.int .i64 150]∧St o w' R:=by
 refine f10.calls ?_
 unfold f10.sh
 refine r_box _ _ h fun g w1 hS=>?_
 have hS:St o w1 (blk g 39 p.cells::R):=hS
 refine r_loadN ag39 (xs:=p.cells) rfl (hS.cells_at m0 0 (whole_at _)) ?_
 refine (refChkP Z hw (fun w hw=>hx w hw.drop) hS).mono fun r w2 ⟨hr,hS⟩=>?_
 subst hr
 cases hok:okP p with
 | false=>
  rw [if_neg Bool.false_ne_true]
  have h150:((150:Int) != 0)=true:=rfl
  (try simp only [o_neq,h150,condT])
  rw [if_neg Bool.false_ne_true]
  exact ⟨by first | rfl | trivial,hS.drop⟩
 | true=>
  rw [if_pos rfl]
  have h00:((0:Int) != 0)=false:=rfl
  (try simp only [o_neq,h00,condF])
  simp only [if_true]
  refine r_loadN ag39 (xs:=p.cells) rfl (hS.cells_at m0 0 (whole_at _)) ?_
  refine (forgedC Z hok hw (fun w hw=>hx w hw.drop) hS).mono fun r w3 hS=>?_
  exact ⟨r,rfl,hS.swap.drop⟩
end
end Go.Proofs.YtfijkedmbaghmaaGreatDoor

/- Packets: wide ones, copies; what a Bag takes of them. -/
set_option linter.unusedVariables false
set_option linter.unusedSimpArgs false
namespace Go.Proofs.YtfijkedmbaghmaaGreatDoor
open Go.Sh
open Tryz renaming prog → π
theorem wide_ow {α:Type} {M:Nat→α} {C:α→List Value} {sz e g:Nat} {l:List α} (hC:∀x,(C x).length=sz) (hl:l.length+64≤maxLen) (h:Hp) (hb:blk g e ((wide M l).map C).flatten h):own e sz (wv g l.length) l.length (l.map C).flatten h:=by
 refine ⟨(len_flatten_of (sz:=sz) (fun d hd=>by obtain ⟨y,_,rfl⟩:=List.mem_map.1 hd; exact hC y)).trans (by rw [List.length_map]),.inr ⟨g,l.length+64,(((List.range 64).map fun j=>M (l.length+j)).map C).flatten,rfl,by omega,hl,?_,?_⟩⟩
 ·have:=wide_flat_len hC M l
  unfold wide at this
  rw [List.map_append,List.flatten_append] at this
  exact this
 ·unfold wide at hb
  rw [List.map_append,List.flatten_append] at hb
  exact hb
theorem wideB_ow {g:Nat} {l:List UInt8} (hl:l.length≤140737488351232) (h:Hp) (hb:blk g 5 (cb (l++marks l.length)) h):own 5 1 (wv g l.length) l.length (cb l) h:=by
 refine ⟨by rw [cb_length,Nat.mul_one],.inr ⟨g,l.length+64,cb (marks l.length),rfl,by omega,by simp only [maxLen]; omega,?_,?_⟩⟩
 ·rw [← cb_append,cb_length,List.length_append,marks_length,Nat.mul_one]
 ·rw [← cb_append]; exact hb
theorem WdQ.ow (q:Rq):WfQ q→∀h,WdQ q h→OwQ q h:=by
 induction q using Rq.ind with | h q ih=>?_
 intro hw h hq
 have hf:=hw.flat
 have h2:=hf.acl.1
 have h3:=hf.who.1
 have h4:=hw.len
 rw [WdQ_eq] at hq
 rw [OwQ_eq]
 obtain ⟨S,⟨g1,g2,g3,⟨e1,e2,e3⟩,T1,b1,T2,b2,b3⟩,T,⟨g,e,hb⟩,hl⟩:=hq
 refine ⟨S,⟨T1,?_,T2,?_,?_⟩,T,?_,?_⟩
 ·rw [e1]; exact wideB_ow hf.data _ b1
 ·rw [e2]; exact wide_ow (M:=enM) (C:=enC) (l:=q.f.acl) (fun x=>rfl) (by simp only [maxLen]; omega) _ b2
 ·rw [e3]; exact wide_ow (M:=idM) (C:=idC) (l:=q.f.who) (fun x=>rfl) (by simp only [maxLen]; omega) _ b3
 ·rw [e]; exact wide_ow (fun x=>Rq.cells_len x) (by simp only [maxLen]; omega) _ hb
 ·have key:∀(l:List Rq),(∀x ∈ l,∀h,WdQ x h→OwQ x h)→∀h,satH (l.map WdQ) h→satH (l.map OwQ) h:=by
   intro l
   induction l with
   | nil=>intro _ _ _; trivial
   | cons x l ihl=>
    intro hx h ⟨S,a,b⟩
    exact ⟨S,hx x List.mem_cons_self _ a,ihl (fun y hy=>hx y (List.mem_cons_of_mem _ hy)) _ b⟩
  exact key q.ops (fun x hx=>ih x hx (hw.all x hx)) _ hl
theorem sameP_symm {a c:Pk} (h:sameP a c):sameP c a:=⟨h.1.symm,fun i hi=>by
 have h:=h.2 i hi
 obtain rfl | rfl | rfl | rfl | rfl | rfl | rfl | rfl | rfl | rfl | rfl | rfl:=lt12 hi <;> first | exact ⟨h.1.symm,h.2.symm⟩ | exact Eq.symm h⟩
theorem zr_sameF {y p:Pk} {i:Nat} (hi:i < 12) (h:sameF y p i) (hz:zr y i=true):zr p i=true:=by
 obtain rfl | rfl | rfl | rfl | rfl | rfl | rfl | rfl | rfl | rfl | rfl | rfl:=lt12 hi
 ·have h1:y.cb=p.cb:=h.1; have h2:y.ct=p.ct:=h.2; unfold zr at hz ⊢; rw [← h1,← h2]; exact hz
 ·have h1:y.lb=p.lb:=h.1; have h2:y.lt=p.lt:=h.2; unfold zr at hz ⊢; rw [← h1,← h2]; exact hz
 ·have h1:y.pl=p.pl:=h; unfold zr at hz ⊢; rw [← h1]; exact hz
 ·have h1:y.ep=p.ep:=h; unfold zr at hz ⊢; rw [← h1]; exact hz
 ·have h1:y.cu=p.cu:=h; unfold zr at hz ⊢; rw [← h1]; exact hz
 ·have h1:y.ze=p.ze:=h.1; have h2:y.zn=p.zn:=h.2; unfold zr at hz ⊢; rw [← h1,← h2]; exact hz
 ·have h1:y.ve=p.ve:=h.1; have h2:y.vn=p.vn:=h.2; unfold zr at hz ⊢; rw [← h1,← h2]; exact hz
 ·have h1:y.co=p.co:=h; unfold zr at hz ⊢; rw [← h1]; exact hz
 ·have h1:y.fi=p.fi:=h; unfold zr at hz ⊢; rw [← h1]; exact hz
 ·have a:=zr9 hz
  exact zr_txn ⟨fun _=>⟨h.1.symm.trans a.1,h.2.symm.trans a.2⟩,fun _=>rfl⟩
 ·have h1:y.b=p.b:=h; unfold zr at hz ⊢; rw [← h1]; exact hz
 ·have h1:y.se=p.se:=h; unfold zr at hz ⊢; rw [← h1]; exact hz
theorem okP_of {y p:Pk} (h:sameP y p) (hy:okP y=true):okP p=true:=okP_same hy h.1 (fun i hi hh=>zr_sameF hi (h.2 i hi) (by
 have:=(bareB_iff _ _).1 (okP_iff.1 hy).2.1 i hi
 rw [h.1,hh] at this
 exact this)) fun i hi _=>h.2 i hi
theorem okP_eq {y p:Pk} (h:sameP y p):okP y=okP p:=by
 cases hy:okP y with
 | true=>exact (okP_of h hy).symm
 | false=>
  cases hp:okP p with
  | false=>rfl
  | true=>rw [okP_of (sameP_symm h) hp] at hy; cases hy
theorem pkB_eq {y p:Pk} (h:sameP y p):pkB y=pkB p:=by unfold pkB; rw [body_same h]
section
variable (Z:PZ) {o w:World} {R As:List HProp} {g:Nat} {p:Pk}
def Pk.wth (p:Pk) (t:Tx) (bv:Value) (b:List UInt8):Pk:={ p with t:=t,bv:=bv,b:=b }
theorem wth_wf {p:Pk} {t:Tx} {bv:Value} {b:List UInt8} (hw:WfP p) (hh:wfH t.hd) (hq:WfQ t.q) (hb:b.length≤140737488351232):WfP (p.wth t bv b):={ hw with h:=hh,q:=hq,b:=hb }
theorem wth_same {p:Pk} {t:Tx} {bv:Value} (h1:t.hd=p.t.hd) (h2:t.q.st=p.t.q.st):sameP (p.wth t bv p.b) p:=⟨rfl,fun i hi=>by
 obtain rfl | rfl | rfl | rfl | rfl | rfl | rfl | rfl | rfl | rfl | rfl | rfl:=lt12 hi <;> first | exact ⟨h1,h2⟩ | exact ⟨rfl,rfl⟩ | rfl⟩
theorem setL_t (p:Pk) (t:Tx):setL p.cells 14 t.cells=(p.wth t p.bv p.b).cells:=setL_mid p.hd p.t.cells t.cells _ rfl
theorem wideP (hT:Tab o) (ho:old o ∈ R) (hw:WfP p) (hx:Ent o R fun w=>RdP w p) (h:St o w R):CallV π Z 9 #[.agg p.cells.toArray] w fun r w'=>∃(t:Tx) (gb:Nat),r=.agg (p.wth t (wv gb p.b.length) p.b).cells.toArray∧t.hd=p.t.hd∧t.q.st=p.t.q.st∧St o w' (WdQ t.q::blk gb 5 (cb (p.b++marks p.b.length))::R):=by
 refine f9.calls ?_
 unfold f9.sh
 refine r_box _ _ h fun g1 w1 hS=>?_
 have hS:St o w1 (blk g1 39 p.cells::R):=hS
 refine r_alloc hS ze39 fun g2 w2 hS=>?_
 have hS:St o w2 (blk g2 39 pz.cells::blk g1 39 p.cells::R):=hS
 (try simp only [fa_39_10,Nat.zero_add,fa_39_11])
 refine r_load one30 (hS.at m1 30 rfl) ?_
 refine (wideB Z (l:=p.b) hS (fun w hw=>(hx w hw.drop.drop).b) hw.b).mono fun r w3 ⟨gb,hr,hS⟩=>?_
 subst hr
 skip
 refine r_store (hS.pick 2) one30 (show 30 < 32 by omega) rfl fun w4 hS=>?_
 have hS:St o w4 (blk g1 39 (p.wth p.t (wv gb p.b.length) p.b).cells::blk gb 5 (cb (p.b++marks p.b.length))::blk g2 39 pz.cells::R):=hS
 skip
 refine r_loadN ag37 (xs:=p.t.cells) (Tx.cells_len _) (hS.cells_at m0 14 (pk_tx (p.wth p.t (wv gb p.b.length) p.b))) ?_
 refine (wideT Z hT (by simp [ho]) p.t hw.q (fun w hw=>(hx w hw.drop.drop.drop).t) hS).mono fun r w5 ⟨t,hr,hh,hst,hS⟩=>?_
 subst hr
 have hqo:=(WdQ.rd _ (WfQ_st _ _ hst.symm hw.q) hS).ones
 refine r_storeN (hS.pick 1) ag37 (xs:=t.cells) (Tx.cells_len _) (show 14+16≤32 by omega) (txC_ones hqo) fun w6 hS=>?_
 rw [setL_t] at hS
 have hS:St o w6 (blk g1 39 (p.wth t (wv gb p.b.length) p.b).cells::WdQ t.q::blk gb 5 (cb (p.b++marks p.b.length))::blk g2 39 pz.cells::R):=hS
 have hone:ones (p.wth t (wv gb p.b.length) p.b).cells:=by
  refine RdP.ones (w:=w6) ⟨WdQ.rd _ (WfQ_st _ _ hst.symm hw.q) hS.drop,?_⟩
  exact blk_rd (k:=marks p.b.length) hS m2 rfl (by have:=hw.b; show p.b.length≤_; omega)
 refine r_loadN ag39 (xs:=(p.wth t (wv gb p.b.length) p.b).cells) rfl (hS.cells_at m0 0 (whole_at _)) ?_
 refine r_storeN (hS.pick 3) ag39 (xs:=(p.wth t (wv gb p.b.length) p.b).cells) rfl (show 0+32≤32 from Nat.le_refl _) hone fun w7 hS=>?_
 rw [setL_all _ _ (by rfl)] at hS
 refine r_resN ag39 (xs:=(p.wth t (wv gb p.b.length) p.b).cells) rfl (hS.cells_at m0 0 (whole_at _)) ?_
 exact ⟨t,gb,rfl,hh,hst,by (refine Sh.St.sub ?_ (hS); repeat (first | with_reducible (first | exact sub_refl | exact sub_nil | refine sP0 ?_ | refine sP1 ?_ | refine sP2 ?_ | refine sP3 ?_ | refine sP4 ?_ | refine sP5 ?_ | refine sP6 ?_ | refine sP7 ?_ | refine sP8 ?_ | refine sP9 ?_ | refine sP10 ?_ | refine sP11 ?_ | refine sP12 ?_ | refine sP13 ?_ | refine sP14 ?_ | refine sP15 ?_) | exact sub_refl | refine sP0 ?_ | refine sP1 ?_ | refine sP2 ?_ | refine sP3 ?_ | refine sP4 ?_ | refine sP5 ?_ | refine sP6 ?_ | refine sP7 ?_ | refine sP8 ?_ | refine sP9 ?_ | refine sP10 ?_ | refine sP11 ?_ | refine sP12 ?_ | refine sP13 ?_ | refine sP14 ?_ | refine sP15 ?_ | refine sub_drop ?_))⟩
theorem copyP (hw:WfP p) (hx:Ent o R fun w=>RdP w p) (h:St o w R):CallV π Z 17 #[.agg p.cells.toArray] w fun r w'=>∃(t:Tx) (bv:Value),r=.agg (p.wth t bv p.b).cells.toArray∧t.hd=p.t.hd∧t.q.st=p.t.q.st∧St o w' (OwQ t.q::own 5 1 bv p.b.length (cb p.b)::R):=by
 refine f17.calls ?_
 unfold f17.sh
 refine r_box _ _ h fun g1 w1 hS=>?_
 have hS:St o w1 (blk g1 39 p.cells::R):=hS
 refine r_alloc hS ze39 fun g2 w2 hS=>?_
 have hS:St o w2 (blk g2 39 pz.cells::blk g1 39 p.cells::R):=hS
 (try simp only [fa_39_11,Nat.zero_add,fa_39_10])
 refine r_loadN ag37 (xs:=p.t.cells) (Tx.cells_len _) (hS.cells_at m1 14 (pk_tx p)) ?_
 refine (copyT Z p.t hw.q (fun w hw=>(hx w hw.drop.drop).t) hS).mono fun r w3 ⟨t,hr,hh,hst,hS⟩=>?_
 subst hr
 have hqo:=(OwQ.rd _ hS).ones
 skip
 refine r_storeN (hS.pick 2) ag37 (xs:=t.cells) (Tx.cells_len _) (show 14+16≤32 by omega) (txC_ones hqo) fun w4 hS=>?_
 rw [setL_t] at hS
 have hS:St o w4 (blk g1 39 (p.wth t p.bv p.b).cells::OwQ t.q::blk g2 39 pz.cells::R):=hS
 skip
 refine r_load one30 (hS.at m0 30 rfl) ?_
 refine (copyBytes Z (x:=p.bv) (l:=p.b) hS (fun w hw=>(hx w hw.drop.drop.drop).b) (by have:=hw.b; omega)).mono fun bv w5 hS=>?_
 have hb1:=St.own_one hS
 skip
 refine r_store (hS.pick 1) one30 (show 30 < 32 by omega) hb1 fun w6 hS=>?_
 have hS:St o w6 (blk g1 39 (p.wth t bv p.b).cells::own 5 1 bv p.b.length (cb p.b)::OwQ t.q::blk g2 39 pz.cells::R):=hS
 have hone:ones (p.wth t bv p.b).cells:=RdP.ones (w:=w6) ⟨OwQ.rd _ (hS.pick 2),hS.own_rd m1⟩
 refine r_loadN ag39 (xs:=(p.wth t bv p.b).cells) rfl (hS.cells_at m0 0 (whole_at _)) ?_
 refine r_storeN (hS.pick 3) ag39 (xs:=(p.wth t bv p.b).cells) rfl (show 0+32≤32 from Nat.le_refl _) hone fun w7 hS=>?_
 rw [setL_all _ _ (by rfl)] at hS
 refine r_resN ag39 (xs:=(p.wth t bv p.b).cells) rfl (hS.cells_at m0 0 (whole_at _)) ?_
 exact ⟨t,bv,rfl,hh,hst,by (refine Sh.St.sub ?_ (hS); repeat (first | with_reducible (first | exact sub_refl | exact sub_nil | refine sP0 ?_ | refine sP1 ?_ | refine sP2 ?_ | refine sP3 ?_ | refine sP4 ?_ | refine sP5 ?_ | refine sP6 ?_ | refine sP7 ?_ | refine sP8 ?_ | refine sP9 ?_ | refine sP10 ?_ | refine sP11 ?_ | refine sP12 ?_ | refine sP13 ?_ | refine sP14 ?_ | refine sP15 ?_) | exact sub_refl | refine sP0 ?_ | refine sP1 ?_ | refine sP2 ?_ | refine sP3 ?_ | refine sP4 ?_ | refine sP5 ?_ | refine sP6 ?_ | refine sP7 ?_ | refine sP8 ?_ | refine sP9 ?_ | refine sP10 ?_ | refine sP11 ?_ | refine sP12 ?_ | refine sP13 ?_ | refine sP14 ?_ | refine sP15 ?_ | refine sub_drop ?_))⟩
theorem spareP {gb:Nat} (hT:Tab o) (ho:old o ∈ R) (hw:WfP p) (hbv:p.bv=wv gb p.b.length) (h:St o w (WdQ p.t.q::blk gb 5 (cb (p.b++marks p.b.length))::R)):CallV π Z 16 #[.agg p.cells.toArray] w fun r w'=>r=.bool true∧St o w' (WdQ p.t.q::blk gb 5 (cb (p.b++marks p.b.length))::R):=by
 refine f16.calls ?_
 unfold f16.sh
 refine r_box _ _ h fun g1 w1 hS=>?_
 have hS:St o w1 (blk g1 39 p.cells::WdQ p.t.q::blk gb 5 (cb (p.b++marks p.b.length))::R):=hS
 (try simp only [fa_39_10,Nat.zero_add,fa_39_11])
 refine r_load one30 (hS.at m0 30 rfl) ?_
 rw [hbv]
 refine (spareB Z rfl hw.b (hS.mem_blk m2)).mono fun r w2 ⟨hr,hw2⟩=>?_
 subst hr; subst hw2
 (try simp only [o_pickT,guardW_true,fa_37_2])
 refine r_loadN ag35 (xs:=p.t.q.cells) rfl (hS.cells_at m0 19 fun j v hv=>?_) ?_
 ·have:=pk_tx p (5+j) v (rq_at p.t j v hv)
  rwa [← Nat.add_assoc] at this
 refine (spareQ Z hT p.t.q hw.q (by simp [ho]) (hS.pick 1)).mono fun r w3 ⟨hr,hS⟩=>?_
 subst hr
 (try simp only [])
 exact ⟨by first | rfl | trivial,by (refine Sh.St.sub ?_ (hS); repeat (first | with_reducible (first | exact sub_refl | exact sub_nil | refine sP0 ?_ | refine sP1 ?_ | refine sP2 ?_ | refine sP3 ?_ | refine sP4 ?_ | refine sP5 ?_ | refine sP6 ?_ | refine sP7 ?_ | refine sP8 ?_ | refine sP9 ?_ | refine sP10 ?_ | refine sP11 ?_ | refine sP12 ?_ | refine sP13 ?_ | refine sP14 ?_ | refine sP15 ?_) | exact sub_refl | refine sP0 ?_ | refine sP1 ?_ | refine sP2 ?_ | refine sP3 ?_ | refine sP4 ?_ | refine sP5 ?_ | refine sP6 ?_ | refine sP7 ?_ | refine sP8 ?_ | refine sP9 ?_ | refine sP10 ?_ | refine sP11 ?_ | refine sP12 ?_ | refine sP13 ?_ | refine sP14 ?_ | refine sP15 ?_ | refine sub_drop ?_))⟩
end
end Go.Proofs.YtfijkedmbaghmaaGreatDoor

/- PacketWrites: the walk. -/
set_option linter.unusedVariables false
set_option linter.unusedSimpArgs false
namespace Go.Proofs.YtfijkedmbaghmaaGreatDoor
open Go.Sh
open Tryz renaming prog → π
theorem St.only {o w:World} {As:List HProp} {A:HProp} (h:St o w As) (hm:A ∈ As):St o w [A]:=by
 refine ⟨h.os,h.tape,h.output,h.size,?_⟩
 have key:∀(As:List HProp) (x:Hp),A ∈ As→satH As x→satH [A] x:=by
  intro As
  induction As with
  | nil=>intro x hm; cases hm
  | cons B As ih=>
   intro x hm ⟨S,hB,hs⟩
   rcases List.mem_cons.1 hm with rfl | hm
   ·exact ⟨S,hB,trivial⟩
   ·obtain ⟨T,hA,_⟩:=ih _ hm hs
    rw [Hp.on_on] at hA
    exact ⟨_,hA,trivial⟩
 exact key As _ hm h.sat
def dat (q:Rq) (d:List UInt8):Rq:=.mk { q.f with data:=d } q.vd q.va q.vw q.vo q.ops
theorem dat_wf {q:Rq} {d:List UInt8} (hd:d.length≤140737488351232) (h:WfQ q):WfQ (dat q d):=by
 have hf:=h.flat
 exact .mk _ ⟨hf.kd,hf.path,hd,hf.acl,hf.ver,hf.ses,hf.tmo,hf.who⟩ h.len h.all
theorem dat_cells (q:Rq) (d:List UInt8):(dat q d).cells=q.cells:=by cases q; rfl
theorem WdQ.data {o w:World} {R:List HProp} (q:Rq) (h:St o w (WdQ q::R)):∃(gd:Nat) (B:HProp),q.vd=wv gd q.f.data.length∧St o w (blk gd 5 (cb (q.f.data++marks q.f.data.length))::B::R) ∧
  ∀(d:List UInt8) (o' w':World) (R':List HProp),d.length=q.f.data.length→St o' w' (blk gd 5 (cb (d++marks q.f.data.length))::B::R')→St o' w' (WdQ (dat q d)::R'):=by
 rw [WdQ_eq] at h
 obtain ⟨gd,g2,g3,⟨e1,e2,e3⟩,h2⟩:=WdF.open h.sep
 obtain ⟨OPS,hO⟩:∃OPS:HProp,OPS=sep (fun h=>∃g:Nat,q.vo=wv g q.ops.length∧blk g 35 ((wide rqM q.ops).map Rq.cells).flatten h) (satH (q.ops.map WdQ)):=⟨_,rfl⟩
 rw [← hO] at h2
 refine ⟨gd,sep (blk g2 178 ((wide enM q.f.acl).map enC).flatten) (sep (blk g3 175 ((wide idM q.f.who).map idC).flatten) OPS),e1,?_,fun d o' w' R' hd hS=>?_⟩
 ·have a:St o w (blk g3 175 ((wide idM q.f.who).map idC).flatten::OPS::blk g2 178 ((wide enM q.f.acl).map enC).flatten::blk gd 5 (cb (q.f.data++marks q.f.data.length))::R):=by (refine Sh.St.sub ?_ (h2); repeat (first | with_reducible (first | exact sub_refl | exact sub_nil | refine sP0 ?_ | refine sP1 ?_ | refine sP2 ?_ | refine sP3 ?_ | refine sP4 ?_ | refine sP5 ?_ | refine sP6 ?_ | refine sP7 ?_ | refine sP8 ?_ | refine sP9 ?_ | refine sP10 ?_ | refine sP11 ?_ | refine sP12 ?_ | refine sP13 ?_ | refine sP14 ?_ | refine sP15 ?_) | exact sub_refl | refine sP0 ?_ | refine sP1 ?_ | refine sP2 ?_ | refine sP3 ?_ | refine sP4 ?_ | refine sP5 ?_ | refine sP6 ?_ | refine sP7 ?_ | refine sP8 ?_ | refine sP9 ?_ | refine sP10 ?_ | refine sP11 ?_ | refine sP12 ?_ | refine sP13 ?_ | refine sP14 ?_ | refine sP15 ?_ | refine sub_drop ?_))
  exact a.sep_intro.swap.sep_intro.swap
 ·have a:=(hS.swap.sep).swap.sep
  have b:St o' w' (blk gd 5 (cb ((dat q d).f.data++marks (dat q d).f.data.length))::blk g2 178 ((wide enM (dat q d).f.acl).map enC).flatten::blk g3 175 ((wide idM (dat q d).f.who).map idC).flatten::OPS::R'):=by
   show St o' w' (blk gd 5 (cb (d++marks d.length))::_)
   rw [hd]
   have a:St o' w' (blk g3 175 ((wide idM q.f.who).map idC).flatten::OPS::blk g2 178 ((wide enM q.f.acl).map enC).flatten::blk gd 5 (cb (d++marks q.f.data.length))::R'):=a
   show St o' w' (blk gd 5 (cb (d++marks q.f.data.length))::blk g2 178 ((wide enM q.f.acl).map enC).flatten::blk g3 175 ((wide idM q.f.who).map idC).flatten::OPS::R')
   (refine Sh.St.sub ?_ (a); repeat (first | with_reducible (first | exact sub_refl | exact sub_nil | refine sP0 ?_ | refine sP1 ?_ | refine sP2 ?_ | refine sP3 ?_ | refine sP4 ?_ | refine sP5 ?_ | refine sP6 ?_ | refine sP7 ?_ | refine sP8 ?_ | refine sP9 ?_ | refine sP10 ?_ | refine sP11 ?_ | refine sP12 ?_ | refine sP13 ?_ | refine sP14 ?_ | refine sP15 ?_) | exact sub_refl | refine sP0 ?_ | refine sP1 ?_ | refine sP2 ?_ | refine sP3 ?_ | refine sP4 ?_ | refine sP5 ?_ | refine sP6 ?_ | refine sP7 ?_ | refine sP8 ?_ | refine sP9 ?_ | refine sP10 ?_ | refine sP11 ?_ | refine sP12 ?_ | refine sP13 ?_ | refine sP14 ?_ | refine sP15 ?_ | refine sub_drop ?_))
  have c:=WdF.shut b
  rw [WdQ_eq]
  have e1':(dat q d).vd=wv gd (dat q d).f.data.length:=by show q.vd=wv gd d.length; rw [hd]; exact e1
  have e2':(dat q d).va=wv g2 (dat q d).f.acl.length:=e2
  have e3':(dat q d).vw=wv g3 (dat q d).f.who.length:=e3
  rw [e1',e2',e3']
  rw [hO] at c
  exact c.sep_intro
section
variable (Z:PZ) {o w:World} {R As:List HProp} {g:Nat} {p:Pk} {b0 b1 b2 b3:List Value}
theorem write_ownP {p:Pk} {r:Value} {w':World} (hw:WfP p) (h:if okP p then ∃v,r=.tuple #[v,.int .i64 0]∧St o w' (own 5 1 v (pkB p).length (cb (pkB p))::R) else r=.tuple #[.slice none 0 0,.int .i64 150]∧St o w' R) :
  ∃(v:Value) (l:List UInt8),l=(if okP p then pkB p else [])∧l.length≤60000∧r=.tuple #[v,.int .i64 (if okP p then 0 else 150)]∧St o w' (own 5 1 v l.length (cb l)::R):=by
 by_cases hc:okP p=true
 ·rw [if_pos hc] at h
  obtain ⟨v,hr,hS⟩:=h
  exact ⟨v,pkB p,by rw [if_pos hc],pkB_len hw hc,by rw [if_pos hc]; exact hr,hS⟩
 ·rw [if_neg hc] at h
  exact ⟨.slice none 0 0,[],by rw [if_neg hc],by simp,by rw [if_neg hc]; exact h.1,h.2.own_nil _ _⟩
theorem addPk (hw:WfP p) (h:St o w (bagP g b0 b1 b2 b3::OwQ p.t.q::own 5 1 p.bv p.b.length (cb p.b)::R)):CallV π Z 19 #[.pointer (some ⟨g,0,none⟩),.agg p.cells.toArray] w fun r w'=>
  ∃n0 n1 n2 n3:List (Value × Nat),St o w' (bagP g (b0++n0.map Prod.fst) (b1++n1.map Prod.fst) (b2++n2.map Prod.fst) (b3++n3.map Prod.fst)::newR n0 n1 n2 n3::R):=by
 refine f19.calls ?_
 unfold f19.sh
 refine r_box _ _ h fun g1 w1 hS=>?_
 have hS:St o w1 (blk g1 39 p.cells::bagP g b0 b1 b2 b3::OwQ p.t.q::own 5 1 p.bv p.b.length (cb p.b)::R):=hS
 (try simp only [fa_39_10,Nat.zero_add,fa_37_2,fa_39_11])
 refine r_load one30 (hS.at m0 30 rfl) ?_
 obtain ⟨ba,bc,hbv⟩:=(hS.own_rd m3).form
 refine (bagAddBytes Z (l:=p.bv) (by rw [hbv]; rfl) hS.swap).mono fun r w2 ⟨b',hb',hS⟩=>?_
 skip
 refine r_loadN ag35 (xs:=p.t.q.cells) rfl (hS.cells_at m1 19 fun j v hv=>?_) ?_
 ·have:=pk_tx p (5+j) v (rq_at p.t j v hv)
  rwa [← Nat.add_assoc] at this
 refine (addReq Z p.t.q hw.q (by (refine Sh.St.sub ?_ (hS); repeat (first | with_reducible (first | exact sub_refl | exact sub_nil | refine sP0 ?_ | refine sP1 ?_ | refine sP2 ?_ | refine sP3 ?_ | refine sP4 ?_ | refine sP5 ?_ | refine sP6 ?_ | refine sP7 ?_ | refine sP8 ?_ | refine sP9 ?_ | refine sP10 ?_ | refine sP11 ?_ | refine sP12 ?_ | refine sP13 ?_ | refine sP14 ?_ | refine sP15 ?_) | exact sub_refl | refine sP0 ?_ | refine sP1 ?_ | refine sP2 ?_ | refine sP3 ?_ | refine sP4 ?_ | refine sP5 ?_ | refine sP6 ?_ | refine sP7 ?_ | refine sP8 ?_ | refine sP9 ?_ | refine sP10 ?_ | refine sP11 ?_ | refine sP12 ?_ | refine sP13 ?_ | refine sP14 ?_ | refine sP15 ?_ | refine sub_drop ?_)):St o w2 (bagP g b' b1 b2 b3::OwQ p.t.q::own 5 1 p.bv p.b.length (cb p.b)::R))).mono fun r w3 ⟨n0,n1,n2,n3,hS⟩=>?_
 have hbl:=hw.b
 by_cases hlt:b0.length < 600
 ·rw [if_pos hlt] at hb'
  subst hb'
  refine ⟨(p.bv,p.b.length)::n0,n1,n2,n3,?_⟩
  have a:=newR.open (hS.pick 1)
  have b:=rows_cons (p:=(p.bv,p.b.length)) (by show p.b.length * 1≤_; omega) (by (refine Sh.St.sub ?_ (a); repeat (first | with_reducible (first | exact sub_refl | exact sub_nil | refine sP0 ?_ | refine sP1 ?_ | refine sP2 ?_ | refine sP3 ?_ | refine sP4 ?_ | refine sP5 ?_ | refine sP6 ?_ | refine sP7 ?_ | refine sP8 ?_ | refine sP9 ?_ | refine sP10 ?_ | refine sP11 ?_ | refine sP12 ?_ | refine sP13 ?_ | refine sP14 ?_ | refine sP15 ?_) | exact sub_refl | refine sP0 ?_ | refine sP1 ?_ | refine sP2 ?_ | refine sP3 ?_ | refine sP4 ?_ | refine sP5 ?_ | refine sP6 ?_ | refine sP7 ?_ | refine sP8 ?_ | refine sP9 ?_ | refine sP10 ?_ | refine sP11 ?_ | refine sP12 ?_ | refine sP13 ?_ | refine sP14 ?_ | refine sP15 ?_ | refine sub_drop ?_)):St o w3 (own 5 1 p.bv p.b.length (cb p.b)::rowsX 5 1 1 n0::rowsX 175 2 32 n1::rowsX 178 3 40 n2::rowsX 35 11 144 n3::bagP g ((b0++[p.bv])++n0.map Prod.fst) (b1++n1.map Prod.fst) (b2++n2.map Prod.fst) (b3++n3.map Prod.fst)::R))
  have c:=newR.shut b
  have e:b0++((p.bv,p.b.length)::n0).map Prod.fst=(b0++[p.bv])++n0.map Prod.fst:=by simp
  rw [e]
  exact c.swap
 ·rw [if_neg hlt] at hb'
  rw [hb'] at hS
  exact ⟨n0,n1,n2,n3,by (refine Sh.St.sub ?_ (hS); repeat (first | with_reducible (first | exact sub_refl | exact sub_nil | refine sP0 ?_ | refine sP1 ?_ | refine sP2 ?_ | refine sP3 ?_ | refine sP4 ?_ | refine sP5 ?_ | refine sP6 ?_ | refine sP7 ?_ | refine sP8 ?_ | refine sP9 ?_ | refine sP10 ?_ | refine sP11 ?_ | refine sP12 ?_ | refine sP13 ?_ | refine sP14 ?_ | refine sP15 ?_) | exact sub_refl | refine sP0 ?_ | refine sP1 ?_ | refine sP2 ?_ | refine sP3 ?_ | refine sP4 ?_ | refine sP5 ?_ | refine sP6 ?_ | refine sP7 ?_ | refine sP8 ?_ | refine sP9 ?_ | refine sP10 ?_ | refine sP11 ?_ | refine sP12 ?_ | refine sP13 ?_ | refine sP14 ?_ | refine sP15 ?_ | refine sub_drop ?_))⟩
end
end Go.Proofs.YtfijkedmbaghmaaGreatDoor

/- PacketWrites: the walk. -/
set_option linter.unusedVariables false
set_option linter.unusedSimpArgs false
namespace Go.Proofs.YtfijkedmbaghmaaGreatDoor
open Go.Sh
open Tryz renaming prog → π
section
variable (Z:PZ) {o w:World} {R As:List HProp} {g:Nat} {p:Pk}
set_option maxRecDepth 100000 in
theorem packetWrites (p q:Pk) (hw:WfP p) (hx:RdP w p) (hwq:WfP q) (hxq:RdP w q) (hN:Names w) (hM:Named w) (hT:Tab w) :
  CallV π Z 3 #[.agg p.cells.toArray,.agg q.cells.toArray] w fun r w'=>r=.bool true∧St w w' [old w]:=by
 refine f3.calls ?_
 unfold f3.sh
 refine r_box _ _ (St.start w) fun g1 w1 hS=>?_
 have hS:St w w1 (blk g1 39 p.cells::[old w]):=hS
 refine r_box _ _ hS fun g2 w2 hS=>?_
 have hS:St w w2 (blk g2 39 q.cells::blk g1 39 p.cells::[old w]):=hS
 refine r_loadN ag39 (xs:=p.cells) rfl (hS.cells_at m1 0 (whole_at _)) ?_
 refine (largeP Z (fun w' hw'=>RdP.of_old hx hw' m2) hS).mono fun r w3 ⟨⟨b,hr,_⟩,hS⟩=>?_
 subst hr
 cases b with
 | true=>
  (try simp only [o_pickT,condT,guardW_tf])
  exact ⟨by first | rfl | trivial,hS.drop.drop⟩
 | false=>
 (try simp only [o_pickF,guardW_ff])
 refine r_loadN ag39 (xs:=q.cells) rfl (hS.cells_at m0 0 (whole_at _)) ?_
 refine (largeP Z (fun w' hw'=>RdP.of_old hxq hw' m2) hS).mono fun r w4 ⟨⟨b,hr,_⟩,hS⟩=>?_
 subst hr
 cases b with
 | true=>
  (try simp only [condT])
  exact ⟨by first | rfl | trivial,hS.drop.drop⟩
 | false=>
 (try simp only [condF])
 refine (livesP Z hN hM m2 hS).mono fun r w5 ⟨hr,hS⟩=>?_
 subst hr
 refine r_loadN ag39 (xs:=p.cells) rfl (hS.cells_at m1 0 (whole_at _)) ?_
 refine (wideP Z hT m2 hw (fun w' hw'=>RdP.of_old hx hw' m2) hS).mono fun r w6 ⟨t,gb,hr,hh,hst,hS⟩=>?_
 subst hr
 have hqt:WfQ t.q:=WfQ_st _ _ hst.symm hw.q
 have hnb:=hw.b
 obtain ⟨pw,hpw⟩:∃pw,pw=p.wth t (wv gb p.b.length) p.b:=⟨_,rfl⟩
 have hpt:pw.t=t:=by rw [hpw]; rfl
 have hpb:pw.b=p.b:=by rw [hpw]; rfl
 have hpv:pw.bv=wv gb p.b.length:=by rw [hpw]; rfl
 have hww:WfP pw:=by rw [hpw]; exact wth_wf hw (by rw [hh]; exact hw.h) hqt hw.b
 have hsame:sameP pw p:=by rw [hpw]; exact wth_same hh hst
 rw [← hpw]
 subst hpt
 have hpq:pw.bv=wv gb pw.b.length:=by rw [hpv,hpb]
 rw [← hpb] at hS
 have hokw:=okP_eq hsame
 have hpkw:=pkB_eq hsame
 have rdw:∀{w':World} {As:List HProp},St w w' As→WdQ pw.t.q ∈ As→blk gb 5 (cb (pw.b++marks pw.b.length)) ∈ As→RdP w' pw:=fun {w' As} h m1 m2=>⟨WdQ.rd _ hqt (St.only h m1),by rw [hpq]; exact blk_rd h m2 rfl (by have:=hww.b; omega)⟩
 clear hpw
 refine r_alloc hS ze39 fun gi w7 hS=>?_
 have hS:St w w7 (blk gi 39 pz.cells::WdQ pw.t.q::blk gb 5 (cb (pw.b++marks pw.b.length))::blk g2 39 q.cells::blk g1 39 p.cells::[old w]):=hS
 refine r_storeN hS ag39 (xs:=pw.cells) rfl (show 0+32≤32 from Nat.le_refl _) (rdw hS m1 m2).ones fun w8 hS=>?_
 rw [setL_all _ _ (by rfl)] at hS
 -- gi Wd gb g2 g1 old
 refine r_loadN ag39 (xs:=p.cells) rfl (hS.cells_at m4 0 (whole_at _)) ?_
 refine (refWriteP Z hw (fun w' hw'=>RdP.of_old hx hw' m5) hS).mono fun r w9 hr=>?_
 obtain ⟨v1,l1,hl1,hn1,hr,hS⟩:=write_ownP hw hr
 subst hr
 (try simp only [fa_39_11p,Nat.zero_add,fa_39_10p,fa_37_2p,fa_35_2p,fa_39_10,fa_37_2,fa_35_2,fa_39_11,o_notp,Bool.not_true,o_pickFp,guardV_ff,guardW_ff,still_ff,o_ext2_1,o_ext2_0])
 refine r_loadN ag39 (xs:=q.cells) rfl (hS.cells_at m4 0 (whole_at _)) ?_
 refine (refWriteP Z hwq (fun w' hw'=>RdP.of_old hxq hw' m6) hS).mono fun r w10 hr=>?_
 obtain ⟨v2,l2,hl2,hn2,hr,hS⟩:=write_ownP hwq hr
 subst hr
 (try simp only [o_ext2_1,o_ext2_0])
 -- v2 v1 gi Wd gb g2 g1 old
 refine r_loadN ag39 (xs:=pw.cells) rfl (hS.cells_at m2 0 (whole_at _)) ?_
 refine (writeP Z hN hM m7 hww (fun w' hw'=>rdw hw' m3 m4) hS).mono fun r w11 hr=>?_
 obtain ⟨va,la,hla,hna,hr,hS⟩:=write_ownP hww hr
 subst hr
 (try simp only [o_ext2_1,o_ext2_0])
 refine r_loadN ag39 (xs:=pw.cells) rfl (hS.cells_at m3 0 (whole_at _)) ?_
 refine (writeP Z hN hM m8 hww (fun w' hw'=>rdw hw' m4 m5) hS).mono fun r w12 hr=>?_
 obtain ⟨vb,lb,hlb,hnb',hr,hS⟩:=write_ownP hww hr
 subst hr
 (try simp only [o_ext2_1,o_ext2_0])
 -- vb va v2 v1 gi Wd gb g2 g1 old
 refine r_loadN ag39 (xs:=q.cells) rfl (hS.cells_at m7 0 (whole_at _)) ?_
 refine (writeP Z hN hM (by simp) hwq (fun w' hw'=>RdP.of_old hxq hw' (by simp)) hS).mono fun r w13 hr=>?_
 obtain ⟨vc,lc,hlc,hnc,hr,hS⟩:=write_ownP hwq hr
 subst hr
 rw [hokw,hpkw,← hl1] at hla hlb
 rw [← hl2] at hlc
 subst hla hlb hlc
 rw [hokw]
 -- vc vb va v2 v1 gi Wd gb g2 g1 old
 have hbn:∀x:Int,(x != x)=false:=fun x=>by simp
 (try simp only [o_ext2_1,o_ext2_0])
 refine ⟨fun w14 hd=>?_⟩
 have hS:=hS.drew hd
 skip
 refine rr_loadN ag39 (xs:=pw.cells) rfl (hS.cells_at m5 0 (whole_at _)) ?_
 skip
 refine rr_loadN ag39 (xs:=p.cells) rfl (hS.cells_at (.tail _ m8) 0 (whole_at _)) ?_
 refine (chkP Z hN hM (by simp) (fun w' hw'=>rdw hw' m6 m7) hS).mono fun r w15 ⟨hr,hS⟩=>?_
 subst hr
 refine rs_loadN ag39 (xs:=p.cells) rfl (hS.cells_at (.tail _ m8) 0 (whole_at _)) ?_
 skip
 refine (refChkP Z hw (fun w' hw'=>RdP.of_old hx hw' (by simp)) hS).mono fun r w16 ⟨hr,hS⟩=>?_
 subst hr
 rw [hokw]
 (try simp only [o_neqp,hbn,o_pickFp,guardV_ff,guardW_ff])
 refine (eqBytes Z (hS.own_rd m2) (hS.own_rd m4)).mono fun r w17 ⟨hr,hd⟩=>?_
 subst hr
 have hS:=hS.drew hd
 rw [decide_eq_true rfl]
 (try simp only [o_notp,Bool.not_true,o_pickFp,guardV_ff,guardW_ff])
 refine (eqBytes Z (hS.own_rd m1) (hS.own_rd m4)).mono fun r w18 ⟨hr,hd⟩=>?_
 subst hr
 have hS:=hS.drew hd
 rw [decide_eq_true rfl]
 (try simp only [o_notp,Bool.not_true,o_pickFp,guardV_ff,guardW_ff])
 refine (eqBytes Z (hS.own_rd m0) (hS.own_rd m3)).mono fun r w19 ⟨hr,hd⟩=>?_
 subst hr
 have hS:=hS.drew hd
 rw [decide_eq_true rfl]
 (try simp only [o_notp,Bool.not_true,condF])
 refine r_loadN ag39 (xs:=pw.cells) rfl (hS.cells_at m5 0 (whole_at _)) ?_
 refine r_loadN ag39 (xs:=p.cells) rfl (hS.cells_at (.tail _ m8) 0 (whole_at _)) ?_
 refine (eqP Z pw p (fun w' hw'=>rdw hw' m6 m7) (fun w' hw'=>RdP.of_old hx hw' (.tail _ (.tail _ m8))) hS).mono fun r w20 ⟨⟨be,hr,hbe⟩,hS⟩=>?_
 subst hr
 rw [hbe.2 hsame]
 (try simp only [o_not,Bool.not_true,o_pickF,guardW_ff])
 refine r_loadN ag39 (xs:=pw.cells) rfl (hS.cells_at m5 0 (whole_at _)) ?_
 have hS:St w w20 (WdQ pw.t.q::blk gb 5 (cb (pw.b++marks pw.b.length))::blk gi 39 pw.cells::own 5 1 vc lc.length (cb lc)::own 5 1 vb lb.length (cb lb)::own 5 1 va lb.length (cb lb)::own 5 1 v2 lc.length (cb lc)::own 5 1 v1 lb.length (cb lb)::blk g2 39 q.cells::blk g1 39 p.cells::[old w]):=(hS.pick 7).pick 7 |> fun h=>by (refine Sh.St.sub ?_ (h); repeat (first | with_reducible (first | exact sub_refl | exact sub_nil | refine sP0 ?_ | refine sP1 ?_ | refine sP2 ?_ | refine sP3 ?_ | refine sP4 ?_ | refine sP5 ?_ | refine sP6 ?_ | refine sP7 ?_ | refine sP8 ?_ | refine sP9 ?_ | refine sP10 ?_ | refine sP11 ?_ | refine sP12 ?_ | refine sP13 ?_ | refine sP14 ?_ | refine sP15 ?_) | exact sub_refl | refine sP0 ?_ | refine sP1 ?_ | refine sP2 ?_ | refine sP3 ?_ | refine sP4 ?_ | refine sP5 ?_ | refine sP6 ?_ | refine sP7 ?_ | refine sP8 ?_ | refine sP9 ?_ | refine sP10 ?_ | refine sP11 ?_ | refine sP12 ?_ | refine sP13 ?_ | refine sP14 ?_ | refine sP15 ?_ | refine sub_drop ?_))
 refine (spareP Z hT (by simp) hww hpq hS).mono fun r w21 ⟨hr,hS⟩=>?_
 subst hr
 (try simp only [o_not,Bool.not_true,condF])
 obtain ⟨gd,B,hvd,hS,hback⟩:=WdQ.data pw.t.q hS
 have hwb:=hww.b
 have hwd:=hww.q.flat.data
 -- gd B gb gi vc vb va v2 v1 g2 g1 old
 obtain ⟨RS,hRS⟩:∃RS:List HProp,RS=(own 5 1 vc lc.length (cb lc)::own 5 1 vb lb.length (cb lb)::own 5 1 va lb.length (cb lb)::own 5 1 v2 lc.length (cb lc)::own 5 1 v1 lb.length (cb lb)::blk g2 39 q.cells::blk g1 39 p.cells::[old w]):=⟨_,rfl⟩
 have hS:St w w21 (blk gb 5 (cb (pw.b++marks pw.b.length))::blk gi 39 pw.cells::blk gd 5 (cb (pw.t.q.f.data++marks pw.t.q.f.data.length))::B::RS):=by rw [hRS]; (refine Sh.St.sub ?_ (hS); repeat (first | with_reducible (first | exact sub_refl | exact sub_nil | refine sP0 ?_ | refine sP1 ?_ | refine sP2 ?_ | refine sP3 ?_ | refine sP4 ?_ | refine sP5 ?_ | refine sP6 ?_ | refine sP7 ?_ | refine sP8 ?_ | refine sP9 ?_ | refine sP10 ?_ | refine sP11 ?_ | refine sP12 ?_ | refine sP13 ?_ | refine sP14 ?_ | refine sP15 ?_) | exact sub_refl | refine sP0 ?_ | refine sP1 ?_ | refine sP2 ?_ | refine sP3 ?_ | refine sP4 ?_ | refine sP5 ?_ | refine sP6 ?_ | refine sP7 ?_ | refine sP8 ?_ | refine sP9 ?_ | refine sP10 ?_ | refine sP11 ?_ | refine sP12 ?_ | refine sP13 ?_ | refine sP14 ?_ | refine sP15 ?_ | refine sub_drop ?_))
 refine ⟨fun m y w'=>∃(i:Nat) (d:List UInt8),y=.int .i64 i∧m+i=pw.b.length∧d.length=pw.b.length∧St w w' (blk gb 5 (cb (d++marks pw.b.length))::blk gi 39 pw.cells::blk gd 5 (cb (pw.t.q.f.data++marks pw.t.q.f.data.length))::B::RS),⟨pw.b.length,0,pw.b,rfl,rfl,rfl,hS⟩,?_⟩
 clear hS
 rintro m _ w22 ⟨i,d,rfl,hi,hd,hS⟩ _
 have hat:∀{w':World} {As:List HProp},St w w' As→blk gi 39 pw.cells ∈ As→w'.cell? ⟨gi,30,none⟩=some (wv gb pw.b.length):=fun h m=>by rw [← hpq]; exact h.at m 30 rfl
 have hat2:∀{w':World} {As:List HProp},St w w' As→blk gi 39 pw.cells ∈ As→w'.cell? ⟨gi,21,none⟩=some (wv gd pw.t.q.f.data.length):=fun h m=>by rw [← hvd]; exact h.at m 21 rfl
 refine r_load one30 (hat hS m1) ?_
 refine r1 (run_lenS sl30 _ rfl _ _ _ _ _) ?_
 by_cases hlt:(i:Int) < (pw.b.length:Int)
 ·(try simp only [o_add,o_lss,hlt,decide_true,condT])
  refine ⟨fun w23 hdr=>?_⟩
  have hS:=hS.drew hdr
  have hi1:i < pw.b.length:=by omega
  refine rr_load one30 (hat hS m1) ?_
  skip
  refine rr_load one30 (hat hS m1) ?_
  refine rp (fun w=>run_wv _ el30 gb _ i hi1 w) ?_
  rw [Nat.mul_one]
  have hc:w23.cell? ⟨gb,i,none⟩=some (.int .u8 (d[i].toNat:Int)):=hS.at m0 i (by rw [cb_append,List.getElem?_append_left (by rw [cb_length]; omega),cb_at (by omega)])
  refine rr_load one5 hc ?_
  refine rp (fun w=>run_xor _ w _ _ _ _) ?_
  refine rp (fun w=>run_wv _ el30 gb _ i hi1 w) ?_
  rw [Nat.mul_one]
  obtain ⟨b,hb⟩:=u8_some ((BitVec.ofInt IntKind.u8.bits (d[i].toNat:Int) ^^^ BitVec.ofInt IntKind.u8.bits 85).toNat:Int)
  rw [hb]
  refine r_store hS one5 (by rw [cb_length,List.length_append]; omega) rfl fun w24 hS=>?_
  rw [cb_set,List.set_append_left _ _ (by omega)] at hS
  skip
  rw [wr_i64 (x:=(i:Int)+1) (by omega) (by omega)]
  exact ⟨m - 1,by omega,i+1,d.set i b,rfl,by omega,by rw [List.length_set]; exact hd,hS⟩
 (try simp only [o_add,o_lss,hlt,decide_false,condF])
 clear hlt hi i m
 refine ⟨fun m y w'=>∃(i:Nat) (e:List UInt8),y=.int .i64 i∧m+i=pw.t.q.f.data.length∧e.length=pw.t.q.f.data.length∧St w w' (blk gd 5 (cb (e++marks pw.t.q.f.data.length))::blk gi 39 pw.cells::blk gb 5 (cb (d++marks pw.b.length))::B::RS),⟨pw.t.q.f.data.length,0,pw.t.q.f.data,rfl,rfl,rfl,by (refine Sh.St.sub ?_ (hS); repeat (first | with_reducible (first | exact sub_refl | exact sub_nil | refine sP0 ?_ | refine sP1 ?_ | refine sP2 ?_ | refine sP3 ?_ | refine sP4 ?_ | refine sP5 ?_ | refine sP6 ?_ | refine sP7 ?_ | refine sP8 ?_ | refine sP9 ?_ | refine sP10 ?_ | refine sP11 ?_ | refine sP12 ?_ | refine sP13 ?_ | refine sP14 ?_ | refine sP15 ?_) | exact sub_refl | refine sP0 ?_ | refine sP1 ?_ | refine sP2 ?_ | refine sP3 ?_ | refine sP4 ?_ | refine sP5 ?_ | refine sP6 ?_ | refine sP7 ?_ | refine sP8 ?_ | refine sP9 ?_ | refine sP10 ?_ | refine sP11 ?_ | refine sP12 ?_ | refine sP13 ?_ | refine sP14 ?_ | refine sP15 ?_ | refine sub_drop ?_))⟩,?_⟩
 clear hS
 rintro m _ w25 ⟨i,e,rfl,hi,he,hS⟩ _
 refine r_load one30 (hat2 hS m1) ?_
 refine r1 (run_lenS sl30 _ rfl _ _ _ _ _) ?_
 by_cases hlt:(i:Int) < (pw.t.q.f.data.length:Int)
 ·(try simp only [o_add,o_lss,hlt,decide_true,condT])
  refine ⟨fun w23 hdr=>?_⟩
  have hS:=hS.drew hdr
  have hi1:i < pw.t.q.f.data.length:=by omega
  refine rr_load one30 (hat2 hS m1) ?_
  skip
  refine rr_load one30 (hat2 hS m1) ?_
  refine rp (fun w=>run_wv _ el30 gd _ i hi1 w) ?_
  rw [Nat.mul_one]
  have hc:w23.cell? ⟨gd,i,none⟩=some (.int .u8 (e[i].toNat:Int)):=hS.at m0 i (by rw [cb_append,List.getElem?_append_left (by rw [cb_length]; omega),cb_at (by omega)])
  refine rr_load one5 hc ?_
  refine rp (fun w=>run_xor _ w _ _ _ _) ?_
  refine rp (fun w=>run_wv _ el30 gd _ i hi1 w) ?_
  rw [Nat.mul_one]
  obtain ⟨b,hb⟩:=u8_some ((BitVec.ofInt IntKind.u8.bits (e[i].toNat:Int) ^^^ BitVec.ofInt IntKind.u8.bits 85).toNat:Int)
  rw [hb]
  refine r_store hS one5 (by rw [cb_length,List.length_append]; omega) rfl fun w24 hS=>?_
  rw [cb_set,List.set_append_left _ _ (by omega)] at hS
  skip
  rw [wr_i64 (x:=(i:Int)+1) (by omega) (by omega)]
  exact ⟨m - 1,by omega,i+1,e.set i b,rfl,by omega,by rw [List.length_set]; exact he,hS⟩
 (try simp only [o_add,o_lss,hlt,decide_false,condF])
 clear hlt hi i m
 have hS:=hback e _ _ (blk gi 39 pw.cells::blk gb 5 (cb (d++marks pw.b.length))::RS) he (by (refine Sh.St.sub ?_ (hS); repeat (first | with_reducible (first | exact sub_refl | exact sub_nil | refine sP0 ?_ | refine sP1 ?_ | refine sP2 ?_ | refine sP3 ?_ | refine sP4 ?_ | refine sP5 ?_ | refine sP6 ?_ | refine sP7 ?_ | refine sP8 ?_ | refine sP9 ?_ | refine sP10 ?_ | refine sP11 ?_ | refine sP12 ?_ | refine sP13 ?_ | refine sP14 ?_ | refine sP15 ?_) | exact sub_refl | refine sP0 ?_ | refine sP1 ?_ | refine sP2 ?_ | refine sP3 ?_ | refine sP4 ?_ | refine sP5 ?_ | refine sP6 ?_ | refine sP7 ?_ | refine sP8 ?_ | refine sP9 ?_ | refine sP10 ?_ | refine sP11 ?_ | refine sP12 ?_ | refine sP13 ?_ | refine sP14 ?_ | refine sP15 ?_ | refine sub_drop ?_)))
 obtain ⟨p2,hp2⟩:∃p2,p2=pw.wth { pw.t with q:=dat pw.t.q e } pw.bv d:=⟨_,rfl⟩
 have h2c:pw.cells=p2.cells:=by
  rw [hp2]
  show pw.hd++(pw.t.cells++[pw.bv,.int .i64 pw.se])=pw.hd++(Tx.cells { pw.t with q:=dat pw.t.q e }++[pw.bv,.int .i64 pw.se])
  have:Tx.cells { pw.t with q:=dat pw.t.q e }=pw.t.cells:=by unfold Tx.cells; simp only [dat_cells]
  rw [this]
 have h2t:dat pw.t.q e=p2.t.q:=by rw [hp2]; rfl
 have h2b:d=p2.b:=by rw [hp2]; rfl
 have h2v:p2.bv=wv gb p2.b.length:=by rw [← h2b,hd,hp2]; exact hpq
 have h2w:WfP p2:=by rw [hp2]; exact wth_wf hww hww.h (dat_wf (by omega) hww.q) (by omega)
 have hS:St w w25 (WdQ p2.t.q::blk gi 39 p2.cells::blk gb 5 (cb (p2.b++marks p2.b.length))::RS):=by
  rw [← h2t,← h2c,← h2b,hd]
  exact hS
 have hwb2:=h2w.b
 have rd2:∀{w':World} {As:List HProp},St w w' As→WdQ p2.t.q ∈ As→blk gb 5 (cb (p2.b++marks p2.b.length)) ∈ As→RdP w' p2:=fun {w' As} h m1 m2=>⟨WdQ.rd _ h2w.q (St.only h m1),by rw [h2v]; exact blk_rd h m2 rfl (by omega)⟩
 clear hp2 h2c h2t h2b hback
 have hoRS:old w ∈ RS:=by rw [hRS]; simp
 -- W2 gi gb RS
 refine r_loadN ag39 (xs:=p2.cells) rfl (hS.cells_at m1 0 (whole_at _)) ?_
 refine (copyP Z h2w (fun w' hw'=>rd2 hw' m0 m2) hS).mono fun r w26 ⟨t3,bv3,hr,hh3,hst3,hS⟩=>?_
 subst hr
 obtain ⟨p3,hp3⟩:∃p3,p3=p2.wth t3 bv3 p2.b:=⟨_,rfl⟩
 have h3s:sameP p3 p2:=by rw [hp3]; exact wth_same hh3 hst3
 have h3w:WfP p3:=by rw [hp3]; exact wth_wf h2w (by rw [hh3]; exact h2w.h) (WfQ_st _ _ hst3.symm h2w.q) h2w.b
 have hS:St w w26 (OwQ p3.t.q::own 5 1 p3.bv p3.b.length (cb p3.b)::WdQ p2.t.q::blk gi 39 p2.cells::blk gb 5 (cb (p2.b++marks p2.b.length))::RS):=by rw [hp3]; exact hS
 rw [← hp3]
 clear hp3
 have rd3:∀{w':World} {As:List HProp},St w w' As→OwQ p3.t.q ∈ As→own 5 1 p3.bv p3.b.length (cb p3.b) ∈ As→RdP w' p3:=fun {w' As} h m1 m2=>⟨OwQ.rd _ (St.only h m1),h.own_rd m2⟩
 refine r_alloc hS ze39 fun gj w27 hS=>?_
 refine r_storeN hS ag39 (xs:=p3.cells) rfl (show 0+32≤32 from Nat.le_refl _) (rd3 hS m1 m2).ones fun w28 hS=>?_
 rw [setL_all _ _ (by rfl)] at hS
 -- gj O3 b3 W2 gi gb RS
 refine r_loadN ag39 (xs:=p2.cells) rfl (hS.cells_at m4 0 (whole_at _)) ?_
 refine (writeP Z hN hM (by simp [hoRS]) h2w (fun w' hw'=>rd2 hw' m3 m5) hS).mono fun r w29 hr=>?_
 obtain ⟨vd,ld,hld,hnd,hr,hS⟩:=write_ownP h2w hr
 subst hr
 (try simp only [o_ext2_1,o_ext2_0])
 -- vd gj O3 b3 W2 gi gb RS
 refine r_loadN ag39 (xs:=p3.cells) rfl (hS.cells_at m1 0 (whole_at _)) ?_
 refine (refWriteP Z h3w (fun w' hw'=>rd3 hw' m2 m3) hS).mono fun r w30 hr=>?_
 obtain ⟨ve,le,hle,hne,hr,hS⟩:=write_ownP h3w hr
 subst hr
 rw [okP_eq h3s,pkB_eq h3s,← hld] at hle
 subst hle
 rw [okP_eq h3s]
 (try simp only [o_ext2_1,o_neq,hbn,o_pickF,guardW_ff,o_ext2_0])
 -- ve vd gj O3 b3 W2 gi gb RS
 refine (eqBytes Z (hS.own_rd m1) (hS.own_rd m0)).mono fun r w31 ⟨hr,hd⟩=>?_
 subst hr
 have hS:=hS.drew hd
 rw [decide_eq_true rfl]
 (try simp only [o_not,Bool.not_true,condF])
 refine r_build (cells:=(List.replicate 21 (.slice none 0 0)).toArray) (by kernel_rfl) ?_
 refine r_box _ _ hS fun gB w32 hS=>?_
 have hS:=bag_new hS
 rw [hRS] at hS
 have hS:St w w32 (bagP gB [] [] [] []::own 5 1 va lb.length (cb lb)::own 5 1 vb lb.length (cb lb)::own 5 1 vc lc.length (cb lc)::own 5 1 vd le.length (cb le)::WdQ p2.t.q::blk gb 5 (cb (p2.b++marks p2.b.length))::blk gi 39 p2.cells::[old w]):=by (refine Sh.St.sub ?_ (hS); repeat (first | with_reducible (first | exact sub_refl | exact sub_nil | refine sP0 ?_ | refine sP1 ?_ | refine sP2 ?_ | refine sP3 ?_ | refine sP4 ?_ | refine sP5 ?_ | refine sP6 ?_ | refine sP7 ?_ | refine sP8 ?_ | refine sP9 ?_ | refine sP10 ?_ | refine sP11 ?_ | refine sP12 ?_ | refine sP13 ?_ | refine sP14 ?_ | refine sP15 ?_) | exact sub_refl | refine sP0 ?_ | refine sP1 ?_ | refine sP2 ?_ | refine sP3 ?_ | refine sP4 ?_ | refine sP5 ?_ | refine sP6 ?_ | refine sP7 ?_ | refine sP8 ?_ | refine sP9 ?_ | refine sP10 ?_ | refine sP11 ?_ | refine sP12 ?_ | refine sP13 ?_ | refine sP14 ?_ | refine sP15 ?_ | refine sub_drop ?_))
 have o1:=St.own_one (hS.pick 1)
 have o2:=St.own_one (hS.pick 2)
 have o3:=St.own_one (hS.pick 3)
 have o4:=St.own_one (hS.pick 4)
 refine (bagAddBytes Z (l:=va) o1 hS).mono fun r w33 ⟨b',hb',hS⟩=>?_
 rw [if_pos (by simp)] at hb'
 subst hb'
 refine (bagAddBytes Z (l:=vb) o2 hS).mono fun r w34 ⟨b',hb',hS⟩=>?_
 rw [if_pos (by simp)] at hb'
 subst hb'
 refine (bagAddBytes Z (l:=vc) o3 hS).mono fun r w35 ⟨b',hb',hS⟩=>?_
 rw [if_pos (by simp)] at hb'
 subst hb'
 refine (bagAddBytes Z (l:=vd) o4 hS).mono fun r w36 ⟨b',hb',hS⟩=>?_
 rw [if_pos (by simp)] at hb'
 subst hb'
 refine r_loadN ag39 (xs:=p2.cells) rfl (hS.cells_at m7 0 (whole_at _)) ?_
 have a1:=(hS.pick 5).mono (WdQ.ow _ h2w.q)
 have a2:=(a1.pick 6).mono (wideB_ow h2w.b)
 rw [← h2v] at a2
 have hS:St w w36 (bagP gB [va,vb,vc,vd] [] [] []::OwQ p2.t.q::own 5 1 p2.bv p2.b.length (cb p2.b)::own 5 1 vd le.length (cb le)::own 5 1 vc lc.length (cb lc)::own 5 1 vb lb.length (cb lb)::own 5 1 va lb.length (cb lb)::blk gi 39 p2.cells::[old w]):=by (refine Sh.St.sub ?_ (a2); repeat (first | with_reducible (first | exact sub_refl | exact sub_nil | refine sP0 ?_ | refine sP1 ?_ | refine sP2 ?_ | refine sP3 ?_ | refine sP4 ?_ | refine sP5 ?_ | refine sP6 ?_ | refine sP7 ?_ | refine sP8 ?_ | refine sP9 ?_ | refine sP10 ?_ | refine sP11 ?_ | refine sP12 ?_ | refine sP13 ?_ | refine sP14 ?_ | refine sP15 ?_) | exact sub_refl | refine sP0 ?_ | refine sP1 ?_ | refine sP2 ?_ | refine sP3 ?_ | refine sP4 ?_ | refine sP5 ?_ | refine sP6 ?_ | refine sP7 ?_ | refine sP8 ?_ | refine sP9 ?_ | refine sP10 ?_ | refine sP11 ?_ | refine sP12 ?_ | refine sP13 ?_ | refine sP14 ?_ | refine sP15 ?_ | refine sub_drop ?_))
 refine (addPk Z h2w hS).mono fun r w37 ⟨n0,n1,n2,n3,hS⟩=>?_
 rw [List.nil_append,List.nil_append,List.nil_append] at hS
 have c1:=newR.none (by (refine Sh.St.sub ?_ (hS); repeat (first | with_reducible (first | exact sub_refl | exact sub_nil | refine sP0 ?_ | refine sP1 ?_ | refine sP2 ?_ | refine sP3 ?_ | refine sP4 ?_ | refine sP5 ?_ | refine sP6 ?_ | refine sP7 ?_ | refine sP8 ?_ | refine sP9 ?_ | refine sP10 ?_ | refine sP11 ?_ | refine sP12 ?_ | refine sP13 ?_ | refine sP14 ?_ | refine sP15 ?_) | exact sub_refl | refine sP0 ?_ | refine sP1 ?_ | refine sP2 ?_ | refine sP3 ?_ | refine sP4 ?_ | refine sP5 ?_ | refine sP6 ?_ | refine sP7 ?_ | refine sP8 ?_ | refine sP9 ?_ | refine sP10 ?_ | refine sP11 ?_ | refine sP12 ?_ | refine sP13 ?_ | refine sP14 ?_ | refine sP15 ?_ | refine sub_drop ?_)):St w w37 (own 5 1 vd le.length (cb le)::own 5 1 vc lc.length (cb lc)::own 5 1 vb lb.length (cb lb)::own 5 1 va lb.length (cb lb)::newR n0 n1 n2 n3::bagP gB ([va,vb,vc,vd]++n0.map Prod.fst) (n1.map Prod.fst) (n2.map Prod.fst) (n3.map Prod.fst)::[old w]))
 have c2:=newR.open c1
 have c3:=rows_cons (p:=(vd,le.length)) (by show le.length * 1≤_; omega) ((c2.pick 4))
 have c4:=rows_cons (p:=(vc,lc.length)) (by show lc.length * 1≤_; omega) ((c3.pick 4))
 have c5:=rows_cons (p:=(vb,lb.length)) (by show lb.length * 1≤_; omega) ((c4.pick 4))
 have c6:=rows_cons (p:=(va,lb.length)) (by show lb.length * 1≤_; omega) ((c5.pick 4))
 have c7:=newR.join (newR.shut c6)
 have e0:[va,vb,vc,vd]++n0.map Prod.fst=([(va,lb.length),(vb,lb.length),(vc,lc.length),(vd,le.length)]++n0).map Prod.fst:=by simp
 rw [e0,List.nil_append,List.nil_append,List.nil_append] at c7
 have hS:=(newR.open c7).pick 4
 refine (bagApart Z hT (by simp) hS).mono fun r w38 ⟨hr,hS⟩=>?_
 subst hr
 exact ⟨by first | rfl | trivial,by (refine Sh.St.sub ?_ (hS); repeat (first | with_reducible (first | exact sub_refl | exact sub_nil | refine sP0 ?_ | refine sP1 ?_ | refine sP2 ?_ | refine sP3 ?_ | refine sP4 ?_ | refine sP5 ?_ | refine sP6 ?_ | refine sP7 ?_ | refine sP8 ?_ | refine sP9 ?_ | refine sP10 ?_ | refine sP11 ?_ | refine sP12 ?_ | refine sP13 ?_ | refine sP14 ?_ | refine sP15 ?_) | exact sub_refl | refine sP0 ?_ | refine sP1 ?_ | refine sP2 ?_ | refine sP3 ?_ | refine sP4 ?_ | refine sP5 ?_ | refine sP6 ?_ | refine sP7 ?_ | refine sP8 ?_ | refine sP9 ?_ | refine sP10 ?_ | refine sP11 ?_ | refine sP12 ?_ | refine sP13 ?_ | refine sP14 ?_ | refine sP15 ?_ | refine sub_drop ?_))⟩
end

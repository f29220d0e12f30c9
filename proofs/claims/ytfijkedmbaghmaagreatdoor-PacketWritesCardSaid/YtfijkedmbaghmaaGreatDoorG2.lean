import Derived.Test.YtfijkedmbaghmaaGreatDoorT27
import Derived.Test.YtfijkedmbaghmaaGreatDoorShTwin
/- Packets as they lie; what makes each of their fields right. Printed by wip/sh/mkG1.py. -/
set_option linter.unusedVariables false
set_option linter.unusedSimpArgs false
namespace Go.Proofs.YtfijkedmbaghmaaGreatDoor
open Go.Sh
open Tryz renaming prog → π
structure Pk where
 kd:Int
 cb:Int
 ct:Int
 lb:Int
 lt:Int
 pl:Int
 ep:Int
 cu:Int
 ze:Int
 zn:Int
 ve:Int
 vn:Int
 co:Bool
 fi:Bool
 t:Tx
 bv:Value
 b:List UInt8
 se:Int
def Pk.hd (p:Pk):List Value:=[.int .i8 p.kd,.int .u32 p.cb,.int .u32 p.ct,.int .u32 p.lb,.int .u32 p.lt,.int .i64 p.pl,.int .u32 p.ep,.int .u32 p.cu,.int .u32 p.ze,.int .u32 p.zn,.int .u32 p.ve,.int .u32 p.vn,.bool p.co,.bool p.fi]
def Pk.cells (p:Pk):List Value:=p.hd++(p.t.cells++[p.bv,.int .i64 p.se])
theorem Pk.cells_len (p:Pk):p.cells.length=32:=rfl
structure RdP (w:World) (p:Pk):Prop where
 t:RdQ w p.t.q
 b:Rd w 1 p.bv p.b.length (cb p.b)
structure WfP (p:Pk):Prop where
 kd : -128≤p.kd∧p.kd≤127
 cb:u32r p.cb
 ct:u32r p.ct
 lb:u32r p.lb
 lt:u32r p.lt
 pl : -9223372036854775808≤p.pl∧p.pl≤9223372036854775807
 ep:u32r p.ep
 cu:u32r p.cu
 ze:u32r p.ze
 zn:u32r p.zn
 ve:u32r p.ve
 vn:u32r p.vn
 h:wfH p.t.hd
 q:WfQ p.t.q
 b:p.b.length≤140737488351232
 se : -9223372036854775808≤p.se∧p.se≤9223372036854775807
theorem RdP.ones {w:World} {p:Pk} (h:RdP w p):ones p.cells:=by
 have h1:=h.t.ones
 have h2:=Rd.one h.b
 intro u hu
 unfold Pk.cells at hu
 rcases List.mem_append.1 hu with hu | hu
 ·simp only [Pk.hd,List.mem_cons,List.not_mem_nil,or_false] at hu
  rcases hu with rfl | rfl | rfl | rfl | rfl | rfl | rfl | rfl | rfl | rfl | rfl | rfl | rfl | rfl <;> rfl
 ·rcases List.mem_append.1 hu with hu | hu
  ·exact txC_ones h1 u hu
  ·simp only [List.mem_cons,List.not_mem_nil,or_false] at hu
   rcases hu with rfl | rfl
   ·exact h2
   ·rfl
theorem pk_tx (p:Pk):∀j v,p.t.cells[j]? = some v→p.cells[14+j]? = some v:=fun j v hv=>by
 have hj:j < 16:=by have:=(List.getElem?_eq_some_iff.1 hv).1; rwa [Tx.cells_len] at this
 unfold Pk.cells
 rw [List.getElem?_append_right (by show 14≤14+j; omega),show 14+j - p.hd.length=j by show 14+j - 14=j; omega,List.getElem?_append_left (by rw [Tx.cells_len]; exact hj)]
 exact hv
def two (k:Nat) (p:Pk) (a b:Int):Prop:=p.cells[k]? = some (.int .u32 a)∧p.cells[k+1]? = some (.int .u32 b)
theorem pk_two {p:Pk} {k:Nat} {a b:Int} (h:two k p a b):∀j v,(zx a b)[j]? = some v→p.cells[k+j]? = some v:=by
 rintro (_ | _ | j) v hv
 ·exact h.1.trans hv
 ·exact h.2.trans hv
 ·simp [zx] at hv
def cnOk (a b:Int):Bool:=decide (0 < a) && decide (0 < b)
def zxOk (e n:Int):Bool:=((e == 0) && (n == 0)) || (decide (0 < e) && (decide (e≤2147483647) && decide (0 < n)))
def rt (p:Pk):Nat→Bool
 | 0=>cnOk p.cb p.ct
 | 1=>cnOk p.lb p.lt
 | 2=>decide (0≤p.pl)
 | 3=>decide (p.ep≤2147483647) && (decide (0 < p.ep) || (p.kd == 1))
 | 4=>decide (p.cu≤2147483647)
 | 5=>(((p.kd != 11) && (p.kd != 12)) || !((p.ze == 0) && (p.zn == 0))) && zxOk p.ze p.zn
 | 6=>zxOk p.ve p.vn
 | 7=>true
 | 8=>true
 | 9=>chkT p.t && (if p.kd=13 then ((p.t.e == 0) && (p.t.n == 0)) && decide (0 < p.t.nu) else decide (cmpZ p.ve p.vn p.t.e p.t.n < 0))
 | 10=>decide (0 < (p.b.length:Int)) && decide ((p.b.length:Int)≤4096)
 | _=>decide (0 < p.se)
section
variable (Z:PZ) {o w:World} {R As:List HProp} {g:Nat} {p:Pk}
theorem isConnC (a b:Int) (h:St o w R):CallV π Z 186 #[.agg (zx a b).toArray] w fun r w'=>r=.bool (cnOk a b)∧St o w' R:=by
 refine f186.calls ?_
 unfold f186.sh
 refine r_box _ _ h fun g w1 hS=>?_
 have hS:St o w1 (blk g 25 (zx a b)::R):=hS
 (try simp only [fa_25_1,Nat.zero_add,fa_25_0,Nat.add_zero])
 refine r_load one23 (hS.at m0 0 rfl) ?_
 (try simp only [o_gtr])
 by_cases h1:0 < a
 ·(try simp only [h1,decide_true,o_pickT,guardW_true])
  refine r_load one23 (hS.at m0 1 rfl) ?_
  (try simp only [o_gtr])
  exact ⟨by simp [cnOk,h1],hS.drop⟩
 ·(try simp only [h1,decide_false,o_pickF,guardW_ft])
  exact ⟨by simp [cnOk,h1],hS.drop⟩
theorem isZxidC (e n:Int) (h:St o w R):CallV π Z 100 #[.agg (zx e n).toArray] w fun r w'=>r=.bool (zxOk e n)∧St o w' R:=by
 refine f100.calls ?_
 unfold f100.sh
 refine r_box _ _ h fun g w1 hS=>?_
 have hS:St o w1 (blk g 27 (zx e n)::R):=hS
 refine r_loadN ag27 (xs:=zx e n) rfl (hS.cells_at m0 0 (whole_at _)) ?_
 refine r_build (cells:=(zx 0 0).toArray) (by kernel_rfl) ?_
 refine r1 (eqZx e n 0 0 _) ?_
 by_cases h0:((e == 0) && (n == 0))=true
 ·rw [h0]
  (try simp only [fa_27_0,Nat.add_zero,fa_27_1,Nat.zero_add,o_pickT,guardW_tf,guardW_u])
  exact ⟨by rw [zxOk,h0]; rfl,hS.drop⟩
 ·have h0:((e == 0) && (n == 0))=false:=by simpa using h0
  rw [h0]
  (try simp only [fa_27_0,Nat.add_zero,fa_27_1,Nat.zero_add,o_pickF,guardW_ff])
  refine r_load one23 (hS.at m0 0 rfl) ?_
  (try simp only [o_gtr])
  by_cases h1:0 < e
  ·(try simp only [h1,decide_true,o_pickT,guardW_true])
   refine r_load one23 (hS.at m0 0 rfl) ?_
   (try simp only [o_leq])
   by_cases h2:e≤2147483647
   ·(try simp only [h2,decide_true,o_pickT,guardW_true])
    refine r_load one23 (hS.at m0 1 rfl) ?_
    (try simp only [o_gtr])
    exact ⟨by rw [zxOk,h0]; simp [h1,h2],hS.drop⟩
   ·(try simp only [h2,decide_false,o_pickF,guardW_ft])
    exact ⟨by rw [zxOk,h0]; simp [h2],hS.drop⟩
  ·(try simp only [h1,decide_false,o_pickF,guardW_ft])
   exact ⟨by rw [zxOk,h0]; simp [h1],hS.drop⟩
theorem right0 (h:St o w (blk g 39 p.cells::R)):CallV π Z 185 #[.pointer (some ⟨g,0,none⟩)] w fun r w'=>r=.bool (rt p 0)∧St o w' (blk g 39 p.cells::R):=by
 refine f185.calls ?_
 unfold f185.sh
 (try simp only [o_chk,fa_39_1,Nat.zero_add])
 refine r_loadN ag25 (xs:=zx p.cb p.ct) rfl (h.cells_at m0 1 (pk_two ⟨rfl,rfl⟩)) ?_
 exact isConnC Z p.cb p.ct h
theorem right1 (h:St o w (blk g 39 p.cells::R)):CallV π Z 189 #[.pointer (some ⟨g,0,none⟩)] w fun r w'=>r=.bool (rt p 1)∧St o w' (blk g 39 p.cells::R):=by
 refine f189.calls ?_
 unfold f189.sh
 (try simp only [o_chk,fa_39_2,Nat.zero_add])
 refine r_loadN ag25 (xs:=zx p.lb p.lt) rfl (h.cells_at m0 3 (pk_two ⟨rfl,rfl⟩)) ?_
 exact isConnC Z p.lb p.lt h
theorem right2 (h:St o w (blk g 39 p.cells::R)):CallV π Z 192 #[.pointer (some ⟨g,0,none⟩)] w fun r w'=>r=.bool (rt p 2)∧St o w' (blk g 39 p.cells::R):=by
 refine f192.calls ?_
 unfold f192.sh
 (try simp only [o_chk,fa_39_3,Nat.zero_add])
 refine r_load one2 (h.at m0 5 rfl) ?_
 (try simp only [o_geq])
 exact ⟨by first | rfl | trivial,h⟩
theorem right3 (h:St o w (blk g 39 p.cells::R)):CallV π Z 88 #[.pointer (some ⟨g,0,none⟩)] w fun r w'=>r=.bool (rt p 3)∧St o w' (blk g 39 p.cells::R):=by
 refine f88.calls ?_
 unfold f88.sh
 (try simp only [o_chk,fa_39_4,Nat.zero_add])
 refine r_load one23 (h.at m0 6 rfl) ?_
 (try simp only [o_leq])
 by_cases h1:p.ep≤2147483647
 ·(try simp only [h1,decide_true,o_pickT,guardW_true,o_chk,fa_39_4,Nat.zero_add])
  refine r_load one23 (h.at m0 6 rfl) ?_
  (try simp only [o_gtr])
  by_cases h2:0 < p.ep
  ·(try simp only [h2,decide_true,o_pickT,guardW_tf])
   exact ⟨by simp [rt,h1,h2],h⟩
  ·(try simp only [h2,decide_false,o_pickF,guardW_ff,o_chk,fa_39_0,Nat.add_zero])
   refine r_load one22 (h.at m0 0 rfl) ?_
   (try simp only [o_eql])
   exact ⟨by simp [rt,h1,h2],h⟩
 ·(try simp only [h1,decide_false,o_pickF,guardW_ft,guardW_u])
  exact ⟨by simp [rt,h1],h⟩
theorem right4 (h:St o w (blk g 39 p.cells::R)):CallV π Z 91 #[.pointer (some ⟨g,0,none⟩)] w fun r w'=>r=.bool (rt p 4)∧St o w' (blk g 39 p.cells::R):=by
 refine f91.calls ?_
 unfold f91.sh
 (try simp only [o_chk,fa_39_5,Nat.zero_add])
 refine r_load one23 (h.at m0 7 rfl) ?_
 (try simp only [o_leq])
 exact ⟨by first | rfl | trivial,h⟩
theorem right5 (h:St o w (blk g 39 p.cells::R)):CallV π Z 96 #[.pointer (some ⟨g,0,none⟩)] w fun r w'=>r=.bool (rt p 5)∧St o w' (blk g 39 p.cells::R):=by
 refine f96.calls ?_
 unfold f96.sh
 (try simp only [o_chk,fa_39_0,Nat.add_zero])
 refine r_load one22 (h.at m0 0 rfl) ?_
 (try simp only [o_neq])
 have fin:(((p.kd != 11) && (p.kd != 12)) || !((p.ze == 0) && (p.zn == 0)))=true→CallV π Z 100 #[.agg (zx p.ze p.zn).toArray] w fun r w'=>r=.bool (rt p 5)∧St o w' (blk g 39 p.cells::R):=fun hs=>
  (isZxidC Z p.ze p.zn h).mono fun r w' ⟨hr,hS⟩=>⟨by rw [hr,rt,hs,Bool.true_and],hS⟩
 by_cases h1:(p.kd != 11)=true
 ·(try simp only [h1,o_pickT,guardW_true,o_chk,fa_39_0,Nat.add_zero])
  refine r_load one22 (h.at m0 0 rfl) ?_
  (try simp only [o_neq])
  by_cases h2:(p.kd != 12)=true
  ·(try simp only [h2,o_pickT,guardW_true,o_chk,fa_39_6,Nat.zero_add,guardW_tf])
   refine r_loadN ag27 (xs:=zx p.ze p.zn) rfl (h.cells_at m0 8 (pk_two ⟨rfl,rfl⟩)) ?_
   refine (fin (by rw [h1,h2]; rfl)).mono fun r w' ⟨hr,hS⟩=>?_
   subst hr
   (try simp only [])
   exact ⟨by first | rfl | trivial,hS⟩
  ·have h2:(p.kd != 12)=false:=by simpa using h2
   (try simp only [h2,o_pickF,guardW_ff,o_chk,fa_39_6,Nat.zero_add])
   refine r_loadN ag27 (xs:=zx p.ze p.zn) rfl (h.cells_at m0 8 (pk_two ⟨rfl,rfl⟩)) ?_
   refine r_build (cells:=(zx 0 0).toArray) (by kernel_rfl) ?_
   refine r1 (neqZx p.ze p.zn 0 0 _) ?_
   by_cases h0:((p.ze == 0) && (p.zn == 0))=true
   ·rw [h0]
    (try simp only [Bool.not_true,o_pickF,guardW_ft])
    exact ⟨by rw [rt,h0,h2]; simp,h⟩
   ·have h0:((p.ze == 0) && (p.zn == 0))=false:=by simpa using h0
    rw [h0]
    (try simp only [Bool.not_false,o_pickT,guardW_true,o_chk,fa_39_6,Nat.zero_add])
    refine r_loadN ag27 (xs:=zx p.ze p.zn) rfl (h.cells_at m0 8 (pk_two ⟨rfl,rfl⟩)) ?_
    refine (fin (by rw [h0]; simp)).mono fun r w' ⟨hr,hS⟩=>?_
    subst hr
    (try simp only [])
    exact ⟨by first | rfl | trivial,hS⟩
 ·have h1:(p.kd != 11)=false:=by simpa using h1
  (try simp only [h1,o_pickF,guardW_ff,o_chk,fa_39_6,Nat.zero_add,guardW_ft])
  refine r_loadN ag27 (xs:=zx p.ze p.zn) rfl (h.cells_at m0 8 (pk_two ⟨rfl,rfl⟩)) ?_
  refine r_build (cells:=(zx 0 0).toArray) (by kernel_rfl) ?_
  refine r1 (neqZx p.ze p.zn 0 0 _) ?_
  by_cases h0:((p.ze == 0) && (p.zn == 0))=true
  ·rw [h0]
   (try simp only [Bool.not_true,o_pickF,guardW_ft])
   exact ⟨by rw [rt,h0,h1]; simp,h⟩
  ·have h0:((p.ze == 0) && (p.zn == 0))=false:=by simpa using h0
   rw [h0]
   (try simp only [Bool.not_false,o_pickT,guardW_true,o_chk,fa_39_6,Nat.zero_add])
   refine r_loadN ag27 (xs:=zx p.ze p.zn) rfl (h.cells_at m0 8 (pk_two ⟨rfl,rfl⟩)) ?_
   refine (fin (by rw [h0]; simp)).mono fun r w' ⟨hr,hS⟩=>?_
   subst hr
   (try simp only [])
   exact ⟨by first | rfl | trivial,hS⟩
theorem right6 (h:St o w (blk g 39 p.cells::R)):CallV π Z 99 #[.pointer (some ⟨g,0,none⟩)] w fun r w'=>r=.bool (rt p 6)∧St o w' (blk g 39 p.cells::R):=by
 refine f99.calls ?_
 unfold f99.sh
 (try simp only [o_chk,fa_39_7,Nat.zero_add])
 refine r_loadN ag27 (xs:=zx p.ve p.vn) rfl (h.cells_at m0 10 (pk_two ⟨rfl,rfl⟩)) ?_
 exact isZxidC Z p.ve p.vn h
theorem right7 (h:St o w (blk g 39 p.cells::R)):CallV π Z 84 #[.pointer (some ⟨g,0,none⟩)] w fun r w'=>r=.bool (rt p 7)∧St o w' (blk g 39 p.cells::R):=by
 refine f84.calls ?_
 unfold f84.sh
 exact ⟨by first | rfl | trivial,h⟩
theorem right9 (hN:Names o) (ho:old o ∈ R) (hx:Ent o R fun w=>RdP w p) (h:St o w (blk g 39 p.cells::R)):CallV π Z 109 #[.pointer (some ⟨g,0,none⟩)] w fun r w'=>r=.bool (rt p 9)∧St o w' (blk g 39 p.cells::R):=by
 refine f109.calls ?_
 unfold f109.sh
 (try simp only [o_chk,fa_39_10,Nat.zero_add,fa_37_0,Nat.add_zero,o_chkp,fa_39_10p,fa_37_0p,fa_39_7p,fa_39_0])
 refine r_loadN ag37 (xs:=p.t.cells) (Tx.cells_len _) (h.cells_at m0 14 (pk_tx p)) ?_
 refine (chkTx Z p.t hN (by simp [ho]) (fun w hw=>(hx w hw.drop).t) h).mono fun r w1 ⟨hr,hS⟩=>?_
 subst hr
 by_cases hc:chkT p.t=true
 ·rw [if_pos hc]
  (try simp only [o_neq,bne_self_eq_false,condF])
  refine r_load one22 (hS.at m0 0 rfl) ?_
  by_cases h13:p.kd=13
  ·have hb:(p.kd == 13)=true:=by simp [h13]
   (try simp only [o_eql,hb,condT])
   refine r_loadN ag27 (xs:=zx p.t.e p.t.n) rfl (hS.cells_at m0 14 (pk_two ⟨rfl,rfl⟩)) ?_
   refine r_build (cells:=(zx 0 0).toArray) (by kernel_rfl) ?_
   refine r1 (eqZx p.t.e p.t.n 0 0 _) ?_
   by_cases h0:((p.t.e == 0) && (p.t.n == 0))=true
   ·rw [h0]
    (try simp only [o_pickT,guardW_true,o_chk,fa_39_10,Nat.zero_add,fa_37_1,fa_29_2])
    refine r_load one2 (hS.at m0 18 rfl) ?_
    (try simp only [o_gtr])
    exact ⟨by rw [rt,hc,if_pos h13,h0]; rfl,hS⟩
   ·have h0:((p.t.e == 0) && (p.t.n == 0))=false:=by simpa using h0
    rw [h0]
    (try simp only [o_pickF,guardW_ft])
    exact ⟨by rw [rt,hc,if_pos h13,h0]; rfl,hS⟩
  ·have hb:(p.kd == 13)=false:=by simpa using h13
   (try simp only [o_eql,hb,condF])
   refine ⟨fun w2 hd=>?_⟩
   have hS:=hS.drew hd
   skip
   refine rr_loadN ag27 (xs:=zx p.ve p.vn) rfl (hS.cells_at m0 10 (pk_two ⟨rfl,rfl⟩)) ?_
   skip
   refine rr_loadN ag27 (xs:=zx p.t.e p.t.n) rfl (hS.cells_at m0 14 (pk_two ⟨rfl,rfl⟩)) ?_
   refine (txnCompare Z hS).mono fun r w3 ⟨hr,hS⟩=>?_
   subst hr
   (try simp only [o_lssp])
   exact ⟨by rw [rt,hc,if_neg h13]; rfl,hS⟩
 ·have hc:chkT p.t=false:=by simpa using hc
  rw [hc,if_neg Bool.false_ne_true]
  have h40:((40:Int) != 0)=true:=rfl
  (try simp only [o_neq,h40,condT])
  exact ⟨by rw [rt,hc]; rfl,hS⟩
theorem right10 (hx:Ent o R fun w=>RdP w p) (h:St o w (blk g 39 p.cells::R)):CallV π Z 114 #[.pointer (some ⟨g,0,none⟩)] w fun r w'=>r=.bool (rt p 10)∧St o w' (blk g 39 p.cells::R):=by
 refine f114.calls ?_
 unfold f114.sh
 obtain ⟨a,c,e⟩:=(hx w h.drop).b.form
 (try simp only [o_chk,fa_39_11,Nat.zero_add])
 refine r_load one30 (h.at m0 30 rfl) ?_
 rw [e]
 (try simp only [ln_30_3,o_gtr])
 by_cases h1:0 < (p.b.length:Int)
 ·(try simp only [h1,decide_true,o_pickT,guardW_true,o_chk,fa_39_11,Nat.zero_add])
  refine r_load one30 (h.at m0 30 rfl) ?_
  rw [e]
  (try simp only [ln_30_3,o_leq])
  exact ⟨by simp only [rt,h1,decide_true,Bool.true_and],h⟩
 ·(try simp only [h1,decide_false,o_pickF,guardW_ft])
  exact ⟨by simp only [rt,h1,decide_false,Bool.false_and],h⟩
theorem right11 (h:St o w (blk g 39 p.cells::R)):CallV π Z 119 #[.pointer (some ⟨g,0,none⟩)] w fun r w'=>r=.bool (rt p 11)∧St o w' (blk g 39 p.cells::R):=by
 refine f119.calls ?_
 unfold f119.sh
 (try simp only [o_chk,fa_39_12,Nat.zero_add])
 refine r_load one2 (h.at m0 31 rfl) ?_
 (try simp only [o_gtr])
 exact ⟨by first | rfl | trivial,h⟩
end
end Go.Proofs.YtfijkedmbaghmaaGreatDoor

/- No transaction. -/
set_option linter.unusedVariables false
set_option linter.unusedSimpArgs false
namespace Go.Proofs.YtfijkedmbaghmaaGreatDoor
open Go.Sh
open Tryz renaming prog → π
theorem okc_path {inner:Bool} {f:Fl} (h:okc inner f 0):f.path.length≤140737488351232:=by
 have h:if bi inner f 0 then okL 64 f.path else f.path=[]:=h
 split at h
 ·have:=h.1; omega
 ·rw [h]; simp
theorem okc_data {inner:Bool} {f:Fl} (h:okc inner f 1):f.data.length≤140737488351232:=by
 have h:if bi inner f 1 then okL 96 f.data else f.data=[]:=h
 split at h
 ·have:=h.1; omega
 ·rw [h]; simp
theorem okId_wf {x:Idd} (h:okId x):wfId x:=by
 have h1:=h.1.1
 have h2:=h.2.1
 exact ⟨by omega,by omega⟩
theorem okTo_wf {inner:Bool} {f:Fl} (h:okTo inner f 8):WfF f:=by
 have hk:=okTo_kd h
 refine ⟨by omega,okc_path (okTo_le h (by omega)),okc_data (okTo_le h (by omega)),?_,?_,?_,?_,?_⟩
 ·have h2:if bi inner f 2 then f.acl.length≤4∧∀x ∈ f.acl,okEn x else f.acl=[]:=okTo_le h (show 2 < 8 by omega)
  split at h2
  ·exact ⟨by omega,fun x hx=>⟨(h2.2 x hx).1,okId_wf (h2.2 x hx).2⟩⟩
  ·rw [h2]; simp
 ·have h2:if bi inner f 3 then -2147483648≤f.ver∧f.ver≤2147483647 else f.ver=0:=okTo_le h (show 3 < 8 by omega)
  split at h2
  ·exact h2
  ·omega
 ·have h2:if bi inner f 5 then -9223372036854775808≤f.ses∧f.ses≤9223372036854775807 else f.ses=0:=okTo_le h (show 5 < 8 by omega)
  split at h2
  ·exact h2
  ·omega
 ·have h2:if bi inner f 6 then -2147483648≤f.tmo∧f.tmo≤2147483647 else f.tmo=0:=okTo_le h (show 6 < 8 by omega)
  split at h2
  ·exact h2
  ·omega
 ·have h2:if bi inner f 7 then f.who.length≤4∧∀x ∈ f.who,okId x else f.who=[]:=okTo_le h (show 7 < 8 by omega)
  split at h2
  ·exact ⟨by omega,fun x hx=>okId_wf (h2.2 x hx)⟩
  ·rw [h2]; simp
theorem okR_wf {q:Rq} (h:okR false q):WfQ q:=by
 have h2:=h.2
 refine .mk q (okTo_wf h.1) ?_ fun x hx=>?_
 ·split at h2
  ·omega
  ·rw [h2]; simp
 ·split at h2
  ·have h3:=h2.2 x hx
   exact .mk x (okTo_wf h3.1) (by rw [h3.2]; simp) (fun y hy=>by rw [h3.2] at hy; cases hy)
  ·rw [h2] at hx; cases hx
def qz:Rq:=.mk zf (.slice none 0 0) (.slice none 0 0) (.slice none 0 0) (.slice none 0 0) []
def tz:Tx:=⟨0,0,0,0,0,qz⟩
theorem qz_wf:WfQ qz:=.mk _ ⟨by decide,by decide,by decide,⟨by decide,fun x hx=>by cases hx⟩,by decide,by decide,by decide,⟨by decide,fun x hx=>by cases hx⟩⟩ (by decide) (fun x hx=>by cases hx)
section
variable {o w:World} {R:List HProp}
theorem tz_own (h:St o w R):St o w (OwQ tz.q::R):=by
 show St o w (OwQ qz::R)
 rw [OwQ_eq]
 have h1:=(h.emp.mono fun _ _=>(trivial:satH (([]:List Rq).map OwQ) _)).own_nil 35 11
 exact (OwF.plain 0 h1.sep_intro).sep_intro
end
end Go.Proofs.YtfijkedmbaghmaaGreatDoor

/- What a kind of packets names; whether all the rest is zero. Printed by wip/sh/mkG2.py. -/
set_option linter.unusedVariables false
set_option linter.unusedSimpArgs false
namespace Go.Proofs.YtfijkedmbaghmaaGreatDoor
open Go.Sh
open Tryz renaming prog → π
def namedTab:List Int:=[0,9,15,191,39,583,1287,47,15,39,583,39,39,519,2055]
def Named (o:World):Prop:=Lib.TabIs π o "lagoon/packet.named" .i64 namedTab
def nmP (k:Nat):Nat:=(namedTab.getD k 0).toNat
theorem nmP_int (k:Nat) (hk:k≤14):namedTab.getD k 0=(nmP k:Int):=by
 obtain rfl | rfl | rfl | rfl | rfl | rfl | rfl | rfl | rfl | rfl | rfl | rfl | rfl | rfl | rfl:k=0∨k=1∨k=2∨k=3∨k=4∨k=5∨k=6∨k=7∨k=8∨k=9∨k=10∨k=11∨k=12∨k=13∨k=14:=by omega
 all_goals rfl
def hasF (k i:Nat):Bool:=(nmP k).testBit i
theorem and_fin:∀k:Fin 15,∀i:Fin 12,((IntKind.i64.wrap ((BitVec.ofInt IntKind.i64.bits ((nmP k.1:Nat):Int) &&& BitVec.ofInt IntKind.i64.bits ((2 ^ i.1:Nat):Int)).toNat:Int)) == 0)=!hasF k.1 i.1:=by decide +kernel
theorem andB (k i:Nat) (hk:k≤14) (hi:i≤11) (b:Int) (hb:b=((2 ^ i:Nat):Int)):∃v:Int,(∀(t:TypeId) (w:World),(binOp .and t (.int .i64 (nmP k)) (.int .i64 b)).run π w=.ok (.int .i64 v) w)∧(v == 0)=!hasF k i∧(v != 0)=hasF k i:=by
 subst hb
 have h:=and_fin ⟨k,by omega⟩ ⟨i,by omega⟩
 exact ⟨_,fun t w=>run_and _ w t .i64 _ _,h,by unfold bne; rw [h]; simp⟩
theorem run_namedIx (kd:Int) (h:0≤kd∧kd≤14) (w:World):(Instr.indexAt 145 (.pointer (some ⟨0,0,none⟩)) (.int .i8 kd)).run π w=.ok (.pointer (some ⟨0,kd.toNat,none⟩)) w:=by
 have hl:π.arrayLen 145=15:=by kernel_rfl
 have he:π.elem 145=3:=by kernel_rfl
 have hs:(sizeOf 3).run π w=.ok 1 w:=by kernel_rfl
 rw [run_indexAt_array _ _ _ _ _ (by kernel_rfl),hl,he,hs,if_pos ⟨h.1,by omega⟩]
 simp [Result.andThen,Addr.add]
 intro h0
 omega
def isKd (kd:Int):Bool:=decide (1≤kd) && decide (kd≤14)
structure Rs where
 cb:Int
 ct:Int
 lb:Int
 lt:Int
 pl:Int
 se:Int
 ep:Int
 cu:Int
 ze:Int
 zn:Int
 ve:Int
 vn:Int
 co:Bool
 fi:Bool
def Rs.cells (x:Rs):List Value:=[.int .u32 x.cb,.int .u32 x.ct,.int .u32 x.lb,.int .u32 x.lt,.int .i64 x.pl,.int .i64 x.se,.int .u32 x.ep,.int .u32 x.cu,.int .u32 x.ze,.int .u32 x.zn,.int .u32 x.ve,.int .u32 x.vn,.bool x.co,.bool x.fi]
def rs0:Rs:=⟨0,0,0,0,0,0,0,0,0,0,0,0,false,false⟩

open Classical in
noncomputable def zr (p:Pk):Nat→Bool
 | 0=>(p.cb == 0) && (p.ct == 0)
 | 1=>(p.lb == 0) && (p.lt == 0)
 | 2=>p.pl == 0
 | 3=>p.ep == 0
 | 4=>p.cu == 0
 | 5=>(p.ze == 0) && (p.zn == 0)
 | 6=>(p.ve == 0) && (p.vn == 0)
 | 7=>!p.co
 | 8=>!p.fi
 | 9=>decide (p.t.hd=tz.hd∧p.t.q.st=tz.q.st)
 | 10=>decide (p.b.length=0)
 | _=>p.se == 0
theorem eqConnIn (a b a' b':Int) (d:Nat) (w:World):(Op.equalIn (d+2) 25 (.agg (zx a b).toArray) (.agg (zx a' b').toArray)).run π w=.ok ((a == a') && (b == b')) w:=by
 have hu:π.underlying 25=some (.struct (π.fieldsOf 25)):=by kernel_rfl
 have hs:π.stoodInHeld 25=false:=by kernel_rfl
 have hk:π.plainKey 23=true:=by kernel_rfl
 have p0:∀(a b:Int) (w:World),(part 23 (zx a b).toArray 0).run π w=.ok (.int .u32 a) w:=fun a b w=>run_part_plain w hk rfl
 have p1:∀(a b:Int) (w:World),(part 23 (zx a b).toArray 1).run π w=.ok (.int .u32 b) w:=fun a b w=>run_part_plain w hk rfl
 rw [run_equalIn_agg _ _ _ _ _ hu hs]
 simp [Program.fieldsOf,Tryz.underlying25,Op.eqFields,p0,p1,run_equalIn_int _ _ _ _ _ _ _ Tryz.underlying23]
 by_cases h1:a=a' <;> by_cases h2:b=b' <;> simp [h1,h2]
theorem eqZxIn (a b a' b':Int) (d:Nat) (w:World):(Op.equalIn (d+2) 27 (.agg (zx a b).toArray) (.agg (zx a' b').toArray)).run π w=.ok ((a == a') && (b == b')) w:=by
 have hu:π.underlying 27=some (.struct (π.fieldsOf 27)):=by kernel_rfl
 have hs:π.stoodInHeld 27=false:=by kernel_rfl
 have hk:π.plainKey 23=true:=by kernel_rfl
 have p0:∀(a b:Int) (w:World),(part 23 (zx a b).toArray 0).run π w=.ok (.int .u32 a) w:=fun a b w=>run_part_plain w hk rfl
 have p1:∀(a b:Int) (w:World),(part 23 (zx a b).toArray 1).run π w=.ok (.int .u32 b) w:=fun a b w=>run_part_plain w hk rfl
 rw [run_equalIn_agg _ _ _ _ _ hu hs]
 simp [Program.fieldsOf,Tryz.underlying27,Op.eqFields,p0,p1,run_equalIn_int _ _ _ _ _ _ _ Tryz.underlying23]
 by_cases h1:a=a' <;> by_cases h2:b=b' <;> simp [h1,h2]
theorem run_equalIn_boolT {t:TypeId} (h:π.underlying t=some .bool) (d:Nat) (a b:Bool) (w:World):(Op.equalIn (d+1) t (.bool a) (.bool b)).run π w=.ok (a == b) w:=by simp [Op.equalIn,run_underlying h]
def rsZero (x:Rs):Bool:=((x.cb == 0) && (x.ct == 0)) && (((x.lb == 0) && (x.lt == 0)) && ((x.pl == 0) && ((x.se == 0) && ((x.ep == 0) && ((x.cu == 0) && (((x.ze == 0) && (x.zn == 0)) && (((x.ve == 0) && (x.vn == 0)) && ((x.co == false) && (x.fi == false)))))))))
theorem eqRest (x:Rs) (w:World):(eqOp .eql 157 false false (.agg x.cells.toArray) (.agg rs0.cells.toArray)).run π w=.ok (.bool (rsZero x)) w:=by
 have hg:π.eqGuardType π.depth 157=false:=by kernel_rfl
 have hu:π.underlying 157=some (.struct (π.fieldsOf 157)):=by kernel_rfl
 have hs:π.stoodInHeld 157=false:=by kernel_rfl
 have k32:π.plainKey 23=true:=by kernel_rfl
 have k64:π.plainKey 2=true:=by kernel_rfl
 have kb:π.plainKey 4=true:=by kernel_rfl
 have hc:∀w,(sizeOf 25).run π w=.ok 2 w:=fun w=>by kernel_rfl
 have hz:∀w,(sizeOf 27).run π w=.ok 2 w:=fun w=>by kernel_rfl
 have q0:∀(x:Rs) (w:World),(part 25 x.cells.toArray 0).run π w=.ok (.agg (zx x.cb x.ct).toArray) w:=fun x w=>by
  unfold part
  simp only [Sem.run_bind,run_isAgg ag25,Result.andThen_ok,if_true,hc]
  simp [Rs.cells,zx]
 have q1:∀(x:Rs) (w:World),(part 25 x.cells.toArray 2).run π w=.ok (.agg (zx x.lb x.lt).toArray) w:=fun x w=>by
  unfold part
  simp only [Sem.run_bind,run_isAgg ag25,Result.andThen_ok,if_true,hc]
  simp [Rs.cells,zx]
 have q8:∀(x:Rs) (w:World),(part 27 x.cells.toArray 8).run π w=.ok (.agg (zx x.ze x.zn).toArray) w:=fun x w=>by
  unfold part
  simp only [Sem.run_bind,run_isAgg ag27,Result.andThen_ok,if_true,hz]
  simp [Rs.cells,zx]
 have q10:∀(x:Rs) (w:World),(part 27 x.cells.toArray 10).run π w=.ok (.agg (zx x.ve x.vn).toArray) w:=fun x w=>by
  unfold part
  simp only [Sem.run_bind,run_isAgg ag27,Result.andThen_ok,if_true,hz]
  simp [Rs.cells,zx]
 have p4:∀(x:Rs) (w:World),(part 2 x.cells.toArray 4).run π w=.ok (.int .i64 x.pl) w:=fun x w=>run_part_plain w k64 rfl
 have p5:∀(x:Rs) (w:World),(part 2 x.cells.toArray 5).run π w=.ok (.int .i64 x.se) w:=fun x w=>run_part_plain w k64 rfl
 have p6:∀(x:Rs) (w:World),(part 23 x.cells.toArray 6).run π w=.ok (.int .u32 x.ep) w:=fun x w=>run_part_plain w k32 rfl
 have p7:∀(x:Rs) (w:World),(part 23 x.cells.toArray 7).run π w=.ok (.int .u32 x.cu) w:=fun x w=>run_part_plain w k32 rfl
 have p12:∀(x:Rs) (w:World),(part 4 x.cells.toArray 12).run π w=.ok (.bool x.co) w:=fun x w=>run_part_plain w kb rfl
 have p13:∀(x:Rs) (w:World),(part 4 x.cells.toArray 13).run π w=.ok (.bool x.fi) w:=fun x w=>run_part_plain w kb rfl
 unfold eqOp
 simp only [Sem.run_bind,run_eqGuard_agg _ _ _ _ _ _ _ hg,Result.andThen_ok,run_eql_struct,run_equalIn_agg _ _ _ _ _ hu hs]
 have hf:(π.fieldsOf 157).toList.map (fun f=>(f.name != "_", f.type,f.offset))=[(true,25,0),(true,25,2),(true,2,4),(true,2,5),(true,23,6),(true,23,7),(true,27,8),(true,27,10),(true,4,12),(true,4,13)]:=by kernel_rfl
 simp [Program.fieldsOf,Tryz.underlying157,Op.eqFields,q0,q1,q8,q10,p4,p5,p6,p7,p12,p13,eqConnIn,eqZxIn,run_equalIn_int _ _ _ _ _ _ _ Tryz.underlying23,run_equalIn_int _ _ _ _ _ _ _ Tryz.underlying2,run_equalIn_boolT Tryz.underlying4]
 obtain ⟨a1,a2,a3,a4,a5,a6,a7,a8,a9,a10,a11,a12,a13,a14⟩:=x
 unfold rsZero rs0
 by_cases h1:a1=0
 rotate_left
 ·simp [h1]
 subst h1
 by_cases h2:a2=0
 rotate_left
 ·simp [h2]
 subst h2
 by_cases h3:a3=0
 rotate_left
 ·simp [h3]
 subst h3
 by_cases h4:a4=0
 rotate_left
 ·simp [h4]
 subst h4
 by_cases h5:a5=0
 rotate_left
 ·simp [h5]
 subst h5
 by_cases h6:a6=0
 rotate_left
 ·simp [h6]
 subst h6
 by_cases h7:a7=0
 rotate_left
 ·simp [h7]
 subst h7
 by_cases h8:a8=0
 rotate_left
 ·simp [h8]
 subst h8
 by_cases h9:a9=0
 rotate_left
 ·simp [h9]
 subst h9
 by_cases h10:a10=0
 rotate_left
 ·simp [h10]
 subst h10
 by_cases h11:a11=0
 rotate_left
 ·simp [h11]
 subst h11
 by_cases h12:a12=0
 rotate_left
 ·simp [h12]
 subst h12
 cases a13 <;> cases a14 <;> simp
section
variable (Z:PZ) {o w:World} {R As:List HProp} {g gp gx g2:Nat} {p:Pk} {x:Rs} {K:Nat}
theorem named_at (hN:Named o) (hS:St o w As) (ho:old o ∈ As) (k:Nat) (hk:k≤14):w.cell? ⟨0,k,none⟩=some (.int .i64 (nmP k)):=by
 have h:Lib.TabIs π w "lagoon/packet.named" .i64 namedTab:=Lib.tabBelow_of_tabIs hN w (hS.below ho)
 rw [← nmP_int k hk]
 exact h.cell (by kernel_rfl) k (by simp [namedTab]; omega)
theorem pnames (kd:Int) (hN:Named o) (ho:old o ∈ R) (h:St o w R):CallV π Z 29 #[.int .i8 kd] w fun r w'=>r=.tuple #[.int .i64 (if isKd kd then (nmP kd.toNat:Int) else 0),.bool (isKd kd)]∧w'=w:=by
 refine f29.calls ?_
 unfold f29.sh
 by_cases h1:kd < 1
 ·have hk:isKd kd=false:=by simp [isKd]; omega
  (try simp only [o_lss,h1,decide_true,o_pickT,condT,guardW_tf])
  rw [hk]
  exact ⟨by first | rfl | trivial,by first | rfl | trivial⟩
 ·by_cases h2:(14:Int) < kd
  ·have hk:isKd kd=false:=by simp [isKd]; omega
   (try simp only [o_lss,h1,decide_false,o_pickF,guardW_ff,o_gtr,h2,decide_true,condT])
   rw [hk]
   exact ⟨by first | rfl | trivial,by first | rfl | trivial⟩
  ·have hk:isKd kd=true:=by simp [isKd]; omega
   (try simp only [o_lss,h1,decide_false,o_pickF,guardW_ff,o_gtr,h2,condF])
   refine r1 (run_namedIx kd (by omega) _) ?_
   refine r_load one3 (named_at hN h ho _ (by omega)) ?_
   rw [hk]
   exact ⟨by first | rfl | trivial,by first | rfl | trivial⟩
theorem copy2 (h:St o w (blk gp 39 p.cells::blk gx 157 x.cells::R)):CallV π Z 122 #[.pointer (some ⟨gp,0,none⟩),.pointer (some ⟨gx,0,none⟩)] w fun r w'=>St o w' (blk gp 39 p.cells::blk gx 157 ({ x with cb:=p.cb,ct:=p.ct }:Rs).cells::R):=by
 refine f122.calls ?_
 unfold f122.sh
 (try simp only [fa_157_0,Nat.add_zero,fa_39_1,Nat.zero_add])
 refine r_loadN ag25 (xs:=zx p.cb p.ct) rfl (h.cells_at m0 1 (pk_two ⟨rfl,rfl⟩)) ?_
 skip
 refine r_storeN h.swap ag25 (xs:=zx p.cb p.ct) rfl (by show 2≤14; omega) (zx_ones _ _) fun w1 hS=>?_
 exact hS.swap
theorem keep2 {kk:PQ} (hK:K≤14) (h:St o w (blk g2 3 [.int .i64 (nmP K)]::blk gp 39 p.cells::blk gx 157 x.cells::R)) (hk:∀r w',St o w' (blk g2 3 [.int .i64 (nmP K)]::blk gp 39 p.cells::blk gx 157 ({ x with cb:=if hasF K 0 then x.cb else p.cb,ct:=if hasF K 0 then x.ct else p.ct }:Rs).cells::R)→kk r w'):runX π Z (callVal (.func (.func 121) #[] #[.pointer (some ⟨g2,0,none⟩)]) #[.int .i64 1,.func (.func 122) #[] #[.pointer (some ⟨gp,0,none⟩),.pointer (some ⟨gx,0,none⟩)]]) w kk:=by
 refine r_callVal en121 (l1:=[]) (l2:=[_,_]) (l3:=[_]) rfl rfl rfl ?_
 refine CallV.mono ?_ hk
 clear hk
 refine f121.calls ?_
 unfold f121.sh
 refine r_load one3 (h.at m0 0 rfl) ?_
 obtain ⟨v,hv,hv0,_⟩:=andB K 0 hK (by omega) 1 rfl
 refine r1 (hv _ _) ?_
 refine r1 (run_eql_int _ _ _ _ _ _ _ _) ?_
 rw [hv0]
 cases hh:hasF K 0 with
 | true=>
  (try simp only [Bool.not_true,condF])
  simpa only [hh,if_true] using h
 | false=>
  (try simp only [Bool.not_false,condT])
  refine r_callVal en122 (l1:=[]) (l2:=[]) (l3:=[_,_]) rfl rfl rfl ?_
  refine (copy2 Z (h.put 2)).mono fun r w1 hS=>?_
  simp only [if_neg Bool.false_ne_true]
  (refine Sh.St.sub ?_ (hS); repeat (first | with_reducible (first | exact sub_refl | exact sub_nil | refine sP0 ?_ | refine sP1 ?_ | refine sP2 ?_ | refine sP3 ?_ | refine sP4 ?_ | refine sP5 ?_ | refine sP6 ?_ | refine sP7 ?_ | refine sP8 ?_ | refine sP9 ?_ | refine sP10 ?_ | refine sP11 ?_ | refine sP12 ?_ | refine sP13 ?_ | refine sP14 ?_ | refine sP15 ?_) | exact sub_refl | refine sP0 ?_ | refine sP1 ?_ | refine sP2 ?_ | refine sP3 ?_ | refine sP4 ?_ | refine sP5 ?_ | refine sP6 ?_ | refine sP7 ?_ | refine sP8 ?_ | refine sP9 ?_ | refine sP10 ?_ | refine sP11 ?_ | refine sP12 ?_ | refine sP13 ?_ | refine sP14 ?_ | refine sP15 ?_ | refine sub_drop ?_))
theorem copy3 (h:St o w (blk gp 39 p.cells::blk gx 157 x.cells::R)):CallV π Z 123 #[.pointer (some ⟨gp,0,none⟩),.pointer (some ⟨gx,0,none⟩)] w fun r w'=>St o w' (blk gp 39 p.cells::blk gx 157 ({ x with lb:=p.lb,lt:=p.lt }:Rs).cells::R):=by
 refine f123.calls ?_
 unfold f123.sh
 (try simp only [fa_157_1,Nat.zero_add,fa_39_2])
 refine r_loadN ag25 (xs:=zx p.lb p.lt) rfl (h.cells_at m0 3 (pk_two ⟨rfl,rfl⟩)) ?_
 skip
 refine r_storeN h.swap ag25 (xs:=zx p.lb p.lt) rfl (by show 4≤14; omega) (zx_ones _ _) fun w1 hS=>?_
 exact hS.swap
theorem keep3 {kk:PQ} (hK:K≤14) (h:St o w (blk g2 3 [.int .i64 (nmP K)]::blk gp 39 p.cells::blk gx 157 x.cells::R)) (hk:∀r w',St o w' (blk g2 3 [.int .i64 (nmP K)]::blk gp 39 p.cells::blk gx 157 ({ x with lb:=if hasF K 1 then x.lb else p.lb,lt:=if hasF K 1 then x.lt else p.lt }:Rs).cells::R)→kk r w'):runX π Z (callVal (.func (.func 121) #[] #[.pointer (some ⟨g2,0,none⟩)]) #[.int .i64 2,.func (.func 123) #[] #[.pointer (some ⟨gp,0,none⟩),.pointer (some ⟨gx,0,none⟩)]]) w kk:=by
 refine r_callVal en121 (l1:=[]) (l2:=[_,_]) (l3:=[_]) rfl rfl rfl ?_
 refine CallV.mono ?_ hk
 clear hk
 refine f121.calls ?_
 unfold f121.sh
 refine r_load one3 (h.at m0 0 rfl) ?_
 obtain ⟨v,hv,hv0,_⟩:=andB K 1 hK (by omega) 2 rfl
 refine r1 (hv _ _) ?_
 refine r1 (run_eql_int _ _ _ _ _ _ _ _) ?_
 rw [hv0]
 cases hh:hasF K 1 with
 | true=>
  (try simp only [Bool.not_true,condF])
  simpa only [hh,if_true] using h
 | false=>
  (try simp only [Bool.not_false,condT])
  refine r_callVal en123 (l1:=[]) (l2:=[]) (l3:=[_,_]) rfl rfl rfl ?_
  refine (copy3 Z (h.put 2)).mono fun r w1 hS=>?_
  simp only [if_neg Bool.false_ne_true]
  (refine Sh.St.sub ?_ (hS); repeat (first | with_reducible (first | exact sub_refl | exact sub_nil | refine sP0 ?_ | refine sP1 ?_ | refine sP2 ?_ | refine sP3 ?_ | refine sP4 ?_ | refine sP5 ?_ | refine sP6 ?_ | refine sP7 ?_ | refine sP8 ?_ | refine sP9 ?_ | refine sP10 ?_ | refine sP11 ?_ | refine sP12 ?_ | refine sP13 ?_ | refine sP14 ?_ | refine sP15 ?_) | exact sub_refl | refine sP0 ?_ | refine sP1 ?_ | refine sP2 ?_ | refine sP3 ?_ | refine sP4 ?_ | refine sP5 ?_ | refine sP6 ?_ | refine sP7 ?_ | refine sP8 ?_ | refine sP9 ?_ | refine sP10 ?_ | refine sP11 ?_ | refine sP12 ?_ | refine sP13 ?_ | refine sP14 ?_ | refine sP15 ?_ | refine sub_drop ?_))
theorem copy4 (h:St o w (blk gp 39 p.cells::blk gx 157 x.cells::R)):CallV π Z 124 #[.pointer (some ⟨gp,0,none⟩),.pointer (some ⟨gx,0,none⟩)] w fun r w'=>St o w' (blk gp 39 p.cells::blk gx 157 ({ x with pl:=p.pl }:Rs).cells::R):=by
 refine f124.calls ?_
 unfold f124.sh
 (try simp only [fa_157_2,Nat.zero_add,fa_39_3])
 refine r_load one2 (h.at m0 5 rfl) ?_
 skip
 refine r_store h.swap one2 (by show 4 < 14; omega) rfl fun w1 hS=>?_
 exact hS.swap
theorem keep4 {kk:PQ} (hK:K≤14) (h:St o w (blk g2 3 [.int .i64 (nmP K)]::blk gp 39 p.cells::blk gx 157 x.cells::R)) (hk:∀r w',St o w' (blk g2 3 [.int .i64 (nmP K)]::blk gp 39 p.cells::blk gx 157 ({ x with pl:=if hasF K 2 then x.pl else p.pl }:Rs).cells::R)→kk r w'):runX π Z (callVal (.func (.func 121) #[] #[.pointer (some ⟨g2,0,none⟩)]) #[.int .i64 4,.func (.func 124) #[] #[.pointer (some ⟨gp,0,none⟩),.pointer (some ⟨gx,0,none⟩)]]) w kk:=by
 refine r_callVal en121 (l1:=[]) (l2:=[_,_]) (l3:=[_]) rfl rfl rfl ?_
 refine CallV.mono ?_ hk
 clear hk
 refine f121.calls ?_
 unfold f121.sh
 refine r_load one3 (h.at m0 0 rfl) ?_
 obtain ⟨v,hv,hv0,_⟩:=andB K 2 hK (by omega) 4 rfl
 refine r1 (hv _ _) ?_
 refine r1 (run_eql_int _ _ _ _ _ _ _ _) ?_
 rw [hv0]
 cases hh:hasF K 2 with
 | true=>
  (try simp only [Bool.not_true,condF])
  simpa only [hh,if_true] using h
 | false=>
  (try simp only [Bool.not_false,condT])
  refine r_callVal en124 (l1:=[]) (l2:=[]) (l3:=[_,_]) rfl rfl rfl ?_
  refine (copy4 Z (h.put 2)).mono fun r w1 hS=>?_
  simp only [if_neg Bool.false_ne_true]
  (refine Sh.St.sub ?_ (hS); repeat (first | with_reducible (first | exact sub_refl | exact sub_nil | refine sP0 ?_ | refine sP1 ?_ | refine sP2 ?_ | refine sP3 ?_ | refine sP4 ?_ | refine sP5 ?_ | refine sP6 ?_ | refine sP7 ?_ | refine sP8 ?_ | refine sP9 ?_ | refine sP10 ?_ | refine sP11 ?_ | refine sP12 ?_ | refine sP13 ?_ | refine sP14 ?_ | refine sP15 ?_) | exact sub_refl | refine sP0 ?_ | refine sP1 ?_ | refine sP2 ?_ | refine sP3 ?_ | refine sP4 ?_ | refine sP5 ?_ | refine sP6 ?_ | refine sP7 ?_ | refine sP8 ?_ | refine sP9 ?_ | refine sP10 ?_ | refine sP11 ?_ | refine sP12 ?_ | refine sP13 ?_ | refine sP14 ?_ | refine sP15 ?_ | refine sub_drop ?_))
theorem copy5 (h:St o w (blk gp 39 p.cells::blk gx 157 x.cells::R)):CallV π Z 125 #[.pointer (some ⟨gp,0,none⟩),.pointer (some ⟨gx,0,none⟩)] w fun r w'=>St o w' (blk gp 39 p.cells::blk gx 157 ({ x with se:=p.se }:Rs).cells::R):=by
 refine f125.calls ?_
 unfold f125.sh
 (try simp only [fa_157_3,Nat.zero_add,fa_39_12])
 refine r_load one2 (h.at m0 31 rfl) ?_
 skip
 refine r_store h.swap one2 (by show 5 < 14; omega) rfl fun w1 hS=>?_
 exact hS.swap
theorem keep5 {kk:PQ} (hK:K≤14) (h:St o w (blk g2 3 [.int .i64 (nmP K)]::blk gp 39 p.cells::blk gx 157 x.cells::R)) (hk:∀r w',St o w' (blk g2 3 [.int .i64 (nmP K)]::blk gp 39 p.cells::blk gx 157 ({ x with se:=if hasF K 11 then x.se else p.se }:Rs).cells::R)→kk r w'):runX π Z (callVal (.func (.func 121) #[] #[.pointer (some ⟨g2,0,none⟩)]) #[.int .i64 2048,.func (.func 125) #[] #[.pointer (some ⟨gp,0,none⟩),.pointer (some ⟨gx,0,none⟩)]]) w kk:=by
 refine r_callVal en121 (l1:=[]) (l2:=[_,_]) (l3:=[_]) rfl rfl rfl ?_
 refine CallV.mono ?_ hk
 clear hk
 refine f121.calls ?_
 unfold f121.sh
 refine r_load one3 (h.at m0 0 rfl) ?_
 obtain ⟨v,hv,hv0,_⟩:=andB K 11 hK (by omega) 2048 rfl
 refine r1 (hv _ _) ?_
 refine r1 (run_eql_int _ _ _ _ _ _ _ _) ?_
 rw [hv0]
 cases hh:hasF K 11 with
 | true=>
  (try simp only [Bool.not_true,condF])
  simpa only [hh,if_true] using h
 | false=>
  (try simp only [Bool.not_false,condT])
  refine r_callVal en125 (l1:=[]) (l2:=[]) (l3:=[_,_]) rfl rfl rfl ?_
  refine (copy5 Z (h.put 2)).mono fun r w1 hS=>?_
  simp only [if_neg Bool.false_ne_true]
  (refine Sh.St.sub ?_ (hS); repeat (first | with_reducible (first | exact sub_refl | exact sub_nil | refine sP0 ?_ | refine sP1 ?_ | refine sP2 ?_ | refine sP3 ?_ | refine sP4 ?_ | refine sP5 ?_ | refine sP6 ?_ | refine sP7 ?_ | refine sP8 ?_ | refine sP9 ?_ | refine sP10 ?_ | refine sP11 ?_ | refine sP12 ?_ | refine sP13 ?_ | refine sP14 ?_ | refine sP15 ?_) | exact sub_refl | refine sP0 ?_ | refine sP1 ?_ | refine sP2 ?_ | refine sP3 ?_ | refine sP4 ?_ | refine sP5 ?_ | refine sP6 ?_ | refine sP7 ?_ | refine sP8 ?_ | refine sP9 ?_ | refine sP10 ?_ | refine sP11 ?_ | refine sP12 ?_ | refine sP13 ?_ | refine sP14 ?_ | refine sP15 ?_ | refine sub_drop ?_))
theorem copy6 (h:St o w (blk gp 39 p.cells::blk gx 157 x.cells::R)):CallV π Z 126 #[.pointer (some ⟨gp,0,none⟩),.pointer (some ⟨gx,0,none⟩)] w fun r w'=>St o w' (blk gp 39 p.cells::blk gx 157 ({ x with ep:=p.ep }:Rs).cells::R):=by
 refine f126.calls ?_
 unfold f126.sh
 (try simp only [fa_157_4,Nat.zero_add,fa_39_4])
 refine r_load one23 (h.at m0 6 rfl) ?_
 skip
 refine r_store h.swap one23 (by show 6 < 14; omega) rfl fun w1 hS=>?_
 exact hS.swap
theorem keep6 {kk:PQ} (hK:K≤14) (h:St o w (blk g2 3 [.int .i64 (nmP K)]::blk gp 39 p.cells::blk gx 157 x.cells::R)) (hk:∀r w',St o w' (blk g2 3 [.int .i64 (nmP K)]::blk gp 39 p.cells::blk gx 157 ({ x with ep:=if hasF K 3 then x.ep else p.ep }:Rs).cells::R)→kk r w'):runX π Z (callVal (.func (.func 121) #[] #[.pointer (some ⟨g2,0,none⟩)]) #[.int .i64 8,.func (.func 126) #[] #[.pointer (some ⟨gp,0,none⟩),.pointer (some ⟨gx,0,none⟩)]]) w kk:=by
 refine r_callVal en121 (l1:=[]) (l2:=[_,_]) (l3:=[_]) rfl rfl rfl ?_
 refine CallV.mono ?_ hk
 clear hk
 refine f121.calls ?_
 unfold f121.sh
 refine r_load one3 (h.at m0 0 rfl) ?_
 obtain ⟨v,hv,hv0,_⟩:=andB K 3 hK (by omega) 8 rfl
 refine r1 (hv _ _) ?_
 refine r1 (run_eql_int _ _ _ _ _ _ _ _) ?_
 rw [hv0]
 cases hh:hasF K 3 with
 | true=>
  (try simp only [Bool.not_true,condF])
  simpa only [hh,if_true] using h
 | false=>
  (try simp only [Bool.not_false,condT])
  refine r_callVal en126 (l1:=[]) (l2:=[]) (l3:=[_,_]) rfl rfl rfl ?_
  refine (copy6 Z (h.put 2)).mono fun r w1 hS=>?_
  simp only [if_neg Bool.false_ne_true]
  (refine Sh.St.sub ?_ (hS); repeat (first | with_reducible (first | exact sub_refl | exact sub_nil | refine sP0 ?_ | refine sP1 ?_ | refine sP2 ?_ | refine sP3 ?_ | refine sP4 ?_ | refine sP5 ?_ | refine sP6 ?_ | refine sP7 ?_ | refine sP8 ?_ | refine sP9 ?_ | refine sP10 ?_ | refine sP11 ?_ | refine sP12 ?_ | refine sP13 ?_ | refine sP14 ?_ | refine sP15 ?_) | exact sub_refl | refine sP0 ?_ | refine sP1 ?_ | refine sP2 ?_ | refine sP3 ?_ | refine sP4 ?_ | refine sP5 ?_ | refine sP6 ?_ | refine sP7 ?_ | refine sP8 ?_ | refine sP9 ?_ | refine sP10 ?_ | refine sP11 ?_ | refine sP12 ?_ | refine sP13 ?_ | refine sP14 ?_ | refine sP15 ?_ | refine sub_drop ?_))
theorem copy7 (h:St o w (blk gp 39 p.cells::blk gx 157 x.cells::R)):CallV π Z 127 #[.pointer (some ⟨gp,0,none⟩),.pointer (some ⟨gx,0,none⟩)] w fun r w'=>St o w' (blk gp 39 p.cells::blk gx 157 ({ x with cu:=p.cu }:Rs).cells::R):=by
 refine f127.calls ?_
 unfold f127.sh
 (try simp only [fa_157_5,Nat.zero_add,fa_39_5])
 refine r_load one23 (h.at m0 7 rfl) ?_
 skip
 refine r_store h.swap one23 (by show 7 < 14; omega) rfl fun w1 hS=>?_
 exact hS.swap
theorem keep7 {kk:PQ} (hK:K≤14) (h:St o w (blk g2 3 [.int .i64 (nmP K)]::blk gp 39 p.cells::blk gx 157 x.cells::R)) (hk:∀r w',St o w' (blk g2 3 [.int .i64 (nmP K)]::blk gp 39 p.cells::blk gx 157 ({ x with cu:=if hasF K 4 then x.cu else p.cu }:Rs).cells::R)→kk r w'):runX π Z (callVal (.func (.func 121) #[] #[.pointer (some ⟨g2,0,none⟩)]) #[.int .i64 16,.func (.func 127) #[] #[.pointer (some ⟨gp,0,none⟩),.pointer (some ⟨gx,0,none⟩)]]) w kk:=by
 refine r_callVal en121 (l1:=[]) (l2:=[_,_]) (l3:=[_]) rfl rfl rfl ?_
 refine CallV.mono ?_ hk
 clear hk
 refine f121.calls ?_
 unfold f121.sh
 refine r_load one3 (h.at m0 0 rfl) ?_
 obtain ⟨v,hv,hv0,_⟩:=andB K 4 hK (by omega) 16 rfl
 refine r1 (hv _ _) ?_
 refine r1 (run_eql_int _ _ _ _ _ _ _ _) ?_
 rw [hv0]
 cases hh:hasF K 4 with
 | true=>
  (try simp only [Bool.not_true,condF])
  simpa only [hh,if_true] using h
 | false=>
  (try simp only [Bool.not_false,condT])
  refine r_callVal en127 (l1:=[]) (l2:=[]) (l3:=[_,_]) rfl rfl rfl ?_
  refine (copy7 Z (h.put 2)).mono fun r w1 hS=>?_
  simp only [if_neg Bool.false_ne_true]
  (refine Sh.St.sub ?_ (hS); repeat (first | with_reducible (first | exact sub_refl | exact sub_nil | refine sP0 ?_ | refine sP1 ?_ | refine sP2 ?_ | refine sP3 ?_ | refine sP4 ?_ | refine sP5 ?_ | refine sP6 ?_ | refine sP7 ?_ | refine sP8 ?_ | refine sP9 ?_ | refine sP10 ?_ | refine sP11 ?_ | refine sP12 ?_ | refine sP13 ?_ | refine sP14 ?_ | refine sP15 ?_) | exact sub_refl | refine sP0 ?_ | refine sP1 ?_ | refine sP2 ?_ | refine sP3 ?_ | refine sP4 ?_ | refine sP5 ?_ | refine sP6 ?_ | refine sP7 ?_ | refine sP8 ?_ | refine sP9 ?_ | refine sP10 ?_ | refine sP11 ?_ | refine sP12 ?_ | refine sP13 ?_ | refine sP14 ?_ | refine sP15 ?_ | refine sub_drop ?_))
theorem copy8 (h:St o w (blk gp 39 p.cells::blk gx 157 x.cells::R)):CallV π Z 128 #[.pointer (some ⟨gp,0,none⟩),.pointer (some ⟨gx,0,none⟩)] w fun r w'=>St o w' (blk gp 39 p.cells::blk gx 157 ({ x with ze:=p.ze,zn:=p.zn }:Rs).cells::R):=by
 refine f128.calls ?_
 unfold f128.sh
 (try simp only [fa_157_6,Nat.zero_add,fa_39_6])
 refine r_loadN ag27 (xs:=zx p.ze p.zn) rfl (h.cells_at m0 8 (pk_two ⟨rfl,rfl⟩)) ?_
 skip
 refine r_storeN h.swap ag27 (xs:=zx p.ze p.zn) rfl (by show 10≤14; omega) (zx_ones _ _) fun w1 hS=>?_
 exact hS.swap
theorem keep8 {kk:PQ} (hK:K≤14) (h:St o w (blk g2 3 [.int .i64 (nmP K)]::blk gp 39 p.cells::blk gx 157 x.cells::R)) (hk:∀r w',St o w' (blk g2 3 [.int .i64 (nmP K)]::blk gp 39 p.cells::blk gx 157 ({ x with ze:=if hasF K 5 then x.ze else p.ze,zn:=if hasF K 5 then x.zn else p.zn }:Rs).cells::R)→kk r w'):runX π Z (callVal (.func (.func 121) #[] #[.pointer (some ⟨g2,0,none⟩)]) #[.int .i64 32,.func (.func 128) #[] #[.pointer (some ⟨gp,0,none⟩),.pointer (some ⟨gx,0,none⟩)]]) w kk:=by
 refine r_callVal en121 (l1:=[]) (l2:=[_,_]) (l3:=[_]) rfl rfl rfl ?_
 refine CallV.mono ?_ hk
 clear hk
 refine f121.calls ?_
 unfold f121.sh
 refine r_load one3 (h.at m0 0 rfl) ?_
 obtain ⟨v,hv,hv0,_⟩:=andB K 5 hK (by omega) 32 rfl
 refine r1 (hv _ _) ?_
 refine r1 (run_eql_int _ _ _ _ _ _ _ _) ?_
 rw [hv0]
 cases hh:hasF K 5 with
 | true=>
  (try simp only [Bool.not_true,condF])
  simpa only [hh,if_true] using h
 | false=>
  (try simp only [Bool.not_false,condT])
  refine r_callVal en128 (l1:=[]) (l2:=[]) (l3:=[_,_]) rfl rfl rfl ?_
  refine (copy8 Z (h.put 2)).mono fun r w1 hS=>?_
  simp only [if_neg Bool.false_ne_true]
  (refine Sh.St.sub ?_ (hS); repeat (first | with_reducible (first | exact sub_refl | exact sub_nil | refine sP0 ?_ | refine sP1 ?_ | refine sP2 ?_ | refine sP3 ?_ | refine sP4 ?_ | refine sP5 ?_ | refine sP6 ?_ | refine sP7 ?_ | refine sP8 ?_ | refine sP9 ?_ | refine sP10 ?_ | refine sP11 ?_ | refine sP12 ?_ | refine sP13 ?_ | refine sP14 ?_ | refine sP15 ?_) | exact sub_refl | refine sP0 ?_ | refine sP1 ?_ | refine sP2 ?_ | refine sP3 ?_ | refine sP4 ?_ | refine sP5 ?_ | refine sP6 ?_ | refine sP7 ?_ | refine sP8 ?_ | refine sP9 ?_ | refine sP10 ?_ | refine sP11 ?_ | refine sP12 ?_ | refine sP13 ?_ | refine sP14 ?_ | refine sP15 ?_ | refine sub_drop ?_))
theorem copy9 (h:St o w (blk gp 39 p.cells::blk gx 157 x.cells::R)):CallV π Z 129 #[.pointer (some ⟨gp,0,none⟩),.pointer (some ⟨gx,0,none⟩)] w fun r w'=>St o w' (blk gp 39 p.cells::blk gx 157 ({ x with ve:=p.ve,vn:=p.vn }:Rs).cells::R):=by
 refine f129.calls ?_
 unfold f129.sh
 (try simp only [fa_157_7,Nat.zero_add,fa_39_7])
 refine r_loadN ag27 (xs:=zx p.ve p.vn) rfl (h.cells_at m0 10 (pk_two ⟨rfl,rfl⟩)) ?_
 skip
 refine r_storeN h.swap ag27 (xs:=zx p.ve p.vn) rfl (by show 12≤14; omega) (zx_ones _ _) fun w1 hS=>?_
 exact hS.swap
theorem keep9 {kk:PQ} (hK:K≤14) (h:St o w (blk g2 3 [.int .i64 (nmP K)]::blk gp 39 p.cells::blk gx 157 x.cells::R)) (hk:∀r w',St o w' (blk g2 3 [.int .i64 (nmP K)]::blk gp 39 p.cells::blk gx 157 ({ x with ve:=if hasF K 6 then x.ve else p.ve,vn:=if hasF K 6 then x.vn else p.vn }:Rs).cells::R)→kk r w'):runX π Z (callVal (.func (.func 121) #[] #[.pointer (some ⟨g2,0,none⟩)]) #[.int .i64 64,.func (.func 129) #[] #[.pointer (some ⟨gp,0,none⟩),.pointer (some ⟨gx,0,none⟩)]]) w kk:=by
 refine r_callVal en121 (l1:=[]) (l2:=[_,_]) (l3:=[_]) rfl rfl rfl ?_
 refine CallV.mono ?_ hk
 clear hk
 refine f121.calls ?_
 unfold f121.sh
 refine r_load one3 (h.at m0 0 rfl) ?_
 obtain ⟨v,hv,hv0,_⟩:=andB K 6 hK (by omega) 64 rfl
 refine r1 (hv _ _) ?_
 refine r1 (run_eql_int _ _ _ _ _ _ _ _) ?_
 rw [hv0]
 cases hh:hasF K 6 with
 | true=>
  (try simp only [Bool.not_true,condF])
  simpa only [hh,if_true] using h
 | false=>
  (try simp only [Bool.not_false,condT])
  refine r_callVal en129 (l1:=[]) (l2:=[]) (l3:=[_,_]) rfl rfl rfl ?_
  refine (copy9 Z (h.put 2)).mono fun r w1 hS=>?_
  simp only [if_neg Bool.false_ne_true]
  (refine Sh.St.sub ?_ (hS); repeat (first | with_reducible (first | exact sub_refl | exact sub_nil | refine sP0 ?_ | refine sP1 ?_ | refine sP2 ?_ | refine sP3 ?_ | refine sP4 ?_ | refine sP5 ?_ | refine sP6 ?_ | refine sP7 ?_ | refine sP8 ?_ | refine sP9 ?_ | refine sP10 ?_ | refine sP11 ?_ | refine sP12 ?_ | refine sP13 ?_ | refine sP14 ?_ | refine sP15 ?_) | exact sub_refl | refine sP0 ?_ | refine sP1 ?_ | refine sP2 ?_ | refine sP3 ?_ | refine sP4 ?_ | refine sP5 ?_ | refine sP6 ?_ | refine sP7 ?_ | refine sP8 ?_ | refine sP9 ?_ | refine sP10 ?_ | refine sP11 ?_ | refine sP12 ?_ | refine sP13 ?_ | refine sP14 ?_ | refine sP15 ?_ | refine sub_drop ?_))
theorem copy10 (h:St o w (blk gp 39 p.cells::blk gx 157 x.cells::R)):CallV π Z 130 #[.pointer (some ⟨gp,0,none⟩),.pointer (some ⟨gx,0,none⟩)] w fun r w'=>St o w' (blk gp 39 p.cells::blk gx 157 ({ x with co:=p.co }:Rs).cells::R):=by
 refine f130.calls ?_
 unfold f130.sh
 (try simp only [fa_157_8,Nat.zero_add,fa_39_8])
 refine r_load one4 (h.at m0 12 rfl) ?_
 skip
 refine r_store h.swap one4 (by show 12 < 14; omega) rfl fun w1 hS=>?_
 exact hS.swap
theorem keep10 {kk:PQ} (hK:K≤14) (h:St o w (blk g2 3 [.int .i64 (nmP K)]::blk gp 39 p.cells::blk gx 157 x.cells::R)) (hk:∀r w',St o w' (blk g2 3 [.int .i64 (nmP K)]::blk gp 39 p.cells::blk gx 157 ({ x with co:=if hasF K 7 then x.co else p.co }:Rs).cells::R)→kk r w'):runX π Z (callVal (.func (.func 121) #[] #[.pointer (some ⟨g2,0,none⟩)]) #[.int .i64 128,.func (.func 130) #[] #[.pointer (some ⟨gp,0,none⟩),.pointer (some ⟨gx,0,none⟩)]]) w kk:=by
 refine r_callVal en121 (l1:=[]) (l2:=[_,_]) (l3:=[_]) rfl rfl rfl ?_
 refine CallV.mono ?_ hk
 clear hk
 refine f121.calls ?_
 unfold f121.sh
 refine r_load one3 (h.at m0 0 rfl) ?_
 obtain ⟨v,hv,hv0,_⟩:=andB K 7 hK (by omega) 128 rfl
 refine r1 (hv _ _) ?_
 refine r1 (run_eql_int _ _ _ _ _ _ _ _) ?_
 rw [hv0]
 cases hh:hasF K 7 with
 | true=>
  (try simp only [Bool.not_true,condF])
  simpa only [hh,if_true] using h
 | false=>
  (try simp only [Bool.not_false,condT])
  refine r_callVal en130 (l1:=[]) (l2:=[]) (l3:=[_,_]) rfl rfl rfl ?_
  refine (copy10 Z (h.put 2)).mono fun r w1 hS=>?_
  simp only [if_neg Bool.false_ne_true]
  (refine Sh.St.sub ?_ (hS); repeat (first | with_reducible (first | exact sub_refl | exact sub_nil | refine sP0 ?_ | refine sP1 ?_ | refine sP2 ?_ | refine sP3 ?_ | refine sP4 ?_ | refine sP5 ?_ | refine sP6 ?_ | refine sP7 ?_ | refine sP8 ?_ | refine sP9 ?_ | refine sP10 ?_ | refine sP11 ?_ | refine sP12 ?_ | refine sP13 ?_ | refine sP14 ?_ | refine sP15 ?_) | exact sub_refl | refine sP0 ?_ | refine sP1 ?_ | refine sP2 ?_ | refine sP3 ?_ | refine sP4 ?_ | refine sP5 ?_ | refine sP6 ?_ | refine sP7 ?_ | refine sP8 ?_ | refine sP9 ?_ | refine sP10 ?_ | refine sP11 ?_ | refine sP12 ?_ | refine sP13 ?_ | refine sP14 ?_ | refine sP15 ?_ | refine sub_drop ?_))
theorem copy11 (h:St o w (blk gp 39 p.cells::blk gx 157 x.cells::R)):CallV π Z 131 #[.pointer (some ⟨gp,0,none⟩),.pointer (some ⟨gx,0,none⟩)] w fun r w'=>St o w' (blk gp 39 p.cells::blk gx 157 ({ x with fi:=p.fi }:Rs).cells::R):=by
 refine f131.calls ?_
 unfold f131.sh
 (try simp only [fa_157_9,Nat.zero_add,fa_39_9])
 refine r_load one4 (h.at m0 13 rfl) ?_
 skip
 refine r_store h.swap one4 (by show 13 < 14; omega) rfl fun w1 hS=>?_
 exact hS.swap
theorem keep11 {kk:PQ} (hK:K≤14) (h:St o w (blk g2 3 [.int .i64 (nmP K)]::blk gp 39 p.cells::blk gx 157 x.cells::R)) (hk:∀r w',St o w' (blk g2 3 [.int .i64 (nmP K)]::blk gp 39 p.cells::blk gx 157 ({ x with fi:=if hasF K 8 then x.fi else p.fi }:Rs).cells::R)→kk r w'):runX π Z (callVal (.func (.func 121) #[] #[.pointer (some ⟨g2,0,none⟩)]) #[.int .i64 256,.func (.func 131) #[] #[.pointer (some ⟨gp,0,none⟩),.pointer (some ⟨gx,0,none⟩)]]) w kk:=by
 refine r_callVal en121 (l1:=[]) (l2:=[_,_]) (l3:=[_]) rfl rfl rfl ?_
 refine CallV.mono ?_ hk
 clear hk
 refine f121.calls ?_
 unfold f121.sh
 refine r_load one3 (h.at m0 0 rfl) ?_
 obtain ⟨v,hv,hv0,_⟩:=andB K 8 hK (by omega) 256 rfl
 refine r1 (hv _ _) ?_
 refine r1 (run_eql_int _ _ _ _ _ _ _ _) ?_
 rw [hv0]
 cases hh:hasF K 8 with
 | true=>
  (try simp only [Bool.not_true,condF])
  simpa only [hh,if_true] using h
 | false=>
  (try simp only [Bool.not_false,condT])
  refine r_callVal en131 (l1:=[]) (l2:=[]) (l3:=[_,_]) rfl rfl rfl ?_
  refine (copy11 Z (h.put 2)).mono fun r w1 hS=>?_
  simp only [if_neg Bool.false_ne_true]
  (refine Sh.St.sub ?_ (hS); repeat (first | with_reducible (first | exact sub_refl | exact sub_nil | refine sP0 ?_ | refine sP1 ?_ | refine sP2 ?_ | refine sP3 ?_ | refine sP4 ?_ | refine sP5 ?_ | refine sP6 ?_ | refine sP7 ?_ | refine sP8 ?_ | refine sP9 ?_ | refine sP10 ?_ | refine sP11 ?_ | refine sP12 ?_ | refine sP13 ?_ | refine sP14 ?_ | refine sP15 ?_) | exact sub_refl | refine sP0 ?_ | refine sP1 ?_ | refine sP2 ?_ | refine sP3 ?_ | refine sP4 ?_ | refine sP5 ?_ | refine sP6 ?_ | refine sP7 ?_ | refine sP8 ?_ | refine sP9 ?_ | refine sP10 ?_ | refine sP11 ?_ | refine sP12 ?_ | refine sP13 ?_ | refine sP14 ?_ | refine sP15 ?_ | refine sub_drop ?_))
theorem qz_rd (w:World):RdQ w qz:=.mk _ ⟨rd0 w 1,rd0 w 3,rd0 w 2⟩ (rd0 w 11) (fun x hx=>by cases hx)
def rsF (K:Nat) (p:Pk):Rs:=⟨if hasF K 0 then 0 else p.cb,if hasF K 0 then 0 else p.ct,if hasF K 1 then 0 else p.lb,if hasF K 1 then 0 else p.lt,if hasF K 2 then 0 else p.pl,if hasF K 11 then 0 else p.se,if hasF K 3 then 0 else p.ep,if hasF K 4 then 0 else p.cu,if hasF K 5 then 0 else p.ze,if hasF K 5 then 0 else p.zn,if hasF K 6 then 0 else p.ve,if hasF K 6 then 0 else p.vn,if hasF K 7 then false else p.co,if hasF K 8 then false else p.fi⟩
noncomputable def bareB (K:Nat) (p:Pk):Bool:=((hasF K 9 || zr p 9) && (hasF K 10 || zr p 10)) && rsZero (rsF K p)
theorem lt12 {i:Nat} (h:i < 12):i=0∨i=1∨i=2∨i=3∨i=4∨i=5∨i=6∨i=7∨i=8∨i=9∨i=10∨i=11:=by omega
theorem or_two (h:Bool) (a b:Int):(((if h then 0 else a) == 0) && ((if h then 0 else b) == 0))=(h || ((a == 0) && (b == 0))):=by cases h <;> simp
theorem or_one (h:Bool) (a:Int):((if h then 0 else a) == 0)=(h || (a == 0)):=by cases h <;> simp
theorem or_bool (h a:Bool):((if h then false else a) == false)=(h || !a):=by cases h <;> cases a <;> rfl
theorem bareB_iff (K:Nat) (p:Pk):bareB K p=true ↔ ∀i,i < 12→(hasF K i || zr p i)=true:=by
 have e:rsZero (rsF K p)=((hasF K 0 || zr p 0) && ((hasF K 1 || zr p 1) && ((hasF K 2 || zr p 2) && ((hasF K 11 || zr p 11) && ((hasF K 3 || zr p 3) && ((hasF K 4 || zr p 4) && ((hasF K 5 || zr p 5) && ((hasF K 6 || zr p 6) && ((hasF K 7 || zr p 7) && (hasF K 8 || zr p 8)))))))))):=by
  unfold rsZero rsF
  simp only
  rw [or_two (hasF K 0),or_two (hasF K 1),or_one (hasF K 2),or_one (hasF K 11),or_one (hasF K 3),or_one (hasF K 4),or_two (hasF K 5),or_two (hasF K 6),or_bool (hasF K 7),or_bool (hasF K 8)]
  rfl
 rw [bareB,e]
 simp only [Bool.and_eq_true]
 constructor
 ·rintro ⟨⟨h9,h10⟩,h0,h1,h2,h11,h3,h4,h5,h6,h7,h8⟩ i hi
  obtain rfl | rfl | rfl | rfl | rfl | rfl | rfl | rfl | rfl | rfl | rfl | rfl:=lt12 hi <;> assumption
 ·intro h
  exact ⟨⟨h 9 (by omega),h 10 (by omega)⟩,h 0 (by omega),h 1 (by omega),h 2 (by omega),h 11 (by omega),h 3 (by omega),h 4 (by omega),h 5 (by omega),h 6 (by omega),h 7 (by omega),h 8 (by omega)⟩
open Classical in
theorem zr_txn {b:Bool} (hb:b=true ↔ p.t.hd=tz.hd∧p.t.q.st=tz.q.st):zr p 9=b:=by
 have e:zr p 9=decide (p.t.hd=tz.hd∧p.t.q.st=tz.q.st):=by first | rfl | (unfold zr; congr)
 rw [e]
 cases b with
 | true=>exact decide_eq_true (hb.1 rfl)
 | false=>exact decide_eq_false fun hh=>Bool.noConfusion (hb.2 hh)
theorem txnPart {b:Bool} {KK:PQ} (hx:Ent o R fun w=>RdP w p) (hS:St o w (blk g2 3 [.int .i64 (nmP K)]::blk g 39 p.cells::R))
  (h1:∀w,St o w (blk g2 3 [.int .i64 (nmP K)]::blk g 39 p.cells::R)→b=false∨zr p 9=true→KK (.bool false) w) (h2:∀w,St o w (blk g2 3 [.int .i64 (nmP K)]::blk g 39 p.cells::R)→b=true∧zr p 9=false→KK (.bool true) w) :
  gW (.bool b) true (fun k=>rN π Z (Instr.fieldAt 39 (.pointer (some ⟨g,0,none⟩)) 10) w k) (fun t6 w=>
  gW (.bool b) true (fun k=>rN π Z (Instr.loadAt 37 t6) w k) (fun t7 w=>
  gW (.bool b) true (fun k=>rN π Z (Instr.build 37 #[]) w k) (fun t8 w=>
  gW (.bool b) true (fun k=>CallV π Z 120 #[t7,t8] w k) (fun t9 w=>
  gW (.bool b) true (fun k=>rN π Z (Op.unary .not t9) w k) (fun t10 w=>
  rN π Z (pickV (.bool b) t10 (.bool false)) w fun t11 w=>KK t11 w) w) w) w) w) w:=by
 cases b with
 | false=>
  (try simp only [fa_39_10,Nat.zero_add,o_pickF,guardW_ft])
  exact h1 w hS (.inl rfl)
 | true=>
  (try simp only [fa_39_10,Nat.zero_add,o_pickT,guardW_true])
  refine r_loadN ag37 (xs:=p.t.cells) (Tx.cells_len _) (hS.cells_at m1 14 (pk_tx p)) ?_
  refine r_build (cells:=tz.cells.toArray) (by kernel_rfl) ?_
  refine (sameT Z p.t tz (fun w hw=>(hx w hw.drop.drop).t) (fun w hw=>qz_rd w) hS).mono fun r w3 ⟨⟨b,hr,hb⟩,hS⟩=>?_
  subst hr
  have hz:=zr_txn hb
  cases b with
  | true=>
   (try simp only [o_not,Bool.not_true])
   exact h1 w3 hS (.inr hz)
  | false=>
   (try simp only [o_not,Bool.not_false])
   exact h2 w3 hS ⟨rfl,hz⟩
theorem bareEnd (hK:K≤14) (h9:(hasF K 9 || zr p 9)=true) (h10:(hasF K 10 || zr p 10)=true) (hS:St o w (blk g2 3 [.int .i64 (nmP K)]::blk g 39 p.cells::R)) :
  rN π Z (Instr.alloc 157 true (.tuple #[])) w fun t22 w=>
  runX π Z (callVal (.func (.func 121) #[] #[.pointer (some ⟨g2,0,none⟩)]) #[.int .i64 1,.func (.func 122) #[] #[.pointer (some ⟨g,0,none⟩),t22]]) w fun _ w=>
  runX π Z (callVal (.func (.func 121) #[] #[.pointer (some ⟨g2,0,none⟩)]) #[.int .i64 2,.func (.func 123) #[] #[.pointer (some ⟨g,0,none⟩),t22]]) w fun _ w=>
  runX π Z (callVal (.func (.func 121) #[] #[.pointer (some ⟨g2,0,none⟩)]) #[.int .i64 4,.func (.func 124) #[] #[.pointer (some ⟨g,0,none⟩),t22]]) w fun _ w=>
  runX π Z (callVal (.func (.func 121) #[] #[.pointer (some ⟨g2,0,none⟩)]) #[.int .i64 2048,.func (.func 125) #[] #[.pointer (some ⟨g,0,none⟩),t22]]) w fun _ w=>
  runX π Z (callVal (.func (.func 121) #[] #[.pointer (some ⟨g2,0,none⟩)]) #[.int .i64 8,.func (.func 126) #[] #[.pointer (some ⟨g,0,none⟩),t22]]) w fun _ w=>
  runX π Z (callVal (.func (.func 121) #[] #[.pointer (some ⟨g2,0,none⟩)]) #[.int .i64 16,.func (.func 127) #[] #[.pointer (some ⟨g,0,none⟩),t22]]) w fun _ w=>
  runX π Z (callVal (.func (.func 121) #[] #[.pointer (some ⟨g2,0,none⟩)]) #[.int .i64 32,.func (.func 128) #[] #[.pointer (some ⟨g,0,none⟩),t22]]) w fun _ w=>
  runX π Z (callVal (.func (.func 121) #[] #[.pointer (some ⟨g2,0,none⟩)]) #[.int .i64 64,.func (.func 129) #[] #[.pointer (some ⟨g,0,none⟩),t22]]) w fun _ w=>
  runX π Z (callVal (.func (.func 121) #[] #[.pointer (some ⟨g2,0,none⟩)]) #[.int .i64 128,.func (.func 130) #[] #[.pointer (some ⟨g,0,none⟩),t22]]) w fun _ w=>
  runX π Z (callVal (.func (.func 121) #[] #[.pointer (some ⟨g2,0,none⟩)]) #[.int .i64 256,.func (.func 131) #[] #[.pointer (some ⟨g,0,none⟩),t22]]) w fun _ w=>
  rN π Z (Instr.loadAt 157 t22) w fun t44 w=>
  rN π Z (Instr.build 157 #[]) w fun t45 w=>
  rN π Z (eqOp .eql 157 false false t44 t45) w fun t46 w=>t46=.bool (bareB K p)∧St o w R:=by
 refine r_alloc hS ze157 fun gx w5 hS=>?_
 have hS:St o w5 (blk g2 3 [.int .i64 (nmP K)]::blk g 39 p.cells::blk gx 157 rs0.cells::R):=hS.put 2
 skip
 refine keep2 Z hK hS fun _ w6 hS=>?_
 skip
 refine keep3 Z hK hS fun _ w6 hS=>?_
 skip
 refine keep4 Z hK hS fun _ w6 hS=>?_
 skip
 refine keep5 Z hK hS fun _ w6 hS=>?_
 skip
 refine keep6 Z hK hS fun _ w6 hS=>?_
 skip
 refine keep7 Z hK hS fun _ w6 hS=>?_
 skip
 refine keep8 Z hK hS fun _ w6 hS=>?_
 skip
 refine keep9 Z hK hS fun _ w6 hS=>?_
 skip
 refine keep10 Z hK hS fun _ w6 hS=>?_
 skip
 refine keep11 Z hK hS fun _ w6 hS=>?_
 refine r_loadN ag157 (xs:=(rsF K p).cells) rfl (hS.cells_at m2 0 (whole_at _)) ?_
 refine r_build (cells:=rs0.cells.toArray) (by kernel_rfl) ?_
 refine r1 (eqRest _ _) ?_
 exact ⟨by rw [bareB,h9,h10]; rfl,hS.drop.drop.drop⟩
set_option maxRecDepth 100000 in
theorem bareC (hK:K≤14) (hx:Ent o R fun w=>RdP w p) (h:St o w R):CallV π Z 36 #[.agg p.cells.toArray,.int .i64 (nmP K)] w fun r w'=>r=.bool (bareB K p)∧St o w' R:=by
 refine f36.calls ?_
 unfold f36.sh
 refine r_box _ _ h fun g w1 hS=>?_
 refine r_box _ _ hS fun g2 w2 hS=>?_
 have hS:St o w2 (blk g2 3 [.int .i64 (nmP K)]::blk g 39 p.cells::R):=hS
 refine r_load one3 (hS.at m0 0 rfl) ?_
 obtain ⟨v9,hv9,hz9,_⟩:=andB K 9 hK (by omega) 512 rfl
 obtain ⟨v10,hv10,hz10,_⟩:=andB K 10 hK (by omega) 1024 rfl
 refine r1 (hv9 _ _) ?_
 refine r1 (run_eql_int _ _ _ _ _ _ _ _) ?_
 rw [hz9]
 obtain ⟨a,c,e⟩:=(hx _ hS.drop.drop).b.form
 refine txnPart Z hx hS (b:=!hasF K 9) (fun w3 hS hh=>?_) fun w3 hS hh=>?_
 rotate_left
 ·obtain ⟨h1,h2⟩:=hh
  have h9:hasF K 9=false:=by simpa using h1
  (try simp only [fa_39_11,Nat.zero_add,o_fn,o_pickT,condT,guardW_tf,guardW_u])
  exact ⟨by rw [bareB,h9,h2]; rfl,hS.drop.drop⟩
 have h9:(hasF K 9 || zr p 9)=true:=by
  rcases hh with hh | hh
  ·have:hasF K 9=true:=by simpa using hh
   rw [this]; rfl
  ·rw [hh]; simp
 clear hh
 (try simp only [fa_39_11,Nat.zero_add,o_fn,o_pickF,guardW_ff])
 refine r_load one3 (hS.at m0 0 rfl) ?_
 refine r1 (hv10 _ _) ?_
 refine r1 (run_eql_int _ _ _ _ _ _ _ _) ?_
 rw [hz10]
 have hd10:zr p 10=decide (p.b.length=0):=by first | rfl | (unfold zr; congr)
 by_cases h10:hasF K 10=true
 ·rw [h10]
  have hb10:(hasF K 10 || zr p 10)=true:=by rw [h10]; rfl
  (try simp only [Bool.not_true,o_pickF,condF,guardW_ft])
  exact bareEnd Z hK h9 hb10 hS
 ·have h10:hasF K 10=false:=by simpa using h10
  rw [h10]
  (try simp only [Bool.not_false,o_pickT,guardW_true])
  refine r_load one30 (hS.at m1 30 rfl) ?_
  rw [e]
  by_cases hlen:0 < (p.b.length:Int)
  ·(try simp only [ln_30_3,o_gtr,hlen,decide_true,condT])
   have hz:zr p 10=false:=by rw [hd10]; exact decide_eq_false (by omega)
   exact ⟨by rw [bareB,h9,h10,hz]; rfl,hS.drop.drop⟩
  ·(try simp only [ln_30_3,o_gtr,hlen,decide_false,condF])
   have hz:zr p 10=true:=by rw [hd10]; exact decide_eq_true (by omega)
   exact bareEnd Z hK h9 (by rw [hz]; simp) hS
end

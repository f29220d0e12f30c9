
/- Numbers of zxids. -/
import Derived.Test.YtbdfhfceffkhgaaGreatDoorP4
import Derived.Laws.StructEq
import Derived.ChangeKeysEq
import Derived.Lib.AppendIntMem
import Derived.Test.YtbdfhfceffkhgaaGreatDoorShIns
set_option linter.unusedVariables false
set_option linter.unusedSimpArgs false
namespace Go.Proofs.YtbdfhfceffkhgaaGreatDoor
open Go.Sh
open Tryz renaming prog → π
def zx (e n:Int):List Value:=[.int .u32 e,.int .u32 n]
def u32r (n:Int):Prop:=0≤n∧n≤4294967295
theorem zx_ones (e n:Int):ones (zx e n):=by intro u hu; simp [zx] at hu; rcases hu with rfl | rfl <;> rfl
section
variable (Z:PZ) {o w:World} {R As:List HProp}
end
end Go.Proofs.YtbdfhfceffkhgaaGreatDoor


/- The order of zxids. -/
set_option linter.unusedVariables false
set_option linter.unusedSimpArgs false
namespace Go.Proofs.YtbdfhfceffkhgaaGreatDoor
open Go.Sh
open Tryz renaming prog → π
def cmpI (a b:Int):Int:=if a < b then -1 else if b < a then 1 else 0
def cmpZ (e n e' n':Int):Int:=if cmpI e e'=0 then cmpI n n' else cmpI e e'
section
variable (Z:PZ) {o w:World} {R As:List HProp}
theorem isNaN (x:Int):CallV π Z 115 #[.int .u32 x] w fun r w'=>r=.bool false∧w'=w:=by
 refine f115.calls ?_
 unfold f115.sh
 (try simp only [o_neq,bne_self_eq_false])
 exact ⟨trivial,trivial⟩
theorem cmpCompare (a b:Int):CallV π Z 81 #[.int .u32 a,.int .u32 b] w fun r w'=>r=.int .i64 (cmpI a b)∧w'=w:=by
 refine f81.calls ?_
 unfold f81.sh
 refine (isNaN Z a).mono fun r w1 ⟨hr,hw⟩=>?_
 subst hr; subst hw
 refine (isNaN Z b).mono fun r w1 ⟨hr,hw⟩=>?_
 subst hr; subst hw
 (try simp only [condF,o_gtr,cond_decide,o_lss])
 exact ⟨fun h=>⟨by rw [cmpI,if_pos h],trivial⟩,fun h=>⟨fun h2=>⟨by rw [cmpI,if_neg h,if_pos h2],trivial⟩,fun h2=>⟨by rw [cmpI,if_neg h,if_neg h2],trivial⟩⟩⟩
theorem cmpOr {v:Value} (a b:Int) (h:St o w (own 3 1 v 2 [.int .i64 a,.int .i64 b]::R)):CallV π Z 80 #[v] w fun r w'=>r=.int .i64 (if a=0 then b else a)∧w'=w:=by
 have hrd:=h.own_rd m0
 obtain ⟨va,vc,rfl⟩:=hrd.form
 refine f80.calls ?_
 unfold f80.sh
 (try simp only [ln_23_3])
 refine ⟨fun m y w'=>∃i:Nat,y=.int .i64 i∧m+i=2∧(1≤i→a=0)∧(2≤i→b=0)∧w'=w,⟨2,0,rfl,rfl,by omega,by omega,rfl⟩,?_⟩
 rintro m _ _ ⟨i,rfl,hi,ha,hb,rfl⟩ _
 by_cases hlt:(i:Int) < ((2:Nat):Int)
 ·obtain ⟨p,q,hp,hc,_⟩:=hrd.ix el23 .i64 i (by omega)
  obtain ⟨u,hu,hul⟩:∃u:Int,([Value.int .i64 a,.int .i64 b])[i]? = some (.int .i64 u)∧((i=0∧u=a)∨(i=1∧u=b)):=by
   rcases i with _ | _ | i
   ·exact ⟨a,rfl,.inl ⟨rfl,rfl⟩⟩
   ·exact ⟨b,rfl,.inr ⟨rfl,rfl⟩⟩
   ·omega
  have hc0:=hc 0 (.int .i64 u) (by rw [Nat.mul_one,List.getElem?_take_of_lt (by omega),List.getElem?_drop,Nat.add_zero]; exact hu)
  rw [Nat.add_zero] at hc0
  (try simp only [o_add,o_lss,hlt,decide_true,condT])
  refine r1 (hp _) (r_load one3 hc0 ?_)
  by_cases hz:u=0
  ·subst hz
   (try simp only [o_neq,bne_self_eq_false,condF])
   rw [wr_i64 (x:=(i:Int)+1) (by omega) (by omega)]
   exact ⟨m - 1,by omega,i+1,by first | rfl | trivial,by omega,by omega,by omega,by first | rfl | trivial⟩
  ·have hz':(u != 0)=true:=by simpa using hz
   (try simp only [o_neq,hz',condT])
   refine ⟨?_,by first | rfl | trivial⟩
   rcases hul with ⟨rfl,rfl⟩ | ⟨rfl,rfl⟩
   ·rw [if_neg hz]
   ·rw [if_pos (ha (by omega))]
 ·(try simp only [o_add,o_lss,hlt,decide_false,condF])
  refine ⟨?_,by first | rfl | trivial⟩
  rw [if_pos (ha (by omega)),hb (by omega)]
theorem txnCompare {e n e' n':Int} (h:St o w R):CallV π Z 58 #[.agg (zx e n).toArray,.agg (zx e' n').toArray] w fun r w'=>r=.int .i64 (cmpZ e n e' n')∧St o w' R:=by
 refine f58.calls ?_
 unfold f58.sh
 refine r_box _ _ h fun g w1 hS=>?_
 refine r_box _ _ hS fun g2 w2 hS=>?_
 have hS:St o w2 (blk g2 39 (zx e' n')::blk g 39 (zx e n)::R):=hS
 refine ⟨fun w3 hd=>?_⟩
 have hS:=hS.drew hd
 (try simp only [fa_39_1p,Nat.zero_add,fa_39_0p,Nat.add_zero])
 refine rr_load one37 (hS.at m1 0 rfl) ?_
 skip
 refine rr_load one37 (hS.at m0 0 rfl) ?_
 skip
 refine rr_load one37 (hS.at m1 1 rfl) ?_
 skip
 refine rr_load one37 (hS.at m0 1 rfl) ?_
 refine (cmpCompare Z e e').mono fun r w4 ⟨hr,hw⟩=>?_
 subst hr; subst hw
 refine rs_load one37 (hS.at m0 1 rfl) (rs_load one37 (hS.at m1 1 rfl) ?_)
 refine (cmpCompare Z n n').mono fun r w4 ⟨hr,hw⟩=>?_
 subst hr; subst hw
 refine r_slice el23 hS 2 _ [.int .i64 (cmpI e e'),.int .i64 (cmpI n n')] rfl (by omega) (by omega) (by intro u hu; simp at hu; rcases hu with rfl | rfl <;> rfl) rfl fun g3 w5 hS=>?_
 refine (cmpOr Z _ _ hS).mono fun r w6 ⟨hr,hw⟩=>?_
 subst hr; subst hw
 exact ⟨rfl,hS.drop.drop.drop⟩
end
end Go.Proofs.YtbdfhfceffkhgaaGreatDoor


/- The order of zxids, the document's. -/
set_option linter.unusedVariables false
set_option linter.unusedSimpArgs false
namespace Go.Proofs.YtbdfhfceffkhgaaGreatDoor
open Go.Sh
open Tryz renaming prog → π
theorem eqZx (e n e' n':Int) (w:World):(eqOp .eql 39 false false (.agg (zx e n).toArray) (.agg (zx e' n').toArray)).run π w=.ok (.bool ((e == e') && (n == n'))) w:=by
 have hg:π.eqGuardType π.depth 39=false:=by kernel_rfl
 have hu:π.underlying 39=some (.struct (π.fieldsOf 39)):=by kernel_rfl
 have hs:π.stoodInHeld 39=false:=by kernel_rfl
 have hk:π.plainKey 37=true:=by kernel_rfl
 have p0:∀(a b:Int) (w:World),(part 37 (zx a b).toArray 0).run π w=.ok (.int .u32 a) w:=fun a b w=>run_part_plain w hk rfl
 have p1:∀(a b:Int) (w:World),(part 37 (zx a b).toArray 1).run π w=.ok (.int .u32 b) w:=fun a b w=>run_part_plain w hk rfl
 unfold eqOp
 simp only [Sem.run_bind,run_eqGuard_agg _ _ _ _ _ _ _ hg,Result.andThen_ok,run_eql_struct,run_equalIn_agg _ _ _ _ _ hu hs]
 simp [Program.fieldsOf,Tryz.underlying39,Op.eqFields,p0,p1,run_equalIn_int _ _ _ _ _ _ _ Tryz.underlying37]
 by_cases h1:e=e' <;> by_cases h2:n=n' <;> simp [h1,h2]
section
variable (Z:PZ) {o w:World} {R As:List HProp}
theorem refCompare {e n e' n':Int} (h:St o w R):CallV π Z 22 #[.agg (zx e n).toArray,.agg (zx e' n').toArray] w fun r w'=>r=.int .i64 (cmpZ e n e' n')∧St o w' R:=by
 refine f22.calls ?_
 unfold f22.sh
 refine r_box _ _ h fun g w1 hS=>?_
 refine r_box _ _ hS fun g2 w2 hS=>?_
 have hS:St o w2 (blk g2 39 (zx e' n')::blk g 39 (zx e n)::R):=hS
 have last:∀c:Int,(e=e'∧n=n'→c=0)→(¬ (e=e'∧n=n')→c=1)→rN π Z (Instr.loadAt 39 (.pointer (some ⟨g,0,none⟩))) w2 fun x w=>rN π Z (Instr.loadAt 39 (.pointer (some ⟨g2,0,none⟩))) w fun y w=>rN π Z (eqOp .eql 39 false false x y) w fun b w=>cV b (Value.int .i64 0=.int .i64 c∧St o w R) (Value.int .i64 1=.int .i64 c∧St o w R):=fun c h0 h1=>by
  refine r_loadN ag39 (xs:=zx e n) rfl (hS.cells_at m1 0 (whole_at _)) ?_
  refine r_loadN ag39 (xs:=zx e' n') rfl (hS.cells_at m0 0 (whole_at _)) ?_
  refine r1 (eqZx e n e' n' w2) ?_
  by_cases hh:e=e'∧n=n'
  ·obtain ⟨rfl,rfl⟩:=hh
   simp only [beq_self_eq_true,Bool.and_self]
   (try simp only [condT])
   exact ⟨by rw [h0 ⟨rfl,rfl⟩],hS.drop.drop⟩
  ·have hb:((e == e') && (n == n'))=false:=by
    rw [Bool.and_eq_false_iff]
    by_cases h:e=e'
    ·exact .inr (by simpa using fun h2=>hh ⟨h,h2⟩)
    ·exact .inl (by simpa using h)
   rw [hb]
   (try simp only [condF])
   exact ⟨by rw [h1 hh],hS.drop.drop⟩
 (try simp only [fa_39_0,Nat.add_zero,fa_39_1,Nat.zero_add])
 refine r_load one37 (hS.at m1 0 rfl) ?_
 skip
 refine r_load one37 (hS.at m0 0 rfl) ?_
 by_cases h1:e < e'
 ·(try simp only [o_lss,h1,decide_true,o_pickT,condT,guardW_tf,guardW_u])
  exact ⟨by simp [cmpZ,cmpI,h1],hS.drop.drop⟩
 (try simp only [o_lss,h1,decide_false,o_pickF,guardW_ff])
 refine r_load one37 (hS.at m1 0 rfl) ?_
 skip
 refine r_load one37 (hS.at m0 0 rfl) ?_
 by_cases h2:e=e'
 ·subst h2
  (try simp only [o_eql,beq_self_eq_true,o_pickT,guardW_true])
  refine r_load one37 (hS.at m1 1 rfl) ?_
  skip
  refine r_load one37 (hS.at m0 1 rfl) ?_
  by_cases h3:n < n'
  ·(try simp only [o_lss,h3,decide_true,condT])
   exact ⟨by simp [cmpZ,cmpI,h3],hS.drop.drop⟩
  (try simp only [o_lss,h3,decide_false,condF])
  exact last _ (fun ⟨_,h⟩=>by subst h; simp [cmpZ,cmpI]) (fun hh=>by
   have:n' < n:=by have:¬ n=n':=fun h=>hh ⟨rfl,h⟩; omega
   simp [cmpZ,cmpI,this,h3])
 ·have h2':(e == e')=false:=by simpa using h2
  (try simp only [o_eql,h2',o_pickF,condF,guardW_ft])
  exact last _ (fun ⟨h,_⟩=>absurd h h2) (fun _=>by
   have:e' < e:=by omega
   simp [cmpZ,cmpI,this,h1])
end
end Go.Proofs.YtbdfhfceffkhgaaGreatDoor


/- The table names; known, fields. -/
set_option linter.unusedVariables false
set_option linter.unusedSimpArgs false
namespace Go.Proofs.YtbdfhfceffkhgaaGreatDoor
open Go.Sh
open Tryz renaming prog → π
def namesTab:List Int:=[0,183,169,171,173,169,416,64,32,161,161,161,161]
def Names (o:World):Prop:=Lib.TabIs π o "lagoon/txn.names" .u64 namesTab
def nm (k:Nat):Nat:=(namesTab.getD k 0).toNat
theorem nm_int (k:Nat) (hk:k≤12):namesTab.getD k 0=(nm k:Int):=by
 obtain rfl | rfl | rfl | rfl | rfl | rfl | rfl | rfl | rfl | rfl | rfl | rfl | rfl:k=0∨k=1∨k=2∨k=3∨k=4∨k=5∨k=6∨k=7∨k=8∨k=9∨k=10∨k=11∨k=12:=by omega
 all_goals rfl
section
variable (Z:PZ) {o w:World} {R As:List HProp}
theorem nameAt (hN:Names o) (hS:St o w As) (ho:old o ∈ As) (k:Nat) (hk:k≤12):w.cell? ⟨0,k,none⟩=some (.int .u64 (nm k)):=by
 have h:Lib.TabIs π w "lagoon/txn.names" .u64 namesTab:=Lib.tabBelow_of_tabIs hN w (hS.below ho)
 rw [← nm_int k hk]
 exact h.cell (by kernel_rfl) k (by simp [namesTab]; omega)
theorem run_nameIx (kd:Int) (h:0≤kd∧kd≤12) (w:World):(Instr.indexAt 209 (.pointer (some ⟨0,0,none⟩)) (.int .i8 kd)).run π w=.ok (.pointer (some ⟨0,kd.toNat,none⟩)) w:=by
 have hl:π.arrayLen 209=13:=by kernel_rfl
 have he:π.elem 209=131:=by kernel_rfl
 have hs:(sizeOf 131).run π w=.ok 1 w:=by kernel_rfl
 rw [run_indexAt_array _ _ _ _ _ (by kernel_rfl),hl,he,hs,if_pos ⟨h.1,by omega⟩]
 simp [Result.andThen,Addr.add]
 intro h0
 omega
theorem known (kd:Int):CallV π Z 112 #[.int .i8 kd] w fun r w'=>r=.bool (decide (1≤kd∧kd≤12))∧w'=w:=by
 refine f112.calls ?_
 unfold f112.sh
 by_cases h1:1≤kd
 ·by_cases h2:kd≤12
  ·(try simp only [h1,h2,o_geq,decide_true,o_pickT,guardW_true,o_leq])
   exact ⟨by simp [h1,h2],trivial⟩
  ·(try simp only [h1,h2,o_geq,decide_true,o_pickT,guardW_true,o_leq,decide_false])
   exact ⟨by simp [h2],trivial⟩
 ·(try simp only [h1,o_geq,decide_false,o_pickF,guardW_ft])
  exact ⟨by simp [h1],trivial⟩
end
end Go.Proofs.YtbdfhfceffkhgaaGreatDoor


/- within: a request's flat fields. -/
set_option linter.unusedVariables false
set_option linter.unusedSimpArgs false
namespace Go.Proofs.YtbdfhfceffkhgaaGreatDoor
open Go.Sh
open Tryz renaming prog → π
theorem bit_int (n i:Nat) (hn:n < 512) (hi:i≤8) (b:Int) (hb:b=((2 ^ i:Nat):Int)):(IntKind.u64.wrap ((BitVec.ofInt IntKind.u64.bits (n:Int) &&& BitVec.ofInt IntKind.u64.bits b).toNat:Int) != 0)=n.testBit i:=by
 subst hb
 have h2:2 ^ i≤256:=by
  have:2 ^ i≤2 ^ 8:=Nat.pow_le_pow_right (by omega) hi
  omega
 have e:(BitVec.ofInt IntKind.u64.bits (n:Int) &&& BitVec.ofInt IntKind.u64.bits ((2 ^ i:Nat):Int)).toNat=n &&& 2 ^ i:=by
  rw [BitVec.ofInt_natCast,BitVec.ofInt_natCast,BitVec.toNat_and,BitVec.toNat_ofNat,BitVec.toNat_ofNat]
  have e1:n % 2 ^ IntKind.u64.bits=n:=Nat.mod_eq_of_lt (show n < 2 ^ 64 by omega)
  have e2:2 ^ i % 2 ^ IntKind.u64.bits=2 ^ i:=Nat.mod_eq_of_lt (show 2 ^ i < 2 ^ 64 by omega)
  rw [e1,e2]
 have key:∀n < 512,∀i < 9,((n &&& 2 ^ i) != 0)=n.testBit i:=by decide +kernel
 have hle:n &&& 2 ^ i≤n:=Nat.and_le_left
 rw [e,wr_u64 (by omega) (by omega),← key n hn i (by omega)]
 generalize n &&& 2 ^ i=x
 by_cases hx:x=0
 ·subst hx; rfl
 ·have h1:((x:Int) != 0)=true:=by simp; omega
  have h2:(x != 0)=true:=by simpa using hx
  rw [h1,h2]
theorem nm_lt (k:Nat):nm k < 512:=by
 by_cases hk:k≤12
 ·obtain rfl | rfl | rfl | rfl | rfl | rfl | rfl | rfl | rfl | rfl | rfl | rfl | rfl:k=0∨k=1∨k=2∨k=3∨k=4∨k=5∨k=6∨k=7∨k=8∨k=9∨k=10∨k=11∨k=12:=by omega
  all_goals decide
 ·have:namesTab.getD k 0=0:=by rw [List.getD_eq_getElem?_getD,List.getElem?_eq_none (by simp [namesTab]; omega)]; rfl
  rw [nm,this]; decide
section
variable (Z:PZ) {o w:World} {R As:List HProp}
theorem hasBit {g:Nat} {kk:PQ} (n i:Nat) (hn:n < 512) (hi:i≤8) (b:Int) (hb:b=((2 ^ i:Nat):Int)) (hS:St o w As) (hm:blk g 131 [.int .u64 n] ∈ As) (hk:kk (.bool (n.testBit i)) w) :
  runX π Z (callVal (.func (.func 162) #[] #[.pointer (some ⟨g,0,none⟩)]) #[.int .u64 b]) w kk:=by
 refine r_callVal en162 (l1:=[]) (l2:=[.int .u64 b]) (l3:=[.pointer (some ⟨g,0,none⟩)]) rfl rfl rfl ?_
 refine f162.calls ?_
 unfold f162.sh
 refine r_load one131 (hS.at hm 0 rfl) ?_
 (try simp only [o_and,o_neq])
 rw [bit_int n i hn hi b hb]
 exact hk
end
end Go.Proofs.YtbdfhfceffkhgaaGreatDoor


/- Requests: their flat fields; within. -/
set_option linter.unusedVariables false
set_option linter.unusedSimpArgs false
namespace Go.Proofs.YtbdfhfceffkhgaaGreatDoor
open Go.Sh
open Tryz renaming prog → π
structure Idd where
 sch:List UInt8
 nam:List UInt8
structure En where
 perms:Int
 who:Idd
structure Fl where
 kd:Int
 path:List UInt8
 data:List UInt8
 acl:List En
 ver:Int
 eph:Bool
 seq:Bool
 ses:Int
 tmo:Int
 who:List Idd
def idC (x:Idd):List Value:=[.string (str x.sch),.string (str x.nam)]
def enC (x:En):List Value:=.int .i8 x.perms::idC x.who
def rqC (f:Fl) (vd va vw vo:Value):List Value:=[.int .i8 f.kd,.string (str f.path),vd,va,.int .i32 f.ver,.bool f.eph,.bool f.seq,.int .i64 f.ses,.int .i32 f.tmo,vw,vo]
def IdV (w:World) (x:Idd) (c:List Value):Prop:=c=idC x
def idMay (x:Idd):Bool:=decide (x.sch.length≤24) && decide (x.nam.length≤24)
section
variable (Z:PZ) {o w:World} {R As:List HProp}
theorem idMayV (x:Idd) (h:St o w R):CallV π Z 163 #[.agg (idC x).toArray] w fun r w'=>r=.bool (idMay x)∧St o w' R:=by
 refine f163.calls ?_
 unfold f163.sh
 refine r_box _ _ h fun g w1 hS=>?_
 have hS:St o w1 (blk g 138 (idC x)::R):=hS
 (try simp only [fa_138_1,Nat.zero_add,fa_138_0,Nat.add_zero])
 refine r_load one9 (hS.at m0 0 rfl) ?_
 (try simp only [ln_9_3,o_leq])
 rw [str_size]
 by_cases h1:(x.sch.length:Int)≤24
 ·(try simp only [h1,decide_true,o_pickT,guardW_true])
  refine r_load one9 (hS.at m0 1 rfl) ?_
  (try simp only [ln_9_3,o_leq])
  rw [str_size]
  have e:idMay x=decide ((x.nam.length:Int)≤24):=by
   have:x.sch.length≤24:=by omega
   simp only [idMay,this,decide_true,Bool.true_and]
   congr 1
   apply propext; omega
  rw [e]
  exact ⟨by first | rfl | trivial,hS.drop⟩
 ·(try simp only [h1,decide_false,o_pickF,guardW_ft])
  have:¬ x.sch.length≤24:=by omega
  exact ⟨by simp [idMay,this],hS.drop⟩
theorem idNot (x:Idd) (h:St o w R):CallV π Z 165 #[.agg (idC x).toArray] w fun r w'=>r=.bool (!idMay x)∧St o w' R:=by
 refine f165.calls ?_
 unfold f165.sh
 refine r_box _ _ h fun g w1 hS=>?_
 have hS:St o w1 (blk g 138 (idC x)::R):=hS
 refine r_loadN ag138 (xs:=idC x) rfl (hS.cells_at m0 0 (whole_at _)) ?_
 refine (idMayV Z x hS).mono fun r w2 ⟨hr,hS⟩=>?_
 subst hr
 (try simp only [o_not])
 exact ⟨by first | rfl | trivial,hS.drop⟩
theorem idRow (v:Value) (l:List Idd) (hx:Ent o R fun w=>RowR w 2 (IdV w) l v) (h:St o w R):CallV π Z 164 #[v,.func (.func 165) #[] #[]] w fun r w'=>r=.bool (!l.all idMay)∧St o w' R:=by
 obtain ⟨a,c,rfl⟩:=(hx w h).form
 have hle:=(hx w h).le
 simp only [maxLen] at hle
 refine f164.calls ?_
 unfold f164.sh
 have key:CallV π Z 199 #[.slice a l.length c,.func (.func 165) #[] #[]] w fun r w'=>(∃n:Int,r=.int .i64 n∧(decide (0≤n))=(!l.all idMay))∧St o w' R:=by
  refine f199.calls ?_
  unfold f199.sh
  (try simp only [ln_45_3])
  refine ⟨fun m y w'=>∃i:Nat,y=.int .i64 i∧m+i=l.length∧(l.take i).all idMay=true∧St o w' R,⟨l.length,0,rfl,rfl,by simp,h⟩,?_⟩
  rintro m _ w1 ⟨i,rfl,hi,hall,hS⟩ _
  by_cases hlt:(i:Int) < (l.length:Int)
  ·have hil:i < l.length:=by omega
   obtain ⟨b,q,cs,hp,hcl,hcv,hc⟩:=(hx w1 hS).ix el45 .i64 i hil
   have hcv:cs=idC l[i]:=hcv
   subst hcv
   (try simp only [o_add,o_lss,hlt,decide_true,condT])
   refine r1 (hp _) (r_loadN ag138 (xs:=idC l[i]) rfl (fun j u hu=>by rw [add_addr]; exact hc j u hu) ?_)
   refine r_callVal en165 (l1:=[]) (l2:=[_]) (l3:=[]) rfl rfl rfl ?_
   refine (idNot Z l[i] hS).mono fun r w2 ⟨hr,hS⟩=>?_
   subst hr
   cases hm:idMay l[i] with
   | false=>
    simp only [Bool.not_false]
    (try simp only [condT])
    refine ⟨⟨_,rfl,?_⟩,hS⟩
    have:l.all idMay=false:=by
     rw [List.all_eq_false]
     exact ⟨l[i],List.getElem_mem hil,by simp [hm]⟩
    rw [this]; simp
   | true=>
    simp only [Bool.not_true]
    (try simp only [condF])
    rw [wr_i64 (x:=(i:Int)+1) (by omega) (by omega)]
    refine ⟨m - 1,by omega,i+1,rfl,by omega,?_,hS⟩
    rw [List.take_succ_eq_append_getElem hil,List.all_append,hall]
    simp [hm]
  ·obtain rfl:i=l.length:=by omega
   rw [List.take_length] at hall
   (try simp only [o_add,o_lss,hlt,decide_false,condF])
   exact ⟨⟨_,rfl,by rw [hall]; rfl⟩,hS⟩
 refine key.mono fun r w1 ⟨⟨n,hr,hn⟩,hS⟩=>?_
 subst hr
 (try simp only [o_geq])
 rw [hn]
 exact ⟨by first | rfl | trivial,hS⟩
end


/- A log begun; what may stand in one that is created. -/
import Derived.Test.YtbdfhfceffkhgaaGreatDoorL12
import Derived.Test.YtbdfhfceffkhgaaGreatDoorT27
set_option linter.unusedVariables false
set_option linter.unusedSimpArgs false
namespace Go.Proofs.YtbdfhfceffkhgaaGreatDoor
open Go.Sh
open Tryz renaming prog → π
def badArg (num size:Int):Prop:=num < 1∨size < 1∨64 < size
section
variable (Z:PZ) {o w:World} {R As:List HProp} {g:Nat} {d:Dk}
theorem nameOk_nil:nameOk []=false:=by decide
theorem found_nil (d:Dk):d.found [] ≠ 0∧d.found [] ≠ 1:=by
 unfold Dk.found Dk.asked
 cases d.on <;> simp [nameOk_nil]
theorem lMade (h:St o w (DiskM g d::R)):CallV π Z 56 #[.pointer (some ⟨g,0,none⟩)] w fun r w'=>r=.bool true∧St o w' (DiskM g d::R):=by
 refine f56.calls ?_
 unfold f56.sh
 have hf:=found_nil d
 refine (dRead Z [] (by simp) h).mono fun r w1 hr=>?_
 rcases hr with ⟨_,rfl,hS⟩ | ⟨h0,_⟩
 ·have e1:(d.found [] != 1)=true:=bne_iff_ne.2 hf.2
  (try simp only [o_ext2_1,o_neq,e1,o_ext2_0])
  exact ⟨by first | rfl | trivial,hS⟩
 ·exact absurd h0 hf.1
theorem lBegun (num size:Int) (h:St o w (DiskM g d::R)):CallV π Z 34 #[.pointer (some ⟨g,0,none⟩),.int .i64 num,.int .i64 size] w fun r w'=>
  (badArg num size∧r=.tuple #[.pointer none,.int .i64 1]∧St o w' (DiskM g d::R))∨(¬ badArg num size∧∃gl,r=.tuple #[.pointer (some ⟨gl,0,none⟩),.int .i64 0]∧St o w' (LgM gl g ⟨num,size,0,0,0,0,[]⟩::DiskM g d::R)):=by
 refine f34.calls ?_
 unfold f34.sh
 refine (lMade Z h).mono fun r w1 ⟨hr,hS⟩=>?_
 subst hr
 by_cases b1:num < 1
 ·have hb:badArg num size:=.inl b1
  (try simp only [o_not,Bool.not_true,o_pickF,guardW_ff,o_lss,b1,decide_true,o_pickT,condT,guardW_tf])
  exact .inl ⟨hb,by first | rfl | trivial,hS⟩
 by_cases b2:size < 1
 ·have hb:badArg num size:=.inr (.inl b2)
  (try simp only [o_not,Bool.not_true,o_pickF,guardW_ff,o_lss,b1,decide_false,b2,decide_true,o_pickT,condT,guardW_tf])
  exact .inl ⟨hb,by first | rfl | trivial,hS⟩
 by_cases b3:64 < size
 ·have hb:badArg num size:=.inr (.inr b3)
  (try simp only [o_not,Bool.not_true,o_pickF,guardW_ff,o_lss,b1,decide_false,b2,o_gtr,b3,decide_true,condT])
  exact .inl ⟨hb,by first | rfl | trivial,hS⟩
 have hb:¬ badArg num size:=by unfold badArg; omega
 (try simp only [o_not,Bool.not_true,o_pickF,guardW_ff,o_lss,b1,decide_false,b2,o_gtr,b3,condF])
 refine r_build (cells:=(lgC g ⟨num,size,0,0,0,0,[]⟩ (.slice none 0 0) (.slice none 0 0)).toArray) (by kernel_rfl) ?_
 refine r_box _ _ hS fun gl w2 hS=>?_
 refine .inr ⟨hb,gl,rfl,?_⟩
 have h1:St o w2 (satH []::blk gl 85 (lgC g ⟨num,size,0,0,0,0,[]⟩ (.slice none 0 0) (.slice none 0 0))::DiskM g d::R):=St.all_intro hS
 have h2:=(h1.own_nil 50 16).own_nil 9 1
 refine LgM.shut (vn:=.slice none 0 0) (vt:=.slice none 0 0) ?_
 unfold LgO OwT
 have h2:St o w2 (own 9 1 (.slice none 0 0) 0 (segR num.toNat 0)::own 50 16 (.slice none 0 0) 0 []::_):=h2
 (refine Sh.St.sub ?_ (h2); repeat (first | with_reducible (first | exact sub_refl | exact sub_nil | refine sP0 ?_ | refine sP1 ?_ | refine sP2 ?_ | refine sP3 ?_ | refine sP4 ?_ | refine sP5 ?_ | refine sP6 ?_ | refine sP7 ?_ | refine sP8 ?_ | refine sP9 ?_ | refine sP10 ?_ | refine sP11 ?_ | refine sP12 ?_ | refine sP13 ?_ | refine sP14 ?_ | refine sP15 ?_) | exact sub_refl | refine sP0 ?_ | refine sP1 ?_ | refine sP2 ?_ | refine sP3 ?_ | refine sP4 ?_ | refine sP5 ?_ | refine sP6 ?_ | refine sP7 ?_ | refine sP8 ?_ | refine sP9 ?_ | refine sP10 ?_ | refine sP11 ?_ | refine sP12 ?_ | refine sP13 ?_ | refine sP14 ?_ | refine sP15 ?_ | refine sub_drop ?_))
theorem lWrong (t:Tx) (hN:Names o) (ho:old o ∈ R) (hx:Ent o R fun w=>RdQ w t.q) (h:St o w R):CallV π Z 35 #[.agg t.cells.toArray] w fun r w'=>r=.bool (lchk t 0 0 != 0)∧St o w' R:=by
 refine f35.calls ?_
 unfold f35.sh
 refine r_box _ _ h fun g w1 hS=>?_
 have hS:St o w1 (blk g 50 t.cells::R):=hS
 refine r_loadN ag50 (xs:=t.cells) rfl (hS.cells_at m0 0 (whole_at _)) ?_
 refine r_build (cells:=(zx 0 0).toArray) (by kernel_rfl) ?_
 refine (lCheck Z t 0 0 hN (List.mem_cons_of_mem _ ho) (fun w hw=>hx w hw.drop) hS).mono fun r w2 ⟨hr,hS⟩=>?_
 subst hr
 refine r1 (run_neq_int _ _ _ _ _ _ _ _) ?_
 exact ⟨rfl,hS.drop⟩
theorem lSome {v:Value} {ts:List Tx} (hN:Names o) (ho:old o ∈ R) (hx:Ent o R fun w=>RdT w v ts) (h:St o w R):CallV π Z 37 #[v,.func (.func 35) #[] #[]] w fun r w'=>r=.bool (ts.any fun t=>lchk t 0 0 != 0)∧St o w' R:=by
 obtain ⟨a,c,rfl⟩:=(hx w h).1.form
 have hle:=(hx w h).1.2.1
 simp only [maxLen] at hle
 refine f37.calls ?_
 unfold f37.sh
 apply CallV.mono (k:=fun r w'=>∃i:Int,r=.int .i64 i∧decide (0≤i)=(ts.any fun t=>lchk t 0 0 != 0)∧St o w' R)
 case hk=>
  rintro r w1 ⟨i,rfl,hi,hS⟩
  refine r1 (run_geq _ _ _ _ _ _) ?_
  rw [hi]
  exact ⟨rfl,hS⟩
 refine f59.calls ?_
 unfold f59.sh
 (try simp only [ln_22_3])
 refine ⟨fun m y w'=>∃i:Nat,i≤ts.length∧y=.int .i64 i∧m+i=ts.length∧(∀j (hj:j < ts.length),j < i→lchk ts[j] 0 0=0)∧St o w' R,⟨ts.length,0,Nat.zero_le _,rfl,rfl,fun j hj h=>by omega,h⟩,?_⟩
 clear h
 rintro m _ w2 ⟨i,hile,rfl,hi,hall,hS⟩ _
 by_cases hlt:(i:Int) < (ts.length:Int)
 case neg=>
  (try simp only [o_add,o_lss,hlt,decide_false,condF])
  refine ⟨-1,by first | rfl | trivial,?_,hS⟩
  symm
  rw [decide_eq_false (by omega),List.any_eq_false]
  intro t ht
  obtain ⟨j,hj,rfl⟩:=List.mem_iff_getElem.1 ht
  rw [hall j hj (by omega)]; simp
 have hil:i < ts.length:=by omega
 have hmem:ts[i] ∈ ts:=List.getElem_mem hil
 obtain ⟨b,p,cs,hp,_,hcv,hcl⟩:=(rowR_rd (c:=Tx.cells) (fun x=>rfl) (hx w2 hS).1 rfl).ix el22 .i64 i hil
 subst hcv
 (try simp only [o_add,o_lss,hlt,decide_true,condT])
 refine r1 (hp _) (r_loadN ag50 (xs:=ts[i].cells) rfl (fun j u hu=>by rw [add_addr]; exact hcl j u hu) ?_)
 refine r_callVal en35 (l1:=[]) (l2:=[.agg ts[i].cells.toArray]) (l3:=[]) rfl rfl rfl ((lWrong Z ts[i] hN ho (fun w hw=>(hx w hw).2 _ hmem) hS).mono fun r w3 ⟨hr,hS⟩=>?_)
 subst hr
 by_cases hw:lchk ts[i] 0 0=0
 ·rw [show (lchk ts[i] 0 0 != 0)=false by rw [hw]; rfl]
  (try simp only [condF])
  rw [wr_i64 (x:=(i:Int)+1) (by omega) (by omega)]
  refine ⟨m - 1,by omega,i+1,by omega,rfl,by omega,fun j hj h=>?_,hS⟩
  by_cases hji:j=i
  ·subst hji; exact hw
  ·exact hall j hj (by omega)
 ·rw [bne_iff_ne.2 hw]
  (try simp only [condT])
  refine ⟨i,by first | rfl | trivial,?_,hS⟩
  rw [decide_eq_true (by omega)]
  symm
  rw [List.any_eq_true]
  exact ⟨ts[i],hmem,bne_iff_ne.2 hw⟩
theorem dOnM (h:St o w (DiskM g d::R)):CallV π Z 39 #[.pointer (some ⟨g,0,none⟩)] w fun r w'=>r=.bool d.on∧St o w' (DiskM g d::R):=by
 obtain ⟨v,L,hk,hL,hS⟩:=DiskM.open h
 exact (dOn Z hS m0).mono fun r w' ⟨hr,hw⟩=>by subst hw; exact ⟨hr,DiskM.shut hk hL rfl hS⟩
end
end Go.Proofs.YtbdfhfceffkhgaaGreatDoor


/- Create. -/
set_option linter.unusedVariables false
set_option linter.unusedSimpArgs false
namespace Go.Proofs.YtbdfhfceffkhgaaGreatDoor
open Go.Sh
open Tryz renaming prog → π
def crt (num:Int) (size:Nat):Nat→Nat→Nat→List Tx→Dk→Int × Dk × Nat × Nat
 | 0,k,fil,_,d=>(0,d,k,fil)
 | f+1,k,fil,ts,d=>if k=0∨ts ≠ [] then
   if (d.put (nameI num (k+1:Nat)) (frT (ts.take size))).1=0 then crt num size f (k+1) (ts.take size).length (ts.drop size) (d.put (nameI num (k+1:Nat)) (frT (ts.take size))).2
   else ((d.put (nameI num (k+1:Nat)) (frT (ts.take size))).1,(d.put (nameI num (k+1:Nat)) (frT (ts.take size))).2,k,fil)
  else (0,d,k,fil)
def crE (d:Dk) (num size:Int) (ts:List Tx):Int:=
 if num < 1∨size < 1∨64 < size then 1 else if (ts.any fun t=>lchk t 0 0 != 0)=true then 40 else if rises 0 0 (zxs ts)=false then 100 else if d.on=false then 23 else if 0 < (segNos num.toNat d.fs).length then 22 else 0
def CreP (g:Nat) (d:Dk) (num size:Int) (ts:List Tx) (o:World) (R:List HProp) (r:Value) (w':World):Prop:=
 (crE d num size ts ≠ 0∧r=.tuple #[.pointer none,.int .i64 (crE d num size ts)]∧St o w' (DiskM g d::R)) ∨
 (crE d num size ts=0∧(crt num size.toNat (ts.length+1) 0 0 ts d).1 ≠ 0∧r=.tuple #[.pointer none,.int .i64 (crt num size.toNat (ts.length+1) 0 0 ts d).1]∧St o w' (DiskM g (crt num size.toNat (ts.length+1) 0 0 ts d).2.1::R)) ∨
 (crE d num size ts=0∧(crt num size.toNat (ts.length+1) 0 0 ts d).1=0∧∃gl us,r=.tuple #[.pointer (some ⟨gl,0,none⟩),.int .i64 0]∧us.map tk=ts.map tk ∧
  St o w' (LgM gl g ⟨num,size,(crt num size.toNat (ts.length+1) 0 0 ts d).2.2.1,(crt num size.toNat (ts.length+1) 0 0 ts d).2.2.2,(lastZ 0 0 ts).1,(lastZ 0 0 ts).2,us⟩::DiskM g (crt num size.toNat (ts.length+1) 0 0 ts d).2.1::R))
theorem put_nil (d:Dk) (p:Bs):(d.put [] p).1 ≠ 0:=by
 have ha:d.asked [[]] ≠ 0:=by
  unfold Dk.asked
  cases d.on <;> simp [nameOk_nil]
 have e:(d.append [] p).1=d.asked [[]]:=by
  unfold Dk.append
  rw [if_pos ha]
 unfold Dk.put
 rw [if_neg (by rw [e]; exact ha),e]
 exact ha
theorem nameI_len (a k:Int):(nameI a k).length≤40:=by
 unfold nameI
 split
 ·simp
 ·have h1:(hexL a.toNat).length≤16:=hexR_len _ _
  have h2:(hexL k.toNat).length≤16:=hexR_len _ _
  simp [nameB,preB]; omega
theorem lastZ_append (e n:Int):∀(a b:List Tx),lastZ e n (a++b)=lastZ (lastZ e n a).1 (lastZ e n a).2 b
 | [],_=>rfl
 | t::a,b=>lastZ_append t.e t.n a b
section
variable (Z:PZ) {o w:World} {R As:List HProp} {g:Nat} {d:Dk}
theorem lCreate {a:Option Addr} {c:Nat} {ts:List Tx} (num size:Int) (hnum : -9223372036854775808≤num∧num≤9223372036854775807) (hsz : -9223372036854775808≤size∧size≤9223372036854775807) (hwf:WfT ts) (hcap:ts.length≤c)
  (hP:∀f ∈ d.fs,∀rest,f.nm=preB num.toNat++rest→isHex rest∧1≤rest.length∧rest.length≤15) (hN:Names o) (hB:Bits o) (ho:old o ∈ R) (hx:Ent o R fun w=>RdT w (.slice a ts.length c) ts) (h:St o w (DiskM g d::R)) :
  CallV π Z 12 #[.pointer (some ⟨g,0,none⟩),.int .i64 num,.int .i64 size,.slice a ts.length c] w (CreP g d num size ts o R):=by
 have hok:d.ok:=by obtain ⟨_,_,hk,_⟩:=DiskM.open h; exact hk
 have hts:=hwf.1
 refine f12.calls ?_
 unfold f12.sh
 refine (lBegun Z num size h).mono fun r w1 hr=>?_
 rcases hr with ⟨hb,rfl,hS⟩ | ⟨hb,gl,rfl,hS⟩
 ·have e:crE d num size ts=1:=if_pos hb
  (try simp only [o_ext2_1,o_neq,Int.reduceBNe,condT,o_ext2_0])
  exact .inl ⟨by rw [e]; decide,by rw [e],hS⟩
 unfold badArg at hb
 (try simp only [o_ext2_1,o_neq,bne_self_eq_false,condF,o_ext2_0])
 refine (lSome Z hN (List.mem_cons_of_mem _ (List.mem_cons_of_mem _ ho)) (fun w hw=>hx w hw.drop.drop) hS).mono fun r w2 ⟨hr,hS⟩=>?_
 subst hr
 cases hany:(ts.any fun t=>lchk t 0 0 != 0) with
 | true=>
  have e:crE d num size ts=40:=by unfold crE; rw [if_neg hb,if_pos hany]
  rw [condT]
  exact .inl ⟨by rw [e]; decide,by rw [e],hS.drop⟩
 | false=>
 rw [condF]
 refine r_build (cells:=(zx 0 0).toArray) (by kernel_rfl) ?_
 refine (risesC Z (by unfold u32r; omega) (WfT.ns hwf) (fun w hw=>hx w hw.drop.drop) hS).mono fun r w3 ⟨hr,hS⟩=>?_
 subst hr
 cases hri:rises 0 0 (zxs ts) with
 | false=>
  have e:crE d num size ts=100:=by unfold crE; rw [if_neg hb,if_neg (by simp [hany]),if_pos hri]
  (try simp only [o_not,Bool.not_false,condT])
  exact .inl ⟨by rw [e]; decide,by rw [e],hS.drop⟩
 | true=>
 (try simp only [o_not,Bool.not_true,condF])
 refine (dOnM Z hS.swap).mono fun r w4 ⟨hr,hS⟩=>?_
 subst hr
 cases hon:d.on with
 | false=>
  have e:crE d num size ts=23:=by unfold crE; rw [if_neg hb,if_neg (by simp [hany]),if_neg (by simp [hri]),if_pos hon]
  (try simp only [o_not,Bool.not_false,condT])
  exact .inl ⟨by rw [e]; decide,by rw [e],hS.swap.drop⟩
 | true=>
 (try simp only [o_not,Bool.not_true,condF])
 have hno:((num.toNat:Nat):Int)=num:=by omega
 have hseg:=lSegments Z (g:=g) (d:=d) num.toNat ⟨by omega,by omega⟩ hP hok.many hB (List.mem_cons_of_mem _ ho) hS
 rw [hno] at hseg
 refine hseg.mono fun r w5 hS=>?_
 obtain ⟨va,vc,rfl⟩:=hS.own_form
 have hsl:(sortI (segNos num.toNat d.fs)).length=(segNos num.toNat d.fs).length:=List.length_mergeSort ..
 (try simp only [ln_23_3,o_gtr,cond_decide])
 refine ⟨fun e2=>?_,fun e2=>?_⟩
 ·have hex:0 < (segNos num.toNat d.fs).length:=by omega
  have e:crE d num size ts=22:=by unfold crE; rw [if_neg hb,if_neg (by simp [hany]),if_neg (by simp [hri]),if_neg (by simp [hon]),if_pos hex]
  exact .inl ⟨by rw [e]; decide,by rw [e],hS.drop.swap.drop⟩
 have hex:¬ 0 < (segNos num.toNat d.fs).length:=by omega
 have e:crE d num size ts=0:=by unfold crE; rw [if_neg hb,if_neg (by simp [hany]),if_neg (by simp [hri]),if_neg (by simp [hon]),if_neg hex]
 have hS:=hS.drop.swap
 clear hseg e2 hex hsl
 have hchk:∀t ∈ ts,chkT t=true:=fun t ht=>by
  have:=List.any_eq_false.1 hany t ht
  have h0:lchk t 0 0=0:=by simpa using this
  exact (lchk_ok.1 h0).1
 generalize hC:crt num size.toNat (ts.length+1) 0 0 ts d=C
 have done:∀(r:Value) (w:World),(C.1 ≠ 0∧r=.tuple #[.pointer none,.int .i64 C.1]∧St o w (DiskM g C.2.1::R))∨(C.1=0∧∃gl us,r=.tuple #[.pointer (some ⟨gl,0,none⟩),.int .i64 0]∧us.map tk=ts.map tk∧St o w (LgM gl g ⟨num,size,C.2.2.1,C.2.2.2,(lastZ 0 0 ts).1,(lastZ 0 0 ts).2,us⟩::DiskM g C.2.1::R))→CreP g d num size ts o R r w:=fun r w hh=>by
  unfold CreP
  rw [hC]
  rcases hh with ⟨h1,h2,h3⟩ | ⟨h1,h2⟩
  ·exact .inr (.inl ⟨e,h1,h2,h3⟩)
  ·exact .inr (.inr ⟨e,h1,h2⟩)
 refine ⟨fun m x y w'=>∃(k fil:Nat) (dd:Dk) (us pre rest:List Tx) (a':Option Addr) (c':Nat),x=.slice a' rest.length c'∧y=.int .i64 (k+1:Nat)∧ts=pre++rest∧us.map tk=pre.map tk∧rest.length≤c'∧rest.length+(if k=0 then 1 else 0)≤m∧k≤pre.length+1∧fil≤ts.length∧(Ent o R fun w=>RdT w (.slice a' rest.length c') rest)∧crt num size.toNat m k fil rest dd=C ∧
   St o w' (LgM gl g ⟨num,size,k,fil,(lastZ 0 0 pre).1,(lastZ 0 0 pre).2,us⟩::DiskM g dd::R),
  ⟨ts.length+1,0,0,d,[],[],ts,a,c,rfl,rfl,rfl,rfl,hcap,by simp,by simp,by simp,hx,hC,hS⟩,?_⟩
 clear hS hC e
 rintro m _ _ w6 ⟨k,fil,dd,us,pre,rest,a',c',rfl,rfl,hts2,hus,hcap',hm,hk,hfil,hx',hC,hS⟩ _
 have hlen:ts.length=pre.length+rest.length:=by rw [hts2,List.length_append]
 have hul:us.length=pre.length:=by have:=congrArg List.length hus; simpa using this
 by_cases hg:k=0∨rest ≠ []
 case neg=>
  have hk0:k ≠ 0:=fun hh=>hg (.inl hh)
  have hr0:rest=[]:=Classical.byContradiction fun hh=>hg (.inr hh)
  subst hr0
  rw [List.append_nil] at hts2
  subst hts2
  have hCC:C=(0,dd,k,fil):=by
   rw [← hC]
   cases m with
   | zero=>rfl
   | succ m=>rw [crt,if_neg hg]
  have e1:(((k+1:Nat):Int) == 1)=false:=by rw [beq_eq_false_iff_ne]; omega
  (try simp only [o_add,ln_22_3,o_min,o_eql,e1,o_pickF,guardW_ff,o_gtr,cond_decide])
  refine ⟨fun hh=>absurd hh (by simp),fun _=>?_⟩
  refine done _ _ (.inr ⟨by rw [hCC],gl,us,rfl,hus,?_⟩)
  rw [hCC]
  exact hS
 apply via
 ·intro post
  by_cases hk0:k=0
  ·have e1:(((k+1:Nat):Int) == 1)=true:=by rw [hk0]; rfl
   (try simp only [o_add,ln_22_3,o_min,o_eql,e1,o_pickT,condT,guardW_tf])
   exact post
  ·have e1:(((k+1:Nat):Int) == 1)=false:=by rw [beq_eq_false_iff_ne]; omega
   have hr0:rest ≠ []:=fun hh=>hg.elim hk0 fun h2=>h2 hh
   have hrl:=List.length_pos_iff.2 hr0
   have e2:(0:Int) < (rest.length:Int):=by omega
   (try simp only [o_add,ln_22_3,o_min,o_eql,e1,o_pickF,guardW_ff,o_gtr,e2,decide_true,condT])
   exact post
 have hn:min size (rest.length:Int)=(((rest.take size.toNat).length:Nat):Int):=by rw [List.length_take]; omega
 have hn64:(rest.take size.toNat).length≤64∧(rest.take size.toNat).length≤rest.length:=by rw [List.length_take]; omega
 have htk:rest.take (rest.take size.toNat).length=rest.take size.toNat:=by rw [List.length_take,Nat.min_comm,← List.take_take]; exact List.take_of_length_le (by rw [List.length_take]; omega)
 have hdk:rest.drop (rest.take size.toNat).length=rest.drop size.toNat:=by
  rw [List.length_take]
  rcases Nat.le_total size.toNat rest.length with hle | hle
  ·rw [Nat.min_eq_left hle]
  ·rw [Nat.min_eq_right hle,List.drop_length,List.drop_eq_nil_of_le hle]
 rw [hn]
 have hmem:∀t ∈ rest.take size.toNat,t ∈ ts:=fun t ht=>by rw [hts2]; exact List.mem_append_right _ (List.mem_of_mem_take ht)
 refine ⟨fun w7 hd=>?_⟩
 have hS:=hS.drew hd
 refine rp (fun w=>run_slice_to el22 a' rest.length c' .i64 _ (by omega) (by omega) w) ?_
 rw [Int.toNat_natCast]
 refine (lName Z num (k+1:Nat) hnum ⟨by omega,by omega⟩ hB (List.mem_cons_of_mem _ (List.mem_cons_of_mem _ ho)) hS).mono fun r w8 ⟨hr,hS⟩=>?_
 subst hr
 have hnl:=nameI_len num (k+1:Nat)
 have hxt:Ent o R fun w=>RdT w (.slice a' (rest.take size.toNat).length c') (rest.take size.toNat):=fun w hw=>by
  have:=(hx' w hw).take (rest.take size.toNat).length hn64.2
  rw [htk] at this
  exact this
 refine (lWrite Z (l:=⟨num,size,k,fil,(lastZ 0 0 pre).1,(lastZ 0 0 pre).2,us⟩) (d:=dd) (fr:=true) (nm:=nameI num (k+1:Nat)) (ts:=rest.take size.toNat) hN ho hxt (fun t ht=>(hwf.2 t (hmem t ht)).2) (fun t ht=>hchk t (hmem t ht)) (by omega) (show (us.length+(rest.take size.toNat).length) * 168≤_ by omega) (show k≤_ by omega) (show fil≤_ by omega) (by omega) (fun _=>?_) hS).mono fun r w9 ⟨hr,hS⟩=>?_
 ·by_cases hk4:k+1≤4095
  ·left
   show nameI num (k+1:Nat)=nameB num.toNat (k+1)
   unfold nameI
   rw [if_neg (by omega)]
   rfl
  ·right
   have e0:nameI num (k+1:Nat)=[]:=if_pos (by omega)
   rw [e0]
   exact put_nil _ _
 subst hr
 obtain ⟨m',rfl⟩:∃m',m=m'+1:=by
  refine ⟨m - 1,?_⟩
  rcases hg with hg | hg
  ·rw [if_pos hg] at hm; omega
  ·have:=List.length_pos_iff.2 hg; omega
 refine r1 (run_neq_int _ _ _ _ _ _ _ _) ?_
 rw [crt,if_pos hg] at hC
 rcases hS with ⟨hne,hS⟩ | ⟨h0,vs,hvs,hS⟩
 ·rw [bne_iff_ne.2 hne,condT]
  rw [if_neg hne] at hC
  refine done _ _ (.inl ?_)
  rw [← hC]
  exact ⟨hne,rfl,hS.drop⟩
 rw [show ((dd.put (nameI num (k+1:Nat)) (frT (rest.take size.toNat))).1 != 0)=false by rw [h0]; rfl,condF]
 rw [if_pos h0] at hC
 refine r1 (run_slice_from el22 a' rest.length c' .i64 _ (by omega) (by omega) _) ?_
 rw [Int.toNat_natCast,wr_i64 (x:=((k+1:Nat):Int)+1) (by omega) (by omega)]
 have hdl:(rest.drop size.toNat).length=rest.length - (rest.take size.toNat).length:=by rw [List.length_drop,List.length_take]; omega
 refine ⟨m',by omega,k+1,(rest.take size.toNat).length,_,us++vs,pre++rest.take size.toNat,rest.drop size.toNat,_,c' - (rest.take size.toNat).length,by rw [hdl],rfl,?_,?_,?_,?_,?_,?_,?_,hC,?_⟩
 ·rw [List.append_assoc,List.take_append_drop]; exact hts2
 ·rw [List.map_append,List.map_append,hus,hvs]
 ·omega
 ·rw [if_neg (by omega)]
  rcases hg with hg | hg
  ·rw [if_pos hg] at hm; omega
  ·have:=List.length_pos_iff.2 hg
   have:1≤(rest.take size.toNat).length:=by rw [List.length_take]; omega
   omega
 ·rw [List.length_append]
  rcases hg with hg | hg
  ·omega
  ·have:=List.length_pos_iff.2 hg
   have:1≤(rest.take size.toNat).length:=by rw [List.length_take]; omega
   omega
 ·omega
 ·intro w hw
  have:=RdT.drop hcap' (hx' w hw) (rest.take size.toNat).length hn64.2
  rw [hdk,← hdl] at this
  exact this
 ·have e1:=lastZ_append 0 0 pre (rest.take size.toNat)
  rw [e1]
  unfold Lg.took at hS
  simp only [if_true,Nat.zero_add] at hS
  exact hS
end

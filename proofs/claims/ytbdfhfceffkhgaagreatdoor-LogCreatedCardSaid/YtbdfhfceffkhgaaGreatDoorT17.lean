
/- What get reads of ids, entries and lists of them. -/
import Derived.Test.YtbdfhfceffkhgaaGreatDoorT14
set_option linter.unusedVariables false
set_option linter.unusedSimpArgs false
namespace Go.Proofs.YtbdfhfceffkhgaaGreatDoor
open Go.Sh
open Tryz renaming prog → π
def GetsE {α β:Type} (e:α→List UInt8) (ok:α→Prop) (κ:α→β) (cells:α→List Value) (Own:α→HProp) (sz:Nat) (g:Nat) (B:Option Nat) (all:List UInt8) (off:Nat) (err:Int) (o:World) (R:List HProp) (r:Value) (w':World):Prop:=
 (∃x,ok x∧err=0∧Has all off (e x)∧(∀y,ok y→Has all off (e y)→κ y=κ x)∧r=.agg (cells x).toArray∧(cells x).length=sz∧ones (cells x)∧St o w' (RdrAt g B all (off+(e x).length) 0::Own x::R)) ∨
 ((∃xs:List Value,r=.agg xs.toArray∧xs.length=sz∧ones xs)∧(∀x,ok x→¬ (err=0∧Has all off (e x)))∧∃off' e',e' ≠ 0∧St o w' (RdrAt g B all off' e'::R))
def GetsL {α β:Type} (e:α→List UInt8) (ok:α→Prop) (κ:α→β) (cells:α→List Value) (Own:α→HProp) (sz t most:Nat) (g:Nat) (B:Option Nat) (all:List UInt8) (off:Nat) (err:Int) (o:World) (R:List HProp) (r:Value) (w':World):Prop:=
 (∃xs:List α,xs.length≤most∧(∀x ∈ xs,ok x)∧err=0∧Has all off (lsB xs.length (xs.map e))∧(∀ys:List α,ys.length≤most→(∀y ∈ ys,ok y)→Has all off (lsB ys.length (ys.map e))→ys.map κ=xs.map κ) ∧
  St o w' (RdrAt g B all (off+(lsB xs.length (xs.map e)).length) 0::own t sz r xs.length (xs.map cells).flatten::satH (xs.map Own)::R)) ∨
 (r=.slice none 0 0∧(∀xs:List α,xs.length≤most→(∀x ∈ xs,ok x)→¬ (err=0∧Has all off (lsB xs.length (xs.map e))))∧∃off' e',e' ≠ 0∧St o w' (RdrAt g B all off' e'::R))
def okId (x:Idd):Prop:=okL 24 x.sch∧okL 24 x.nam
def okEn (x:En):Prop:=(-128≤x.perms∧x.perms≤127)∧okId x.who
theorem Has.left {all a b:List UInt8} {off:Nat} (h:Has all off (a++b)):Has all off a:=(Has.split.1 h).1
theorem Has.right {all a b:List UInt8} {off:Nat} (h:Has all off (a++b)):Has all (off+a.length) b:=(Has.split.1 h).2
theorem flat_pos {α:Type} {e:α→List UInt8} {ok:α→Prop} (h1:∀x,ok x→1≤(e x).length):∀(ys:List α),(∀y ∈ ys,ok y)→ys.length≤((ys.map e).flatten).length
 | [],_=>by simp
 | y::ys,h=>by
  have:=flat_pos h1 ys fun z hz=>h z (List.mem_cons_of_mem _ hz)
  have:=h1 y (h y List.mem_cons_self)
  rw [List.map_cons,List.flatten_cons,List.length_append,List.length_cons]; omega
theorem flat_split {α:Type} (e:α→List UInt8) (ys:List α) (i:Nat) (hi:i < ys.length):∃rest,(ys.map e).flatten=((ys.take i).map e).flatten++(e ys[i]++rest):=by
 refine ⟨((ys.drop (i+1)).map e).flatten,?_⟩
 rw [← List.append_assoc,← flat_take e ys i hi,← List.flatten_append,← List.map_append,List.take_append_drop]
theorem map_flat {α β:Type} {e:α→List UInt8} {κ:α→β} (hk:∀x y,κ x=κ y→e x=e y):∀(xs ys:List α),xs.map κ=ys.map κ→(xs.map e).flatten=(ys.map e).flatten
 | [],[],_=>rfl
 | [],_::_,h=>by simp at h
 | _::_,[],h=>by simp at h
 | x::xs,y::ys,h=>by
  simp only [List.map_cons,List.cons.injEq] at h
  rw [List.map_cons,List.map_cons,List.flatten_cons,List.flatten_cons,hk _ _ h.1,map_flat hk xs ys h.2]
section
variable (Z:PZ) {o w:World} {R:List HProp} {g:Nat} {B:Option Nat} {all:List UInt8} {off:Nat} {err:Int}
theorem gId (h:St o w (RdrAt g B all off err::R)):CallV π Z 158 #[.pointer (some ⟨g,0,none⟩)] w fun r w'=>GetsE idB okId id idC (fun _=>emp) 2 g B all off err o R r w':=by
 refine f158.calls ?_
 unfold f158.sh
 refine r_alloc h ze138 fun ga w1 hS=>?_
 have fin:∀{w:World} {R':List HProp} (a b:List UInt8) (Q:PQ),St o w (blk ga 138 [.string ByteArray.empty,.string ByteArray.empty]::R')→(∀w',St o w' R'→Q (.agg (idC ⟨a,b⟩).toArray) w') →
   rN π Z (Instr.build 138 #[(0,.string (str a)),(1,.string (str b))]) w fun t9 w=>rO π Z (Instr.storeAt 138 (.pointer (some ⟨ga,0,none⟩)) t9) w fun w=>
    ∃r,(do loadVar 138 (← asAddr (.pointer (some ⟨ga,0,none⟩))):Sem Value).run π w=.ok r w∧Q r w:=by
  intro w R' a b Q hS hQ
  generalize hsa:str a=sa
  generalize hsb:str b=sb
  refine r_build (cells:=#[.string sa,.string sb]) (by kernel_rfl) ?_
  subst hsa; subst hsb
  refine r_storeN hS ag138 (xs:=idC ⟨a,b⟩) rfl (show 0+2≤2 from Nat.le_refl _) (idB_ones _) fun w2 hS=>?_
  rw [setL_all _ _ (by rfl)] at hS
  exact r_resN ag138 (xs:=idC ⟨a,b⟩) rfl (hS.cells_at m0 0 (whole_at _)) (hQ _ hS.drop)
 have hS:St o w1 (blk ga 138 [.string ByteArray.empty,.string ByteArray.empty]::RdrAt g B all off err::R):=hS
 refine (gText Z 24 hS.swap).mono fun r w2 hq=>?_
 rcases hq with ⟨a,ha,rfl,hh,hu,rfl,hS⟩ | ⟨rfl,hno,off',e',⟨he',_⟩,hS⟩
 ·refine (gText Z 24 hS).mono fun r w3 hq=>?_
  rcases hq with ⟨b,hb,_,hh2,hu2,rfl,hS⟩ | ⟨rfl,hno,off',e',⟨he',_⟩,hS⟩
  ·refine fin a b _ hS.swap fun w4 hS=>.inl ⟨⟨a,b⟩,⟨ha,hb⟩,rfl,Has.split.2 ⟨hh,hh2⟩,fun y hy hhy=>?_,rfl,rfl,idB_ones _,?_⟩
   ·have h1:=hu _ hy.1 hhy.left
    have h2:=hhy.right
    rw [h1] at h2
    have h2:=hu2 _ hy.2 h2
    cases y; simp_all
   ·have e1:(idB ⟨a,b⟩).length=(encL a).length+(encL b).length:=by rw [idB,List.length_append]
    rw [e1,← Nat.add_assoc]
    exact hS.emp.swap
  ·refine fin a [] _ hS.swap fun w4 hS=>.inr ⟨⟨_,rfl,rfl,idB_ones _⟩,fun y hy ⟨_,hhy⟩=>?_,off',e',he',hS⟩
   have h1:=hu _ hy.1 hhy.left
   have h2:=hhy.right
   rw [h1] at h2
   exact hno _ hy.2 ⟨rfl,h2⟩
 ·refine (gText Z 24 hS).mono fun r w3 hq=>?_
  rcases hq with ⟨b,hb,he0,_⟩ | ⟨rfl,_,off2,e2,⟨he2,_⟩,hS⟩
  ·exact absurd he0 he'
  ·exact fin [] [] _ hS.swap fun w4 hS=>.inr ⟨⟨_,rfl,rfl,idB_ones _⟩,fun y hy ⟨h0,hhy⟩=>hno _ hy.1 ⟨h0,hhy.left⟩,off2,e2,he2,hS⟩
theorem gEn (h:St o w (RdrAt g B all off err::R)):CallV π Z 154 #[.pointer (some ⟨g,0,none⟩)] w fun r w'=>GetsE enB okEn id enC (fun _=>emp) 3 g B all off err o R r w':=by
 refine f154.calls ?_
 unfold f154.sh
 refine r_alloc h ze140 fun ga w1 hS=>?_
 have fin:∀{w:World} {R':List HProp} (p:Int) (xs:List Value) (Q:PQ),xs.length=2→ones xs→St o w (blk ga 140 [.int .i8 0,.string ByteArray.empty,.string ByteArray.empty]::R')→(∀w',St o w' R'→Q (.agg (Value.int .i8 p::xs).toArray) w') →
   rN π Z (Instr.build 140 #[(0,.int .i8 p),(1,.agg xs.toArray)]) w fun t9 w=>rO π Z (Instr.storeAt 140 (.pointer (some ⟨ga,0,none⟩)) t9) w fun w=>
    ∃r,(do loadVar 140 (← asAddr (.pointer (some ⟨ga,0,none⟩))):Sem Value).run π w=.ok r w∧Q r w:=by
  intro w R' p xs Q hl ho hS hQ
  obtain ⟨a,b,rfl⟩:∃a b,xs=[a,b]:=by
   match xs,hl with
   | [a,b],_=>exact ⟨a,b,rfl⟩
  have ha:=ho a (by simp)
  have hb:=ho b (by simp)
  refine r_build (cells:=#[.int .i8 p,a,b]) (by kernel_rfl) ?_
  refine r_storeN hS ag140 (xs:=[.int .i8 p,a,b]) rfl (show 0+3≤3 from Nat.le_refl _) (by intro u hu; simp at hu; rcases hu with rfl | rfl | rfl; rfl; exact ha; exact hb) fun w2 hS=>?_
  rw [setL_all _ _ (by rfl)] at hS
  exact r_resN ag140 (xs:=[.int .i8 p,a,b]) rfl (hS.cells_at m0 0 (whole_at _)) (hQ _ hS.drop)
 have hS:St o w1 (blk ga 140 [.int .i8 0,.string ByteArray.empty,.string ByteArray.empty]::RdrAt g B all off err::R):=hS
 refine (gInt8 Z hS.swap).mono fun r w2 hq=>?_
 rcases hq with ⟨p,hp,rfl,hh,hu,rfl,hS⟩ | ⟨rfl,hno,off',e',⟨he',_⟩,hS⟩
 ·refine (gId Z hS).mono fun r w3 hq=>?_
  rcases hq with ⟨x,hx,_,hh2,hu2,rfl,hl,hon,hS⟩ | ⟨⟨xs,rfl,hl,hon⟩,hno,off',e',he',hS⟩
  ·refine fin p (idC x) _ hl hon (hS.pick 2) fun w4 hS=>.inl ⟨⟨p,x⟩,⟨hp,hx⟩,rfl,Has.split.2 ⟨hh,hh2⟩,fun y hy hhy=>?_,rfl,rfl,enB_ones _,?_⟩
   ·have h1:=hu _ hy.1 hhy.left
    have h2:=hhy.right
    rw [h1] at h2
    have h2:=hu2 _ hy.2 h2
    cases y; simp_all
   ·have e1:(enB ⟨p,x⟩).length=(enc 1 p).length+(idB x).length:=by rw [enB,List.length_append]
    rw [e1,← Nat.add_assoc]
    exact hS
  ·refine fin p xs _ hl hon hS.swap fun w4 hS=>.inr ⟨⟨_,rfl,by simp [hl],fun u hu=>?_⟩,fun y hy ⟨_,hhy⟩=>?_,off',e',he',hS⟩
   ·rcases List.mem_cons.1 hu with rfl | hu
    ·rfl
    ·exact hon u hu
   ·have h1:=hu _ hy.1 hhy.left
    have h2:=hhy.right
    rw [h1] at h2
    exact hno _ hy.2 ⟨rfl,h2⟩
 ·refine (gId Z hS).mono fun r w3 hq=>?_
  rcases hq with ⟨x,hx,he0,_⟩ | ⟨⟨xs,rfl,hl,hon⟩,_,off2,e2,he2,hS⟩
  ·exact absurd he0 he'
  ·refine fin 0 xs _ hl hon hS.swap fun w4 hS=>.inr ⟨⟨_,rfl,by simp [hl],fun u hu=>?_⟩,fun y hy ⟨h0,hhy⟩=>hno _ hy.1 ⟨h0,hhy.left⟩,off2,e2,he2,hS⟩
   rcases List.mem_cons.1 hu with rfl | hu
   ·rfl
   ·exact hon u hu
theorem gLId {α β:Type} (e:α→List UInt8) (ok:α→Prop) (κ:α→β) (cells:α→List Value) (Own:α→HProp) (most:Nat) (hm:most≤8) (f:FuncId) (first:List Value) (hf:∀args w,(callFunc f args).run π w=.ok (.enter f args) w)
  (h1:∀x,ok x→1≤(e x).length) (hκ:∀x y,κ x=κ y→e x=e y) (hall:all.length≤140737488355328) (ho:old o ∈ R)
  (hE:∀(w:World) (R':List HProp) (off:Nat),old o ∈ R'→St o w (RdrAt g B all off 0::R')→CallV π Z f (first++[Value.pointer (some ⟨g,0,none⟩)]++[]).toArray w fun r w'=>GetsE e ok κ cells Own 2 g B all off 0 o R' r w')
  (h:St o w (RdrAt g B all off err::R)) :
  CallV π Z 157 #[.pointer (some ⟨g,0,none⟩),.int .i64 most,.func (.func f) first.toArray #[]] w fun r w'=>GetsL e ok κ cells Own 2 138 most g B all off err o R r w':=by
 have hoff:=RdrAt.le h
 refine f157.calls ?_
 unfold f157.sh
 refine (rMark Z h).mono fun at_ w1 ⟨hv,hw⟩=>?_
 subst hw
 refine (gInt32 Z h).mono fun r2 w2 hq=>?_
 have hpre:∀ys:List α,Has all off (lsB ys.length (ys.map e))→Has all off (enc 4 (IntKind.i32.wrap ys.length)):=fun ys hh=>hh.left
 rcases hq with ⟨x,⟨hx1,hx2⟩,rfl,hhas,huniq,rfl,hS⟩ | ⟨rfl,hno,off',e',⟨he',_⟩,hS⟩
 case inr=>
  have hbe:(e' == 0)=false:=by simpa using he'
  (try simp only [eqlf_207,condF,o_chk,fa_198_1,Nat.zero_add,cv_21_3,o_lss])
  refine (rOpen Z hS).mono fun r w3 ⟨hr,hw⟩=>?_
  subst hr; subst hw
  (try simp only [hbe,o_not,Bool.not_false,condT])
  exact .inr ⟨by first | rfl | trivial,fun ys hy _ ⟨h0,hh⟩=>hno _ (i32_range _) ⟨h0,hpre ys hh⟩,off',e',he',hS⟩
 rw [enc_length] at hS
 have hle4:=hhas.le hoff
 rw [enc_length] at hle4
 have hlen:∀ys:List α,ys.length≤most→Has all off (lsB ys.length (ys.map e))→(ys.length:Int)=x:=fun ys hy hh=>by
  have:=huniq _ (i32_range _) (hpre ys hh)
  rw [wr_i32 (by omega) (by omega)] at this
  exact this
 have hmi:(most:Int)≤8:=by omega
 (try simp only [eqlf_207,condF,o_chk,fa_198_1,Nat.zero_add,cv_21_3,o_lss])
 rw [wr_i64 (x:=x) (by omega) (by omega)]
 refine (rOpen Z hS).mono fun r w3 ⟨hr,hw⟩=>?_
 subst hr; subst hw
 simp only [beq_self_eq_true]
 by_cases c1:x < 0
 ·(try simp only [c1,decide_true,o_pickT,condT,guardW_tf,o_not,Bool.not_true,condF])
  refine (rBack Z 11 hS hv hoff).mono fun r4 w4 hS=>.inr ⟨by first | rfl | trivial,fun ys hy _ ⟨_,hh⟩=>?_,off,11,by omega,hS⟩
  have:=hlen ys hy hh
  omega
 by_cases c2:(most:Int) < x
 ·(try simp only [c1,decide_false,o_pickF,guardW_ff,o_gtr,c2,decide_true,condT,o_not,Bool.not_true,condF])
  refine (rBack Z 11 hS hv hoff).mono fun r4 w4 hS=>.inr ⟨by first | rfl | trivial,fun ys hy _ ⟨_,hh⟩=>?_,off,11,by omega,hS⟩
  have:=hlen ys hy hh
  omega
 (try simp only [c1,decide_false,o_pickF,guardW_ff,o_gtr,c2,condF,o_not,Bool.not_true])
 obtain ⟨n,rfl⟩:∃n:Nat,x=n:=⟨x.toNat,by omega⟩
 obtain ⟨v,hv5,ho5,hO⟩:=RdrAt.open hS
 refine r_load one43 (hO.at m0 1 rfl) ?_
 obtain ⟨av,cv,rfl,_⟩:=hv5
 by_cases c3:((all.length - (off+4):Nat):Int) < (n:Int)
 ·(try simp only [ln_43_3,o_gtr,c3,decide_true,condT])
  refine (rBack Z 10 hS hv hoff).mono fun r4 w4 hS=>.inr ⟨by first | rfl | trivial,fun ys hy hys ⟨_,hh⟩=>?_,off,10,by omega,hS⟩
  have h3:=hlen ys hy hh
  have h4:=hh.right.le (by rw [enc_length]; omega)
  have h5:=flat_pos h1 ys hys
  rw [enc_length] at h4
  omega
 (try simp only [ln_43_3,o_gtr,c3,decide_false,condF])
 clear hO
 have hb0:Has all off (enc 4 (IntKind.i32.wrap (n:Int))):=by rw [wr_i32 (by omega) (by omega)]; exact hhas
 refine ⟨fun m v y w'=>∃(i:Nat) (xs:List α),y=.int .i64 i∧m+i=n∧xs.length=i∧(∀x ∈ xs,ok x)∧Has all (off+4) ((xs.map e).flatten) ∧
   (∀ys:List α,ys.length≤most→(∀y ∈ ys,ok y)→Has all off (lsB ys.length (ys.map e))→(ys.take i).map κ=xs.map κ) ∧
   St o w' (RdrAt g B all (off+4+((xs.map e).flatten).length) 0::own 138 2 v i (xs.map cells).flatten::satH (xs.map Own)::R),
  ⟨n,0,[],rfl,rfl,rfl,by simp,⟨_,rfl⟩,fun ys _ _ _=>rfl,?_⟩,?_⟩
 ·have h0:St o w3 (satH (([]:List α).map Own)::R)→True:=fun _=>trivial
  exact ((hS.emp.mono fun _ _=>(trivial:satH (([]:List α).map Own) _)).swap.put 0 |> fun hS=>(((hS.swap).own_nil 138 2).pick 2))
 clear hS h
 rintro m v _ w4 ⟨i,xs,rfl,hi,hxl,hok,hhx,hux,hS⟩ _
 subst hxl
 by_cases hlt:(xs.length:Int) < (n:Int)
 ·(try simp only [o_add,o_lss,hlt,decide_true,condT])
  refine r_callVal hf (l1:=first) (l2:=[_]) (l3:=[]) rfl rfl rfl ?_
  refine (hE _ _ _ (List.mem_cons_of_mem _ (List.mem_cons_of_mem _ ho)) hS).mono fun r w5 hq=>?_
  rcases hq with ⟨x,hx,_,hh2,hu2,rfl,hcl,hon,hS⟩ | ⟨⟨zs,rfl,hcl,hon⟩,hno,off',e',he',hS⟩
  ·refine r_alloc hS ze138 fun ge w6 hS=>?_
   refine r_storeN hS ag138 (xs:=cells x) hcl (by rw [Nat.zero_add]; exact Nat.le_refl _) hon fun w7 hS=>?_
   rw [setL_all _ _ (by rw [hcl]; rfl)] at hS
   refine (rOpen Z hS.swap).mono fun r w8 ⟨hr,hw⟩=>?_
   subst hr; subst hw
   simp only [beq_self_eq_true]
   (try simp only [o_not,Bool.not_true,condF])
   refine r_loadN ag138 (xs:=cells x) hcl (hS.cells_at m0 0 (whole_at _)) ?_
   refine r_pushN el45 ((hS.drop).pick 2) (cells x) hcl hon (by omega) (by omega) (by simp only [maxLen]; omega) fun v' w9 hS=>?_
   skip
   rw [wr_i64 (x:=(xs.length:Int)+1) (by omega) (by omega)]
   refine ⟨m - 1,by omega,xs.length+1,xs++[x],rfl,by omega,by simp,?_,?_,?_,?_⟩
   ·intro y hy
    rcases List.mem_append.1 hy with hy | hy
    ·exact hok y hy
    ·rw [List.mem_singleton.1 hy]; exact hx
   ·rw [List.map_append,List.flatten_append]
    exact Has.split.2 ⟨hhx,by simpa using hh2⟩
   ·intro ys hy hys hh
    have hu:=hux ys hy hys hh
    have h3:=hlen ys hy hh
    have hil:xs.length < ys.length:=by omega
    obtain ⟨rest,hr⟩:=flat_split e ys xs.length hil
    have h6:=hh.right
    rw [hr,map_flat hκ _ _ hu,enc_length] at h6
    have h7:=hu2 _ (hys _ (List.getElem_mem hil)) h6.right.left
    rw [List.take_succ_eq_append_getElem hil,List.map_append,List.map_append,hu]
    simp [h7]
   ·have hS:=(((hS.pick 2).pick 3).all_snoc.swap).pick 2
    have e1:((xs++[x]).map e).flatten.length=((xs.map e).flatten).length+(e x).length:=by simp
    have e2:((xs++[x]).map cells).flatten=(xs.map cells).flatten++cells x:=by simp
    have e3:(xs++[x]).map Own=xs.map Own++[Own x]:=by simp
    rw [e1,e2,e3,← Nat.add_assoc]
    exact hS
  ·refine r_alloc hS ze138 fun ge w6 hS=>?_
   refine r_storeN hS ag138 (xs:=zs) hcl (by rw [Nat.zero_add]; exact Nat.le_refl _) hon fun w7 hS=>?_
   have hbe:(e' == 0)=false:=by simpa using he'
   refine (rOpen Z hS.swap).mono fun r w8 ⟨hr,hw⟩=>?_
   subst hr; subst hw
   (try simp only [hbe,o_not,Bool.not_false,condT])
   refine .inr ⟨by first | rfl | trivial,fun ys hy hys ⟨_,hh⟩=>?_,off',e',he',(hS.drop.pick 0).put 0 |> fun hS=>((hS.swap.drop).swap.drop)⟩
   have hu:=hux ys hy hys hh
   have h3:=hlen ys hy hh
   have hil:xs.length < ys.length:=by omega
   obtain ⟨rest,hr⟩:=flat_split e ys xs.length hil
   have h6:=hh.right
   rw [hr,map_flat hκ _ _ hu,enc_length] at h6
   exact hno _ (hys _ (List.getElem_mem hil)) ⟨rfl,h6.right.left⟩
 ·have hn:n=xs.length:=by omega
  subst hn
  (try simp only [o_add,o_lss,hlt,decide_false,condF])
  refine .inl ⟨xs,by omega,hok,by first | rfl | trivial,Has.split.2 ⟨hb0,by rw [enc_length]; exact hhx⟩,fun ys hy hys hh=>?_,?_⟩
  ·have h3:=hlen ys hy hh
   have:=hux ys hy hys hh
   rwa [List.take_of_length_le (by omega)] at this
  ·rw [show off+(lsB xs.length (xs.map e)).length=off+4+((xs.map e).flatten).length by rw [lsB,List.length_append,enc_length]; omega]
   exact hS
theorem gLEn {α β:Type} (e:α→List UInt8) (ok:α→Prop) (κ:α→β) (cells:α→List Value) (Own:α→HProp) (most:Nat) (hm:most≤8) (f:FuncId) (first:List Value) (hf:∀args w,(callFunc f args).run π w=.ok (.enter f args) w)
  (h1:∀x,ok x→1≤(e x).length) (hκ:∀x y,κ x=κ y→e x=e y) (hall:all.length≤140737488355328) (ho:old o ∈ R)
  (hE:∀(w:World) (R':List HProp) (off:Nat),old o ∈ R'→St o w (RdrAt g B all off 0::R')→CallV π Z f (first++[Value.pointer (some ⟨g,0,none⟩)]++[]).toArray w fun r w'=>GetsE e ok κ cells Own 3 g B all off 0 o R' r w')
  (h:St o w (RdrAt g B all off err::R)) :
  CallV π Z 153 #[.pointer (some ⟨g,0,none⟩),.int .i64 most,.func (.func f) first.toArray #[]] w fun r w'=>GetsL e ok κ cells Own 3 140 most g B all off err o R r w':=by
 have hoff:=RdrAt.le h
 refine f153.calls ?_
 unfold f153.sh
 refine (rMark Z h).mono fun at_ w1 ⟨hv,hw⟩=>?_
 subst hw
 refine (gInt32 Z h).mono fun r2 w2 hq=>?_
 have hpre:∀ys:List α,Has all off (lsB ys.length (ys.map e))→Has all off (enc 4 (IntKind.i32.wrap ys.length)):=fun ys hh=>hh.left
 rcases hq with ⟨x,⟨hx1,hx2⟩,rfl,hhas,huniq,rfl,hS⟩ | ⟨rfl,hno,off',e',⟨he',_⟩,hS⟩
 case inr=>
  have hbe:(e' == 0)=false:=by simpa using he'
  (try simp only [eqlf_204,condF,o_chk,fa_198_1,Nat.zero_add,cv_21_3,o_lss])
  refine (rOpen Z hS).mono fun r w3 ⟨hr,hw⟩=>?_
  subst hr; subst hw
  (try simp only [hbe,o_not,Bool.not_false,condT])
  exact .inr ⟨by first | rfl | trivial,fun ys hy _ ⟨h0,hh⟩=>hno _ (i32_range _) ⟨h0,hpre ys hh⟩,off',e',he',hS⟩
 rw [enc_length] at hS
 have hle4:=hhas.le hoff
 rw [enc_length] at hle4
 have hlen:∀ys:List α,ys.length≤most→Has all off (lsB ys.length (ys.map e))→(ys.length:Int)=x:=fun ys hy hh=>by
  have:=huniq _ (i32_range _) (hpre ys hh)
  rw [wr_i32 (by omega) (by omega)] at this
  exact this
 have hmi:(most:Int)≤8:=by omega
 (try simp only [eqlf_204,condF,o_chk,fa_198_1,Nat.zero_add,cv_21_3,o_lss])
 rw [wr_i64 (x:=x) (by omega) (by omega)]
 refine (rOpen Z hS).mono fun r w3 ⟨hr,hw⟩=>?_
 subst hr; subst hw
 simp only [beq_self_eq_true]
 by_cases c1:x < 0
 ·(try simp only [c1,decide_true,o_pickT,condT,guardW_tf,o_not,Bool.not_true,condF])
  refine (rBack Z 11 hS hv hoff).mono fun r4 w4 hS=>.inr ⟨by first | rfl | trivial,fun ys hy _ ⟨_,hh⟩=>?_,off,11,by omega,hS⟩
  have:=hlen ys hy hh
  omega
 by_cases c2:(most:Int) < x
 ·(try simp only [c1,decide_false,o_pickF,guardW_ff,o_gtr,c2,decide_true,condT,o_not,Bool.not_true,condF])
  refine (rBack Z 11 hS hv hoff).mono fun r4 w4 hS=>.inr ⟨by first | rfl | trivial,fun ys hy _ ⟨_,hh⟩=>?_,off,11,by omega,hS⟩
  have:=hlen ys hy hh
  omega
 (try simp only [c1,decide_false,o_pickF,guardW_ff,o_gtr,c2,condF,o_not,Bool.not_true])
 obtain ⟨n,rfl⟩:∃n:Nat,x=n:=⟨x.toNat,by omega⟩
 obtain ⟨v,hv5,ho5,hO⟩:=RdrAt.open hS
 refine r_load one43 (hO.at m0 1 rfl) ?_
 obtain ⟨av,cv,rfl,_⟩:=hv5
 by_cases c3:((all.length - (off+4):Nat):Int) < (n:Int)
 ·(try simp only [ln_43_3,o_gtr,c3,decide_true,condT])
  refine (rBack Z 10 hS hv hoff).mono fun r4 w4 hS=>.inr ⟨by first | rfl | trivial,fun ys hy hys ⟨_,hh⟩=>?_,off,10,by omega,hS⟩
  have h3:=hlen ys hy hh
  have h4:=hh.right.le (by rw [enc_length]; omega)
  have h5:=flat_pos h1 ys hys
  rw [enc_length] at h4
  omega
 (try simp only [ln_43_3,o_gtr,c3,decide_false,condF])
 clear hO
 have hb0:Has all off (enc 4 (IntKind.i32.wrap (n:Int))):=by rw [wr_i32 (by omega) (by omega)]; exact hhas
 refine ⟨fun m v y w'=>∃(i:Nat) (xs:List α),y=.int .i64 i∧m+i=n∧xs.length=i∧(∀x ∈ xs,ok x)∧Has all (off+4) ((xs.map e).flatten) ∧
   (∀ys:List α,ys.length≤most→(∀y ∈ ys,ok y)→Has all off (lsB ys.length (ys.map e))→(ys.take i).map κ=xs.map κ) ∧
   St o w' (RdrAt g B all (off+4+((xs.map e).flatten).length) 0::own 140 3 v i (xs.map cells).flatten::satH (xs.map Own)::R),
  ⟨n,0,[],rfl,rfl,rfl,by simp,⟨_,rfl⟩,fun ys _ _ _=>rfl,?_⟩,?_⟩
 ·have h0:St o w3 (satH (([]:List α).map Own)::R)→True:=fun _=>trivial
  exact ((hS.emp.mono fun _ _=>(trivial:satH (([]:List α).map Own) _)).swap.put 0 |> fun hS=>(((hS.swap).own_nil 140 3).pick 2))
 clear hS h
 rintro m v _ w4 ⟨i,xs,rfl,hi,hxl,hok,hhx,hux,hS⟩ _
 subst hxl
 by_cases hlt:(xs.length:Int) < (n:Int)
 ·(try simp only [o_add,o_lss,hlt,decide_true,condT])
  refine r_callVal hf (l1:=first) (l2:=[_]) (l3:=[]) rfl rfl rfl ?_
  refine (hE _ _ _ (List.mem_cons_of_mem _ (List.mem_cons_of_mem _ ho)) hS).mono fun r w5 hq=>?_
  rcases hq with ⟨x,hx,_,hh2,hu2,rfl,hcl,hon,hS⟩ | ⟨⟨zs,rfl,hcl,hon⟩,hno,off',e',he',hS⟩
  ·refine r_alloc hS ze140 fun ge w6 hS=>?_
   refine r_storeN hS ag140 (xs:=cells x) hcl (by rw [Nat.zero_add]; exact Nat.le_refl _) hon fun w7 hS=>?_
   rw [setL_all _ _ (by rw [hcl]; rfl)] at hS
   refine (rOpen Z hS.swap).mono fun r w8 ⟨hr,hw⟩=>?_
   subst hr; subst hw
   simp only [beq_self_eq_true]
   (try simp only [o_not,Bool.not_true,condF])
   refine r_loadN ag140 (xs:=cells x) hcl (hS.cells_at m0 0 (whole_at _)) ?_
   refine r_pushN el44 ((hS.drop).pick 2) (cells x) hcl hon (by omega) (by omega) (by simp only [maxLen]; omega) fun v' w9 hS=>?_
   skip
   rw [wr_i64 (x:=(xs.length:Int)+1) (by omega) (by omega)]
   refine ⟨m - 1,by omega,xs.length+1,xs++[x],rfl,by omega,by simp,?_,?_,?_,?_⟩
   ·intro y hy
    rcases List.mem_append.1 hy with hy | hy
    ·exact hok y hy
    ·rw [List.mem_singleton.1 hy]; exact hx
   ·rw [List.map_append,List.flatten_append]
    exact Has.split.2 ⟨hhx,by simpa using hh2⟩
   ·intro ys hy hys hh
    have hu:=hux ys hy hys hh
    have h3:=hlen ys hy hh
    have hil:xs.length < ys.length:=by omega
    obtain ⟨rest,hr⟩:=flat_split e ys xs.length hil
    have h6:=hh.right
    rw [hr,map_flat hκ _ _ hu,enc_length] at h6
    have h7:=hu2 _ (hys _ (List.getElem_mem hil)) h6.right.left
    rw [List.take_succ_eq_append_getElem hil,List.map_append,List.map_append,hu]
    simp [h7]
   ·have hS:=(((hS.pick 2).pick 3).all_snoc.swap).pick 2
    have e1:((xs++[x]).map e).flatten.length=((xs.map e).flatten).length+(e x).length:=by simp
    have e2:((xs++[x]).map cells).flatten=(xs.map cells).flatten++cells x:=by simp
    have e3:(xs++[x]).map Own=xs.map Own++[Own x]:=by simp
    rw [e1,e2,e3,← Nat.add_assoc]
    exact hS
  ·refine r_alloc hS ze140 fun ge w6 hS=>?_
   refine r_storeN hS ag140 (xs:=zs) hcl (by rw [Nat.zero_add]; exact Nat.le_refl _) hon fun w7 hS=>?_
   have hbe:(e' == 0)=false:=by simpa using he'
   refine (rOpen Z hS.swap).mono fun r w8 ⟨hr,hw⟩=>?_
   subst hr; subst hw
   (try simp only [hbe,o_not,Bool.not_false,condT])
   refine .inr ⟨by first | rfl | trivial,fun ys hy hys ⟨_,hh⟩=>?_,off',e',he',(hS.drop.pick 0).put 0 |> fun hS=>((hS.swap.drop).swap.drop)⟩
   have hu:=hux ys hy hys hh
   have h3:=hlen ys hy hh
   have hil:xs.length < ys.length:=by omega
   obtain ⟨rest,hr⟩:=flat_split e ys xs.length hil
   have h6:=hh.right
   rw [hr,map_flat hκ _ _ hu,enc_length] at h6
   exact hno _ (hys _ (List.getElem_mem hil)) ⟨rfl,h6.right.left⟩
 ·have hn:n=xs.length:=by omega
  subst hn
  (try simp only [o_add,o_lss,hlt,decide_false,condF])
  refine .inl ⟨xs,by omega,hok,by first | rfl | trivial,Has.split.2 ⟨hb0,by rw [enc_length]; exact hhx⟩,fun ys hy hys hh=>?_,?_⟩
  ·have h3:=hlen ys hy hh
   have:=hux ys hy hys hh
   rwa [List.take_of_length_le (by omega)] at this
  ·rw [show off+(lsB xs.length (xs.map e)).length=off+4+((xs.map e).flatten).length by rw [lsB,List.length_append,enc_length]; omega]
   exact hS
theorem gLRq {α β:Type} (e:α→List UInt8) (ok:α→Prop) (κ:α→β) (cells:α→List Value) (Own:α→HProp) (most:Nat) (hm:most≤8) (f:FuncId) (first:List Value) (hf:∀args w,(callFunc f args).run π w=.ok (.enter f args) w)
  (h1:∀x,ok x→1≤(e x).length) (hκ:∀x y,κ x=κ y→e x=e y) (hall:all.length≤140737488355328) (ho:old o ∈ R)
  (hE:∀(w:World) (R':List HProp) (off:Nat),old o ∈ R'→St o w (RdrAt g B all off 0::R')→CallV π Z f (first++[Value.pointer (some ⟨g,0,none⟩)]++[]).toArray w fun r w'=>GetsE e ok κ cells Own 11 g B all off 0 o R' r w')
  (h:St o w (RdrAt g B all off err::R)) :
  CallV π Z 159 #[.pointer (some ⟨g,0,none⟩),.int .i64 most,.func (.func f) first.toArray #[]] w fun r w'=>GetsL e ok κ cells Own 11 48 most g B all off err o R r w':=by
 have hoff:=RdrAt.le h
 refine f159.calls ?_
 unfold f159.sh
 refine (rMark Z h).mono fun at_ w1 ⟨hv,hw⟩=>?_
 subst hw
 refine (gInt32 Z h).mono fun r2 w2 hq=>?_
 have hpre:∀ys:List α,Has all off (lsB ys.length (ys.map e))→Has all off (enc 4 (IntKind.i32.wrap ys.length)):=fun ys hh=>hh.left
 rcases hq with ⟨x,⟨hx1,hx2⟩,rfl,hhas,huniq,rfl,hS⟩ | ⟨rfl,hno,off',e',⟨he',_⟩,hS⟩
 case inr=>
  have hbe:(e' == 0)=false:=by simpa using he'
  (try simp only [eqlf_149,condF,o_chk,fa_198_1,Nat.zero_add,cv_21_3,o_lss])
  refine (rOpen Z hS).mono fun r w3 ⟨hr,hw⟩=>?_
  subst hr; subst hw
  (try simp only [hbe,o_not,Bool.not_false,condT])
  exact .inr ⟨by first | rfl | trivial,fun ys hy _ ⟨h0,hh⟩=>hno _ (i32_range _) ⟨h0,hpre ys hh⟩,off',e',he',hS⟩
 rw [enc_length] at hS
 have hle4:=hhas.le hoff
 rw [enc_length] at hle4
 have hlen:∀ys:List α,ys.length≤most→Has all off (lsB ys.length (ys.map e))→(ys.length:Int)=x:=fun ys hy hh=>by
  have:=huniq _ (i32_range _) (hpre ys hh)
  rw [wr_i32 (by omega) (by omega)] at this
  exact this
 have hmi:(most:Int)≤8:=by omega
 (try simp only [eqlf_149,condF,o_chk,fa_198_1,Nat.zero_add,cv_21_3,o_lss])
 rw [wr_i64 (x:=x) (by omega) (by omega)]
 refine (rOpen Z hS).mono fun r w3 ⟨hr,hw⟩=>?_
 subst hr; subst hw
 simp only [beq_self_eq_true]
 by_cases c1:x < 0
 ·(try simp only [c1,decide_true,o_pickT,condT,guardW_tf,o_not,Bool.not_true,condF])
  refine (rBack Z 11 hS hv hoff).mono fun r4 w4 hS=>.inr ⟨by first | rfl | trivial,fun ys hy _ ⟨_,hh⟩=>?_,off,11,by omega,hS⟩
  have:=hlen ys hy hh
  omega
 by_cases c2:(most:Int) < x
 ·(try simp only [c1,decide_false,o_pickF,guardW_ff,o_gtr,c2,decide_true,condT,o_not,Bool.not_true,condF])
  refine (rBack Z 11 hS hv hoff).mono fun r4 w4 hS=>.inr ⟨by first | rfl | trivial,fun ys hy _ ⟨_,hh⟩=>?_,off,11,by omega,hS⟩
  have:=hlen ys hy hh
  omega
 (try simp only [c1,decide_false,o_pickF,guardW_ff,o_gtr,c2,condF,o_not,Bool.not_true])
 obtain ⟨n,rfl⟩:∃n:Nat,x=n:=⟨x.toNat,by omega⟩
 obtain ⟨v,hv5,ho5,hO⟩:=RdrAt.open hS
 refine r_load one43 (hO.at m0 1 rfl) ?_
 obtain ⟨av,cv,rfl,_⟩:=hv5
 by_cases c3:((all.length - (off+4):Nat):Int) < (n:Int)
 ·(try simp only [ln_43_3,o_gtr,c3,decide_true,condT])
  refine (rBack Z 10 hS hv hoff).mono fun r4 w4 hS=>.inr ⟨by first | rfl | trivial,fun ys hy hys ⟨_,hh⟩=>?_,off,10,by omega,hS⟩
  have h3:=hlen ys hy hh
  have h4:=hh.right.le (by rw [enc_length]; omega)
  have h5:=flat_pos h1 ys hys
  rw [enc_length] at h4
  omega
 (try simp only [ln_43_3,o_gtr,c3,decide_false,condF])
 clear hO
 have hb0:Has all off (enc 4 (IntKind.i32.wrap (n:Int))):=by rw [wr_i32 (by omega) (by omega)]; exact hhas
 refine ⟨fun m v y w'=>∃(i:Nat) (xs:List α),y=.int .i64 i∧m+i=n∧xs.length=i∧(∀x ∈ xs,ok x)∧Has all (off+4) ((xs.map e).flatten) ∧
   (∀ys:List α,ys.length≤most→(∀y ∈ ys,ok y)→Has all off (lsB ys.length (ys.map e))→(ys.take i).map κ=xs.map κ) ∧
   St o w' (RdrAt g B all (off+4+((xs.map e).flatten).length) 0::own 48 11 v i (xs.map cells).flatten::satH (xs.map Own)::R),
  ⟨n,0,[],rfl,rfl,rfl,by simp,⟨_,rfl⟩,fun ys _ _ _=>rfl,?_⟩,?_⟩
 ·have h0:St o w3 (satH (([]:List α).map Own)::R)→True:=fun _=>trivial
  exact ((hS.emp.mono fun _ _=>(trivial:satH (([]:List α).map Own) _)).swap.put 0 |> fun hS=>(((hS.swap).own_nil 48 11).pick 2))
 clear hS h
 rintro m v _ w4 ⟨i,xs,rfl,hi,hxl,hok,hhx,hux,hS⟩ _
 subst hxl
 by_cases hlt:(xs.length:Int) < (n:Int)
 ·(try simp only [o_add,o_lss,hlt,decide_true,condT])
  refine r_callVal hf (l1:=first) (l2:=[_]) (l3:=[]) rfl rfl rfl ?_
  refine (hE _ _ _ (List.mem_cons_of_mem _ (List.mem_cons_of_mem _ ho)) hS).mono fun r w5 hq=>?_
  rcases hq with ⟨x,hx,_,hh2,hu2,rfl,hcl,hon,hS⟩ | ⟨⟨zs,rfl,hcl,hon⟩,hno,off',e',he',hS⟩
  ·refine r_alloc hS ze48 fun ge w6 hS=>?_
   refine r_storeN hS ag48 (xs:=cells x) hcl (by rw [Nat.zero_add]; exact Nat.le_refl _) hon fun w7 hS=>?_
   rw [setL_all _ _ (by rw [hcl]; rfl)] at hS
   refine (rOpen Z hS.swap).mono fun r w8 ⟨hr,hw⟩=>?_
   subst hr; subst hw
   simp only [beq_self_eq_true]
   (try simp only [o_not,Bool.not_true,condF])
   refine r_loadN ag48 (xs:=cells x) hcl (hS.cells_at m0 0 (whole_at _)) ?_
   refine r_pushN el46 ((hS.drop).pick 2) (cells x) hcl hon (by omega) (by omega) (by simp only [maxLen]; omega) fun v' w9 hS=>?_
   skip
   rw [wr_i64 (x:=(xs.length:Int)+1) (by omega) (by omega)]
   refine ⟨m - 1,by omega,xs.length+1,xs++[x],rfl,by omega,by simp,?_,?_,?_,?_⟩
   ·intro y hy
    rcases List.mem_append.1 hy with hy | hy
    ·exact hok y hy
    ·rw [List.mem_singleton.1 hy]; exact hx
   ·rw [List.map_append,List.flatten_append]
    exact Has.split.2 ⟨hhx,by simpa using hh2⟩
   ·intro ys hy hys hh
    have hu:=hux ys hy hys hh
    have h3:=hlen ys hy hh
    have hil:xs.length < ys.length:=by omega
    obtain ⟨rest,hr⟩:=flat_split e ys xs.length hil
    have h6:=hh.right
    rw [hr,map_flat hκ _ _ hu,enc_length] at h6
    have h7:=hu2 _ (hys _ (List.getElem_mem hil)) h6.right.left
    rw [List.take_succ_eq_append_getElem hil,List.map_append,List.map_append,hu]
    simp [h7]
   ·have hS:=(((hS.pick 2).pick 3).all_snoc.swap).pick 2
    have e1:((xs++[x]).map e).flatten.length=((xs.map e).flatten).length+(e x).length:=by simp
    have e2:((xs++[x]).map cells).flatten=(xs.map cells).flatten++cells x:=by simp
    have e3:(xs++[x]).map Own=xs.map Own++[Own x]:=by simp
    rw [e1,e2,e3,← Nat.add_assoc]
    exact hS
  ·refine r_alloc hS ze48 fun ge w6 hS=>?_
   refine r_storeN hS ag48 (xs:=zs) hcl (by rw [Nat.zero_add]; exact Nat.le_refl _) hon fun w7 hS=>?_
   have hbe:(e' == 0)=false:=by simpa using he'
   refine (rOpen Z hS.swap).mono fun r w8 ⟨hr,hw⟩=>?_
   subst hr; subst hw
   (try simp only [hbe,o_not,Bool.not_false,condT])
   refine .inr ⟨by first | rfl | trivial,fun ys hy hys ⟨_,hh⟩=>?_,off',e',he',(hS.drop.pick 0).put 0 |> fun hS=>((hS.swap.drop).swap.drop)⟩
   have hu:=hux ys hy hys hh
   have h3:=hlen ys hy hh
   have hil:xs.length < ys.length:=by omega
   obtain ⟨rest,hr⟩:=flat_split e ys xs.length hil
   have h6:=hh.right
   rw [hr,map_flat hκ _ _ hu,enc_length] at h6
   exact hno _ (hys _ (List.getElem_mem hil)) ⟨rfl,h6.right.left⟩
 ·have hn:n=xs.length:=by omega
  subst hn
  (try simp only [o_add,o_lss,hlt,decide_false,condF])
  refine .inl ⟨xs,by omega,hok,by first | rfl | trivial,Has.split.2 ⟨hb0,by rw [enc_length]; exact hhx⟩,fun ys hy hys hh=>?_,?_⟩
  ·have h3:=hlen ys hy hh
   have:=hux ys hy hys hh
   rwa [List.take_of_length_le (by omega)] at this
  ·rw [show off+(lsB xs.length (xs.map e)).length=off+4+((xs.map e).flatten).length by rw [lsB,List.length_append,enc_length]; omega]
   exact hS
end
end Go.Proofs.YtbdfhfceffkhgaaGreatDoor


/- What get reads of a request: its form, field by field. -/
set_option linter.unusedVariables false
set_option linter.unusedSimpArgs false
namespace Go.Proofs.YtbdfhfceffkhgaaGreatDoor
open Go.Sh
open Tryz renaming prog → π
def OwF (f:Fl) (vd va vw:Value):HProp:=sep (own 5 1 vd f.data.length (cb f.data)) (sep (own 140 3 va f.acl.length (f.acl.map enC).flatten) (own 138 2 vw f.who.length (f.who.map idC).flatten))
mutual
def OwQ:Rq→HProp
 | .mk f vd va vw vo l=>sep (OwF f vd va vw) (sep (own 48 11 vo l.length (l.map Rq.cells).flatten) (OwS l))
def OwS:List Rq→HProp
 | []=>fun _=>True
 | x::l=>sep (OwQ x) (OwS l)
end
theorem OwS_sat (l:List Rq):OwS l=satH (l.map OwQ):=by
 induction l with
 | nil=>rfl
 | cons x l ih=>
  rw [OwS,ih]
  rfl
theorem OwQ_eq (q:Rq):OwQ q=sep (OwF q.f q.vd q.va q.vw) (sep (own 48 11 q.vo q.ops.length (q.ops.map Rq.cells).flatten) (satH (q.ops.map OwQ))):=by
 cases q with
 | mk f a b c d l=>rw [OwQ,OwS_sat]; rfl
def cut:Nat→Fl→Fl
 | 0,f=>⟨f.kd,[],[],[],0,false,false,0,0,[]⟩
 | 1,f=>⟨f.kd,f.path,[],[],0,false,false,0,0,[]⟩
 | 2,f=>⟨f.kd,f.path,f.data,[],0,false,false,0,0,[]⟩
 | 3,f=>⟨f.kd,f.path,f.data,f.acl,0,false,false,0,0,[]⟩
 | 4,f=>⟨f.kd,f.path,f.data,f.acl,f.ver,false,false,0,0,[]⟩
 | 5,f=>⟨f.kd,f.path,f.data,f.acl,f.ver,f.eph,f.seq,0,0,[]⟩
 | 6,f=>⟨f.kd,f.path,f.data,f.acl,f.ver,f.eph,f.seq,f.ses,0,[]⟩
 | 7,f=>⟨f.kd,f.path,f.data,f.acl,f.ver,f.eph,f.seq,f.ses,f.tmo,[]⟩
 | _,f=>f
def pc (inner:Bool) (f:Fl):Nat→List UInt8
 | 0=>p0 inner f
 | 1=>p1 inner f
 | 2=>p2 inner f
 | 3=>p3 inner f
 | 4=>p4 inner f
 | 5=>p5 inner f
 | 6=>p6 inner f
 | _=>p7 inner f
def pre (inner:Bool) (f:Fl):Nat→List UInt8
 | 0=>enc 1 f.kd
 | i+1=>pre inner f i++pc inner f i
def okc (inner:Bool) (f:Fl):Nat→Prop
 | 0=>if bi inner f 0 then okL 64 f.path else f.path=[]
 | 1=>if bi inner f 1 then okL 96 f.data else f.data=[]
 | 2=>if bi inner f 2 then f.acl.length≤4∧∀x ∈ f.acl,okEn x else f.acl=[]
 | 3=>if bi inner f 3 then -2147483648≤f.ver∧f.ver≤2147483647 else f.ver=0
 | 4=>if bi inner f 4 then True else f.eph=false∧f.seq=false
 | 5=>if bi inner f 5 then -9223372036854775808≤f.ses∧f.ses≤9223372036854775807 else f.ses=0
 | 6=>if bi inner f 6 then -2147483648≤f.tmo∧f.tmo≤2147483647 else f.tmo=0
 | _=>if bi inner f 7 then f.who.length≤4∧∀x ∈ f.who,okId x else f.who=[]
def okTo (inner:Bool) (f:Fl):Nat→Prop
 | 0=>1≤f.kd∧f.kd≤12∧(inner=true→f.kd≤5)
 | i+1=>okTo inner f i∧okc inner f i
def reqI (inner:Bool) (q:Rq):List UInt8:=flB inner q.f++if bi inner q.f 8 then opsB q else []
def okR (inner:Bool) (q:Rq):Prop:=okTo inner q.f 8∧if bi inner q.f 8 then q.ops.length≤8∧∀x ∈ q.ops,okTo true x.f 8∧x.ops=[] else q.ops=[]
def keyQ (q:Rq):Fl × List Fl:=(q.f,q.ops.map Rq.f)
theorem lt8 {i:Nat} (h:i < 8):i=0∨i=1∨i=2∨i=3∨i=4∨i=5∨i=6∨i=7:=by omega
theorem cut_kd (i:Nat) (f:Fl):(cut i f).kd=f.kd:=by
 by_cases h:i < 8
 ·obtain rfl | rfl | rfl | rfl | rfl | rfl | rfl | rfl:=lt8 h <;> rfl
 ·obtain ⟨k,rfl⟩:∃k,i=k+8:=⟨i - 8,by omega⟩
  rfl
theorem cut_bi (inner:Bool) (i j:Nat) (f:Fl):bi inner (cut i f) j=bi inner f j:=by unfold bi; rw [cut_kd]
theorem flB_pre (inner:Bool) (f:Fl):flB inner f=pre inner f 8:=rfl
theorem pre_cut (inner:Bool) (i:Nat) (hi:i < 8) (f:Fl):pre inner (cut i f) i=pre inner f i:=by
 obtain rfl | rfl | rfl | rfl | rfl | rfl | rfl | rfl:=lt8 hi <;> rfl
theorem pre_add (inner:Bool) (f:Fl) (j:Nat):∀k,∃rest,pre inner f (j+k)=pre inner f j++rest
 | 0=>⟨[],by rw [List.append_nil]; rfl⟩
 | k+1=>by
  obtain ⟨rest,h⟩:=pre_add inner f j k
  exact ⟨rest++pc inner f (j+k),by rw [← Nat.add_assoc,pre,h,List.append_assoc]⟩
theorem pre_more (inner:Bool) (f:Fl) (i:Nat) (hi:i < 8):∃rest,pre inner f 8=pre inner f i++(pc inner f i++rest):=by
 obtain ⟨rest,h⟩:=pre_add inner f (i+1) (7 - i)
 have e:pre inner f (i+1)=pre inner f i++pc inner f i:=rfl
 rw [show i+1+(7 - i)=8 by omega,e,List.append_assoc] at h
 exact ⟨rest,h⟩
theorem okTo_le {inner:Bool} {f:Fl} {i j:Nat} (h:okTo inner f j) (hi:i < j):okc inner f i:=by
 induction j with
 | zero=>omega
 | succ j ih=>
  by_cases e:i=j
  ·subst e; exact h.2
  ·exact ih h.1 (by omega)
theorem okTo_kd {inner:Bool} {f:Fl} {j:Nat} (h:okTo inner f j):1≤f.kd∧f.kd≤12∧(inner=true→f.kd≤5):=by
 induction j with
 | zero=>exact h
 | succ j ih=>exact ih h.1
theorem piece_at {inner:Bool} {all:List UInt8} {off i:Nat} {f:Fl} {y:Rq} (hi:i < 8) (hc:cut i y.f=f) (h:Has all off (reqI inner y)):Has all (off+(pre inner f i).length) (pc inner y.f i):=by
 have h1:=h.left
 rw [flB_pre] at h1
 obtain ⟨rest,hr⟩:=pre_more inner y.f i hi
 rw [hr] at h1
 have h2:=h1.right.left
 rwa [← pre_cut inner i hi,hc] at h2
theorem cut_skip {inner:Bool} {f:Fl} {i:Nat} (hi:i < 8) (hb:bi inner f i=false) (h:okc inner f i):cut (i+1) f=cut i f:=by
 obtain rfl | rfl | rfl | rfl | rfl | rfl | rfl | rfl:=lt8 hi
 all_goals simp only [okc,hb,Bool.false_eq_true,if_false] at h
 all_goals cases f; simp_all [cut]
theorem okc_zero {inner:Bool} {f:Fl} {i:Nat} (hi:i < 8) (hb:bi inner f i=false) (h:cut i f=f):okc inner f i:=by
 obtain rfl | rfl | rfl | rfl | rfl | rfl | rfl | rfl:=lt8 hi
 all_goals simp only [okc,hb,Bool.false_eq_true,if_false]
 all_goals rw [← h]; first | rfl | exact ⟨rfl,rfl⟩
theorem pc_skip {inner:Bool} {f:Fl} {i:Nat} (hi:i < 8) (hb:bi inner f i=false):pc inner f i=[]:=by
 obtain rfl | rfl | rfl | rfl | rfl | rfl | rfl | rfl:=lt8 hi
 all_goals simp [pc,p0,p1,p2,p3,p4,p5,p6,p7,hb]
section
variable {o w:World} {R:List HProp} {g g2:Nat} {B:Option Nat} {all:List UInt8} {off:Nat} {err:Int} {inner:Bool} {kd:Int}
def Sg (inner:Bool) (kd:Int) (g g2:Nat) (B:Option Nat) (all:List UInt8) (off:Nat) (o:World) (R:List HProp) (i:Nat) (w:World):Prop:=
 (∃f vd va vw,f.kd=kd∧cut i f=f∧okTo inner f i∧Has all off (pre inner f i)∧(∀y,okR inner y→Has all off (reqI inner y)→cut i y.f=f) ∧
  St o w (RdrAt g B all (off+(pre inner f i).length) 0::blk g2 48 (rqC f vd va vw (.slice none 0 0))::OwF f vd va vw::R)) ∨
 ((∀y,okR inner y→¬ Has all off (reqI inner y))∧∃off' e' xs,e' ≠ 0∧xs.length=11∧ones xs∧St o w (RdrAt g B all off' e'::blk g2 48 xs::R))
theorem Sg.skip {i:Nat} (hi:i < 8) {f0:Fl} (hf:f0.kd=kd) (hb:bi inner f0 i=false) (h:Sg inner kd g g2 B all off o R i w):Sg inner kd g g2 B all off o R (i+1) w:=by
 have hbk:∀f:Fl,f.kd=kd→bi inner f i=false:=fun f hk=>by
  have:bi inner f i=bi inner f0 i:=by unfold bi; rw [hk,hf]
  rw [this]; exact hb
 rcases h with ⟨f,vd,va,vw,hk,hc,hok,hh,hu,hS⟩ | hbad
 ·have hb1:=hbk f hk
  have hoc:=okc_zero hi hb1 hc
  have hp:=pc_skip hi hb1
  refine .inl ⟨f,vd,va,vw,hk,by rw [cut_skip hi hb1 hoc,hc],⟨hok,hoc⟩,?_,fun y hy hhy=>?_,?_⟩
  ·rw [pre,hp,List.append_nil]; exact hh
  ·have h1:=hu y hy hhy
   have hky:y.f.kd=kd:=by rw [← hk,← h1,cut_kd]
   rw [cut_skip hi (hbk _ hky) (okTo_le hy.1 hi),h1]
  ·rw [pre,hp,List.append_nil]; exact hS
 ·exact .inr hbad
theorem OwF.data {f:Fl} {vd va vw v:Value} {k:List UInt8} (h:St o w (own 5 1 v k.length (cb k)::OwF f vd va vw::R)):St o w (OwF { f with data:=k } v va vw::R):=by
 have h1:=(h.swap.sep.drop).swap
 exact h1.sep_intro
theorem OwF.acl {f:Fl} {vd va vw v:Value} {k:List En} (h:St o w (own 140 3 v k.length (k.map enC).flatten::OwF f vd va vw::R)):St o w (OwF { f with acl:=k } vd v vw::R):=by
 have h1:=h.swap.sep.swap.sep.drop
 have h2:St o w (own 140 3 v k.length (k.map enC).flatten::own 138 2 vw f.who.length (f.who.map idC).flatten::own 5 1 vd f.data.length (cb f.data)::R):=h1.pick 2
 exact h2.sep_intro.swap.sep_intro
theorem OwF.who {f:Fl} {vd va vw v:Value} {k:List Idd} (h:St o w (own 138 2 v k.length (k.map idC).flatten::OwF f vd va vw::R)):St o w (OwF { f with who:=k } vd va v::R):=by
 have h1:=h.swap.sep.swap.sep.swap.drop
 have h2:St o w (own 140 3 va f.acl.length (f.acl.map enC).flatten::own 138 2 v k.length (k.map idC).flatten::own 5 1 vd f.data.length (cb f.data)::R):=(h1.pick 2).swap
 exact h2.sep_intro.swap.sep_intro
theorem OwF.plain (kd:Int) (h:St o w R):St o w (OwF (cut 0 ⟨kd,[],[],[],0,false,false,0,0,[]⟩) (.slice none 0 0) (.slice none 0 0) (.slice none 0 0)::R):=by
 have h1:=((h.own_nil 138 2).own_nil 140 3).sep_intro.own_nil 5 1
 exact h1.sep_intro
theorem OwF.rd {f:Fl} {vd va vw:Value} (h:St o w (OwF f vd va vw::R)):RdF w f vd va vw:=by
 have h1:=h.sep
 have h2:=h1.swap.sep
 exact ⟨h1.own_rd m0,h2.own_rd m0,h2.own_rd m1⟩
theorem OwQ.rd (q:Rq):∀{R:List HProp},St o w (OwQ q::R)→RdQ w q:=by
 induction q using Rq.ind with | h q ih=>?_
 intro R h
 rw [OwQ_eq] at h
 have h1:=h.sep
 have h2:=h1.swap.sep
 refine .mk q (OwF.rd h1) (h2.own_rd m0) fun x hx=>?_
 obtain ⟨As,Bs,e⟩:=List.append_of_mem hx
 have h3:=h2.swap
 rw [e,List.map_append,List.map_cons] at h3
 exact ih x hx h3.all_out
end
end Go.Proofs.YtbdfhfceffkhgaaGreatDoor


/- get: what is read of a request; Read. -/
set_option linter.unusedVariables false
set_option linter.unusedSimpArgs false
namespace Go.Proofs.YtbdfhfceffkhgaaGreatDoor
open Go.Sh
open Tryz renaming prog → π
theorem okTo_cut (inner:Bool) (i:Nat) (hi:i < 8) (f:Fl):okTo inner (cut i f) i=okTo inner f i:=by
 obtain rfl | rfl | rfl | rfl | rfl | rfl | rfl | rfl:=lt8 hi <;> rfl
theorem good_step {inner:Bool} {all:List UInt8} {off:Nat} {i:Nat} (hi:i < 8) {f f':Fl} (hcf:cut i f'=f) (hok:okTo inner f i) (hokc:okc inner f' i) (hh:Has all off (pre inner f i)) (hpc:Has all (off+(pre inner f i).length) (pc inner f' i))
  (hu:∀y,okR inner y→Has all off (reqI inner y)→cut i y.f=f) (hu2:∀y,okR inner y→cut i y.f=f→Has all (off+(pre inner f i).length) (pc inner y.f i)→cut (i+1) y.f=f') :
  okTo inner f' (i+1)∧Has all off (pre inner f' (i+1))∧(∀y,okR inner y→Has all off (reqI inner y)→cut (i+1) y.f=f')∧off+(pre inner f' (i+1)).length=off+(pre inner f i).length+(pc inner f' i).length:=by
 have hp:pre inner f' i=pre inner f i:=by rw [← pre_cut inner i hi f',hcf]
 refine ⟨⟨?_,hokc⟩,?_,fun y hy hhy=>hu2 y hy (hu y hy hhy) ?_,?_⟩
 ·rw [← okTo_cut inner i hi f',hcf]; exact hok
 ·rw [pre,hp]; exact Has.split.2 ⟨hh,hpc⟩
 ·exact piece_at hi (hu y hy hhy) hhy
 ·rw [pre,hp,List.length_append]; omega
def okK (inner:Bool) (kd:Int):Bool:=(decide (1≤kd∧kd≤12)) && !(inner && decide (5 < kd))
def zf:Fl:=⟨0,[],[],[],0,false,false,0,0,[]⟩
def kf (kd:Int):Fl:=⟨kd,[],[],[],0,false,false,0,0,[]⟩
theorem rqC_ones {f:Fl} {vd va vw vo:Value} (h1:vd.oneCell'=true) (h2:va.oneCell'=true) (h3:vw.oneCell'=true) (h4:vo.oneCell'=true):ones (rqC f vd va vw vo):=by
 intro u hu
 simp only [rqC,List.mem_cons,List.not_mem_nil,or_false] at hu
 rcases hu with rfl | rfl | rfl | rfl | rfl | rfl | rfl | rfl | rfl | rfl | rfl <;> first | assumption | rfl
theorem ones_set {xs:List Value} {i:Nat} {v:Value} (h:ones xs) (hv:v.oneCell'=true):ones (xs.set i v):=by
 intro u hu
 rcases List.mem_or_eq_of_mem_set hu with hu | rfl
 ·exact h u hu
 ·exact hv
theorem okTo_ops {q:Rq} (h:okR true q):q.ops=[]∧reqI true q=opB q:=by
 have hk:=okTo_kd h.1
 have h8:=bi8 q.f ⟨by omega,hk.2.2 rfl⟩
 have h2:=h.2
 rw [h8] at h2
 refine ⟨by simpa using h2,?_⟩
 unfold reqI
 rw [h8]
 simp [opB]
theorem keyQ_bytes {inner:Bool} (x y:Rq) (h:keyQ x=keyQ y):reqI inner x=reqI inner y:=by
 have h1:x.f=y.f:=congrArg Prod.fst h
 have h2:x.ops.map Rq.f=y.ops.map Rq.f:=congrArg Prod.snd h
 have hl:x.ops.length=y.ops.length:=by have:=congrArg List.length h2; simpa using this
 have h3:x.ops.map opB=y.ops.map opB:=by
  have:∀l:List Rq,l.map opB=(l.map Rq.f).map (flB true):=fun l=>by rw [List.map_map]; rfl
  rw [this,this,h2]
 unfold reqI opsB
 rw [h1,hl,h3]
theorem okR_of {x:Rq} (h:okTo true x.f 8∧x.ops=[]):okR true x:=by
 have hk:=okTo_kd h.1
 refine ⟨h.1,?_⟩
 rw [bi8 x.f ⟨by omega,hk.2.2 rfl⟩]
 simpa using h.2
theorem opsB_req {q:Rq} (h:∀x ∈ q.ops,okR true x):opsB q=lsB q.ops.length (q.ops.map (reqI true)):=by
 unfold opsB
 rw [List.map_congr_left fun x hx=>(okTo_ops (h x hx)).2.symm]
theorem enB_pos (x:En) (_:okEn x):1≤(enB x).length:=by rw [enB,List.length_append,enc_length]; omega
theorem idB_pos (x:Idd) (_:okId x):1≤(idB x).length:=by rw [idB,List.length_append,encL_len]; omega
theorem reqI_pos (inner:Bool) (x:Rq) (_:okR inner x):1≤(reqI inner x).length:=by
 simp only [reqI,flB,List.length_append,enc_length]; omega
def Sq (inner:Bool) (g g2:Nat) (B:Option Nat) (all:List UInt8) (off:Nat) (o:World) (R:List HProp) (w:World):Prop:=
 (∃q,okR inner q∧Has all off (reqI inner q)∧(∀y,okR inner y→Has all off (reqI inner y)→keyQ y=keyQ q)∧St o w (RdrAt g B all (off+(reqI inner q).length) 0::blk g2 48 q.cells::OwQ q::R)) ∨
 ((∀y,okR inner y→¬ Has all off (reqI inner y))∧∃off' e' xs,e' ≠ 0∧xs.length=11∧ones xs∧St o w (RdrAt g B all off' e'::blk g2 48 xs::R))
section
variable (Z:PZ) {o w:World} {R As:List HProp} {g:Nat} {B:Option Nat} {all:List UInt8} {off:Nat} {err:Int}
theorem kindW (inner:Bool) (kd:Int) {gl g5:Nat} {xs:List Value} {K:PQ} (hS:St o w As) (h5:blk g5 48 xs ∈ As) (hl:blk gl 148 [.bool inner] ∈ As) (hx:xs[0]? = some (.int .i8 kd)) (hk:K (.bool (!okK inner kd)) w) :
  CallV π Z 112 #[.int .i8 kd] w fun t12 w=>rN π Z (Op.unary .not t12) w fun t13 w=>
   gW t13 false (fun k=>k (.pointer (some ⟨gl,0,none⟩)) w) (fun t15 w=>gW t13 false (fun k=>rN π Z (Instr.loadAt 4 t15) w k) (fun t16 w=>
   gW t13 false (fun k=>k t16 w) (fun t17 w=>gW t17 true (fun k=>k (.pointer (some ⟨g5,0,none⟩)) w) (fun t18 w=>
   gW t17 true (fun k=>rN π Z (Instr.loadAt 40 t18) w k) (fun t19 w=>gW t17 true (fun k=>rN π Z (binOp .gtr 40 t19 (.int .i8 5)) w k) (fun t20 w=>
   gW t13 false (fun k=>rN π Z (pickV t17 t20 (.bool false)) w k) (fun t21 w=>rN π Z (pickV t13 (.bool true) t21) w fun t22 w=>K t22 w) w) w) w) w) w) w) w:=by
 refine (known Z kd).mono fun r w2 ⟨hr,hw⟩=>?_
 subst hr; subst hw
 by_cases h1:1≤kd∧kd≤12
 ·rw [decide_eq_true h1]
  (try simp only [o_not,Bool.not_true,o_pickF,guardW_ff])
  refine r_load one4 (hS.at hl 0 rfl) ?_
  cases inner with
  | true=>
   (try simp only [o_pickT,guardW_true])
   refine r_load one40 (hS.at h5 0 hx) ?_
   (try simp only [o_gtr])
   have e:okK true kd=!decide (5 < kd):=by unfold okK; rw [decide_eq_true h1]; rfl
   rw [e,Bool.not_not] at hk
   exact hk
  | false=>
   (try simp only [o_pickF,guardW_ft])
   have e:okK false kd=true:=by unfold okK; rw [decide_eq_true h1]; rfl
   rw [e] at hk
   exact hk
 ·rw [decide_eq_false h1]
  (try simp only [o_not,Bool.not_false,o_pickT,guardW_tf,guardW_u])
  have e:okK inner kd=false:=by unfold okK; rw [decide_eq_false h1]; rfl
  rw [e] at hk
  exact hk
theorem getG (inner:Bool) (hN:Names o) (ho:old o ∈ R) (hall:all.length≤140737488355328)
  (hP:∀(w:World) (R':List HProp) (off':Nat) (err':Int),old o ∈ R'→St o w (RdrAt g B all off' err'::R')→inner=false →
   CallV π Z 159 #[.pointer (some ⟨g,0,none⟩),.int .i64 8,.func (.func 100) #[.agg #[.bool true]] #[]] w fun r w'=>GetsL (reqI true) (okR true) keyQ Rq.cells OwQ 11 48 8 g B all off' err' o R' r w')
  (h:St o w (RdrAt g B all off err::R)) :
  CallV π Z 100 #[.agg #[.bool inner],.pointer (some ⟨g,0,none⟩)] w fun r w'=>GetsE (reqI inner) (okR inner) keyQ Rq.cells OwQ 11 g B all off err o R r w':=by
 refine f100.calls ?_
 unfold f100.sh
 refine r_box _ _ h fun gl w1 hS=>?_
 refine r_alloc hS ze48 fun g4 w2 hS=>?_
 have hS:St o w2 (blk g4 48 (rqC zf (.slice none 0 0) (.slice none 0 0) (.slice none 0 0) (.slice none 0 0))::blk gl 148 [.bool inner]::RdrAt g B all off err::R):=hS
 refine (gInt8 Z (hS.pick 2)).mono fun r w3 hq=>?_
 have hc:∃(kd:Int) (off':Nat) (e':Int),r=.int .i8 kd∧(e'=0→err=0∧off'=off+1∧Has all off (enc 1 kd)∧∀y:Int,-128≤y∧y≤127→Has all off (enc 1 y)→y=kd)∧(e' ≠ 0→kd=0∧∀y:Int,-128≤y∧y≤127→¬ (err=0∧Has all off (enc 1 y))) ∧
   St o w3 (RdrAt g B all off' e'::blk g4 48 (rqC zf (.slice none 0 0) (.slice none 0 0) (.slice none 0 0) (.slice none 0 0))::blk gl 148 [.bool inner]::R):=by
  rcases hq with ⟨x,hx,he,hh,hu,hr,hS⟩ | ⟨hr,hno,off',e',⟨he',_⟩,hS⟩
  ·exact ⟨x,_,0,hr,fun _=>⟨he,rfl,hh,hu⟩,fun h=>absurd rfl h,hS⟩
  ·exact ⟨0,off',e',hr,fun h=>absurd h he',fun _=>⟨rfl,hno⟩,hS⟩
 obtain ⟨kd,off1,e1,rfl,hgood,hbad,hS⟩:=hc
 clear hq h
 refine r_build (cells:=(rqC (kf kd) (.slice none 0 0) (.slice none 0 0) (.slice none 0 0) (.slice none 0 0)).toArray) (by kernel_rfl) ?_
 refine r_alloc hS ze48 fun g5 w4 hS=>?_
 refine r_storeN hS ag48 (xs:=rqC (kf kd) (.slice none 0 0) (.slice none 0 0) (.slice none 0 0) (.slice none 0 0)) rfl (show 0+11≤11 from Nat.le_refl _) (rqC_ones rfl rfl rfl rfl) fun w5 hS=>?_
 rw [setL_all _ _ (by rfl)] at hS
 have hS:=hS.swap
 (try simp only [fa_148_0,Nat.add_zero,fa_48_0,fa_48_10,Nat.zero_add,o_fn,fa_48_9,fa_48_8,fa_48_7,fa_48_6,fa_48_5,fa_48_4,fa_48_3,fa_48_2,fa_48_1])
 refine r_load one40 (hS.at m1 0 rfl) ?_
 refine kindW Z inner kd hS m1 m3 rfl ?_
 refine cond_or (fun hno=>?_) (fun hyes=>?_)
 ·have hno:okK inner kd=false:=by simpa using hno
  refine (rFail Z 40 hS).mono fun r w6 hS=>?_
  refine r_build (cells:=(rqC zf (.slice none 0 0) (.slice none 0 0) (.slice none 0 0) (.slice none 0 0)).toArray) (by kernel_rfl) ?_
  refine r_storeN (hS.pick 2) ag48 (xs:=rqC zf (.slice none 0 0) (.slice none 0 0) (.slice none 0 0) (.slice none 0 0)) rfl (show 0+11≤11 from Nat.le_refl _) (rqC_ones rfl rfl rfl rfl) fun w7 hS=>?_
  rw [setL_all _ _ (by rfl)] at hS
  refine r_resN ag48 (xs:=rqC zf (.slice none 0 0) (.slice none 0 0) (.slice none 0 0) (.slice none 0 0)) rfl (hS.cells_at m0 0 (whole_at _)) ?_
  refine .inr ⟨⟨_,rfl,rfl,rqC_ones rfl rfl rfl rfl⟩,fun y hy ⟨h0,hh⟩=>?_,off1,_,?_,(hS.drop.swap.drop).swap.drop⟩
  ·have hky:=okTo_kd hy.1
   have hhk:Has all off (enc 1 y.f.kd):=by
    have h1:=hh.left
    rw [flB_pre] at h1
    obtain ⟨rest,hr⟩:=pre_add inner y.f 0 8
    rw [show 0+8=8 from rfl] at hr
    rw [hr] at h1
    exact h1.left
   by_cases he:e1=0
   ·obtain ⟨_,_,_,hu⟩:=hgood he
    have:=hu y.f.kd (by omega) hhk
    rw [← this] at hno
    unfold okK at hno
    rw [decide_eq_true ⟨hky.1,hky.2.1⟩] at hno
    cases inner with
    | false=>simp at hno
    | true=>
     have:=hky.2.2 rfl
     simp at hno
     omega
   ·exact (hbad he).2 y.f.kd (by omega) ⟨h0,hhk⟩
  ·by_cases he:e1=0
   ·rw [if_pos he]; omega
   ·rw [if_neg he]; exact he
 have hyes:okK inner kd=true:=by simpa using hyes
 have hkk:1≤kd∧kd≤12∧(inner=true→kd≤5):=by
  unfold okK at hyes
  simp only [Bool.and_eq_true,decide_eq_true_eq,Bool.not_eq_true',Bool.and_eq_false_iff,decide_eq_false_iff_not] at hyes
  refine ⟨hyes.1.1,hyes.1.2,fun hi=>?_⟩
  rcases hyes.2 with h | h
  ·rw [hi] at h; cases h
  ·omega
 have he1:e1=0:=by
  by_cases he:e1=0
  ·exact he
  ·have:=(hbad he).1; omega
 obtain ⟨herr,hoff1,hhk,huk⟩:=hgood he1
 subst he1; subst herr; subst hoff1
 clear hgood hbad hyes
 refine r_loadN ag148 (xs:=[.bool inner]) rfl (hS.cells_at m3 0 (whole_at _)) ?_
 refine r_load one40 (hS.at m1 0 rfl) ?_
 refine (fields Z inner kd ⟨by omega,by omega⟩ hN (List.mem_cons_of_mem _ (List.mem_cons_of_mem _ (List.mem_cons_of_mem _ (List.mem_cons_of_mem _ ho)))) hS).mono fun r w6 ⟨hr,hS⟩=>?_
 subst hr
 have hn:=nmF_lt inner kd.toNat
 have hbit:∀(i:Nat) (b:Int) (w:World) (kk:PQ),i≤8→b=((2 ^ i:Nat):Int)→kk (.bool (bi inner (kf kd) i)) w→rN π Z (binOp .and 131 (.int .u64 (nmF inner kd.toNat)) (.int .u64 b)) w fun x w=>rN π Z (eqOp .neq 131 false true x (.int .u64 0)) w kk:=by
  intro i b w kk hi hb hk
  refine r1 (run_and _ _ _ _ _ _) (r1 (run_neq_int _ _ _ _ _ _ _ _) ?_)
  rw [bit_int _ i hn hi b hb]
  exact hk
 have ho':old o ∈ (blk g4 48 (rqC zf (.slice none 0 0) (.slice none 0 0) (.slice none 0 0) (.slice none 0 0))::blk gl 148 [.bool inner]::R):=List.mem_cons_of_mem _ (List.mem_cons_of_mem _ ho)
 have hG:Sg inner kd g g5 B all off o (blk g4 48 (rqC zf (.slice none 0 0) (.slice none 0 0) (.slice none 0 0) (.slice none 0 0))::blk gl 148 [.bool inner]::R) 0 w6:=by
  refine .inl ⟨kf kd,.slice none 0 0,.slice none 0 0,.slice none 0 0,rfl,rfl,hkk,hhk,fun y hy hh=>?_,(OwF.plain kd hS).put 2⟩
  have hky:=okTo_kd hy.1
  have h1:=hh.left
  rw [flB_pre] at h1
  obtain ⟨rest,hr⟩:=pre_add inner y.f 0 8
  rw [show 0+8=8 from rfl] at hr
  rw [hr] at h1
  have:=huk y.f.kd (by omega) h1.left
  show kf y.f.kd=kf kd
  rw [this]
 clear hS hhk huk
 intro j0 hj0
 have H0:∀w',Sg inner kd g g5 B all off o (blk g4 48 (rqC zf (.slice none 0 0) (.slice none 0 0) (.slice none 0 0) (.slice none 0 0))::blk gl 148 [.bool inner]::R) 1 w'→j0 w':=by
  intro w' hG
  refine hj0 w' fun _=>?_
  clear hj0
  intro j1 hj1
  have H1:∀w',Sg inner kd g g5 B all off o (blk g4 48 (rqC zf (.slice none 0 0) (.slice none 0 0) (.slice none 0 0) (.slice none 0 0))::blk gl 148 [.bool inner]::R) 2 w'→j1 w':=by
   intro w' hG
   refine hj1 w' fun _=>?_
   clear hj1
   intro j2 hj2
   have H2:∀w',Sg inner kd g g5 B all off o (blk g4 48 (rqC zf (.slice none 0 0) (.slice none 0 0) (.slice none 0 0) (.slice none 0 0))::blk gl 148 [.bool inner]::R) 3 w'→j2 w':=by
    intro w' hG
    refine hj2 w' fun _=>?_
    clear hj2
    intro j3 hj3
    have H3:∀w',Sg inner kd g g5 B all off o (blk g4 48 (rqC zf (.slice none 0 0) (.slice none 0 0) (.slice none 0 0) (.slice none 0 0))::blk gl 148 [.bool inner]::R) 4 w'→j3 w':=by
     intro w' hG
     refine hj3 w' fun _=>?_
     clear hj3
     intro j4 hj4
     have H4:∀w',Sg inner kd g g5 B all off o (blk g4 48 (rqC zf (.slice none 0 0) (.slice none 0 0) (.slice none 0 0) (.slice none 0 0))::blk gl 148 [.bool inner]::R) 5 w'→j4 w':=by
      intro w' hG
      refine hj4 w' fun _=>?_
      clear hj4
      intro j5 hj5
      have H5:∀w',Sg inner kd g g5 B all off o (blk g4 48 (rqC zf (.slice none 0 0) (.slice none 0 0) (.slice none 0 0) (.slice none 0 0))::blk gl 148 [.bool inner]::R) 6 w'→j5 w':=by
       intro w' hG
       refine hj5 w' fun _=>?_
       clear hj5
       intro j6 hj6
       have H6:∀w',Sg inner kd g g5 B all off o (blk g4 48 (rqC zf (.slice none 0 0) (.slice none 0 0) (.slice none 0 0) (.slice none 0 0))::blk gl 148 [.bool inner]::R) 7 w'→j6 w':=by
        intro w' hG
        refine hj6 w' fun _=>?_
        clear hj6
        intro j7 hj7
        have H7:∀w',Sg inner kd g g5 B all off o (blk g4 48 (rqC zf (.slice none 0 0) (.slice none 0 0) (.slice none 0 0) (.slice none 0 0))::blk gl 148 [.bool inner]::R) 8 w'→j7 w':=by
         intro w' hG
         refine hj7 w' fun _=>?_
         clear hj7
         intro j8 hj8
         have H8:∀w',Sq inner g g5 B all off o (blk g4 48 (rqC zf (.slice none 0 0) (.slice none 0 0) (.slice none 0 0) (.slice none 0 0))::blk gl 148 [.bool inner]::R) w'→j8 w':=by
          intro w' hq
          refine hj8 w' fun _=>?_
          clear hj8
          have fin:∀(xs:List Value) (As:List HProp) (Q:PQ),xs.length=11→ones xs→St o w' (blk g5 48 xs::blk g4 48 (rqC zf (.slice none 0 0) (.slice none 0 0) (.slice none 0 0) (.slice none 0 0))::As)→(∀w2,St o w2 As→Q (.agg xs.toArray) w2) →
            rN π Z (Instr.loadAt 48 (.pointer (some ⟨g5,0,none⟩))) w' fun t9 w=>rO π Z (Instr.storeAt 48 (.pointer (some ⟨g4,0,none⟩)) t9) w fun w=>
             ∃r,(do loadVar 48 (← asAddr (.pointer (some ⟨g4,0,none⟩))):Sem Value).run π w=.ok r w∧Q r w:=by
           intro xs As Q hl hon hS hQ
           refine r_loadN ag48 (xs:=xs) hl (hS.cells_at m0 0 (whole_at _)) ?_
           refine r_storeN hS.swap ag48 (xs:=xs) hl (show 0+11≤11 from Nat.le_refl _) hon fun w2 hS=>?_
           rw [setL_all _ _ (by rw [hl]; rfl)] at hS
           exact r_resN ag48 (xs:=xs) hl (hS.cells_at m0 0 (whole_at _)) (hQ _ hS.drop.drop)
          rcases hq with ⟨q,hok,hh,hu,hS⟩ | ⟨hno,off',e',xs,he',hxl,hxo,hS⟩
          ·have hqo:=(OwQ.rd q (hS.pick 2)).ones
           exact fin q.cells _ _ rfl hqo (((hS.pick 3).pick 2)) fun w2 hS=>.inl ⟨q,hok,rfl,hh,hu,rfl,rfl,hqo,(((hS.pick 2).drop).put 0)⟩
          ·exact fin xs _ _ hxl hxo ((hS.pick 2).pick 2) fun w2 hS=>.inr ⟨⟨xs,rfl,hxl,hxo⟩,fun y hy ⟨_,hh⟩=>hno y hy hh,off',e',he',hS.swap.drop⟩
         clear hj8
         refine hbit 8 _ _ _ (by omega) rfl ?_
         have hb8f:∀f:Fl,f.kd=kd→bi inner f 8=bi inner (kf kd) 8:=fun f hf=>by unfold bi; rw [hf]; rfl
         cases hb8:bi inner (kf kd) 8 with
         | false=>
          (try simp only [condF])
          refine H8 _ ?_
          rcases hG with ⟨f,vd,va,vw,hfk,hcut,hok,hh,hu,hS⟩ | hbad
          ·have hf8:bi inner f 8=false:=by rw [hb8f f hfk]; exact hb8
           refine .inl ⟨.mk f vd va vw (.slice none 0 0) [],⟨hok,by show (if bi inner f 8 then _ else _); rw [hf8]; rfl⟩,?_,fun y hy hhy=>?_,?_⟩
           ·show Has all off (flB inner f++if bi inner f 8 then _ else _)
            rw [hf8]
            simpa [flB_pre] using hh
           ·have hyf:y.f=f:=hu y hy hhy
            have h2:=hy.2
            rw [hyf,hf8] at h2
            have h3:y.ops=[]:=by simpa using h2
            unfold keyQ
            rw [hyf,h3]
            rfl
           ·have e9:reqI inner (.mk f vd va vw (.slice none 0 0) [])=pre inner f 8:=by
             show flB inner f++(if bi inner f 8 then _ else _)=_
             rw [hf8]; simp [flB_pre]
            rw [e9,OwQ_eq]
            have h1:=((hS.pick 2).emp.mono fun _ _=>(trivial:satH (([]:List Rq).map OwQ) _)).own_nil 48 11
            exact h1.sep_intro.swap.sep_intro.put 2
          ·exact .inr hbad
         | true=>
          (try simp only [condT])
          have hin:inner=false:=by
           cases hi:inner with
           | false=>rfl
           | true=>
            have:=bi8 (kf kd) ⟨(by show 0≤kd; omega),hkk.2.2 hi⟩
            rw [hi,this] at hb8
            cases hb8
          refine r_build (cells:=#[.bool true]) (by kernel_rfl) ?_
          skip
          rcases hG with ⟨f,vd,va,vw,hfk,hcut,hok,hh,hu,hS⟩ | ⟨hno,off',e',xs,he',hxl,hxo,hS⟩
          ·have hf8:bi inner f 8=true:=by rw [hb8f f hfk]; exact hb8
           have hrd:=OwF.rd (hS.pick 2)
           have hro:=rqC_ones (f:=f) (Rd.one hrd.data) (Rd.one hrd.acl) (Rd.one hrd.who) (vo:=.slice none 0 0) rfl
           have hyo:∀y,okR inner y→Has all off (reqI inner y)→y.ops.length≤8∧(∀x ∈ y.ops,okR true x)∧Has all (off+(pre inner f 8).length) (lsB y.ops.length (y.ops.map (reqI true))):=by
            intro y hy hhy
            have hyf:y.f=f:=hu y hy hhy
            have h2:=hy.2
            rw [hyf,hf8] at h2
            have h2:y.ops.length≤8∧∀x ∈ y.ops,okTo true x.f 8∧x.ops=[]:=by simpa using h2
            have h3:∀x ∈ y.ops,okR true x:=fun x hx=>okR_of (h2.2 x hx)
            refine ⟨h2.1,h3,?_⟩
            have h4:Has all off (flB inner y.f++if bi inner y.f 8 then opsB y else []):=hhy
            rw [hyf,hf8,if_pos rfl,opsB_req h3] at h4
            exact h4.right
           refine (hP _ _ _ _ (List.mem_cons_of_mem _ (List.mem_cons_of_mem _ ho')) hS hin).mono fun r wA hq=>?_
           rcases hq with ⟨xs,hxn,hxk,_,hh2,hu2,hS⟩ | ⟨rfl,hnx,off',e',he',hS⟩
           ·have hone:=St.own_one hS.swap
            refine r_store (hS.pick 3) one46 (by simp [rqC]) hone fun wB hS=>H8 _ (.inl ⟨.mk f vd va vw r xs,?_,?_,?_,?_⟩)
            ·refine ⟨hok,?_⟩
             show (if bi inner f 8 then xs.length≤8∧∀x ∈ xs,okTo true x.f 8∧x.ops=[] else xs=[])
             rw [if_pos hf8]
             exact ⟨hxn,fun x hx=>⟨(hxk x hx).1,(okTo_ops (hxk x hx)).1⟩⟩
            ·show Has all off (flB inner f++if bi inner f 8 then opsB (.mk f vd va vw r xs) else [])
             rw [if_pos hf8,opsB_req (q:=.mk f vd va vw r xs) hxk,flB_pre]
             exact Has.split.2 ⟨hh,hh2⟩
            ·intro y hy hhy
             obtain ⟨h1,h2,h3⟩:=hyo y hy hhy
             have h4:=hu2 _ h1 h2 h3
             have hyf:y.f=f:=hu y hy hhy
             have h5:y.ops.map Rq.f=xs.map Rq.f:=by
              have:=congrArg (List.map Prod.fst) h4
              rw [List.map_map,List.map_map] at this
              exact this
             unfold keyQ
             rw [hyf,h5]
             rfl
            ·have e9:(reqI inner (.mk f vd va vw r xs)).length=(pre inner f 8).length+(lsB xs.length (xs.map (reqI true))).length:=by
              show (flB inner f++if bi inner f 8 then opsB (.mk f vd va vw r xs) else []).length=_
              rw [if_pos hf8,opsB_req (q:=.mk f vd va vw r xs) hxk,flB_pre,List.length_append]
              rfl
             rw [e9,← Nat.add_assoc,OwQ_eq]
             exact ((((((hS.pick 3).pick 3).sep_intro).pick 3).sep_intro).put 1).pick 2
           ·refine r_store hS.swap one46 (by simp [rqC]) rfl fun wB hS=>H8 _ (.inr ⟨fun y hy hhy=>?_,off',e',_,he',?_,?_,(hS.swap.pick 2).drop.put 0⟩)
            ·obtain ⟨h1,h2,h3⟩:=hyo y hy hhy
             exact hnx _ h1 h2 ⟨rfl,h3⟩
            ·simp [rqC]
            ·exact ones_set hro rfl
          ·refine (hP _ _ _ _ (List.mem_cons_of_mem _ ho') hS hin).mono fun r wA hq=>?_
           rcases hq with ⟨x,hx,_,h0,_⟩ | ⟨rfl,_,off2,e2,he2,hS⟩
           ·exact absurd h0 he'
           ·refine r_store hS.swap one46 (by rw [hxl]; omega) rfl fun wB hS=>H8 _ (.inr ⟨hno,off2,e2,_,he2,by rw [List.length_set]; exact hxl,?_,hS.swap⟩)
            exact ones_set hxo rfl
        clear hj7
        refine hbit 7 _ _ _ (by omega) rfl ?_
        cases hb7:bi inner (kf kd) 7 with
        | false=>
         (try simp only [condF])
         exact H7 _ (hG.skip (by omega) (f0:=kf kd) rfl hb7)
        | true=>
         (try simp only [condT])
         rcases hG with ⟨f,vd,va,vw,hfk,hcut,hok,hh,hu,hS⟩ | ⟨hno,off',e',xs,he',hxl,hxo,hS⟩
         ·have hbf:bi inner f 7=true:=by unfold bi; rw [hfk]; exact hb7
          have hrd:=OwF.rd (hS.pick 2)
          have hro:=rqC_ones (f:=f) (Rd.one hrd.data) (Rd.one hrd.acl) (Rd.one hrd.who) (vo:=.slice none 0 0) rfl
          have hby:∀y:Fl,cut 7 y=f→bi inner y 7=true:=fun y hy=>by rw [← cut_bi inner 7 7 y,hy]; exact hbf
          refine (gLId Z idB okId id idC (fun _=>emp) 4 (by omega) _ [] en158 idB_pos (fun x y h=>by rw [show x=y from h]) hall (List.mem_cons_of_mem _ (List.mem_cons_of_mem _ ho')) (fun w R' off _ hS=>gId Z hS) hS).mono fun r wA hq=>?_
          rcases hq with ⟨x,hx,hxk,_,hh2,hu2,hS⟩ | ⟨rfl,hnx,off',e',he',hS⟩
          ·have hbf':bi inner { f with who:=x } 7=true:=hbf
           obtain ⟨a1,a2,a3,a4⟩:=good_step (inner:=inner) (all:=all) (off:=off) (i:=7) (by omega) (f:=f) (f':={ f with who:=x }) (by rw [← hcut]; rfl) hok (by show (if bi inner f 7 then _ else _); rw [if_pos hbf]; exact ⟨hx,hxk⟩) hh (by show Has all _ (p7 inner { f with who:=x }); rw [p7,if_pos hbf']; exact hh2) hu (fun y hy hc hyp=>by
             have hyb:=hby y.f hc
             have hyo:=okTo_le hy.1 (show 7 < 8 by omega)
             replace hyp:Has all _ (p7 inner y.f):=hyp
             rw [p7,if_pos hyb] at hyp
             replace hyo:if bi inner y.f 7 then _ else _:=hyo
             rw [if_pos hyb] at hyo
             have hv:=hu2 _ hyo.1 hyo.2 hyp
             rw [List.map_id,List.map_id] at hv
             subst hv
             rw [← hc]; rfl)
           have hS:=(hS.pick 2).drop
           have hone:=St.own_one hS.swap
           refine r_store (hS.pick 2) one45 (by simp [rqC]) hone fun wB hS=>H7 _ (.inl ⟨{ f with who:=x },vd,va,r,hfk,by rw [← hcut]; rfl,a1,a2,a3,?_⟩)
           rw [a4]
           have e9:pc inner { f with who:=x } 7=_:=if_pos hbf'
           rw [e9]
           exact ((OwF.who ((hS.pick 3).pick 3)).put 1).pick 2
          ·refine r_store hS.swap one45 (by simp [rqC]) rfl fun wB hS=>H7 _ (.inr ⟨fun y hy hhy=>?_,off',e',_,he',?_,?_,(hS.swap.pick 2).drop.put 0⟩)
           ·have hyb:=hby y.f (hu y hy hhy)
            have hyo:=okTo_le hy.1 (show 7 < 8 by omega)
            have hyp:Has all _ (p7 inner y.f):=piece_at (i:=7) (by omega) (hu y hy hhy) hhy
            rw [p7,if_pos hyb] at hyp
            replace hyo:if bi inner y.f 7 then _ else _:=hyo
            rw [if_pos hyb] at hyo
            exact hnx _ hyo.1 hyo.2 ⟨rfl,hyp⟩
           ·simp [rqC]
           ·exact ones_set hro rfl
         ·refine (gLId Z idB okId id idC (fun _=>emp) 4 (by omega) _ [] en158 idB_pos (fun x y h=>by rw [show x=y from h]) hall (List.mem_cons_of_mem _ ho') (fun w R' off _ hS=>gId Z hS) hS).mono fun r wA hq=>?_
          rcases hq with ⟨x,hx,_,h0,_⟩ | ⟨rfl,_,off2,e2,he2,hS⟩
          ·exact absurd h0 he'
          ·refine r_store hS.swap one45 (by rw [hxl]; omega) rfl fun wB hS=>H7 _ (.inr ⟨hno,off2,e2,_,he2,by rw [List.length_set]; exact hxl,?_,hS.swap⟩)
           exact ones_set hxo rfl
       clear hj6
       refine hbit 6 _ _ _ (by omega) rfl ?_
       cases hb6:bi inner (kf kd) 6 with
       | false=>
        (try simp only [condF])
        exact H6 _ (hG.skip (by omega) (f0:=kf kd) rfl hb6)
       | true=>
        (try simp only [condT])
        rcases hG with ⟨f,vd,va,vw,hfk,hcut,hok,hh,hu,hS⟩ | ⟨hno,off',e',xs,he',hxl,hxo,hS⟩
        ·have hbf:bi inner f 6=true:=by unfold bi; rw [hfk]; exact hb6
         have hrd:=OwF.rd (hS.pick 2)
         have hro:=rqC_ones (f:=f) (Rd.one hrd.data) (Rd.one hrd.acl) (Rd.one hrd.who) (vo:=.slice none 0 0) rfl
         have hby:∀y:Fl,cut 6 y=f→bi inner y 6=true:=fun y hy=>by rw [← cut_bi inner 6 6 y,hy]; exact hbf
         refine (gInt32 Z hS).mono fun r wA hq=>?_
         rcases hq with ⟨x,hx,_,hh2,hu2,rfl,hS⟩ | ⟨rfl,hnx,off',e',⟨he',_⟩,hS⟩
         ·have hbf':bi inner { f with tmo:=x } 6=true:=hbf
          obtain ⟨a1,a2,a3,a4⟩:=good_step (inner:=inner) (all:=all) (off:=off) (i:=6) (by omega) (f:=f) (f':={ f with tmo:=x }) (by rw [← hcut]; rfl) hok (by show (if bi inner f 6 then _ else _); rw [if_pos hbf]; exact hx) hh (by show Has all _ (p6 inner { f with tmo:=x }); rw [p6,if_pos hbf']; exact hh2) hu (fun y hy hc hyp=>by
            have hyb:=hby y.f hc
            have hyo:=okTo_le hy.1 (show 6 < 8 by omega)
            replace hyp:Has all _ (p6 inner y.f):=hyp
            rw [p6,if_pos hyb] at hyp
            replace hyo:if bi inner y.f 6 then _ else _:=hyo
            rw [if_pos hyb] at hyo
            have hv:=hu2 _ hyo hyp
            subst hv
            rw [← hc]; rfl)
          refine r_store hS.swap one21 (by simp [rqC]) rfl fun wB hS=>H6 _ (.inl ⟨{ f with tmo:=x },vd,va,vw,hfk,by rw [← hcut]; rfl,a1,a2,a3,?_⟩)
          rw [a4]
          have e9:pc inner { f with tmo:=x } 6=_:=if_pos hbf'
          rw [e9]
          exact hS.swap
         ·refine r_store hS.swap one21 (by simp [rqC]) rfl fun wB hS=>H6 _ (.inr ⟨fun y hy hhy=>?_,off',e',_,he',?_,?_,hS.drop.swap.drop.swap.drop |> fun _=>(hS.swap.pick 2).drop.put 0⟩)
          ·have hyb:=hby y.f (hu y hy hhy)
           have hyo:=okTo_le hy.1 (show 6 < 8 by omega)
           have hyp:Has all _ (p6 inner y.f):=piece_at (i:=6) (by omega) (hu y hy hhy) hhy
           rw [p6,if_pos hyb] at hyp
           replace hyo:if bi inner y.f 6 then _ else _:=hyo
           rw [if_pos hyb] at hyo
           exact hnx _ hyo ⟨rfl,hyp⟩
          ·simp [rqC]
          ·exact ones_set hro rfl
        ·refine (gInt32 Z hS).mono fun r wA hq=>?_
         rcases hq with ⟨x,hx,h0,_⟩ | ⟨rfl,_,off2,e2,⟨he2,_⟩,hS⟩
         ·exact absurd h0 he'
         ·refine r_store hS.swap one21 (by rw [hxl]; omega) rfl fun wB hS=>H6 _ (.inr ⟨hno,off2,e2,_,he2,by rw [List.length_set]; exact hxl,?_,hS.swap⟩)
          exact ones_set hxo rfl
      clear hj5
      refine hbit 5 _ _ _ (by omega) rfl ?_
      cases hb5:bi inner (kf kd) 5 with
      | false=>
       (try simp only [condF])
       exact H5 _ (hG.skip (by omega) (f0:=kf kd) rfl hb5)
      | true=>
       (try simp only [condT])
       rcases hG with ⟨f,vd,va,vw,hfk,hcut,hok,hh,hu,hS⟩ | ⟨hno,off',e',xs,he',hxl,hxo,hS⟩
       ·have hbf:bi inner f 5=true:=by unfold bi; rw [hfk]; exact hb5
        have hrd:=OwF.rd (hS.pick 2)
        have hro:=rqC_ones (f:=f) (Rd.one hrd.data) (Rd.one hrd.acl) (Rd.one hrd.who) (vo:=.slice none 0 0) rfl
        have hby:∀y:Fl,cut 5 y=f→bi inner y 5=true:=fun y hy=>by rw [← cut_bi inner 5 5 y,hy]; exact hbf
        refine (gInt64 Z hS).mono fun r wA hq=>?_
        rcases hq with ⟨x,hx,_,hh2,hu2,rfl,hS⟩ | ⟨rfl,hnx,off',e',⟨he',_⟩,hS⟩
        ·have hbf':bi inner { f with ses:=x } 5=true:=hbf
         obtain ⟨a1,a2,a3,a4⟩:=good_step (inner:=inner) (all:=all) (off:=off) (i:=5) (by omega) (f:=f) (f':={ f with ses:=x }) (by rw [← hcut]; rfl) hok (by show (if bi inner f 5 then _ else _); rw [if_pos hbf]; exact hx) hh (by show Has all _ (p5 inner { f with ses:=x }); rw [p5,if_pos hbf']; exact hh2) hu (fun y hy hc hyp=>by
           have hyb:=hby y.f hc
           have hyo:=okTo_le hy.1 (show 5 < 8 by omega)
           replace hyp:Has all _ (p5 inner y.f):=hyp
           rw [p5,if_pos hyb] at hyp
           replace hyo:if bi inner y.f 5 then _ else _:=hyo
           rw [if_pos hyb] at hyo
           have hv:=hu2 _ hyo hyp
           subst hv
           rw [← hc]; rfl)
         refine r_store hS.swap one2 (by simp [rqC]) rfl fun wB hS=>H5 _ (.inl ⟨{ f with ses:=x },vd,va,vw,hfk,by rw [← hcut]; rfl,a1,a2,a3,?_⟩)
         rw [a4]
         have e9:pc inner { f with ses:=x } 5=_:=if_pos hbf'
         rw [e9]
         exact hS.swap
        ·refine r_store hS.swap one2 (by simp [rqC]) rfl fun wB hS=>H5 _ (.inr ⟨fun y hy hhy=>?_,off',e',_,he',?_,?_,hS.drop.swap.drop.swap.drop |> fun _=>(hS.swap.pick 2).drop.put 0⟩)
         ·have hyb:=hby y.f (hu y hy hhy)
          have hyo:=okTo_le hy.1 (show 5 < 8 by omega)
          have hyp:Has all _ (p5 inner y.f):=piece_at (i:=5) (by omega) (hu y hy hhy) hhy
          rw [p5,if_pos hyb] at hyp
          replace hyo:if bi inner y.f 5 then _ else _:=hyo
          rw [if_pos hyb] at hyo
          exact hnx _ hyo ⟨rfl,hyp⟩
         ·simp [rqC]
         ·exact ones_set hro rfl
       ·refine (gInt64 Z hS).mono fun r wA hq=>?_
        rcases hq with ⟨x,hx,h0,_⟩ | ⟨rfl,_,off2,e2,⟨he2,_⟩,hS⟩
        ·exact absurd h0 he'
        ·refine r_store hS.swap one2 (by rw [hxl]; omega) rfl fun wB hS=>H5 _ (.inr ⟨hno,off2,e2,_,he2,by rw [List.length_set]; exact hxl,?_,hS.swap⟩)
         exact ones_set hxo rfl
     clear hj4
     refine hbit 4 _ _ _ (by omega) rfl ?_
     cases hb4:bi inner (kf kd) 4 with
     | false=>
      (try simp only [condF])
      exact H4 _ (hG.skip (by omega) (f0:=kf kd) rfl hb4)
     | true=>
      (try simp only [condT])
      rcases hG with ⟨f,vd,va,vw,hfk,hcut,hok,hh,hu,hS⟩ | ⟨hno,off',e',xs,he',hxl,hxo,hS⟩
      ·have hbf:bi inner f 4=true:=by unfold bi; rw [hfk]; exact hb4
       have hrd:=OwF.rd (hS.pick 2)
       have hro:=rqC_ones (f:=f) (Rd.one hrd.data) (Rd.one hrd.acl) (Rd.one hrd.who) (vo:=.slice none 0 0) rfl
       have hby:∀y:Fl,cut 4 y=f→bi inner y 4=true:=fun y hy=>by rw [← cut_bi inner 4 4 y,hy]; exact hbf
       refine (gBool Z hS).mono fun r wA hq=>?_
       rcases hq with ⟨x,_,_,hh2,hu2,rfl,hS⟩ | ⟨rfl,hnx,off',e',⟨he',_⟩,hS⟩
       ·refine r_store hS.swap one4 (by simp [rqC]) rfl fun wB hS=>?_
        refine (gBool Z hS.swap).mono fun r wA hq=>?_
        skip
        rcases hq with ⟨x2,_,_,hh3,hu3,rfl,hS⟩ | ⟨rfl,hnx,off',e',⟨he',_⟩,hS⟩
        ·have hbf':bi inner { f with eph:=x,seq:=x2 } 4=true:=hbf
         obtain ⟨a1,a2,a3,a4⟩:=good_step (inner:=inner) (all:=all) (off:=off) (i:=4) (by omega) (f:=f) (f':={ f with eph:=x,seq:=x2 }) (by rw [← hcut]; rfl) hok (by show (if bi inner f 4 then _ else _); rw [if_pos hbf]; exact trivial) hh (by show Has all _ (p4 inner { f with eph:=x,seq:=x2 }); rw [p4,if_pos hbf']; exact Has.split.2 ⟨hh2,hh3⟩) hu (fun y hy hc hyp=>by
           have hyb:=hby y.f hc
           have hyo:=okTo_le hy.1 (show 4 < 8 by omega)
           replace hyp:Has all _ (p4 inner y.f):=hyp
           rw [p4,if_pos hyb] at hyp
           replace hyo:if bi inner y.f 4 then _ else _:=hyo
           rw [if_pos hyb] at hyo
           have hv:=hu2 _ trivial hyp.left
           have hyp2:=hyp.right
           rw [hv] at hyp2
           have hv2:=hu3 _ trivial hyp2
           subst hv; subst hv2
           rw [← hc]; rfl)
         refine r_store hS.swap one4 (by simp [rqC]) rfl fun wB hS=>H4 _ (.inl ⟨{ f with eph:=x,seq:=x2 },vd,va,vw,hfk,by rw [← hcut]; rfl,a1,a2,a3,?_⟩)
         rw [a4]
         have e9:pc inner { f with eph:=x,seq:=x2 } 4=_:=if_pos hbf'
         rw [e9,List.length_append,← Nat.add_assoc]
         exact hS.swap
        ·refine r_store hS.swap one4 (by simp [rqC]) rfl fun wB hS=>H4 _ (.inr ⟨fun y hy hhy=>?_,off',e',_,he',?_,?_,(hS.swap.pick 2).drop.put 0⟩)
         ·have hyb:=hby y.f (hu y hy hhy)
          have hyo:=okTo_le hy.1 (show 4 < 8 by omega)
          have hyp:Has all _ (p4 inner y.f):=piece_at (i:=4) (by omega) (hu y hy hhy) hhy
          rw [p4,if_pos hyb] at hyp
          replace hyo:if bi inner y.f 4 then _ else _:=hyo
          rw [if_pos hyb] at hyo
          have hv:=hu2 _ trivial hyp.left
          have hyp2:=hyp.right
          rw [hv] at hyp2
          exact hnx _ trivial ⟨rfl,hyp2⟩
         ·simp [rqC]
         ·exact ones_set (ones_set hro rfl) rfl
       ·refine r_store hS.swap one4 (by simp [rqC]) rfl fun wB hS=>?_
        refine (gBool Z hS.swap).mono fun r wA hq=>?_
        skip
        rcases hq with ⟨x2,_,h0,_⟩ | ⟨rfl,_,off2,e2,⟨he2,_⟩,hS⟩
        ·exact absurd h0 he'
        ·refine r_store hS.swap one4 (by simp [rqC]) rfl fun wB hS=>H4 _ (.inr ⟨fun y hy hhy=>?_,off2,e2,_,he2,?_,?_,(hS.swap.pick 2).drop.put 0⟩)
         ·have hyb:=hby y.f (hu y hy hhy)
          have hyo:=okTo_le hy.1 (show 4 < 8 by omega)
          have hyp:Has all _ (p4 inner y.f):=piece_at (i:=4) (by omega) (hu y hy hhy) hhy
          rw [p4,if_pos hyb] at hyp
          replace hyo:if bi inner y.f 4 then _ else _:=hyo
          rw [if_pos hyb] at hyo
          exact hnx _ trivial ⟨rfl,hyp.left⟩
         ·simp [rqC]
         ·exact ones_set (ones_set hro rfl) rfl
      ·refine (gBool Z hS).mono fun r wA hq=>?_
       rcases hq with ⟨x,hx,h0,_⟩ | ⟨rfl,_,off2,e2,⟨he2,_⟩,hS⟩
       ·exact absurd h0 he'
       ·refine r_store hS.swap one4 (by rw [hxl]; omega) rfl fun wB hS=>?_
        refine (gBool Z hS.swap).mono fun r wA hq=>?_
        skip
        rcases hq with ⟨x2,_,h0,_⟩ | ⟨rfl,_,off3,e3,⟨he3,_⟩,hS⟩
        ·exact absurd h0 he2
        ·refine r_store hS.swap one4 (by rw [List.length_set,hxl]; omega) rfl fun wB hS=>H4 _ (.inr ⟨hno,off3,e3,_,he3,by rw [List.length_set,List.length_set]; exact hxl,?_,hS.swap⟩)
         exact ones_set (ones_set hxo rfl) rfl
    clear hj3
    refine hbit 3 _ _ _ (by omega) rfl ?_
    cases hb3:bi inner (kf kd) 3 with
    | false=>
     (try simp only [condF])
     exact H3 _ (hG.skip (by omega) (f0:=kf kd) rfl hb3)
    | true=>
     (try simp only [condT])
     rcases hG with ⟨f,vd,va,vw,hfk,hcut,hok,hh,hu,hS⟩ | ⟨hno,off',e',xs,he',hxl,hxo,hS⟩
     ·have hbf:bi inner f 3=true:=by unfold bi; rw [hfk]; exact hb3
      have hrd:=OwF.rd (hS.pick 2)
      have hro:=rqC_ones (f:=f) (Rd.one hrd.data) (Rd.one hrd.acl) (Rd.one hrd.who) (vo:=.slice none 0 0) rfl
      have hby:∀y:Fl,cut 3 y=f→bi inner y 3=true:=fun y hy=>by rw [← cut_bi inner 3 3 y,hy]; exact hbf
      refine (gInt32 Z hS).mono fun r wA hq=>?_
      rcases hq with ⟨x,hx,_,hh2,hu2,rfl,hS⟩ | ⟨rfl,hnx,off',e',⟨he',_⟩,hS⟩
      ·have hbf':bi inner { f with ver:=x } 3=true:=hbf
       obtain ⟨a1,a2,a3,a4⟩:=good_step (inner:=inner) (all:=all) (off:=off) (i:=3) (by omega) (f:=f) (f':={ f with ver:=x }) (by rw [← hcut]; rfl) hok (by show (if bi inner f 3 then _ else _); rw [if_pos hbf]; exact hx) hh (by show Has all _ (p3 inner { f with ver:=x }); rw [p3,if_pos hbf']; exact hh2) hu (fun y hy hc hyp=>by
         have hyb:=hby y.f hc
         have hyo:=okTo_le hy.1 (show 3 < 8 by omega)
         replace hyp:Has all _ (p3 inner y.f):=hyp
         rw [p3,if_pos hyb] at hyp
         replace hyo:if bi inner y.f 3 then _ else _:=hyo
         rw [if_pos hyb] at hyo
         have hv:=hu2 _ hyo hyp
         subst hv
         rw [← hc]; rfl)
       refine r_store hS.swap one21 (by simp [rqC]) rfl fun wB hS=>H3 _ (.inl ⟨{ f with ver:=x },vd,va,vw,hfk,by rw [← hcut]; rfl,a1,a2,a3,?_⟩)
       rw [a4]
       have e9:pc inner { f with ver:=x } 3=_:=if_pos hbf'
       rw [e9]
       exact hS.swap
      ·refine r_store hS.swap one21 (by simp [rqC]) rfl fun wB hS=>H3 _ (.inr ⟨fun y hy hhy=>?_,off',e',_,he',?_,?_,hS.drop.swap.drop.swap.drop |> fun _=>(hS.swap.pick 2).drop.put 0⟩)
       ·have hyb:=hby y.f (hu y hy hhy)
        have hyo:=okTo_le hy.1 (show 3 < 8 by omega)
        have hyp:Has all _ (p3 inner y.f):=piece_at (i:=3) (by omega) (hu y hy hhy) hhy
        rw [p3,if_pos hyb] at hyp
        replace hyo:if bi inner y.f 3 then _ else _:=hyo
        rw [if_pos hyb] at hyo
        exact hnx _ hyo ⟨rfl,hyp⟩
       ·simp [rqC]
       ·exact ones_set hro rfl
     ·refine (gInt32 Z hS).mono fun r wA hq=>?_
      rcases hq with ⟨x,hx,h0,_⟩ | ⟨rfl,_,off2,e2,⟨he2,_⟩,hS⟩
      ·exact absurd h0 he'
      ·refine r_store hS.swap one21 (by rw [hxl]; omega) rfl fun wB hS=>H3 _ (.inr ⟨hno,off2,e2,_,he2,by rw [List.length_set]; exact hxl,?_,hS.swap⟩)
       exact ones_set hxo rfl
   clear hj2
   refine hbit 2 _ _ _ (by omega) rfl ?_
   cases hb2:bi inner (kf kd) 2 with
   | false=>
    (try simp only [condF])
    exact H2 _ (hG.skip (by omega) (f0:=kf kd) rfl hb2)
   | true=>
    (try simp only [condT])
    rcases hG with ⟨f,vd,va,vw,hfk,hcut,hok,hh,hu,hS⟩ | ⟨hno,off',e',xs,he',hxl,hxo,hS⟩
    ·have hbf:bi inner f 2=true:=by unfold bi; rw [hfk]; exact hb2
     have hrd:=OwF.rd (hS.pick 2)
     have hro:=rqC_ones (f:=f) (Rd.one hrd.data) (Rd.one hrd.acl) (Rd.one hrd.who) (vo:=.slice none 0 0) rfl
     have hby:∀y:Fl,cut 2 y=f→bi inner y 2=true:=fun y hy=>by rw [← cut_bi inner 2 2 y,hy]; exact hbf
     refine (gLEn Z enB okEn id enC (fun _=>emp) 4 (by omega) _ [] en154 enB_pos (fun x y h=>by rw [show x=y from h]) hall (List.mem_cons_of_mem _ (List.mem_cons_of_mem _ ho')) (fun w R' off _ hS=>gEn Z hS) hS).mono fun r wA hq=>?_
     rcases hq with ⟨x,hx,hxk,_,hh2,hu2,hS⟩ | ⟨rfl,hnx,off',e',he',hS⟩
     ·have hbf':bi inner { f with acl:=x } 2=true:=hbf
      obtain ⟨a1,a2,a3,a4⟩:=good_step (inner:=inner) (all:=all) (off:=off) (i:=2) (by omega) (f:=f) (f':={ f with acl:=x }) (by rw [← hcut]; rfl) hok (by show (if bi inner f 2 then _ else _); rw [if_pos hbf]; exact ⟨hx,hxk⟩) hh (by show Has all _ (p2 inner { f with acl:=x }); rw [p2,if_pos hbf']; exact hh2) hu (fun y hy hc hyp=>by
        have hyb:=hby y.f hc
        have hyo:=okTo_le hy.1 (show 2 < 8 by omega)
        replace hyp:Has all _ (p2 inner y.f):=hyp
        rw [p2,if_pos hyb] at hyp
        replace hyo:if bi inner y.f 2 then _ else _:=hyo
        rw [if_pos hyb] at hyo
        have hv:=hu2 _ hyo.1 hyo.2 hyp
        rw [List.map_id,List.map_id] at hv
        subst hv
        rw [← hc]; rfl)
      have hS:=(hS.pick 2).drop
      have hone:=St.own_one hS.swap
      refine r_store (hS.pick 2) one44 (by simp [rqC]) hone fun wB hS=>H2 _ (.inl ⟨{ f with acl:=x },vd,r,vw,hfk,by rw [← hcut]; rfl,a1,a2,a3,?_⟩)
      rw [a4]
      have e9:pc inner { f with acl:=x } 2=_:=if_pos hbf'
      rw [e9]
      exact ((OwF.acl ((hS.pick 3).pick 3)).put 1).pick 2
     ·refine r_store hS.swap one44 (by simp [rqC]) rfl fun wB hS=>H2 _ (.inr ⟨fun y hy hhy=>?_,off',e',_,he',?_,?_,(hS.swap.pick 2).drop.put 0⟩)
      ·have hyb:=hby y.f (hu y hy hhy)
       have hyo:=okTo_le hy.1 (show 2 < 8 by omega)
       have hyp:Has all _ (p2 inner y.f):=piece_at (i:=2) (by omega) (hu y hy hhy) hhy
       rw [p2,if_pos hyb] at hyp
       replace hyo:if bi inner y.f 2 then _ else _:=hyo
       rw [if_pos hyb] at hyo
       exact hnx _ hyo.1 hyo.2 ⟨rfl,hyp⟩
      ·simp [rqC]
      ·exact ones_set hro rfl
    ·refine (gLEn Z enB okEn id enC (fun _=>emp) 4 (by omega) _ [] en154 enB_pos (fun x y h=>by rw [show x=y from h]) hall (List.mem_cons_of_mem _ ho') (fun w R' off _ hS=>gEn Z hS) hS).mono fun r wA hq=>?_
     rcases hq with ⟨x,hx,_,h0,_⟩ | ⟨rfl,_,off2,e2,he2,hS⟩
     ·exact absurd h0 he'
     ·refine r_store hS.swap one44 (by rw [hxl]; omega) rfl fun wB hS=>H2 _ (.inr ⟨hno,off2,e2,_,he2,by rw [List.length_set]; exact hxl,?_,hS.swap⟩)
      exact ones_set hxo rfl
  clear hj1
  refine hbit 1 _ _ _ (by omega) rfl ?_
  cases hb1:bi inner (kf kd) 1 with
  | false=>
   (try simp only [condF])
   exact H1 _ (hG.skip (by omega) (f0:=kf kd) rfl hb1)
  | true=>
   (try simp only [condT])
   rcases hG with ⟨f,vd,va,vw,hfk,hcut,hok,hh,hu,hS⟩ | ⟨hno,off',e',xs,he',hxl,hxo,hS⟩
   ·have hbf:bi inner f 1=true:=by unfold bi; rw [hfk]; exact hb1
    have hrd:=OwF.rd (hS.pick 2)
    have hro:=rqC_ones (f:=f) (Rd.one hrd.data) (Rd.one hrd.acl) (Rd.one hrd.who) (vo:=.slice none 0 0) rfl
    have hby:∀y:Fl,cut 1 y=f→bi inner y 1=true:=fun y hy=>by rw [← cut_bi inner 1 1 y,hy]; exact hbf
    refine (gBuffer Z 96 hall hS).mono fun r wA hq=>?_
    rcases hq with ⟨x,hx,_,hh2,hu2,hS⟩ | ⟨hnx,off',e',⟨he',_⟩,hS⟩
    ·have hbf':bi inner { f with data:=x } 1=true:=hbf
     obtain ⟨a1,a2,a3,a4⟩:=good_step (inner:=inner) (all:=all) (off:=off) (i:=1) (by omega) (f:=f) (f':={ f with data:=x }) (by rw [← hcut]; rfl) hok (by show (if bi inner f 1 then _ else _); rw [if_pos hbf]; exact hx) hh (by show Has all _ (p1 inner { f with data:=x }); rw [p1,if_pos hbf']; exact hh2) hu (fun y hy hc hyp=>by
       have hyb:=hby y.f hc
       have hyo:=okTo_le hy.1 (show 1 < 8 by omega)
       replace hyp:Has all _ (p1 inner y.f):=hyp
       rw [p1,if_pos hyb] at hyp
       replace hyo:if bi inner y.f 1 then _ else _:=hyo
       rw [if_pos hyb] at hyo
       have hv:=hu2 _ hyo hyp
       subst hv
       rw [← hc]; rfl)
     have hone:=St.own_one hS
     refine r_store (hS.pick 2) one43 (by simp [rqC]) hone fun wB hS=>H1 _ (.inl ⟨{ f with data:=x },r,va,vw,hfk,by rw [← hcut]; rfl,a1,a2,a3,?_⟩)
     rw [a4]
     have e9:pc inner { f with data:=x } 1=_:=if_pos hbf'
     rw [e9]
     exact ((OwF.data ((hS.pick 3).pick 2)).put 1).pick 2
    ·have hone:=St.own_one hS
     refine r_store (hS.pick 2) one43 (by simp [rqC]) hone fun wB hS=>H1 _ (.inr ⟨fun y hy hhy=>?_,off',e',_,he',?_,?_,(((hS.swap.drop).pick 2).drop).swap⟩)
     ·have hyb:=hby y.f (hu y hy hhy)
      have hyo:=okTo_le hy.1 (show 1 < 8 by omega)
      have hyp:Has all _ (p1 inner y.f):=piece_at (i:=1) (by omega) (hu y hy hhy) hhy
      rw [p1,if_pos hyb] at hyp
      replace hyo:if bi inner y.f 1 then _ else _:=hyo
      rw [if_pos hyb] at hyo
      exact hnx _ hyo ⟨rfl,hyp⟩
     ·simp [rqC]
     ·exact ones_set hro hone
   ·refine (gBuffer Z 96 hall hS).mono fun r wA hq=>?_
    rcases hq with ⟨x,hx,h0,_⟩ | ⟨_,off2,e2,⟨he2,_⟩,hS⟩
    ·exact absurd h0 he'
    ·have hone:=St.own_one hS
     refine r_store (hS.pick 2) one43 (by rw [hxl]; omega) hone fun wB hS=>H1 _ (.inr ⟨hno,off2,e2,_,he2,by rw [List.length_set]; exact hxl,?_,(hS.swap.drop).swap⟩)
     exact ones_set hxo hone
 clear hj0
 refine hbit 0 _ _ _ (by omega) rfl ?_
 cases hb0:bi inner (kf kd) 0 with
 | false=>
  (try simp only [condF])
  exact H0 _ (hG.skip (by omega) (f0:=kf kd) rfl hb0)
 | true=>
  (try simp only [condT])
  rcases hG with ⟨f,vd,va,vw,hfk,hcut,hok,hh,hu,hS⟩ | ⟨hno,off',e',xs,he',hxl,hxo,hS⟩
  ·have hbf:bi inner f 0=true:=by unfold bi; rw [hfk]; exact hb0
   have hrd:=OwF.rd (hS.pick 2)
   have hro:=rqC_ones (f:=f) (Rd.one hrd.data) (Rd.one hrd.acl) (Rd.one hrd.who) (vo:=.slice none 0 0) rfl
   have hby:∀y:Fl,cut 0 y=f→bi inner y 0=true:=fun y hy=>by rw [← cut_bi inner 0 0 y,hy]; exact hbf
   refine (gText Z 64 hS).mono fun r wA hq=>?_
   rcases hq with ⟨x,hx,_,hh2,hu2,rfl,hS⟩ | ⟨rfl,hnx,off',e',⟨he',_⟩,hS⟩
   ·have hbf':bi inner { f with path:=x } 0=true:=hbf
    obtain ⟨a1,a2,a3,a4⟩:=good_step (inner:=inner) (all:=all) (off:=off) (i:=0) (by omega) (f:=f) (f':={ f with path:=x }) (by rw [← hcut]; rfl) hok (by show (if bi inner f 0 then _ else _); rw [if_pos hbf]; exact hx) hh (by show Has all _ (p0 inner { f with path:=x }); rw [p0,if_pos hbf']; exact hh2) hu (fun y hy hc hyp=>by
      have hyb:=hby y.f hc
      have hyo:=okTo_le hy.1 (show 0 < 8 by omega)
      replace hyp:Has all _ (p0 inner y.f):=hyp
      rw [p0,if_pos hyb] at hyp
      replace hyo:if bi inner y.f 0 then _ else _:=hyo
      rw [if_pos hyb] at hyo
      have hv:=hu2 _ hyo hyp
      subst hv
      rw [← hc]; rfl)
    refine r_store hS.swap one9 (by simp [rqC]) rfl fun wB hS=>H0 _ (.inl ⟨{ f with path:=x },vd,va,vw,hfk,by rw [← hcut]; rfl,a1,a2,a3,?_⟩)
    rw [a4]
    have e9:pc inner { f with path:=x } 0=_:=if_pos hbf'
    rw [e9]
    exact hS.swap
   ·refine r_store hS.swap one9 (by simp [rqC]) rfl fun wB hS=>H0 _ (.inr ⟨fun y hy hhy=>?_,off',e',_,he',?_,?_,hS.drop.swap.drop.swap.drop |> fun _=>(hS.swap.pick 2).drop.put 0⟩)
    ·have hyb:=hby y.f (hu y hy hhy)
     have hyo:=okTo_le hy.1 (show 0 < 8 by omega)
     have hyp:Has all _ (p0 inner y.f):=piece_at (i:=0) (by omega) (hu y hy hhy) hhy
     rw [p0,if_pos hyb] at hyp
     replace hyo:if bi inner y.f 0 then _ else _:=hyo
     rw [if_pos hyb] at hyo
     exact hnx _ hyo ⟨rfl,hyp⟩
    ·simp [rqC]
    ·exact ones_set hro rfl
  ·refine (gText Z 64 hS).mono fun r wA hq=>?_
   rcases hq with ⟨x,hx,h0,_⟩ | ⟨rfl,_,off2,e2,⟨he2,_⟩,hS⟩
   ·exact absurd h0 he'
   ·refine r_store hS.swap one9 (by rw [hxl]; omega) rfl fun wB hS=>H0 _ (.inr ⟨hno,off2,e2,_,he2,by rw [List.length_set]; exact hxl,?_,hS.swap⟩)
    exact ones_set hxo rfl
end

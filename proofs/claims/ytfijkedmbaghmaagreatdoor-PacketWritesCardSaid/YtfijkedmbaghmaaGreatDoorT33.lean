/- Lists with marks behind them: bytes, ids, entries. -/
import Derived.Test.YtfijkedmbaghmaaGreatDoorT30
import Derived.Test.YtfijkedmbaghmaaGreatDoorW1
set_option linter.unusedVariables false
set_option linter.unusedSimpArgs false
namespace Go.Proofs.YtfijkedmbaghmaaGreatDoor
open Go.Sh
open Tryz renaming prog → π
def mk (i:Nat):List UInt8:=33::Lib.itoa (-3000000 - (i:Int))
def idM (i:Nat):Idd:=⟨[],mk i⟩
def enM (i:Nat):En:=⟨0,[],mk i⟩
def wide {α:Type} (M:Nat→α) (l:List α):List α:=l++(List.range 64).map fun j=>M (l.length+j)
theorem wide_len {α:Type} (M:Nat→α) (l:List α):(wide M l).length=l.length+64:=by simp [wide]
theorem wide_lo {α:Type} (M:Nat→α) (l:List α) (i:Nat) (h:i < l.length):(wide M l)[i]? = some l[i]:=by
 unfold wide
 rw [List.getElem?_append_left h,List.getElem?_eq_getElem h]
theorem wide_hi {α:Type} (M:Nat→α) (l:List α) (i:Nat) (h1:l.length≤i) (h2:i < l.length+64):(wide M l)[i]? = some (M i):=by
 unfold wide
 rw [List.getElem?_append_right h1]
 simp [List.getElem?_range (show i - l.length < 64 by omega),show l.length+(i - l.length)=i by omega]
theorem flatM_take {α:Type} (c:α→List Value) (l:List α) (i:Nat) (x:α) (h:l[i]? = some x):((l.take (i+1)).map c).flatten=((l.take i).map c).flatten++c x:=by
 obtain ⟨hi,e⟩:=List.getElem?_eq_some_iff.1 h
 rw [List.take_succ_eq_append_getElem hi,List.map_append,List.flatten_append,e]; simp
theorem flatM_at {α:Type} {c:α→List Value} {sz:Nat} (hc:∀x,(c x).length=sz) (l:List α) (i j:Nat) (x:α) (u:Value) (h:l[i]? = some x) (hu:(c x)[j]? = some u):((l.map c).flatten)[i * sz+j]? = some u:=
 flatten_at (sz:=sz) (fun d hd=>by obtain ⟨y,_,rfl⟩:=List.mem_map.1 hd; exact hc y) i j (c x) u (by rw [List.getElem?_map,h]; rfl) hu
theorem own_whole {o w:World} {R:List HProp} {e sz g n:Nat} {xs:List Value} (h:St o w (own e sz (.slice (some ⟨g,0,none⟩) n n) n xs::R)):St o w (blk g e xs::R):=by
 obtain ⟨cap,rest,rfl,_,_,hl,hr,hB⟩:=own_at h
 rw [List.length_append,hl] at hr
 have:rest=[]:=List.eq_nil_of_length_eq_zero (by omega)
 rw [this,List.append_nil] at hB
 exact hB
section
variable (Z:PZ) {o w:World} {R As:List HProp}
theorem wideB {x:Value} {n:Nat} {l:List UInt8} (h:St o w R) (hx:Ent o R fun w=>Rd w 1 x n (cb l)) (hl:l.length≤140737488351232) :
  CallV π Z 26 #[x] w fun r w'=>∃g,r=.slice (some ⟨g,0,none⟩) l.length (l.length+64)∧St o w' (blk g 5 (cb (l++marks l.length))::R):=by
 have h0:=hx w h
 have hn:=rd_len h0
 obtain ⟨a,c,rfl⟩:=h0.form
 subst hn
 refine f26.calls ?_
 unfold f26.sh
 (try simp only [ln_30_3,o_add])
 rw [wr_i64 (x:=(l.length:Int)+64) (by omega) (by omega),show ((l.length:Int)+64)=((l.length+64:Nat):Int) by omega]
 refine r_make el30 h .i64 .i64 (l.length+64) (by omega) (by simp only [maxLen]; omega) fun g w1 hS1=>?_
 (try simp only [ln_30_3])
 refine ⟨fun m y w'=>∃(i:Nat) (xs:List Value),y=.int .i64 i∧m+i=l.length+64∧xs.length=l.length+64∧(∀j,j < i→xs[j]? = (cb (l++marks l.length))[j]?)∧St o w' (own 5 1 (.slice (some ⟨g,0,none⟩) (l.length+64) (l.length+64)) (l.length+64) xs::R),
  ⟨l.length+64,0,_,rfl,rfl,by rw [Array.length_toList,size_madeCells]; omega,fun j hj=>by omega,hS1⟩,?_⟩
 rintro m _ w2 ⟨i,xs,rfl,hi,hxl,hpt,hS⟩ _
 (try simp only [o_add,o_lss,cond_decide])
 refine ⟨fun hlt=>?_,fun hge=>?_⟩
 ·intro j hj
  have hj':∀(w':World) (xs:List Value),xs.length=l.length+64→(∀j,j < i+1→xs[j]? = (cb (l++marks l.length))[j]?)→St o w' (own 5 1 (.slice (some ⟨g,0,none⟩) (l.length+64) (l.length+64)) (l.length+64) xs::R)→j w':=by
   intro w' xs hxl hpt hS
   refine hj w' fun _=>?_
   rw [wr_i64 (x:=(i:Int)+1) (by omega) (by omega)]
   exact ⟨m - 1,by omega,i+1,xs,rfl,by omega,hxl,hpt,hS⟩
  clear hj
  refine r1 (run_rem _ _ _ .i64 i 5 (by omega)) ?_
  (try simp only [o_add,cv_3_5])
  rw [mark_int]
  have hrd:=hS.own_rd List.mem_cons_self
  obtain ⟨info,hinfo,hsz,_,_⟩:=el30.info
  refine r1 (run_indexAt Tryz.underlying30 hinfo g 0 (l.length+64) (l.length+64) .i64 i (by omega) (by omega) _) ?_
  rw [hsz]
  simp only [Nat.mul_one,Nat.zero_add,Int.toNat_natCast]
  refine r_store_own hS one5 (by omega) rfl fun w3 hS3=>?_
  skip
  refine ⟨fun hlt2=>?_,fun hge2=>?_⟩
  ·have hi1:i < l.length:=by omega
   obtain ⟨p,hp,hpc⟩:=rd_index (hx w3 hS3.drop) i hi1
   refine r1 (hp _) (r_load one5 hpc ?_)
   refine r1 (run_indexAt Tryz.underlying30 hinfo g 0 (l.length+64) (l.length+64) .i64 i (by omega) (by omega) _) ?_
   rw [hsz]
   simp only [Nat.mul_one,Nat.zero_add,Int.toNat_natCast]
   refine r_store_own hS3 one5 (by omega) rfl fun w4 hS4=>hj' w4 _ (by simp [hxl]) (fun j hj=>?_) hS4
   by_cases e:j=i
   ·subst e
    rw [List.getElem?_set_self (by simp; omega),cb_append,List.getElem?_append_left (by rw [cb_length]; exact hi1),cb_at hi1]
   ·rw [List.getElem?_set_ne (Ne.symm e),List.getElem?_set_ne (Ne.symm e)]
    exact hpt j (by omega)
  ·refine hj' w3 _ (by simp [hxl]) (fun j hj=>?_) hS3
   by_cases e:j=i
   ·subst e
    have hm:=marks_at l.length j (by omega) (by omega)
    rw [List.getElem?_set_self (by omega),cb_append,List.getElem?_append_right (by rw [cb_length]; omega),cb_length]
    simp only [cb,List.getElem?_map,hm]
    rfl
   ·rw [List.getElem?_set_ne (Ne.symm e)]
    exact hpt j (by omega)
 ·obtain rfl:i=l.length+64:=by omega
  refine r1 (run_slice_to el30 _ _ _ .i64 _ (by omega) (by omega) _) ?_
  simp only [Int.toNat_natCast]
  refine ⟨g,rfl,?_⟩
  obtain ⟨_,⟨hq,_⟩ | ⟨g',cap,rest,hq,a1,a2,a3,hB⟩⟩:=hS.own_open
  ·cases hq
  ·injection hq with q1 q2 q3
   injection q1 with q1
   injection q1 with q1
   subst q1; subst q3
   have hr:rest=[]:=by
    rw [List.length_append] at a3
    exact List.eq_nil_of_length_eq_zero (by omega)
   have hxs:xs=cb (l++marks l.length):=by
    apply List.ext_getElem?
    intro j
    by_cases hj:j < l.length+64
    ·exact hpt j hj
    ·rw [List.getElem?_eq_none (by omega),List.getElem?_eq_none (by rw [cb_length,List.length_append,marks_length]; omega)]
   rw [hr,List.append_nil,hxs] at hB
   exact hB
theorem spareB {g n:Nat} {l:List UInt8} (hn:n=l.length) (hl:l.length≤140737488351232) (h:ob 5 (cb (l++marks l.length)) w.heap[g]?) :
  CallV π Z 44 #[.slice (some ⟨g,0,none⟩) n (n+64)] w fun r w'=>r=.bool true∧w'=w:=by
 subst hn
 refine f44.calls ?_
 unfold f44.sh
 (try simp only [ln_30_3,o_add])
 rw [wr_i64 (x:=(l.length:Int)+64) (by omega) (by omega)]
 refine r1 (run_slice_to el30 _ _ _ .i64 _ (by omega) (by omega) _) ?_
 rw [show ((l.length:Int)+64).toNat=l.length+64 by omega]
 (try simp only [ln_30_3])
 refine ⟨fun m y w'=>∃i:Nat,y=.int .i64 i∧m+i=l.length+64∧l.length≤i∧w'=w,⟨64,l.length,rfl,by omega,by omega,rfl⟩,?_⟩
 rintro m _ w1 ⟨i,rfl,hi,hli,rfl⟩ _
 (try simp only [o_add,o_lss,cond_decide])
 refine ⟨fun hlt=>?_,fun hge=>⟨trivial,trivial⟩⟩
 obtain ⟨info,hinfo,hsz,_,_⟩:=el30.info
 refine r1 (run_indexAt Tryz.underlying30 hinfo g 0 (l.length+64) (l.length+64) .i64 i (by omega) (by omega) _) ?_
 rw [hsz]
 simp only [Nat.mul_one,Nat.zero_add,Int.toNat_natCast]
 have hm:=marks_at l.length i hli (by omega)
 refine r_load one5 (v:=.int .u8 ((UInt8.ofNat (170+i % 5)).toNat:Int)) ?_ ?_
 ·rw [cell_of_blk h,cb_append,List.getElem?_append_right (by rw [cb_length]; omega),cb_length]
  simp only [cb,List.getElem?_map,hm]
  rfl
 ·refine r1 (run_rem _ _ _ .i64 i 5 (by omega)) ?_
  (try simp only [o_add,cv_3_5,o_neq,cond_bne])
  rw [mark_int]
  refine ⟨fun hne=>absurd rfl hne,fun _=>?_⟩
  rw [wr_i64 (x:=(i:Int)+1) (by omega) (by omega)]
  exact ⟨m - 1,by omega,i+1,rfl,by omega,by omega,trivial⟩
theorem wideId {x:Value} {l:List Idd} (hT:Tab o) (ho:old o ∈ R) (hx:Ent o R fun w=>Rd w 2 x l.length (l.map idC).flatten) (hl:l.length * 32≤140737488351232) (h:St o w R) :
  CallV π Z 174 #[x] w fun r w'=>∃g,r=.slice (some ⟨g,0,none⟩) l.length (l.length+64)∧St o w' (blk g 175 ((wide idM l).map idC).flatten::R):=by
 obtain ⟨a,c,rfl⟩:=(hx w h).form
 refine f174.calls ?_
 unfold f174.sh
 (try simp only [ln_32_3,o_add])
 rw [wr_i64 (x:=(l.length:Int)+64) (by omega) (by omega),show ((l.length:Int)+64)=((l.length+64:Nat):Int) by omega]
 refine r_make el32 h .i64 .i64 (l.length+64) (by omega) (by simp only [maxLen]; omega) fun g w1 hS1=>?_
 (try simp only [ln_32_3])
 refine ⟨fun m y w'=>∃(i:Nat) (rest:List Value),y=.int .i64 i∧m+i=l.length+64∧rest.length=(l.length+64 - i) * 2 ∧
   St o w' (own 175 2 (.slice (some ⟨g,0,none⟩) (l.length+64) (l.length+64)) (l.length+64) ((((wide idM l).take i).map idC).flatten++rest)::R),
  ⟨l.length+64,0,_,rfl,rfl,by rw [Array.length_toList,size_madeCells]; rfl,hS1⟩,?_⟩
 clear hS1
 rintro m _ w2 ⟨i,rest,rfl,hi,hrl,hS⟩ _
 obtain ⟨info,hinfo,hsz,_,_⟩:=el32.info
 by_cases hlt:(i:Int) < ((l.length+64:Nat):Int)
 ·(try simp only [o_add,o_sub,o_lss,cond_decide,hlt,decide_true,condT])
  intro j hj
  have hpl:(((wide idM l).take i).map idC).flatten.length=i * 2:=by
   rw [len_flatten_of (sz:=2) (fun d hd=>by obtain ⟨y,_,rfl⟩:=List.mem_map.1 hd; rfl),List.length_map,List.length_take,wide_len,Nat.min_eq_left (by omega)]
  have hj':∀(w':World) (x:Idd),(wide idM l)[i]? = some x→St o w' (own 175 2 (.slice (some ⟨g,0,none⟩) (l.length+64) (l.length+64)) (l.length+64) (setL ((((wide idM l).take i).map idC).flatten++rest) (i * 2) (idC x))::R)→j w':=by
   intro w' x hwx hS
   refine hj w' fun _=>?_
   rw [wr_i64 (x:=(i:Int)+1) (by omega) (by omega)]
   have hrl2:(rest.drop 2).length=(l.length+64 - (i+1)) * 2:=by
    rw [List.length_drop,hrl,show l.length+64 - i=(l.length+64 - (i+1))+1 by omega,Nat.add_mul]
    omega
   refine ⟨m - 1,by omega,i+1,rest.drop 2,rfl,by omega,hrl2,?_⟩
   have e1:setL ((((wide idM l).take i).map idC).flatten++rest) (i * 2) (idC x)=(((wide idM l).take (i+1)).map idC).flatten++rest.drop 2:=by
    have hge:2≤rest.length:=by
     rw [hrl,show l.length+64 - i=(l.length+64 - (i+1))+1 by omega,Nat.add_mul]
     omega
    have h2:=setL_mid (((wide idM l).take i).map idC).flatten (rest.take 2) (idC x) (rest.drop 2) (by rw [List.length_take,Nat.min_eq_left hge]; rfl)
    rw [List.take_append_drop,hpl] at h2
    rw [h2,flatM_take _ _ _ _ hwx,List.append_assoc]
   rw [e1] at hS
   exact hS
  clear hj
  have hix:∀w:World,(Instr.indexAt 32 (.slice (some ⟨g,0,none⟩) (l.length+64) (l.length+64)) (.int .i64 i)).run π w=.ok (.pointer (some ⟨g,0+(i:Int).toNat * info.size,none⟩)) w:=fun w=>run_indexAt Tryz.underlying32 hinfo g 0 (l.length+64) (l.length+64) .i64 i (by omega) (by omega) w
  refine ⟨fun hin=>?_,fun hin=>?_⟩
  ·have hil:i < l.length:=by omega
   obtain ⟨b,p,cs,hp,_,hcv,hc⟩:=(rowR_rd (c:=idC) (fun x=>rfl) (hx w2 hS.drop) rfl).ix el32 .i64 i hil
   subst hcv
   refine r1 (hp _) (r_loadN ag175 (xs:=idC l[i]) rfl (fun j u hu=>by rw [add_addr]; exact hc j u hu) ?_)
   refine r1 (hix _) ?_
   exact r_store_ixN hS el32 ag175 .i64 i (by omega) (hix _) (us:=idC l[i]) rfl (idB_ones _) fun w4 hS4=>hj' w4 l[i] (wide_lo _ _ _ hil) hS4
  ·rw [wr_i64 (x := -3000000 - (i:Int)) (by omega) (by omega)]
   refine (mark Z hT (List.mem_cons_of_mem _ ho) (-3000000 - (i:Int)) (by omega) (by omega) hS).mono fun r w3 ⟨hr,hS⟩=>?_
   subst hr
   generalize hsm:str (33::Lib.itoa (-3000000 - (i:Int)))=sm
   refine r_build (cells:=#[.string ByteArray.empty,.string sm]) (by kernel_rfl) ?_
   subst hsm
   refine r1 (hix _) ?_
   exact r_store_ixN hS el32 ag175 .i64 i (by omega) (hix _) (us:=idC (idM i)) rfl (idB_ones _) fun w4 hS4=>hj' w4 (idM i) (wide_hi _ _ _ (by omega) (by omega)) hS4
 ·obtain rfl:i=l.length+64:=by omega
  (try simp only [o_add,o_sub,o_lss,cond_decide,hlt,decide_false,condF])
  refine r1 (run_slice_to el32 _ _ _ .i64 _ (by omega) (by omega) _) ?_
  simp only [Int.toNat_natCast]
  rw [List.take_of_length_le (by rw [wide_len]; exact Nat.le_refl _)] at hS
  have hr0:rest=[]:=List.eq_nil_of_length_eq_zero (by rw [hrl,Nat.sub_self,Nat.zero_mul])
  rw [hr0,List.append_nil] at hS
  exact ⟨g,rfl,own_whole hS⟩
theorem spareId {g n:Nat} {l:List Idd} (hT:Tab o) (ho:old o ∈ R) (hn:n=l.length) (hl:l.length * 32≤140737488351232) (hm:blk g 175 ((wide idM l).map idC).flatten ∈ R) (h:St o w R) :
  CallV π Z 135 #[.slice (some ⟨g,0,none⟩) n (n+64)] w fun r w'=>r=.bool true∧St o w' R:=by
 subst hn
 refine f135.calls ?_
 unfold f135.sh
 (try simp only [ln_32_3,o_add])
 rw [wr_i64 (x:=(l.length:Int)+64) (by omega) (by omega)]
 refine r1 (run_slice_to el32 _ _ _ .i64 _ (by omega) (by omega) _) ?_
 rw [show ((l.length:Int)+64).toNat=l.length+64 by omega]
 (try simp only [ln_32_3])
 refine ⟨fun m y w'=>∃i:Nat,y=.int .i64 i∧m+i=l.length+64∧l.length≤i∧St o w' R,⟨64,l.length,rfl,by omega,by omega,h⟩,?_⟩
 clear h
 rintro m _ w1 ⟨i,rfl,hi,hli,hS⟩ _
 by_cases hlt:(i:Int) < ((l.length+64:Nat):Int)
 ·(try simp only [o_add,o_subp,o_lss,hlt,decide_true,condT])
  refine ⟨fun w2 hd=>?_⟩
  have hS:=hS.drew hd
  obtain ⟨info,hinfo,hsz,_,_⟩:=el32.info
  refine rp (fun w=>run_indexAt Tryz.underlying32 hinfo g 0 (l.length+64) (l.length+64) .i64 i (by omega) (by omega) w) ?_
  rw [hsz]
  simp only [Nat.zero_add,Int.toNat_natCast]
  (try simp only [fa_175_1p])
  have hat:∀{w':World},St o w' R→w'.cell? ⟨g,i * 2+1,none⟩=some (.string (str (mk i))):=fun hS=>hS.at hm _ (flatM_at (c:=idC) (sz:=2) (fun x=>rfl) _ i 1 (idM i) _ (wide_hi _ _ _ hli (by omega)) rfl)
  refine rr_load one9 (hat hS) ?_
  rw [wr_i64 (x := -3000000 - (i:Int)) (by omega) (by omega)]
  refine (mark Z hT ho (-3000000 - (i:Int)) (by omega) (by omega) hS).mono fun r w3 ⟨hr,hS⟩=>?_
  subst hr
  refine rs_load one9 (hat hS) ?_
  refine rp (fun w=>run_eql_strS _ _ _ (mk i) (33::Lib.itoa (-3000000 - (i:Int))) w) ?_
  rw [decide_eq_true (show mk i=33::Lib.itoa (-3000000 - (i:Int)) from rfl)]
  (try simp only [o_notp,Bool.not_true,condF])
  rw [wr_i64 (x:=(i:Int)+1) (by omega) (by omega)]
  exact ⟨m - 1,by omega,i+1,rfl,by omega,by omega,hS⟩
 ·(try simp only [o_add,o_subp,o_lss,hlt,decide_false,condF])
  exact ⟨by first | rfl | trivial,hS⟩
theorem wideEn {x:Value} {l:List En} (hT:Tab o) (ho:old o ∈ R) (hx:Ent o R fun w=>Rd w 3 x l.length (l.map enC).flatten) (hl:l.length * 40≤140737488351232) (h:St o w R) :
  CallV π Z 173 #[x] w fun r w'=>∃g,r=.slice (some ⟨g,0,none⟩) l.length (l.length+64)∧St o w' (blk g 178 ((wide enM l).map enC).flatten::R):=by
 obtain ⟨a,c,rfl⟩:=(hx w h).form
 refine f173.calls ?_
 unfold f173.sh
 (try simp only [ln_31_3,o_add])
 rw [wr_i64 (x:=(l.length:Int)+64) (by omega) (by omega),show ((l.length:Int)+64)=((l.length+64:Nat):Int) by omega]
 refine r_make el31 h .i64 .i64 (l.length+64) (by omega) (by simp only [maxLen]; omega) fun g w1 hS1=>?_
 (try simp only [ln_31_3])
 refine ⟨fun m y w'=>∃(i:Nat) (rest:List Value),y=.int .i64 i∧m+i=l.length+64∧rest.length=(l.length+64 - i) * 3 ∧
   St o w' (own 178 3 (.slice (some ⟨g,0,none⟩) (l.length+64) (l.length+64)) (l.length+64) ((((wide enM l).take i).map enC).flatten++rest)::R),
  ⟨l.length+64,0,_,rfl,rfl,by rw [Array.length_toList,size_madeCells]; rfl,hS1⟩,?_⟩
 clear hS1
 rintro m _ w2 ⟨i,rest,rfl,hi,hrl,hS⟩ _
 obtain ⟨info,hinfo,hsz,_,_⟩:=el31.info
 by_cases hlt:(i:Int) < ((l.length+64:Nat):Int)
 ·(try simp only [o_add,o_sub,o_lss,cond_decide,hlt,decide_true,condT])
  intro j hj
  have hpl:(((wide enM l).take i).map enC).flatten.length=i * 3:=by
   rw [len_flatten_of (sz:=3) (fun d hd=>by obtain ⟨y,_,rfl⟩:=List.mem_map.1 hd; rfl),List.length_map,List.length_take,wide_len,Nat.min_eq_left (by omega)]
  have hj':∀(w':World) (x:En),(wide enM l)[i]? = some x→St o w' (own 178 3 (.slice (some ⟨g,0,none⟩) (l.length+64) (l.length+64)) (l.length+64) (setL ((((wide enM l).take i).map enC).flatten++rest) (i * 3) (enC x))::R)→j w':=by
   intro w' x hwx hS
   refine hj w' fun _=>?_
   rw [wr_i64 (x:=(i:Int)+1) (by omega) (by omega)]
   have hrl2:(rest.drop 3).length=(l.length+64 - (i+1)) * 3:=by
    rw [List.length_drop,hrl,show l.length+64 - i=(l.length+64 - (i+1))+1 by omega,Nat.add_mul]
    omega
   refine ⟨m - 1,by omega,i+1,rest.drop 3,rfl,by omega,hrl2,?_⟩
   have e1:setL ((((wide enM l).take i).map enC).flatten++rest) (i * 3) (enC x)=(((wide enM l).take (i+1)).map enC).flatten++rest.drop 3:=by
    have hge:3≤rest.length:=by
     rw [hrl,show l.length+64 - i=(l.length+64 - (i+1))+1 by omega,Nat.add_mul]
     omega
    have h2:=setL_mid (((wide enM l).take i).map enC).flatten (rest.take 3) (enC x) (rest.drop 3) (by rw [List.length_take,Nat.min_eq_left hge]; rfl)
    rw [List.take_append_drop,hpl] at h2
    rw [h2,flatM_take _ _ _ _ hwx,List.append_assoc]
   rw [e1] at hS
   exact hS
  clear hj
  have hix:∀w:World,(Instr.indexAt 31 (.slice (some ⟨g,0,none⟩) (l.length+64) (l.length+64)) (.int .i64 i)).run π w=.ok (.pointer (some ⟨g,0+(i:Int).toNat * info.size,none⟩)) w:=fun w=>run_indexAt Tryz.underlying31 hinfo g 0 (l.length+64) (l.length+64) .i64 i (by omega) (by omega) w
  refine ⟨fun hin=>?_,fun hin=>?_⟩
  ·have hil:i < l.length:=by omega
   obtain ⟨b,p,cs,hp,_,hcv,hc⟩:=(rowR_rd (c:=enC) (fun x=>rfl) (hx w2 hS.drop) rfl).ix el31 .i64 i hil
   subst hcv
   refine r1 (hp _) (r_loadN ag178 (xs:=enC l[i]) rfl (fun j u hu=>by rw [add_addr]; exact hc j u hu) ?_)
   refine r1 (hix _) ?_
   exact r_store_ixN hS el31 ag178 .i64 i (by omega) (hix _) (us:=enC l[i]) rfl (enB_ones _) fun w4 hS4=>hj' w4 l[i] (wide_lo _ _ _ hil) hS4
  ·rw [wr_i64 (x := -3000000 - (i:Int)) (by omega) (by omega)]
   refine (mark Z hT (List.mem_cons_of_mem _ ho) (-3000000 - (i:Int)) (by omega) (by omega) hS).mono fun r w3 ⟨hr,hS⟩=>?_
   subst hr
   generalize hsm:str (33::Lib.itoa (-3000000 - (i:Int)))=sm
   refine r_build (cells:=#[.string ByteArray.empty,.string sm]) (by kernel_rfl) ?_
   refine r_build (cells:=#[.int .i8 0,.string ByteArray.empty,.string sm]) (by kernel_rfl) ?_
   subst hsm
   refine r1 (hix _) ?_
   exact r_store_ixN hS el31 ag178 .i64 i (by omega) (hix _) (us:=enC (enM i)) rfl (enB_ones _) fun w4 hS4=>hj' w4 (enM i) (wide_hi _ _ _ (by omega) (by omega)) hS4
 ·obtain rfl:i=l.length+64:=by omega
  (try simp only [o_add,o_sub,o_lss,cond_decide,hlt,decide_false,condF])
  refine r1 (run_slice_to el31 _ _ _ .i64 _ (by omega) (by omega) _) ?_
  simp only [Int.toNat_natCast]
  rw [List.take_of_length_le (by rw [wide_len]; exact Nat.le_refl _)] at hS
  have hr0:rest=[]:=List.eq_nil_of_length_eq_zero (by rw [hrl,Nat.sub_self,Nat.zero_mul])
  rw [hr0,List.append_nil] at hS
  exact ⟨g,rfl,own_whole hS⟩
theorem spareEn {g n:Nat} {l:List En} (hT:Tab o) (ho:old o ∈ R) (hn:n=l.length) (hl:l.length * 40≤140737488351232) (hm:blk g 178 ((wide enM l).map enC).flatten ∈ R) (h:St o w R) :
  CallV π Z 134 #[.slice (some ⟨g,0,none⟩) n (n+64)] w fun r w'=>r=.bool true∧St o w' R:=by
 subst hn
 refine f134.calls ?_
 unfold f134.sh
 (try simp only [ln_31_3,o_add])
 rw [wr_i64 (x:=(l.length:Int)+64) (by omega) (by omega)]
 refine r1 (run_slice_to el31 _ _ _ .i64 _ (by omega) (by omega) _) ?_
 rw [show ((l.length:Int)+64).toNat=l.length+64 by omega]
 (try simp only [ln_31_3])
 refine ⟨fun m y w'=>∃i:Nat,y=.int .i64 i∧m+i=l.length+64∧l.length≤i∧St o w' R,⟨64,l.length,rfl,by omega,by omega,h⟩,?_⟩
 clear h
 rintro m _ w1 ⟨i,rfl,hi,hli,hS⟩ _
 by_cases hlt:(i:Int) < ((l.length+64:Nat):Int)
 ·(try simp only [o_add,o_subp,o_lss,hlt,decide_true,condT])
  refine ⟨fun w2 hd=>?_⟩
  have hS:=hS.drew hd
  obtain ⟨info,hinfo,hsz,_,_⟩:=el31.info
  refine rp (fun w=>run_indexAt Tryz.underlying31 hinfo g 0 (l.length+64) (l.length+64) .i64 i (by omega) (by omega) w) ?_
  rw [hsz]
  simp only [Nat.zero_add,Int.toNat_natCast]
  (try simp only [fa_178_1p,fa_175_1p])
  have hat:∀{w':World},St o w' R→w'.cell? ⟨g,i * 3+2,none⟩=some (.string (str (mk i))):=fun hS=>hS.at hm _ (flatM_at (c:=enC) (sz:=3) (fun x=>rfl) _ i 2 (enM i) _ (wide_hi _ _ _ hli (by omega)) rfl)
  refine rr_load one9 (hat hS) ?_
  rw [wr_i64 (x := -3000000 - (i:Int)) (by omega) (by omega)]
  refine (mark Z hT ho (-3000000 - (i:Int)) (by omega) (by omega) hS).mono fun r w3 ⟨hr,hS⟩=>?_
  subst hr
  refine rs_load one9 (hat hS) ?_
  refine rp (fun w=>run_eql_strS _ _ _ (mk i) (33::Lib.itoa (-3000000 - (i:Int))) w) ?_
  rw [decide_eq_true (show mk i=33::Lib.itoa (-3000000 - (i:Int)) from rfl)]
  (try simp only [o_notp,Bool.not_true,condF])
  rw [wr_i64 (x:=(i:Int)+1) (by omega) (by omega)]
  exact ⟨m - 1,by omega,i+1,rfl,by omega,by omega,hS⟩
 ·(try simp only [o_add,o_subp,o_lss,hlt,decide_false,condF])
  exact ⟨by first | rfl | trivial,hS⟩
end
end Go.Proofs.YtfijkedmbaghmaaGreatDoor

/- Requests with marks behind each list. -/
set_option linter.unusedVariables false
set_option linter.unusedSimpArgs false
namespace Go.Proofs.YtfijkedmbaghmaaGreatDoor
open Go.Sh
open Tryz renaming prog → π
def rqM (i:Nat):Rq:=.mk ⟨0,[],[],[],0,false,false,-3000000 - (i:Int),0,[]⟩ (.slice none 0 0) (.slice none 0 0) (.slice none 0 0) (.slice none 0 0) []
def wv (g n:Nat):Value:=.slice (some ⟨g,0,none⟩) n (n+64)
def WdF (f:Fl) (vd va vw:Value):HProp:=fun h=>∃g1 g2 g3:Nat,(vd=wv g1 f.data.length∧va=wv g2 f.acl.length∧vw=wv g3 f.who.length)∧sep (blk g1 5 (cb (f.data++marks f.data.length))) (sep (blk g2 178 ((wide enM f.acl).map enC).flatten) (blk g3 175 ((wide idM f.who).map idC).flatten)) h
mutual
def WdQ:Rq→HProp
 | .mk f vd va vw vo l=>sep (WdF f vd va vw) (sep (fun h=>∃g:Nat,vo=wv g l.length∧blk g 35 ((wide rqM l).map Rq.cells).flatten h) (WdS l))
def WdS:List Rq→HProp
 | []=>fun _=>True
 | x::l=>sep (WdQ x) (WdS l)
end
theorem WdS_sat (l:List Rq):WdS l=satH (l.map WdQ):=by
 induction l with
 | nil=>rfl
 | cons x l ih=>
  rw [WdS,ih]
  rfl
theorem WdQ_eq (q:Rq):WdQ q=sep (WdF q.f q.vd q.va q.vw) (sep (fun h=>∃g:Nat,q.vo=wv g q.ops.length∧blk g 35 ((wide rqM q.ops).map Rq.cells).flatten h) (satH (q.ops.map WdQ))):=by
 cases q with
 | mk f a b c d l=>rw [WdQ,WdS_sat]; rfl
theorem wide_rd {α:Type} {o w:World} {R:List HProp} {M:Nat→α} {C:α→List Value} {sz:Nat} {e g:Nat} {l:List α} (hC:∀x,(C x).length=sz) (hl:l.length≤maxLen) (h:St o w (blk g e ((wide M l).map C).flatten::R)):Rd w sz (wv g l.length) l.length (l.map C).flatten:=
 h.rd_blk m0 _ (len_flatten_of (sz:=sz) (fun d hd=>by obtain ⟨y,_,rfl⟩:=List.mem_map.1 hd; exact hC y) |>.trans (by rw [List.length_map])) hl fun j v hv=>by
  rw [Nat.zero_add]
  unfold wide
  rw [List.map_append,List.flatten_append,List.getElem?_append_left (List.getElem?_eq_some_iff.1 hv).1]
  exact hv
theorem WdF.open {o w:World} {R:List HProp} {f:Fl} {vd va vw:Value} (h:St o w (WdF f vd va vw::R)):∃g1 g2 g3:Nat,(vd=wv g1 f.data.length∧va=wv g2 f.acl.length∧vw=wv g3 f.who.length) ∧
  St o w (blk g1 5 (cb (f.data++marks f.data.length))::blk g2 178 ((wide enM f.acl).map enC).flatten::blk g3 175 ((wide idM f.who).map idC).flatten::R):=by
 obtain ⟨g1,h⟩:=h.ex
 obtain ⟨g2,h⟩:=h.ex
 obtain ⟨g3,h⟩:=h.ex
 obtain ⟨hp,h⟩:=h.pure
 have a:=h.sep
 have b:=a.swap.sep
 exact ⟨g1,g2,g3,hp,b.pick 2⟩
theorem WdF.shut {o w:World} {R:List HProp} {f:Fl} {g1 g2 g3:Nat} (h:St o w (blk g1 5 (cb (f.data++marks f.data.length))::blk g2 178 ((wide enM f.acl).map enC).flatten::blk g3 175 ((wide idM f.who).map idC).flatten::R)):St o w (WdF f (wv g1 f.data.length) (wv g2 f.acl.length) (wv g3 f.who.length)::R):=by
 have a:=((h.pick 1).pick 2).swap
 have b:St o w (blk g2 178 ((wide enM f.acl).map enC).flatten::blk g3 175 ((wide idM f.who).map idC).flatten::blk g1 5 (cb (f.data++marks f.data.length))::R):=a
 have c:=b.sep_intro.swap.sep_intro
 exact (((c.pure_intro ⟨rfl,rfl,rfl⟩).ex_intro g3).ex_intro g2).ex_intro g1
theorem WfF_st {x y:Rq} (h:x.st=y.st) (hx:WfF x.f):WfF y.f:=by rw [← st_f h]; exact hx
theorem WfQ_st (x:Rq):∀y:Rq,x.st=y.st→WfQ x→WfQ y:=by
 induction x using Rq.ind with | h x ih=>?_
 intro y h hx
 refine .mk y (WfF_st h hx.flat) (by rw [← st_len h]; exact hx.len) fun z hz=>?_
 have h1:z.st ∈ x.ops.map Rq.st:=by rw [st_ops h]; exact List.mem_map_of_mem hz
 obtain ⟨z',hz',e⟩:=List.mem_map.1 h1
 exact ih z' hz' z e (hx.all z' hz')
theorem WfF.lens {f:Fl} (h:WfF f):f.data.length≤maxLen∧f.acl.length≤maxLen∧f.who.length≤maxLen:=by
 have h1:=h.data
 have h2:=h.acl.1
 have h3:=h.who.1
 simp only [maxLen]
 exact ⟨by omega,by omega,by omega⟩
theorem WdF.rd {o w:World} {R:List HProp} {f:Fl} {vd va vw:Value} (hw:WfF f) (h:St o w (WdF f vd va vw::R)):RdF w f vd va vw:=by
 obtain ⟨g1,g2,g3,⟨rfl,rfl,rfl⟩,k⟩:=WdF.open h
 obtain ⟨l1,l2,l3⟩:=hw.lens
 refine ⟨?_,wide_rd (fun x=>rfl) l2 k.drop,wide_rd (fun x=>rfl) l3 k.drop.drop⟩
 refine k.rd_blk m0 _ (by rw [cb_length,Nat.mul_one]) l1 fun j v hv=>?_
 rw [Nat.zero_add,cb_append,List.getElem?_append_left (List.getElem?_eq_some_iff.1 hv).1]
 exact hv
theorem WdQ.rd (q:Rq):∀{o w:World} {R:List HProp},WfQ q→St o w (WdQ q::R)→RdQ w q:=by
 induction q using Rq.ind with | h q ih=>?_
 intro o w R hw h
 rw [WdQ_eq] at h
 have h1:=h.sep
 have h2:=h1.swap.sep
 obtain ⟨g,h3⟩:=h2.ex
 obtain ⟨hg,h3⟩:=h3.pure
 have hl:q.ops.length≤maxLen:=by have:=hw.len; simp only [maxLen]; omega
 refine .mk q (WdF.rd hw.flat h1) (by rw [hg]; exact wide_rd Rq.cells_len hl h3) fun x hx=>?_
 obtain ⟨As,Bs,e⟩:=List.append_of_mem hx
 have h4:=h2.swap
 rw [e,List.map_append,List.map_cons] at h4
 exact ih x hx (hw.all x hx) h4.all_out
section
variable (Z:PZ) {o w:World} {R As:List HProp}
theorem wideQs {v:Value} (l:List Rq) (hwl:l.length * 144≤140737488351232) (hwf:∀x ∈ l,WfQ x) (ho:old o ∈ R)
  (ih:∀x ∈ l,∀{w:World} {R:List HProp},old o ∈ R→(Ent o R fun w=>RdQ w x)→St o w R→CallV π Z 80 #[.agg x.cells.toArray] w fun r w'=>∃q',r=.agg q'.cells.toArray∧q'.st=x.st∧St o w' (WdQ q'::R))
  (hx:Ent o R fun w=>Rd w 11 v l.length (l.map Rq.cells).flatten∧∀x ∈ l,RdQ w x) (h:St o w R) :
  CallV π Z 175 #[v] w fun r w'=>∃g l',r=wv g l.length∧l'.length=l.length∧l'.map Rq.st=l.map Rq.st∧St o w' (blk g 35 ((wide rqM l').map Rq.cells).flatten::satH (l'.map WdQ)::R):=by
 obtain ⟨a,c,rfl⟩:=(hx w h).1.form
 refine f175.calls ?_
 unfold f175.sh
 (try simp only [ln_33_3,o_add])
 rw [wr_i64 (x:=(l.length:Int)+64) (by omega) (by omega),show ((l.length:Int)+64)=((l.length+64:Nat):Int) by omega]
 refine r_make el33 h .i64 .i64 (l.length+64) (by omega) (by simp only [maxLen]; omega) fun g w1 hS1=>?_
 (try simp only [ln_33_3])
 refine ⟨fun m y w'=>∃(i:Nat) (xs:List Rq) (rest:List Value),y=.int .i64 i∧m+i=l.length+64∧xs.length=min i l.length∧xs.map Rq.st=(l.take i).map Rq.st∧rest.length=(l.length+64 - i) * 11 ∧
   St o w' (own 35 11 (.slice (some ⟨g,0,none⟩) (l.length+64) (l.length+64)) (l.length+64) (((xs++(List.range (i - l.length)).map fun j=>rqM (l.length+j)).map Rq.cells).flatten++rest)::satH (xs.map WdQ)::R),
  ⟨l.length+64,0,[],?rest,rfl,rfl,by simp,rfl,?len,?st⟩,?_⟩
 case st=>
  have e0:(0 - l.length)=0:=by omega
  rw [e0]
  exact (hS1.emp.mono fun _ _=>(trivial:satH (([]:List Rq).map WdQ) _)).swap
 case len=>
  rw [Array.length_toList,size_madeCells]
  rfl
 clear hS1
 rintro m _ w2 ⟨i,xs,rest,rfl,hi,hxl,hst,hrl,hS⟩ _
 obtain ⟨info,hinfo,hsz,_,_⟩:=el33.info
 by_cases hlt:(i:Int) < ((l.length+64:Nat):Int)
 ·(try simp only [o_add,o_sub,o_lss,cond_decide,hlt,decide_true,condT])
  intro j hj
  have hpl:((xs++(List.range (i - l.length)).map fun j=>rqM (l.length+j)).map Rq.cells).flatten.length=i * 11:=by
   rw [len_flatten_of (sz:=11) (fun d hd=>by obtain ⟨y,_,rfl⟩:=List.mem_map.1 hd; rfl),List.length_map,List.length_append,List.length_map,List.length_range,hxl]
   have:min i l.length+(i - l.length)=i:=by omega
   rw [this]
  have hge:11≤rest.length:=by
   rw [hrl,show l.length+64 - i=(l.length+64 - (i+1))+1 by omega,Nat.add_mul]
   omega
  have hrl2:(rest.drop 11).length=(l.length+64 - (i+1)) * 11:=by
   rw [List.length_drop,hrl,show l.length+64 - i=(l.length+64 - (i+1))+1 by omega,Nat.add_mul]
   omega
  have hset:∀us:List Value,us.length=11→setL (((xs++(List.range (i - l.length)).map fun j=>rqM (l.length+j)).map Rq.cells).flatten++rest) (i * 11) us=((xs++(List.range (i - l.length)).map fun j=>rqM (l.length+j)).map Rq.cells).flatten++(us++rest.drop 11):=by
   intro us hus
   have h2:=setL_mid ((xs++(List.range (i - l.length)).map fun j=>rqM (l.length+j)).map Rq.cells).flatten (rest.take 11) us (rest.drop 11) (by rw [List.length_take,Nat.min_eq_left hge]; exact hus)
   rw [List.take_append_drop,hpl] at h2
   exact h2
  have hix:∀w:World,(Instr.indexAt 33 (.slice (some ⟨g,0,none⟩) (l.length+64) (l.length+64)) (.int .i64 i)).run π w=.ok (.pointer (some ⟨g,0+(i:Int).toNat * info.size,none⟩)) w:=fun w=>run_indexAt Tryz.underlying33 hinfo g 0 (l.length+64) (l.length+64) .i64 i (by omega) (by omega) w
  refine ⟨fun hin=>?_,fun hin=>?_⟩
  ·have hil:i < l.length:=by omega
   have hmem:l[i] ∈ l:=List.getElem_mem hil
   obtain ⟨b,p,cs,hp,_,hcv,hc⟩:=(rowR_rd Rq.cells_len (hx w2 hS.drop.drop).1 rfl).ix el33 .i64 i hil
   subst hcv
   refine r1 (hp _) (r_loadN ag35 (xs:=l[i].cells) rfl (fun j u hu=>by rw [add_addr]; exact hc j u hu) ?_)
   refine (ih l[i] hmem (List.mem_cons_of_mem _ (List.mem_cons_of_mem _ ho)) (fun w hw=>(hx w hw.drop.drop).2 _ hmem) hS).mono fun r w3 ⟨q',hr,hqs,hS⟩=>?_
   subst hr
   have hqo:=(WdQ.rd q' (WfQ_st _ _ hqs.symm (hwf _ hmem)) hS).ones
   refine r1 (hix _) ?_
   refine r_store_ixN hS.swap el33 ag35 .i64 i (by omega) (hix _) (us:=q'.cells) rfl hqo fun w4 hS=>hj w4 fun _=>?_
   rw [wr_i64 (x:=(i:Int)+1) (by omega) (by omega)]
   refine ⟨m - 1,by omega,i+1,xs++[q'],rest.drop 11,rfl,by omega,by rw [List.length_append,hxl]; simp only [List.length_singleton]; omega,?_,hrl2,?_⟩
   ·rw [List.take_succ_eq_append_getElem hil,List.map_append,List.map_append,hst]
    simp [hqs]
   ·rw [hset _ rfl] at hS
    have e0:i - l.length=0:=by omega
    have e1:i+1 - l.length=0:=by omega
    rw [e0] at hS
    rw [e1]
    have e2:(((xs++[q'])++(List.range 0).map fun j=>rqM (l.length+j)).map Rq.cells).flatten++rest.drop 11=((xs++(List.range 0).map fun j=>rqM (l.length+j)).map Rq.cells).flatten++(q'.cells++rest.drop 11):=by simp
    have e3:(xs++[q']).map WdQ=xs.map WdQ++[WdQ q']:=by simp
    rw [e2,e3]
    exact (((hS.pick 1).pick 2).all_snoc).swap
  ·rw [wr_i64 (x := -3000000 - (i:Int)) (by omega) (by omega)]
   generalize hs : -3000000 - (i:Int)=s
   refine r_build (cells:=(rqC ⟨0,[],[],[],0,false,false,s,0,[]⟩ (.slice none 0 0) (.slice none 0 0) (.slice none 0 0) (.slice none 0 0)).toArray) (by kernel_rfl) ?_
   subst hs
   refine r1 (hix _) ?_
   refine r_store_ixN hS el33 ag35 .i64 i (by omega) (hix _) (us:=(rqM i).cells) rfl (rqC_ones rfl rfl rfl rfl) fun w4 hS=>hj w4 fun _=>?_
   rw [wr_i64 (x:=(i:Int)+1) (by omega) (by omega)]
   refine ⟨m - 1,by omega,i+1,xs,rest.drop 11,rfl,by omega,by rw [hxl]; omega,?_,hrl2,?_⟩
   ·rw [hst,List.take_of_length_le (by omega),List.take_of_length_le (by omega)]
   ·rw [hset _ rfl] at hS
    have e1:i+1 - l.length=(i - l.length)+1:=by omega
    have e4:l.length+(i - l.length)=i:=by omega
    have e2:((xs++(List.range (i+1 - l.length)).map fun j=>rqM (l.length+j)).map Rq.cells).flatten++rest.drop 11=((xs++(List.range (i - l.length)).map fun j=>rqM (l.length+j)).map Rq.cells).flatten++((rqM i).cells++rest.drop 11):=by
     rw [e1,List.range_succ]
     simp [e4]
    rw [e2]
    exact hS
 ·obtain rfl:i=l.length+64:=by omega
  (try simp only [o_add,o_sub,o_lss,cond_decide,hlt,decide_false,condF])
  refine r1 (run_slice_to el33 _ _ _ .i64 _ (by omega) (by omega) _) ?_
  simp only [Int.toNat_natCast]
  have hr0:rest=[]:=List.eq_nil_of_length_eq_zero (by rw [hrl,Nat.sub_self,Nat.zero_mul])
  have hxl2:xs.length=l.length:=by rw [hxl]; omega
  have e1:xs++(List.range (l.length+64 - l.length)).map (fun j=>rqM (l.length+j))=wide rqM xs:=by
   unfold wide
   rw [hxl2,Nat.add_sub_cancel_left]
  rw [hr0,List.append_nil,e1] at hS
  rw [List.take_of_length_le (by omega)] at hst
  exact ⟨g,xs,rfl,hxl2,hst,own_whole hS⟩
end
end Go.Proofs.YtfijkedmbaghmaaGreatDoor

/- WideRequest, WideTxn; SpareRequest. -/
set_option linter.unusedVariables false
set_option linter.unusedSimpArgs false
namespace Go.Proofs.YtfijkedmbaghmaaGreatDoor
open Go.Sh
open Tryz renaming prog → π
section
variable (Z:PZ) {o w:World} {R As:List HProp}
theorem wideQ (hT:Tab o) (q:Rq) (hw:WfQ q):∀{w:World} {R:List HProp},old o ∈ R→(Ent o R fun w=>RdQ w q)→St o w R→CallV π Z 80 #[.agg q.cells.toArray] w fun r w'=>∃q',r=.agg q'.cells.toArray∧q'.st=q.st∧St o w' (WdQ q'::R):=by
 induction q using Rq.ind with | h q ih=>?_
 intro w R ho hx h
 refine f80.calls ?_
 unfold f80.sh
 refine r_box _ _ h fun g1 w1 hS=>?_
 refine r_alloc hS ze35 fun g2 w2 hS=>?_
 have hS:St o w2 (blk g2 35 (rqC zf (.slice none 0 0) (.slice none 0 0) (.slice none 0 0) (.slice none 0 0))::blk g1 35 q.cells::R):=hS
 have hq:=(hx w2 hS.drop.drop).ones
 (try simp only [fa_35_10,Nat.zero_add,fa_35_9,fa_35_3,fa_35_2])
 refine r_load one30 (hS.at m1 2 rfl) ?_
 refine (wideB Z (l:=q.f.data) hS (fun w hS=>(hx w hS.drop.drop).flat.data) hw.flat.data).mono fun vd w5 ⟨ga,hr,hS⟩=>?_
 subst hr
 refine r_store (hS.pick 2) one30 (by simp [Rq.cells,rqC]) rfl fun w6 hS=>?_
 have hS:St o w6 (blk g1 35 (rqC q.f (wv ga q.f.data.length) q.va q.vw q.vo)::blk ga 5 (cb (q.f.data++marks q.f.data.length))::blk g2 35 (rqC zf (.slice none 0 0) (.slice none 0 0) (.slice none 0 0) (.slice none 0 0))::R):=hS
 refine r_load one31 (hS.at m0 3 rfl) ?_
 refine (wideEn Z (l:=q.f.acl) hT (List.mem_cons_of_mem _ (List.mem_cons_of_mem _ (List.mem_cons_of_mem _ ho))) (fun w hS=>(hx w hS.drop.drop.drop).flat.acl) hw.flat.acl.1 hS).mono fun va w7 ⟨gb,hr,hS⟩=>?_
 subst hr
 refine r_store hS.swap one31 (by simp [rqC]) rfl fun w8 hS=>?_
 have hS:St o w8 (blk g1 35 (rqC q.f (wv ga q.f.data.length) (wv gb q.f.acl.length) q.vw q.vo)::blk gb 178 ((wide enM q.f.acl).map enC).flatten::blk ga 5 (cb (q.f.data++marks q.f.data.length))::blk g2 35 (rqC zf (.slice none 0 0) (.slice none 0 0) (.slice none 0 0) (.slice none 0 0))::R):=hS
 refine r_load one32 (hS.at m0 9 rfl) ?_
 refine (wideId Z (l:=q.f.who) hT (List.mem_cons_of_mem _ (List.mem_cons_of_mem _ (List.mem_cons_of_mem _ (List.mem_cons_of_mem _ ho)))) (fun w hS=>(hx w hS.drop.drop.drop.drop).flat.who) hw.flat.who.1 hS).mono fun vw w9 ⟨gc,hr,hS⟩=>?_
 subst hr
 refine r_store hS.swap one32 (by simp [rqC]) rfl fun w10 hS=>?_
 have hS:St o w10 (blk g1 35 (rqC q.f (wv ga q.f.data.length) (wv gb q.f.acl.length) (wv gc q.f.who.length) q.vo)::blk gc 175 ((wide idM q.f.who).map idC).flatten::blk gb 178 ((wide enM q.f.acl).map enC).flatten::blk ga 5 (cb (q.f.data++marks q.f.data.length))::blk g2 35 (rqC zf (.slice none 0 0) (.slice none 0 0) (.slice none 0 0) (.slice none 0 0))::R):=hS
 refine r_load one33 (hS.at m0 10 rfl) ?_
 refine (wideQs Z q.ops hw.len hw.all (List.mem_cons_of_mem _ (List.mem_cons_of_mem _ (List.mem_cons_of_mem _ (List.mem_cons_of_mem _ (List.mem_cons_of_mem _ ho))))) (fun x hm {w} {R} ho hx h=>ih x hm (hw.all x hm) ho hx h) (fun w hS=>⟨(hx w hS.drop.drop.drop.drop.drop).row,(hx w hS.drop.drop.drop.drop.drop).all⟩) hS).mono fun vo w11 ⟨gd,l',hr,hll,hst,hS⟩=>?_
 subst hr
 refine r_store (hS.pick 2) one33 (by simp [rqC]) rfl fun w12 hS=>?_
 have hS:St o w12 (blk g1 35 (rqC q.f (wv ga q.f.data.length) (wv gb q.f.acl.length) (wv gc q.f.who.length) (wv gd q.ops.length))::blk gd 35 ((wide rqM l').map Rq.cells).flatten::satH (l'.map WdQ)::blk gc 175 ((wide idM q.f.who).map idC).flatten::blk gb 178 ((wide enM q.f.acl).map enC).flatten::blk ga 5 (cb (q.f.data++marks q.f.data.length))::blk g2 35 (rqC zf (.slice none 0 0) (.slice none 0 0) (.slice none 0 0) (.slice none 0 0))::R):=hS
 refine r_loadN ag35 (xs:=rqC q.f (wv ga q.f.data.length) (wv gb q.f.acl.length) (wv gc q.f.who.length) (wv gd q.ops.length)) rfl (hS.cells_at m0 0 (whole_at _)) ?_
 refine r_storeN (hS.pick 6) ag35 (xs:=rqC q.f (wv ga q.f.data.length) (wv gb q.f.acl.length) (wv gc q.f.who.length) (wv gd q.ops.length)) rfl (show 0+11≤11 from Nat.le_refl _) (rqC_ones rfl rfl rfl rfl) fun w13 hS=>?_
 rw [setL_all _ _ (by rfl)] at hS
 refine r_resN ag35 (xs:=rqC q.f (wv ga q.f.data.length) (wv gb q.f.acl.length) (wv gc q.f.who.length) (wv gd q.ops.length)) rfl (hS.cells_at m0 0 (whole_at _)) ?_
 refine ⟨.mk q.f (wv ga q.f.data.length) (wv gb q.f.acl.length) (wv gc q.f.who.length) (wv gd q.ops.length) l',rfl,(st_iff _ _).2 ⟨rfl,hst⟩,?_⟩
 rw [WdQ_eq]
 have b1:St o w13 (blk gd 35 ((wide rqM l').map Rq.cells).flatten::satH (l'.map WdQ)::blk gc 175 ((wide idM q.f.who).map idC).flatten::blk gb 178 ((wide enM q.f.acl).map enC).flatten::blk ga 5 (cb (q.f.data++marks q.f.data.length))::R):=hS.drop.drop
 have b2:St o w13 ((fun h=>∃g:Nat,wv gd q.ops.length=wv g l'.length∧blk g 35 ((wide rqM l').map Rq.cells).flatten h)::satH (l'.map WdQ)::blk gc 175 ((wide idM q.f.who).map idC).flatten::blk gb 178 ((wide enM q.f.acl).map enC).flatten::blk ga 5 (cb (q.f.data++marks q.f.data.length))::R):=b1.mono fun h hh=>⟨gd,by rw [hll],hh⟩
 have b3:=b2.sep_intro
 have b4:=WdF.shut (f:=q.f) (g1:=ga) (g2:=gb) (g3:=gc) (((b3.pick 1).pick 2).pick 3)
 exact b4.sep_intro
theorem wideT (hT:Tab o) (ho:old o ∈ R) (t:Tx) (hw:WfQ t.q) (hx:Ent o R fun w=>RdQ w t.q) (h:St o w R):CallV π Z 27 #[.agg t.cells.toArray] w fun r w'=>∃t':Tx,r=.agg t'.cells.toArray∧t'.hd=t.hd∧t'.q.st=t.q.st∧St o w' (WdQ t'.q::R):=by
 refine f27.calls ?_
 unfold f27.sh
 refine r_box _ _ h fun g1 w1 hS=>?_
 refine r_alloc hS ze37 fun g2 w2 hS=>?_
 have hS:St o w2 (blk g2 37 zTx::blk g1 37 t.cells::R):=hS
 (try simp only [fa_37_2,Nat.zero_add])
 refine r_loadN ag35 (xs:=t.q.cells) rfl (hS.cells_at m1 5 (rq_at t)) ?_
 refine (wideQ Z hT t.q hw (List.mem_cons_of_mem _ (List.mem_cons_of_mem _ ho)) (fun w hw=>hx w hw.drop.drop) hS).mono fun r w3 ⟨q',hr,hst,hS⟩=>?_
 subst hr
 have hqo:=(WdQ.rd _ (WfQ_st _ _ hst.symm hw) hS).ones
 refine r_storeN (hS.pick 2) ag35 (xs:=q'.cells) rfl (show 5+11≤16 from Nat.le_refl _) hqo fun w4 hS=>?_
 have hS:St o w4 (blk g1 37 (Tx.cells ⟨t.e,t.n,t.sv,t.bo,t.nu,q'⟩)::WdQ q'::blk g2 37 zTx::R):=hS
 refine r_loadN ag37 (xs:=Tx.cells ⟨t.e,t.n,t.sv,t.bo,t.nu,q'⟩) rfl (hS.cells_at m0 0 (whole_at _)) ?_
 refine r_storeN (hS.pick 2) ag37 (xs:=Tx.cells ⟨t.e,t.n,t.sv,t.bo,t.nu,q'⟩) rfl (show 0+16≤16 from Nat.le_refl _) (txC_ones hqo) fun w5 hS=>?_
 rw [setL_all _ _ (by rfl)] at hS
 refine r_resN ag37 (xs:=Tx.cells ⟨t.e,t.n,t.sv,t.bo,t.nu,q'⟩) rfl (hS.cells_at m0 0 (whole_at _)) ?_
 exact ⟨⟨t.e,t.n,t.sv,t.bo,t.nu,q'⟩,rfl,rfl,hst,hS.drop.drop⟩
theorem spareQs {g:Nat} (l:List Rq) (hwl:l.length * 144≤140737488351232) (ho:old o ∈ R)
  (ih:∀x ∈ l,∀{w:World} {R:List HProp},old o ∈ R→St o w (WdQ x::R)→CallV π Z 45 #[.agg x.cells.toArray] w fun r w'=>r=.bool true∧St o w' (WdQ x::R))
  (h:St o w (blk g 35 ((wide rqM l).map Rq.cells).flatten::satH (l.map WdQ)::R)) :
  CallV π Z 136 #[wv g l.length] w fun r w'=>r=.bool true∧St o w' (blk g 35 ((wide rqM l).map Rq.cells).flatten::satH (l.map WdQ)::R):=by
 unfold wv
 refine f136.calls ?_
 unfold f136.sh
 (try simp only [ln_33_3,o_add])
 rw [wr_i64 (x:=(l.length:Int)+64) (by omega) (by omega)]
 refine r1 (run_slice_to el33 _ _ _ .i64 _ (by omega) (by omega) _) ?_
 rw [show ((l.length:Int)+64).toNat=l.length+64 by omega]
 (try simp only [ln_33_3])
 obtain ⟨info,hinfo,hsz,_,_⟩:=el33.info
 refine ⟨fun m y w'=>∃i:Nat,y=.int .i64 i∧m+i=l.length+64∧l.length≤i∧St o w' (blk g 35 ((wide rqM l).map Rq.cells).flatten::satH (l.map WdQ)::R),⟨64,l.length,rfl,by omega,by omega,h⟩,?_⟩
 clear h
 rintro m _ w1 ⟨i,rfl,hi,hli,hS⟩ _
 by_cases hlt:(i:Int) < ((l.length+64:Nat):Int)
 ·(try simp only [o_add,o_sub,o_lss,hlt,decide_true,condT])
  refine r1 (run_indexAt Tryz.underlying33 hinfo g 0 (l.length+64) (l.length+64) .i64 i (by omega) (by omega) _) ?_
  rw [hsz]
  simp only [Nat.zero_add,Int.toNat_natCast]
  (try simp only [fa_35_7])
  refine r_load one2 (v:=.int .i64 (-3000000 - (i:Int))) (hS.at m0 _ (flatM_at (c:=Rq.cells) (sz:=11) Rq.cells_len _ i 7 (rqM i) _ (wide_hi _ _ _ hli (by omega)) rfl)) ?_
  rw [wr_i64 (x := -3000000 - (i:Int)) (by omega) (by omega)]
  (try simp only [o_eql,beq_self_eq_true,o_not,Bool.not_true,condF])
  rw [wr_i64 (x:=(i:Int)+1) (by omega) (by omega)]
  exact ⟨m - 1,by omega,i+1,rfl,by omega,by omega,hS⟩
 ·(try simp only [o_add,o_sub,o_lss,hlt,decide_false,condF])
  refine ⟨fun m y w'=>∃i:Nat,y=.int .i64 i∧m+i=l.length∧St o w' (blk g 35 ((wide rqM l).map Rq.cells).flatten::satH (l.map WdQ)::R),⟨l.length,0,rfl,by omega,hS⟩,?_⟩
  clear hS hlt hli hi
  rintro m2 _ w2 ⟨i2,rfl,hi,hS⟩ _
  by_cases hlt:(i2:Int) < (l.length:Int)
  ·have hil:i2 < l.length:=by omega
   have hmem:l[i2] ∈ l:=List.getElem_mem hil
   (try simp only [o_add,o_lss,hlt,decide_true,condT])
   refine r1 (run_indexAt Tryz.underlying33 hinfo g 0 l.length (l.length+64) .i64 i2 (by omega) (by omega) _) ?_
   rw [hsz]
   simp only [Nat.zero_add,Int.toNat_natCast]
   refine r_loadN ag35 (xs:=l[i2].cells) rfl (hS.cells_at m0 (i2 * 11) fun j v hv=>flatM_at (c:=Rq.cells) (sz:=11) Rq.cells_len _ i2 j l[i2] _ (wide_lo _ _ _ hil) hv) ?_
   obtain ⟨As,Bs,e⟩:=List.append_of_mem hmem
   have e2:l.map WdQ=As.map WdQ++WdQ l[i2]::Bs.map WdQ:=by
    conv=>lhs; rw [e]
    rw [List.map_append,List.map_cons]
   rw [e2] at hS
   refine (ih l[i2] hmem (List.mem_cons_of_mem _ (List.mem_cons_of_mem _ ho)) hS.swap.all_out).mono fun r w3 ⟨hr,hS⟩=>?_
   have hS:=hS.all_in.swap
   rw [← e2] at hS
   subst hr
   (try simp only [o_not,Bool.not_true,condF])
   rw [wr_i64 (x:=(i2:Int)+1) (by omega) (by omega)]
   exact ⟨m2 - 1,by omega,i2+1,rfl,by omega,hS⟩
  ·(try simp only [o_add,o_lss,hlt,decide_false,condF])
   exact ⟨by first | rfl | trivial,hS⟩
theorem spareQ (hT:Tab o) (q:Rq) (hw:WfQ q):∀{w:World} {R:List HProp},old o ∈ R→St o w (WdQ q::R)→CallV π Z 45 #[.agg q.cells.toArray] w fun r w'=>r=.bool true∧St o w' (WdQ q::R):=by
 induction q using Rq.ind with | h q ih=>?_
 intro w R ho h
 rw [WdQ_eq] at h
 have a:=h.sep
 obtain ⟨g1,g2,g3,⟨ev1,ev2,ev3⟩,b⟩:=WdF.open a
 have c:=((b.pick 3).sep)
 obtain ⟨g4,d⟩:=c.ex
 obtain ⟨ev4,d⟩:=d.pure
 refine f45.calls ?_
 unfold f45.sh
 refine r_box _ _ d fun g w1 hS=>?_
 have hS:St o w1 (blk g 35 (rqC q.f (wv g1 q.f.data.length) (wv g2 q.f.acl.length) (wv g3 q.f.who.length) (wv g4 q.ops.length))::blk g4 35 ((wide rqM q.ops).map Rq.cells).flatten::satH (q.ops.map WdQ)::blk g1 5 (cb (q.f.data++marks q.f.data.length))::blk g2 178 ((wide enM q.f.acl).map enC).flatten::blk g3 175 ((wide idM q.f.who).map idC).flatten::R):=by
  have e:(Value.agg q.cells.toArray).cells.toList=rqC q.f (wv g1 q.f.data.length) (wv g2 q.f.acl.length) (wv g3 q.f.who.length) (wv g4 q.ops.length):=by
   show rqC q.f q.vd q.va q.vw q.vo=_
   rw [ev1,ev2,ev3,ev4]
  rw [e] at hS
  exact hS
 have ho':old o ∈ (blk g 35 (rqC q.f (wv g1 q.f.data.length) (wv g2 q.f.acl.length) (wv g3 q.f.who.length) (wv g4 q.ops.length))::blk g4 35 ((wide rqM q.ops).map Rq.cells).flatten::satH (q.ops.map WdQ)::blk g1 5 (cb (q.f.data++marks q.f.data.length))::blk g2 178 ((wide enM q.f.acl).map enC).flatten::blk g3 175 ((wide idM q.f.who).map idC).flatten::R):=List.mem_cons_of_mem _ (List.mem_cons_of_mem _ (List.mem_cons_of_mem _ (List.mem_cons_of_mem _ (List.mem_cons_of_mem _ (List.mem_cons_of_mem _ ho)))))
 (try simp only [fa_35_3,Nat.zero_add,fa_35_9,fa_35_10,fa_35_2])
 refine r_load one30 (hS.at m0 2 rfl) ?_
 refine (spareB Z (g:=g1) rfl hw.flat.data (hS.mem_blk m3)).mono fun r w2 ⟨hr,hww⟩=>?_
 subst hr; subst hww
 (try simp only [o_pickT,guardW_true])
 refine r_load one31 (hS.at m0 3 rfl) ?_
 refine (spareEn Z (g:=g2) hT ho' rfl hw.flat.acl.1 m4 hS).mono fun r w3 ⟨hr,hS⟩=>?_
 subst hr
 (try simp only [o_pickT,guardW_true])
 refine r_load one32 (hS.at m0 9 rfl) ?_
 refine (spareId Z (g:=g3) hT ho' rfl hw.flat.who.1 m5 hS).mono fun r w4 ⟨hr,hS⟩=>?_
 subst hr
 (try simp only [o_pickT,guardW_true])
 refine r_load one33 (hS.at m0 10 rfl) ?_
 refine (spareQs Z (g:=g4) q.ops hw.len (R:=blk g 35 (rqC q.f (wv g1 q.f.data.length) (wv g2 q.f.acl.length) (wv g3 q.f.who.length) (wv g4 q.ops.length))::blk g1 5 (cb (q.f.data++marks q.f.data.length))::blk g2 178 ((wide enM q.f.acl).map enC).flatten::blk g3 175 ((wide idM q.f.who).map idC).flatten::R) (List.mem_cons_of_mem _ (List.mem_cons_of_mem _ (List.mem_cons_of_mem _ (List.mem_cons_of_mem _ ho)))) (fun x hm {w} {R} ho h=>ih x hm (hw.all x hm) ho h) ((hS.pick 2).pick 2)).mono fun r w5 ⟨hr,hS⟩=>?_
 subst hr
 (try simp only [])
 refine ⟨by first | rfl | trivial,?_⟩
 have b1:=(hS.pick 2).drop
 have b2:St o w5 ((fun h=>∃g:Nat,q.vo=wv g q.ops.length∧blk g 35 ((wide rqM q.ops).map Rq.cells).flatten h)::satH (q.ops.map WdQ)::blk g1 5 (cb (q.f.data++marks q.f.data.length))::blk g2 178 ((wide enM q.f.acl).map enC).flatten::blk g3 175 ((wide idM q.f.who).map idC).flatten::R):=b1.mono fun h hh=>⟨g4,ev4,hh⟩
 have b3:=WdF.shut (f:=q.f) (g1:=g1) (g2:=g2) (g3:=g3) (b2.sep_intro.put 3)
 rw [← ev1,← ev2,← ev3] at b3
 rw [WdQ_eq]
 exact b3.sep_intro
end

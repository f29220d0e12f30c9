/- The document's bytes of numbers. -/
import Derived.Test.YtfijkedmbaghmaaGreatDoorP2
set_option linter.unusedVariables false
set_option linter.unusedSimpArgs false
namespace Go.Proofs.YtfijkedmbaghmaaGreatDoor
open Go.Sh
open Tryz renaming prog → π
theorem u8_some (v:Int):∃b:UInt8,IntKind.u8.wrap v=(b.toNat:Int):=⟨UInt8.ofNat (v % 256).toNat,by rw [byte_toNat,wrap_u8]⟩
theorem u8_wrap (v:Int):IntKind.u8.wrap v=((UInt8.ofNat (v % 256).toNat).toNat:Int):=by rw [byte_toNat,wrap_u8]
theorem cb_set (l:List UInt8) (i:Nat) (b:UInt8):(cb l).set i (.int .u8 b.toNat)=cb (l.set i b):=by simp [cb,List.map_set]
theorem blk_rd {o w:World} {As:List HProp} {g n c:Nat} {l k:List UInt8} (hS:St o w As) (hm:blk g 5 (cb (l++k)) ∈ As) (hn:n=l.length) (hl:l.length≤140737488355328):Rd w 1 (.slice (some ⟨g,0,none⟩) n c) n (cb l):=by
 subst hn
 refine ⟨by simp [cb],by simp only [maxLen]; omega,.inr ⟨_,c,rfl,fun j u hu=>?_⟩⟩
 rw [add_addr,Nat.zero_add,cell_of_blk (hS.mem_blk hm),cb_append,List.getElem?_append_left (List.getElem?_eq_some_iff.1 hu).1]
 exact hu
theorem i32_range (x:Int) : -2147483648≤IntKind.i32.wrap x∧IntKind.i32.wrap x≤2147483647:=by
 simp only [IntKind.wrap,IntKind.bits,IntKind.signed]
 simp
 split <;> omega
theorem enc_mod (n:Nat) (v:Int):enc n (v % 256 ^ n)=enc n v:=by
 suffices h:∀m,n≤m→enc n (v % 256 ^ m)=enc n v from h n (Nat.le_refl _)
 intro m hm
 induction n with
 | zero=>rfl
 | succ n ih=>
  simp only [enc]
  rw [ih (by omega)]
  congr 3
  obtain ⟨k,rfl⟩:∃k,m=n+(k+1):=⟨m - n - 1,by omega⟩
  have hp:(0:Int) < 256 ^ n:=Int.pow_pos (by omega)
  rw [Int.pow_add,Int.emod_def v (256 ^ n * 256 ^ (k+1)),Int.mul_assoc,Int.sub_eq_add_neg,← Int.mul_neg,Int.add_mul_ediv_left _ _ (by omega),Int.pow_succ]
  have e2 : -(256 ^ k * 256 * (v / (256 ^ n * (256 ^ k * 256))))=256 * (-(256 ^ k * (v / (256 ^ n * (256 ^ k * 256))))):=by
   rw [Int.mul_comm (256 ^ k) 256,Int.mul_assoc,Int.mul_neg]
  rw [e2]
  omega
section
variable (Z:PZ) {o w:World} {R:List HProp} {g:Nat} {l k:List UInt8}
theorem refDigits (v:Int) (hv:0≤v∧v≤18446744073709551615) (n:Nat) (hn:n≤8) (h:St o w R) :
  CallV π Z 168 #[.int .u64 v,.int .i64 n] w fun r w'=>St o w' (own 5 1 r n (cb (enc n v))::R):=by
 refine f168.calls ?_
 unfold f168.sh
 refine r_make el30 h .i64 .i64 n (by omega) (by simp only [maxLen]; omega) fun g w1 hS=>?_
 (try simp only [o_sub])
 rw [wr_i64 (x:=(n:Int) - 1) (by omega) (by omega)]
 refine ⟨fun m x y w'=>∃(q:Int) (xs:List Value),x=.int .u64 q∧y=.int .i64 ((m:Int) - 1)∧0≤q∧q≤18446744073709551615∧m≤n∧xs.length=n∧q=v / 256 ^ (n - m)∧(∀j,m≤j→j < n→xs[j]? = (cb (enc n v))[j]?)∧St o w' (own 5 1 (.slice (some ⟨g,0,none⟩) n n) n xs::R),
  ⟨n,v,_,rfl,rfl,hv.1,hv.2,Nat.le_refl _,by rw [Array.length_toList,size_madeCells,Nat.mul_one],by simp,fun j h1 h2=>by omega,hS⟩,?_⟩
 rintro m _ _ w2 ⟨q,xs,rfl,rfl,hq0,hq1,hmn,hxl,hqe,hpt,hS⟩ _
 (try simp only [o_sub,o_geq,cond_decide])
 refine ⟨fun hge=>?_,fun hlt=>?_⟩
 ·obtain ⟨i,rfl⟩:∃j,m=j+1:=⟨m - 1,by omega⟩
  rw [show (((i+1:Nat):Int) - 1)=(i:Int) by omega]
  refine r1 (run_rem _ _ _ .u64 q 256 (by omega)) ?_
  (try simp only [cv_147_5])
  obtain ⟨info,hinfo,hsz,_,_⟩:=el30.info
  refine r1 (run_indexAt Tryz.underlying30 hinfo g 0 n n .i64 i (by omega) (by omega) _) ?_
  rw [hsz]
  simp only [Nat.mul_one,Nat.zero_add,Int.toNat_natCast]
  have hqm:q.tmod 256=q % 256:=Int.tmod_eq_emod_of_nonneg hq0
  rw [hqm,u8_wrap,Int.emod_emod]
  refine r_store_own hS one5 (by omega) rfl fun w3 hS=>?_
  refine r1 (run_quo _ _ _ .u64 q 256 (by omega)) ?_
  have hqd:q.tdiv 256=q / 256:=Int.tdiv_eq_ediv_of_nonneg hq0
  skip
  rw [hqd,wr_u64 (x:=q / 256) (by omega) (by omega),wr_i64 (x:=(i:Int) - 1) (by omega) (by omega)]
  refine ⟨i,by omega,q / 256,_,rfl,rfl,by omega,by omega,by omega,by simpa using hxl,?_,fun j h1 h2=>?_,hS⟩
  ·rw [hqe,show n - i=(n - (i+1))+1 by omega,Int.pow_succ,Int.ediv_ediv_of_nonneg (by exact Int.le_of_lt (Int.pow_pos (by omega)))]
  ·by_cases e:j=i
   ·subst e
    rw [List.getElem?_set_self (by omega)]
    have key:∀n v j,j < n→(cb (enc n v))[j]? = some (.int .u8 (UInt8.ofNat ((v / 256 ^ (n - (j+1))) % 256).toNat).toNat):=by
     intro n v
     induction n with
     | zero=>intro j hj; omega
     | succ n ih=>
      intro j hj
      cases j with
      | zero=>simp [enc,cb]
      | succ j=>
       have:=ih j (by omega)
       simp only [enc,cb,List.map_cons,List.getElem?_cons_succ] at this ⊢
       rw [this,show n+1 - (j+1+1)=n - (j+1) by omega]
    rw [key n v j (by omega),← hqe]
   ·rw [List.getElem?_set_ne (Ne.symm e)]
    exact hpt j (by omega) h2
 ·obtain rfl:m=0:=by omega
  have hxs:xs=cb (enc n v):=by
   apply List.ext_getElem?
   intro j
   by_cases hj:j < n
   ·exact hpt j (by omega) hj
   ·rw [List.getElem?_eq_none (by omega),List.getElem?_eq_none (by rw [cb_length,enc_length]; omega)]
  rw [hxs] at hS
  exact hS
theorem refInt32 (v:Int) (hv : -2147483648≤v∧v≤2147483647) (h:St o w R) :
  CallV π Z 216 #[.int .i32 v] w fun r w'=>St o w' (own 5 1 r 4 (cb (enc 4 v))::R):=by
 refine f216.calls ?_
 unfold f216.sh
 (try simp only [cv_21_2,o_add,o_lss,cond_decide])
 rw [wr_i64 (x:=v) (by omega) (by omega)]
 intro j hj
 refine ⟨fun hlt=>?_,fun hge=>?_⟩
 ·rw [wr_i64 (x:=v+4294967296) (by omega) (by omega)]
  refine hj _ w fun _=>?_
  (try simp only [cv_2_147])
  rw [wr_u64 (x:=v+4294967296) (by omega) (by omega)]
  have e:enc 4 (v+4294967296)=enc 4 v:=by rw [← enc_mod 4 (v+4294967296),← enc_mod 4 v]; congr 1; omega
  have:=refDigits Z (v+4294967296) (by omega) 4 (by omega) h
  rw [e] at this
  exact this
 ·refine hj _ w fun _=>?_
  (try simp only [cv_2_147])
  rw [wr_u64 (x:=v) (by omega) (by omega)]
  exact refDigits Z v (by omega) 4 (by omega) h
theorem refUint32 (v:Int) (hv:0≤v∧v≤4294967295) (h:St o w R) :
  CallV π Z 70 #[.int .u32 v] w fun r w'=>St o w' (own 5 1 r 4 (cb (enc 4 v))::R):=by
 refine f70.calls ?_
 unfold f70.sh
 (try simp only [cv_23_147])
 rw [wr_u64 (x:=v) (by omega) (by omega)]
 exact refDigits Z v (by omega) 4 (by omega) h
theorem enc_neg (v:Int):(enc 8 (-1 - v)).map (fun b=>255 - b)=enc 8 v:=by
 have key:∀i:Nat,i < 8→(255 - UInt8.ofNat (((-1 - v) / 256 ^ i) % 256).toNat:UInt8)=UInt8.ofNat ((v / 256 ^ i) % 256).toNat:=by
  intro i hi
  apply UInt8.toNat_inj.1
  have h1:(-1 - v) / 256 ^ i % 256=255 - v / 256 ^ i % 256:=by
   match i,hi with
   | 0,_=>omega
   | 1,_=>omega
   | 2,_=>omega
   | 3,_=>omega
   | 4,_=>omega
   | 5,_=>omega
   | 6,_=>omega
   | 7,_=>omega
  rw [h1]
  have h2:(255 - v / 256 ^ i % 256).toNat < 256:=by omega
  have h3:(v / 256 ^ i % 256).toNat < 256:=by omega
  rw [UInt8.toNat_sub_of_le _ _ (by rw [UInt8.le_iff_toNat_le,UInt8.toNat_ofNat_of_lt' h2]; change _≤255; omega),UInt8.toNat_ofNat_of_lt' h2,UInt8.toNat_ofNat_of_lt' h3]
  change 255 - _=_
  omega
 simp only [enc,List.map_cons,List.map_nil,key 0 (by omega),key 1 (by omega),key 2 (by omega),key 3 (by omega),key 4 (by omega),key 5 (by omega),key 6 (by omega),key 7 (by omega)]
theorem refInt64 (v:Int) (hv : -9223372036854775808≤v∧v≤9223372036854775807) (h:St o w R) :
  CallV π Z 177 #[.int .i64 v] w fun r w'=>St o w' (own 5 1 r 8 (cb (enc 8 v))::R):=by
 refine f177.calls ?_
 unfold f177.sh
 (try simp only [cv_2_147,o_sub,o_geq,cond_decide])
 refine ⟨fun hge=>?_,fun hlt=>?_⟩
 ·rw [wr_u64 (x:=v) (by omega) (by omega)]
  exact refDigits Z v (by omega) 8 (by omega) h
 ·rw [wr_i64 (x := -1 - v) (by omega) (by omega),wr_u64 (x := -1 - v) (by omega) (by omega)]
  refine (refDigits Z (-1 - v) (by omega) 8 (by omega) h).mono fun r w1 hS=>?_
  obtain ⟨a,c,rfl⟩:=hS.own_form
  have hl8:=enc_length 8 (-1 - v)
  refine ⟨fun m y w'=>∃i:Nat,y=.int .i64 i∧m+i=8∧St o w' (own 5 1 (.slice a 8 c) 8 (cb (((enc 8 (-1 - v)).take i).map (fun b=>255 - b)++(enc 8 (-1 - v)).drop i))::R),⟨8,0,rfl,rfl,by simpa using hS⟩,?_⟩
  rintro m _ w2 ⟨i,rfl,hi,hS⟩ _
  (try simp only [o_add,ln_30_3,o_lss,cond_decide])
  refine ⟨fun hlt=>?_,fun hge=>?_⟩
  ·have hi8:i < 8:=by omega
   have hcur:(((enc 8 (-1 - v)).take i).map (fun b=>255 - b)++(enc 8 (-1 - v)).drop i).length=8:=by rw [List.length_append,List.length_map,List.length_take,List.length_drop]; omega
   obtain ⟨p,hp,hpc⟩:=rd_index (hS.own_rd List.mem_cons_self) i (by omega)
   refine r1 (hp _) (r_load one5 hpc ?_)
   have e1:(((enc 8 (-1 - v)).take i).map (fun b=>255 - b)++(enc 8 (-1 - v)).drop i)[i]'(by omega)=(enc 8 (-1 - v))[i]'(by omega):=by
    rw [List.getElem_append_right (by rw [List.length_map,List.length_take]; omega)]
    simp only [List.length_map,List.length_take,List.getElem_drop]
    congr 1
    omega
   rw [e1]
   (try simp only [o_sub])
   have hb:=((enc 8 (-1 - v))[i]'(by omega)).toNat_lt
   rw [wr_u8 (x:=255 - (((enc 8 (-1 - v))[i]'(by omega)).toNat:Int)) (by omega) (by omega),wr_i64 (x:=(i:Int)+1) (by omega) (by omega)]
   refine r1 (hp _) ?_
   refine r_store_ix hS el30 one5 .i64 i (by omega) (hp w2) rfl fun w3 hS=>?_
   refine ⟨m - 1,by omega,i+1,rfl,by omega,?_⟩
   have e2:(255:Int) - (((enc 8 (-1 - v))[i]'(by omega)).toNat:Int)=((255 - (enc 8 (-1 - v))[i]'(by omega):UInt8).toNat:Int):=by
    rw [UInt8.toNat_sub_of_le _ _ (by rw [UInt8.le_iff_toNat_le]; change _≤255; omega)]
    change _=((255 - _:Nat):Int)
    omega
   rw [e2,cb_set] at hS
   have e3:(((enc 8 (-1 - v)).take i).map (fun b=>255 - b)++(enc 8 (-1 - v)).drop i).set i (255 - (enc 8 (-1 - v))[i]'(by omega))=((enc 8 (-1 - v)).take (i+1)).map (fun b=>255 - b)++(enc 8 (-1 - v)).drop (i+1):=by
    rw [List.set_append_right _ _ (by rw [List.length_map,List.length_take]; omega),List.take_succ_eq_append_getElem (by omega),List.map_append,List.drop_eq_getElem_cons (show i < (enc 8 (-1 - v)).length by omega)]
    simp only [List.length_map,List.length_take]
    rw [show i - min i (enc 8 (-1 - v)).length=0 by omega,List.set_cons_zero]
    simp only [List.map_cons,List.map_nil,List.append_assoc,List.singleton_append]
   rw [e3] at hS
   exact hS
  ·obtain rfl:i=8:=by omega
   rw [List.take_of_length_le (by omega),List.drop_of_length_le (by omega),List.append_nil,enc_neg] at hS
   exact hS
theorem refInt8 (v:Int) (hv : -128≤v∧v≤127) (h:St o w R) :
  CallV π Z 81 #[.int .i8 v] w fun r w'=>St o w' (own 5 1 r 1 (cb (enc 1 v))::R):=by
 refine f81.calls ?_
 unfold f81.sh
 (try simp only [cv_22_3,o_add,o_lss,cond_decide])
 rw [wr_i64 (x:=v) (by omega) (by omega)]
 intro j hj
 have key:∀q:Int,q % 256=v % 256→(rN π Z (Instr.buildSlice 30 1 #[(0,.int .u8 (IntKind.u8.wrap q))]) w fun r w'=>St o w' (own 5 1 r 1 (cb (enc 1 v))::R)):=fun q hq=>by
  rw [u8_wrap,hq]
  have e:cb (enc 1 v)=[.int .u8 (UInt8.ofNat (v % 256).toNat).toNat]:=by simp [enc,cb]
  rw [e]
  exact r_slice el30 h 1 _ [_] rfl (by omega) (by omega) (by intro u hu; simp at hu; subst hu; rfl) rfl fun g w' hS=>hS
 refine ⟨fun hlt=>?_,fun hge=>?_⟩
 ·rw [wr_i64 (x:=v+256) (by omega) (by omega)]
  refine hj _ w fun _=>?_
  (try simp only [cv_3_5])
  exact key _ (by omega)
 ·refine hj _ w fun _=>?_
  (try simp only [cv_3_5])
  exact key _ rfl
theorem refBool (b:Bool) (h:St o w R) :
  CallV π Z 178 #[.bool b] w fun r w'=>St o w' (own 5 1 r 1 (cb [if b then 1 else 0])::R):=by
 refine f178.calls ?_
 unfold f178.sh
 cases b
 ·(try simp only [condF])
  exact r_slice el30 h 1 _ (cb [0]) rfl (by omega) (by omega) (cb_ones _) rfl fun g w' hS=>hS
 ·(try simp only [condT])
  exact r_slice el30 h 1 _ (cb [1]) rfl (by omega) (by omega) (cb_ones _) rfl fun g w' hS=>hS
theorem refBuffer {x:Value} {n:Nat} (h:St o w R) (hx:Ent o R fun w=>Rd w 1 x n (cb k)) (hl:4+k.length≤140737488355328) :
  CallV π Z 180 #[x] w fun r w'=>St o w' (own 5 1 r (4+k.length) (cb (enc 4 (IntKind.i32.wrap k.length)++k))::R):=by
 have h0:=hx w h
 have hn:=rd_len h0
 obtain ⟨a,c,rfl⟩:=h0.form
 subst hn
 refine f180.calls ?_
 unfold f180.sh
 (try simp only [ln_30_3,cv_3_21])
 have hb:=i32_range
 refine (refInt32 Z _ (hb _) h).mono fun r w1 hS1=>?_
 refine ⟨fun m v y w'=>∃i:Nat,y=.int .i64 i∧m+i=k.length∧St o w' (own 5 1 v (4+i) (cb (enc 4 (IntKind.i32.wrap k.length)++k.take i))::R),⟨k.length,0,rfl,rfl,by simpa using hS1⟩,?_⟩
 rintro m v _ w1 ⟨i,rfl,hi,hS⟩ _
 (try simp only [o_add,o_lss,cond_decide])
 refine ⟨fun hlt=>?_,fun hge=>?_⟩
 ·have hi1:i < k.length:=by omega
  obtain ⟨p,hp,hpc⟩:=rd_index (hx w1 hS.drop) i hi1
  refine r1 (hp _) (r_load one5 hpc ?_)
  refine r_push el30 hS _ rfl (by omega) (by simp only [maxLen]; omega) fun v' w2 hS2=>?_
  skip
  rw [wr_i64 (x:=(i:Int)+1) (by omega) (by omega)]
  refine ⟨m - 1,by omega,i+1,rfl,by omega,?_⟩
  rw [List.take_succ_eq_append_getElem hi1,← List.append_assoc,cb_append]
  exact hS2
 ·obtain rfl:i=k.length:=by omega
  rw [List.take_length] at hS
  exact hS
theorem refText (s:ByteArray) (h:St o w R) (hl:4+s.size≤140737488355328) :
  CallV π Z 237 #[.string s] w fun r w'=>St o w' (own 5 1 r (4+s.size) (cb (enc 4 (IntKind.i32.wrap s.size)++s.data.toList))::R):=by
 refine f237.calls ?_
 unfold f237.sh
 refine r_toBytes s h Tryz.underlying9 el30 Tryz.underlying5 (by simp only [maxLen]; omega) fun v w1 hS=>?_
 have e:byteCells s=cb s.data.toList:=rfl
 rw [e] at hS
 have hs:s.data.toList.length=s.size:=rfl
 refine (refBuffer Z hS (Ent.own List.mem_cons_self) (by rw [hs]; exact hl)).mono fun r w2 hS=>?_
 rw [hs] at hS
 exact hS.swap.drop
end

/- The document's bytes of numbers. -/
import Derived.Test.YtfijkedmbaghmaaGreatDoorP2
set_option linter.unusedVariables false
set_option linter.unusedSimpArgs false
namespace Go.Proofs.YtfijkedmbaghmaaGreatDoor
open Go.Sh
open Tryz renaming prog → π
theorem u8_wrap (v:Int):IntKind.u8.wrap v=((UInt8.ofNat (v % 256).toNat).toNat:Int):=by rw [byte_toNat,wrap_u8]
theorem blk_rd {o w:World} {As:List HProp} {g n c:Nat} {l k:List UInt8} (hS:St o w As) (hm:blk g 5 (cb (l++k)) ∈ As) (hn:n=l.length) (hl:l.length≤140737488355328):Rd w 1 (.slice (some ⟨g,0,none⟩) n c) n (cb l):=by
 subst hn
 refine ⟨by simp [cb],by simp only [maxLen]; omega,.inr ⟨_,c,rfl,fun j u hu=>?_⟩⟩
 rw [add_addr,Nat.zero_add,cell_of_blk (hS.mem_blk hm),cb_append,List.getElem?_append_left (List.getElem?_eq_some_iff.1 hu).1]
 exact hu
theorem i32_range (x:Int) : -2147483648≤IntKind.i32.wrap x∧IntKind.i32.wrap x≤2147483647:=by
 simp only [IntKind.wrap,IntKind.bits,IntKind.signed]
 simp
 split <;> omega
theorem enc_mod (n:Nat) (v:Int):enc n (v % 256 ^ n)=enc n v:=by
 suffices h:∀m,n≤m→enc n (v % 256 ^ m)=enc n v from h n (Nat.le_refl _)
 intro m hm
 induction n with
 | zero=>rfl
 | succ n ih=>
  simp only [enc]
  rw [ih (by omega)]
  congr 3
  obtain ⟨k,rfl⟩:∃k,m=n+(k+1):=⟨m - n - 1,by omega⟩
  have hp:(0:Int) < 256 ^ n:=Int.pow_pos (by omega)
  rw [Int.pow_add,Int.emod_def v (256 ^ n * 256 ^ (k+1)),Int.mul_assoc,Int.sub_eq_add_neg,← Int.mul_neg,Int.add_mul_ediv_left _ _ (by omega),Int.pow_succ]
  have e2 : -(256 ^ k * 256 * (v / (256 ^ n * (256 ^ k * 256))))=256 * (-(256 ^ k * (v / (256 ^ n * (256 ^ k * 256))))):=by
   rw [Int.mul_comm (256 ^ k) 256,Int.mul_assoc,Int.mul_neg]
  rw [e2]
  omega
section
variable (Z:PZ) {o w:World} {R:List HProp} {g:Nat} {l k:List UInt8}
theorem refDigits (v:Int) (hv:0≤v∧v≤18446744073709551615) (n:Nat) (hn:n≤8) (h:St o w R) :
  CallV π Z 168 #[.int .u64 v,.int .i64 n] w fun r w'=>St o w' (own 5 1 r n (cb (enc n v))::R):=by
 refine f168.calls ?_
 unfold f168.sh
 refine r_make el30 h .i64 .i64 n (by omega) (by simp only [maxLen]; omega) fun g w1 hS=>?_
 (try simp only [o_sub])
 rw [wr_i64 (x:=(n:Int) - 1) (by omega) (by omega)]
 refine ⟨fun m x y w'=>∃(q:Int) (xs:List Value),x=.int .u64 q∧y=.int .i64 ((m:Int) - 1)∧0≤q∧q≤18446744073709551615∧m≤n∧xs.length=n∧q=v / 256 ^ (n - m)∧(∀j,m≤j→j < n→xs[j]? = (cb (enc n v))[j]?)∧St o w' (own 5 1 (.slice (some ⟨g,0,none⟩) n n) n xs::R),
  ⟨n,v,_,rfl,rfl,hv.1,hv.2,Nat.le_refl _,by rw [Array.length_toList,size_madeCells,Nat.mul_one],by simp,fun j h1 h2=>by omega,hS⟩,?_⟩
 rintro m _ _ w2 ⟨q,xs,rfl,rfl,hq0,hq1,hmn,hxl,hqe,hpt,hS⟩ _
 (try simp only [o_sub,o_geq,cond_decide])
 refine ⟨fun hge=>?_,fun hlt=>?_⟩
 ·obtain ⟨i,rfl⟩:∃j,m=j+1:=⟨m - 1,by omega⟩
  rw [show (((i+1:Nat):Int) - 1)=(i:Int) by omega]
  refine r1 (run_rem _ _ _ .u64 q 256 (by omega)) ?_
  (try simp only [cv_147_5])
  obtain ⟨info,hinfo,hsz,_,_⟩:=el30.info
  refine r1 (run_indexAt Tryz.underlying30 hinfo g 0 n n .i64 i (by omega) (by omega) _) ?_
  rw [hsz]
  simp only [Nat.mul_one,Nat.zero_add,Int.toNat_natCast]
  have hqm:q.tmod 256=q % 256:=Int.tmod_eq_emod_of_nonneg hq0
  rw [hqm,u8_wrap,Int.emod_emod]
  refine r_store_own hS one5 (by omega) rfl fun w3 hS=>?_
  refine r1 (run_quo _ _ _ .u64 q 256 (by omega)) ?_
  have hqd:q.tdiv 256=q / 256:=Int.tdiv_eq_ediv_of_nonneg hq0
  skip
  rw [hqd,wr_u64 (x:=q / 256) (by omega) (by omega),wr_i64 (x:=(i:Int) - 1) (by omega) (by omega)]
  refine ⟨i,by omega,q / 256,_,rfl,rfl,by omega,by omega,by omega,by simpa using hxl,?_,fun j h1 h2=>?_,hS⟩
  ·rw [hqe,show n - i=(n - (i+1))+1 by omega,Int.pow_succ,Int.ediv_ediv_of_nonneg (by exact Int.le_of_lt (Int.pow_pos (by omega)))]
  ·by_cases e:j=i
   ·subst e
    rw [List.getElem?_set_self (by omega)]
    have key:∀n v j,j < n→(cb (enc n v))[j]? = some (.int .u8 (UInt8.ofNat ((v / 256 ^ (n - (j+1))) % 256).toNat).toNat):=by
     intro n v
     induction n with
     | zero=>intro j hj; omega
     | succ n ih=>
      intro j hj
      cases j with
      | zero=>simp [enc,cb]
      | succ j=>
       have:=ih j (by omega)
       simp only [enc,cb,List.map_cons,List.getElem?_cons_succ] at this ⊢
       rw [this,show n+1 - (j+1+1)=n - (j+1) by omega]
    rw [key n v j (by omega),← hqe]
   ·rw [List.getElem?_set_ne (Ne.symm e)]
    exact hpt j (by omega) h2
 ·obtain rfl:m=0:=by omega
  have hxs:xs=cb (enc n v):=by
   apply List.ext_getElem?
   intro j
   by_cases hj:j < n
   ·exact hpt j (by omega) hj
   ·rw [List.getElem?_eq_none (by omega),List.getElem?_eq_none (by rw [cb_length,enc_length]; omega)]
  rw [hxs] at hS
  exact hS
theorem refUint32 (v:Int) (hv:0≤v∧v≤4294967295) (h:St o w R) :
  CallV π Z 70 #[.int .u32 v] w fun r w'=>St o w' (own 5 1 r 4 (cb (enc 4 v))::R):=by
 refine f70.calls ?_
 unfold f70.sh
 (try simp only [cv_23_147])
 rw [wr_u64 (x:=v) (by omega) (by omega)]
 exact refDigits Z v (by omega) 4 (by omega) h
end

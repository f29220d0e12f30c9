
/- Bytes: what the small functions over rows of bytes answer. -/
import Derived.Test.YtbdfhfceffkhgaaGreatDoorS0
set_option linter.unusedVariables false
set_option linter.unusedSimpArgs false
namespace Go.Proofs.YtbdfhfceffkhgaaGreatDoor
open Go.Sh
open Tryz renaming prog → π
def cb (l:List UInt8):List Value:=l.map fun b=>.int .u8 b.toNat
theorem cb_length (l:List UInt8):(cb l).length=l.length:=by simp [cb]
theorem cb_append (l m:List UInt8):cb (l++m)=cb l++cb m:=by simp [cb]
theorem cb_at {l:List UInt8} {i:Nat} (h:i < l.length):(cb l)[i]? = some (.int .u8 (l[i].toNat:Int)):=by simp [cb,h]
theorem cb_ones (l:List UInt8):ones (cb l):=by
 intro u hu
 obtain ⟨b,_,rfl⟩:=List.mem_map.1 hu
 rfl
theorem rd_len {w:World} {v:Value} {n:Nat} {l:List UInt8} (h:Rd w 1 v n (cb l)):n=l.length:=by have:=h.1; rw [cb_length] at this; omega
def ci (l:List Int):List Value:=l.map (.int .i64)
theorem ci_length (l:List Int):(ci l).length=l.length:=by simp [ci]
theorem ci_at {l:List Int} {i:Nat} (h:i < l.length):(ci l)[i]? = some (.int .i64 l[i]):=by simp [ci,h]
def BytesO (w:World) (cs:List Value):Prop:=∃v,cs=[v]∧∃l:List UInt8,l.length≤140737488351232∧Rd w 1 v l.length (cb l)
theorem opn_BytesO (w:World):Opn π w 43 (BytesO w):=(opn_slice el43 (opn_int Tryz.underlying5)).mono fun cs ⟨v,h1,n,css,h2,hbt,h3,h4⟩=>by
 refine ⟨v,h1,?_⟩
 have key:∀css:List (List Value),(∀c ∈ css,c.length=1∧∃n,c=[.int .u8 n]∧IntKind.u8.min≤n∧n≤IntKind.u8.max)→∃l:List UInt8,l.length=css.length∧css.flatten=cb l:=by
  intro css
  induction css with
  | nil=>intro _; exact ⟨[],rfl,rfl⟩
  | cons c css ih=>
   intro h
   obtain ⟨l,hl,hf⟩:=ih fun c hc=>h c (List.mem_cons_of_mem _ hc)
   obtain ⟨_,n,rfl,hn1,hn2⟩:=h c List.mem_cons_self
   simp only [IntKind.min,IntKind.max,IntKind.signed,IntKind.bits] at hn1 hn2
   simp at hn1 hn2
   refine ⟨UInt8.ofNat n.toNat::l,by simp [hl],?_⟩
   rw [List.flatten_cons,hf]
   simp only [cb,List.map_cons,List.singleton_append]
   congr 2
   rw [UInt8.toNat_ofNat']; omega
 obtain ⟨l,hl,hf⟩:=key css h3
 refine ⟨l,by omega,?_⟩
 rw [hl,h2,← hf]; exact h4
theorem u8_lt (b:UInt8):(b.toNat:Int)≤255:=by have:=b.toNat_lt; omega
section
variable (Z:PZ) {o w:World} {R:List HProp}
theorem rd_index {v:Value} {n:Nat} {l:List UInt8} (h:Rd w 1 v n (cb l)) (i:Nat) (hi:i < l.length):∃a,(∀w,(Instr.indexAt 43 v (.int .i64 i)).run π w=.ok (.pointer (some a)) w)∧w.cell? a=some (.int .u8 (l[i].toNat:Int)):=by
 obtain ⟨a,h1,h2,_⟩:=h.index el43 .i64 i (by rw [rd_len h]; exact hi)
 exact ⟨a,h1,by rw [h2,cb_at hi]⟩
theorem eqBytes {x y:Value} {n m:Nat} {l k:List UInt8} (hx:Rd w 1 x n (cb l)) (hy:Rd w 1 y m (cb k)) :
  CallV π Z 50 #[x,y] w fun r w'=>r=.bool (decide (l=k))∧Drew w w':=by
 have hn:=rd_len hx; have hm:=rd_len hy
 obtain ⟨a,c,rfl⟩:=hx.form
 obtain ⟨b,d,rfl⟩:=hy.form
 have hlx:n≤9223372036854775807:=hx.2.1
 subst hn hm
 refine f50.calls ?_
 unfold f50.sh
 (try simp only [ln_43_3,o_neq,cond_bne])
 refine ⟨fun hne=>⟨?_,Drew.refl _⟩,fun he=>?_⟩
 ·have:l ≠ k:=fun e=>hne (by rw [e])
  simp [this]
 have he':l.length=k.length:=by omega
 refine ⟨fun m y w'=>∃i:Nat,y=.int .i64 i∧m+i=l.length∧l.take i=k.take i∧Drew w w',⟨l.length,0,rfl,rfl,rfl,Drew.refl _⟩,?_⟩
 rintro m _ w1 ⟨i,rfl,hi,ht,hd⟩ _
 (try simp only [o_add,o_lss,cond_decide])
 refine ⟨fun hlt=>⟨fun w2 hd2=>?_⟩,fun hge=>?_⟩
 ·have hi1:i < l.length:=by omega
  have hi2:i < k.length:=by omega
  obtain ⟨p,hp,hpc⟩:=rd_index (hx.drew (hd.trans hd2)) i hi1
  obtain ⟨q,hq,hqc⟩:=rd_index (hy.drew (hd.trans hd2)) i hi2
  refine rp hp (rr_load one5 hpc (rp hq (rr_load one5 hqc ?_)))
  (try simp only [o_neqp,cond_bne])
  refine ⟨fun hne=>⟨?_,hd.trans hd2⟩,fun he2=>?_⟩
  ·have:l ≠ k:=fun e=>hne (by subst e; rfl)
   simp [this]
  ·have hb:l[i]=k[i]:=UInt8.toNat_inj.1 (by omega)
   rw [wr_i64 (x:=(i:Int)+1) (by omega) (by omega)]
   refine ⟨m - 1,by omega,i+1,rfl,by omega,?_,hd.trans hd2⟩
   rw [List.take_succ_eq_append_getElem hi1,List.take_succ_eq_append_getElem hi2,ht,hb]
 ·obtain rfl:i=l.length:=by omega
  rw [List.take_length,he',List.take_length] at ht
  exact ⟨by simp [ht],hd⟩
theorem copyBytes {x:Value} {n:Nat} {l:List UInt8} (h:St o w R) (hx:Ent o R fun w=>Rd w 1 x n (cb l)) (hl:l.length≤140737488355328) :
  CallV π Z 69 #[x] w fun r w'=>St o w' (own 5 1 r l.length (cb l)::R):=by
 have h0:=hx w h
 have hn:=rd_len h0
 obtain ⟨a,c,rfl⟩:=h0.form
 subst hn
 refine f69.calls ?_
 unfold f69.sh
 (try simp only [ln_43_3])
 refine ⟨fun m v y w'=>∃i:Nat,y=.int .i64 i∧m+i=l.length∧St o w' (own 5 1 v i (cb (l.take i))::R),⟨l.length,0,rfl,rfl,by simpa [cb] using h.own_nil 5 1⟩,?_⟩
 rintro m v _ w1 ⟨i,rfl,hi,hS⟩ _
 (try simp only [o_add,o_lss,cond_decide])
 refine ⟨fun hlt=>?_,fun hge=>?_⟩
 ·have hi1:i < l.length:=by omega
  obtain ⟨p,hp,hpc⟩:=rd_index (hx w1 hS.drop) i hi1
  refine r1 (hp _) (r_load one5 hpc ?_)
  refine r_push el43 hS _ rfl (by omega) (by simp only [maxLen]; omega) fun v' w2 hS2=>?_
  skip
  rw [wr_i64 (x:=(i:Int)+1) (by omega) (by omega)]
  refine ⟨m - 1,by omega,i+1,rfl,by omega,?_⟩
  rw [List.take_succ_eq_append_getElem hi1,cb_append]
  exact hS2
 ·obtain rfl:i=l.length:=by omega
  rw [List.take_length] at hS
  exact hS
def marks (n:Nat):List UInt8:=(List.range 64).map fun j=>UInt8.ofNat (170+(n+j) % 5)
def adl:List UInt8→Nat × Nat→Nat × Nat
 | [],p=>p
 | x::l,(a,b)=>adl l ((a+x.toNat) % 65521,(b+(a+x.toNat) % 65521) % 65521)
def adler (l:List UInt8):Nat:=(adl l (1,0)).2 * 65536+(adl l (1,0)).1
theorem adl_append (l m:List UInt8) (p:Nat × Nat):adl (l++m) p=adl m (adl l p):=by
 induction l generalizing p with
 | nil=>rfl
 | cons x l ih=>obtain ⟨a,b⟩:=p; simp only [List.cons_append,adl]; exact ih _
theorem adl_lt (l:List UInt8) (p:Nat × Nat) (h1:p.1 < 65521) (h2:p.2 < 65521):(adl l p).1 < 65521∧(adl l p).2 < 65521:=by
 induction l generalizing p with
 | nil=>exact ⟨h1,h2⟩
 | cons x l ih=>obtain ⟨a,b⟩:=p; exact ih _ (Nat.mod_lt _ (by omega)) (Nat.mod_lt _ (by omega))
theorem adl_take {l:List UInt8} {i:Nat} (h:i < l.length):adl (l.take (i+1)) (1,0)=(((adl (l.take i) (1,0)).1+l[i].toNat) % 65521,((adl (l.take i) (1,0)).2+((adl (l.take i) (1,0)).1+l[i].toNat) % 65521) % 65521):=by
 rw [List.take_succ_eq_append_getElem h,adl_append]
 rfl
theorem tmod_nat (a b:Nat):((a:Int)).tmod b=((a % b:Nat):Int):=rfl
theorem sum_or (a b:Nat) (ha:a < 65521) (hb:b < 65521):IntKind.u32.wrap (BitVec.ofInt 32 (IntKind.u32.wrap ((b:Int) * 2 ^ 16)) ||| BitVec.ofInt 32 (a:Int)).toNat=((b * 65536+a:Nat):Int):=by
 have e1:IntKind.u32.wrap ((b:Int) * 2 ^ 16)=((b * 65536:Nat):Int):=by
  rw [wr_u32 (by omega) (by omega)]; omega
 rw [e1,BitVec.ofInt_natCast,BitVec.ofInt_natCast,BitVec.toNat_or,BitVec.toNat_ofNat,BitVec.toNat_ofNat]
 have h1:b * 65536 % 2 ^ 32=b * 65536:=Nat.mod_eq_of_lt (by omega)
 have h2:a % 2 ^ 32=a:=Nat.mod_eq_of_lt (by omega)
 rw [h1,h2]
 have h3:b * 65536 ||| a=b * 65536+a:=by
  have:=Nat.two_pow_add_eq_or_of_lt (i:=16) (b:=a) (by omega) b
  rw [show b * 65536=2 ^ 16 * b by omega,← this]
 rw [h3,wr_u32 (by omega) (by omega)]
theorem packSum {x:Value} {n:Nat} {l:List UInt8} (hx:Rd w 1 x n (cb l)):CallV π Z 141 #[x] w fun r w'=>r=.int .u32 (adler l)∧w'=w:=by
 have hn:=rd_len hx
 obtain ⟨a,c,rfl⟩:=hx.form
 have hlx:n≤9223372036854775807:=hx.2.1
 subst hn
 refine f141.calls ?_
 unfold f141.sh
 (try simp only [ln_43_3])
 refine ⟨fun m u v y w'=>∃i:Nat,u=.int .u32 (adl (l.take i) (1,0)).1∧v=.int .u32 (adl (l.take i) (1,0)).2∧y=.int .i64 i∧m+i=l.length∧w'=w,⟨l.length,0,rfl,rfl,rfl,rfl,rfl⟩,?_⟩
 rintro m _ _ _ w1 ⟨i,rfl,rfl,rfl,hi,rfl⟩ _
 obtain ⟨b1,b2⟩:=adl_lt (l.take i) (1,0) (by decide) (by decide)
 (try simp only [o_add,o_lss,cond_decide])
 refine ⟨fun hlt=>?_,fun hge=>?_⟩
 ·have hi1:i < l.length:=by omega
  obtain ⟨p,hp,hpc⟩:=rd_index hx i hi1
  have hb:=l[i].toNat_lt
  refine r1 (hp _) (r_load one5 hpc ?_)
  have ht:=adl_take hi1
  (try simp only [cv_5_37,o_add])
  rw [wr_u32 (x:=(l[i].toNat:Int)) (by omega) (by omega),wr_u32 (x:=((adl (l.take i) (1,0)).1:Int)+l[i].toNat) (by omega) (by omega)]
  refine r1 (run_rem _ _ _ .u32 _ 65521 (by omega)) ?_
  rw [show ((adl (l.take i) (1,0)).1:Int)+(l[i].toNat:Int)=(((adl (l.take i) (1,0)).1+l[i].toNat:Nat):Int) by omega,show (65521:Int)=((65521:Nat):Int) by rfl,tmod_nat]
  have hm:=Nat.mod_lt ((adl (l.take i) (1,0)).1+l[i].toNat) (show 0 < 65521 by omega)
  (try simp only [o_add])
  rw [wr_u32 (x:=((adl (l.take i) (1,0)).2:Int)+((((adl (l.take i) (1,0)).1+l[i].toNat) % 65521:Nat):Int)) (by omega) (by omega)]
  refine r1 (run_rem _ _ _ .u32 _ ((65521:Nat):Int) (by omega)) ?_
  rw [show ((adl (l.take i) (1,0)).2:Int)+((((adl (l.take i) (1,0)).1+l[i].toNat) % 65521:Nat):Int)=(((adl (l.take i) (1,0)).2+((adl (l.take i) (1,0)).1+l[i].toNat) % 65521:Nat):Int) by omega,tmod_nat]
  (try simp only [])
  rw [wr_i64 (x:=(i:Int)+1) (by omega) (by omega)]
  exact ⟨m - 1,by omega,i+1,by rw [ht],by rw [ht],rfl,by omega,trivial⟩
 ·obtain rfl:i=l.length:=by omega
  rw [List.take_length] at b1 b2 ⊢
  refine r1 (run_shl _ _ _ .u32 .u64 _ 16 (by omega)) ?_
  (try simp only [o_or])
  refine ⟨?_,trivial⟩
  have:=sum_or (adl l (1,0)).1 (adl l (1,0)).2 b1 b2
  exact congrArg (Value.int .u32) this
end

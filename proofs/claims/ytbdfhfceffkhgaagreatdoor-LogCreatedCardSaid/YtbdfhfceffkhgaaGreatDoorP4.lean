import Derived.Test.YtbdfhfceffkhgaaGreatDoorS0

/- Bytes: what the small functions over rows of bytes answer. -/
set_option linter.unusedVariables false
set_option linter.unusedSimpArgs false
namespace Go.Proofs.YtbdfhfceffkhgaaGreatDoor
open Go.Sh
open Tryz renaming prog → π
def cb (l:List UInt8):List Value:=l.map fun b=>.int .u8 b.toNat
theorem cb_length (l:List UInt8):(cb l).length=l.length:=by simp [cb]
theorem cb_append (l m:List UInt8):cb (l++m)=cb l++cb m:=by simp [cb]
theorem cb_at {l:List UInt8} {i:Nat} (h:i < l.length):(cb l)[i]? = some (.int .u8 (l[i].toNat:Int)):=by simp [cb,h]
theorem cb_ones (l:List UInt8):ones (cb l):=by
 intro u hu
 obtain ⟨b,_,rfl⟩:=List.mem_map.1 hu
 rfl
theorem rd_len {w:World} {v:Value} {n:Nat} {l:List UInt8} (h:Rd w 1 v n (cb l)):n=l.length:=by have:=h.1; rw [cb_length] at this; omega
def ci (l:List Int):List Value:=l.map (.int .i64)
theorem ci_length (l:List Int):(ci l).length=l.length:=by simp [ci]
theorem ci_at {l:List Int} {i:Nat} (h:i < l.length):(ci l)[i]? = some (.int .i64 l[i]):=by simp [ci,h]
def BytesO (w:World) (cs:List Value):Prop:=∃v,cs=[v]∧∃l:List UInt8,l.length≤140737488351232∧Rd w 1 v l.length (cb l)
theorem opn_BytesO (w:World):Opn π w 43 (BytesO w):=(opn_slice el43 (opn_int Tryz.underlying5)).mono fun cs ⟨v,h1,n,css,h2,hbt,h3,h4⟩=>by
 refine ⟨v,h1,?_⟩
 have key:∀css:List (List Value),(∀c ∈ css,c.length=1∧∃n,c=[.int .u8 n]∧IntKind.u8.min≤n∧n≤IntKind.u8.max)→∃l:List UInt8,l.length=css.length∧css.flatten=cb l:=by
  intro css
  induction css with
  | nil=>intro _; exact ⟨[],rfl,rfl⟩
  | cons c css ih=>
   intro h
   obtain ⟨l,hl,hf⟩:=ih fun c hc=>h c (List.mem_cons_of_mem _ hc)
   obtain ⟨_,n,rfl,hn1,hn2⟩:=h c List.mem_cons_self
   simp only [IntKind.min,IntKind.max,IntKind.signed,IntKind.bits] at hn1 hn2
   simp at hn1 hn2
   refine ⟨UInt8.ofNat n.toNat::l,by simp [hl],?_⟩
   rw [List.flatten_cons,hf]
   simp only [cb,List.map_cons,List.singleton_append]
   congr 2
   rw [UInt8.toNat_ofNat']; omega
 obtain ⟨l,hl,hf⟩:=key css h3
 refine ⟨l,by omega,?_⟩
 rw [hl,h2,← hf]; exact h4
def IntsO (w:World) (cs:List Value):Prop:=∃v,cs=[v]∧∃l:List Int,l.length * 8≤140737488351232∧(∀n ∈ l,-9223372036854775808≤n∧n≤9223372036854775807)∧Rd w 1 v l.length (ci l)
theorem opn_ints_of {t e:TypeId} {z:Value} (hel:El π t e 1 8 z) (he:π.underlying e=some (.int .i64)) (w:World):Opn π w t (IntsO w):=(opn_slice hel (opn_int he)).mono fun cs ⟨v,h1,n,css,h2,hbt,h3,h4⟩=>by
 refine ⟨v,h1,?_⟩
 have key:∀css:List (List Value),(∀c ∈ css,c.length=1∧∃n,c=[.int .i64 n]∧IntKind.i64.min≤n∧n≤IntKind.i64.max)→∃l:List Int,l.length=css.length∧(∀n ∈ l,-9223372036854775808≤n∧n≤9223372036854775807)∧css.flatten=ci l:=by
  intro css
  induction css with
  | nil=>intro _; exact ⟨[],rfl,by simp,rfl⟩
  | cons c css ih=>
   intro h
   obtain ⟨l,hl,hb,hf⟩:=ih fun c hc=>h c (List.mem_cons_of_mem _ hc)
   obtain ⟨_,n,rfl,hn1,hn2⟩:=h c List.mem_cons_self
   simp only [IntKind.min,IntKind.max,IntKind.signed,IntKind.bits] at hn1 hn2
   simp at hn1 hn2
   refine ⟨n::l,by simp [hl],fun m hm=>?_,?_⟩
   ·rcases List.mem_cons.1 hm with rfl | hm
    ·exact ⟨hn1,hn2⟩
    ·exact hb m hm
   ·rw [List.flatten_cons,hf]; rfl
 obtain ⟨l,hl,hb,hf⟩:=key css h3
 refine ⟨l,by omega,hb,?_⟩
 rw [hl,h2,← hf]; exact h4
theorem u8_lt (b:UInt8):(b.toNat:Int)≤255:=by have:=b.toNat_lt; omega
section
variable (Z:PZ) {o w:World} {R:List HProp}
theorem rd_index {v:Value} {n:Nat} {l:List UInt8} (h:Rd w 1 v n (cb l)) (i:Nat) (hi:i < l.length):∃a,(∀w,(Instr.indexAt 43 v (.int .i64 i)).run π w=.ok (.pointer (some a)) w)∧w.cell? a=some (.int .u8 (l[i].toNat:Int)):=by
 obtain ⟨a,h1,h2,_⟩:=h.index el43 .i64 i (by rw [rd_len h]; exact hi)
 exact ⟨a,h1,by rw [h2,cb_at hi]⟩
theorem eqBytes {x y:Value} {n m:Nat} {l k:List UInt8} (hx:Rd w 1 x n (cb l)) (hy:Rd w 1 y m (cb k)) :
  CallV π Z 50 #[x,y] w fun r w'=>r=.bool (decide (l=k))∧Drew w w':=by
 have hn:=rd_len hx; have hm:=rd_len hy
 obtain ⟨a,c,rfl⟩:=hx.form
 obtain ⟨b,d,rfl⟩:=hy.form
 have hlx:n≤9223372036854775807:=hx.2.1
 subst hn hm
 refine f50.calls ?_
 unfold f50.sh
 (try simp only [ln_43_3,o_neq,cond_bne])
 refine ⟨fun hne=>⟨?_,Drew.refl _⟩,fun he=>?_⟩
 ·have:l ≠ k:=fun e=>hne (by rw [e])
  simp [this]
 have he':l.length=k.length:=by omega
 refine ⟨fun m y w'=>∃i:Nat,y=.int .i64 i∧m+i=l.length∧l.take i=k.take i∧Drew w w',⟨l.length,0,rfl,rfl,rfl,Drew.refl _⟩,?_⟩
 rintro m _ w1 ⟨i,rfl,hi,ht,hd⟩ _
 (try simp only [o_add,o_lss,cond_decide])
 refine ⟨fun hlt=>⟨fun w2 hd2=>?_⟩,fun hge=>?_⟩
 ·have hi1:i < l.length:=by omega
  have hi2:i < k.length:=by omega
  obtain ⟨p,hp,hpc⟩:=rd_index (hx.drew (hd.trans hd2)) i hi1
  obtain ⟨q,hq,hqc⟩:=rd_index (hy.drew (hd.trans hd2)) i hi2
  refine rp hp (rr_load one5 hpc (rp hq (rr_load one5 hqc ?_)))
  (try simp only [o_neqp,cond_bne])
  refine ⟨fun hne=>⟨?_,hd.trans hd2⟩,fun he2=>?_⟩
  ·have:l ≠ k:=fun e=>hne (by subst e; rfl)
   simp [this]
  ·have hb:l[i]=k[i]:=UInt8.toNat_inj.1 (by omega)
   rw [wr_i64 (x:=(i:Int)+1) (by omega) (by omega)]
   refine ⟨m - 1,by omega,i+1,rfl,by omega,?_,hd.trans hd2⟩
   rw [List.take_succ_eq_append_getElem hi1,List.take_succ_eq_append_getElem hi2,ht,hb]
 ·obtain rfl:i=l.length:=by omega
  rw [List.take_length,he',List.take_length] at ht
  exact ⟨by simp [ht],hd⟩
theorem copyBytes {x:Value} {n:Nat} {l:List UInt8} (h:St o w R) (hx:Ent o R fun w=>Rd w 1 x n (cb l)) (hl:l.length≤140737488355328) :
  CallV π Z 69 #[x] w fun r w'=>St o w' (own 5 1 r l.length (cb l)::R):=by
 have h0:=hx w h
 have hn:=rd_len h0
 obtain ⟨a,c,rfl⟩:=h0.form
 subst hn
 refine f69.calls ?_
 unfold f69.sh
 (try simp only [ln_43_3])
 refine ⟨fun m v y w'=>∃i:Nat,y=.int .i64 i∧m+i=l.length∧St o w' (own 5 1 v i (cb (l.take i))::R),⟨l.length,0,rfl,rfl,by simpa [cb] using h.own_nil 5 1⟩,?_⟩
 rintro m v _ w1 ⟨i,rfl,hi,hS⟩ _
 (try simp only [o_add,o_lss,cond_decide])
 refine ⟨fun hlt=>?_,fun hge=>?_⟩
 ·have hi1:i < l.length:=by omega
  obtain ⟨p,hp,hpc⟩:=rd_index (hx w1 hS.drop) i hi1
  refine r1 (hp _) (r_load one5 hpc ?_)
  refine r_push el43 hS _ rfl (by omega) (by simp only [maxLen]; omega) fun v' w2 hS2=>?_
  skip
  rw [wr_i64 (x:=(i:Int)+1) (by omega) (by omega)]
  refine ⟨m - 1,by omega,i+1,rfl,by omega,?_⟩
  rw [List.take_succ_eq_append_getElem hi1,cb_append]
  exact hS2
 ·obtain rfl:i=l.length:=by omega
  rw [List.take_length] at hS
  exact hS
def marks (n:Nat):List UInt8:=(List.range 64).map fun j=>UInt8.ofNat (170+(n+j) % 5)
def adl:List UInt8→Nat × Nat→Nat × Nat
 | [],p=>p
 | x::l,(a,b)=>adl l ((a+x.toNat) % 65521,(b+(a+x.toNat) % 65521) % 65521)
def adler (l:List UInt8):Nat:=(adl l (1,0)).2 * 65536+(adl l (1,0)).1
theorem adl_append (l m:List UInt8) (p:Nat × Nat):adl (l++m) p=adl m (adl l p):=by
 induction l generalizing p with
 | nil=>rfl
 | cons x l ih=>obtain ⟨a,b⟩:=p; simp only [List.cons_append,adl]; exact ih _
theorem adl_lt (l:List UInt8) (p:Nat × Nat) (h1:p.1 < 65521) (h2:p.2 < 65521):(adl l p).1 < 65521∧(adl l p).2 < 65521:=by
 induction l generalizing p with
 | nil=>exact ⟨h1,h2⟩
 | cons x l ih=>obtain ⟨a,b⟩:=p; exact ih _ (Nat.mod_lt _ (by omega)) (Nat.mod_lt _ (by omega))
theorem adl_take {l:List UInt8} {i:Nat} (h:i < l.length):adl (l.take (i+1)) (1,0)=(((adl (l.take i) (1,0)).1+l[i].toNat) % 65521,((adl (l.take i) (1,0)).2+((adl (l.take i) (1,0)).1+l[i].toNat) % 65521) % 65521):=by
 rw [List.take_succ_eq_append_getElem h,adl_append]
 rfl
theorem tmod_nat (a b:Nat):((a:Int)).tmod b=((a % b:Nat):Int):=rfl
theorem sum_or (a b:Nat) (ha:a < 65521) (hb:b < 65521):IntKind.u32.wrap (BitVec.ofInt 32 (IntKind.u32.wrap ((b:Int) * 2 ^ 16)) ||| BitVec.ofInt 32 (a:Int)).toNat=((b * 65536+a:Nat):Int):=by
 have e1:IntKind.u32.wrap ((b:Int) * 2 ^ 16)=((b * 65536:Nat):Int):=by
  rw [wr_u32 (by omega) (by omega)]; omega
 rw [e1,BitVec.ofInt_natCast,BitVec.ofInt_natCast,BitVec.toNat_or,BitVec.toNat_ofNat,BitVec.toNat_ofNat]
 have h1:b * 65536 % 2 ^ 32=b * 65536:=Nat.mod_eq_of_lt (by omega)
 have h2:a % 2 ^ 32=a:=Nat.mod_eq_of_lt (by omega)
 rw [h1,h2]
 have h3:b * 65536 ||| a=b * 65536+a:=by
  have:=Nat.two_pow_add_eq_or_of_lt (i:=16) (b:=a) (by omega) b
  rw [show b * 65536=2 ^ 16 * b by omega,← this]
 rw [h3,wr_u32 (by omega) (by omega)]
theorem packSum {x:Value} {n:Nat} {l:List UInt8} (hx:Rd w 1 x n (cb l)):CallV π Z 141 #[x] w fun r w'=>r=.int .u32 (adler l)∧w'=w:=by
 have hn:=rd_len hx
 obtain ⟨a,c,rfl⟩:=hx.form
 have hlx:n≤9223372036854775807:=hx.2.1
 subst hn
 refine f141.calls ?_
 unfold f141.sh
 (try simp only [ln_43_3])
 refine ⟨fun m u v y w'=>∃i:Nat,u=.int .u32 (adl (l.take i) (1,0)).1∧v=.int .u32 (adl (l.take i) (1,0)).2∧y=.int .i64 i∧m+i=l.length∧w'=w,⟨l.length,0,rfl,rfl,rfl,rfl,rfl⟩,?_⟩
 rintro m _ _ _ w1 ⟨i,rfl,rfl,rfl,hi,rfl⟩ _
 obtain ⟨b1,b2⟩:=adl_lt (l.take i) (1,0) (by decide) (by decide)
 (try simp only [o_add,o_lss,cond_decide])
 refine ⟨fun hlt=>?_,fun hge=>?_⟩
 ·have hi1:i < l.length:=by omega
  obtain ⟨p,hp,hpc⟩:=rd_index hx i hi1
  have hb:=l[i].toNat_lt
  refine r1 (hp _) (r_load one5 hpc ?_)
  have ht:=adl_take hi1
  (try simp only [cv_5_37,o_add])
  rw [wr_u32 (x:=(l[i].toNat:Int)) (by omega) (by omega),wr_u32 (x:=((adl (l.take i) (1,0)).1:Int)+l[i].toNat) (by omega) (by omega)]
  refine r1 (run_rem _ _ _ .u32 _ 65521 (by omega)) ?_
  rw [show ((adl (l.take i) (1,0)).1:Int)+(l[i].toNat:Int)=(((adl (l.take i) (1,0)).1+l[i].toNat:Nat):Int) by omega,show (65521:Int)=((65521:Nat):Int) by rfl,tmod_nat]
  have hm:=Nat.mod_lt ((adl (l.take i) (1,0)).1+l[i].toNat) (show 0 < 65521 by omega)
  (try simp only [o_add])
  rw [wr_u32 (x:=((adl (l.take i) (1,0)).2:Int)+((((adl (l.take i) (1,0)).1+l[i].toNat) % 65521:Nat):Int)) (by omega) (by omega)]
  refine r1 (run_rem _ _ _ .u32 _ ((65521:Nat):Int) (by omega)) ?_
  rw [show ((adl (l.take i) (1,0)).2:Int)+((((adl (l.take i) (1,0)).1+l[i].toNat) % 65521:Nat):Int)=(((adl (l.take i) (1,0)).2+((adl (l.take i) (1,0)).1+l[i].toNat) % 65521:Nat):Int) by omega,tmod_nat]
  (try simp only [])
  rw [wr_i64 (x:=(i:Int)+1) (by omega) (by omega)]
  exact ⟨m - 1,by omega,i+1,by rw [ht],by rw [ht],rfl,by omega,trivial⟩
 ·obtain rfl:i=l.length:=by omega
  rw [List.take_length] at b1 b2 ⊢
  refine r1 (run_shl _ _ _ .u32 .u64 _ 16 (by omega)) ?_
  (try simp only [o_or])
  refine ⟨?_,trivial⟩
  have:=sum_or (adl l (1,0)).1 (adl l (1,0)).2 b1 b2
  exact congrArg (Value.int .u32) this
end
end Go.Proofs.YtbdfhfceffkhgaaGreatDoor


/- Writers: what each call of a Writer leaves. -/
set_option linter.unusedVariables false
set_option linter.unusedSimpArgs false
namespace Go.Proofs.YtbdfhfceffkhgaaGreatDoor
open Go.Sh
open Tryz renaming prog → π
def enc:Nat→Int→List UInt8
 | 0,_=>[]
 | n+1,v=>UInt8.ofNat ((v / 256 ^ n) % 256).toNat::enc n v
theorem enc_length (n:Nat) (v:Int):(enc n v).length=n:=by
 induction n with
 | zero=>rfl
 | succ n ih=>simp [enc,ih]
theorem byte_toNat (x:Int):((UInt8.ofNat (x % 256).toNat).toNat:Int)=x % 256:=by
 rw [UInt8.toNat_ofNat']
 omega
theorem wrap_u64 (v:Int):IntKind.u64.wrap v=v % 18446744073709551616:=by simp [IntKind.wrap,IntKind.bits,IntKind.signed]
theorem wrap_u8 (v:Int):IntKind.u8.wrap v=v % 256:=by simp [IntKind.wrap,IntKind.bits,IntKind.signed]
theorem enc_wrap (n:Nat) (hn:n≤8) (v:Int):enc n (IntKind.u64.wrap v)=enc n v:=by
 have hw:IntKind.u64.wrap v=v % 18446744073709551616:=wrap_u64 v
 rw [hw]
 have key:∀i:Nat,i < 8→(v % 18446744073709551616 / 256 ^ i) % 256=(v / 256 ^ i) % 256:=by
  intro i hi
  match i,hi with
  | 0,_=>omega
  | 1,_=>omega
  | 2,_=>omega
  | 3,_=>omega
  | 4,_=>omega
  | 5,_=>omega
  | 6,_=>omega
  | 7,_=>omega
 induction n with
 | zero=>rfl
 | succ n ih=>simp only [enc]; rw [key n (by omega),ih (by omega)]
theorem shr_byte (v:Int) (hv:0≤v) (i:Nat) (hi:i < 8):IntKind.u8.wrap (v.fdiv (2 ^ min (8 * i) 64))=((UInt8.ofNat ((v / 256 ^ i) % 256).toNat).toNat:Int):=by
 have hw:∀x:Int,IntKind.u8.wrap x=x % 256:=fun x=>wrap_u8 x
 rw [byte_toNat,hw,Nat.min_eq_left (by omega),Int.fdiv_eq_ediv_of_nonneg _ (by exact Int.le_of_lt (Int.pow_pos (by omega)))]
 rw [Int.pow_mul]
 rfl
def Wr (g:Nat) (l:List UInt8):HProp:=fun h=>∃v,sep (blk g 183 [v]) (own 5 1 v l.length (cb l)) h
theorem own_one {e sz n:Nat} {v:Value} {xs:List Value} {h:Hp} (ho:own e sz v n xs h):v.oneCell'=true:=by
 rcases ho.2 with ⟨rfl,_⟩ | ⟨_,_,_,rfl,_⟩ <;> rfl
theorem St.own_one {o w:World} {R:List HProp} {e sz n:Nat} {v:Value} {xs:List Value} (h:St o w (own e sz v n xs::R)):v.oneCell'=true:=by
 obtain ⟨S,hA,_⟩:=h.sat
 exact _root_.Go.Proofs.YtbdfhfceffkhgaaGreatDoor.own_one hA
section
variable (Z:PZ) {o w:World} {R:List HProp} {g:Nat} {l k:List UInt8}
theorem Wr.open (h:St o w (Wr g l::R)):∃v,St o w (blk g 183 [v]::own 5 1 v l.length (cb l)::R):=by
 obtain ⟨v,h⟩:=h.ex
 exact ⟨v,h.sep⟩
theorem Wr.shut {v:Value} {n:Nat} (h:St o w (blk g 183 [v]::own 5 1 v n (cb l)::R)) (hn:n=l.length):St o w (Wr g l::R):=by subst hn; exact h.sep_intro.ex_intro v
theorem Wr.plain (h:St o w (blk g 183 [.slice none 0 0]::R)):St o w (Wr g []::R):=Wr.shut (v:=.slice none 0 0) (h.own_nil 5 1).swap rfl
theorem whole (v:Int) (hv:0≤v) (n:Nat) (hn:n≤8) (hl:l.length+n≤140737488355328) (h:St o w (Wr g l::R)) :
  CallV π Z 179 #[.pointer (some ⟨g,0,none⟩),.int .u64 v,.int .i64 n] w fun r w'=>St o w' (Wr g (l++enc n v)::R):=by
 refine f179.calls ?_
 unfold f179.sh
 (try simp only [o_chkp,fa_183_0p,Nat.add_zero,o_sub,eqlp_181,condF])
 refine ⟨fun m y w'=>∃(i:Nat) (p:List UInt8),y=.int .i64 ((i:Int) - 1)∧m=i∧p.length+i=n∧p++enc i v=enc n v∧St o w' (Wr g (l++p)::R),
  ⟨n,n,[],by rw [wr_i64 (by omega) (by omega)],rfl,by simp,rfl,by simpa using h⟩,?_⟩
 rintro m _ w1 ⟨i,p,rfl,rfl,hi,hp,hS⟩ _
 (try simp only [o_sub,o_mulp,o_geq,cond_decide])
 refine ⟨fun hge=>⟨fun w2 hd=>?_⟩,fun hlt=>?_⟩
 ·obtain ⟨i,rfl⟩:∃j,m=j+1:=⟨m - 1,by omega⟩
  obtain ⟨sv,hS⟩:=Wr.open (hS.drew hd)
  rw [show (((i+1:Nat):Int) - 1)=(i:Int) by omega]
  refine rr_load one43 (hS.at List.mem_cons_self 0 rfl) ?_
  rw [wr_i64 (x:=8 * (i:Int)) (by omega) (by omega)]
  refine rp (fun w=>run_shr _ w _ .u64 .i64 v (8 * i) (by omega)) ?_
  (try simp only [cv_162_5p])
  rw [show (8 * (i:Int)).toNat=8 * i by omega,show IntKind.u64.bits=64 by rfl,shr_byte v hv i (by omega)]
  refine r_slice el43 hS 1 _ (cb [UInt8.ofNat ((v / 256 ^ i) % 256).toNat]) rfl (by omega) (by omega) (cb_ones _) rfl fun gb w3 hS=>?_
  refine rs_load one43 (hS.at (List.mem_cons_of_mem _ List.mem_cons_self) 0 rfl) ?_
  have hsrc:=(hS.own_rd List.mem_cons_self).src Tryz.underlying43 (cb_ones _)
  refine r_append el43 (hS.pick 2) hsrc (by simp; omega) (by simp only [List.length_append,maxLen]; omega) fun v' w4 hS=>?_
  skip
  have hone:=St.own_one hS
  refine r_store (hS.pick 2) one43 (by simp) hone fun w5 hS=>?_
  skip
  refine ⟨i,by omega,i,p++[UInt8.ofNat ((v / 256 ^ i) % 256).toNat],by rw [wr_i64 (by omega) (by omega)],rfl,by simp; omega,?_,?_⟩
  ·rw [← hp,List.append_assoc]; rfl
  ·have h1:=(hS.pick 2).drop
   rw [← cb_append,List.append_assoc] at h1
   exact Wr.shut (v:=v') h1 (by simp; omega)
 ·obtain rfl:m=0:=by omega
  simp only [enc,List.append_nil] at hp
  rw [← hp]; exact hS
theorem wInt32 (v:Int) (hl:l.length+4≤140737488355328) (h:St o w (Wr g l::R)) :
  CallV π Z 184 #[.pointer (some ⟨g,0,none⟩),.int .i32 v] w fun r w'=>St o w' (Wr g (l++enc 4 v)::R):=by
 refine f184.calls ?_
 unfold f184.sh
 (try simp only [cv_21_162])
 refine (whole Z _ (by rw [wrap_u64]; omega) 4 (by omega) hl h).mono fun r w' hS=>?_
 rwa [enc_wrap 4 (by omega)] at hS
theorem wInt64 (v:Int) (hl:l.length+8≤140737488355328) (h:St o w (Wr g l::R)) :
  CallV π Z 137 #[.pointer (some ⟨g,0,none⟩),.int .i64 v] w fun r w'=>St o w' (Wr g (l++enc 8 v)::R):=by
 refine f137.calls ?_
 unfold f137.sh
 (try simp only [cv_2_162])
 refine (whole Z _ (by rw [wrap_u64]; omega) 8 (by omega) hl h).mono fun r w' hS=>?_
 rwa [enc_wrap 8 (by omega)] at hS
theorem wUint32 (v:Int) (hl:l.length+4≤140737488355328) (h:St o w (Wr g l::R)) :
  CallV π Z 135 #[.pointer (some ⟨g,0,none⟩),.int .u32 v] w fun r w'=>St o w' (Wr g (l++enc 4 v)::R):=by
 refine f135.calls ?_
 unfold f135.sh
 (try simp only [cv_37_162])
 refine (whole Z _ (by rw [wrap_u64]; omega) 4 (by omega) hl h).mono fun r w' hS=>?_
 rwa [enc_wrap 4 (by omega)] at hS
theorem wInt8 (v:Int) (hl:l.length+1≤140737488355328) (h:St o w (Wr g l::R)) :
  CallV π Z 136 #[.pointer (some ⟨g,0,none⟩),.int .i8 v] w fun r w'=>St o w' (Wr g (l++enc 1 v)::R):=by
 refine f136.calls ?_
 unfold f136.sh
 (try simp only [cv_40_162])
 refine (whole Z _ (by rw [wrap_u64]; omega) 1 (by omega) hl h).mono fun r w' hS=>?_
 rwa [enc_wrap 1 (by omega)] at hS
theorem wBool (b:Bool) (hl:l.length+1≤140737488355328) (h:St o w (Wr g l::R)) :
  CallV π Z 185 #[.pointer (some ⟨g,0,none⟩),.bool b] w fun r w'=>St o w' (Wr g (l++[if b then 1 else 0])::R):=by
 refine f185.calls ?_
 unfold f185.sh
 intro j hj
 have hj':∀v:Int,0≤v→enc 1 v=[if b then 1 else 0]→j (.int .u64 v) w:=fun v hv he=>hj _ w fun _=>by
  refine (whole Z v hv 1 (by omega) hl h).mono fun r w' hS=>?_
  rwa [he] at hS
 cases b
 ·(try simp only [condF])
  exact hj' 0 (by omega) rfl
 ·(try simp only [condT])
  exact hj' 1 (by omega) rfl
theorem wRaw {x:Value} {n:Nat} (hx:Ent o R fun w=>Rd w 1 x n (cb k)) (hl:l.length+k.length≤140737488355328) (h:St o w (Wr g l::R)) :
  CallV π Z 203 #[.pointer (some ⟨g,0,none⟩),x] w fun r w'=>St o w' (Wr g (l++k)::R):=by
 have h0:=hx w h.drop
 have hn:=rd_len h0
 subst hn
 refine f203.calls ?_
 unfold f203.sh
 (try simp only [o_chk,fa_183_0,Nat.add_zero,neqp_181,condT])
 obtain ⟨sv,hS⟩:=Wr.open h
 refine r_load one43 (hS.at List.mem_cons_self 0 rfl) ?_
 refine r_append el43 hS.swap (h0.src Tryz.underlying43 (cb_ones _)) (by omega) (by simp only [maxLen]; omega) fun v' w1 hS=>?_
 skip
 have hone:=St.own_one hS
 refine r_store hS.swap one43 (by simp) hone fun w2 hS=>?_
 rw [← cb_append] at hS
 exact Wr.shut (v:=v') hS (by simp)
theorem wBuffer {x:Value} {n:Nat} (hx:Ent o R fun w=>Rd w 1 x n (cb k)) (hl:l.length+4+k.length≤140737488355328) (h:St o w (Wr g l::R)) :
  CallV π Z 181 #[.pointer (some ⟨g,0,none⟩),x] w fun r w'=>St o w' (Wr g (l++enc 4 (IntKind.i32.wrap k.length)++k)::R):=by
 have h0:=hx w h.drop
 have hn:=rd_len h0
 obtain ⟨a,c,rfl⟩:=h0.form
 subst hn
 refine f181.calls ?_
 unfold f181.sh
 (try simp only [ln_43_3,cv_3_21,eqlp_181,condF])
 refine (wInt32 Z _ (by omega) h).mono fun r w1 hS=>?_
 exact (wRaw Z hx (by simp [enc_length]; omega) hS).mono fun r w2 hS=>hS
theorem wText (s:ByteArray) (hl:l.length+4+s.size≤140737488355328) (h:St o w (Wr g l::R)) :
  CallV π Z 180 #[.pointer (some ⟨g,0,none⟩),.string s] w fun r w'=>St o w' (Wr g (l++enc 4 (IntKind.i32.wrap s.size)++s.data.toList)::R):=by
 refine f180.calls ?_
 unfold f180.sh
 (try simp only [o_chk,fa_183_0,Nat.add_zero,ln_9_3,cv_3_21,eqlp_181,condF])
 refine (wInt32 Z _ (by omega) h).mono fun r w1 hS=>?_
 obtain ⟨sv,hS⟩:=Wr.open hS
 refine r_load one43 (hS.at List.mem_cons_self 0 rfl) ?_
 refine r_append el43 hS.swap (Src.ofString w1 Tryz.underlying9 s) (by simp [enc_length]; omega) (by simp only [List.length_append,enc_length,maxLen]; omega) fun v' w1 hS=>?_
 skip
 have hone:=St.own_one hS
 refine r_store hS.swap one43 (by simp) hone fun w2 hS=>?_
 have e:byteCells s=cb s.data.toList:=rfl
 rw [e,← cb_append] at hS
 exact Wr.shut (v:=v') hS (by have e:s.data.toList.length=s.size:=rfl; simp only [List.length_append,enc_length,e])
theorem wBytes (hl:l.length≤140737488355328) (h:St o w (Wr g l::R)):CallV π Z 139 #[.pointer (some ⟨g,0,none⟩)] w fun r w'=>St o w' (own 5 1 r l.length (cb l)::Wr g l::R):=by
 refine f139.calls ?_
 unfold f139.sh
 (try simp only [o_chk,fa_183_0,Nat.add_zero,eqlp_181,condF])
 obtain ⟨sv,hS⟩:=Wr.open h
 refine r_load one43 (hS.at List.mem_cons_self 0 rfl) ?_
 have hsrc:=(hS.own_rd (List.mem_cons_of_mem _ List.mem_cons_self)).src Tryz.underlying43 (cb_ones _)
 refine r_append el43 (hS.own_nil 5 1) hsrc (by omega) (by simp only [maxLen]; omega) fun v' w1 hS=>?_
 rw [List.nil_append,Nat.zero_add] at hS
 exact (Wr.shut ((hS.pick 2).pick 2) rfl:St o w1 (Wr g l::_)).swap
end
end Go.Proofs.YtbdfhfceffkhgaaGreatDoor


/- Readers: what each call of a Reader answers, and leaves. -/
set_option linter.unusedVariables false
set_option linter.unusedSimpArgs false
namespace Go.Proofs.YtbdfhfceffkhgaaGreatDoor
open Go.Sh
open Tryz renaming prog → π
def buf (B:Option Nat) (all:List UInt8):HProp:=fun h=>match B with
 | none=>all=[]
 | some b=>∃rest,blk b 5 (cb all++rest) h
def Vw (B:Option Nat) (off n:Nat) (v:Value):Prop:=∃a c,v=.slice a n c∧n≤c∧n≤maxLen∧(n=0∨∃b,B=some b∧a=some ⟨b,off,none⟩)
section
variable {o w:World} {R As:List HProp} {g:Nat} {B:Option Nat} {all:List UInt8} {off n k:Nat} {v:Value} {err:Int}
theorem Vw.to (h:Vw B off n v) (k:Nat) (hk:k≤n) (q q':IntKind):∃x,(∀w,(Instr.sliceAt 43 v none (some (.int q k)) (some (.int q' k))).run π w=.ok x w)∧Vw B off k x:=by
 obtain ⟨a,c,rfl,h1,h2,h3⟩:=h
 refine ⟨_,fun w=>run_slice_3 el43 a n c q q' k k (by omega) (by omega) (by omega) w,_,_,rfl,Nat.le_refl _,by omega,?_⟩
 rcases h3 with rfl | ⟨b,rfl,rfl⟩
 ·exact .inl (by omega)
 ·exact .inr ⟨b,rfl,rfl⟩
theorem Vw.from (h:Vw B off n v) (k:Nat) (hk:k≤n) (q:IntKind):∃x,(∀w,(Instr.sliceAt 43 v (some (.int q k)) none none).run π w=.ok x w)∧Vw B (off+k) (n - k) x:=by
 obtain ⟨a,c,rfl,h1,h2,h3⟩:=h
 refine ⟨_,fun w=>run_slice_from el43 a n c q k (by omega) (by omega) w,_,_,rfl,by omega,by omega,?_⟩
 rcases h3 with rfl | ⟨b,rfl,rfl⟩
 ·exact .inl (by omega)
 ·by_cases hc:c=k
  ·exact .inl (by omega)
  ·refine .inr ⟨b,rfl,?_⟩
   simp [hc,add_addr]
theorem Vw.rd (h:Vw B off n v) (hS:St o w As) (hm:buf B all ∈ As) (hn:off+n≤all.length):Rd w 1 v n (cb ((all.drop off).take n)):=by
 obtain ⟨a,c,rfl,h1,h2,h3⟩:=h
 refine ⟨by simp [cb]; omega,h2,?_⟩
 rcases h3 with rfl | ⟨b,rfl,rfl⟩
 ·cases a with
  | none=>exact .inl ⟨c,rfl,rfl⟩
  | some a=>exact .inr ⟨a,c,rfl,fun j u hu=>by simp [cb] at hu⟩
 ·refine .inr ⟨_,c,rfl,fun j u hu=>?_⟩
  obtain ⟨S,rest,hA⟩:=satH_mem hm hS.sat
  have hb:ob 5 (cb all++rest) w.heap[b]? := (blk_on hA).1
  have hj:=(List.getElem?_eq_some_iff.1 hu).1
  rw [cb_length,List.length_take,List.length_drop] at hj
  rw [add_addr,cell_of_blk hb,List.getElem?_append_left (by rw [cb_length]; omega),← hu]
  simp only [cb,List.getElem?_map,List.getElem?_take,List.getElem?_drop]
  rw [if_pos (by omega)]
theorem own_buf (h:St o w (own 5 1 v n (cb all)::R)):∃B,Vw B 0 n v∧St o w (buf B all::R):=by
 obtain ⟨hl,⟨rfl,rfl,h2⟩ | ⟨b,cap,rest,rfl,h1,h2,h3,hB⟩⟩:=h.own_open
 ·refine ⟨none,⟨none,0,rfl,Nat.le_refl _,by simp [maxLen],.inl rfl⟩,?_⟩
  have:all=[]:=by simpa [cb] using hl
  subst this
  exact h2.emp.mono fun _ _=>rfl
 ·exact ⟨some b,⟨_,_,rfl,h1,Nat.le_trans h1 h2,.inr ⟨b,rfl,rfl⟩⟩,hB.mono fun _ hx=>⟨rest,hx⟩⟩
def RdrAt (g:Nat) (B:Option Nat) (all:List UInt8) (off:Nat) (err:Int):HProp:=fun h=>∃v,(Vw B off (all.length - off) v∧off≤all.length)∧sep (blk g 198 [.bool true,v,.int .i64 err]) (buf B all) h
theorem RdrAt.open (h:St o w (RdrAt g B all off err::R)):∃v,Vw B off (all.length - off) v∧off≤all.length∧St o w (blk g 198 [.bool true,v,.int .i64 err]::buf B all::R):=by
 obtain ⟨v,h⟩:=h.ex
 obtain ⟨⟨h1,h2⟩,h⟩:=h.pure
 exact ⟨v,h1,h2,h.sep⟩
theorem RdrAt.shut (hv:Vw B off (all.length - off) v) (ho:off≤all.length) (h:St o w (blk g 198 [.bool true,v,.int .i64 err]::buf B all::R)):St o w (RdrAt g B all off err::R):=
 (h.sep_intro.pure_intro ⟨hv,ho⟩).ex_intro v
theorem RdrAt.le (h:St o w (RdrAt g B all off err::R)):off≤all.length:=by obtain ⟨_,_,h,_⟩:=RdrAt.open h; exact h
def Rdr (g:Nat) (rest:List UInt8) (err:Int):HProp:=fun h=>∃B all off,rest=all.drop off∧RdrAt g B all off err h
theorem Rdr.open {rest:List UInt8} (h:St o w (Rdr g rest err::R)):∃B all off,rest=all.drop off∧St o w (RdrAt g B all off err::R):=by
 obtain ⟨B,h⟩:=h.ex
 obtain ⟨all,h⟩:=h.ex
 obtain ⟨off,h⟩:=h.ex
 obtain ⟨h1,h⟩:=h.pure
 exact ⟨B,all,off,h1,h⟩
theorem Rdr.shut (h:St o w (RdrAt g B all off err::R)):St o w (Rdr g (all.drop off) err::R):=((((h.pure_intro rfl).ex_intro off).ex_intro all).ex_intro B)
theorem Vw.one (h:Vw B off n v):v.oneCell'=true:=by obtain ⟨a,c,rfl,_⟩:=h; rfl
end
section
variable (Z:PZ) {o w:World} {R:List HProp} {g:Nat} {B:Option Nat} {all l:List UInt8} {off:Nat} {err:Int}
theorem rNew {x:Value} {n:Nat} (h:St o w R) (hx:Ent o R fun w=>Rd w 1 x n (cb l)) (hl:l.length≤140737488355328) :
  CallV π Z 96 #[x] w fun r w'=>∃g B,r=.pointer (some ⟨g,0,none⟩)∧St o w' (RdrAt g B l 0 0::R):=by
 have h0:=hx w h
 have hn:=rd_len h0
 subst hn
 refine f96.calls ?_
 unfold f96.sh
 refine r_append el43 (h.own_nil 5 1) (h0.src Tryz.underlying43 (cb_ones _)) (by omega) (by simp only [maxLen]; omega) fun v' w1 hS=>?_
 rw [List.nil_append,Nat.zero_add] at hS
 obtain ⟨a,c,rfl⟩:=hS.own_form
 refine r1 (run_build w1 198 _ #[.bool true,.slice a l.length c,.int .i64 0] (by kernel_rfl)) ?_
 obtain ⟨B,hv,hS⟩:=own_buf hS
 refine r_box 198 _ hS fun g w2 hS=>?_
 exact ⟨g,B,rfl,RdrAt.shut (off:=0) (by simpa using hv) (by omega) hS⟩
theorem rNone (h:St o w (RdrAt g B all off err::R)):CallV π Z 198 #[.pointer (some ⟨g,0,none⟩)] w fun r w'=>r=.bool false∧w'=w:=by
 refine f198.calls ?_
 unfold f198.sh
 obtain ⟨v,hv,ho,hS⟩:=RdrAt.open h
 (try simp only [eqlp_142,o_pickF,guardW_ff,o_chk,fa_198_0,Nat.add_zero])
 refine r_load one4 (hS.at List.mem_cons_self 0 rfl) ?_
 (try simp only [o_not,Bool.not_true])
 exact ⟨trivial,trivial⟩
theorem rOpen (h:St o w (RdrAt g B all off err::R)):CallV π Z 160 #[.pointer (some ⟨g,0,none⟩)] w fun r w'=>r=.bool (err == 0)∧w'=w:=by
 refine f160.calls ?_
 unfold f160.sh
 refine (rNone Z h).mono fun r w' ⟨hr,hw⟩=>?_
 subst hr; subst hw
 obtain ⟨v,hv,ho,hS⟩:=RdrAt.open h
 (try simp only [o_not,Bool.not_false,o_pickT,guardW_true,o_chk,fa_198_2,Nat.zero_add])
 refine r_load one30 (hS.at List.mem_cons_self 2 rfl) ?_
 (try simp only [o_eql])
 exact ⟨trivial,trivial⟩
theorem rMark (h:St o w (RdrAt g B all off err::R)):CallV π Z 196 #[.pointer (some ⟨g,0,none⟩)] w fun r w'=>Vw B off (all.length - off) r∧w'=w:=by
 refine f196.calls ?_
 unfold f196.sh
 refine (rNone Z h).mono fun r w' ⟨hr,hw⟩=>?_
 subst hr; subst hw
 obtain ⟨v,hv,ho,hS⟩:=RdrAt.open h
 (try simp only [o_chk,fa_198_1,Nat.zero_add,condF])
 refine r_load one43 (hS.at List.mem_cons_self 1 rfl) ?_
 exact ⟨hv,rfl⟩
theorem rErr (h:St o w (RdrAt g B all off err::R)):CallV π Z 161 #[.pointer (some ⟨g,0,none⟩)] w fun r w'=>r=.int .i64 err∧w'=w:=by
 refine f161.calls ?_
 unfold f161.sh
 refine (rNone Z h).mono fun r w' ⟨hr,hw⟩=>?_
 subst hr; subst hw
 obtain ⟨v,hv,ho,hS⟩:=RdrAt.open h
 (try simp only [o_chk,fa_198_2,Nat.zero_add,condF])
 refine r_load one30 (hS.at List.mem_cons_self 2 rfl) ?_
 exact ⟨rfl,rfl⟩
theorem rEnd (h:St o w (RdrAt g B all off err::R)):CallV π Z 101 #[.pointer (some ⟨g,0,none⟩)] w fun r w'=>r=.int .i64 (if err=0∧off < all.length then 13 else err)∧w'=w:=by
 refine f101.calls ?_
 unfold f101.sh
 refine (rOpen Z h).mono fun r w' ⟨hr,hw⟩=>?_
 subst hr; subst hw
 obtain ⟨v,hv,ho,hS⟩:=RdrAt.open h
 by_cases he:err=0
 ·subst he
  obtain ⟨a,c,rfl,_⟩:=hv
  (try simp only [beq_self_eq_true,o_pickT,guardW_true,o_chk,fa_198_1,Nat.zero_add])
  skip
  skip
  refine r_load one43 (hS.at List.mem_cons_self 1 rfl) ?_
  (try simp only [ln_43_3,o_gtr,cond_decide])
  refine ⟨fun hlt=>⟨by rw [if_pos ⟨trivial,by omega⟩],trivial⟩,fun hge=>?_⟩
  refine (rErr Z h).mono fun r w' ⟨hr,hw⟩=>?_
  subst hr; subst hw
  exact ⟨by rw [if_neg (by omega)],rfl⟩
 ·have:(err == 0)=false:=by simpa using he
  rw [this]
  (try simp only [o_pickF,condF,guardW_ft])
  refine (rErr Z h).mono fun r w' ⟨hr,hw⟩=>?_
  subst hr; subst hw
  exact ⟨by rw [if_neg (by omega)],rfl⟩
theorem rSet {k:World→Prop} (e:Int) (h:St o w (RdrAt g B all off err::R)) (hk:∀w',St o w' (RdrAt g B all off e::R)→k w'):rO π Z (Instr.storeAt 30 (.pointer (some ⟨g,2,none⟩)) (.int .i64 e)) w k:=by
 obtain ⟨v,hv,ho,hS⟩:=RdrAt.open h
 exact r_store hS one30 (by simp) rfl fun w' hS=>hk w' (RdrAt.shut hv ho hS)
theorem rPut {k:World→Prop} {v:Value} {off':Nat} (h:St o w (RdrAt g B all off err::R)) (hv:Vw B off' (all.length - off') v) (ho:off'≤all.length) (hk:∀w',St o w' (RdrAt g B all off' err::R)→k w'):rO π Z (Instr.storeAt 43 (.pointer (some ⟨g,1,none⟩)) v) w k:=by
 obtain ⟨_,_,_,hS⟩:=RdrAt.open h
 exact r_store hS one43 (by simp) hv.one fun w' hS=>hk w' (RdrAt.shut hv ho hS)
theorem rFail (e:Int) (h:St o w (RdrAt g B all off err::R)):CallV π Z 149 #[.pointer (some ⟨g,0,none⟩),.int .i64 e] w fun r w'=>St o w' (RdrAt g B all off (if err=0 then e else err)::R):=by
 refine f149.calls ?_
 unfold f149.sh
 refine (rOpen Z h).mono fun r w' ⟨hr,hw⟩=>?_
 subst hr; subst hw
 by_cases he:err=0
 ·subst he
  simp only [beq_self_eq_true,if_true]
  (try simp only [o_chk,fa_198_2,Nat.zero_add,condT])
  exact rSet Z e h fun w' hS=>hS
 ·have:(err == 0)=false:=by simpa using he
  rw [this,if_neg he]
  (try simp only [o_chk,fa_198_2,Nat.zero_add,condF])
  exact h
theorem rBack {v:Value} {off':Nat} (e:Int) (h:St o w (RdrAt g B all off err::R)) (hv:Vw B off' (all.length - off') v) (ho:off'≤all.length):CallV π Z 197 #[.pointer (some ⟨g,0,none⟩),v,.int .i64 e] w fun r w'=>St o w' (RdrAt g B all off' e::R):=by
 refine f197.calls ?_
 unfold f197.sh
 (try simp only [o_chk,fa_198_2,Nat.zero_add,fa_198_1])
 refine rPut Z h hv ho fun w1 hS=>?_
 skip
 exact rSet Z e hS fun w' hS=>hS
theorem rAhead (n:Nat) (h:St o w (RdrAt g B all off err::R)):CallV π Z 194 #[.pointer (some ⟨g,0,none⟩),.int .i64 n] w fun r w'=>
  (∃x,r=.tuple #[x,.bool true]∧err=0∧off+n≤all.length∧Vw B off n x∧St o w' (RdrAt g B all off 0::R)) ∨
  (r=.tuple #[.slice none 0 0,.bool false]∧¬ (err=0∧off+n≤all.length)∧St o w' (RdrAt g B all off (if err=0 then 10 else err)::R)):=by
 refine f194.calls ?_
 unfold f194.sh
 refine (rOpen Z h).mono fun r w' ⟨hr,hw⟩=>?_
 subst hr; subst hw
 obtain ⟨v,hv,ho,hS⟩:=RdrAt.open h
 by_cases he:err=0
 ·subst he
  obtain ⟨a,c,rfl,hv'⟩:=id hv
  (try simp only [beq_self_eq_true])
  (try simp only [o_chk,fa_198_2,Nat.zero_add,fa_198_1,o_not,Bool.not_true,condF])
  refine r_load one43 (hS.at List.mem_cons_self 1 rfl) ?_
  (try simp only [ln_43_3,o_lss,cond_decide])
  refine ⟨fun hlt=>?_,fun hge=>?_⟩
  ·refine rSet Z 10 h fun w' hS=>.inr ⟨trivial,by omega,hS⟩
  ·refine r_load one43 (hS.at List.mem_cons_self 1 rfl) ?_
   obtain ⟨x,hx,hvx⟩:=hv.to n (by omega) .i64 .i64
   exact r1 (hx _) (.inl ⟨x,rfl,trivial,by omega,hvx,h⟩)
 ·have:(err == 0)=false:=by simpa using he
  rw [this]
  (try simp only [o_chk,fa_198_2,Nat.zero_add,fa_198_1,o_not,Bool.not_false,condT])
  exact .inr ⟨trivial,by omega,by rw [if_neg he]; exact h⟩
def dec (l:List UInt8):Nat:=l.foldl (fun v x=>v * 256+x.toNat) 0
theorem dec_take {l:List UInt8} {i:Nat} (h:i < l.length):dec (l.take (i+1))=dec (l.take i) * 256+l[i].toNat:=by
 rw [List.take_succ_eq_append_getElem h]
 unfold dec
 rw [List.foldl_append]
 rfl
theorem dec_lt (l:List UInt8):dec l < 256 ^ l.length:=by
 have key:∀(l:List UInt8) (v n:Nat),v < 256 ^ n→l.foldl (fun v x=>v * 256+x.toNat) v < 256 ^ (n+l.length):=by
  intro l
  induction l with
  | nil=>intro v n h; simpa using h
  | cons x l ih=>
   intro v n h
   have hx:=x.toNat_lt
   have:=ih (v * 256+x.toNat) (n+1) (by rw [Nat.pow_succ]; omega)
   simpa [Nat.add_assoc,Nat.add_comm 1] using this
 have:=key l 0 0 (by simp)
 rw [Nat.zero_add] at this
 exact this
theorem dec_or (a:Nat) (b:Nat) (ha:a < 2 ^ 56) (hb:b < 256):IntKind.u64.wrap (BitVec.ofInt 64 (IntKind.u64.wrap ((a:Int) * 2 ^ 8)) ||| BitVec.ofInt 64 (b:Int)).toNat=((a * 256+b:Nat):Int):=by
 have e1:IntKind.u64.wrap ((a:Int) * 2 ^ 8)=((a * 256:Nat):Int):=by
  rw [wr_u64 (by omega) (by omega)]; omega
 rw [e1,BitVec.ofInt_natCast,BitVec.ofInt_natCast,BitVec.toNat_or,BitVec.toNat_ofNat,BitVec.toNat_ofNat]
 have h1:a * 256 % 2 ^ 64=a * 256:=Nat.mod_eq_of_lt (by omega)
 have h2:b % 2 ^ 64=b:=Nat.mod_eq_of_lt (by omega)
 rw [h1,h2]
 have h3:a * 256 ||| b=a * 256+b:=by
  have:=Nat.two_pow_add_eq_or_of_lt (i:=8) (b:=b) (by omega) a
  rw [show a * 256=2 ^ 8 * a by omega,← this]
 rw [h3,wr_u64 (by omega) (by omega)]
theorem rWhole (n:Nat) (hn:n≤8) (h:St o w (RdrAt g B all off err::R)):CallV π Z 148 #[.pointer (some ⟨g,0,none⟩),.int .i64 n] w fun r w'=>
  (r=.int .u64 (dec ((all.drop off).take n))∧err=0∧off+n≤all.length∧St o w' (RdrAt g B all (off+n) 0::R)) ∨
  (r=.int .u64 0∧¬ (err=0∧off+n≤all.length)∧St o w' (RdrAt g B all off (if err=0 then 10 else err)::R)):=by
 refine f148.calls ?_
 unfold f148.sh
 refine (rAhead Z n h).mono fun r w1 hq=>?_
 rcases hq with ⟨x,rfl,rfl,hle,hvx,hS⟩ | ⟨rfl,hno,hS⟩
 ·obtain ⟨a,c,rfl,_⟩:=id hvx
  (try simp only [o_chk,fa_198_1,Nat.zero_add,o_ext2_1,o_not,Bool.not_true,condF,o_ext2_0,ln_43_3])
  refine ⟨fun m y z w'=>∃i:Nat,y=.int .u64 (dec (((all.drop off).take n).take i))∧z=.int .i64 i∧m+i=n∧w'=w1,⟨n,0,rfl,rfl,rfl,rfl⟩,?_⟩
  rintro m _ _ w2 ⟨i,rfl,rfl,hi,rfl⟩ _
  have hll:((all.drop off).take n).length=n:=by rw [List.length_take,List.length_drop]; omega
  (try simp only [o_add,o_lss,cond_decide])
  refine ⟨fun hlt=>?_,fun hge=>?_⟩
  ·obtain ⟨_,_,_,hO⟩:=RdrAt.open hS
   have hi1:i < ((all.drop off).take n).length:=by omega
   obtain ⟨p,hp,hpc⟩:=rd_index (hvx.rd hO (List.mem_cons_of_mem _ List.mem_cons_self) hle) i hi1
   refine r1 (hp _) (r_load one5 hpc ?_)
   refine r1 (run_shl _ _ _ .u64 .u64 _ 8 (by omega)) ?_
   have hb:=((all.drop off).take n)[i].toNat_lt
   have hd:=dec_lt (((all.drop off).take n).take i)
   have hd2:dec (((all.drop off).take n).take i) < 2 ^ 56:=by
    refine Nat.lt_of_lt_of_le hd ?_
    have:(256:Nat) ^ (((all.drop off).take n).take i).length≤256 ^ 7:=Nat.pow_le_pow_right (by omega) (by rw [List.length_take]; omega)
    omega
   (try simp only [cv_5_162,o_or])
   rw [wr_u64 (x:=((((all.drop off).take n)[i].toNat:Nat):Int)) (by omega) (by omega),wr_i64 (x:=(i:Int)+1) (by omega) (by omega)]
   refine ⟨m - 1,by omega,i+1,?_,rfl,by omega,trivial⟩
   rw [dec_take hi1]
   exact congrArg _ (dec_or _ _ hd2 (by omega))
  ·obtain rfl:i=n:=by omega
   rw [List.take_take,Nat.min_self]
   obtain ⟨v,hv,ho,hO⟩:=RdrAt.open hS
   refine r_load one43 (hO.at List.mem_cons_self 1 rfl) ?_
   obtain ⟨x,hx,hvx2⟩:=hv.from i (by omega) .i64
   refine r1 (hx _) ?_
   (try simp only [])
   refine rPut Z hS (by rwa [show all.length - off - i=all.length - (off+i) by omega] at hvx2) hle fun w3 hS3=>?_
   exact .inl ⟨trivial,trivial,hle,hS3⟩
 ·(try simp only [o_chk,fa_198_1,Nat.zero_add,o_ext2_1,o_not,Bool.not_false,condT,o_ext2_0])
  exact .inr ⟨trivial,hno,hS⟩
end
end Go.Proofs.YtbdfhfceffkhgaaGreatDoor


/- The document's bytes of numbers. -/
set_option linter.unusedVariables false
set_option linter.unusedSimpArgs false
namespace Go.Proofs.YtbdfhfceffkhgaaGreatDoor
open Go.Sh
open Tryz renaming prog → π
theorem u8_wrap (v:Int):IntKind.u8.wrap v=((UInt8.ofNat (v % 256).toNat).toNat:Int):=by rw [byte_toNat,wrap_u8]
theorem i32_range (x:Int) : -2147483648≤IntKind.i32.wrap x∧IntKind.i32.wrap x≤2147483647:=by
 simp only [IntKind.wrap,IntKind.bits,IntKind.signed]
 simp
 split <;> omega
theorem enc_mod (n:Nat) (v:Int):enc n (v % 256 ^ n)=enc n v:=by
 suffices h:∀m,n≤m→enc n (v % 256 ^ m)=enc n v from h n (Nat.le_refl _)
 intro m hm
 induction n with
 | zero=>rfl
 | succ n ih=>
  simp only [enc]
  rw [ih (by omega)]
  congr 3
  obtain ⟨k,rfl⟩:∃k,m=n+(k+1):=⟨m - n - 1,by omega⟩
  have hp:(0:Int) < 256 ^ n:=Int.pow_pos (by omega)
  rw [Int.pow_add,Int.emod_def v (256 ^ n * 256 ^ (k+1)),Int.mul_assoc,Int.sub_eq_add_neg,← Int.mul_neg,Int.add_mul_ediv_left _ _ (by omega),Int.pow_succ]
  have e2 : -(256 ^ k * 256 * (v / (256 ^ n * (256 ^ k * 256))))=256 * (-(256 ^ k * (v / (256 ^ n * (256 ^ k * 256))))):=by
   rw [Int.mul_comm (256 ^ k) 256,Int.mul_assoc,Int.mul_neg]
  rw [e2]
  omega
section
variable (Z:PZ) {o w:World} {R:List HProp} {g:Nat} {l k:List UInt8}
end

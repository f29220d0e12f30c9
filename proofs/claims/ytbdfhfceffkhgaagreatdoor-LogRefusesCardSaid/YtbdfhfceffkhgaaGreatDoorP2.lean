
/- Writers: what each call of a Writer leaves. -/
import Derived.Test.YtbdfhfceffkhgaaGreatDoorP1
set_option linter.unusedVariables false
set_option linter.unusedSimpArgs false
namespace Go.Proofs.YtbdfhfceffkhgaaGreatDoor
open Go.Sh
open Tryz renaming prog → π
def enc:Nat→Int→List UInt8
 | 0,_=>[]
 | n+1,v=>UInt8.ofNat ((v / 256 ^ n) % 256).toNat::enc n v
theorem enc_length (n:Nat) (v:Int):(enc n v).length=n:=by
 induction n with
 | zero=>rfl
 | succ n ih=>simp [enc,ih]
theorem byte_toNat (x:Int):((UInt8.ofNat (x % 256).toNat).toNat:Int)=x % 256:=by
 rw [UInt8.toNat_ofNat']
 omega
theorem wrap_u64 (v:Int):IntKind.u64.wrap v=v % 18446744073709551616:=by simp [IntKind.wrap,IntKind.bits,IntKind.signed]
theorem wrap_u8 (v:Int):IntKind.u8.wrap v=v % 256:=by simp [IntKind.wrap,IntKind.bits,IntKind.signed]
theorem enc_wrap (n:Nat) (hn:n≤8) (v:Int):enc n (IntKind.u64.wrap v)=enc n v:=by
 have hw:IntKind.u64.wrap v=v % 18446744073709551616:=wrap_u64 v
 rw [hw]
 have key:∀i:Nat,i < 8→(v % 18446744073709551616 / 256 ^ i) % 256=(v / 256 ^ i) % 256:=by
  intro i hi
  match i,hi with
  | 0,_=>omega
  | 1,_=>omega
  | 2,_=>omega
  | 3,_=>omega
  | 4,_=>omega
  | 5,_=>omega
  | 6,_=>omega
  | 7,_=>omega
 induction n with
 | zero=>rfl
 | succ n ih=>simp only [enc]; rw [key n (by omega),ih (by omega)]
theorem shr_byte (v:Int) (hv:0≤v) (i:Nat) (hi:i < 8):IntKind.u8.wrap (v.fdiv (2 ^ min (8 * i) 64))=((UInt8.ofNat ((v / 256 ^ i) % 256).toNat).toNat:Int):=by
 have hw:∀x:Int,IntKind.u8.wrap x=x % 256:=fun x=>wrap_u8 x
 rw [byte_toNat,hw,Nat.min_eq_left (by omega),Int.fdiv_eq_ediv_of_nonneg _ (by exact Int.le_of_lt (Int.pow_pos (by omega)))]
 rw [Int.pow_mul]
 rfl
def Wr (g:Nat) (l:List UInt8):HProp:=fun h=>∃v,sep (blk g 183 [v]) (own 5 1 v l.length (cb l)) h
theorem own_one {e sz n:Nat} {v:Value} {xs:List Value} {h:Hp} (ho:own e sz v n xs h):v.oneCell'=true:=by
 rcases ho.2 with ⟨rfl,_⟩ | ⟨_,_,_,rfl,_⟩ <;> rfl
theorem St.own_one {o w:World} {R:List HProp} {e sz n:Nat} {v:Value} {xs:List Value} (h:St o w (own e sz v n xs::R)):v.oneCell'=true:=by
 obtain ⟨S,hA,_⟩:=h.sat
 exact _root_.Go.Proofs.YtbdfhfceffkhgaaGreatDoor.own_one hA
section
variable (Z:PZ) {o w:World} {R:List HProp} {g:Nat} {l k:List UInt8}
theorem Wr.open (h:St o w (Wr g l::R)):∃v,St o w (blk g 183 [v]::own 5 1 v l.length (cb l)::R):=by
 obtain ⟨v,h⟩:=h.ex
 exact ⟨v,h.sep⟩
theorem Wr.shut {v:Value} {n:Nat} (h:St o w (blk g 183 [v]::own 5 1 v n (cb l)::R)) (hn:n=l.length):St o w (Wr g l::R):=by subst hn; exact h.sep_intro.ex_intro v
theorem Wr.plain (h:St o w (blk g 183 [.slice none 0 0]::R)):St o w (Wr g []::R):=Wr.shut (v:=.slice none 0 0) (h.own_nil 5 1).swap rfl
theorem whole (v:Int) (hv:0≤v) (n:Nat) (hn:n≤8) (hl:l.length+n≤140737488355328) (h:St o w (Wr g l::R)) :
  CallV π Z 179 #[.pointer (some ⟨g,0,none⟩),.int .u64 v,.int .i64 n] w fun r w'=>St o w' (Wr g (l++enc n v)::R):=by
 refine f179.calls ?_
 unfold f179.sh
 (try simp only [o_chkp,fa_183_0p,Nat.add_zero,o_sub,eqlp_181,condF])
 refine ⟨fun m y w'=>∃(i:Nat) (p:List UInt8),y=.int .i64 ((i:Int) - 1)∧m=i∧p.length+i=n∧p++enc i v=enc n v∧St o w' (Wr g (l++p)::R),
  ⟨n,n,[],by rw [wr_i64 (by omega) (by omega)],rfl,by simp,rfl,by simpa using h⟩,?_⟩
 rintro m _ w1 ⟨i,p,rfl,rfl,hi,hp,hS⟩ _
 (try simp only [o_sub,o_mulp,o_geq,cond_decide])
 refine ⟨fun hge=>⟨fun w2 hd=>?_⟩,fun hlt=>?_⟩
 ·obtain ⟨i,rfl⟩:∃j,m=j+1:=⟨m - 1,by omega⟩
  obtain ⟨sv,hS⟩:=Wr.open (hS.drew hd)
  rw [show (((i+1:Nat):Int) - 1)=(i:Int) by omega]
  refine rr_load one43 (hS.at List.mem_cons_self 0 rfl) ?_
  rw [wr_i64 (x:=8 * (i:Int)) (by omega) (by omega)]
  refine rp (fun w=>run_shr _ w _ .u64 .i64 v (8 * i) (by omega)) ?_
  (try simp only [cv_162_5p])
  rw [show (8 * (i:Int)).toNat=8 * i by omega,show IntKind.u64.bits=64 by rfl,shr_byte v hv i (by omega)]
  refine r_slice el43 hS 1 _ (cb [UInt8.ofNat ((v / 256 ^ i) % 256).toNat]) rfl (by omega) (by omega) (cb_ones _) rfl fun gb w3 hS=>?_
  refine rs_load one43 (hS.at (List.mem_cons_of_mem _ List.mem_cons_self) 0 rfl) ?_
  have hsrc:=(hS.own_rd List.mem_cons_self).src Tryz.underlying43 (cb_ones _)
  refine r_append el43 (hS.pick 2) hsrc (by simp; omega) (by simp only [List.length_append,maxLen]; omega) fun v' w4 hS=>?_
  skip
  have hone:=St.own_one hS
  refine r_store (hS.pick 2) one43 (by simp) hone fun w5 hS=>?_
  skip
  refine ⟨i,by omega,i,p++[UInt8.ofNat ((v / 256 ^ i) % 256).toNat],by rw [wr_i64 (by omega) (by omega)],rfl,by simp; omega,?_,?_⟩
  ·rw [← hp,List.append_assoc]; rfl
  ·have h1:=(hS.pick 2).drop
   rw [← cb_append,List.append_assoc] at h1
   exact Wr.shut (v:=v') h1 (by simp; omega)
 ·obtain rfl:m=0:=by omega
  simp only [enc,List.append_nil] at hp
  rw [← hp]; exact hS
theorem wInt32 (v:Int) (hl:l.length+4≤140737488355328) (h:St o w (Wr g l::R)) :
  CallV π Z 184 #[.pointer (some ⟨g,0,none⟩),.int .i32 v] w fun r w'=>St o w' (Wr g (l++enc 4 v)::R):=by
 refine f184.calls ?_
 unfold f184.sh
 (try simp only [cv_21_162])
 refine (whole Z _ (by rw [wrap_u64]; omega) 4 (by omega) hl h).mono fun r w' hS=>?_
 rwa [enc_wrap 4 (by omega)] at hS
theorem wInt64 (v:Int) (hl:l.length+8≤140737488355328) (h:St o w (Wr g l::R)) :
  CallV π Z 137 #[.pointer (some ⟨g,0,none⟩),.int .i64 v] w fun r w'=>St o w' (Wr g (l++enc 8 v)::R):=by
 refine f137.calls ?_
 unfold f137.sh
 (try simp only [cv_2_162])
 refine (whole Z _ (by rw [wrap_u64]; omega) 8 (by omega) hl h).mono fun r w' hS=>?_
 rwa [enc_wrap 8 (by omega)] at hS
theorem wUint32 (v:Int) (hl:l.length+4≤140737488355328) (h:St o w (Wr g l::R)) :
  CallV π Z 135 #[.pointer (some ⟨g,0,none⟩),.int .u32 v] w fun r w'=>St o w' (Wr g (l++enc 4 v)::R):=by
 refine f135.calls ?_
 unfold f135.sh
 (try simp only [cv_37_162])
 refine (whole Z _ (by rw [wrap_u64]; omega) 4 (by omega) hl h).mono fun r w' hS=>?_
 rwa [enc_wrap 4 (by omega)] at hS
theorem wInt8 (v:Int) (hl:l.length+1≤140737488355328) (h:St o w (Wr g l::R)) :
  CallV π Z 136 #[.pointer (some ⟨g,0,none⟩),.int .i8 v] w fun r w'=>St o w' (Wr g (l++enc 1 v)::R):=by
 refine f136.calls ?_
 unfold f136.sh
 (try simp only [cv_40_162])
 refine (whole Z _ (by rw [wrap_u64]; omega) 1 (by omega) hl h).mono fun r w' hS=>?_
 rwa [enc_wrap 1 (by omega)] at hS
theorem wBool (b:Bool) (hl:l.length+1≤140737488355328) (h:St o w (Wr g l::R)) :
  CallV π Z 185 #[.pointer (some ⟨g,0,none⟩),.bool b] w fun r w'=>St o w' (Wr g (l++[if b then 1 else 0])::R):=by
 refine f185.calls ?_
 unfold f185.sh
 intro j hj
 have hj':∀v:Int,0≤v→enc 1 v=[if b then 1 else 0]→j (.int .u64 v) w:=fun v hv he=>hj _ w fun _=>by
  refine (whole Z v hv 1 (by omega) hl h).mono fun r w' hS=>?_
  rwa [he] at hS
 cases b
 ·(try simp only [condF])
  exact hj' 0 (by omega) rfl
 ·(try simp only [condT])
  exact hj' 1 (by omega) rfl
theorem wRaw {x:Value} {n:Nat} (hx:Ent o R fun w=>Rd w 1 x n (cb k)) (hl:l.length+k.length≤140737488355328) (h:St o w (Wr g l::R)) :
  CallV π Z 203 #[.pointer (some ⟨g,0,none⟩),x] w fun r w'=>St o w' (Wr g (l++k)::R):=by
 have h0:=hx w h.drop
 have hn:=rd_len h0
 subst hn
 refine f203.calls ?_
 unfold f203.sh
 (try simp only [o_chk,fa_183_0,Nat.add_zero,neqp_181,condT])
 obtain ⟨sv,hS⟩:=Wr.open h
 refine r_load one43 (hS.at List.mem_cons_self 0 rfl) ?_
 refine r_append el43 hS.swap (h0.src Tryz.underlying43 (cb_ones _)) (by omega) (by simp only [maxLen]; omega) fun v' w1 hS=>?_
 skip
 have hone:=St.own_one hS
 refine r_store hS.swap one43 (by simp) hone fun w2 hS=>?_
 rw [← cb_append] at hS
 exact Wr.shut (v:=v') hS (by simp)
theorem wBuffer {x:Value} {n:Nat} (hx:Ent o R fun w=>Rd w 1 x n (cb k)) (hl:l.length+4+k.length≤140737488355328) (h:St o w (Wr g l::R)) :
  CallV π Z 181 #[.pointer (some ⟨g,0,none⟩),x] w fun r w'=>St o w' (Wr g (l++enc 4 (IntKind.i32.wrap k.length)++k)::R):=by
 have h0:=hx w h.drop
 have hn:=rd_len h0
 obtain ⟨a,c,rfl⟩:=h0.form
 subst hn
 refine f181.calls ?_
 unfold f181.sh
 (try simp only [ln_43_3,cv_3_21,eqlp_181,condF])
 refine (wInt32 Z _ (by omega) h).mono fun r w1 hS=>?_
 exact (wRaw Z hx (by simp [enc_length]; omega) hS).mono fun r w2 hS=>hS
theorem wText (s:ByteArray) (hl:l.length+4+s.size≤140737488355328) (h:St o w (Wr g l::R)) :
  CallV π Z 180 #[.pointer (some ⟨g,0,none⟩),.string s] w fun r w'=>St o w' (Wr g (l++enc 4 (IntKind.i32.wrap s.size)++s.data.toList)::R):=by
 refine f180.calls ?_
 unfold f180.sh
 (try simp only [o_chk,fa_183_0,Nat.add_zero,ln_9_3,cv_3_21,eqlp_181,condF])
 refine (wInt32 Z _ (by omega) h).mono fun r w1 hS=>?_
 obtain ⟨sv,hS⟩:=Wr.open hS
 refine r_load one43 (hS.at List.mem_cons_self 0 rfl) ?_
 refine r_append el43 hS.swap (Src.ofString w1 Tryz.underlying9 s) (by simp [enc_length]; omega) (by simp only [List.length_append,enc_length,maxLen]; omega) fun v' w1 hS=>?_
 skip
 have hone:=St.own_one hS
 refine r_store hS.swap one43 (by simp) hone fun w2 hS=>?_
 have e:byteCells s=cb s.data.toList:=rfl
 rw [e,← cb_append] at hS
 exact Wr.shut (v:=v') hS (by have e:s.data.toList.length=s.size:=rfl; simp only [List.length_append,enc_length,e])
theorem wBytes (hl:l.length≤140737488355328) (h:St o w (Wr g l::R)):CallV π Z 139 #[.pointer (some ⟨g,0,none⟩)] w fun r w'=>St o w' (own 5 1 r l.length (cb l)::Wr g l::R):=by
 refine f139.calls ?_
 unfold f139.sh
 (try simp only [o_chk,fa_183_0,Nat.add_zero,eqlp_181,condF])
 obtain ⟨sv,hS⟩:=Wr.open h
 refine r_load one43 (hS.at List.mem_cons_self 0 rfl) ?_
 have hsrc:=(hS.own_rd (List.mem_cons_of_mem _ List.mem_cons_self)).src Tryz.underlying43 (cb_ones _)
 refine r_append el43 (hS.own_nil 5 1) hsrc (by omega) (by simp only [maxLen]; omega) fun v' w1 hS=>?_
 rw [List.nil_append,Nat.zero_add] at hS
 exact (Wr.shut ((hS.pick 2).pick 2) rfl:St o w1 (Wr g l::_)).swap
end

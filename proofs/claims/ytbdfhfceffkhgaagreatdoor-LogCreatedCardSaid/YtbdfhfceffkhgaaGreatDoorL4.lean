
/- Frames: what the functions of package frame answer. -/
import Derived.Test.YtbdfhfceffkhgaaGreatDoorL2
import Derived.Test.YtbdfhfceffkhgaaGreatDoorL7
import Derived.Test.YtbdfhfceffkhgaaGreatDoorShLoop
import Derived.Test.YtbdfhfceffkhgaaGreatDoorShSub
import Derived.Stop.BytesEq
set_option linter.unusedVariables false
set_option linter.unusedSimpArgs false
namespace Go.Proofs.YtbdfhfceffkhgaaGreatDoor
open Go.Sh
open Tryz renaming prog → π
section
variable (Z:PZ) {o w:World} {R As:List HProp}
theorem frOwn {x:Value} {n:Nat} {l:List UInt8} (h:St o w R) (hx:Ent o R fun w=>Rd w 1 x n (cb l)) (hl:l.length≤140737488355328) :
  CallV π Z 93 #[x] w fun r w'=>St o w' (own 5 1 r l.length (cb l)::R):=by
 have h0:=hx w h
 have hn:=rd_len h0
 obtain ⟨a,c,rfl⟩:=h0.form
 subst hn
 refine f93.calls ?_
 unfold f93.sh
 (try simp only [ln_43_3])
 refine r_make el43 h .i64 .i64 l.length (by omega) (by simp only [maxLen]; omega) fun g3 w3 hS=>?_
 obtain ⟨cap,rest,rfl,_,_,hlen,hlen2,hB⟩:=own_at hS
 simp only [Nat.mul_one] at hlen hlen2 hB
 have hrest:rest=[]:=by
  rw [List.length_append] at hlen2
  exact List.eq_nil_of_length_eq_zero (by omega)
 subst hrest
 refine r_copy el43 hB (hx w3 hB.drop) (cb_ones _) (by rw [List.append_nil,hlen]; omega) fun w4 hS=>?_
 rw [Nat.min_self,Nat.mul_one,List.take_of_length_le (by rw [cb_length]; omega),setL_all _ _ (by rw [List.append_nil,hlen,cb_length])] at hS
 have hS:=hS.own_mk (sz:=1) (cap:=l.length) l.length (Nat.le_refl _) (by simp only [maxLen]; omega) (by rw [cb_length]; omega)
 rw [List.take_of_length_le (by rw [cb_length]; omega)] at hS
 exact hS
theorem enc4 (n:Nat):cb (enc 4 (n:Int))=[.int .u8 (IntKind.u8.wrap (n / 2 ^ 24:Nat)),.int .u8 (IntKind.u8.wrap (n / 2 ^ 16:Nat)),.int .u8 (IntKind.u8.wrap (n / 2 ^ 8:Nat)),.int .u8 (IntKind.u8.wrap n)]:=by
 simp only [u8_wrap,enc,cb,List.map_cons,List.map_nil]
 have e1:(n:Int) / 256 ^ 3=((n / 2 ^ 24:Nat):Int):=by omega
 have e2:(n:Int) / 256 ^ 2=((n / 2 ^ 16:Nat):Int):=by omega
 have e3:(n:Int) / 256 ^ 1=((n / 2 ^ 8:Nat):Int):=by omega
 have e4:(n:Int) / 256 ^ 0=(n:Int):=by omega
 rw [e1,e2,e3,e4]
theorem frFour (n:Nat) (hn:n < 4294967296) (h:St o w R):CallV π Z 140 #[.int .u32 n] w fun r w'=>r=.agg (cb (enc 4 n)).toArray∧St o w' R:=by
 refine f140.calls ?_
 unfold f140.sh
 refine r_alloc h ze189 fun g w1 hS=>?_
 have s24:(binOp .shr 37 (.int .u32 n) (.int .u64 24)).run π w1=.ok (.int .u32 ((n / 2 ^ 24:Nat):Int)) w1:=by rw [run_shr _ _ _ .u32 .u64 _ 24 (by omega),show ((2:Int) ^ min (Int.toNat 24) IntKind.u32.bits)=((2 ^ 24:Nat):Int) by decide,fdN n (2 ^ 24) (by decide)]
 have s16:(binOp .shr 37 (.int .u32 n) (.int .u64 16)).run π w1=.ok (.int .u32 ((n / 2 ^ 16:Nat):Int)) w1:=by rw [run_shr _ _ _ .u32 .u64 _ 16 (by omega),show ((2:Int) ^ min (Int.toNat 16) IntKind.u32.bits)=((2 ^ 16:Nat):Int) by decide,fdN n (2 ^ 16) (by decide)]
 have s8:(binOp .shr 37 (.int .u32 n) (.int .u64 8)).run π w1=.ok (.int .u32 ((n / 2 ^ 8:Nat):Int)) w1:=by rw [run_shr _ _ _ .u32 .u64 _ 8 (by omega),show ((2:Int) ^ min (Int.toNat 8) IntKind.u32.bits)=((2 ^ 8:Nat):Int) by decide,fdN n (2 ^ 8) (by decide)]
 refine r1 s24 ?_
 (try simp only [cv_37_5])
 refine r1 s16 ?_
 (try simp only [cv_37_5])
 refine r1 s8 ?_
 (try simp only [cv_37_5])
 have hl:(cb (enc 4 n)).length=4:=by rw [cb_length,enc_length]
 refine r_build (cells:=(cb (enc 4 n)).toArray) (by rw [enc4]; kernel_rfl) ?_
 refine r_storeN hS ag189 (xs:=cb (enc 4 n)) hl (show 0+4≤4 from Nat.le_refl _) (cb_ones _) fun w3 hS=>?_
 rw [setL_all _ _ (by rw [hl]; rfl)] at hS
 refine r_resN ag189 (xs:=cb (enc 4 n)) hl (hS.cells_at m0 0 (whole_at _)) ?_
 exact ⟨rfl,hS.drop⟩
theorem run_ix4 (b:Nat) (i:Nat) (hi:i < 4) (w:World):(Instr.indexAt 189 (.pointer (some ⟨b,0,none⟩)) (.int .i64 i)).run π w=.ok (.pointer (some ⟨b,i,none⟩)) w:=by
 have hl:π.arrayLen 189=4:=by kernel_rfl
 have he:π.elem 189=5:=by kernel_rfl
 have hs:(sizeOf 5).run π w=.ok 1 w:=by kernel_rfl
 rw [run_indexAt_array _ _ _ _ _ (by kernel_rfl),hl,he,hs,if_pos ⟨by omega,by omega⟩]
 simp [Result.andThen,Addr.add]
 intro h0
 omega
theorem or_low (x y k:Nat) (hy:y < 2 ^ k) (hb:x * 2 ^ k+y < 9223372036854775808):IntKind.i64.wrap (BitVec.ofInt 64 ((x * 2 ^ k:Nat):Int) ||| BitVec.ofInt 64 (y:Int)).toNat=((x * 2 ^ k+y:Nat):Int):=by
 have e:(BitVec.ofInt 64 ((x * 2 ^ k:Nat):Int) ||| BitVec.ofInt 64 (y:Int)).toNat=x * 2 ^ k+y:=by
  rw [BitVec.ofInt_natCast,BitVec.ofInt_natCast,BitVec.toNat_or,BitVec.toNat_ofNat,BitVec.toNat_ofNat]
  rw [Nat.mod_eq_of_lt (a:=x * 2 ^ k) (by omega),Nat.mod_eq_of_lt (a:=y) (by omega),Nat.mul_comm,← Nat.two_pow_add_eq_or_of_lt hy]
 rw [e]
 exact wr_i64 (by omega) (by omega)
theorem number_or (a b c d:UInt8):IntKind.i64.wrap ((BitVec.ofInt 64 (IntKind.i64.wrap ((BitVec.ofInt 64 (IntKind.i64.wrap ((BitVec.ofInt 64 (IntKind.i64.wrap ((a.toNat:Int) * 2 ^ 24)) ||| BitVec.ofInt 64 (IntKind.i64.wrap ((b.toNat:Int) * 2 ^ 16))).toNat:Int)) ||| BitVec.ofInt 64 (IntKind.i64.wrap ((c.toNat:Int) * 2 ^ 8))).toNat:Int)) ||| BitVec.ofInt 64 (d.toNat:Int)).toNat:Int)=((dec [a,b,c,d]:Nat):Int):=by
 have ha:=a.toNat_lt
 have hb:=b.toNat_lt
 have hc:=c.toNat_lt
 have hd:=d.toNat_lt
 have e:dec [a,b,c,d]=(((a.toNat * 2 ^ 8+b.toNat) * 2 ^ 8+c.toNat) * 2 ^ 8+d.toNat):=by
  simp only [dec_cons,List.length_cons,List.length_nil]
  have:dec []=0:=rfl
  omega
 rw [wr_i64 (x:=(a.toNat:Int) * 2 ^ 24) (by omega) (by omega),wr_i64 (x:=(b.toNat:Int) * 2 ^ 16) (by omega) (by omega),wr_i64 (x:=(c.toNat:Int) * 2 ^ 8) (by omega) (by omega)]
 rw [show (a.toNat:Int) * 2 ^ 24=((a.toNat * 2 ^ 24:Nat):Int) by omega,show (b.toNat:Int) * 2 ^ 16=((b.toNat * 2 ^ 16:Nat):Int) by omega,show (c.toNat:Int) * 2 ^ 8=((c.toNat * 2 ^ 8:Nat):Int) by omega]
 rw [or_low _ _ 24 (by omega) (by omega),show a.toNat * 2 ^ 24+b.toNat * 2 ^ 16=(a.toNat * 2 ^ 8+b.toNat) * 2 ^ 16 by omega,or_low _ _ 16 (by omega) (by omega)]
 rw [show (a.toNat * 2 ^ 8+b.toNat) * 2 ^ 16+c.toNat * 2 ^ 8=((a.toNat * 2 ^ 8+b.toNat) * 2 ^ 8+c.toNat) * 2 ^ 8 by omega,or_low _ _ 8 (by omega) (by omega),e]
theorem frNumber (l:List UInt8) (hl:l.length=4) (h:St o w R):CallV π Z 193 #[.agg (cb l).toArray] w fun r w'=>r=.int .i64 (dec l)∧St o w' R:=by
 match l,hl with
 | [a,b,c,d],_=>
 refine f193.calls ?_
 unfold f193.sh
 refine r_box _ _ h fun g w1 hS=>?_
 have hS:St o w1 (blk g 189 (cb [a,b,c,d])::R):=hS
 have i0:=run_ix4 g 0 (by omega) w1
 have i1:=run_ix4 g 1 (by omega) w1
 have i2:=run_ix4 g 2 (by omega) w1
 have i3:=run_ix4 g 3 (by omega) w1
 have ha:=u8_lt a
 have hb:=u8_lt b
 have hc:=u8_lt c
 have hd:=u8_lt d
 refine r1 i0 (r_load one5 (hS.at m0 0 rfl) ?_)
 (try simp only [cv_5_3])
 rw [wr_i64 (x:=((a.toNat:Nat):Int)) (by omega) (by omega)]
 refine r1 (run_shl _ _ _ .i64 .u64 _ 24 (by omega)) ?_
 refine r1 i1 (r_load one5 (hS.at m0 1 rfl) ?_)
 (try simp only [cv_5_3])
 rw [wr_i64 (x:=((b.toNat:Nat):Int)) (by omega) (by omega)]
 refine r1 (run_shl _ _ _ .i64 .u64 _ 16 (by omega)) ?_
 refine r1 (run_or _ _ _ _ _ _) ?_
 refine r1 i2 (r_load one5 (hS.at m0 2 rfl) ?_)
 (try simp only [cv_5_3])
 rw [wr_i64 (x:=((c.toNat:Nat):Int)) (by omega) (by omega)]
 refine r1 (run_shl _ _ _ .i64 .u64 _ 8 (by omega)) ?_
 refine r1 (run_or _ _ _ _ _ _) ?_
 refine r1 i3 (r_load one5 (hS.at m0 3 rfl) ?_)
 (try simp only [cv_5_3,o_or])
 rw [wr_i64 (x:=((d.toNat:Nat):Int)) (by omega) (by omega)]
 refine ⟨congrArg _ (number_or a b c d),hS.drop⟩
end
end Go.Proofs.YtbdfhfceffkhgaaGreatDoor


/- Frames: Put, and the first body. -/
set_option linter.unusedVariables false
set_option linter.unusedSimpArgs false
namespace Go.Proofs.YtbdfhfceffkhgaaGreatDoor
open Go.Sh
open Tryz renaming prog → π
theorem r_make0 {P:Program} {Z:PZ} {o w:World} {kk:PQ} {R:List HProp} {t e:TypeId} {sz bt:Nat} {z:Value} (hel:El P t e sz bt z) (h:St o w R) (kl kc:IntKind) (n:Nat) (hb:n * bt≤281474976710656) (hm:n≤maxLen)
  (hk:∀v' w',St o w' (own e sz v' 0 []::R)→kk v' w'):rN P Z (Instr.makeSlice t (.int kl 0) (.int kc n)) w kk:=by
 obtain ⟨i,hi,rfl,rfl,hz⟩:=hel.info
 have hb':(i.bytes:Int) * (n:Int)≤281474976710656:=by
  have h:((n * i.bytes:Nat):Int)≤281474976710656:=by omega
  rw [Int.natCast_mul,Int.mul_comm] at h; exact h
 have hrun:=run_make (P:=P) w t e i z hel.ht hi hz kl kc 0 n (by omega) (by omega) hb' (by simp only [maxLen] at hm; omega)
 refine r1 hrun (hk _ _ ?_)
 have ha:=h.alloc e (madeCells z.cells (n * i.size)).toList
 have hl:(madeCells z.cells (n * i.size)).toList.length=n * i.size:=by rw [Array.length_toList,size_madeCells]
 have hmk:=ha.own_mk (sz:=i.size) 0 (Nat.zero_le _) hm hl
 simpa using hmk
theorem rd_blk {o w:World} {As:List HProp} {T g:Nat} {l:List UInt8} (hS:St o w As) (hm:blk g T (cb l) ∈ As) (hl:l.length≤140737488355328) (c:Nat):Rd w 1 (.slice (some ⟨g,0,none⟩) l.length c) l.length (cb l):=
 ⟨by rw [cb_length,Nat.mul_one],by simp only [maxLen]; omega,.inr ⟨_,c,rfl,fun j u hu=>by rw [add_addr,Nat.zero_add,cell_of_blk (hS.mem_blk hm)]; exact hu⟩⟩
theorem rd_mid {w:World} {a:Option Addr} {n c i j:Nat} {l:List UInt8} (h:Rd w 1 (.slice a n c) n (cb l)) (hi:i≤j) (hj:j≤n) (d:Nat):Rd w 1 (.slice (a.map (·.add (i * 1))) (j - i) d) (j - i) (cb ((l.drop i).take (j - i))):=by
 have hn:=rd_len h
 obtain ⟨h1,h2,h3⟩:=h
 refine ⟨by rw [cb_length,List.length_take,List.length_drop]; omega,by omega,?_⟩
 rcases h3 with ⟨c',e,hz⟩ | ⟨b,c',e,hc⟩
 ·obtain ⟨rfl,_,_⟩:=Value.slice.inj e
  exact .inl ⟨d,by simp [show j - i=0 by omega],by omega⟩
 ·obtain ⟨rfl,_,rfl⟩:=Value.slice.inj e
  refine .inr ⟨b.add (i * 1),d,rfl,fun k u hk=>?_⟩
  rw [addr_add2,Nat.mul_one]
  refine hc _ _ ?_
  have hcb:cb ((l.drop i).take (j - i))=((cb l).drop i).take (j - i):=by simp [cb]
  rw [hcb,List.getElem?_take] at hk
  split at hk
  ·rwa [List.getElem?_drop] at hk
  ·cases hk
theorem neq4 (a b:List UInt8) (ha:a.length=4) (hb:b.length=4) (w:World):(eqOp .neq 189 false false (.agg (cb a).toArray) (.agg (cb b).toArray)).run π w=.ok (.bool (!(a == b))) w:=by
 have hg:π.eqGuardType π.depth 189=false:=by kernel_rfl
 have e:=run_equalIn_bytes (P:=π) w 9998 189 5 4 Tryz.underlying189 Tryz.underlying5 (fun w=>by kernel_rfl) a b ha hb
 unfold eqOp
 simp only [Sem.run_bind,run_eqGuard_agg _ _ _ _ _ _ _ hg,Result.andThen_ok,run_neq_struct]
 have e':(Op.equalIn 10000 189 (.agg (cb a).toArray) (.agg (cb b).toArray)).run π w=.ok (a == b) w:=e
 rw [e']
 rfl
theorem run_arr4 (b c:Nat) (w:World):(Instr.sliceAt 189 (.pointer (some ⟨b,0,none⟩)) none none none).run π w=.ok (.slice (some ⟨b,0,none⟩) 4 4) w:=by
 have hs:(sizeOf 5).run π w=.ok 1 w:=by kernel_rfl
 simp [Instr.sliceAt,run_underlying Tryz.underlying189,Instr.sureAddr,Instr.sliceBounds,hs,Addr.add]
theorem run_to4 (a:Addr) (n c:Nat) (hn:4≤n) (w:World):(Instr.arrayAt 189 (.slice (some a) n c)).run π w=.ok (.pointer (some a)) w:=by
 have h:¬ n < 4:=by omega
 simp [Instr.arrayAt,run_underlying Tryz.underlying189,h]
section
variable (Z:PZ) {o w:World} {R As:List HProp}
theorem adler_lt (l:List UInt8):adler l < 4294967296:=by
 have:=adl_lt l (1,0) (by decide) (by decide)
 unfold adler; omega
theorem frPut {x:Value} {n:Nat} {b:List UInt8} (hx:Ent o R fun w=>Rd w 1 x n (cb b)) (h1:1≤b.length) (h2:b.length≤1048576) (h:St o w R) :
  CallV π Z 91 #[x] w fun r w'=>∃v,r=.tuple #[v,.int .i64 0]∧St o w' (own 5 1 v (frm b).length (cb (frm b))::R):=by
 have h0:=hx w h
 have hn:=rd_len h0
 obtain ⟨a,c,rfl⟩:=h0.form
 subst hn
 have e1:¬ ((b.length:Int) < 1):=by omega
 have e2:¬ ((1048576:Int) < (b.length:Int)):=by omega
 refine f91.calls ?_
 unfold f91.sh
 (try simp only [ln_43_3,o_add,cv_3_37,o_lss,e1,decide_false,o_pickF,guardW_ff,o_gtr,e2,condF])
 rw [wr_i64 (x:=8+(b.length:Int)) (by omega) (by omega),wr_i64 (x:=8+(b.length:Int)+1) (by omega) (by omega),wr_u32 (x:=(b.length:Int)) (by omega) (by omega)]
 refine (frFour Z b.length (by omega) h).mono fun r w1 ⟨hr,hS⟩=>?_
 subst hr
 refine (packSum Z (hx _ hS)).mono fun r w2 ⟨hr,hw⟩=>?_
 subst hr hw
 refine (frFour Z (adler b) (adler_lt b) hS).mono fun r w3 ⟨hr,hS⟩=>?_
 subst hr
 have l1:(cb (enc 4 (b.length:Int))).length=4:=by rw [cb_length,enc_length]
 have l2:(cb (enc 4 (adler b:Int))).length=4:=by rw [cb_length,enc_length]
 refine r_alloc hS ze189 fun g1 w4 hS=>?_
 refine r_alloc hS ze189 fun g2 w5 hS=>?_
 refine r_storeN hS.swap ag189 (xs:=cb (enc 4 (b.length:Int))) l1 (show 0+4≤4 from Nat.le_refl _) (cb_ones _) fun w6 hS=>?_
 rw [setL_all _ _ (by rw [l1]; rfl)] at hS
 refine r_storeN hS.swap ag189 (xs:=cb (enc 4 (adler b:Int))) l2 (show 0+4≤4 from Nat.le_refl _) (cb_ones _) fun w7 hS=>?_
 rw [setL_all _ _ (by rw [l2]; rfl)] at hS
 rw [show 8+(b.length:Int)+1=((b.length+9:Nat):Int) by omega]
 refine r_make0 el43 hS .i64 .i64 (b.length+9) (by omega) (by simp only [maxLen]; omega) fun v w8 hS=>?_
 refine r1 (run_arr4 g1 4 _) ?_
 have r1':=rd_blk hS m2 (l:=enc 4 (b.length:Int)) (by rw [enc_length]; omega) 4
 rw [enc_length] at r1'
 refine r_append el43 hS (r1'.src Tryz.underlying43 (cb_ones _)) (by omega) (by simp only [maxLen]; omega) fun v1 w9 hS=>?_
 refine r1 (run_arr4 g2 4 _) ?_
 have r2':=rd_blk hS m1 (l:=enc 4 (adler b:Int)) (by rw [enc_length]; omega) 4
 rw [enc_length] at r2'
 refine r_append el43 hS (r2'.src Tryz.underlying43 (cb_ones _)) (by omega) (by simp only [maxLen]; omega) fun v2 w10 hS=>?_
 refine r_append el43 hS ((hx _ hS.drop.drop.drop).src Tryz.underlying43 (cb_ones _)) (by omega) (by simp only [maxLen]; omega) fun v3 w11 hS=>?_
 refine r_push el43 hS (.int .u8 66) rfl (by omega) (by simp only [maxLen]; omega) fun v4 w12 hS=>?_
 refine ⟨v4,rfl,?_⟩
 have e:[]++cb (enc 4 (b.length:Int))++cb (enc 4 (adler b:Int))++cb b++[Value.int .u8 66]=cb (frm b):=by simp [frm,cb]
 rw [e,show 0+4+4+b.length+1=(frm b).length by rw [frm_len]; omega] at hS
 (refine Sh.St.sub ?_ (hS); repeat (first | with_reducible (first | exact sub_refl | exact sub_nil | refine sP0 ?_ | refine sP1 ?_ | refine sP2 ?_ | refine sP3 ?_ | refine sP4 ?_ | refine sP5 ?_ | refine sP6 ?_ | refine sP7 ?_ | refine sP8 ?_ | refine sP9 ?_ | refine sP10 ?_ | refine sP11 ?_ | refine sP12 ?_ | refine sP13 ?_ | refine sP14 ?_ | refine sP15 ?_) | exact sub_refl | refine sP0 ?_ | refine sP1 ?_ | refine sP2 ?_ | refine sP3 ?_ | refine sP4 ?_ | refine sP5 ?_ | refine sP6 ?_ | refine sP7 ?_ | refine sP8 ?_ | refine sP9 ?_ | refine sP10 ?_ | refine sP11 ?_ | refine sP12 ?_ | refine sP13 ?_ | refine sP14 ?_ | refine sP15 ?_ | refine sub_drop ?_))
def FirstP (x:Value) (l:List UInt8) (o:World) (R:List HProp) (r:Value) (w':World):Prop:=
 St o w' R∧((frst l=none∧r=.slice none 0 0)∨∃b a c,frst l=some b∧r=.slice (some a) b.length c∧∀w,Rd w 1 x l.length (cb l)→Rd w 1 r b.length (cb b))
theorem FirstP.no {x:Value} {l:List UInt8} (h:St o w R) (hf:¬ (8 < l.length∧1≤dec (l.take 4)∧dec (l.take 4)≤1048576∧dec (l.take 4)+9≤l.length∧l[8+dec (l.take 4)]? = some 0x42∧(l.drop 4).take 4=enc 4 (adler ((l.drop 8).take (dec (l.take 4)))))):FirstP x l o R (.slice none 0 0) w:=
 ⟨h,.inl ⟨if_neg hf,rfl⟩⟩
theorem frFirst {x:Value} {n:Nat} {l:List UInt8} (hcap:∀a n c,x=.slice a n c→n≤c) (hx:Ent o R fun w=>Rd w 1 x n (cb l)) (hl:l.length≤140737488355328) (h:St o w R) :
  CallV π Z 147 #[x] w fun r w'=>FirstP x l o R r w':=by
 have h0:=hx w h
 have hn:=rd_len h0
 obtain ⟨a,c,rfl⟩:=h0.form
 subst hn
 have hc:=hcap _ _ _ rfl
 refine f147.calls ?_
 unfold f147.sh
 (try simp only [ln_43_3,o_leq,cond_decide])
 refine ⟨fun h8=>FirstP.no h (by omega),fun h8=>?_⟩
 obtain ⟨a,rfl⟩:∃b,a=some b:=by
  obtain ⟨_,_,⟨c',e,hz⟩ | ⟨b,c',e,_⟩⟩:=h0
  ·omega
  ·exact ⟨b,(Value.slice.inj e).1⟩
 have h4:(l.take 4).length=4:=by rw [List.length_take]; omega
 refine r1 (run_slice_to el43 (some a) l.length c .i64 4 (by omega) (by omega) _) ?_
 refine r1 (run_to4 a _ c (Nat.le_refl _) _) ?_
 have hcells:∀{w:World},St o w R→∀(i:Nat) (m:List UInt8),i+m.length≤l.length→m=(l.drop i).take m.length→∀j v,(cb m)[j]? = some v→w.cell? ((a.add i).add j)=some v:=fun {w} hw i m him hm j v hv=>by
  obtain ⟨_,_,⟨c',e,hz⟩ | ⟨b,c',e,hcc⟩⟩:=hx w hw
  ·cases e
  ·obtain ⟨e1,_,_⟩:=Value.slice.inj e
   injection e1 with e1
   subst e1
   rw [addr_add2]
   refine hcc _ _ ?_
   have hj:=(List.getElem?_eq_some_iff.1 hv).1
   rw [cb_length] at hj
   rw [← hv,hm]
   simp only [cb,List.getElem?_map,List.getElem?_take,List.getElem?_drop]
   rw [if_pos hj]
 refine r_loadN ag189 (xs:=cb (l.take 4)) (by rw [cb_length,h4]) (hcells h 0 (l.take 4) (by rw [h4]; omega) (by rw [h4]; rfl)) ?_
 refine (frNumber Z (l.take 4) h4 h).mono fun r w1 ⟨hr,h⟩=>?_
 subst hr
 generalize hd:dec (l.take 4)=d at *
 by_cases b1:d < 1
 ·have e1:(d:Int) < 1:=by omega
  (try simp only [o_add,o_lss,e1,decide_true,o_pickT,condT,guardW_tf])
  exact FirstP.no h (by omega)
 have e1:¬ (d:Int) < 1:=by omega
 by_cases b2:1048576 < d
 ·have e2:(1048576:Int) < (d:Int):=by omega
  (try simp only [o_add,o_lss,e1,decide_false,o_pickF,guardW_ff,o_gtr,e2,decide_true,o_pickT,condT,guardW_tf])
  exact FirstP.no h (by omega)
 have e2:¬ (1048576:Int) < (d:Int):=by omega
 have w1':IntKind.i64.wrap (8+(d:Int))=8+(d:Int):=wr_i64 (by omega) (by omega)
 have w2':IntKind.i64.wrap (8+(d:Int)+1)=8+(d:Int)+1:=wr_i64 (by omega) (by omega)
 by_cases b3:l.length < d+9
 ·have e3:(l.length:Int) < 8+(d:Int)+1:=by omega
  (try simp only [o_add,w1',o_lss,e1,decide_false,o_pickF,guardW_ff,o_gtr,e2,w2',ln_43_3,e3,decide_true,o_pickT,condT,guardW_tf])
  exact FirstP.no h (by omega)
 have e3:¬ (l.length:Int) < 8+(d:Int)+1:=by omega
 obtain ⟨p,hp,hpc⟩:=rd_index (hx _ h) (8+d) (by omega)
 rw [show ((8+d:Nat):Int)=8+(d:Int) by omega] at hp
 (try simp only [o_add,w1',o_lss,e1,decide_false,o_pickF,guardW_ff,o_gtr,e2,w2',ln_43_3,e3])
 refine r1 (hp _) (r_load one5 hpc ?_)
 by_cases b4:l[8+d]'(by omega)=0x42
 case neg=>
  have e4:(((l[8+d]'(by omega)).toNat:Int) != 66)=true:=by
   rw [bne_iff_ne]
   intro e
   exact b4 (UInt8.toNat_inj.1 (by rw [show UInt8.toNat 0x42=66 from rfl]; omega))
  (try simp only [o_neq,e4,condT])
  refine FirstP.no h fun hh=>b4 ?_
  have:=hh.2.2.2.2.1
  rw [hd,List.getElem?_eq_getElem (by omega)] at this
  exact Option.some.inj this
 have e4:(((l[8+d]'(by omega)).toNat:Int) != 66)=false:=by rw [b4]; rfl
 (try simp only [o_neq,e4,condF])
 have hb1:(((l.drop 8).take d)).length=d:=by rw [List.length_take,List.length_drop]; omega
 have sl:∀w,(Instr.sliceAt 43 (.slice (some a) l.length c) (some (.int .i64 8)) (some (.int .i64 (8+(d:Int)))) none).run π w=.ok (.slice (some (a.add (8 * 1))) d (c - 8)) w:=fun w=>by
  rw [run_slice_mid el43 (some a) l.length c .i64 .i64 8 (8+(d:Int)) (by omega) (by omega) (by omega) w]
  rw [show (8:Int).toNat=8 from rfl,if_neg (by omega),show (8+(d:Int)).toNat - 8=d by omega]
  rfl
 have sl4:∀w,(Instr.sliceAt 43 (.slice (some a) l.length c) (some (.int .i64 4)) (some (.int .i64 8)) none).run π w=.ok (.slice (some (a.add (4 * 1))) 4 (c - 4)) w:=fun w=>by
  rw [run_slice_mid el43 (some a) l.length c .i64 .i64 4 8 (by omega) (by omega) (by omega) w]
  rw [show (4:Int).toNat=4 from rfl,show (8:Int).toNat=8 from rfl,if_neg (by omega)]
  rfl
 have hbody:∀{w:World},Rd w 1 (.slice (some a) l.length c) l.length (cb l)→Rd w 1 (.slice (some (a.add (8 * 1))) d (c - 8)) d (cb ((l.drop 8).take d)):=fun {w} hw=>by
  have:=rd_mid hw (i:=8) (j:=8+d) (by omega) (by omega) (c - 8)
  rw [show 8+d - 8=d by omega] at this
  exact this
 refine r1 (sl _) ?_
 refine ⟨fun w2 hd2=>?_⟩
 have h:=h.drew hd2
 have hm4:((l.drop 4).take 4).length=4:=by rw [List.length_take,List.length_drop]; omega
 have hc4:=fun {w:World} (hw:St o w R)=>hcells hw (4 * 1) ((l.drop 4).take 4) (by rw [hm4]; omega) (by rw [hm4])
 refine rp sl4 (rp (run_to4 _ _ _ (Nat.le_refl _)) (rr_loadN ag189 (xs:=cb ((l.drop 4).take 4)) (by rw [cb_length,hm4]) (hc4 h) ?_))
 refine (packSum Z (hbody (hx _ h))).mono fun r w3 ⟨hr,hw⟩=>?_
 subst hr hw
 refine rs_loadN ag189 (xs:=cb ((l.drop 4).take 4)) (by rw [cb_length,hm4]) (hc4 h) ?_
 refine (frFour Z _ (adler_lt _) h).mono fun r w4 ⟨hr,h⟩=>?_
 subst hr
 refine rs_loadN ag189 (xs:=cb ((l.drop 4).take 4)) (by rw [cb_length,hm4]) (hc4 h) ?_
 refine rp (neq4 _ _ hm4 (enc_length _ _)) ?_
 rw [cond_not,cond_bool]
 refine ⟨fun he=>⟨h,.inr ⟨(l.drop 8).take d,a.add (8 * 1),c - 8,?_,?_,?_⟩⟩,fun he=>FirstP.no h fun hh=>?_⟩
 ·unfold frst
  rw [hd,if_pos]
  exact ⟨by omega,by omega,by omega,by omega,by rw [List.getElem?_eq_getElem (by omega),b4],eq_of_beq he⟩
 ·rw [hb1]
 ·rw [hb1]; exact fun w hw=>hbody hw
 ·have:=hh.2.2.2.2.2
  rw [hd] at this
  rw [this] at he
  simp at he
end

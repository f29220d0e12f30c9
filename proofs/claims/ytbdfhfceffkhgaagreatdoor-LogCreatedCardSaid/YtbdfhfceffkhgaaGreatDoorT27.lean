
/- TxnOne: the walk. -/
import Derived.Test.YtbdfhfceffkhgaaGreatDoorT20
import Derived.Test.YtbdfhfceffkhgaaGreatDoorShRec
set_option linter.unusedVariables false
set_option linter.unusedSimpArgs false
namespace Go.Proofs.YtbdfhfceffkhgaaGreatDoor
open Go.Sh
open Tryz renaming prog → π
theorem opn_cap {P:Program} {w:World} {t e:TypeId} (ht:P.underlying t=some (.slice e)):Opn P w t fun cs=>∃a n c,cs=[.slice a n c]∧n≤c:=fun H enc fuel cs x hx hw=>by
 rcases DataW.trod_slice ht hx with ⟨h0,_⟩ | ⟨a,len,cap,elems,rest,n,_,h0,_,_,hl,_⟩
 ·exact ⟨none,0,0,h0,Nat.le_refl _⟩
 ·exact ⟨some a,len,cap,h0,hl⟩
theorem Opn.and {P:Program} {w:World} {t:TypeId} {Φ Ψ:List Value→Prop} (h1:Opn P w t Φ) (h2:Opn P w t Ψ):Opn P w t fun cs=>Φ cs∧Ψ cs:=fun H enc fuel cs x hx hw=>⟨h1 H enc fuel cs x hx hw,h2 H enc fuel cs x hx hw⟩
def IntO (w:World) (cs:List Value):Prop:=∃n,cs=[.int .i64 n] ∧ -9223372036854775808≤n∧n≤9223372036854775807
theorem opn_IntO (w:World):Opn π w 3 (IntO w):=(opn_int Tryz.underlying3).mono fun cs ⟨n,h,a,b⟩=>⟨n,h,a,b⟩
section
variable (Z:PZ) {o w:World} {R As:List HProp}
end
end Go.Proofs.YtbdfhfceffkhgaaGreatDoor


/- Requests and transactions that came in; Large; copies. -/
set_option linter.unusedVariables false
set_option linter.unusedSimpArgs false
namespace Go.Proofs.YtbdfhfceffkhgaaGreatDoor
open Go.Sh
open Tryz renaming prog → π
def wfId (x:Idd):Prop:=x.sch.length≤140737488351232∧x.nam.length≤140737488351232
def wfEn (x:En):Prop:=(-128≤x.perms∧x.perms≤127)∧wfId x.who
structure WfF (f:Fl):Prop where
 kd : -128≤f.kd∧f.kd≤127
 path:f.path.length≤140737488351232
 data:f.data.length≤140737488351232
 acl:f.acl.length * 40≤140737488351232∧∀x ∈ f.acl,wfEn x
 ver : -2147483648≤f.ver∧f.ver≤2147483647
 ses : -9223372036854775808≤f.ses∧f.ses≤9223372036854775807
 tmo : -2147483648≤f.tmo∧f.tmo≤2147483647
 who:f.who.length * 32≤140737488351232∧∀x ∈ f.who,wfId x
inductive WfQ:Rq→Prop where
 | mk (q:Rq):WfF q.f→q.ops.length * 144≤140737488351232→(∀x ∈ q.ops,WfQ x)→WfQ q
theorem WfQ.flat {q:Rq} (h:WfQ q):WfF q.f:=by cases h; assumption
theorem WfQ.len {q:Rq} (h:WfQ q):q.ops.length * 144≤140737488351232:=by cases h; assumption
theorem WfQ.all {q:Rq} (h:WfQ q):∀x ∈ q.ops,WfQ x:=by cases h; assumption
theorem rowO_list {α:Type} {w:World} {sz bt:Nat} {Φ:List Value→Prop} {v:Value} {C:α→List Value} {ok:α→Prop} (h:RowO w sz bt Φ v) (hc:∀c,Φ c→∃a,c=C a∧ok a):∃ls:List α,ls.length * bt≤140737488351232∧(∀a ∈ ls,ok a)∧Rd w sz v ls.length (ls.map C).flatten:=by
 obtain ⟨n,css,hn,hbt,hall,hrd⟩:=h
 have key:∀css:List (List Value),(∀c ∈ css,c.length=sz∧Φ c)→∃ls:List α,ls.map C=css∧∀a ∈ ls,ok a:=by
  intro css
  induction css with
  | nil=>intro _; exact ⟨[],rfl,by simp⟩
  | cons c css ih=>
   intro h
   obtain ⟨ls,h1,h2⟩:=ih fun c hc=>h c (List.mem_cons_of_mem _ hc)
   obtain ⟨a,ha,hok⟩:=hc c (h c List.mem_cons_self).2
   refine ⟨a::ls,by rw [List.map_cons,h1,ha],fun b hb=>?_⟩
   rcases List.mem_cons.1 hb with rfl | hb
   ·exact hok
   ·exact h2 b hb
 obtain ⟨ls,h1,h2⟩:=key css hall
 have hl:ls.length=n:=by rw [← hn,← h1,List.length_map]
 exact ⟨ls,by rw [hl]; exact hbt,h2,by rw [h1,hl]; exact hrd⟩
def TextO (cs:List Value):Prop:=∃l:List UInt8,cs=[.string (str l)]∧l.length≤140737488351232
theorem opn_TextO (w:World):Opn π w 9 TextO:=(opn_string Tryz.underlying9).mono fun cs ⟨s,h,hs⟩=>⟨s.data.toList,by rw [str_data]; exact h,hs⟩
def IdO (cs:List Value):Prop:=∃x:Idd,cs=idC x∧wfId x
theorem opn_IdO (w:World):Opn π w 138 IdO:=(opn_struct Tryz.underlying138 [(1,TextO),(1,TextO)] (by kernel_rfl) (by kernel_rfl)
 ⟨by kernel_rfl,opn_TextO w,by kernel_rfl,opn_TextO w,trivial⟩).mono fun cs ⟨c,d,h,_,⟨a,h1,ha⟩,c2,d2,h2,_,⟨b,h3,hb⟩,h4⟩=>⟨⟨a,b⟩,by subst h; subst h1; subst h2; subst h3; simp only [Cut] at h4; subst h4; rfl,ha,hb⟩
def EnO (cs:List Value):Prop:=∃x:En,cs=enC x∧wfEn x
def NumO (k:IntKind) (lo hi:Int) (cs:List Value):Prop:=∃n:Int,cs=[.int k n]∧lo≤n∧n≤hi
theorem opn_i8 (w:World):Opn π w 40 (NumO .i8 (-128) 127):=(opn_int Tryz.underlying40).mono fun cs ⟨n,h,a,b⟩=>⟨n,h,a,b⟩
theorem opn_i32 (w:World):Opn π w 21 (NumO .i32 (-2147483648) 2147483647):=(opn_int Tryz.underlying21).mono fun cs ⟨n,h,a,b⟩=>⟨n,h,a,b⟩
theorem opn_i64 (w:World):Opn π w 2 (NumO .i64 (-9223372036854775808) 9223372036854775807):=(opn_int Tryz.underlying2).mono fun cs ⟨n,h,a,b⟩=>⟨n,h,a,b⟩
theorem opn_u32 (w:World):Opn π w 37 (NumO .u32 0 4294967295):=(opn_int Tryz.underlying37).mono fun cs ⟨n,h,a,b⟩=>⟨n,h,a,b⟩
def BoolO (cs:List Value):Prop:=∃b:Bool,cs=[.bool b]
theorem opn_EnO (w:World):Opn π w 140 EnO:=(opn_struct Tryz.underlying140 [(1,NumO .i8 (-128) 127),(2,IdO)] (by kernel_rfl) (by kernel_rfl)
 ⟨by kernel_rfl,opn_i8 w,by kernel_rfl,opn_IdO w,trivial⟩).mono fun cs ⟨c,d,h,_,⟨n,h1,hn⟩,c2,d2,h2,_,⟨x,h3,hx⟩,h4⟩=>⟨⟨n,x⟩,by subst h; subst h1; subst h2; subst h3; simp only [Cut] at h4; subst h4; rw [List.append_nil]; rfl,hn,hx⟩
def AclO (w:World) (cs:List Value):Prop:=∃v,cs=[v]∧∃l:List En,l.length * 40≤140737488351232∧(∀x ∈ l,wfEn x)∧Rd w 3 v l.length (l.map enC).flatten
def WhoO (w:World) (cs:List Value):Prop:=∃v,cs=[v]∧∃l:List Idd,l.length * 32≤140737488351232∧(∀x ∈ l,wfId x)∧Rd w 2 v l.length (l.map idC).flatten
theorem opn_AclO (w:World):Opn π w 44 (AclO w):=(opn_slice el44 (opn_EnO w)).mono fun cs ⟨v,h,hr⟩=>⟨v,h,rowO_list hr fun c hc=>hc⟩
theorem opn_WhoO (w:World):Opn π w 45 (WhoO w):=(opn_slice el45 (opn_IdO w)).mono fun cs ⟨v,h,hr⟩=>⟨v,h,rowO_list hr fun c hc=>hc⟩
def RqO (w:World) (cs:List Value):Prop:=∃q:Rq,cs=q.cells∧RdQ w q∧WfQ q
def OpsO (w:World) (cs:List Value):Prop:=∃v,cs=[v]∧∃l:List Rq,l.length * 144≤140737488351232∧(∀x ∈ l,RdQ w x∧WfQ x)∧Rd w 11 v l.length (l.map Rq.cells).flatten
theorem opnN_RqO (w:World) (k:Nat):OpnN π w k 48 (RqO w):=by
 induction k using Nat.strongRecOn with | ind k ih=>?_
 cases k with
 | zero=>exact OpnN.zero
 | succ k=>
  have hops:OpnN π w k 46 (OpsO w):=by
   cases k with
   | zero=>exact OpnN.zero
   | succ k=>exact (opnN_slice el46 (ih k (by omega))).mono fun cs ⟨v,h,hr⟩=>⟨v,h,rowO_list hr fun c ⟨q,h1,h2⟩=>⟨q,h1,h2⟩⟩
  refine (opnN_struct Tryz.underlying48 [(1,NumO .i8 (-128) 127),(1,TextO),(1,BytesO w),(1,AclO w),(1,NumO .i32 (-2147483648) 2147483647),(1,BoolO),(1,BoolO),(1,NumO .i64 (-9223372036854775808) 9223372036854775807),(1,NumO .i32 (-2147483648) 2147483647),(1,WhoO w),(1,OpsO w)] (by kernel_rfl) (by kernel_rfl)
   ⟨by kernel_rfl,(opn_i8 w).fuel k,by kernel_rfl,(opn_TextO w).fuel k,by kernel_rfl,(opn_BytesO w).fuel k,by kernel_rfl,(opn_AclO w).fuel k,by kernel_rfl,(opn_i32 w).fuel k,by kernel_rfl,(opn_bool Tryz.underlying4).fuel k,by kernel_rfl,(opn_bool Tryz.underlying4).fuel k,by kernel_rfl,(opn_i64 w).fuel k,by kernel_rfl,(opn_i32 w).fuel k,by kernel_rfl,(opn_WhoO w).fuel k,by kernel_rfl,hops,trivial⟩).mono ?_
  rintro cs ⟨_,_,rfl,_,⟨kd,rfl,hkd⟩,_,_,rfl,_,⟨path,rfl,hpath⟩,_,_,rfl,_,⟨vd,rfl,data,hdl,hd⟩,_,_,rfl,_,⟨va,rfl,acl,hal,haw,ha⟩,_,_,rfl,_,⟨ver,rfl,hver⟩,_,_,rfl,_,⟨eph,rfl⟩,_,_,rfl,_,⟨seq,rfl⟩,_,_,rfl,_,⟨ses,rfl,hses⟩,_,_,rfl,_,⟨tmo,rfl,htmo⟩,_,_,rfl,_,⟨vw,rfl,who,hwl,hww,hw⟩,_,_,rfl,_,⟨vo,rfl,ops,hol,how,ho⟩,hc⟩
  simp only [Cut] at hc
  subst hc
  exact ⟨.mk ⟨kd,path,data,acl,ver,eph,seq,ses,tmo,who⟩ vd va vw vo ops,rfl,.mk _ ⟨hd,ha,hw⟩ ho fun x hx=>(how x hx).1,.mk _ ⟨hkd,hpath,hdl,⟨hal,haw⟩,hver,hses,htmo,⟨hwl,hww⟩⟩ hol fun x hx=>(how x hx).2⟩
theorem opn_RqO (w:World):Opn π w 48 (RqO w):=OpnN.all (opnN_RqO w)
def wfH (h:Hd):Prop:=hok h 5
def TxO (w:World) (cs:List Value):Prop:=∃t:Tx,cs=t.cells∧wfH t.hd∧RdQ w t.q∧WfQ t.q
def OrO (cs:List Value):Prop:=∃a b c:Int,cs=orC a b c∧(-128≤a∧a≤127)∧(0≤b∧b≤4294967295)∧(-9223372036854775808≤c∧c≤9223372036854775807)
theorem opn_OrO (w:World):Opn π w 42 OrO:=(opn_struct Tryz.underlying42 [(1,NumO .i8 (-128) 127),(1,NumO .u32 0 4294967295),(1,NumO .i64 (-9223372036854775808) 9223372036854775807)] (by kernel_rfl) (by kernel_rfl)
 ⟨by kernel_rfl,opn_i8 w,by kernel_rfl,opn_u32 w,by kernel_rfl,opn_i64 w,trivial⟩).mono (by
  rintro cs ⟨_,_,rfl,_,⟨a,rfl,ha⟩,_,_,rfl,_,⟨b,rfl,hb⟩,_,_,rfl,_,⟨c,rfl,hc⟩,h4⟩
  simp only [Cut] at h4
  subst h4
  exact ⟨a,b,c,rfl,ha,hb,hc⟩)
theorem opn_TxO (w:World):Opn π w 50 (TxO w):=(opn_struct Tryz.underlying50 [(2,ZxO w),(3,OrO),(11,RqO w)] (by kernel_rfl) (by kernel_rfl)
 ⟨by kernel_rfl,opn_ZxO w,by kernel_rfl,opn_OrO w,by kernel_rfl,opn_RqO w,trivial⟩).mono (by
  rintro cs ⟨_,_,rfl,_,⟨e,n,rfl,he,hn⟩,_,_,rfl,_,⟨a,b,c,rfl,ha,hb,hc⟩,_,_,rfl,_,⟨q,rfl,hq,hw⟩,h4⟩
  simp only [Cut] at h4
  subst h4
  exact ⟨⟨e,n,a,b,c,q⟩,by rw [List.append_nil]; rfl,⟨⟨⟨⟨⟨trivial,he⟩,hn⟩,ha⟩,hb⟩,hc⟩,hq,hw⟩)
def TxsO (w:World) (cs:List Value):Prop:=∃v,cs=[v]∧∃l:List Tx,l.length * 168≤140737488351232∧(∀t ∈ l,wfH t.hd∧RdQ w t.q∧WfQ t.q)∧Rd w 16 v l.length (l.map Tx.cells).flatten
theorem opn_TxsO (w:World):Opn π w 22 (TxsO w):=(opn_slice el22 (opn_TxO w)).mono fun cs ⟨v,h,hr⟩=>⟨v,h,rowO_list hr fun c ⟨t,h1,h2⟩=>⟨t,h1,h2⟩⟩
theorem Rd.later {o w w':World} {As:List HProp} {sz n:Nat} {v:Value} {xs:List Value} (h:Rd o sz v n xs) (hS:St o w As) (hm:old o ∈ As):Rd w sz v n xs:=h.of_old hS hm
theorem RdQ.of_old {o:World} (q:Rq):∀{o' w:World} {As:List HProp},RdQ o q→St o' w As→old o ∈ As→RdQ w q:=by
 induction q using Rq.ind with | h q ih=>?_
 intro o' w As h hS hm
 exact .mk q ⟨h.flat.data.of_old hS hm,h.flat.acl.of_old hS hm,h.flat.who.of_old hS hm⟩ (h.row.of_old hS hm) fun x hx=>ih x hx (h.all x hx) hS hm
end Go.Proofs.YtbdfhfceffkhgaaGreatDoor


/- Large; copies. -/
set_option linter.unusedVariables false
set_option linter.unusedSimpArgs false
namespace Go.Proofs.YtbdfhfceffkhgaaGreatDoor
open Go.Sh
open Tryz renaming prog → π
theorem flatC_take {α:Type} (c:α→List Value) (l:List α) (i:Nat) (hi:i < l.length):((l.take (i+1)).map c).flatten=((l.take i).map c).flatten++c l[i]:=by
 rw [List.take_succ_eq_append_getElem hi,List.map_append,List.flatten_append]; simp
section
variable (Z:PZ) {o w:World} {R As:List HProp}
theorem partsC (q:Rq):∀(n:Int) {w:World} {R:List HProp},(Ent o R fun w=>RdQ w q)→St o w R→CallV π Z 55 #[.agg q.cells.toArray,.int .i64 n] w fun r w'=>(∃k:Int,r=.int .i64 k)∧St o w' R:=by
 induction q using Rq.ind with | h q ih=>?_
 intro n w R hx h
 obtain ⟨ad,cd,ed⟩:=(hx w h).flat.data.form
 obtain ⟨aa,ca,ea⟩:=(hx w h).flat.acl.form
 obtain ⟨aw,cw,ew⟩:=(hx w h).flat.who.form
 obtain ⟨ao,co,eo⟩:=(hx w h).row.form
 have hle:=(hx w h).row.2.1
 simp only [maxLen] at hle
 refine f55.calls ?_
 unfold f55.sh
 refine r_box _ _ h fun g w1 hS=>?_
 have hS:St o w1 (blk g 48 q.cells::R):=hS
 (try simp only [fa_48_10,Nat.zero_add,fa_48_9,fa_48_3,fa_48_2,o_add])
 refine r_load one43 (hS.at m0 2 (congrArg some ed)) ?_
 (try simp only [ln_43_3,o_add])
 refine r_load one44 (hS.at m0 3 (congrArg some ea)) ?_
 (try simp only [ln_44_3,o_add])
 refine r_load one45 (hS.at m0 9 (congrArg some ew)) ?_
 (try simp only [ln_45_3,o_add])
 refine ⟨fun m a y w'=>∃(i:Nat) (k:Int),a=.int .i64 k∧y=.int .i64 i∧m+i=q.ops.length∧St o w' (blk g 48 q.cells::R),⟨q.ops.length,0,_,rfl,rfl,rfl,hS⟩,?_⟩
 clear hS
 rintro m _ _ w2 ⟨i,k,rfl,rfl,hi,hS⟩ _
 refine r_load one46 (hS.at m0 10 (congrArg some eo)) ?_
 (try simp only [o_add,ln_46_3,o_lss])
 by_cases hlt:(i:Int) < (q.ops.length:Int)
 ·have hil:i < q.ops.length:=by omega
  (try simp only [hlt,decide_true,o_pickT,guardW_true,o_leq,cond_decide])
  refine ⟨fun hk=>?_,fun hk=>⟨⟨_,rfl⟩,hS.drop⟩⟩
  have hrow:=(hx w2 hS.drop).rowR
  rw [eo] at hrow
  obtain ⟨b,p,cs,hp,_,hcv,hc⟩:=hrow.ix el46 .i64 i hil
  subst hcv
  refine r_load one46 (hS.at m0 10 (congrArg some eo)) ?_
  refine r1 (hp _) (r_loadN ag48 (xs:=q.ops[i].cells) rfl (fun j u hu=>by rw [add_addr]; exact hc j u hu) ?_)
  refine (ih q.ops[i] (List.getElem_mem hil) k (fun w hw=>(hx w hw.drop).all _ (List.getElem_mem hil)) hS).mono fun r w3 ⟨⟨k2,hr⟩,hS⟩=>?_
  subst hr
  skip
  rw [wr_i64 (x:=(i:Int)+1) (by omega) (by omega)]
  exact ⟨m - 1,by omega,i+1,k2,rfl,rfl,by omega,hS⟩
 ·(try simp only [hlt,decide_false,o_pickF,condF,guardW_ft])
  exact ⟨⟨_,rfl⟩,hS.drop⟩
theorem partsQ (q:Rq) (hx:Ent o R fun w=>RdQ w q) (h:St o w R):CallV π Z 32 #[.agg q.cells.toArray] w fun r w'=>(∃k:Int,r=.int .i64 k)∧St o w' R:=by
 refine f32.calls ?_
 unfold f32.sh
 refine r_box _ _ h fun g w1 hS=>?_
 have hS:St o w1 (blk g 48 q.cells::R):=hS
 refine r_loadN ag48 (xs:=q.cells) rfl (hS.cells_at m0 0 (whole_at _)) ?_
 exact (partsC Z q 0 (fun w hw=>hx w hw.drop) hS).mono fun r w2 ⟨h1,hS⟩=>⟨h1,hS.drop⟩
theorem largeC (q:Rq) (hx:Ent o R fun w=>RdQ w q) (h:St o w R):CallV π Z 20 #[.agg q.cells.toArray] w fun r w'=>(∃b:Bool,r=.bool b)∧St o w' R:=by
 refine f20.calls ?_
 unfold f20.sh
 refine r_box _ _ h fun g w1 hS=>?_
 have hS:St o w1 (blk g 48 q.cells::R):=hS
 refine r_loadN ag48 (xs:=q.cells) rfl (hS.cells_at m0 0 (whole_at _)) ?_
 refine (partsQ Z q (fun w hw=>hx w hw.drop) hS).mono fun r w2 ⟨⟨k,hr⟩,hS⟩=>?_
 subst hr
 (try simp only [o_gtr])
 exact ⟨⟨_,rfl⟩,hS.drop⟩
theorem copyAcl {x:Value} {l:List En} (h:St o w R) (hx:Ent o R fun w=>Rd w 3 x l.length (l.map enC).flatten) (hl:l.length * 40≤140737488351232) :
  CallV π Z 70 #[x] w fun r w'=>St o w' (own 140 3 r l.length (l.map enC).flatten::R):=by
 obtain ⟨a,c,rfl⟩:=(hx w h).form
 refine f70.calls ?_
 unfold f70.sh
 (try simp only [ln_44_3])
 refine ⟨fun m v y w'=>∃i:Nat,y=.int .i64 i∧m+i=l.length∧St o w' (own 140 3 v i ((l.take i).map enC).flatten::R),⟨l.length,0,rfl,rfl,by simpa using h.own_nil 140 3⟩,?_⟩
 rintro m v _ w1 ⟨i,rfl,hi,hS⟩ _
 by_cases hlt:(i:Int) < (l.length:Int)
 ·have hil:i < l.length:=by omega
  obtain ⟨b,p,cs,hp,_,hcv,hc⟩:=(rowR_rd (c:=enC) (fun x=>rfl) (hx w1 hS.drop) rfl).ix el44 .i64 i hil
  subst hcv
  (try simp only [o_add,o_lss,hlt,decide_true,condT])
  refine r1 (hp _) (r_loadN ag140 (xs:=enC l[i]) rfl (fun j u hu=>by rw [add_addr]; exact hc j u hu) ?_)
  refine r_pushN el44 hS (enC l[i]) rfl (enB_ones _) (by omega) (by omega) (by simp only [maxLen]; omega) fun v' w2 hS=>?_
  skip
  rw [wr_i64 (x:=(i:Int)+1) (by omega) (by omega)]
  refine ⟨m - 1,by omega,i+1,rfl,by omega,?_⟩
  rw [flatC_take _ _ _ hil]
  exact hS
 ·obtain rfl:i=l.length:=by omega
  rw [List.take_length] at hS
  (try simp only [o_add,o_lss,hlt,decide_false,condF])
  exact hS
theorem copyIds {x:Value} {l:List Idd} (h:St o w R) (hx:Ent o R fun w=>Rd w 2 x l.length (l.map idC).flatten) (hl:l.length * 32≤140737488351232) :
  CallV π Z 71 #[x] w fun r w'=>St o w' (own 138 2 r l.length (l.map idC).flatten::R):=by
 obtain ⟨a,c,rfl⟩:=(hx w h).form
 refine f71.calls ?_
 unfold f71.sh
 (try simp only [ln_45_3])
 refine ⟨fun m v y w'=>∃i:Nat,y=.int .i64 i∧m+i=l.length∧St o w' (own 138 2 v i ((l.take i).map idC).flatten::R),⟨l.length,0,rfl,rfl,by simpa using h.own_nil 138 2⟩,?_⟩
 rintro m v _ w1 ⟨i,rfl,hi,hS⟩ _
 by_cases hlt:(i:Int) < (l.length:Int)
 ·have hil:i < l.length:=by omega
  obtain ⟨b,p,cs,hp,_,hcv,hc⟩:=(rowR_rd (c:=idC) (fun x=>rfl) (hx w1 hS.drop) rfl).ix el45 .i64 i hil
  subst hcv
  (try simp only [o_add,o_lss,hlt,decide_true,condT])
  refine r1 (hp _) (r_loadN ag138 (xs:=idC l[i]) rfl (fun j u hu=>by rw [add_addr]; exact hc j u hu) ?_)
  refine r_pushN el45 hS (idC l[i]) rfl (idB_ones _) (by omega) (by omega) (by simp only [maxLen]; omega) fun v' w2 hS=>?_
  skip
  rw [wr_i64 (x:=(i:Int)+1) (by omega) (by omega)]
  refine ⟨m - 1,by omega,i+1,rfl,by omega,?_⟩
  rw [flatC_take _ _ _ hil]
  exact hS
 ·obtain rfl:i=l.length:=by omega
  rw [List.take_length] at hS
  (try simp only [o_add,o_lss,hlt,decide_false,condF])
  exact hS
theorem copyQ (q:Rq) (hw:WfQ q):∀{w:World} {R:List HProp},(Ent o R fun w=>RdQ w q)→St o w R→CallV π Z 44 #[.agg q.cells.toArray] w fun r w'=>∃q',r=.agg q'.cells.toArray∧q'.st=q.st∧St o w' (OwQ q'::R):=by
 induction q using Rq.ind with | h q ih=>?_
 intro w R hx h
 refine f44.calls ?_
 unfold f44.sh
 refine r_box _ _ h fun g1 w1 hS=>?_
 refine r_alloc hS ze48 fun g2 w2 hS=>?_
 have hS:St o w2 (blk g2 48 (rqC zf (.slice none 0 0) (.slice none 0 0) (.slice none 0 0) (.slice none 0 0))::blk g1 48 q.cells::R):=hS
 refine r_loadN ag48 (xs:=q.cells) rfl (hS.cells_at m1 0 (whole_at _)) ?_
 have hq:=(hx w2 hS.drop.drop).ones
 refine r_alloc hS ze48 fun g3 w3 hS=>?_
 refine r_storeN hS ag48 (xs:=q.cells) rfl (show 0+11≤11 from Nat.le_refl _) hq fun w4 hS=>?_
 rw [setL_all _ _ (by rfl)] at hS
 (try simp only [fa_48_10p,Nat.zero_add,fa_48_10,fa_48_9,fa_48_3,fa_48_2])
 refine r_load one43 (hS.at m2 2 rfl) ?_
 refine (copyBytes Z (l:=q.f.data) hS (fun w hS=>(hx w hS.drop.drop.drop).flat.data) (by have:=hw.flat.data; omega)).mono fun vd w5 hS=>?_
 have h1:=St.own_one hS
 refine r_store hS.swap one43 (by simp [Rq.cells,rqC]) h1 fun w6 hS=>?_
 refine r_load one44 (hS.at m3 3 rfl) ?_
 refine (copyAcl Z (l:=q.f.acl) hS (fun w hS=>(hx w hS.drop.drop.drop.drop).flat.acl) hw.flat.acl.1).mono fun va w7 hS=>?_
 have h2:=St.own_one hS
 refine r_store hS.swap one44 (by simp [Rq.cells,rqC]) h2 fun w8 hS=>?_
 refine r_load one45 (hS.at m4 9 rfl) ?_
 refine (copyIds Z (l:=q.f.who) hS (fun w hS=>(hx w hS.drop.drop.drop.drop.drop).flat.who) hw.flat.who.1).mono fun vw w9 hS=>?_
 have h3:=St.own_one hS
 refine r_store hS.swap one45 (by simp [Rq.cells,rqC]) h3 fun w10 hS=>?_
 refine r_store hS one46 (by simp [Rq.cells,rqC]) rfl fun w11 hS=>?_
 have hS:St o w11 (blk g3 48 (rqC q.f vd va vw (.slice none 0 0))::own 138 2 vw q.f.who.length (q.f.who.map idC).flatten::own 140 3 va q.f.acl.length (q.f.acl.map enC).flatten::own 5 1 vd q.f.data.length (cb q.f.data)::blk g2 48 (rqC zf (.slice none 0 0) (.slice none 0 0) (.slice none 0 0) (.slice none 0 0))::blk g1 48 q.cells::R):=hS
 have hS:St o w11 (OwF q.f vd va vw::blk g3 48 (rqC q.f vd va vw (.slice none 0 0))::blk g2 48 (rqC zf (.slice none 0 0) (.slice none 0 0) (.slice none 0 0) (.slice none 0 0))::blk g1 48 q.cells::R):=by
  have a2:St o w11 (own 140 3 va q.f.acl.length (q.f.acl.map enC).flatten::own 138 2 vw q.f.who.length (q.f.who.map idC).flatten::_):=((hS.pick 1).pick 2)
  exact ((a2.sep_intro).pick 2).sep_intro
 obtain ⟨ao,co,eo⟩:=(hx w11 hS.drop.drop.drop.drop).row.form
 have hle:=(hx w11 hS.drop.drop.drop.drop).row.2.1
 simp only [maxLen] at hle
 have hwl:=hw.len
 have hone3:∀v:Value,v.oneCell'=true→ones (rqC q.f vd va vw v):=fun v hv=>rqC_ones h1 h2 h3 hv
 skip
 refine ⟨fun m y w'=>∃(i:Nat) (xs:List Rq) (v:Value),y=.int .i64 i∧m+i=q.ops.length∧xs.length=i∧xs.map Rq.st=(q.ops.take i).map Rq.st ∧
   St o w' (own 48 11 v i (xs.map Rq.cells).flatten::satH (xs.map OwQ)::OwF q.f vd va vw::blk g3 48 (rqC q.f vd va vw v)::blk g2 48 (rqC zf (.slice none 0 0) (.slice none 0 0) (.slice none 0 0) (.slice none 0 0))::blk g1 48 q.cells::R),
  ⟨q.ops.length,0,[],.slice none 0 0,rfl,rfl,rfl,rfl,(hS.emp.mono fun _ _=>(trivial:satH (([]:List Rq).map OwQ) _)).own_nil 48 11⟩,?_⟩
 clear hS
 rintro m _ w12 ⟨i,xs,v,rfl,hi,hxl,hst,hS⟩ _
 refine r_load one46 (hS.at m5 10 (congrArg some eo)) ?_
 (try simp only [o_add,ln_46_3,o_lss,cond_decide])
 refine ⟨fun hlt=>⟨fun w13 hd=>?_⟩,fun hlt=>?_⟩
 ·have hil:i < q.ops.length:=by omega
  have hmem:q.ops[i] ∈ q.ops:=List.getElem_mem hil
  have hS:=hS.drew hd
  have hrow:=(hx w13 hS.drop.drop.drop.drop.drop.drop).rowR
  rw [eo] at hrow
  obtain ⟨b,p,cs,hp,_,hcv,hc⟩:=hrow.ix el46 .i64 i hil
  subst hcv
  refine rr_load one46 (hS.at m3 10 rfl) ?_
  refine rr_load one46 (hS.at m5 10 (congrArg some eo)) ?_
  refine rp hp (rr_loadN ag48 (xs:=q.ops[i].cells) rfl (fun j u hu=>by rw [add_addr]; exact hc j u hu) ?_)
  refine (ih q.ops[i] hmem (hw.all _ hmem) (fun w hw=>(hx w hw.drop.drop.drop.drop.drop.drop).all _ hmem) hS).mono fun r w14 ⟨x',hr,hxst,hS⟩=>?_
  subst hr
  refine rs_load one46 (hS.at m6 10 (congrArg some eo)) (rs_load one46 (hS.at m4 10 rfl) ?_)
  have hxo:=(OwQ.rd _ hS).ones
  refine r_sliceN el46 hS 1 _ [x'.cells] rfl (by omega) (by omega) (by omega) (by simp [Rq.cells_len]) rfl fun gb w15 hS=>?_
  have e1:[x'.cells].flatten=x'.cells:=by simp
  rw [e1] at hS
  refine rs_load one46 (hS.at m7 10 (congrArg some eo)) (rs_load one46 (hS.at m5 10 rfl) ?_)
  have hsrc:=(hS.own_rd m0).src Tryz.underlying46 hxo
  refine r_append el46 (hS.pick 2) hsrc (by omega) (by simp only [maxLen]; omega) fun v' w16 hS=>?_
  have hone:=St.own_one hS
  refine rs_load one46 (hS.at m7 10 (congrArg some eo)) ?_
  skip
  refine r_store (hS.pick 5) one46 (by simp [rqC]) hone fun w17 hS=>?_
  rw [wr_i64 (x:=(i:Int)+1) (by omega) (by omega)]
  refine ⟨m - 1,by omega,i+1,xs++[x'],v',rfl,by omega,by simp [hxl],?_,?_⟩
  ·rw [List.take_succ_eq_append_getElem hil,List.map_append,List.map_append,hst]
   simp [hxst]
  ·have e2:((xs++[x']).map Rq.cells).flatten=(xs.map Rq.cells).flatten++x'.cells:=by simp
   have e3:(xs++[x']).map OwQ=xs.map OwQ++[OwQ x']:=by simp
   rw [e2,e3]
   have b1:=(hS.pick 2).drop
   exact (((((b1.pick 2).pick 3).all_snoc).pick 2).pick 3).put 2
 ·obtain rfl:i=q.ops.length:=by omega
  rw [List.take_length] at hst
  have hone:=St.own_one hS
  refine r_loadN ag48 (xs:=rqC q.f vd va vw v) rfl (hS.cells_at m3 0 (whole_at _)) ?_
  refine r_storeN (hS.pick 4) ag48 (xs:=rqC q.f vd va vw v) rfl (show 0+11≤11 from Nat.le_refl _) (hone3 v hone) fun w13 hS=>?_
  rw [setL_all _ _ (by rfl)] at hS
  refine r_resN ag48 (xs:=rqC q.f vd va vw v) rfl (hS.cells_at m0 0 (whole_at _)) ?_
  refine ⟨.mk q.f vd va vw v xs,rfl,(st_iff _ _).2 ⟨rfl,hst⟩,?_⟩
  rw [OwQ_eq]
  have b1:=hS.drop.sep_intro.swap.sep_intro.swap.drop.swap.drop
  rw [← hxl] at b1
  exact b1
theorem copyT (t:Tx) (hw:WfQ t.q) (hx:Ent o R fun w=>RdQ w t.q) (h:St o w R):CallV π Z 14 #[.agg t.cells.toArray] w fun r w'=>∃t':Tx,r=.agg t'.cells.toArray∧t'.hd=t.hd∧t'.q.st=t.q.st∧St o w' (OwQ t'.q::R):=by
 refine f14.calls ?_
 unfold f14.sh
 refine r_box _ _ h fun g1 w1 hS=>?_
 refine r_alloc hS ze50 fun g2 w2 hS=>?_
 have hS:St o w2 (blk g2 50 zTx::blk g1 50 t.cells::R):=hS
 (try simp only [fa_50_2,Nat.zero_add])
 refine r_loadN ag48 (xs:=t.q.cells) rfl (hS.cells_at m1 5 (rq_at t)) ?_
 refine (copyQ Z t.q hw (fun w hw=>hx w hw.drop.drop) hS).mono fun r w3 ⟨q',hr,hst,hS⟩=>?_
 subst hr
 have hqo:=(OwQ.rd _ hS).ones
 refine r_storeN (hS.pick 2) ag48 (xs:=q'.cells) rfl (show 5+11≤16 from Nat.le_refl _) hqo fun w4 hS=>?_
 have hS:St o w4 (blk g1 50 (Tx.cells ⟨t.e,t.n,t.sv,t.bo,t.nu,q'⟩)::OwQ q'::blk g2 50 zTx::R):=hS
 refine r_loadN ag50 (xs:=Tx.cells ⟨t.e,t.n,t.sv,t.bo,t.nu,q'⟩) rfl (hS.cells_at m0 0 (whole_at _)) ?_
 refine r_storeN (hS.pick 2) ag50 (xs:=Tx.cells ⟨t.e,t.n,t.sv,t.bo,t.nu,q'⟩) rfl (show 0+16≤16 from Nat.le_refl _) (txC_ones hqo) fun w5 hS=>?_
 rw [setL_all _ _ (by rfl)] at hS
 refine r_resN ag50 (xs:=Tx.cells ⟨t.e,t.n,t.sv,t.bo,t.nu,q'⟩) rfl (hS.cells_at m0 0 (whole_at _)) ?_
 exact ⟨⟨t.e,t.n,t.sv,t.bo,t.nu,q'⟩,rfl,rfl,hst,hS.drop.drop⟩
end
end Go.Proofs.YtbdfhfceffkhgaaGreatDoor


/- Lists of transactions: LargeTxns, CopyTxns, Rises. -/
set_option linter.unusedVariables false
set_option linter.unusedSimpArgs false
namespace Go.Proofs.YtbdfhfceffkhgaaGreatDoor
open Go.Sh
open Tryz renaming prog → π
def RdT (w:World) (v:Value) (ts:List Tx):Prop:=Rd w 16 v ts.length (ts.map Tx.cells).flatten∧∀t ∈ ts,RdQ w t.q
def WfT (ts:List Tx):Prop:=ts.length * 168≤140737488351232∧∀t ∈ ts,wfH t.hd∧WfQ t.q
def OwT (ts:List Tx):HProp:=satH (ts.map fun t=>OwQ t.q)
theorem OwT.rd {o w:World} {R:List HProp} {v:Value} {ts:List Tx} (h:St o w (own 50 16 v ts.length (ts.map Tx.cells).flatten::OwT ts::R)):RdT w v ts:=by
 refine ⟨h.own_rd m0,fun t ht=>?_⟩
 obtain ⟨As,Bs,e⟩:=List.append_of_mem ht
 have h3:=h.swap
 unfold OwT at h3
 rw [e,List.map_append,List.map_cons] at h3
 exact OwQ.rd _ h3.all_out
def ls (e n e' n':Int):Prop:=e * 4294967296+n < e' * 4294967296+n'
instance (e n e' n':Int):Decidable (ls e n e' n'):=by unfold ls; infer_instance
theorem ls_cmp {e n e' n':Int} (hn:u32r n) (hn':u32r n'):decide (cmpZ e n e' n' < 0)=decide (ls e n e' n'):=by
 have h:=(cmpZ_pack (e:=e) (e':=e') hn hn').1
 have h:=eq_of_beq h
 rw [← h]; rfl
def rises (e n:Int):List (Int × Int)→Bool
 | []=>true
 | z::l=>decide (ls e n z.1 z.2) && rises z.1 z.2 l
def zxs (ts:List Tx):List (Int × Int):=ts.map fun t=>(t.e,t.n)
section
variable (Z:PZ) {o w:World} {R As:List HProp}
theorem largeTs {v:Value} {ts:List Tx} (hx:Ent o R fun w=>RdT w v ts) (h:St o w R):CallV π Z 8 #[v] w fun r w'=>(∃b:Bool,r=.bool b)∧St o w' R:=by
 obtain ⟨a,c,rfl⟩:=(hx w h).1.form
 have hle:=(hx w h).1.2.1
 simp only [maxLen] at hle
 refine f8.calls ?_
 unfold f8.sh
 (try simp only [ln_22_3])
 refine ⟨fun m k y w'=>∃(i:Nat) (n:Int),k=.int .i64 n∧y=.int .i64 i∧m+i=ts.length∧St o w' R,⟨ts.length,0,0,rfl,rfl,rfl,h⟩,?_⟩
 rintro m _ _ w2 ⟨i,n,rfl,rfl,hi,hS⟩ _
 by_cases hlt:(i:Int) < (ts.length:Int)
 ·have hil:i < ts.length:=by omega
  have hmem:ts[i] ∈ ts:=List.getElem_mem hil
  (try simp only [o_add,o_gtr,o_lss,hlt,decide_true,o_pickT,guardW_true,o_leq,cond_decide])
  refine ⟨fun hk=>?_,fun hk=>⟨⟨_,rfl⟩,hS⟩⟩
  obtain ⟨b,p,cs,hp,_,hcv,hc⟩:=(rowR_rd (c:=Tx.cells) (fun x=>rfl) (hx w2 hS).1 rfl).ix el22 .i64 i hil
  subst hcv
  refine r1 (hp _) ?_
  (try simp only [fa_50_2])
  refine r_loadN ag48 (xs:=ts[i].q.cells) rfl (fun j u hu=>by rw [add_addr,Nat.add_assoc]; exact hc _ u (rq_at _ j u hu)) ?_
  refine (largeC Z ts[i].q (fun w hw=>(hx w hw).2 _ hmem) hS).mono fun r w3 ⟨⟨bb,hr⟩,hS⟩=>?_
  subst hr
  refine cond_or (fun _=>⟨⟨_,rfl⟩,hS⟩) fun _=>?_
  obtain ⟨b,p,cs,hp,_,hcv,hc⟩:=(rowR_rd (c:=Tx.cells) (fun x=>rfl) (hx w3 hS).1 rfl).ix el22 .i64 i hil
  subst hcv
  skip
  refine r1 (hp _) ?_
  (try simp only [fa_50_2])
  refine r_loadN ag48 (xs:=ts[i].q.cells) rfl (fun j u hu=>by rw [add_addr,Nat.add_assoc]; exact hc _ u (rq_at _ j u hu)) ?_
  refine (partsQ Z ts[i].q (fun w hw=>(hx w hw).2 _ hmem) hS).mono fun r w4 ⟨⟨k2,hr⟩,hS⟩=>?_
  subst hr
  (try simp only [o_add])
  rw [wr_i64 (x:=(i:Int)+1) (by omega) (by omega)]
  exact ⟨m - 1,by omega,i+1,_,rfl,rfl,by omega,hS⟩
 ·(try simp only [o_add,o_gtr,o_lss,hlt,decide_false,o_pickF,condF,guardW_ft])
  exact ⟨⟨_,rfl⟩,hS⟩
theorem copyTs {v:Value} {ts:List Tx} (hw:WfT ts) (hx:Ent o R fun w=>RdT w v ts) (h:St o w R):CallV π Z 9 #[v] w fun r w'=>∃ts':List Tx,ts'.map Tx.hd=ts.map Tx.hd∧ts'.map (fun t=>t.q.st)=ts.map (fun t=>t.q.st) ∧
  St o w' (own 50 16 r ts'.length (ts'.map Tx.cells).flatten::OwT ts'::R):=by
 obtain ⟨a,c,rfl⟩:=(hx w h).1.form
 have hle:=(hx w h).1.2.1
 simp only [maxLen] at hle
 have hwl:=hw.1
 refine f9.calls ?_
 unfold f9.sh
 (try simp only [ln_22_3])
 refine ⟨fun m v y w'=>∃(i:Nat) (xs:List Tx),y=.int .i64 i∧m+i=ts.length∧xs.length=i∧xs.map Tx.hd=(ts.take i).map Tx.hd∧xs.map (fun t=>t.q.st)=(ts.take i).map (fun t=>t.q.st) ∧
   St o w' (own 50 16 v i (xs.map Tx.cells).flatten::OwT xs::R),
  ⟨ts.length,0,[],rfl,rfl,rfl,rfl,rfl,(h.emp.mono fun _ _=>(trivial:OwT [] _)).own_nil 50 16⟩,?_⟩
 clear h
 rintro m v _ w2 ⟨i,xs,rfl,hi,hxl,hhd,hst,hS⟩ _
 by_cases hlt:(i:Int) < (ts.length:Int)
 ·have hil:i < ts.length:=by omega
  have hmem:ts[i] ∈ ts:=List.getElem_mem hil
  obtain ⟨b,p,cs,hp,_,hcv,hc⟩:=(rowR_rd (c:=Tx.cells) (fun x=>rfl) (hx w2 hS.drop.drop).1 rfl).ix el22 .i64 i hil
  subst hcv
  (try simp only [o_add,o_lss,hlt,decide_true,condT])
  refine r1 (hp _) (r_loadN ag50 (xs:=ts[i].cells) rfl (fun j u hu=>by rw [add_addr]; exact hc j u hu) ?_)
  refine (copyT Z ts[i] (hw.2 _ hmem).2 (fun w hw=>(hx w hw.drop.drop).2 _ hmem) hS).mono fun r w3 ⟨t',hr,h1,h2,hS⟩=>?_
  subst hr
  have hxo:=txC_ones (OwQ.rd _ hS).ones
  refine r_pushN el22 hS.swap t'.cells rfl hxo (by omega) (by omega) (by simp only [maxLen]; omega) fun v' w4 hS=>?_
  skip
  rw [wr_i64 (x:=(i:Int)+1) (by omega) (by omega)]
  refine ⟨m - 1,by omega,i+1,xs++[t'],rfl,by omega,by simp [hxl],?_,?_,?_⟩
  ·rw [List.take_succ_eq_append_getElem hil,List.map_append,List.map_append,hhd]; simp [h1]
  ·rw [List.take_succ_eq_append_getElem hil,List.map_append,List.map_append,hst]; simp [h2]
  ·have e2:((xs++[t']).map Tx.cells).flatten=(xs.map Tx.cells).flatten++t'.cells:=by simp
   have e3:OwT (xs++[t'])=satH (xs.map (fun t=>OwQ t.q)++[OwQ t'.q]):=by simp [OwT]
   rw [e2,e3]
   exact (((hS.pick 1).pick 2).all_snoc).swap
 ·obtain rfl:i=ts.length:=by omega
  rw [List.take_length] at hhd hst
  (try simp only [o_add,o_lss,hlt,decide_false,condF])
  exact ⟨xs,hhd,hst,by rw [hxl]; exact hS⟩
theorem risesC {v:Value} {ts:List Tx} {e n:Int} (hn:u32r n) (hns:∀t ∈ ts,u32r t.n) (hx:Ent o R fun w=>RdT w v ts) (h:St o w R):CallV π Z 38 #[.agg (zx e n).toArray,v] w fun r w'=>r=.bool (rises e n (zxs ts))∧St o w' R:=by
 obtain ⟨a,c,rfl⟩:=(hx w h).1.form
 have hle:=(hx w h).1.2.1
 simp only [maxLen] at hle
 refine f38.calls ?_
 unfold f38.sh
 refine r_box _ _ h fun g w1 hS=>?_
 have hS:St o w1 (blk g 39 (zx e n)::R):=hS
 (try simp only [ln_22_3])
 refine ⟨fun m y w'=>∃(i:Nat) (pe pn:Int),y=.int .i64 i∧m+i=ts.length∧u32r pn∧rises e n (zxs ts)=rises pe pn (zxs (ts.drop i))∧St o w' (blk g 39 (zx pe pn)::R),⟨ts.length,0,e,n,rfl,rfl,hn,rfl,hS⟩,?_⟩
 clear hS
 rintro m _ w2 ⟨i,pe,pn,rfl,hi,hpn,hri,hS⟩ _
 by_cases hlt:(i:Int) < (ts.length:Int)
 ·have hil:i < ts.length:=by omega
  have hmem:ts[i] ∈ ts:=List.getElem_mem hil
  obtain ⟨b,p,cs,hp,_,hcv,hc⟩:=(rowR_rd (c:=Tx.cells) (fun x=>rfl) (hx w2 hS.drop).1 rfl).ix el22 .i64 i hil
  subst hcv
  rw [List.drop_eq_getElem_cons hil] at hri
  have hri:rises e n (zxs ts)=(decide (ls pe pn ts[i].e ts[i].n) && rises ts[i].e ts[i].n (zxs (ts.drop (i+1)))):=hri
  (try simp only [o_add,o_lss,hlt,decide_true,condT])
  refine r1 (hp _) (r_loadN ag50 (xs:=ts[i].cells) rfl (fun j u hu=>by rw [add_addr]; exact hc j u hu) ?_)
  have hq:=txC_ones ((hx w2 hS.drop).2 _ hmem).ones
  refine r_alloc hS ze50 fun ge w5 hS=>?_
  refine r_storeN hS ag50 (xs:=ts[i].cells) rfl (show 0+16≤16 from Nat.le_refl _) hq fun w6 hS=>?_
  rw [setL_all _ _ (by rfl)] at hS
  refine r_loadN ag39 (xs:=zx pe pn) rfl (hS.cells_at m1 0 (whole_at _)) ?_
  (try simp only [fa_50_0,Nat.add_zero])
  refine r_loadN ag39 (xs:=zx ts[i].e ts[i].n) rfl (hS.cells_at m0 0 (zx_at _)) ?_
  refine (txnCompare Z hS).mono fun r w7 ⟨hr,hS⟩=>?_
  subst hr
  have hcmp:=ls_cmp (e:=pe) (n:=pn) (e':=ts[i].e) (n':=ts[i].n) hpn (hns _ hmem)
  by_cases hl:cmpZ pe pn ts[i].e ts[i].n < 0
  ·have hl':ls pe pn ts[i].e ts[i].n:=by rw [decide_eq_true hl] at hcmp; exact of_decide_eq_true hcmp.symm
   have hge:¬ (0:Int)≤cmpZ pe pn ts[i].e ts[i].n:=by omega
   (try simp only [o_geq,hge,decide_false,condF])
   refine r_loadN ag39 (xs:=zx ts[i].e ts[i].n) rfl (hS.cells_at m0 0 (zx_at _)) ?_
   refine r_storeN hS.swap ag39 (xs:=zx ts[i].e ts[i].n) rfl (show 0+2≤2 from Nat.le_refl _) (zx_ones _ _) fun w8 hS=>?_
   rw [setL_all _ _ (by rfl)] at hS
   rw [wr_i64 (x:=(i:Int)+1) (by omega) (by omega)]
   refine ⟨m - 1,by omega,i+1,ts[i].e,ts[i].n,rfl,by omega,hns _ hmem,?_,hS.swap.drop⟩
   rw [hri,decide_eq_true hl',Bool.true_and]
  ·have hl':¬ ls pe pn ts[i].e ts[i].n:=by rw [decide_eq_false hl] at hcmp; exact of_decide_eq_false hcmp.symm
   have hge:(0:Int)≤cmpZ pe pn ts[i].e ts[i].n:=by omega
   (try simp only [o_geq,hge,decide_true,condT])
   exact ⟨by rw [hri,decide_eq_false hl']; rfl,hS.drop.drop⟩
 ·obtain rfl:i=ts.length:=by omega
  rw [List.drop_length] at hri
  (try simp only [o_add,o_lss,hlt,decide_false,condF])
  exact ⟨by rw [hri]; rfl,hS.drop⟩
end
end Go.Proofs.YtbdfhfceffkhgaaGreatDoor


/- TxnStairs: the walk. -/
set_option linter.unusedVariables false
set_option linter.unusedSimpArgs false
namespace Go.Proofs.YtbdfhfceffkhgaaGreatDoor
open Go.Sh
open Tryz renaming prog → π
theorem rd_takeN {α:Type} {w:World} {sz:Nat} {C:α→List Value} (hC:∀x,(C x).length=sz) {a:Option Addr} {c:Nat} {l:List α} (h:Rd w sz (.slice a l.length c) l.length (l.map C).flatten) (k:Nat) (hk:k≤l.length):Rd w sz (.slice a k c) (l.take k).length ((l.take k).map C).flatten:=by
 obtain ⟨h1,h2,h3⟩:=h
 have hl:(l.take k).length=k:=by rw [List.length_take]; omega
 have e:(l.map C).flatten=((l.take k).map C).flatten++((l.drop k).map C).flatten:=by
  rw [← List.flatten_append,← List.map_append,List.take_append_drop]
 have hfl:((l.take k).map C).flatten.length=k * sz:=by
  rw [len_flatten_of (sz:=sz) (fun c hc=>by obtain ⟨x,_,rfl⟩:=List.mem_map.1 hc; exact hC x),List.length_map,hl]
 refine ⟨by rw [hfl,hl],by omega,?_⟩
 rcases h3 with ⟨c',hq,hn⟩ | ⟨a',c',hq,hc⟩
 ·injection hq with q1 q2 q3
  subst q1
  exact .inl ⟨c,by rw [show k=0 by omega],by omega⟩
 ·injection hq with q1 q2 q3
  subst q1
  refine .inr ⟨a',c,by rw [hl],fun j u hu=>hc j u ?_⟩
  rw [e,List.getElem?_append_left (List.getElem?_eq_some_iff.1 hu).1]
  exact hu
theorem rd_dropN {α:Type} {w:World} {sz:Nat} {C:α→List Value} (hC:∀x,(C x).length=sz) {a:Option Addr} {c:Nat} {l:List α} (hnc:l.length≤c) (h:Rd w sz (.slice a l.length c) l.length (l.map C).flatten) (k:Nat) (hk:k≤l.length):Rd w sz (.slice (if c=k then a else a.map (·.add (k * sz))) (l.length - k) (c - k)) (l.drop k).length ((l.drop k).map C).flatten:=by
 obtain ⟨h1,h2,h3⟩:=h
 have hl:(l.drop k).length=l.length - k:=List.length_drop
 have e:(l.map C).flatten=((l.take k).map C).flatten++((l.drop k).map C).flatten:=by
  rw [← List.flatten_append,← List.map_append,List.take_append_drop]
 have hfl:((l.drop k).map C).flatten.length=(l.length - k) * sz:=by
  rw [len_flatten_of (sz:=sz) (fun c hc=>by obtain ⟨x,_,rfl⟩:=List.mem_map.1 hc; exact hC x),List.length_map,hl]
 have hft:((l.take k).map C).flatten.length=k * sz:=by
  rw [len_flatten_of (sz:=sz) (fun c hc=>by obtain ⟨x,_,rfl⟩:=List.mem_map.1 hc; exact hC x),List.length_map,List.length_take,Nat.min_eq_left hk]
 refine ⟨by rw [hfl,hl],by omega,?_⟩
 rcases h3 with ⟨c',hq,hn⟩ | ⟨a',c',hq,hc⟩
 ·injection hq with q1 q2 q3
  subst q1
  refine .inl ⟨c - k,?_,by omega⟩
  rw [show l.length - k=0 by omega]
  simp
 ·injection hq with q1 q2 q3
  subst q1
  by_cases he:k=l.length
  ·have hx0:((l.drop k).map C).flatten=[]:=List.eq_nil_of_length_eq_zero (by rw [hfl,he,Nat.sub_self,Nat.zero_mul])
   by_cases hck:c=k
   ·rw [if_pos hck]
    exact .inr ⟨a',c - k,by rw [hl],fun j u hu=>by rw [hx0] at hu; simp at hu⟩
   ·rw [if_neg hck]
    exact .inr ⟨_,c - k,by rw [hl]; rfl,fun j u hu=>by rw [hx0] at hu; simp at hu⟩
  ·by_cases hck:c=k
   ·omega
   ·rw [if_neg hck]
    refine .inr ⟨a'.add (k * sz),c - k,by rw [hl]; rfl,fun j u hu=>?_⟩
    rw [addr_add2]
    refine hc _ u ?_
    rw [e,List.getElem?_append_right (by omega),hft,Nat.add_sub_cancel_left]
    exact hu
theorem RdT.take {w:World} {a:Option Addr} {c:Nat} {ts:List Tx} (h:RdT w (.slice a ts.length c) ts) (k:Nat) (hk:k≤ts.length):RdT w (.slice a k c) (ts.take k):=
 ⟨rd_takeN Tx.cells_len h.1 k hk,fun t ht=>h.2 t (List.mem_of_mem_take ht)⟩
theorem RdT.drop {w:World} {a:Option Addr} {c:Nat} {ts:List Tx} (hnc:ts.length≤c) (h:RdT w (.slice a ts.length c) ts) (k:Nat) (hk:k≤ts.length):RdT w (.slice (if c=k then a else a.map (·.add (k * 16))) (ts.length - k) (c - k)) (ts.drop k):=
 ⟨rd_dropN Tx.cells_len hnc h.1 k hk,fun t ht=>h.2 t (List.mem_of_mem_drop ht)⟩
theorem RdT.of_old {o o' w:World} {As:List HProp} {v:Value} {ts:List Tx} (h:RdT o v ts) (hS:St o' w As) (hm:old o ∈ As):RdT w v ts:=⟨h.1.of_old hS hm,fun t ht=>RdQ.of_old _ (h.2 t ht) hS hm⟩
theorem WfT.take {ts:List Tx} (h:WfT ts) (k:Nat):WfT (ts.take k):=⟨by have:=h.1; rw [List.length_take]; omega,fun t ht=>h.2 t (List.mem_of_mem_take ht)⟩
theorem WfT.drop {ts:List Tx} (h:WfT ts) (k:Nat):WfT (ts.drop k):=⟨by have:=h.1; rw [List.length_drop]; omega,fun t ht=>h.2 t (List.mem_of_mem_drop ht)⟩
theorem WfT.ns {ts:List Tx} (h:WfT ts):∀t ∈ ts,u32r t.n:=fun t ht=>hok_le (h.2 t ht).1 (show 1 < 5 by omega)
theorem WfT.es {ts:List Tx} (h:WfT ts):∀t ∈ ts,u32r t.e:=fun t ht=>hok_le (h.2 t ht).1 (show 0 < 5 by omega)
section
variable (Z:PZ) {o w:World} {R As:List HProp}
end
def TxsC (w:World) (cs:List Value):Prop:=TxsO w cs∧∃a n c,cs=[.slice a n c]∧n≤c
theorem opn_TxsC (w:World):Opn π w 22 (TxsC w):=Opn.and (opn_TxsO w) (opn_cap Tryz.underlying22)
theorem txsC_open {w:World} {x:Value} (h:TxsC w [x]):∃a c ts,x=.slice a (List.length ts) c∧ts.length≤c∧WfT ts∧RdT w (.slice a ts.length c) ts:=by
 obtain ⟨⟨v,hv,l,hl,hok,hx⟩,a,n,c,hv2,hnc⟩:=h
 injection hv with hv; subst hv
 injection hv2 with hv2; subst hv2
 obtain ⟨a2,c2,e⟩:=hx.form
 injection e with e1 e2 e3
 subst e2
 exact ⟨a,c,l,rfl,hnc,⟨hl,fun t ht=>⟨(hok t ht).1,(hok t ht).2.2⟩⟩,hx,fun t ht=>(hok t ht).2.1⟩
end Go.Proofs.YtbdfhfceffkhgaaGreatDoor


/- Same of package txn. -/
set_option linter.unusedVariables false
set_option linter.unusedSimpArgs false
namespace Go.Proofs.YtbdfhfceffkhgaaGreatDoor
open Go.Sh
open Tryz renaming prog → π
section
variable (Z:PZ) {o w:World} {R As:List HProp}
end
end Go.Proofs.YtbdfhfceffkhgaaGreatDoor


/- TxnBack: the plain law and the walk. -/
set_option linter.unusedVariables false
set_option linter.unusedSimpArgs false
namespace Go.Proofs.YtbdfhfceffkhgaaGreatDoor
open Go.Sh
open Tryz renaming prog → π
theorem map_st {α:Type} {k:Rq→α} (hk:∀x y:Rq,x.st=y.st→k x=k y):∀(l m:List Rq),l.map Rq.st=m.map Rq.st→l.map k=m.map k
 | [],[],_=>rfl
 | [],_::_,h=>by simp at h
 | _::_,[],h=>by simp at h
 | x::l,y::m,h=>by
  simp only [List.map_cons,List.cons.injEq] at h
  rw [List.map_cons,List.map_cons,hk _ _ h.1,map_st hk l m h.2]
theorem st_f {x y:Rq} (h:x.st=y.st):x.f=y.f:=((st_iff _ _).1 h).1
theorem st_ops {x y:Rq} (h:x.st=y.st):x.ops.map Rq.st=y.ops.map Rq.st:=((st_iff _ _).1 h).2
theorem st_len {x y:Rq} (h:x.st=y.st):x.ops.length=y.ops.length:=by have:=congrArg List.length (st_ops h); simpa using this
theorem isOp_st (x y:Rq) (h:x.st=y.st):isOp x=isOp y:=by unfold isOp; rw [st_f h,st_len h]
theorem all_map {α:Type} (p:α→Bool) (l:List α):l.all p=(l.map p).all id:=by rw [List.all_map]; rfl
theorem chkQ_st {x y:Rq} (h:x.st=y.st):chkQ x=chkQ y:=by
 unfold chkQ
 rw [st_f h,st_len h,all_map isOp,all_map isOp,map_st isOp_st _ _ (st_ops h)]
theorem chkT_st {x y:Tx} (h:x.hd=y.hd) (hs:x.q.st=y.q.st):chkT x=chkT y:=by
 have h1:x.e=y.e:=congrArg Hd.e h
 have h2:x.n=y.n:=congrArg Hd.n h
 have h3:x.sv=y.sv:=congrArg Hd.sv h
 have h4:x.nu=y.nu:=congrArg Hd.nu h
 unfold chkT
 rw [h1,h2,h3,h4,st_f hs,chkQ_st hs]
theorem keyQ_st {x y:Rq} (h:x.st=y.st):keyQ x=keyQ y:=by
 unfold keyQ
 rw [st_f h,map_st (fun a b=>st_f) _ _ (st_ops h)]
theorem txB_st {x y:Tx} (h:x.hd=y.hd) (hs:x.q.st=y.q.st):txB x=txB y:=by
 rw [txB_pre,txB_pre,h,keyQ_bytes _ _ (keyQ_st hs)]
theorem st_of_key {x y:Rq} (hx:okR false x) (hy:okR false y) (h:keyQ x=keyQ y):x.st=y.st:=by
 have h1:x.f=y.f:=congrArg Prod.fst h
 have h2:x.ops.map Rq.f=y.ops.map Rq.f:=congrArg Prod.snd h
 have hox:∀q,okR false q→∀z ∈ q.ops,z.ops=[]:=by
  intro q hq z hz
  have h3:=hq.2
  by_cases hb:bi false q.f 8=true
  ·rw [if_pos hb] at h3; exact (h3.2 z hz).2
  ·rw [if_neg hb] at h3; rw [h3] at hz; cases hz
 have key:∀(l m:List Rq),(∀z ∈ l,z.ops=[])→(∀z ∈ m,z.ops=[])→l.map Rq.f=m.map Rq.f→l.map Rq.st=m.map Rq.st:=by
  intro l
  induction l with
  | nil=>intro m _ _ h; cases m with
   | nil=>rfl
   | cons _ _=>simp at h
  | cons z l ih=>
   intro m hl hm h
   cases m with
   | nil=>simp at h
   | cons z' m=>
    simp only [List.map_cons,List.cons.injEq] at h
    rw [List.map_cons,List.map_cons,ih m (fun z hz=>hl z (List.mem_cons_of_mem _ hz)) (fun z hz=>hm z (List.mem_cons_of_mem _ hz)) h.2]
    congr 1
    rw [st_iff,hl z List.mem_cons_self,hm z' List.mem_cons_self]
    exact ⟨h.1,rfl⟩
 exact (st_iff _ _).2 ⟨h1,key _ _ (hox x hx) (hox y hy) h2⟩
theorem within_spec {f:Fl} {m:Nat} (h:within f m=true) :
  (bt f 0=false→f.path=[])∧(bt f 1=false→f.data=[])∧(bt f 2=false→f.acl=[])∧(bt f 3=false→f.ver=0)∧(bt f 4=false→f.eph=false∧f.seq=false)∧(bt f 5=false→f.ses=0)∧(bt f 6=false→f.tmo=0)∧(bt f 7=false→f.who=[])∧(bt f 8=false→m=0):=by
 simp only [within,Bool.and_eq_true,Bool.not_eq_true'] at h
 obtain ⟨h1,h2,_,_,_⟩:=h
 simp only [wg1,wg2,Bool.or_eq_false_iff,Bool.and_eq_false_iff,Bool.not_eq_false',decide_eq_true_eq,decide_eq_false_iff_not] at h1 h2
 obtain ⟨a0,a1,a2,a3⟩:=h1
 obtain ⟨a4,a5,a6,a7,a8⟩:=h2
 have z:∀{α:Type} {l:List α},¬ 0 < l.length→l=[]:=fun {α} {l} h=>List.eq_nil_of_length_eq_zero (by omega)
 refine ⟨fun h=>?_,fun h=>?_,fun h=>?_,fun h=>?_,fun h=>?_,fun h=>?_,fun h=>?_,fun h=>?_,fun h=>?_⟩
 ·exact a0.resolve_left (by rw [h]; simp)
 ·exact z (a1.resolve_left (by rw [h]; simp))
 ·exact z (a2.resolve_left (by rw [h]; simp))
 ·exact a3.resolve_left (by rw [h]; simp)
 ·exact a4.resolve_left (by rw [h]; simp)
 ·exact a5.resolve_left (by rw [h]; simp)
 ·exact a6.resolve_left (by rw [h]; simp)
 ·exact z (a7.resolve_left (by rw [h]; simp))
 ·have:=a8.resolve_left (by rw [h]; simp)
  omega
theorem bi_false (f:Fl) (i:Nat):bi false f i=bt f i:=rfl
theorem bi_true (f:Fl) (hk:0≤f.kd∧f.kd≤12) (i:Nat) (hi:i≤8):bi true f i=(bt f i && !(i == 5 || i == 7)):=by
 obtain ⟨k,hk'⟩:∃k:Nat,f.kd=k:=⟨f.kd.toNat,by omega⟩
 unfold bi bt
 rw [hk',Int.toNat_natCast]
 have key:∀k < 13,∀i < 9,(nmF true k).testBit i=((nm k).testBit i && !(i == 5 || i == 7)):=by decide +kernel
 exact key k (by omega) i (by omega)
theorem okL_of {n:Int} {l:List UInt8} (h:(l.length:Int)≤n) (hn:n≤2147483647):okL n l:=⟨h,by omega⟩
theorem okId_of {x:Idd} (h:idMay x=true):okId x:=by
 simp only [idMay,Bool.and_eq_true,decide_eq_true_eq] at h
 exact ⟨okL_of (by omega) (by omega),okL_of (by omega) (by omega)⟩
theorem okTo_of {inner:Bool} {f:Fl} {m:Nat} (hk:1≤f.kd∧f.kd≤12∧(inner=true→f.kd≤5)) (hw:within f m=true) (hf:WfF f) (h5:inner=true→f.ses=0∧f.who=[]):okTo inner f 8:=by
 obtain ⟨b,_⟩:=bnd_of hw
 obtain ⟨s0,s1,s2,s3,s4,s5,s6,s7,_⟩:=within_spec hw
 have hbit:∀i,i≤8→bi inner f i=false→bt f i=false∨(inner=true∧(i=5∨i=7)):=by
  intro i hi h
  cases inner with
  | false=>exact .inl h
  | true=>
   rw [bi_true f (by omega) i hi] at h
   by_cases e:i=5∨i=7
   ·exact .inr ⟨rfl,e⟩
   ·left
    have:(i == 5 || i == 7)=false:=by
     simp only [Bool.or_eq_false_iff,beq_eq_false_iff_ne]
     omega
    rw [this] at h
    simpa using h
 refine ⟨⟨⟨⟨⟨⟨⟨⟨hk,?_⟩,?_⟩,?_⟩,?_⟩,?_⟩,?_⟩,?_⟩,?_⟩
 ·simp only [okc]
  split
  ·exact okL_of (by have:=b.path; omega) (by omega)
  ·rename_i h
   rcases hbit 0 (by omega) (by simpa using h) with h | ⟨_,h⟩
   ·exact s0 h
   ·omega
 ·simp only [okc]
  split
  ·exact okL_of (by have:=b.data; omega) (by omega)
  ·rename_i h
   rcases hbit 1 (by omega) (by simpa using h) with h | ⟨_,h⟩
   ·exact s1 h
   ·omega
 ·simp only [okc]
  split
  ·exact ⟨b.acl,fun x hx=>⟨(hf.acl.2 x hx).1,okId_of (List.all_eq_true.1 b.ea x hx)⟩⟩
  ·rename_i h
   rcases hbit 2 (by omega) (by simpa using h) with h | ⟨_,h⟩
   ·exact s2 h
   ·omega
 ·simp only [okc]
  split
  ·exact hf.ver
  ·rename_i h
   rcases hbit 3 (by omega) (by simpa using h) with h | ⟨_,h⟩
   ·exact s3 h
   ·omega
 ·simp only [okc]
  split
  ·trivial
  ·rename_i h
   rcases hbit 4 (by omega) (by simpa using h) with h | ⟨_,h⟩
   ·exact s4 h
   ·omega
 ·simp only [okc]
  split
  ·exact hf.ses
  ·rename_i h
   rcases hbit 5 (by omega) (by simpa using h) with h | ⟨hi,h⟩
   ·exact s5 h
   ·exact (h5 hi).1
 ·simp only [okc]
  split
  ·exact hf.tmo
  ·rename_i h
   rcases hbit 6 (by omega) (by simpa using h) with h | ⟨_,h⟩
   ·exact s6 h
   ·omega
 ·simp only [okc]
  split
  ·exact ⟨b.who,fun x hx=>okId_of (List.all_eq_true.1 b.ew x hx)⟩
  ·rename_i h
   rcases hbit 7 (by omega) (by simpa using h) with h | ⟨hi,h⟩
   ·exact s7 h
   ·exact (h5 hi).2
theorem bt8 {f:Fl} (h:1≤f.kd∧f.kd≤5):bt f 8=false:=by
 have:=bi8 f ⟨by omega,h.2⟩
 rw [bi_true f (by omega) 8 (by omega)] at this
 simpa using this
theorem okI_of {x:Rq} (h:isOp x=true) (hw:WfQ x):okTo true x.f 8∧x.ops=[]:=by
 obtain ⟨h1,h2,h3,h4⟩:=isOp_spec h
 have h8:=(within_spec h4).2.2.2.2.2.2.2.2 (bt8 h1)
 exact ⟨okTo_of ⟨h1.1,by omega,fun _=>h1.2⟩ h4 hw.flat fun _=>⟨h2,List.eq_nil_of_length_eq_zero h3⟩,List.eq_nil_of_length_eq_zero h8⟩
theorem okR_chk {q:Rq} (h:chkQ q=true) (hw:WfQ q):okR false q:=by
 obtain ⟨h1,h2,h3⟩:=chkQ_spec h
 obtain ⟨_,hm⟩:=bnd_of h2
 refine ⟨okTo_of ⟨h1.1,h1.2,(fun h=>by cases h)⟩ h2 hw.flat (fun h=>by cases h),?_⟩
 split
 ·exact ⟨hm,fun x hx=>okI_of (List.all_eq_true.1 h3 x hx) (hw.all x hx)⟩
 ·rename_i h
  have h8:bt q.f 8=false:=by rw [← bi_false]; simpa using h
  exact List.eq_nil_of_length_eq_zero ((within_spec h2).2.2.2.2.2.2.2.2 h8)
theorem okT_chk {t:Tx} (h:chkT t=true) (hh:wfH t.hd) (hw:WfQ t.q):okT t:=by
 refine ⟨hh,okR_chk ?_ hw⟩
 unfold chkT at h
 simp only [Bool.and_eq_true] at h
 exact h.2.2.2
theorem multi {f:Fl} (hk:1≤f.kd∧f.kd≤12) (h:bt f 8=true):bt f 0=false∧bt f 1=false∧bt f 2=false∧bt f 3=false∧bt f 4=false∧bt f 6=false:=by
 obtain ⟨k,hk'⟩:∃k:Nat,f.kd=k:=⟨f.kd.toNat,by omega⟩
 unfold bt at *
 have hkn:f.kd.toNat=k:=by omega
 rw [hkn] at h ⊢
 have key:∀k < 13,(nm k).testBit 8=true→(nm k).testBit 0=false∧(nm k).testBit 1=false∧(nm k).testBit 2=false∧(nm k).testBit 3=false∧(nm k).testBit 4=false∧(nm k).testBit 6=false:=by decide +kernel
 exact key k (by omega) h
theorem opB_len' {x:Rq} (h:isOp x=true):(opB x).length≤407:=by
 obtain ⟨h1,h2,h3,h4⟩:=isOp_spec h
 obtain ⟨b,_⟩:=bnd_of h4
 have b5:bi true x.f 5=false:=by rw [bi_true _ (by omega) 5 (by omega)]; simp
 have b7:bi true x.f 7=false:=by rw [bi_true _ (by omega) 7 (by omega)]; simp
 have b6:bi true x.f 6=false:=by
  obtain ⟨k,hk⟩:∃k:Nat,x.f.kd=k:=⟨x.f.kd.toNat,by omega⟩
  unfold bi
  rw [hk,Int.toNat_natCast]
  have key:∀k < 6,(nmF true k).testBit 6=false:=by decide +kernel
  exact key k (by omega)
 have e0:(p0 true x.f).length≤68:=ite_len (by rw [encL_len]; have:=b.path; omega)
 have e1:(p1 true x.f).length≤100:=ite_len (by rw [encL_len]; have:=b.data; omega)
 have e2:(p2 true x.f).length≤232:=ite_len (by
  have:=lsB_len enB 57 x.f.acl fun y hy=>enB_len y (List.all_eq_true.1 b.ea _ hy)
  have:=b.acl
  omega)
 have e3:(p3 true x.f).length≤4:=ite_len (by rw [enc_length]; omega)
 have e4:(p4 true x.f).length≤2:=ite_len (by simp [encB])
 have e5:p5 true x.f=[]:=by rw [p5,b5]; rfl
 have e6:p6 true x.f=[]:=by rw [p6,b6]; rfl
 have e7:p7 true x.f=[]:=by rw [p7,b7]; rfl
 simp only [opB,flB,List.length_append,enc_length,e5,e6,e7,List.length_nil]
 omega
theorem txB_len {t:Tx} (h:chkT t=true):(txB t).length≤4096:=by
 have hq:chkQ t.q=true:=by
  unfold chkT at h
  simp only [Bool.and_eq_true] at h
  exact h.2.2.2
 obtain ⟨h1,h2,h3⟩:=chkQ_spec hq
 obtain ⟨b,hm⟩:=bnd_of h2
 have hr:(reqB t.q).length≤3600:=by
  unfold reqB
  cases h8:bi false t.q.f 8 with
  | false=>
   have:=flB_len false b
   simp only [Bool.false_eq_true,if_false,List.append_nil]
   omega
  | true=>
   obtain ⟨z0,z1,z2,z3,z4,z6⟩:=multi h1 h8
   have e0:p0 false t.q.f=[]:=by rw [p0,bi_false,z0]; rfl
   have e1:p1 false t.q.f=[]:=by rw [p1,bi_false,z1]; rfl
   have e2:p2 false t.q.f=[]:=by rw [p2,bi_false,z2]; rfl
   have e3:p3 false t.q.f=[]:=by rw [p3,bi_false,z3]; rfl
   have e4:p4 false t.q.f=[]:=by rw [p4,bi_false,z4]; rfl
   have e6:p6 false t.q.f=[]:=by rw [p6,bi_false,z6]; rfl
   have e5:(p5 false t.q.f).length≤8:=ite_len (by rw [enc_length]; omega)
   have e7:(p7 false t.q.f).length≤240:=ite_len (who_len b)
   have e8:=lsB_len opB 407 t.q.ops fun x hx=>opB_len' (List.all_eq_true.1 h3 _ hx)
   simp only [if_true,List.length_append,flB,e0,e1,e2,e3,e4,e6,enc_length,List.length_nil,opsB]
   omega
 simp only [txB,List.length_append,enc_length]
 omega
section
variable (Z:PZ) {o w:World} {R As:List HProp}
end

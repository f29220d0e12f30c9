
/- Frames: the loops over them. -/
import Derived.Test.YtbdfhfceffkhgaaGreatDoorL4
import Derived.Test.YtbdfhfceffkhgaaGreatDoorShLoop
import Derived.Test.YtbdfhfceffkhgaaGreatDoorS0y
import Derived.Test.YtbdfhfceffkhgaaGreatDoorT27
set_option linter.unusedVariables false
set_option linter.unusedSimpArgs false
namespace Go.Proofs.YtbdfhfceffkhgaaGreatDoor
open Go.Sh
open Tryz renaming prog → π
theorem rd_from {w:World} {a:Option Addr} {n c:Nat} {l:List UInt8} (h:Rd w 1 (.slice a n c) n (cb l)) (hcap:n≤c) (k:Nat) (hk:k≤n):Rd w 1 (.slice (if c=k then a else a.map (·.add (k * 1))) (n - k) (c - k)) (n - k) (cb (l.drop k)):=by
 have hn:=rd_len h
 split
 ·rename_i hck
  have e:n - k=0:=by omega
  rw [e,List.drop_eq_nil_of_le (by omega)]
  refine ⟨rfl,by simp [maxLen],?_⟩
  cases a with
  | none=>exact .inl ⟨_,rfl,rfl⟩
  | some a=>exact .inr ⟨_,_,rfl,fun j u hu=>by simp [cb] at hu⟩
 ·have:=rd_mid h (i:=k) (j:=n) hk (Nat.le_refl _) (c - k)
  rw [List.take_of_length_le (by rw [List.length_drop]; omega)] at this
  exact this
theorem bods_ok:∀(k:Nat) (l:List UInt8),okB (bods k l)
 | 0,_=>fun b hb=>by cases hb
 | k+1,l=>fun b hb=>by
  rw [bods] at hb
  cases hf:frst l with
  | none=>rw [hf] at hb; cases hb
  | some c=>
   rw [hf] at hb
   rcases List.mem_cons.1 hb with rfl | hb
   ·have:=frst_len hf; exact ⟨this.2.1,this.2.2.1⟩
   ·exact bods_ok k _ b hb
theorem bodsOf_ok (l:List UInt8):okB (bodsOf l):=bods_ok _ l
def pos (bs:List (List UInt8)) (i:Nat):Nat:=(frms (bs.take i)).length
theorem pos_succ {bs:List (List UInt8)} {i:Nat} (hi:i < bs.length):pos bs (i+1)=pos bs i+(bs[i].length+9):=by
 unfold pos
 rw [List.take_succ_eq_append_getElem hi,frms_append,List.length_append,frms_cons]
 simp [frms,frm_len]
structure AtB (l:List UInt8) (i:Nat):Prop where
 le:i≤(bodsOf l).length
 pl:pos (bodsOf l) i≤l.length
 rest:bodsOf (l.drop (pos (bodsOf l) i))=(bodsOf l).drop i
theorem AtB.zero (l:List UInt8):AtB l 0:=⟨Nat.zero_le _,by simp [pos,frms],by simp [pos,frms]⟩
theorem AtB.stop {l:List UInt8} {i:Nat} (h:AtB l i) (hf:frst (l.drop (pos (bodsOf l) i))=none):i=(bodsOf l).length:=by
 have h1:=h.rest
 rw [bodsOf_none hf] at h1
 have:=congrArg List.length h1
 have:=h.le
 simp at *
 omega
theorem AtB.next {l b:List UInt8} {i:Nat} (h:AtB l i) (hf:frst (l.drop (pos (bodsOf l) i))=some b):∃hi:i < (bodsOf l).length,(bodsOf l)[i]=b∧AtB l (i+1)∧pos (bodsOf l) (i+1)=pos (bodsOf l) i+(b.length+9):=by
 have h1:=h.rest
 rw [bodsOf_some hf] at h1
 have hi:i < (bodsOf l).length:=by
  have:=congrArg List.length h1
  simp at this; omega
 rw [List.drop_eq_getElem_cons hi] at h1
 obtain ⟨e1,e2⟩:=List.cons.inj h1
 have hp:=pos_succ hi
 rw [← e1] at hp
 have hb:=frst_len hf
 have hl:=List.length_drop (i:=pos (bodsOf l) i) (l:=l)
 have:=h.pl
 refine ⟨hi,e1.symm,⟨hi,by omega,?_⟩,hp⟩
 rw [hp,← e2,List.drop_drop]
section
variable (Z:PZ) {o w:World} {R As:List HProp}
theorem frInner {g L n:Nat} {x:Value} {l:List UInt8} (Pi:Nat→List HProp) (Dn:List HProp) (hcap:∀a n c,x=.slice a n c→n≤c) (hl:l.length≤140737488355328)
  (hc:∀i,Ent o (Pi i) fun w=>w.cell? ⟨g,0,none⟩=some x∧Rd w 1 x n (cb l))
  (hy:∀i (hi:i < (bodsOf l).length) v w,(∀w,Rd w 1 x n (cb l)→Rd w 1 v (bodsOf l)[i].length (cb (bodsOf l)[i]))→St o w (Pi i)→yieldV π L [.int .i64 (pos (bodsOf l) (i+1)),v] w fun r w'=>(r=.bool true∧St o w' (Pi (i+1)))∨(r=.bool false∧St o w' Dn))
  (h:St o w (Pi 0)):CallV π Z 146 #[.func (.yield L) #[] #[],.pointer (some ⟨g,0,none⟩)] w fun _ w'=>St o w' (Pi (bodsOf l).length)∨St o w' Dn:=by
 have hn:=rd_len (hc 0 w h).2
 obtain ⟨a,c,rfl⟩:=(hc 0 w h).2.form
 subst hn
 have hac:=hcap _ _ _ rfl
 refine f146.calls ?_
 unfold f146.sh
 refine r_load one43 (hc 0 w h).1 ?_
 refine (frFirst Z (l:=l) hcap (fun w hw=>(hc 0 w hw).2) hl h).mono fun r w1 hF=>?_
 refine ⟨fun m t4 t5 w=>∃i y,m+i=(bodsOf l).length∧AtB l i∧(∀w,Rd w 1 (.slice a l.length c) l.length (cb l)→Rd w 1 y (l.drop (pos (bodsOf l) i)).length (cb (l.drop (pos (bodsOf l) i))))∧t4=.int .i64 (pos (bodsOf l) i)∧FirstP y (l.drop (pos (bodsOf l) i)) o (Pi i) t5 w,⟨(bodsOf l).length,0,.slice a l.length c,rfl,AtB.zero l,fun w h=>by simpa [pos,frms] using h,rfl,by simpa [pos,frms] using hF⟩,?_⟩
 rintro m _ t5 w2 ⟨i,y,hm,hat,hyr,rfl,hS,hF⟩ _
 rcases hF with ⟨hf,rfl⟩ | ⟨b,a',c',hf,rfl,hrd⟩
 ·(try simp only [ln_43_3,o_add,neqs_43,Option.isNone_none,Bool.not_true,condF])
  rw [hat.stop hf] at hS
  exact .inl hS
 obtain ⟨hi,hb,hat',hp⟩:=hat.next hf
 have hbl:=frst_len hf
 have hll:=List.length_drop (i:=pos (bodsOf l) i) (l:=l)
 have hpl:=hat.pl
 (try simp only [ln_43_3,o_add,neqs_43,Option.isNone_some,Bool.not_false,condT])
 rw [wr_i64 (x:=8+(b.length:Int)) (by omega) (by omega),wr_i64 (x:=8+(b.length:Int)+1) (by omega) (by omega),wr_i64 (x:=(pos (bodsOf l) i:Int)+(8+(b.length:Int)+1)) (by omega) (by omega)]
 rw [show (pos (bodsOf l) i:Int)+(8+(b.length:Int)+1)=((pos (bodsOf l) (i+1):Nat):Int) by omega]
 subst hb
 refine runY.mono (hy i hi _ _ (fun w hw=>hrd w (hyr w hw)) hS) fun r w3 hr=>?_
 rcases hr with ⟨rfl,hS⟩ | ⟨rfl,hS⟩
 ·(try simp only [o_not,Bool.not_true,condF])
  refine r_load one43 (hc _ _ hS).1 ?_
  refine r1 (run_slice_from el43 a l.length c .i64 _ (by omega) (by have:=hat'.pl; omega) _) ?_
  rw [Int.toNat_natCast,Nat.mul_one]
  refine (frFirst Z (n:=l.length - pos (bodsOf l) (i+1)) (l:=l.drop (pos (bodsOf l) (i+1))) (fun a n c e=>?_) (fun w hw=>?_) (by rw [List.length_drop]; omega) hS).mono fun r w4 hF=>?_
  ·injection e with _ e1 e2; omega
  ·have:=rd_from (hc _ w hw).2 hac (pos (bodsOf l) (i+1)) hat'.pl
   rw [Nat.mul_one] at this
   exact this
  ·refine ⟨m - 1,by omega,i+1,_,by omega,hat',fun w hw=>?_,rfl,hF⟩
   have:=rd_from hw hac (pos (bodsOf l) (i+1)) hat'.pl
   rw [Nat.mul_one] at this
   rw [List.length_drop]
   exact this
 ·(try simp only [o_not,Bool.not_false,condT])
  exact .inr hS
theorem frInnerF {x:Value} (h:St o w R):CallV π Z 95 #[x] w fun r w'=>∃g,r=.func (.func 146) #[] #[.pointer (some ⟨g,0,none⟩)]∧St o w' (blk g 43 x.cells.toList::R):=by
 refine f95.calls ?_
 unfold f95.sh
 refine r_box _ _ h fun g w1 hS=>?_
 (try simp only [o_fn])
 exact ⟨g,by first | rfl | trivial,hS⟩
theorem alloc_size (w:World) (x:Obj):(w.alloc x).heap.size=w.heap.size+1:=Array.size_push ..
theorem frAll1 {g L n:Nat} {x:Value} {l:List UInt8} (Pi:Nat→List HProp) (Dn:List HProp) (hcap:∀a n c,x=.slice a n c→n≤c) (hl:l.length≤140737488355328)
  (hc:∀i,Ent o (Pi i) fun w=>w.cell? ⟨g,0,none⟩=some x∧Rd w 1 x n (cb l))
  (hy:∀(F:List HProp) i (hi:i < (bodsOf l).length) v w,St o w (own 5 1 v (bodsOf l)[i].length (cb (bodsOf l)[i])::(F++Pi i))→yieldV π L [.int .i64 (pos (bodsOf l) (i+1)),v] w fun r w'=>(r=.bool true∧St o w' (F++Pi (i+1)))∨(r=.bool false∧St o w' (F++Dn)))
  (h:St o w (Pi 0)):CallV π Z 94 #[.func (.yield L) #[] #[],.pointer (some ⟨g,0,none⟩)] w fun _ w'=>St o w' (Pi (bodsOf l).length)∨St o w' Dn:=by
 have hxc:x.cells.toList=[x]:=by
  obtain ⟨a,c,rfl⟩:=(hc 0 w h).2.form
  rfl
 refine f94.calls ?_
 unfold f94.sh
 refine r_box _ _ h fun g1 w1 hS=>?_
 have hS:St o w1 (blk g1 141 [.func (.yield L) #[] #[]]::Pi 0):=hS
 refine r_load one43 (hc 0 _ hS.drop).1 ?_
 refine (frInnerF noZ hS).mono fun r w2 ⟨g3,hr,hS⟩=>?_
 subst hr
 rw [hxc] at hS
 refine ⟨146,[],[.pointer (some ⟨g3,0,none⟩)],rfl,en146,fun rc hround=>?_⟩
 have hS:=(hS.alloc_obj (.deferred (some []))).alloc_obj (.loop (rc .ready none))
 rw [alloc_size] at hS
 refine (frInner noZ (L:=w2.heap.size+1) (g:=g3) (n:=n) (x:=x) (l:=l) (fun i=>obP (w2.heap.size+1) (.loop (rc .ready none))::obP w2.heap.size (.deferred (some []))::blk g3 43 [x]::blk g1 141 [.func (.yield L) #[] #[]]::Pi i)
  (obP (w2.heap.size+1) (.loop (rc .done (some .ret)))::obP w2.heap.size (.deferred (some []))::blk g3 43 [x]::blk g1 141 [.func (.yield L) #[] #[]]::Dn) hcap hl (fun i w hw=>⟨hw.at m2 0 rfl,(hc i _ hw.drop.drop.drop.drop).2⟩) (fun i hi v w hrd hw=>?_) hS).mono fun r w3 hr=>?_
 ·refine hround _ _ _ _ (hw.obj m0) ⟨hw.obj m0,?_⟩
  have hw:=hw.put_obj (.loop (rc .busy none))
  refine ⟨fun w4 hd=>?_⟩
  have hw:=hw.drew hd
  refine rr_load one141 (hw.at m3 0 rfl) ?_
  have hbl:(bodsOf l)[i].length≤140737488355328:=by
   have:=(bodsOf_ok l _ (List.getElem_mem hi)).2
   omega
  refine (frOwn noZ hw (fun w hw=>hrd w (hc i w hw.drop.drop.drop.drop).2) hbl).mono fun r w5 hw=>?_
  refine rs_load one141 (hw.at m4 0 rfl) ?_
  refine runY.mono (hy [obP (w2.heap.size+1) (.loop (rc .busy none)),obP w2.heap.size (.deferred (some [])),blk g3 43 [x],blk g1 141 [.func (.yield L) #[] #[]]] i hi r w5 hw) fun r w6 hr=>?_
  rcases hr with ⟨rfl,hw⟩ | ⟨rfl,hw⟩
  ·(try simp only [o_notp,Bool.not_true,condF])
   exact ⟨hw.obj m0,.inl ⟨by first | rfl | trivial,hw.put_obj _⟩⟩
  ·(try simp only [o_notp,Bool.not_false,condT])
   exact ⟨hw.obj m0,.inr ⟨by first | rfl | trivial,hw.put_obj _⟩⟩
 ·rcases hr with hS | hS
  ·refine .inl ⟨hS.obj m0,?_⟩
   have hS:=(hS.put_obj (.loop (rc .exhausted none))).swap
   exact ⟨hS.obj m0,.inl (hS.put_obj (.deferred none)).drop.drop.drop.drop⟩
  ·refine .inr (.inl ⟨hS.obj m0,?_⟩)
   have hS:=(hS.put_obj (.loop (rc .exhausted (some .ret)))).swap
   exact ⟨hS.obj m0,.inr (hS.put_obj (.deferred none)).drop.drop.drop.drop⟩
theorem frAll {x:Value} {n:Nat} {l:List UInt8} (hx:Ent o R fun w=>Rd w 1 x n (cb l)) (hl:l.length≤140737488355328) (h:St o w R) :
  CallV π Z 73 #[x] w fun r w'=>∃g v,r=.func (.func 94) #[] #[.pointer (some ⟨g,0,none⟩)]∧St o w' (blk g 43 [v]::own 5 1 v l.length (cb l)::R):=by
 have h0:=hx w h
 obtain ⟨a,c,rfl⟩:=h0.form
 refine f73.calls ?_
 unfold f73.sh
 refine r_box _ _ h fun g w1 hS=>?_
 have hS:St o w1 (blk g 43 [.slice a n c]::R):=hS
 refine r_load one43 (hS.at m0 0 rfl) ?_
 refine (frOwn Z hS (fun w hw=>hx w hw.drop) hl).mono fun r w2 hS=>?_
 have hone:r.oneCell'=true:=by obtain ⟨_,_,e⟩:=hS.own_form; rw [e]; rfl
 refine r_store hS.swap one43 (by simp) hone fun w3 hS=>?_
 (try simp only [o_fn])
 exact ⟨g,r,by first | rfl | trivial,hS⟩
end
end Go.Proofs.YtbdfhfceffkhgaaGreatDoor


/- A log: what may stand in it; the frames of transactions. -/
set_option linter.unusedVariables false
set_option linter.unusedSimpArgs false
namespace Go.Proofs.YtbdfhfceffkhgaaGreatDoor
open Go.Sh
open Tryz renaming prog → π
def lchk (t:Tx) (e n:Int):Int:=if chkT t=false∨(t.e=0∧t.n=0) then 40 else if 0≤cmpZ e n t.e t.n then 100 else 0
theorem lchk_ok {t:Tx} {e n:Int}:lchk t e n=0 ↔ chkT t=true∧¬ (t.e=0∧t.n=0)∧cmpZ e n t.e t.n < 0:=by
 unfold lchk
 cases hc:chkT t with
 | false=>simp
 | true=>
  by_cases hz:t.e=0∧t.n=0
  ·simp [hz]
  ·rw [if_neg (by simp [hz])]
   split
   ·simp; omega
   ·simp [hz]; omega
def frT (ts:List Tx):List UInt8:=frms (ts.map txB)
theorem frT_append (a b:List Tx):frT (a++b)=frT a++frT b:=by unfold frT; rw [List.map_append,frms_append]
theorem txB_pos (t:Tx):1≤(txB t).length:=by unfold txB; simp [enc_length]; omega
theorem frT_len {ts:List Tx} (h:∀t ∈ ts,chkT t=true):(frT ts).length≤ts.length * 4105:=by
 induction ts with
 | nil=>simp [frT,frms]
 | cons t ts ih=>
  have e:frT (t::ts)=frm (txB t)++frT ts:=frms_cons _ _
  rw [e,List.length_append,frm_len,List.length_cons]
  have:=ih fun x hx=>h x (List.mem_cons_of_mem _ hx)
  have:=txB_len (h t List.mem_cons_self)
  omega
section
variable (Z:PZ) {o w:World} {R As:List HProp}
theorem lCheck (t:Tx) (e n:Int) (hN:Names o) (ho:old o ∈ R) (hx:Ent o R fun w=>RdQ w t.q) (h:St o w R):CallV π Z 36 #[.agg t.cells.toArray,.agg (zx e n).toArray] w fun r w'=>r=.int .i64 (lchk t e n)∧St o w' R:=by
 refine f36.calls ?_
 unfold f36.sh
 have hq:=txC_ones (hx w h).ones
 refine r_box _ _ h fun g w1 hS=>?_
 have hS:St o w1 (blk g 50 t.cells::R):=hS
 refine r_box _ _ hS fun g2 w2 hS=>?_
 have hS:St o w2 (blk g2 39 (zx e n)::blk g 50 t.cells::R):=hS
 refine r_loadN ag50 (xs:=t.cells) rfl (hS.cells_at m1 0 (whole_at _)) ?_
 refine (chkTx Z t hN (List.mem_cons_of_mem _ (List.mem_cons_of_mem _ ho)) (fun w hw=>hx w hw.drop.drop) hS).mono fun r w3 ⟨hr,hS⟩=>?_
 subst hr
 cases hc:chkT t with
 | false=>
  have e:lchk t e n=40:=if_pos (.inl hc)
  rw [e,if_neg Bool.false_ne_true]
  refine rk (v:=.bool true) (by kernel_rfl) ?_
  (try simp only [fa_50_0,Nat.add_zero,o_pickT,condT,guardW_tf])
  exact ⟨by first | rfl | trivial,hS.drop.drop⟩
 | true=>
 rw [if_pos rfl]
 refine rk (v:=.bool false) (by kernel_rfl) ?_
 (try simp only [fa_50_0,Nat.add_zero,o_pickF,guardW_ff])
 refine r_loadN ag39 (xs:=zx t.e t.n) rfl (hS.cells_at m1 0 (zx_at _)) ?_
 skip
 refine r_build (cells:=(zx 0 0).toArray) (by kernel_rfl) ?_
 refine r1 (eqZx t.e t.n 0 0 _) ?_
 by_cases hz:t.e=0∧t.n=0
 ·have e:lchk t e n=40:=if_pos (.inr hz)
  have ez:((t.e == 0) && (t.n == 0))=true:=by rw [hz.1,hz.2]; rfl
  rw [e,ez]
  (try simp only [condT])
  exact ⟨by first | rfl | trivial,hS.drop.drop⟩
 have ez:((t.e == 0) && (t.n == 0))=false:=by
  rw [Bool.and_eq_false_iff]
  by_cases h1:t.e=0
  ·exact .inr (beq_eq_false_iff_ne.2 fun h2=>hz ⟨h1,h2⟩)
  ·exact .inl (beq_eq_false_iff_ne.2 h1)
 rw [ez]
 (try simp only [condF])
 refine r_loadN ag39 (xs:=zx e n) rfl (hS.cells_at m0 0 (whole_at _)) ?_
 skip
 refine r_loadN ag39 (xs:=zx t.e t.n) rfl (hS.cells_at m1 0 (zx_at _)) ?_
 refine (txnCompare Z hS).mono fun r w4 ⟨hr,hS⟩=>?_
 subst hr
 have e0:lchk t e n=if 0≤cmpZ e n t.e t.n then 100 else 0:=if_neg (by simp [hc,hz])
 rw [e0]
 by_cases hl:0≤cmpZ e n t.e t.n
 ·rw [if_pos hl]
  (try simp only [o_geq,hl,decide_true,condT])
  exact ⟨by first | rfl | trivial,hS.drop.drop⟩
 ·rw [if_neg hl]
  (try simp only [o_geq,hl,decide_false,condF])
  exact ⟨by first | rfl | trivial,hS.drop.drop⟩
theorem lFramed {v:Value} {ts:List Tx} (hN:Names o) (ho:old o ∈ R) (hc:∀t ∈ ts,chkT t=true) (hn:ts.length≤1000) (hx:Ent o R fun w=>RdT w v ts) (h:St o w R):CallV π Z 66 #[v] w fun r w'=>St o w' (own 5 1 r (frT ts).length (cb (frT ts))::R):=by
 obtain ⟨a,c,rfl⟩:=(hx w h).1.form
 refine f66.calls ?_
 unfold f66.sh
 (try simp only [ln_22_3])
 refine ⟨fun m x y w'=>∃(i:Nat),i≤ts.length∧y=.int .i64 i∧m+i=ts.length∧St o w' (own 5 1 x (frT (ts.take i)).length (cb (frT (ts.take i)))::R),⟨ts.length,0,Nat.zero_le _,rfl,rfl,h.own_nil _ _⟩,?_⟩
 clear h
 rintro m x _ w2 ⟨i,hile,rfl,hi,hS⟩ _
 by_cases hlt:(i:Int) < (ts.length:Int)
 ·have hil:i < ts.length:=by omega
  have hmem:ts[i] ∈ ts:=List.getElem_mem hil
  obtain ⟨b,p,cs,hp,_,hcv,hcl⟩:=(rowR_rd (c:=Tx.cells) (fun x=>rfl) (hx w2 hS.drop).1 rfl).ix el22 .i64 i hil
  subst hcv
  (try simp only [o_add,o_lss,hlt,decide_true,condT])
  refine r1 (hp _) (r_loadN ag50 (xs:=ts[i].cells) rfl (fun j u hu=>by rw [add_addr]; exact hcl j u hu) ?_)
  have hq:=txC_ones ((hx w2 hS.drop).2 _ hmem).ones
  refine r_alloc hS ze50 fun ge w5 hS=>?_
  refine r_storeN hS ag50 (xs:=ts[i].cells) rfl (show 0+16≤16 from Nat.le_refl _) hq fun w6 hS=>?_
  rw [setL_all _ _ (by rfl)] at hS
  refine r_loadN ag50 (xs:=ts[i].cells) rfl (hS.cells_at m0 0 (whole_at _)) ?_
  refine (writeC Z ts[i] hN (List.mem_cons_of_mem _ (List.mem_cons_of_mem _ ho)) (fun w hw=>(hx w hw.drop.drop).2 _ hmem) hS).mono fun r w7 hr=>?_
  rw [if_pos (hc _ hmem)] at hr
  obtain ⟨v1,hr,hS⟩:=hr
  subst hr
  (try simp only [o_ext2_1,o_ext2_0])
  refine (frPut Z (b:=txB ts[i]) (Ent.own m0) (txB_pos _) (by have:=txB_len (hc _ hmem); omega) hS).mono fun r w8 ⟨v2,hr,hS⟩=>?_
  subst hr
  (try simp only [o_ext2_1,o_ext2_0])
  have htake:frT (ts.take (i+1))=frT (ts.take i)++frm (txB ts[i]):=by
   rw [List.take_succ_eq_append_getElem hil,frT_append]
   simp [frT,frms]
  have hlen:=frT_len (ts:=ts.take (i+1)) fun t ht=>hc t (List.mem_of_mem_take ht)
  rw [htake,List.length_append,List.length_take] at hlen
  refine r_append el43 (hS.pick 3) (((hS.pick 3).own_rd m1).src Tryz.underlying43 (cb_ones _)) (by omega) (by simp only [maxLen]; omega) fun v3 w9 hS=>?_
  rw [wr_i64 (x:=(i:Int)+1) (by omega) (by omega)]
  refine ⟨m - 1,by omega,i+1,by omega,rfl,by omega,?_⟩
  rw [htake,List.length_append,cb_append]
  (refine Sh.St.sub ?_ (hS); repeat (first | with_reducible (first | exact sub_refl | exact sub_nil | refine sP0 ?_ | refine sP1 ?_ | refine sP2 ?_ | refine sP3 ?_ | refine sP4 ?_ | refine sP5 ?_ | refine sP6 ?_ | refine sP7 ?_ | refine sP8 ?_ | refine sP9 ?_ | refine sP10 ?_ | refine sP11 ?_ | refine sP12 ?_ | refine sP13 ?_ | refine sP14 ?_ | refine sP15 ?_) | exact sub_refl | refine sP0 ?_ | refine sP1 ?_ | refine sP2 ?_ | refine sP3 ?_ | refine sP4 ?_ | refine sP5 ?_ | refine sP6 ?_ | refine sP7 ?_ | refine sP8 ?_ | refine sP9 ?_ | refine sP10 ?_ | refine sP11 ?_ | refine sP12 ?_ | refine sP13 ?_ | refine sP14 ?_ | refine sP15 ?_ | refine sub_drop ?_))
 ·obtain rfl:i=ts.length:=by omega
  rw [List.take_length] at hS
  (try simp only [o_add,o_lss,hlt,decide_false,condF])
  exact hS
end

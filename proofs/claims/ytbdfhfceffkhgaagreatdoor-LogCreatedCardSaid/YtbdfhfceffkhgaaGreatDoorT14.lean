
/- What put lays of ids, entries and lists of them. -/
import Derived.Test.YtbdfhfceffkhgaaGreatDoorT11
import Derived.Test.YtbdfhfceffkhgaaGreatDoorP6
set_option linter.unusedVariables false
set_option linter.unusedSimpArgs false
namespace Go.Proofs.YtbdfhfceffkhgaaGreatDoor
open Go.Sh
open Tryz renaming prog → π
def idB (x:Idd):List UInt8:=encL x.sch++encL x.nam
def enB (x:En):List UInt8:=enc 1 x.perms++idB x.who
def lsB (n:Nat) (l:List (List UInt8)):List UInt8:=enc 4 (IntKind.i32.wrap n)++l.flatten
theorem encL_len (k:List UInt8):(encL k).length=4+k.length:=by simp [encL,enc_length]
theorem enB_ones (x:En):ones (enC x):=by intro u hu; simp [enC,idC] at hu; rcases hu with rfl | rfl | rfl <;> rfl
theorem idB_ones (x:Idd):ones (idC x):=by intro u hu; simp [idC] at hu; rcases hu with rfl | rfl <;> rfl
section
variable (Z:PZ) {o w:World} {R As:List HProp} {g:Nat} {l:List UInt8}
theorem wText' (x:List UInt8) (hl:l.length+4+x.length≤140737488355328) (h:St o w (Wr g l::R)):CallV π Z 180 #[.pointer (some ⟨g,0,none⟩),.string (str x)] w fun r w'=>St o w' (Wr g (l++encL x)::R):=
 (wText Z (str x) hl h).mono fun r w' hS=>by
  have e:l++enc 4 (IntKind.i32.wrap (str x).size)++(str x).data.toList=l++encL x:=by rw [List.append_assoc]; rfl
  rw [e] at hS
  exact hS
theorem wId (x:Idd) (hx:idMay x=true) (hl:l.length≤1000000) (h:St o w (Wr g l::R)):CallV π Z 187 #[.pointer (some ⟨g,0,none⟩),.agg (idC x).toArray] w fun r w'=>St o w' (Wr g (l++idB x)::R):=by
 simp only [idMay,Bool.and_eq_true,decide_eq_true_eq] at hx
 refine f187.calls ?_
 unfold f187.sh
 refine r_box _ _ h fun gb w1 hS=>?_
 have hS:St o w1 (blk gb 138 (idC x)::Wr g l::R):=hS
 (try simp only [fa_138_1,Nat.zero_add,fa_138_0,Nat.add_zero])
 refine r_load one9 (hS.at m0 0 rfl) ?_
 refine (wText' Z x.sch (by omega) hS.swap).mono fun r w2 hS=>?_
 refine r_load one9 (hS.at m1 1 rfl) ?_
 refine (wText' Z x.nam (by rw [List.length_append,encL_len]; omega) hS).mono fun r w3 hS=>?_
 rw [List.append_assoc] at hS
 exact hS.swap.drop
theorem wEn (x:En) (hx:idMay x.who=true) (hl:l.length≤999999) (h:St o w (Wr g l::R)):CallV π Z 183 #[.pointer (some ⟨g,0,none⟩),.agg (enC x).toArray] w fun r w'=>St o w' (Wr g (l++enB x)::R):=by
 refine f183.calls ?_
 unfold f183.sh
 refine r_box _ _ h fun gb w1 hS=>?_
 have hS:St o w1 (blk gb 140 (enC x)::Wr g l::R):=hS
 (try simp only [fa_140_1,Nat.zero_add,fa_140_0,Nat.add_zero])
 refine r_load one40 (hS.at m0 0 rfl) ?_
 refine (wInt8 Z x.perms (by omega) hS.swap).mono fun r w2 hS=>?_
 refine r_loadN ag138 (xs:=idC x.who) rfl (hS.cells_at m1 1 (fun j v hv=>by rw [Nat.add_comm]; exact hv)) ?_
 refine (wId Z x.who hx (by rw [List.length_append,enc_length]; omega) hS).mono fun r w3 hS=>?_
 rw [List.append_assoc] at hS
 exact hS.swap.drop
theorem idB_len (x:Idd) (h:idMay x=true):(idB x).length≤56:=by
 simp only [idMay,Bool.and_eq_true,decide_eq_true_eq] at h
 rw [idB,List.length_append,encL_len,encL_len]; omega
theorem enB_len (x:En) (h:idMay x.who=true):(enB x).length≤57:=by
 have:=idB_len x.who h
 rw [enB,List.length_append,enc_length]; omega
theorem flat_len {α:Type} (e:α→List UInt8) (n:Nat) (l:List α) (h:∀x ∈ l,(e x).length≤n):(l.map e).flatten.length≤l.length * n:=by
 induction l with
 | nil=>simp
 | cons x l ih=>
  have h1:=ih fun y hy=>h y (List.mem_cons_of_mem _ hy)
  have h2:=h x List.mem_cons_self
  rw [List.map_cons,List.flatten_cons,List.length_append,List.length_cons,Nat.add_mul]; omega
theorem flat_take {α:Type} (e:α→List UInt8) (l:List α) (i:Nat) (hi:i < l.length):((l.take (i+1)).map e).flatten=((l.take i).map e).flatten++e l[i]:=by
 rw [List.take_succ_eq_append_getElem hi,List.map_append,List.flatten_append]; simp
theorem wIds {v:Value} (ls:List Idd) (hn:ls.length≤4) (hall:ls.all idMay=true) (hl:l.length≤900000) (hx:Ent o R fun w=>Rd w 2 v ls.length (ls.map idC).flatten) (h:St o w (Wr g l::R)) :
  CallV π Z 186 #[.pointer (some ⟨g,0,none⟩),v,.func (.func 187) #[] #[]] w fun r w'=>St o w' (Wr g (l++lsB ls.length (ls.map idB))::R):=by
 obtain ⟨a,c,rfl⟩:=(hx w h.drop).form
 refine f186.calls ?_
 unfold f186.sh
 (try simp only [ln_45_3,eqlf_235,condF,cv_3_21,eqlp_181])
 refine (wInt32 Z _ (by omega) h).mono fun r w1 hS=>?_
 skip
 refine ⟨fun m y w'=>∃i:Nat,y=.int .i64 i∧m+i=ls.length∧St o w' (Wr g (l++enc 4 (IntKind.i32.wrap ls.length)++((ls.take i).map idB).flatten)::R),⟨ls.length,0,rfl,rfl,by simpa using hS⟩,?_⟩
 clear hS
 rintro m _ w2 ⟨i,rfl,hi,hS⟩ _
 by_cases hlt:(i:Int) < (ls.length:Int)
 ·have hil:i < ls.length:=by omega
  obtain ⟨b,p,cs,hp,_,hcv,hc⟩:=(rowR_rd (c:=idC) (fun x=>rfl) (hx w2 hS.drop) rfl).ix el45 .i64 i hil
  subst hcv
  have hmay:idMay ls[i]=true:=List.all_eq_true.1 hall _ (List.getElem_mem hil)
  have hfl:=flat_len idB 56 (ls.take i) fun x hx=>idB_len x (List.all_eq_true.1 hall _ (List.mem_of_mem_take hx))
  rw [List.length_take] at hfl
  (try simp only [o_add,o_lss,hlt,decide_true,condT])
  refine r1 (hp _) (r_loadN ag138 (xs:=idC ls[i]) rfl (fun j u hu=>by rw [add_addr]; exact hc j u hu) ?_)
  refine r_alloc hS ze138 fun ge w5 hS=>?_
  refine r_storeN hS ag138 (xs:=idC ls[i]) rfl (show 0+2≤2 from Nat.le_refl _) (idB_ones _) fun w6 hS=>?_
  rw [setL_all _ _ (by rfl)] at hS
  refine r_loadN ag138 (xs:=idC ls[i]) rfl (hS.cells_at m0 0 (whole_at _)) ?_
  refine r_callVal en187 (l1:=[]) (l2:=[_,_]) (l3:=[]) rfl rfl rfl ?_
  refine (wId Z ls[i] hmay (by simp only [List.length_append,enc_length]; omega) hS.swap).mono fun r w7 hS=>?_
  rw [wr_i64 (x:=(i:Int)+1) (by omega) (by omega)]
  refine ⟨m - 1,by omega,i+1,rfl,by omega,?_⟩
  rw [flat_take _ _ _ hil,← List.append_assoc]
  exact hS.swap.drop
 ·obtain rfl:i=ls.length:=by omega
  (try simp only [o_add,o_lss,hlt,decide_false,condF])
  rw [List.take_length,List.append_assoc] at hS
  exact hS
theorem wEns {v:Value} (ls:List En) (hn:ls.length≤4) (hall:ls.all (fun x=>idMay x.who)=true) (hl:l.length≤900000) (hx:Ent o R fun w=>Rd w 3 v ls.length (ls.map enC).flatten) (h:St o w (Wr g l::R)) :
  CallV π Z 182 #[.pointer (some ⟨g,0,none⟩),v,.func (.func 183) #[] #[]] w fun r w'=>St o w' (Wr g (l++lsB ls.length (ls.map enB))::R):=by
 obtain ⟨a,c,rfl⟩:=(hx w h.drop).form
 refine f182.calls ?_
 unfold f182.sh
 (try simp only [ln_44_3,eqlf_231,condF,cv_3_21,eqlp_181])
 refine (wInt32 Z _ (by omega) h).mono fun r w1 hS=>?_
 skip
 refine ⟨fun m y w'=>∃i:Nat,y=.int .i64 i∧m+i=ls.length∧St o w' (Wr g (l++enc 4 (IntKind.i32.wrap ls.length)++((ls.take i).map enB).flatten)::R),⟨ls.length,0,rfl,rfl,by simpa using hS⟩,?_⟩
 clear hS
 rintro m _ w2 ⟨i,rfl,hi,hS⟩ _
 by_cases hlt:(i:Int) < (ls.length:Int)
 ·have hil:i < ls.length:=by omega
  obtain ⟨b,p,cs,hp,_,hcv,hc⟩:=(rowR_rd (c:=enC) (fun x=>rfl) (hx w2 hS.drop) rfl).ix el44 .i64 i hil
  subst hcv
  have hmay:idMay ls[i].who=true:=List.all_eq_true.1 hall _ (List.getElem_mem hil)
  have hfl:=flat_len enB 57 (ls.take i) fun x hx=>enB_len x (List.all_eq_true.1 hall _ (List.mem_of_mem_take hx))
  rw [List.length_take] at hfl
  (try simp only [o_add,o_lss,hlt,decide_true,condT])
  refine r1 (hp _) (r_loadN ag140 (xs:=enC ls[i]) rfl (fun j u hu=>by rw [add_addr]; exact hc j u hu) ?_)
  refine r_alloc hS ze140 fun ge w5 hS=>?_
  refine r_storeN hS ag140 (xs:=enC ls[i]) rfl (show 0+3≤3 from Nat.le_refl _) (enB_ones _) fun w6 hS=>?_
  rw [setL_all _ _ (by rfl)] at hS
  refine r_loadN ag140 (xs:=enC ls[i]) rfl (hS.cells_at m0 0 (whole_at _)) ?_
  refine r_callVal en183 (l1:=[]) (l2:=[_,_]) (l3:=[]) rfl rfl rfl ?_
  refine (wEn Z ls[i] hmay (by simp only [List.length_append,enc_length]; omega) hS.swap).mono fun r w7 hS=>?_
  rw [wr_i64 (x:=(i:Int)+1) (by omega) (by omega)]
  refine ⟨m - 1,by omega,i+1,rfl,by omega,?_⟩
  rw [flat_take _ _ _ hil,← List.append_assoc]
  exact hS.swap.drop
 ·obtain rfl:i=ls.length:=by omega
  (try simp only [o_add,o_lss,hlt,decide_false,condF])
  rw [List.take_length,List.append_assoc] at hS
  exact hS
end
end Go.Proofs.YtbdfhfceffkhgaaGreatDoor


/- put: what is laid of a request; Write. -/
set_option linter.unusedVariables false
set_option linter.unusedSimpArgs false
namespace Go.Proofs.YtbdfhfceffkhgaaGreatDoor
open Go.Sh
open Tryz renaming prog → π
def nmF (inner:Bool) (k:Nat):Nat:=if inner then nm k - (nm k &&& 160) else nm k
theorem nmF_lt (inner:Bool) (k:Nat):nmF inner k < 512:=by
 have:=nm_lt k
 unfold nmF; split <;> omega
def bi (inner:Bool) (f:Fl) (i:Nat):Bool:=(nmF inner f.kd.toNat).testBit i
section
variable (Z:PZ) {o w:World} {R As:List HProp} {g:Nat} {l:List UInt8}
theorem fields (inner:Bool) (kd:Int) (hk:0≤kd∧kd≤12) (hN:Names o) (ho:old o ∈ R) (h:St o w R):CallV π Z 150 #[.agg #[.bool inner],.int .i8 kd] w fun r w'=>r=.int .u64 (nmF inner kd.toNat)∧St o w' R:=by
 refine f150.calls ?_
 unfold f150.sh
 refine r_box _ _ h fun g w1 hS=>?_
 have hS:St o w1 (blk g 148 [.bool inner]::R):=hS
 (try simp only [fa_148_0,Nat.add_zero])
 refine r_load one4 (hS.at m0 0 rfl) ?_
 cases inner with
 | true=>
  (try simp only [condT])
  refine r1 (run_nameIx kd hk _) ?_
  refine r_load one131 (nameAt hN hS (List.mem_cons_of_mem _ ho) kd.toNat (by omega)) ?_
  refine r1 (v:=.int .u64 (nmF true kd.toNat)) ?_ ⟨by first | rfl | trivial,hS.drop⟩
  obtain ⟨k,rfl⟩:∃k:Nat,kd=k:=⟨kd.toNat,by omega⟩
  simp only [Int.toNat_natCast]
  obtain rfl | rfl | rfl | rfl | rfl | rfl | rfl | rfl | rfl | rfl | rfl | rfl | rfl:k=0∨k=1∨k=2∨k=3∨k=4∨k=5∨k=6∨k=7∨k=8∨k=9∨k=10∨k=11∨k=12:=by omega
  all_goals rfl
 | false=>
  (try simp only [condF])
  refine r1 (run_nameIx kd hk _) ?_
  refine r_load one131 (nameAt hN hS (List.mem_cons_of_mem _ ho) kd.toNat (by omega)) ?_
  exact ⟨by first | rfl | trivial,hS.drop⟩
def p0 (inner:Bool) (f:Fl):List UInt8:=if bi inner f 0 then encL f.path else []
def p1 (inner:Bool) (f:Fl):List UInt8:=if bi inner f 1 then encL f.data else []
def p2 (inner:Bool) (f:Fl):List UInt8:=if bi inner f 2 then lsB f.acl.length (f.acl.map enB) else []
def p3 (inner:Bool) (f:Fl):List UInt8:=if bi inner f 3 then enc 4 f.ver else []
def p4 (inner:Bool) (f:Fl):List UInt8:=if bi inner f 4 then encB f.eph++encB f.seq else []
def p5 (inner:Bool) (f:Fl):List UInt8:=if bi inner f 5 then enc 8 f.ses else []
def p6 (inner:Bool) (f:Fl):List UInt8:=if bi inner f 6 then enc 4 f.tmo else []
def p7 (inner:Bool) (f:Fl):List UInt8:=if bi inner f 7 then lsB f.who.length (f.who.map idB) else []
def flB (inner:Bool) (f:Fl):List UInt8:=enc 1 f.kd++p0 inner f++p1 inner f++p2 inner f++p3 inner f++p4 inner f++p5 inner f++p6 inner f++p7 inner f
structure Bnd (f:Fl):Prop where
 path:f.path.length≤64
 data:f.data.length≤96
 acl:f.acl.length≤4
 who:f.who.length≤4
 ea:f.acl.all (fun x=>idMay x.who)=true
 ew:f.who.all idMay=true
theorem bnd_of {f:Fl} {m:Nat} (h:within f m=true):Bnd f∧m≤8:=by
 simp only [within,wg3,Bool.and_eq_true,Bool.not_eq_true',Bool.or_eq_false_iff,decide_eq_false_iff_not] at h
 obtain ⟨_,_,⟨h1,h2,h3,h4,h5⟩,_,h6,h7⟩:=h
 exact ⟨⟨by omega,by omega,by omega,by omega,h6,h7⟩,by omega⟩
theorem lsB_len {α:Type} (e:α→List UInt8) (n:Nat) (l:List α) (h:∀x ∈ l,(e x).length≤n):(lsB l.length (l.map e)).length≤4+l.length * n:=by
 have:=flat_len e n l h
 rw [lsB,List.length_append,enc_length]; omega
theorem acl_len {f:Fl} (h:Bnd f):(lsB f.acl.length (f.acl.map enB)).length≤240:=by
 have:=lsB_len enB 57 f.acl fun x hx=>enB_len x (List.all_eq_true.1 h.ea _ hx)
 have:=h.acl
 omega
theorem who_len {f:Fl} (h:Bnd f):(lsB f.who.length (f.who.map idB)).length≤240:=by
 have:=lsB_len idB 56 f.who fun x hx=>idB_len x (List.all_eq_true.1 h.ew _ hx)
 have:=h.who
 omega
theorem ite_len {b:Bool} {l:List UInt8} {n:Nat} (h:l.length≤n):(if b then l else []).length≤n:=by
 cases b
 ·exact Nat.zero_le _
 ·exact h
theorem flB_len (inner:Bool) {f:Fl} (h:Bnd f):(flB inner f).length≤800:=by
 have h0:(p0 inner f).length≤68:=ite_len (by rw [encL_len]; have:=h.path; omega)
 have h1:(p1 inner f).length≤100:=ite_len (by rw [encL_len]; have:=h.data; omega)
 have h2:(p2 inner f).length≤240:=ite_len (acl_len h)
 have h3:(p3 inner f).length≤4:=ite_len (by rw [enc_length]; omega)
 have h4:(p4 inner f).length≤2:=ite_len (by simp [encB])
 have h5:(p5 inner f).length≤8:=ite_len (by rw [enc_length]; omega)
 have h6:(p6 inner f).length≤4:=ite_len (by rw [enc_length]; omega)
 have h7:(p7 inner f).length≤240:=ite_len (who_len h)
 simp only [flB,List.length_append,enc_length]
 omega
theorem putG (inner:Bool) (q:Rq) (ob:List UInt8) (hk:0≤q.f.kd∧q.f.kd≤12) (hb:Bnd q.f) (hN:Names o) (ho:old o ∈ R) (B:Nat) (hB:B≤700000) (hl:l.length≤B) (hx:Ent o R fun w=>RdQ w q)
  (hP:∀(w:World) (R':List HProp) (m:List UInt8),old o ∈ R'→m.length≤B+1000→(Ent o R' fun w=>RdQ w q)→St o w (Wr g m::R')→(bi inner q.f 8=true →
   CallV π Z 188 #[.pointer (some ⟨g,0,none⟩),q.vo,.func (.func 138) #[.agg #[.bool true]] #[]] w fun r w'=>St o w' (Wr g (m++ob)::R')))
  (h:St o w (Wr g l::R)) :
  CallV π Z 138 #[.agg #[.bool inner],.pointer (some ⟨g,0,none⟩),.agg q.cells.toArray] w fun r w'=>St o w' (Wr g (l++(flB inner q.f++if bi inner q.f 8 then ob else []))::R):=by
 refine f138.calls ?_
 unfold f138.sh
 refine r_box _ _ h fun g1 w1 hS=>?_
 refine r_box _ _ hS fun g2 w2 hS=>?_
 have hS:St o w2 (blk g2 48 q.cells::blk g1 148 [.bool inner]::Wr g l::R):=hS
 have hS:=hS.pick 2
 have hx':Ent o (blk g2 48 q.cells::blk g1 148 [.bool inner]::R) fun w=>RdQ w q:=fun w hw=>hx w hw.drop.drop
 have ho':old o ∈ (blk g2 48 q.cells::blk g1 148 [.bool inner]::R):=List.mem_cons_of_mem _ (List.mem_cons_of_mem _ ho)
 have hlen:=flB_len inner hb
 have fin:∀{w':World} {m:List UInt8},m=l++(flB inner q.f++if bi inner q.f 8 then ob else [])→St o w' (Wr g m::blk g2 48 q.cells::blk g1 148 [.bool inner]::R)→St o w' (Wr g (l++(flB inner q.f++if bi inner q.f 8 then ob else []))::R):=fun e hS=>by
  subst e
  exact (hS.pick 1).drop.swap.drop
 simp only [flB,List.length_append] at hlen
 (try simp only [o_fn,fa_48_10,Nat.zero_add,fa_48_9,fa_48_8,fa_48_7,fa_48_6,fa_48_5,fa_48_4,fa_48_3,fa_48_2,fa_48_1,fa_48_0,Nat.add_zero])
 refine r_load one40 (hS.at m1 0 rfl) ?_
 refine (wInt8 Z q.f.kd (by omega) hS).mono fun r w3 hS=>?_
 refine r_loadN ag148 (xs:=[.bool inner]) rfl (hS.cells_at m2 0 (whole_at _)) ?_
 skip
 refine r_load one40 (hS.at m1 0 rfl) ?_
 refine (fields Z inner q.f.kd hk hN (List.mem_cons_of_mem _ ho') hS).mono fun r w4 ⟨hr,hS⟩=>?_
 subst hr
 have hn:=nmF_lt inner q.f.kd.toNat
 have hbit:∀(i:Nat) (b:Int) (w:World) (kk:PQ),i≤8→b=((2 ^ i:Nat):Int)→kk (.bool (bi inner q.f i)) w→rN π Z (binOp .and 131 (.int .u64 (nmF inner q.f.kd.toNat)) (.int .u64 b)) w fun x w=>rN π Z (eqOp .neq 131 false true x (.int .u64 0)) w kk:=by
  intro i b w kk hi hb hk
  refine r1 (run_and _ _ _ _ _ _) (r1 (run_neq_int _ _ _ _ _ _ _ _) ?_)
  rw [bit_int _ i hn hi b hb]
  exact hk
 intro j0 hj0
 have H0:∀w',St o w' (Wr g (l++enc 1 q.f.kd++p0 inner q.f)::blk g2 48 q.cells::blk g1 148 [.bool inner]::R)→j0 w':=by
  intro w' hS
  refine hj0 w' fun _=>?_
  clear hj0
  intro j1 hj1
  have H1:∀w',St o w' (Wr g (l++enc 1 q.f.kd++p0 inner q.f++p1 inner q.f)::blk g2 48 q.cells::blk g1 148 [.bool inner]::R)→j1 w':=by
   intro w' hS
   refine hj1 w' fun _=>?_
   clear hj1
   intro j2 hj2
   have H2:∀w',St o w' (Wr g (l++enc 1 q.f.kd++p0 inner q.f++p1 inner q.f++p2 inner q.f)::blk g2 48 q.cells::blk g1 148 [.bool inner]::R)→j2 w':=by
    intro w' hS
    refine hj2 w' fun _=>?_
    clear hj2
    intro j3 hj3
    have H3:∀w',St o w' (Wr g (l++enc 1 q.f.kd++p0 inner q.f++p1 inner q.f++p2 inner q.f++p3 inner q.f)::blk g2 48 q.cells::blk g1 148 [.bool inner]::R)→j3 w':=by
     intro w' hS
     refine hj3 w' fun _=>?_
     clear hj3
     intro j4 hj4
     have H4:∀w',St o w' (Wr g (l++enc 1 q.f.kd++p0 inner q.f++p1 inner q.f++p2 inner q.f++p3 inner q.f++p4 inner q.f)::blk g2 48 q.cells::blk g1 148 [.bool inner]::R)→j4 w':=by
      intro w' hS
      refine hj4 w' fun _=>?_
      clear hj4
      intro j5 hj5
      have H5:∀w',St o w' (Wr g (l++enc 1 q.f.kd++p0 inner q.f++p1 inner q.f++p2 inner q.f++p3 inner q.f++p4 inner q.f++p5 inner q.f)::blk g2 48 q.cells::blk g1 148 [.bool inner]::R)→j5 w':=by
       intro w' hS
       refine hj5 w' fun _=>?_
       clear hj5
       intro j6 hj6
       have H6:∀w',St o w' (Wr g (l++enc 1 q.f.kd++p0 inner q.f++p1 inner q.f++p2 inner q.f++p3 inner q.f++p4 inner q.f++p5 inner q.f++p6 inner q.f)::blk g2 48 q.cells::blk g1 148 [.bool inner]::R)→j6 w':=by
        intro w' hS
        refine hj6 w' fun _=>?_
        clear hj6
        intro j7 hj7
        have H7:∀w',St o w' (Wr g (l++enc 1 q.f.kd++p0 inner q.f++p1 inner q.f++p2 inner q.f++p3 inner q.f++p4 inner q.f++p5 inner q.f++p6 inner q.f++p7 inner q.f)::blk g2 48 q.cells::blk g1 148 [.bool inner]::R)→j7 w':=by
         intro w' hS
         refine hj7 w' fun _=>?_
         clear hj7
         refine hbit 8 _ _ _ (by omega) rfl ?_
         cases hb8:bi inner q.f 8 with
         | false=>
          (try simp only [condF])
          have key:=fin (by simp only [flB,hb8,Bool.false_eq_true,if_false,List.append_nil,List.append_assoc]) hS
          rw [hb8] at key
          exact key
         | true=>
          (try simp only [condT])
          refine r_load one46 (hS.at m1 10 rfl) ?_
          refine r_build (cells:=#[.bool true]) (by kernel_rfl) ?_
          skip
          refine (hP _ _ _ ho' (by simp only [List.length_append,enc_length] at hlen ⊢; omega) hx' hS hb8).mono fun r wA hS=>?_
          have key:=fin (by simp only [flB,hb8,if_true,List.append_assoc]) hS
          rw [hb8] at key
          exact key
        clear hj7
        refine hbit 7 _ _ _ (by omega) rfl ?_
        cases hb7:bi inner q.f 7 with
        | false=>
         (try simp only [condF])
         refine H7 _ ?_
         rw [p7,if_neg (by simp [hb7]),List.append_nil]
         exact hS
        | true=>
         (try simp only [condT])
         refine r_load one45 (hS.at m1 9 rfl) ?_
         refine (wIds Z q.f.who hb.who hb.ew (by simp only [List.length_append,enc_length] at hlen ⊢; omega) (fun w hw=>(hx' w hw).flat.who) hS).mono fun r wA hS=>?_
         refine H7 _ ?_
         rw [p7,if_pos hb7]
         exact hS
       clear hj6
       refine hbit 6 _ _ _ (by omega) rfl ?_
       cases hb6:bi inner q.f 6 with
       | false=>
        (try simp only [condF])
        refine H6 _ ?_
        rw [p6,if_neg (by simp [hb6]),List.append_nil]
        exact hS
       | true=>
        (try simp only [condT])
        refine r_load one21 (hS.at m1 8 rfl) ?_
        refine (wInt32 Z q.f.tmo (by simp only [List.length_append,enc_length] at hlen ⊢; omega) hS).mono fun r wA hS=>?_
        refine H6 _ ?_
        rw [p6,if_pos hb6]
        exact hS
      clear hj5
      refine hbit 5 _ _ _ (by omega) rfl ?_
      cases hb5:bi inner q.f 5 with
      | false=>
       (try simp only [condF])
       refine H5 _ ?_
       rw [p5,if_neg (by simp [hb5]),List.append_nil]
       exact hS
      | true=>
       (try simp only [condT])
       refine r_load one2 (hS.at m1 7 rfl) ?_
       refine (wInt64 Z q.f.ses (by simp only [List.length_append,enc_length] at hlen ⊢; omega) hS).mono fun r wA hS=>?_
       refine H5 _ ?_
       rw [p5,if_pos hb5]
       exact hS
     clear hj4
     refine hbit 4 _ _ _ (by omega) rfl ?_
     cases hb4:bi inner q.f 4 with
     | false=>
      (try simp only [condF])
      refine H4 _ ?_
      rw [p4,if_neg (by simp [hb4]),List.append_nil]
      exact hS
     | true=>
      (try simp only [condT])
      refine r_load one4 (hS.at m1 5 rfl) ?_
      refine (wBool Z q.f.eph (by simp only [List.length_append,enc_length] at hlen ⊢; omega) hS).mono fun r wA hS=>?_
      skip
      refine r_load one4 (hS.at m1 6 rfl) ?_
      refine (wBool Z q.f.seq (by simp only [List.length_append,enc_length,List.length_cons,List.length_nil] at hlen ⊢; omega) hS).mono fun r wA hS=>?_
      refine H4 _ ?_
      rw [p4,if_pos hb4,← List.append_assoc]
      exact hS
    clear hj3
    refine hbit 3 _ _ _ (by omega) rfl ?_
    cases hb3:bi inner q.f 3 with
    | false=>
     (try simp only [condF])
     refine H3 _ ?_
     rw [p3,if_neg (by simp [hb3]),List.append_nil]
     exact hS
    | true=>
     (try simp only [condT])
     refine r_load one21 (hS.at m1 4 rfl) ?_
     refine (wInt32 Z q.f.ver (by simp only [List.length_append,enc_length] at hlen ⊢; omega) hS).mono fun r wA hS=>?_
     refine H3 _ ?_
     rw [p3,if_pos hb3]
     exact hS
   clear hj2
   refine hbit 2 _ _ _ (by omega) rfl ?_
   cases hb2:bi inner q.f 2 with
   | false=>
    (try simp only [condF])
    refine H2 _ ?_
    rw [p2,if_neg (by simp [hb2]),List.append_nil]
    exact hS
   | true=>
    (try simp only [condT])
    refine r_load one44 (hS.at m1 3 rfl) ?_
    refine (wEns Z q.f.acl hb.acl hb.ea (by simp only [List.length_append,enc_length] at hlen ⊢; omega) (fun w hw=>(hx' w hw).flat.acl) hS).mono fun r wA hS=>?_
    refine H2 _ ?_
    rw [p2,if_pos hb2]
    exact hS
  clear hj1
  refine hbit 1 _ _ _ (by omega) rfl ?_
  cases hb1:bi inner q.f 1 with
  | false=>
   (try simp only [condF])
   refine H1 _ ?_
   rw [p1,if_neg (by simp [hb1]),List.append_nil]
   exact hS
  | true=>
   (try simp only [condT])
   refine r_load one43 (hS.at m1 2 rfl) ?_
   refine (wBuffer Z (k:=q.f.data) (n:=q.f.data.length) (fun w hw=>(hx' w hw).flat.data) (by have:=hb.data; simp only [List.length_append,enc_length] at hlen ⊢; omega) hS).mono fun r wA hS=>?_
   refine H1 _ ?_
   rw [p1,if_pos hb1,encL,← List.append_assoc]
   exact hS
 clear hj0
 refine hbit 0 _ _ _ (by omega) rfl ?_
 cases hb0:bi inner q.f 0 with
 | false=>
  (try simp only [condF])
  refine H0 _ ?_
  rw [p0,if_neg (by simp [hb0]),List.append_nil]
  exact hS
 | true=>
  (try simp only [condT])
  refine r_load one9 (hS.at m1 1 rfl) ?_
  refine (wText' Z q.f.path (by have:=hb.path; simp only [List.length_append,enc_length] at hlen ⊢; omega) hS).mono fun r wA hS=>?_
  refine H0 _ ?_
  rw [p0,if_pos hb0]
  exact hS
end
end Go.Proofs.YtbdfhfceffkhgaaGreatDoor


/- Write. -/
set_option linter.unusedVariables false
set_option linter.unusedSimpArgs false
namespace Go.Proofs.YtbdfhfceffkhgaaGreatDoor
open Go.Sh
open Tryz renaming prog → π
def opB (x:Rq):List UInt8:=flB true x.f
def opsB (q:Rq):List UInt8:=lsB q.ops.length (q.ops.map opB)
def reqB (q:Rq):List UInt8:=flB false q.f++if bi false q.f 8 then opsB q else []
def txB (t:Tx):List UInt8:=enc 4 t.e++enc 4 t.n++enc 1 t.sv++enc 4 t.bo++enc 8 t.nu++reqB t.q
theorem bi8 (f:Fl) (h:0≤f.kd∧f.kd≤5):bi true f 8=false:=by
 obtain ⟨k,hk⟩:∃k:Nat,f.kd=k:=⟨f.kd.toNat,by omega⟩
 unfold bi
 rw [hk,Int.toNat_natCast]
 obtain rfl | rfl | rfl | rfl | rfl | rfl:k=0∨k=1∨k=2∨k=3∨k=4∨k=5:=by omega
 all_goals rfl
theorem isOp_spec {q:Rq} (h:isOp q=true):(1≤q.f.kd∧q.f.kd≤5)∧q.f.ses=0∧q.f.who.length=0∧within q.f q.ops.length=true:=by
 simp only [isOp,Bool.and_eq_true,decide_eq_true_eq] at h
 exact h
theorem chkQ_spec {q:Rq} (h:chkQ q=true):(1≤q.f.kd∧q.f.kd≤12)∧within q.f q.ops.length=true∧q.ops.all isOp=true:=by
 simp only [chkQ,Bool.and_eq_true,decide_eq_true_eq] at h
 exact h
theorem opB_len {x:Rq} (h:isOp x=true):(opB x).length≤800:=flB_len true (bnd_of (isOp_spec h).2.2.2).1
theorem opsB_len {q:Rq} (h:q.ops.all isOp=true) (hn:q.ops.length≤8):(opsB q).length≤6404:=by
 have:=lsB_len opB 800 q.ops fun x hx=>opB_len (List.all_eq_true.1 h _ hx)
 unfold opsB; omega
section
variable (Z:PZ) {o w:World} {R As:List HProp} {g:Nat} {l:List UInt8}
theorem putI (q:Rq) (hq:isOp q=true) (hN:Names o) (ho:old o ∈ R) (hl:l.length≤100000) (hx:Ent o R fun w=>RdQ w q) (h:St o w (Wr g l::R)) :
  CallV π Z 138 #[.agg #[.bool true],.pointer (some ⟨g,0,none⟩),.agg q.cells.toArray] w fun r w'=>St o w' (Wr g (l++opB q)::R):=by
 obtain ⟨⟨h1,h2⟩,_,_,h3⟩:=isOp_spec hq
 have h8:=bi8 q.f ⟨by omega,h2⟩
 refine (putG Z true q [] ⟨by omega,by omega⟩ (bnd_of h3).1 hN ho 100000 (by omega) hl hx (fun _ _ _ _ _ _ _ hb=>by rw [h8] at hb; cases hb) h).mono fun r w' hS=>?_
 rw [h8] at hS
 simpa [opB] using hS
theorem wOps (q:Rq) (hq:q.ops.all isOp=true) (hn:q.ops.length≤8) (hN:Names o) (ho:old o ∈ R) (hl:l.length≤10000) (hx:Ent o R fun w=>RdQ w q) (h:St o w (Wr g l::R)) :
  CallV π Z 188 #[.pointer (some ⟨g,0,none⟩),q.vo,.func (.func 138) #[.agg #[.bool true]] #[]] w fun r w'=>St o w' (Wr g (l++opsB q)::R):=by
 obtain ⟨a,c,e⟩:=(hx w h.drop).row.form
 rw [e]
 refine f188.calls ?_
 unfold f188.sh
 (try simp only [ln_46_3,eqlf_187,condF,cv_3_21,eqlp_181])
 refine (wInt32 Z _ (by omega) h).mono fun r w1 hS=>?_
 skip
 refine ⟨fun m y w'=>∃i:Nat,y=.int .i64 i∧m+i=q.ops.length∧St o w' (Wr g (l++enc 4 (IntKind.i32.wrap q.ops.length)++((q.ops.take i).map opB).flatten)::R),⟨q.ops.length,0,rfl,rfl,by simpa using hS⟩,?_⟩
 clear hS
 rintro m _ w2 ⟨i,rfl,hi,hS⟩ _
 by_cases hlt:(i:Int) < (q.ops.length:Int)
 ·have hil:i < q.ops.length:=by omega
  have hmem:q.ops[i] ∈ q.ops:=List.getElem_mem hil
  have hrow:=(hx w2 hS.drop).rowR
  rw [e] at hrow
  obtain ⟨b,p,cs,hp,_,hcv,hc⟩:=hrow.ix el46 .i64 i hil
  subst hcv
  have hop:isOp q.ops[i]=true:=List.all_eq_true.1 hq _ hmem
  have hfl:=flat_len opB 800 (q.ops.take i) fun x hx=>opB_len (List.all_eq_true.1 hq _ (List.mem_of_mem_take hx))
  rw [List.length_take] at hfl
  (try simp only [o_add,o_lss,hlt,decide_true,condT])
  refine r1 (hp _) (r_loadN ag48 (xs:=q.ops[i].cells) rfl (fun j u hu=>by rw [add_addr]; exact hc j u hu) ?_)
  refine r_alloc hS ze48 fun ge w5 hS=>?_
  have hones:=((hx w5 hS.drop.drop).all _ hmem).ones
  refine r_storeN hS ag48 (xs:=q.ops[i].cells) rfl (show 0+11≤11 from Nat.le_refl _) hones fun w6 hS=>?_
  rw [setL_all _ _ (by rfl)] at hS
  refine r_loadN ag48 (xs:=q.ops[i].cells) rfl (hS.cells_at m0 0 (whole_at _)) ?_
  refine r_callVal en138 (l1:=[.agg #[.bool true]]) (l2:=[_,_]) (l3:=[]) rfl rfl rfl ?_
  refine (putI Z q.ops[i] hop hN (List.mem_cons_of_mem _ ho) (by simp only [List.length_append,enc_length]; omega) (fun w hw=>(hx w hw.drop).all _ hmem) hS.swap).mono fun r w7 hS=>?_
  rw [wr_i64 (x:=(i:Int)+1) (by omega) (by omega)]
  refine ⟨m - 1,by omega,i+1,rfl,by omega,?_⟩
  rw [flat_take _ _ _ hil,← List.append_assoc]
  exact hS.swap.drop
 ·obtain rfl:i=q.ops.length:=by omega
  (try simp only [o_add,o_lss,hlt,decide_false,condF])
  rw [List.take_length,List.append_assoc] at hS
  exact hS
theorem putO (q:Rq) (hq:chkQ q=true) (hN:Names o) (ho:old o ∈ R) (hl:l.length≤1000) (hx:Ent o R fun w=>RdQ w q) (h:St o w (Wr g l::R)) :
  CallV π Z 138 #[.agg #[.bool false],.pointer (some ⟨g,0,none⟩),.agg q.cells.toArray] w fun r w'=>St o w' (Wr g (l++reqB q)::R):=by
 obtain ⟨⟨h1,h2⟩,h3,h4⟩:=chkQ_spec hq
 obtain ⟨hb,hm⟩:=bnd_of h3
 exact putG Z false q (opsB q) ⟨by omega,by omega⟩ hb hN ho 1000 (by omega) hl hx (fun w' R' m ho' hm' hx' hS _=>wOps Z q h4 hm hN ho' (by omega) hx' hS) h
theorem writeC (t:Tx) (hN:Names o) (ho:old o ∈ R) (hx:Ent o R fun w=>RdQ w t.q) (h:St o w R) :
  CallV π Z 90 #[.agg t.cells.toArray] w fun r w'=>if chkT t then ∃v,r=.tuple #[v,.int .i64 0]∧St o w' (own 5 1 v (txB t).length (cb (txB t))::R) else r=.tuple #[.slice none 0 0,.int .i64 40]∧St o w' R:=by
 refine f90.calls ?_
 unfold f90.sh
 refine r_box _ _ h fun g w1 hS=>?_
 have hS:St o w1 (blk g 50 t.cells::R):=hS
 have hx':Ent o (blk g 50 t.cells::R) fun w=>RdQ w t.q:=fun w hw=>hx w hw.drop
 have ho':old o ∈ (blk g 50 t.cells::R):=List.mem_cons_of_mem _ ho
 refine r_loadN ag50 (xs:=t.cells) rfl (hS.cells_at m0 0 (whole_at _)) ?_
 refine (chkTx Z t hN ho' hx' hS).mono fun r w2 ⟨hr,hS⟩=>?_
 subst hr
 cases hc:chkT t with
 | false=>
  refine r1 (run_neq_int _ _ _ _ _ _ _ _) ?_
  refine cond_or (fun _=>?_) (fun h=>by simp at h)
  show if false=true then _ else _
  rw [if_neg (by simp)]
  exact ⟨rfl,hS.drop⟩
 | true=>
  have hcq:chkQ t.q=true:=by
   unfold chkT at hc
   simp only [Bool.and_eq_true] at hc
   exact hc.2.2.2
  obtain ⟨⟨h1,h2⟩,h3,h4⟩:=chkQ_spec hcq
  obtain ⟨hb,hm⟩:=bnd_of h3
  have hl1:=flB_len false hb
  have hl2:(if bi false t.q.f 8 then opsB t.q else []).length≤6404:=ite_len (opsB_len h4 hm)
  refine r1 (run_neq_int _ _ _ _ _ _ _ _) ?_
  refine cond_or (fun h=>by simp at h) fun _=>?_
  refine r_build (cells:=#[.slice none 0 0]) (by kernel_rfl) ?_
  refine r_box _ _ hS fun gw w3 hS=>?_
  have hS:=Wr.plain hS
  (try simp only [fa_50_2,Nat.zero_add,fa_50_1,fa_42_2,fa_42_1,fa_42_0,Nat.add_zero,fa_50_0,fa_39_1,fa_39_0])
  refine r_load one37 (hS.at m1 0 rfl) ?_
  refine (wUint32 Z t.e (by simp) hS).mono fun r w4 hS=>?_
  refine r_load one37 (hS.at m1 1 rfl) ?_
  refine (wUint32 Z t.n (by simp [enc_length]) hS).mono fun r w4 hS=>?_
  refine r_load one40 (hS.at m1 2 rfl) ?_
  refine (wInt8 Z t.sv (by simp [enc_length]) hS).mono fun r w4 hS=>?_
  refine r_load one37 (hS.at m1 3 rfl) ?_
  refine (wUint32 Z t.bo (by simp [enc_length]) hS).mono fun r w4 hS=>?_
  refine r_load one2 (hS.at m1 4 rfl) ?_
  refine (wInt64 Z t.nu (by simp [enc_length]) hS).mono fun r w4 hS=>?_
  refine r_build (cells:=#[.bool false]) (by kernel_rfl) ?_
  refine r_loadN ag48 (xs:=t.q.cells) rfl (hS.cells_at m1 5 (fun j v hv=>by rw [Nat.add_comm]; exact hv)) ?_
  refine (putO Z t.q hcq hN ho' (by simp [enc_length]) hx' hS).mono fun r w5 hS=>?_
  refine (wBytes Z (by simp only [List.length_append,List.length_nil,enc_length,reqB]; omega) hS).mono fun r w6 hS=>?_
  simp only [List.nil_append] at hS
  rw [if_pos trivial]
  exact ⟨r,rfl,((hS.pick 1).drop.swap.drop.put 0)⟩
end


/- A segment is read. -/
import Derived.Test.YtbdfhfceffkhgaaGreatDoorL16
set_option linter.unusedVariables false
set_option linter.unusedSimpArgs false
namespace Go.Proofs.YtbdfhfceffkhgaaGreatDoor
open Go.Sh
open Tryz renaming prog → π
def Uq (t:Tx):Prop:=∀y,okT y→txB y=txB t→tk y=tk t
def Chn (e n:Int):List Tx→Prop
 | []=>True
 | t::ts=>(okT t∧Uq t∧lchk t e n=0)∧Chn t.e t.n ts
theorem Chn.snoc {t:Tx}:∀{ts:List Tx} {e n:Int},Chn e n ts→okT t→Uq t→lchk t (lastZ e n ts).1 (lastZ e n ts).2=0→Chn e n (ts++[t])
 | [],_,_,_,h1,h2,h3=>⟨⟨h1,h2,h3⟩,trivial⟩
 | x::ts,_,_,h,h1,h2,h3=>⟨h.1,Chn.snoc h.2 h1 h2 h3⟩
def Took (l:Lg) (bs:List (List UInt8)) (j:Nat) (us:List Tx):Prop:=us.length=j∧us.map txB=bs.take j∧Chn l.e l.n us
def Lg.with (l:Lg) (us:List Tx):Lg:={ l with fil:=l.fil+us.length,e:=(lastZ l.e l.n us).1,n:=(lastZ l.e l.n us).2,ts:=l.ts++us }
def LgR (gl gd:Nat) (l:Lg) (bs:List (List UInt8)) (i:Nat):HProp:=fun h=>∃us,Took l bs i us∧LgM gl gd (l.with us) h
def Stop (l:Lg) (bs:List (List UInt8)) (us:List Tx):Prop:=∃hj:us.length < bs.length,∀y,okT y→lchk y (lastZ l.e l.n us).1 (lastZ l.e l.n us).2=0→bs[us.length] ≠ txB y
theorem Lg.with_nil (l:Lg):l.with []=l:=by
 cases l
 simp [Lg.with,lastZ]
theorem lchk_tk {x y:Tx} (h:tk x=tk y) (e n:Int):lchk x e n=lchk y e n:=by
 have h1:x.hd=y.hd:=congrArg Prod.fst h
 have h2:x.q.st=y.q.st:=congrArg Prod.snd h
 have he:x.e=y.e:=congrArg Hd.e h1
 have hn:x.n=y.n:=congrArg Hd.n h1
 unfold lchk
 rw [chkT_st h1 h2,he,hn]
theorem Lg.with_snoc (l:Lg) (us:List Tx) (t:Tx):l.with (us++[t])={ l with fil:=l.fil+us.length+1,e:=t.e,n:=t.n,ts:=(l.ts++us)++[t] }:=by
 unfold Lg.with
 rw [lastZ_snoc]
 simp [Nat.add_assoc]
section
variable (Z:PZ) {o w:World} {R As:List HProp} {gl gd:Nat} {l:Lg}
theorem lRead {x:Value} {n:Nat} {b:List UInt8} (hN:Names o) (ho:old o ∈ R) (hx:Ent o R fun w=>Rd w 1 x n (cb b)) (hb:b.length≤140737488355328) (hfil:l.fil≤1000000000000) (hlt:(l.ts.length+(bodsOf b).length) * 168≤140737488355328) (h:St o w (LgM gl gd l::R)) :
  CallV π Z 46 #[.pointer (some ⟨gl,0,none⟩),x] w fun r w'=>∃us,Took l (bodsOf b) us.length us∧(us.length=(bodsOf b).length∨Stop l (bodsOf b) us)∧r=.tuple #[.int .i64 (pos (bodsOf b) us.length:Nat),.bool (us.length == (bodsOf b).length)]∧St o w' (LgM gl gd (l.with us)::R):=by
 refine f46.calls ?_
 unfold f46.sh
 refine r_box _ _ h fun g1 w1 hS=>?_
 refine r_alloc hS ze3 fun g2 w2 hS=>?_
 refine r_alloc hS ze4 fun g3 w3 hS=>?_
 have hS:St o w3 (blk g3 4 [.bool false]::blk g2 3 [.int .i64 0]::blk g1 33 [.pointer (some ⟨gl,0,none⟩)]::LgM gl gd l::R):=hS
 refine r_store hS one4 (by simp) rfl fun w4 hS=>?_
 have hS:St o w4 (blk g3 4 [.bool true]::blk g2 3 [.int .i64 0]::blk g1 33 [.pointer (some ⟨gl,0,none⟩)]::LgM gl gd l::R):=hS
 refine (frAll noZ (l:=b) (fun w hw=>hx w hw.drop.drop.drop.drop) hb hS).mono fun r w5 ⟨gA,va,hr,hS⟩=>?_
 subst hr
 refine ⟨94,[],[.pointer (some ⟨gA,0,none⟩)],rfl,en94,fun rc hround=>?_⟩
 have hS:=(hS.alloc_obj (.deferred (some []))).alloc_obj (.loop (rc .ready none))
 rw [alloc_size] at hS
 have hT0:Took l (bodsOf b) 0 []:=⟨rfl,rfl,trivial⟩
 let Pi:Nat→List HProp:=fun i=>obP (w5.heap.size+1) (.loop (rc .ready none))::obP w5.heap.size (.deferred (some []))::blk gA 43 [va]::own 5 1 va b.length (cb b)::blk g3 4 [.bool true]::blk g2 3 [.int .i64 (pos (bodsOf b) i:Nat)]::blk g1 33 [.pointer (some ⟨gl,0,none⟩)]::LgR gl gd l (bodsOf b) i::R
 let Dx:HProp:=fun h=>∃us:List Tx,(Took l (bodsOf b) us.length us∧Stop l (bodsOf b) us)∧sep (blk g2 3 [.int .i64 (pos (bodsOf b) us.length:Nat)]) (LgM gl gd (l.with us)) h
 let Dn:List HProp:=obP (w5.heap.size+1) (.loop (rc .done (some (.exit 0))))::obP w5.heap.size (.deferred (some []))::blk gA 43 [va]::own 5 1 va b.length (cb b)::blk g3 4 [.bool false]::Dx::blk g1 33 [.pointer (some ⟨gl,0,none⟩)]::R
 have hP0:St o ((w5.alloc (.deferred (some []))).alloc (.loop (rc .ready none))) (Pi 0):=by
  have h1:St o ((w5.alloc (.deferred (some []))).alloc (.loop (rc .ready none))) (LgM gl gd (l.with [])::obP (w5.heap.size+1) (.loop (rc .ready none))::obP w5.heap.size (.deferred (some []))::blk gA 43 [va]::own 5 1 va b.length (cb b)::blk g3 4 [.bool true]::blk g2 3 [.int .i64 0]::blk g1 33 [.pointer (some ⟨gl,0,none⟩)]::R):=by
   rw [Lg.with_nil]
   (refine Sh.St.sub ?_ (hS); repeat (first | with_reducible (first | exact sub_refl | exact sub_nil | refine sP0 ?_ | refine sP1 ?_ | refine sP2 ?_ | refine sP3 ?_ | refine sP4 ?_ | refine sP5 ?_ | refine sP6 ?_ | refine sP7 ?_ | refine sP8 ?_ | refine sP9 ?_ | refine sP10 ?_ | refine sP11 ?_ | refine sP12 ?_ | refine sP13 ?_ | refine sP14 ?_ | refine sP15 ?_) | exact sub_refl | refine sP0 ?_ | refine sP1 ?_ | refine sP2 ?_ | refine sP3 ?_ | refine sP4 ?_ | refine sP5 ?_ | refine sP6 ?_ | refine sP7 ?_ | refine sP8 ?_ | refine sP9 ?_ | refine sP10 ?_ | refine sP11 ?_ | refine sP12 ?_ | refine sP13 ?_ | refine sP14 ?_ | refine sP15 ?_ | refine sub_drop ?_))
  have h2:St o ((w5.alloc (.deferred (some []))).alloc (.loop (rc .ready none))) (LgR gl gd l (bodsOf b) 0::_):=(h1.pure_intro hT0).ex_intro (F:=fun us h=>Took l (bodsOf b) 0 us∧LgM gl gd (l.with us) h) []
  show St o _ (obP (w5.heap.size+1) (.loop (rc .ready none))::obP w5.heap.size (.deferred (some []))::blk gA 43 [va]::own 5 1 va b.length (cb b)::blk g3 4 [.bool true]::blk g2 3 [.int .i64 (pos (bodsOf b) 0:Nat)]::blk g1 33 [.pointer (some ⟨gl,0,none⟩)]::LgR gl gd l (bodsOf b) 0::R)
  rw [show pos (bodsOf b) 0=0 by simp [pos,frms]]
  (refine Sh.St.sub ?_ (h2); repeat (first | with_reducible (first | exact sub_refl | exact sub_nil | refine sP0 ?_ | refine sP1 ?_ | refine sP2 ?_ | refine sP3 ?_ | refine sP4 ?_ | refine sP5 ?_ | refine sP6 ?_ | refine sP7 ?_ | refine sP8 ?_ | refine sP9 ?_ | refine sP10 ?_ | refine sP11 ?_ | refine sP12 ?_ | refine sP13 ?_ | refine sP14 ?_ | refine sP15 ?_) | exact sub_refl | refine sP0 ?_ | refine sP1 ?_ | refine sP2 ?_ | refine sP3 ?_ | refine sP4 ?_ | refine sP5 ?_ | refine sP6 ?_ | refine sP7 ?_ | refine sP8 ?_ | refine sP9 ?_ | refine sP10 ?_ | refine sP11 ?_ | refine sP12 ?_ | refine sP13 ?_ | refine sP14 ?_ | refine sP15 ?_ | refine sub_drop ?_))
 refine (frAll1 noZ (L:=w5.heap.size+1) (g:=gA) (n:=b.length) (x:=va) (l:=b) Pi Dn (fun a n c e=>?_) hb (fun i w hw=>⟨hw.at m2 0 rfl,hw.own_rd m3⟩) (fun F i hi v w hw=>?_) hP0).mono fun r w6 hr=>?_
 ·subst e
  obtain ⟨_,⟨e1,_,_⟩ | ⟨g,cap,rest,e1,a1,_,_,_⟩⟩:=(hP0.pick 3).own_open
  ·injection e1 with _ e2 e3; omega
  ·injection e1 with _ e2 e3; omega
 ·have hlen:(bodsOf b)[i].length≤140737488355328:=by have:=(bodsOf_ok b _ (List.getElem_mem hi)).2; omega
  have back:∀(Ps:List HProp) (w:World),St o w (Ps++own 5 1 v (bodsOf b)[i].length (cb (bodsOf b)[i])::F)→St o w (F++Ps):=fun Ps w hh=>(hh.perm (List.perm_append_comm (l₁:=Ps) (l₂:=own 5 1 v (bodsOf b)[i].length (cb (bodsOf b)[i])::F))).drop
  have hw:St o w (Pi i++own 5 1 v (bodsOf b)[i].length (cb (bodsOf b)[i])::F):=hw.perm (List.perm_append_comm (l₁:=own 5 1 v (bodsOf b)[i].length (cb (bodsOf b)[i])::F) (l₂:=Pi i))
  have hvm:own 5 1 v (bodsOf b)[i].length (cb (bodsOf b)[i]) ∈ R++own 5 1 v (bodsOf b)[i].length (cb (bodsOf b)[i])::F:=List.mem_append_right _ List.mem_cons_self
  have hoT:old o ∈ R++own 5 1 v (bodsOf b)[i].length (cb (bodsOf b)[i])::F:=List.mem_append_left _ ho
  have back1:∀w,St o w (obP (w5.heap.size+1) (.loop (rc .ready none))::obP w5.heap.size (.deferred (some []))::blk gA 43 [va]::own 5 1 va b.length (cb b)::blk g3 4 [.bool true]::blk g2 3 [.int .i64 (pos (bodsOf b) (i+1):Nat)]::blk g1 33 [.pointer (some ⟨gl,0,none⟩)]::LgR gl gd l (bodsOf b) (i+1)::(R++own 5 1 v (bodsOf b)[i].length (cb (bodsOf b)[i])::F))→St o w (F++Pi (i+1)):=fun w hh=>back _ w hh
  have back2:∀w,St o w (obP (w5.heap.size+1) (.loop (rc .done (some (.exit 0))))::obP w5.heap.size (.deferred (some []))::blk gA 43 [va]::own 5 1 va b.length (cb b)::blk g3 4 [.bool false]::Dx::blk g1 33 [.pointer (some ⟨gl,0,none⟩)]::(R++own 5 1 v (bodsOf b)[i].length (cb (bodsOf b)[i])::F))→St o w (F++Dn):=fun w hh=>back _ w hh
  have hw:St o w (obP (w5.heap.size+1) (.loop (rc .ready none))::obP w5.heap.size (.deferred (some []))::blk gA 43 [va]::own 5 1 va b.length (cb b)::blk g3 4 [.bool true]::blk g2 3 [.int .i64 (pos (bodsOf b) i:Nat)]::blk g1 33 [.pointer (some ⟨gl,0,none⟩)]::LgR gl gd l (bodsOf b) i::(R++own 5 1 v (bodsOf b)[i].length (cb (bodsOf b)[i])::F)):=hw
  clear_value Pi Dn
  clear back
  generalize R++own 5 1 v (bodsOf b)[i].length (cb (bodsOf b)[i])::F=T at hw hvm hoT back1 back2
  refine hround _ _ _ _ (hw.obj m0) ⟨hw.obj m0,?_⟩
  have hw:=hw.put_obj (.loop (rc .busy none))
  obtain ⟨us,hw⟩:=(hw.pick 7).ex
  obtain ⟨hTk,hw⟩:=hw.pure
  obtain ⟨hul,hum,huc⟩:=hTk
  have hbd:(bodsOf b)[i] ∈ bodsOf b:=List.getElem_mem hi
  have stop:∀w,Stop l (bodsOf b) us→St o w (blk g3 4 [.bool false]::LgM gl gd (l.with us)::obP (w5.heap.size+1) (.loop (rc .busy none))::obP w5.heap.size (.deferred (some []))::blk gA 43 [va]::own 5 1 va b.length (cb b)::blk g2 3 [.int .i64 (pos (bodsOf b) i:Nat)]::blk g1 33 [.pointer (some ⟨gl,0,none⟩)]::T) →
    w.heap[w5.heap.size+1]? = some (.loop (rc .busy none))∧St o (w.putObj (w5.heap.size+1) (.loop (rc .done (some (.exit 0))))) (F++Dn):=fun w hst hh=>by
   refine ⟨hh.obj m2,back2 _ ?_⟩
   have hh:=(hh.pick 2).put_obj (.loop (rc .done (some (.exit 0))))
   have h1:St o (w.putObj (w5.heap.size+1) (.loop (rc .done (some (.exit 0))))) (blk g2 3 [.int .i64 (pos (bodsOf b) i:Nat)]::LgM gl gd (l.with us)::obP (w5.heap.size+1) (.loop (rc .done (some (.exit 0))))::obP w5.heap.size (.deferred (some []))::blk gA 43 [va]::own 5 1 va b.length (cb b)::blk g3 4 [.bool false]::blk g1 33 [.pointer (some ⟨gl,0,none⟩)]::T):=by (refine Sh.St.sub ?_ (hh); repeat (first | with_reducible (first | exact sub_refl | exact sub_nil | refine sP0 ?_ | refine sP1 ?_ | refine sP2 ?_ | refine sP3 ?_ | refine sP4 ?_ | refine sP5 ?_ | refine sP6 ?_ | refine sP7 ?_ | refine sP8 ?_ | refine sP9 ?_ | refine sP10 ?_ | refine sP11 ?_ | refine sP12 ?_ | refine sP13 ?_ | refine sP14 ?_ | refine sP15 ?_) | exact sub_refl | refine sP0 ?_ | refine sP1 ?_ | refine sP2 ?_ | refine sP3 ?_ | refine sP4 ?_ | refine sP5 ?_ | refine sP6 ?_ | refine sP7 ?_ | refine sP8 ?_ | refine sP9 ?_ | refine sP10 ?_ | refine sP11 ?_ | refine sP12 ?_ | refine sP13 ?_ | refine sP14 ?_ | refine sP15 ?_ | refine sub_drop ?_))
   rw [← hul] at h1
   have h2:=(h1.sep_intro.pure_intro (p:=Took l (bodsOf b) us.length us∧Stop l (bodsOf b) us) ⟨⟨rfl,by rw [hul]; exact hum,huc⟩,hst⟩).ex_intro (F:=fun (us:List Tx) h=>(Took l (bodsOf b) us.length us∧Stop l (bodsOf b) us)∧sep (blk g2 3 [.int .i64 (pos (bodsOf b) us.length:Nat)]) (LgM gl gd (l.with us)) h) us
   have h3:St o (w.putObj (w5.heap.size+1) (.loop (rc .done (some (.exit 0))))) (Dx::obP (w5.heap.size+1) (.loop (rc .done (some (.exit 0))))::obP w5.heap.size (.deferred (some []))::blk gA 43 [va]::own 5 1 va b.length (cb b)::blk g3 4 [.bool false]::blk g1 33 [.pointer (some ⟨gl,0,none⟩)]::T):=h2
   (refine Sh.St.sub ?_ (h3); repeat (first | with_reducible (first | exact sub_refl | exact sub_nil | refine sP0 ?_ | refine sP1 ?_ | refine sP2 ?_ | refine sP3 ?_ | refine sP4 ?_ | refine sP5 ?_ | refine sP6 ?_ | refine sP7 ?_ | refine sP8 ?_ | refine sP9 ?_ | refine sP10 ?_ | refine sP11 ?_ | refine sP12 ?_ | refine sP13 ?_ | refine sP14 ?_ | refine sP15 ?_) | exact sub_refl | refine sP0 ?_ | refine sP1 ?_ | refine sP2 ?_ | refine sP3 ?_ | refine sP4 ?_ | refine sP5 ?_ | refine sP6 ?_ | refine sP7 ?_ | refine sP8 ?_ | refine sP9 ?_ | refine sP10 ?_ | refine sP11 ?_ | refine sP12 ?_ | refine sP13 ?_ | refine sP14 ?_ | refine sP15 ?_ | refine sub_drop ?_))
  have hul2:us.length < (bodsOf b).length:=by omega
  refine (readC noZ (l:=(bodsOf b)[i]) (n:=(bodsOf b)[i].length) (x:=v) hN (by simp [hoT]) (fun w hh=>hh.own_rd (e:=5) (List.mem_cons_of_mem _ (List.mem_cons_of_mem _ (List.mem_cons_of_mem _ (List.mem_cons_of_mem _ (List.mem_cons_of_mem _ (List.mem_cons_of_mem _ (List.mem_cons_of_mem _ (List.mem_cons_of_mem _ hvm))))))))) hlen hw).mono fun r w7 hr=>?_
  rcases hr with ⟨t,hok,hct,htb,huq,hr,hw⟩ | ⟨hno,hr,hw⟩
  case inr=>
   subst hr
   (try simp only [o_ext2_1,o_neqp,Int.reduceBNe,o_pickTp,condT,guardV_tf,guardW_tf,still_tf,o_ext2_0])
   refine r_alloc hw ze50 fun g9 w8 hw=>?_
   refine r_storeN hw ag50 (xs:=zTx) rfl (show 0+16≤16 from Nat.le_refl _) (hC_ones _) fun w9 hw=>?_
   refine ⟨fun w10 hd=>?_⟩
   have hw:=hw.drew hd
   refine r_store (hw.pick 6) one4 (by simp) rfl fun w11 hw=>?_
   refine (fun hh=>⟨hh.1,.inr ⟨by first | rfl | trivial,hh.2⟩⟩) (stop w11 ⟨hul2,fun y hy hly e=>hno y hy (lchk_ok.1 hly).1 ?_⟩ ?_)
   ·rw [← e]; congr 1; exact hul.symm
   ·have hw:St o w11 (blk g3 4 [.bool false]::_):=hw
    (refine Sh.St.sub ?_ (hw); repeat (first | with_reducible (first | exact sub_refl | exact sub_nil | refine sP0 ?_ | refine sP1 ?_ | refine sP2 ?_ | refine sP3 ?_ | refine sP4 ?_ | refine sP5 ?_ | refine sP6 ?_ | refine sP7 ?_ | refine sP8 ?_ | refine sP9 ?_ | refine sP10 ?_ | refine sP11 ?_ | refine sP12 ?_ | refine sP13 ?_ | refine sP14 ?_ | refine sP15 ?_) | exact sub_refl | refine sP0 ?_ | refine sP1 ?_ | refine sP2 ?_ | refine sP3 ?_ | refine sP4 ?_ | refine sP5 ?_ | refine sP6 ?_ | refine sP7 ?_ | refine sP8 ?_ | refine sP9 ?_ | refine sP10 ?_ | refine sP11 ?_ | refine sP12 ?_ | refine sP13 ?_ | refine sP14 ?_ | refine sP15 ?_ | refine sub_drop ?_))
  subst hr
  have hqo:=txC_ones (OwQ.rd _ hw).ones
  have hqr:∀{w:World} {A B C D E G H I J K:HProp},St o w (A::B::C::D::E::G::H::I::J::K::OwQ t.q::blk gA 43 [va]::own 5 1 va b.length (cb b)::T)→RdQ w t.q:=fun hh=>OwQ.rd _ hh.drop.drop.drop.drop.drop.drop.drop.drop.drop.drop
  have hUq:Uq t:=fun y hy e=>by
   obtain ⟨h1,h2⟩:=huq y hy ⟨[],by rw [List.drop_zero,List.append_nil,e]; exact htb⟩
   unfold tk
   rw [h1,st_of_key hy.2 hok.2 h2]
  have hw1:St o w7 (LgM gl gd (l.with us)::blk g1 33 [.pointer (some ⟨gl,0,none⟩)]::blk g2 3 [.int .i64 (pos (bodsOf b) i:Nat)]::blk g3 4 [.bool true]::obP (w5.heap.size+1) (.loop (rc .busy none))::obP w5.heap.size (.deferred (some []))::OwQ t.q::blk gA 43 [va]::own 5 1 va b.length (cb b)::T):=by (refine Sh.St.sub ?_ (hw); repeat (first | with_reducible (first | exact sub_refl | exact sub_nil | refine sP0 ?_ | refine sP1 ?_ | refine sP2 ?_ | refine sP3 ?_ | refine sP4 ?_ | refine sP5 ?_ | refine sP6 ?_ | refine sP7 ?_ | refine sP8 ?_ | refine sP9 ?_ | refine sP10 ?_ | refine sP11 ?_ | refine sP12 ?_ | refine sP13 ?_ | refine sP14 ?_ | refine sP15 ?_) | exact sub_refl | refine sP0 ?_ | refine sP1 ?_ | refine sP2 ?_ | refine sP3 ?_ | refine sP4 ?_ | refine sP5 ?_ | refine sP6 ?_ | refine sP7 ?_ | refine sP8 ?_ | refine sP9 ?_ | refine sP10 ?_ | refine sP11 ?_ | refine sP12 ?_ | refine sP13 ?_ | refine sP14 ?_ | refine sP15 ?_ | refine sub_drop ?_))
  obtain ⟨vn,vt,hw⟩:=LgM.open hw1
  unfold LgO at hw
  have hw:St o w7 (blk g1 33 [.pointer (some ⟨gl,0,none⟩)]::blk gl 85 (lgC gd (l.with us) vn vt)::own 50 16 vt (l.with us).ts.length ((l.with us).ts.map Tx.cells).flatten::blk g2 3 [.int .i64 (pos (bodsOf b) i:Nat)]::blk g3 4 [.bool true]::obP (w5.heap.size+1) (.loop (rc .busy none))::obP w5.heap.size (.deferred (some []))::own 9 1 vn (l.with us).k (segR (l.with us).num.toNat (l.with us).k)::OwT (l.with us).ts::OwQ t.q::blk gA 43 [va]::own 5 1 va b.length (cb b)::T):=by (refine Sh.St.sub ?_ (hw); repeat (first | with_reducible (first | exact sub_refl | exact sub_nil | refine sP0 ?_ | refine sP1 ?_ | refine sP2 ?_ | refine sP3 ?_ | refine sP4 ?_ | refine sP5 ?_ | refine sP6 ?_ | refine sP7 ?_ | refine sP8 ?_ | refine sP9 ?_ | refine sP10 ?_ | refine sP11 ?_ | refine sP12 ?_ | refine sP13 ?_ | refine sP14 ?_ | refine sP15 ?_) | exact sub_refl | refine sP0 ?_ | refine sP1 ?_ | refine sP2 ?_ | refine sP3 ?_ | refine sP4 ?_ | refine sP5 ?_ | refine sP6 ?_ | refine sP7 ?_ | refine sP8 ?_ | refine sP9 ?_ | refine sP10 ?_ | refine sP11 ?_ | refine sP12 ?_ | refine sP13 ?_ | refine sP14 ?_ | refine sP15 ?_ | refine sub_drop ?_))
  clear hw1
  (try simp only [o_ext2_1,o_neqp,bne_self_eq_false,o_pickFp,guardV_ff,still_ff,guardW_ff,o_ext2_0])
  refine r_alloc hw ze50 fun g9 w8 hw=>?_
  refine r_storeN hw ag50 (xs:=t.cells) rfl (show 0+16≤16 from Nat.le_refl _) hqo fun w9 hw=>?_
  rw [setL_all _ _ (by rfl)] at hw
  refine ⟨fun w10 hd=>?_⟩
  have hw:=hw.drew hd
  refine rr_loadN ag50 (xs:=t.cells) rfl (hw.cells_at m0 0 (whole_at _)) (rr_load one33 (hw.at m1 0 rfl) ?_)
  (try simp only [fa_50_0,Nat.add_zero,o_chkp,fa_85_5p,Nat.zero_add])
  refine rr_loadN ag39 (xs:=zx (l.with us).e (l.with us).n) rfl (hw.cells_at m2 5 (fun j v hv=>by
   match j,hv with
   | 0,hv=>exact hv
   | 1,hv=>exact hv
   | j+2,hv=>simp [zx] at hv)) ?_
  refine (lCheck noZ t (l.with us).e (l.with us).n hN (by simp [hoT]) (fun w hh=>hqr hh) hw).mono fun r w11 ⟨hr,hw⟩=>?_
  subst hr
  refine rs_load one33 (hw.at m1 0 rfl) (rp (fun w=>run_neq_int _ _ _ _ _ _ _ _) ?_)
  by_cases hl:lchk t (l.with us).e (l.with us).n=0
  case neg=>
   rw [bne_iff_ne.2 hl,condT]
   refine r_store (hw.pick 5) one4 (by simp) rfl fun w12 hw=>?_
   refine (fun hh=>⟨hh.1,.inr ⟨by first | rfl | trivial,hh.2⟩⟩) (stop w12 ⟨hul2,fun y hy hly e=>hl ?_⟩ ?_)
   ·have e2:txB y=txB t:=by
     rw [← e,← htb]; congr 1
    have e3:=hUq y hy e2
    have e4:=lchk_tk e3 (l.with us).e (l.with us).n
    rw [← e4]; exact hly
   ·have hw:St o w12 (blk g3 4 [.bool false]::_):=hw
    have h1:St o w12 (LgO gl gd (l.with us) vn vt (blk g3 4 [.bool false]::obP (w5.heap.size+1) (.loop (rc .busy none))::obP w5.heap.size (.deferred (some []))::blk gA 43 [va]::own 5 1 va b.length (cb b)::blk g2 3 [.int .i64 (pos (bodsOf b) i:Nat)]::blk g1 33 [.pointer (some ⟨gl,0,none⟩)]::T)):=by
     unfold LgO
     (refine Sh.St.sub ?_ (hw); repeat (first | with_reducible (first | exact sub_refl | exact sub_nil | refine sP0 ?_ | refine sP1 ?_ | refine sP2 ?_ | refine sP3 ?_ | refine sP4 ?_ | refine sP5 ?_ | refine sP6 ?_ | refine sP7 ?_ | refine sP8 ?_ | refine sP9 ?_ | refine sP10 ?_ | refine sP11 ?_ | refine sP12 ?_ | refine sP13 ?_ | refine sP14 ?_ | refine sP15 ?_) | exact sub_refl | refine sP0 ?_ | refine sP1 ?_ | refine sP2 ?_ | refine sP3 ?_ | refine sP4 ?_ | refine sP5 ?_ | refine sP6 ?_ | refine sP7 ?_ | refine sP8 ?_ | refine sP9 ?_ | refine sP10 ?_ | refine sP11 ?_ | refine sP12 ?_ | refine sP13 ?_ | refine sP14 ?_ | refine sP15 ?_ | refine sub_drop ?_))
    exact (LgM.shut h1).swap
  rw [show (lchk t (l.with us).e (l.with us).n != 0)=false by rw [hl]; rfl,condF]
  refine ⟨fun w12 hd=>?_⟩
  have hw:=hw.drew hd
  refine rr_load one33 (hw.at m1 0 rfl) (rr_load one33 (hw.at m1 0 rfl) ?_)
  (try simp only [o_chkp,fa_85_6p,Nat.zero_add])
  refine rr_load one22 (hw.at m2 7 rfl) (rr_loadN ag50 (xs:=t.cells) rfl (hw.cells_at m0 0 (whole_at _)) ?_)
  refine r_sliceN el22 hw 1 _ [t.cells] rfl (by omega) (by omega) (by omega) (by intro v hv; simp at hv; subst hv; rfl) rfl fun g4 w13 hw=>?_
  rw [show [t.cells].flatten=t.cells by simp] at hw
  refine rs_load one22 (hw.at m3 7 rfl) (rs_load one33 (hw.at m2 0 rfl) (rs_load one33 (hw.at m2 0 rfl) ?_))
  have hal:(l.with us).ts.length=l.ts.length+i:=by show (l.ts++us).length=_; rw [List.length_append,hul]
  refine r_append el22 (hw.pick 4) (((hw.pick 4).own_rd m1).src el22.ht hqo) (by omega) (by simp only [maxLen]; omega) fun vt2 w14 hw=>?_
  have hvo:vt2.oneCell'=true:=by obtain ⟨_,_,e⟩:=hw.own_form; rw [e]; rfl
  refine rs_load one33 (hw.at m3 0 rfl) (rs_load one33 (hw.at m3 0 rfl) ?_)
  refine r_store (hw.pick 4) one22 (by simp [lgC]) hvo fun w15 hw=>?_
  refine r_load one33 (hw.at m4 0 rfl) ?_
  refine r_loadN ag39 (xs:=zx t.e t.n) rfl (hw.cells_at m3 0 (zx_at _)) ?_
  (try simp only [o_chk,fa_85_5,Nat.zero_add])
  refine r_storeN hw ag39 (xs:=zx t.e t.n) rfl (by simp [lgC]) (zx_ones _ _) fun w16 hw=>?_
  refine r_load one33 (hw.at m4 0 rfl) ?_
  (try simp only [o_chk,fa_85_4,Nat.zero_add])
  refine r_load one3 (hw.at m0 4 rfl) ?_
  (try simp only [o_add])
  have hfe:(l.with us).fil=l.fil+us.length:=rfl
  have hbl:(bodsOf b).length≤140737488355328:=by omega
  rw [wr_i64 (x:=((l.with us).fil:Int)+1) (by rw [hfe]; omega) (by rw [hfe]; omega),show ((l.with us).fil:Int)+1=((l.fil+us.length+1:Nat):Int) by rw [hfe]; omega]
  refine r_store hw one3 (by rw [setL_length]; simp [lgC]) rfl fun w17 hw=>?_
  refine r_store (hw.pick 5) one3 (by simp) rfl fun w18 hw=>?_
  refine ⟨hw.obj m7,.inl ⟨by first | rfl | trivial,back1 _ ?_⟩⟩
  have hw:=(hw.pick 7).put_obj (.loop (rc .ready none))
  have hts:(l.with us).ts++[t]=(l.with (us++[t])).ts:=by rw [Lg.with_snoc]; rfl
  have hw:St o (w18.putObj (w5.heap.size+1) (.loop (rc .ready none))) (obP (w5.heap.size+1) (.loop (rc .ready none))::blk g2 3 [.int .i64 (pos (bodsOf b) (i+1):Nat)]::blk gl 85 (lgC gd { l with fil:=l.fil+us.length+1,e:=t.e,n:=t.n,ts:=(l.ts++us)++[t] } vn vt2)::_):=hw
  rw [← Lg.with_snoc] at hw
  have h1:St o (w18.putObj (w5.heap.size+1) (.loop (rc .ready none))) (satH ((l.with us).ts.map fun t=>OwQ t.q)::OwQ t.q::blk gl 85 (lgC gd (l.with (us++[t])) vn vt2)::own 50 16 vt2 ((l.with us).ts.length+1) (((l.with us).ts.map Tx.cells).flatten++t.cells)::own 9 1 vn (l.with us).k (segR (l.with us).num.toNat (l.with us).k)::obP (w5.heap.size+1) (.loop (rc .ready none))::obP w5.heap.size (.deferred (some []))::blk gA 43 [va]::own 5 1 va b.length (cb b)::blk g3 4 [.bool true]::blk g2 3 [.int .i64 (pos (bodsOf b) (i+1):Nat)]::blk g1 33 [.pointer (some ⟨gl,0,none⟩)]::T):=by
   unfold OwT at hw
   (refine Sh.St.sub ?_ (hw); repeat (first | with_reducible (first | exact sub_refl | exact sub_nil | refine sP0 ?_ | refine sP1 ?_ | refine sP2 ?_ | refine sP3 ?_ | refine sP4 ?_ | refine sP5 ?_ | refine sP6 ?_ | refine sP7 ?_ | refine sP8 ?_ | refine sP9 ?_ | refine sP10 ?_ | refine sP11 ?_ | refine sP12 ?_ | refine sP13 ?_ | refine sP14 ?_ | refine sP15 ?_) | exact sub_refl | refine sP0 ?_ | refine sP1 ?_ | refine sP2 ?_ | refine sP3 ?_ | refine sP4 ?_ | refine sP5 ?_ | refine sP6 ?_ | refine sP7 ?_ | refine sP8 ?_ | refine sP9 ?_ | refine sP10 ?_ | refine sP11 ?_ | refine sP12 ?_ | refine sP13 ?_ | refine sP14 ?_ | refine sP15 ?_ | refine sub_drop ?_))
  have h2:=h1.all_snoc
  have e2:((l.with us).ts.map fun t=>OwQ t.q)++[OwQ t.q]=(l.with (us++[t])).ts.map fun t=>OwQ t.q:=by rw [← hts]; simp
  have e3:((l.with us).ts.map Tx.cells).flatten++t.cells=((l.with (us++[t])).ts.map Tx.cells).flatten:=by rw [← hts]; simp
  have e4:(l.with us).ts.length+1=(l.with (us++[t])).ts.length:=by rw [← hts]; simp
  rw [e2,e3,e4] at h2
  have h3:St o (w18.putObj (w5.heap.size+1) (.loop (rc .ready none))) (LgO gl gd (l.with (us++[t])) vn vt2 (obP (w5.heap.size+1) (.loop (rc .ready none))::obP w5.heap.size (.deferred (some []))::blk gA 43 [va]::own 5 1 va b.length (cb b)::blk g3 4 [.bool true]::blk g2 3 [.int .i64 (pos (bodsOf b) (i+1):Nat)]::blk g1 33 [.pointer (some ⟨gl,0,none⟩)]::T)):=by
   unfold LgO OwT
   have e5:own 9 1 vn (l.with us).k (segR (l.with us).num.toNat (l.with us).k)=own 9 1 vn (l.with (us++[t])).k (segR (l.with (us++[t])).num.toNat (l.with (us++[t])).k):=rfl
   rw [e5] at h2
   (refine Sh.St.sub ?_ (h2); repeat (first | with_reducible (first | exact sub_refl | exact sub_nil | refine sP0 ?_ | refine sP1 ?_ | refine sP2 ?_ | refine sP3 ?_ | refine sP4 ?_ | refine sP5 ?_ | refine sP6 ?_ | refine sP7 ?_ | refine sP8 ?_ | refine sP9 ?_ | refine sP10 ?_ | refine sP11 ?_ | refine sP12 ?_ | refine sP13 ?_ | refine sP14 ?_ | refine sP15 ?_) | exact sub_refl | refine sP0 ?_ | refine sP1 ?_ | refine sP2 ?_ | refine sP3 ?_ | refine sP4 ?_ | refine sP5 ?_ | refine sP6 ?_ | refine sP7 ?_ | refine sP8 ?_ | refine sP9 ?_ | refine sP10 ?_ | refine sP11 ?_ | refine sP12 ?_ | refine sP13 ?_ | refine sP14 ?_ | refine sP15 ?_ | refine sub_drop ?_))
  have hT:Took l (bodsOf b) (i+1) (us++[t]):=⟨by simp [hul],by rw [List.take_succ_eq_append_getElem hi,List.map_append,hum,htb]; rfl,huc.snoc hok hUq hl⟩
  have h4:=((LgM.shut h3).pure_intro hT).ex_intro (F:=fun us h=>Took l (bodsOf b) (i+1) us∧LgM gl gd (l.with us) h) (us++[t])
  have h5:St o (w18.putObj (w5.heap.size+1) (.loop (rc .ready none))) (LgR gl gd l (bodsOf b) (i+1)::_):=h4
  (refine Sh.St.sub ?_ (h5); repeat (first | with_reducible (first | exact sub_refl | exact sub_nil | refine sP0 ?_ | refine sP1 ?_ | refine sP2 ?_ | refine sP3 ?_ | refine sP4 ?_ | refine sP5 ?_ | refine sP6 ?_ | refine sP7 ?_ | refine sP8 ?_ | refine sP9 ?_ | refine sP10 ?_ | refine sP11 ?_ | refine sP12 ?_ | refine sP13 ?_ | refine sP14 ?_ | refine sP15 ?_) | exact sub_refl | refine sP0 ?_ | refine sP1 ?_ | refine sP2 ?_ | refine sP3 ?_ | refine sP4 ?_ | refine sP5 ?_ | refine sP6 ?_ | refine sP7 ?_ | refine sP8 ?_ | refine sP9 ?_ | refine sP10 ?_ | refine sP11 ?_ | refine sP12 ?_ | refine sP13 ?_ | refine sP14 ?_ | refine sP15 ?_ | refine sub_drop ?_))
 ·rcases hr with hS | hS
  ·refine .inl ⟨hS.obj m0,?_⟩
   have hS:=hS.put_obj (.loop (rc .exhausted none))
   refine ⟨fun w7 hd=>?_⟩
   have hS:=hS.drew hd
   refine rr_load one3 (hS.at m5 0 rfl) (rr_load one4 (hS.at m4 0 rfl) ?_)
   refine r_store (hS.pick 5) one3 (by simp) rfl fun w8 hS=>?_
   refine rs_load one4 (hS.at m5 0 rfl) ?_
   refine r_store (hS.pick 5) one4 (by simp) rfl fun w9 hS=>?_
   refine ⟨hS.obj m3,?_⟩
   have hS:=(hS.pick 3).put_obj (.deferred none)
   refine r_res one3 (hS.at m2 0 rfl) (r_res one4 (hS.at m1 0 rfl) ?_)
   obtain ⟨us,hS⟩:=(hS.pick 7).ex
   obtain ⟨⟨h1,h2,h3⟩,hS⟩:=hS.pure
   refine ⟨us,⟨rfl,by rw [h1]; exact h2,h3⟩,.inl h1,by rw [h1]; simp,?_⟩
   (refine Sh.St.sub ?_ (hS); repeat (first | with_reducible (first | exact sub_refl | exact sub_nil | refine sP0 ?_ | refine sP1 ?_ | refine sP2 ?_ | refine sP3 ?_ | refine sP4 ?_ | refine sP5 ?_ | refine sP6 ?_ | refine sP7 ?_ | refine sP8 ?_ | refine sP9 ?_ | refine sP10 ?_ | refine sP11 ?_ | refine sP12 ?_ | refine sP13 ?_ | refine sP14 ?_ | refine sP15 ?_) | exact sub_refl | refine sP0 ?_ | refine sP1 ?_ | refine sP2 ?_ | refine sP3 ?_ | refine sP4 ?_ | refine sP5 ?_ | refine sP6 ?_ | refine sP7 ?_ | refine sP8 ?_ | refine sP9 ?_ | refine sP10 ?_ | refine sP11 ?_ | refine sP12 ?_ | refine sP13 ?_ | refine sP14 ?_ | refine sP15 ?_ | refine sub_drop ?_))
  ·refine .inr (.inr ⟨0,hS.obj m0,?_⟩)
   have hS:=hS.put_obj (.loop (rc .exhausted (some (.exit 0))))
   obtain ⟨us,hS⟩:=(hS.pick 5).ex
   obtain ⟨⟨hT,hst⟩,hS⟩:=hS.pure
   have hS:=hS.sep
   rw [show Nat.beq 0 0=true from rfl,cond_true]
   refine ⟨fun w7 hd=>?_⟩
   have hS:=hS.drew hd
   refine rr_load one3 (hS.at m0 0 rfl) (rr_load one4 (hS.at m6 0 rfl) ?_)
   refine r_store hS one3 (by simp) rfl fun w8 hS=>?_
   refine rs_load one4 (hS.at m6 0 rfl) ?_
   refine r_store (hS.pick 6) one4 (by simp) rfl fun w9 hS=>?_
   refine ⟨hS.obj m4,?_⟩
   have hS:=(hS.pick 4).put_obj (.deferred none)
   refine r_res one3 (hS.at m2 0 rfl) (r_res one4 (hS.at m1 0 rfl) ?_)
   obtain ⟨hj,hst2⟩:=hst
   refine ⟨us,hT,.inr ⟨hj,hst2⟩,?_,?_⟩
   ·rw [show (us.length == (bodsOf b).length)=false by rw [beq_eq_false_iff_ne]; omega]
   ·(refine Sh.St.sub ?_ (hS); repeat (first | with_reducible (first | exact sub_refl | exact sub_nil | refine sP0 ?_ | refine sP1 ?_ | refine sP2 ?_ | refine sP3 ?_ | refine sP4 ?_ | refine sP5 ?_ | refine sP6 ?_ | refine sP7 ?_ | refine sP8 ?_ | refine sP9 ?_ | refine sP10 ?_ | refine sP11 ?_ | refine sP12 ?_ | refine sP13 ?_ | refine sP14 ?_ | refine sP15 ?_) | exact sub_refl | refine sP0 ?_ | refine sP1 ?_ | refine sP2 ?_ | refine sP3 ?_ | refine sP4 ?_ | refine sP5 ?_ | refine sP6 ?_ | refine sP7 ?_ | refine sP8 ?_ | refine sP9 ?_ | refine sP10 ?_ | refine sP11 ?_ | refine sP12 ?_ | refine sP13 ?_ | refine sP14 ?_ | refine sP15 ?_ | refine sub_drop ?_))
end
end Go.Proofs.YtbdfhfceffkhgaaGreatDoor


/- Open. -/
set_option linter.unusedVariables false
set_option linter.unusedSimpArgs false
namespace Go.Proofs.YtbdfhfceffkhgaaGreatDoor
open Go.Sh
open Tryz renaming prog → π
def Lg.seg (l:Lg):Lg:={ l with k:=l.k+1,fil:=0 }
def OpR (a:Int):Nat→Nat→Dk→Lg→Option Lg × Int × Dk→Prop
 | 0,_,d,l,res=>res=(some l,0,d)
 | r+1,i,d,l,res=>∃us,Took l.seg (bodsOf (d.bytes (nameI a (i+1:Nat)))) us.length us∧(us.length=(bodsOf (d.bytes (nameI a (i+1:Nat)))).length∨Stop l.seg (bodsOf (d.bytes (nameI a (i+1:Nat)))) us) ∧
  if us.length ≠ (bodsOf (d.bytes (nameI a (i+1:Nat)))).length∨(r ≠ 0∧(pos (bodsOf (d.bytes (nameI a (i+1:Nat)))) us.length < (d.bytes (nameI a (i+1:Nat))).length∨us.length=0)) then res=(none,101,d)
  else if pos (bodsOf (d.bytes (nameI a (i+1:Nat)))) us.length < (d.bytes (nameI a (i+1:Nat))).length then
   if (d.cut (nameI a (i+1:Nat)) (pos (bodsOf (d.bytes (nameI a (i+1:Nat)))) us.length:Nat)).1 ≠ 0 then res=(none,(d.cut (nameI a (i+1:Nat)) (pos (bodsOf (d.bytes (nameI a (i+1:Nat)))) us.length:Nat)).1,(d.cut (nameI a (i+1:Nat)) (pos (bodsOf (d.bytes (nameI a (i+1:Nat)))) us.length:Nat)).2)
   else OpR a r (i+1) (d.cut (nameI a (i+1:Nat)) (pos (bodsOf (d.bytes (nameI a (i+1:Nat)))) us.length:Nat)).2 (l.seg.with us) res
  else OpR a r (i+1) d (l.seg.with us) res
def opE (d:Dk) (num size:Int) (K:Nat):Int:=if num < 1∨size < 1∨64 < size then 1 else if d.on=false then 23 else if K=0 then 20 else 0
def OpnP (g:Nat) (d:Dk) (num size e n:Int) (K:Nat) (o:World) (R:List HProp) (r:Value) (w':World):Prop:=
 (opE d num size K ≠ 0∧r=.tuple #[.pointer none,.int .i64 (opE d num size K)]∧St o w' (DiskM g d::R)) ∨
 (opE d num size K=0∧∃res,OpR num K 0 d ⟨num,size,0,0,e,n,[]⟩ res∧((∃x d',res=(none,x,d')∧x ≠ 0∧r=.tuple #[.pointer none,.int .i64 x]∧St o w' (DiskM g d'::R)) ∨
  (∃l d' gl,res=(some l,0,d')∧r=.tuple #[.pointer (some ⟨gl,0,none⟩),.int .i64 0]∧St o w' (LgM gl g l::DiskM g d'::R))))
theorem bods_count (b:List UInt8):(bodsOf b).length≤b.length:=by
 have key:∀(k:Nat) (l:List UInt8),(bods k l).length≤k:=by
  intro k
  induction k with
  | zero=>intro l; simp [bods]
  | succ k ih=>
   intro l
   rw [bods]
   cases frst l with
   | none=>simp
   | some c=>have:=ih (l.drop (c.length+9)); simp; exact this
 exact key _ _
theorem AtB_all (l:List UInt8):∀j,j≤(bodsOf l).length→AtB l j
 | 0,_=>AtB.zero l
 | j+1,h=>by
  have ih:=AtB_all l j (by omega)
  cases hf:frst (l.drop (pos (bodsOf l) j)) with
  | none=>have:=ih.stop hf; omega
  | some b=>obtain ⟨_,_,h2,_⟩:=ih.next hf; exact h2
theorem dkb_len {d:Dk} (h:d.ok) (n:Bs):(d.bytes n).length≤16777216:=by
 unfold Dk.bytes
 cases hf:d.fs[ix d.fs n]? with
 | none=>simp
 | some f=>
  have hm:=List.mem_of_getElem? hf
  have:=total_ge hm
  have:=h.used
  have:=h.room
  simp
  omega
section
variable (Z:PZ) {o w:World} {R As:List HProp} {g:Nat} {d:Dk}
theorem lOpen (num size e n:Int) (K:Nat) (hnum : -9223372036854775808≤num∧num≤9223372036854775807) (hsz : -9223372036854775808≤size∧size≤9223372036854775807) (hK:K≤4095)
  (hseg:sortI (segNos num.toNat d.fs)=(List.range K).map fun i=>((i+1:Nat):Int)) (hat:∀i,i < K→isAt d.fs (nameB num.toNat (i+1))=true)
  (hP:∀f ∈ d.fs,∀rest,f.nm=preB num.toNat++rest→isHex rest∧1≤rest.length∧rest.length≤15) (hN:Names o) (hB:Bits o) (ho:old o ∈ R) (h:St o w (DiskM g d::R)) :
  CallV π Z 15 #[.pointer (some ⟨g,0,none⟩),.int .i64 num,.int .i64 size,.agg (zx e n).toArray] w (OpnP g d num size e n K o R):=by
 have hok:d.ok:=by obtain ⟨_,_,hk,_⟩:=DiskM.open h; exact hk
 refine f15.calls ?_
 unfold f15.sh
 refine r_box _ _ h fun gz w1 hS=>?_
 have hS:St o w1 (blk gz 39 (zx e n)::DiskM g d::R):=hS
 refine (lBegun Z num size hS.swap).mono fun r w2 hr=>?_
 rcases hr with ⟨hb,rfl,hS⟩ | ⟨hb,gl,rfl,hS⟩
 ·have e0:opE d num size K=1:=if_pos hb
  (try simp only [o_ext2_1,o_neq,Int.reduceBNe,condT,o_ext2_0])
  exact .inl ⟨by rw [e0]; decide,by rw [e0],hS.swap.drop⟩
 unfold badArg at hb
 (try simp only [o_ext2_1,o_neq,bne_self_eq_false,condF,o_ext2_0,o_chk,fa_85_4,Nat.zero_add,fa_85_3,fa_85_5])
 refine (dOnM Z hS.swap).mono fun r w4 ⟨hr,hS⟩=>?_
 subst hr
 cases hon:d.on with
 | false=>
  have e0:opE d num size K=23:=by unfold opE; rw [if_neg hb,if_pos hon]
  (try simp only [o_not,Bool.not_false,condT])
  exact .inl ⟨by rw [e0]; decide,by rw [e0],hS.swap.drop.swap.drop⟩
 | true=>
 (try simp only [o_not,Bool.not_true,condF])
 have hno:((num.toNat:Nat):Int)=num:=by omega
 have hseg1:=lSegments Z (g:=g) (d:=d) num.toNat ⟨by omega,by omega⟩ hP hok.many hB (by simp [ho]) hS
 rw [hno] at hseg1
 refine hseg1.mono fun r w5 hS=>?_
 rw [hseg] at hS
 clear hseg1
 have hKl:((List.range K).map fun i=>((i+1:Nat):Int)).length=K:=by simp
 rw [hKl] at hS
 obtain ⟨va,vc,rfl⟩:=hS.own_form
 have hix:∀{w:World} {As:List HProp} (i:Nat),i < K→St o w As→own 3 1 (.slice va K vc) K (ci ((List.range K).map fun i=>((i+1:Nat):Int))) ∈ As→∃p,(∀w,(Instr.indexAt 23 (.slice va K vc) (.int .i64 i)).run π w=.ok (.pointer (some p)) w)∧w.cell? p=some (.int .i64 ((i+1:Nat):Int)):=fun i hi hS hm=>by
  obtain ⟨p,hp,hpc,_⟩:=(hS.own_rd hm).index el23 .i64 i hi
  refine ⟨p,hp,?_⟩
  rw [hpc,ci_at (by simp [hi])]
  simp
 (try simp only [ln_23_3,o_sub,o_eql])
 by_cases hK0:K=0
 ·subst hK0
  have e0:opE d num size 0=20:=by unfold opE; rw [if_neg hb,if_neg (by simp [hon]),if_pos rfl]
  refine (fun (hh:OpnP g d num size e n 0 o R (.tuple #[.pointer none,.int .i64 20]) w5)=>?_) (.inl ⟨by rw [e0]; decide,by rw [e0],by (refine Sh.St.sub ?_ (hS); repeat (first | with_reducible (first | exact sub_refl | exact sub_nil | refine sP0 ?_ | refine sP1 ?_ | refine sP2 ?_ | refine sP3 ?_ | refine sP4 ?_ | refine sP5 ?_ | refine sP6 ?_ | refine sP7 ?_ | refine sP8 ?_ | refine sP9 ?_ | refine sP10 ?_ | refine sP11 ?_ | refine sP12 ?_ | refine sP13 ?_ | refine sP14 ?_ | refine sP15 ?_) | exact sub_refl | refine sP0 ?_ | refine sP1 ?_ | refine sP2 ?_ | refine sP3 ?_ | refine sP4 ?_ | refine sP5 ?_ | refine sP6 ?_ | refine sP7 ?_ | refine sP8 ?_ | refine sP9 ?_ | refine sP10 ?_ | refine sP11 ?_ | refine sP12 ?_ | refine sP13 ?_ | refine sP14 ?_ | refine sP15 ?_ | refine sub_drop ?_))⟩)
  have e1:(((0:Nat):Int) == 0)=true:=rfl
  (try simp only [e1,o_pickT,condT,guardW_tf])
  exact hh
 have e1:((K:Int) == 0)=false:=by rw [beq_eq_false_iff_ne]; omega
 have e0:opE d num size K=0:=by unfold opE; rw [if_neg hb,if_neg (by simp [hon]),if_neg hK0]
 (try simp only [e1,o_pickF,guardW_ff])
 obtain ⟨p,hp,hpc⟩:=hix 0 (by omega) hS m0
 refine r1 (hp _) (r_load one3 hpc ?_)
 refine rk (v:=.bool false) (by kernel_rfl) ?_
 (try simp only [condF])
 have hS1:St o w5 (LgM gl g ⟨num,size,0,0,0,0,[]⟩::blk gz 39 (zx e n)::own 3 1 (.slice va K vc) K (ci ((List.range K).map fun i=>((i+1:Nat):Int)))::DiskM g d::R):=by (refine Sh.St.sub ?_ (hS); repeat (first | with_reducible (first | exact sub_refl | exact sub_nil | refine sP0 ?_ | refine sP1 ?_ | refine sP2 ?_ | refine sP3 ?_ | refine sP4 ?_ | refine sP5 ?_ | refine sP6 ?_ | refine sP7 ?_ | refine sP8 ?_ | refine sP9 ?_ | refine sP10 ?_ | refine sP11 ?_ | refine sP12 ?_ | refine sP13 ?_ | refine sP14 ?_ | refine sP15 ?_) | exact sub_refl | refine sP0 ?_ | refine sP1 ?_ | refine sP2 ?_ | refine sP3 ?_ | refine sP4 ?_ | refine sP5 ?_ | refine sP6 ?_ | refine sP7 ?_ | refine sP8 ?_ | refine sP9 ?_ | refine sP10 ?_ | refine sP11 ?_ | refine sP12 ?_ | refine sP13 ?_ | refine sP14 ?_ | refine sP15 ?_ | refine sub_drop ?_))
 obtain ⟨vn,vt,hS⟩:=LgM.open hS1
 clear hS1
 unfold LgO at hS
 refine r_loadN ag39 (xs:=zx e n) rfl (hS.cells_at m4 0 (whole_at _)) ?_
 refine r_storeN hS ag39 (xs:=zx e n) rfl (by simp [lgC]) (zx_ones _ _) fun w6 hS=>?_
 have hS:St o w6 (blk gl 85 (lgC g ⟨num,size,0,0,e,n,[]⟩ vn vt)::_):=hS
 have hS:St o w6 (LgM gl g ⟨num,size,0,0,e,n,[]⟩::DiskM g d::own 3 1 (.slice va K vc) K (ci ((List.range K).map fun i=>((i+1:Nat):Int)))::R):=by
  refine LgM.shut (vn:=vn) (vt:=vt) ?_
  unfold LgO
  (refine Sh.St.sub ?_ (hS); repeat (first | with_reducible (first | exact sub_refl | exact sub_nil | refine sP0 ?_ | refine sP1 ?_ | refine sP2 ?_ | refine sP3 ?_ | refine sP4 ?_ | refine sP5 ?_ | refine sP6 ?_ | refine sP7 ?_ | refine sP8 ?_ | refine sP9 ?_ | refine sP10 ?_ | refine sP11 ?_ | refine sP12 ?_ | refine sP13 ?_ | refine sP14 ?_ | refine sP15 ?_) | exact sub_refl | refine sP0 ?_ | refine sP1 ?_ | refine sP2 ?_ | refine sP3 ?_ | refine sP4 ?_ | refine sP5 ?_ | refine sP6 ?_ | refine sP7 ?_ | refine sP8 ?_ | refine sP9 ?_ | refine sP10 ?_ | refine sP11 ?_ | refine sP12 ?_ | refine sP13 ?_ | refine sP14 ?_ | refine sP15 ?_ | refine sub_drop ?_))
 refine ⟨fun m y w'=>∃(i:Nat) (dd:Dk) (l:Lg),y=.int .i64 i∧m+i=K∧(∀res,OpR num m i dd l res→OpR num K 0 d ⟨num,size,0,0,e,n,[]⟩ res)∧l.num=num∧l.k=i∧l.ts.length≤i * 16777216∧(m ≠ 0→dd=d) ∧
  St o w' (LgM gl g l::DiskM g dd::own 3 1 (.slice va K vc) K (ci ((List.range K).map fun i=>((i+1:Nat):Int)))::R),⟨K,0,d,⟨num,size,0,0,e,n,[]⟩,rfl,rfl,fun res hr=>hr,rfl,rfl,Nat.le_refl _,fun _=>rfl,hS⟩,?_⟩
 clear hS
 rintro m _ w7 ⟨i,dd,l,rfl,hi,himp,hln,hlk,hlt,hdd,hT⟩ _
 by_cases hlt2:(i:Int) < (K:Int)
 case neg=>
  obtain rfl:m=0:=by omega
  (try simp only [o_add,o_eql,o_lss,hlt2,decide_false,condF])
  exact .inr ⟨e0,(some l,0,dd),himp _ rfl,.inr ⟨l,dd,gl,rfl,rfl,by (refine Sh.St.sub ?_ (hT); repeat (first | with_reducible (first | exact sub_refl | exact sub_nil | refine sP0 ?_ | refine sP1 ?_ | refine sP2 ?_ | refine sP3 ?_ | refine sP4 ?_ | refine sP5 ?_ | refine sP6 ?_ | refine sP7 ?_ | refine sP8 ?_ | refine sP9 ?_ | refine sP10 ?_ | refine sP11 ?_ | refine sP12 ?_ | refine sP13 ?_ | refine sP14 ?_ | refine sP15 ?_) | exact sub_refl | refine sP0 ?_ | refine sP1 ?_ | refine sP2 ?_ | refine sP3 ?_ | refine sP4 ?_ | refine sP5 ?_ | refine sP6 ?_ | refine sP7 ?_ | refine sP8 ?_ | refine sP9 ?_ | refine sP10 ?_ | refine sP11 ?_ | refine sP12 ?_ | refine sP13 ?_ | refine sP14 ?_ | refine sP15 ?_ | refine sub_drop ?_))⟩⟩
 obtain ⟨r,rfl⟩:∃r,m=r+1:=⟨m - 1,by omega⟩
 obtain rfl:=hdd (by omega)
 have hS:=hT
 clear hT
 (try simp only [o_add,o_eql,o_lss,hlt2,decide_true,condT])
 intro j23 hj23
 obtain ⟨p,hp,hpc⟩:=hix i (by omega) hS m2
 refine r1 (hp _) (r_load one3 hpc ?_)
 refine (lName Z num (i+1:Nat) hnum ⟨by omega,by omega⟩ hB (by simp [ho]) hS).mono fun r w8 ⟨hr,hS⟩=>?_
 subst hr
 have hnm:nameI num (i+1:Nat)=nameB num.toNat (i+1):=by
  unfold nameI
  rw [if_neg (by omega)]
  rfl
 have hfound:dd.found (nameI num (i+1:Nat))=0:=by
  unfold Dk.found Dk.asked
  rw [hnm,hon]
  have:=nameB_ok (a:=num.toNat) (k:=i+1) (by omega) (by omega)
  simp [this,hat i (by omega)]
 have hnl:=nameI_len num (i+1:Nat)
 refine (dRead Z (nameI num (i+1:Nat)) (by omega) hS.swap).mono fun r w9 hr=>?_
 rcases hr with ⟨hne,_⟩ | ⟨_,vb,hr,hS⟩
 ·exact absurd hfound hne
 subst hr
 have hbl:=dkb_len hok (nameI num (i+1:Nat))
 (try simp only [o_neq,o_ext2_1,bne_self_eq_false,condF,o_ext2_0])
 generalize hbb:dd.bytes (nameI num (i+1:Nat))=b at hS hbl
 have hS1:St o w9 (LgM gl g l::own 5 1 vb b.length (cb b)::DiskM g dd::own 3 1 (.slice va K vc) K (ci ((List.range K).map fun i=>((i+1:Nat):Int)))::R):=by (refine Sh.St.sub ?_ (hS); repeat (first | with_reducible (first | exact sub_refl | exact sub_nil | refine sP0 ?_ | refine sP1 ?_ | refine sP2 ?_ | refine sP3 ?_ | refine sP4 ?_ | refine sP5 ?_ | refine sP6 ?_ | refine sP7 ?_ | refine sP8 ?_ | refine sP9 ?_ | refine sP10 ?_ | refine sP11 ?_ | refine sP12 ?_ | refine sP13 ?_ | refine sP14 ?_ | refine sP15 ?_) | exact sub_refl | refine sP0 ?_ | refine sP1 ?_ | refine sP2 ?_ | refine sP3 ?_ | refine sP4 ?_ | refine sP5 ?_ | refine sP6 ?_ | refine sP7 ?_ | refine sP8 ?_ | refine sP9 ?_ | refine sP10 ?_ | refine sP11 ?_ | refine sP12 ?_ | refine sP13 ?_ | refine sP14 ?_ | refine sP15 ?_ | refine sub_drop ?_))
 obtain ⟨vn2,vt2,hS⟩:=LgM.open hS1
 clear hS1
 unfold LgO at hS
 refine r_load one66 (hS.at m0 3 rfl) ?_
 refine r_push el66 (hS.pick 1) (.string (str (nameI num (i+1:Nat)))) rfl (by omega) (by simp only [maxLen]; omega) fun v3 w10 hS=>?_
 have hvo:v3.oneCell'=true:=by obtain ⟨_,_,e⟩:=hS.own_form; rw [e]; rfl
 refine r_store (hS.pick 1) one66 (by simp [lgC]) hvo fun w11 hS=>?_
 refine r_store hS one3 (by simp [lgC]) rfl fun w12 hS=>?_
 have hS:St o w12 (LgM gl g l.seg::own 5 1 vb b.length (cb b)::DiskM g dd::own 3 1 (.slice va K vc) K (ci ((List.range K).map fun i=>((i+1:Nat):Int)))::R):=by
  refine LgM.shut (vn:=v3) (vt:=vt2) ?_
  have hS:St o w12 (blk gl 85 (lgC g l.seg v3 vt2)::own 9 1 v3 (l.k+1) (segR l.num.toNat l.k++[.string (str (nameI num (i+1:Nat)))])::own 50 16 vt2 l.seg.ts.length (l.seg.ts.map Tx.cells).flatten::OwT l.seg.ts::_):=hS
  have e5:segR l.num.toNat l.k++[.string (str (nameI num (i+1:Nat)))]=segR l.seg.num.toNat l.seg.k:=by
   show _=segR l.num.toNat (l.k+1)
   rw [segR_succ,hnm,hln,hlk]
  rw [e5] at hS
  have hS:St o w12 (blk gl 85 (lgC g l.seg v3 vt2)::own 9 1 v3 l.seg.k (segR l.seg.num.toNat l.seg.k)::_):=hS
  unfold LgO
  (refine Sh.St.sub ?_ (hS); repeat (first | with_reducible (first | exact sub_refl | exact sub_nil | refine sP0 ?_ | refine sP1 ?_ | refine sP2 ?_ | refine sP3 ?_ | refine sP4 ?_ | refine sP5 ?_ | refine sP6 ?_ | refine sP7 ?_ | refine sP8 ?_ | refine sP9 ?_ | refine sP10 ?_ | refine sP11 ?_ | refine sP12 ?_ | refine sP13 ?_ | refine sP14 ?_ | refine sP15 ?_) | exact sub_refl | refine sP0 ?_ | refine sP1 ?_ | refine sP2 ?_ | refine sP3 ?_ | refine sP4 ?_ | refine sP5 ?_ | refine sP6 ?_ | refine sP7 ?_ | refine sP8 ?_ | refine sP9 ?_ | refine sP10 ?_ | refine sP11 ?_ | refine sP12 ?_ | refine sP13 ?_ | refine sP14 ?_ | refine sP15 ?_ | refine sub_drop ?_))
 have hct:=bods_count b
 refine (lRead Z (l:=l.seg) (b:=b) (n:=b.length) hN (by simp [ho]) (Ent.own m0) (by omega) (show 0≤_ by omega) (show (l.ts.length+_) * 168≤_ by omega) hS).mono fun rr w13 ⟨us,hTk,hst,hrr,hS⟩=>?_
 subst hrr
 have hul:us.length≤(bodsOf b).length:=by rcases hst with h | ⟨h,_⟩ <;> omega
 have hpl:=(AtB_all b us.length hul).pl
 have hcf:w13.cell? ⟨gl,4,none⟩=some (.int .i64 (us.length:Nat)):=by
  obtain ⟨vn4,vt4,h4⟩:=LgM.open hS
  unfold LgO at h4
  have:=h4.at m0 4 rfl
  rw [this]
  show some (Value.int .i64 ((0+us.length:Nat):Int))=_
  rw [Nat.zero_add]
 have e48:(((i+1:Nat):Int) != IntKind.i64.wrap ((i:Int)+1))=false:=by
  rw [wr_i64 (by omega) (by omega)]; simp
 obtain ⟨vba,vbc,rfl⟩:=(hS.own_rd m1).form
 have torn:(us.length ≠ (bodsOf b).length∨(r ≠ 0∧(pos (bodsOf b) us.length < b.length∨us.length=0)))→OpnP g dd num size e n K o R (.tuple #[.pointer none,.int .i64 101]) w13:=fun hc=>by
  refine .inr ⟨e0,(none,101,dd),himp _ ⟨us,?_⟩,.inl ⟨101,dd,rfl,by decide,rfl,by (refine Sh.St.sub ?_ (hS); repeat (first | with_reducible (first | exact sub_refl | exact sub_nil | refine sP0 ?_ | refine sP1 ?_ | refine sP2 ?_ | refine sP3 ?_ | refine sP4 ?_ | refine sP5 ?_ | refine sP6 ?_ | refine sP7 ?_ | refine sP8 ?_ | refine sP9 ?_ | refine sP10 ?_ | refine sP11 ?_ | refine sP12 ?_ | refine sP13 ?_ | refine sP14 ?_ | refine sP15 ?_) | exact sub_refl | refine sP0 ?_ | refine sP1 ?_ | refine sP2 ?_ | refine sP3 ?_ | refine sP4 ?_ | refine sP5 ?_ | refine sP6 ?_ | refine sP7 ?_ | refine sP8 ?_ | refine sP9 ?_ | refine sP10 ?_ | refine sP11 ?_ | refine sP12 ?_ | refine sP13 ?_ | refine sP14 ?_ | refine sP15 ?_ | refine sub_drop ?_))⟩⟩
  rw [hbb]
  exact ⟨hTk,hst,by rw [if_pos hc]⟩
 have next:∀(dd':Dk) (w':World),(r ≠ 0→dd'=dd)→(∀res,OpR num r (i+1) dd' (l.seg.with us) res→OpR num (r+1) i dd l res)→St o w' (LgM gl g (l.seg.with us)::own 5 1 (.slice vba b.length vbc) b.length (cb b)::DiskM g dd'::own 3 1 (.slice va K vc) K (ci ((List.range K).map fun i=>((i+1:Nat):Int)))::R)→j23 w':=fun dd' w' h1 h2 h3=>by
  refine hj23 _ fun _=>?_
  rw [wr_i64 (x:=(i:Int)+1) (by omega) (by omega)]
  refine ⟨r,by omega,i+1,dd',l.seg.with us,rfl,by omega,fun res hr=>himp res (h2 res hr),hln,?_,?_,h1,by (refine Sh.St.sub ?_ (h3); repeat (first | with_reducible (first | exact sub_refl | exact sub_nil | refine sP0 ?_ | refine sP1 ?_ | refine sP2 ?_ | refine sP3 ?_ | refine sP4 ?_ | refine sP5 ?_ | refine sP6 ?_ | refine sP7 ?_ | refine sP8 ?_ | refine sP9 ?_ | refine sP10 ?_ | refine sP11 ?_ | refine sP12 ?_ | refine sP13 ?_ | refine sP14 ?_ | refine sP15 ?_) | exact sub_refl | refine sP0 ?_ | refine sP1 ?_ | refine sP2 ?_ | refine sP3 ?_ | refine sP4 ?_ | refine sP5 ?_ | refine sP6 ?_ | refine sP7 ?_ | refine sP8 ?_ | refine sP9 ?_ | refine sP10 ?_ | refine sP11 ?_ | refine sP12 ?_ | refine sP13 ?_ | refine sP14 ?_ | refine sP15 ?_ | refine sub_drop ?_))⟩
  ·show l.k+1=i+1
   rw [hlk]
  ·show (l.ts++us).length≤_
   rw [List.length_append]; omega
 clear hj23
 by_cases hok1:us.length=(bodsOf b).length
 case neg=>
  have e1:(us.length == (bodsOf b).length)=false:=by rw [beq_eq_false_iff_ne]; exact hok1
  have torn:=torn (.inl hok1)
  (try simp only [e1,e48,ln_43_3,o_pickF,guardW_ff,o_ext2_1,o_not,Bool.not_false,o_pickT,condT,guardW_tf,guardW_u,o_ext2_0])
  exact torn
 have eok:(us.length == (bodsOf b).length)=true:=by rw [beq_iff_eq]; exact hok1
 by_cases hr0:r=0
 case neg=>
  have e46:((i:Int) == IntKind.i64.wrap ((K:Int) - 1))=false:=by
   rw [wr_i64 (by omega) (by omega),beq_eq_false_iff_ne]; omega
  by_cases hlt3:pos (bodsOf b) us.length < b.length
  ·have torn:=torn (.inr ⟨hr0,.inl hlt3⟩)
   have e58:((pos (bodsOf b) us.length:Nat):Int) < (b.length:Int):=by omega
   (try simp only [eok,e48,e46,ln_43_3,o_pickF,guardW_ff,o_ext2_1,o_not,Bool.not_true,Bool.not_false,o_pickT,guardW_true,o_ext2_0,o_lss,e58,decide_true,condT,guardW_tf])
   exact torn
  have e58:¬ ((pos (bodsOf b) us.length:Nat):Int) < (b.length:Int):=by omega
  by_cases hu0:us.length=0
  ·have torn:=torn (.inr ⟨hr0,.inr hu0⟩)
   have e64:((us.length:Int) == 0)=true:=by rw [hu0]; rfl
   (try simp only [eok,e48,e46,ln_43_3,o_pickF,guardW_ff,o_ext2_1,o_not,Bool.not_true,Bool.not_false,o_pickT,guardW_true,o_ext2_0,o_lss,e58,decide_false,condF,o_chk,fa_85_4,Nat.zero_add])
   refine r_load one3 hcf ?_
   (try simp only [o_eql,e64,condT])
   exact torn
  have e64:((us.length:Int) == 0)=false:=by rw [beq_eq_false_iff_ne]; omega
  (try simp only [eok,e48,e46,ln_43_3,o_pickF,guardW_ff,o_ext2_1,o_not,Bool.not_true,Bool.not_false,o_pickT,guardW_true,o_ext2_0,o_lss,e58,decide_false,condF,o_chk,fa_85_4,Nat.zero_add])
  refine r_load one3 hcf ?_
  (try simp only [o_eql,e64,condF])
  refine next dd _ (fun _=>rfl) (fun res hr=>⟨us,?_⟩) hS
  rw [hbb]
  refine ⟨hTk,hst,?_⟩
  rw [if_neg (by omega),if_neg hlt3]
  exact hr
 subst hr0
 have e46:((i:Int) == IntKind.i64.wrap ((K:Int) - 1))=true:=by
  rw [wr_i64 (by omega) (by omega),beq_iff_eq]; omega
 by_cases hlt3:pos (bodsOf b) us.length < b.length
 case neg=>
  have e58:¬ ((pos (bodsOf b) us.length:Nat):Int) < (b.length:Int):=by omega
  (try simp only [eok,e48,e46,ln_43_3,o_pickF,guardW_ff,o_ext2_1,o_not,Bool.not_true,condF,guardW_ft,guardW_u,o_ext2_0,o_lss,e58,decide_false])
  refine next dd _ (fun _=>rfl) (fun res hr=>⟨us,?_⟩) hS
  rw [hbb]
  refine ⟨hTk,hst,?_⟩
  rw [if_neg (fun h=>h.elim (fun h=>h hok1) fun h=>h.1 rfl),if_neg hlt3]
  exact hr
 have e58:((pos (bodsOf b) us.length:Nat):Int) < (b.length:Int):=by omega
 (try simp only [eok,e48,e46,ln_43_3,o_pickF,guardW_ff,o_ext2_1,o_not,Bool.not_true,condF,guardW_ft,guardW_u,o_ext2_0,o_lss,e58,decide_true,condT])
 refine (dCut Z (nameI num (i+1:Nat)) (pos (bodsOf b) us.length:Nat) (by omega) (hS.pick 2)).mono fun rr w14 ⟨hrr,hS⟩=>?_
 subst hrr
 refine r1 (run_neq_int _ _ _ _ _ _ _ _) ?_
 by_cases hc0:(dd.cut (nameI num (i+1:Nat)) (pos (bodsOf b) us.length:Nat)).1=0
 case neg=>
  rw [bne_iff_ne.2 hc0,condT]
  refine .inr ⟨e0,(none,_,_),himp _ ⟨us,?_⟩,.inl ⟨_,_,rfl,hc0,rfl,by (refine Sh.St.sub ?_ (hS); repeat (first | with_reducible (first | exact sub_refl | exact sub_nil | refine sP0 ?_ | refine sP1 ?_ | refine sP2 ?_ | refine sP3 ?_ | refine sP4 ?_ | refine sP5 ?_ | refine sP6 ?_ | refine sP7 ?_ | refine sP8 ?_ | refine sP9 ?_ | refine sP10 ?_ | refine sP11 ?_ | refine sP12 ?_ | refine sP13 ?_ | refine sP14 ?_ | refine sP15 ?_) | exact sub_refl | refine sP0 ?_ | refine sP1 ?_ | refine sP2 ?_ | refine sP3 ?_ | refine sP4 ?_ | refine sP5 ?_ | refine sP6 ?_ | refine sP7 ?_ | refine sP8 ?_ | refine sP9 ?_ | refine sP10 ?_ | refine sP11 ?_ | refine sP12 ?_ | refine sP13 ?_ | refine sP14 ?_ | refine sP15 ?_ | refine sub_drop ?_))⟩⟩
  rw [hbb]
  refine ⟨hTk,hst,?_⟩
  rw [if_neg (fun h=>h.elim (fun h=>h hok1) fun h=>h.1 rfl),if_pos hlt3,if_pos hc0]
 rw [show ((dd.cut (nameI num (i+1:Nat)) (pos (bodsOf b) us.length:Nat)).1 != 0)=false by rw [hc0]; rfl,condF]
 refine next _ _ (fun h=>absurd rfl h) (fun res hr=>⟨us,?_⟩) (by (refine Sh.St.sub ?_ (hS); repeat (first | with_reducible (first | exact sub_refl | exact sub_nil | refine sP0 ?_ | refine sP1 ?_ | refine sP2 ?_ | refine sP3 ?_ | refine sP4 ?_ | refine sP5 ?_ | refine sP6 ?_ | refine sP7 ?_ | refine sP8 ?_ | refine sP9 ?_ | refine sP10 ?_ | refine sP11 ?_ | refine sP12 ?_ | refine sP13 ?_ | refine sP14 ?_ | refine sP15 ?_) | exact sub_refl | refine sP0 ?_ | refine sP1 ?_ | refine sP2 ?_ | refine sP3 ?_ | refine sP4 ?_ | refine sP5 ?_ | refine sP6 ?_ | refine sP7 ?_ | refine sP8 ?_ | refine sP9 ?_ | refine sP10 ?_ | refine sP11 ?_ | refine sP12 ?_ | refine sP13 ?_ | refine sP14 ?_ | refine sP15 ?_ | refine sub_drop ?_)))
 rw [hbb]
 refine ⟨hTk,hst,?_⟩
 rw [if_neg (fun h=>h.elim (fun h=>h hok1) fun h=>h.1 rfl),if_pos hlt3,if_neg (fun h=>h hc0)]
 exact hr
end

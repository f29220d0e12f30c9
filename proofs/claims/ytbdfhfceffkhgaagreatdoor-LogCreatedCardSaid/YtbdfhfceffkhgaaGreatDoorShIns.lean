/- What slices.Insert and slices.Delete want: appends of zeros, appends within the room, clear, a row just laid. Nothing of any one program stands here. -/
import Derived.Test.YtbdfhfceffkhgaaGreatDoorShOpen
import Derived.Lib.AppendZeros
import Derived.Lib.Overlaps
import Derived.Lib.SliceRun
import Derived.Laws.Externs
namespace Go.Sh
open Go.RowKit
section
variable {P:Program} {Z:PZ} {o w w':World} {kk:PQ} {R As:List HProp} {t tx tn e ty:TypeId} {sz bt n m:Nat} {z v x:Value} {xs ys:List Value}
theorem zeroCells_len {zs:Array Value} (m:Nat):(Builtin.zeroCells zs m).toList.length=m * zs.size:=by simp [Builtin.zeroCells]
theorem run_append_grow_zeros (w:World) (t tn ty e:TypeId) (i:TypeInfo) (z:Value) (k kn:IntKind) (ht:P.underlying t=some (.slice e)) (htn:P.underlying tn=some (.int kn)) (hi:P.info? e=some i) (hz:i.zero=some z)
  (base:Option Addr) (sLen sCap:Nat) (olds:List Value) (hold:(Builtin.firstCells i.size sLen (.slice base sLen sCap)).run P w.drew=.ok olds.toArray w.drew)
  (n:Nat) (h0:0 < n) (hs:0 < i.size) (hg:sCap < sLen+n) (h63:((sLen+n:Nat):Int)≤9223372036854775807) (hfit:Builtin.nextslicecap (sLen+n) sCap * i.bytes≤281474976710656) (h48:n * i.bytes≤281474976710656) :
  (Builtin.append_ #[t,tn] ty #[.slice base sLen sCap,.int k n]).run P w =
   .ok (.slice (some ⟨w.heap.size,0,none⟩) (sLen+n) (grownCap w (sLen+n) sCap e)) (w.drew.alloc (.cells (olds.toArray++Builtin.zeroCells z.cells n++Builtin.zeroCells z.cells (grownCap w (sLen+n) sCap e - (sLen+n))) e)):=by
 have hn:n ≠ 0:=by omega
 have hn2:¬ (sLen+n≤sCap):=by omega
 have hw:IntKind.i64.wrap (n:Int)=n:=by rw [IntKind.wrap_i64]; omega
 have h63':¬ (9223372036854775807 < ((sLen:Int)+(n:Int))):=by omega
 have h48':¬ (281474976710656 < Builtin.nextslicecap (sLen+n) sCap * i.bytes):=by omega
 have h48i:¬ (281474976710656 < (n:Int) * (i.bytes:Int)):=by
  rw [← Int.natCast_mul]
  omega
 have hneg:¬ ((n:Int) < 0):=by omega
 have hns:¬ (n * i.size=0):=Nat.mul_ne_zero hn (by omega)
 simp [Builtin.append_,run_underlying ht,run_underlying htn,sizeOf,typeInfo,zeroValue,hi,hz,asInt,asIntOf,hw,hn2,hneg,hns,h63',h48',h48i,Question.forced,hold,newRow,grownCap]
theorem r_appendZ {k kn:IntKind} {a:Addr} {c:Nat} (hel:El P t e sz bt z) (htn:P.underlying tn=some (.int kn)) (h:St o w R) (hx:Rd w sz (.slice (some a) n c) n xs) (h0:0 < m) (hg:c < n+m) (hb:(n+m) * bt≤140737488355328) (hm:n+m≤maxLen)
  (hk:∀g c' rest w',n+m≤c'→c'≤maxLen→(xs++((Builtin.zeroCells z.cells m).toList++rest)).length=c' * sz→St o w' (blk g e (xs++((Builtin.zeroCells z.cells m).toList++rest))::R)→kk (.slice (some ⟨g,0,none⟩) (n+m) c') w') :
  rN P Z (Builtin.append_ #[t,tn] ty #[.slice (some a) n c,.int k m]) w kk:=by
 obtain ⟨i,hi,rfl,rfl,hz⟩:=hel.info
 have hxd:=hx.drew (drawn_drew w)
 have hold:(Builtin.firstCells i.size n (.slice (some a) n c)).run P w.drew=.ok xs.toArray w.drew:=by
  obtain ⟨hl,_,⟨c',hq,_⟩ | ⟨a',c',hq,hc⟩⟩:=hxd
  ·injection hq with hq; cases hq
  ·injection hq with hq
   injection hq with hq
   subst hq
   exact run_firstCells_some w.drew i.size n a n c xs hl hc
 have hfit:=nextcap_bound _ _ _ hg hb
 have h48:m * i.bytes≤281474976710656:=by
  have:m * i.bytes≤(n+m) * i.bytes:=Nat.mul_le_mul_right _ (by omega)
  omega
 have hrun:=run_append_grow_zeros (P:=P) w t tn ty e i z k kn hel.ht htn hi hz (some a) n c xs hold m h0 hel.pos hg (by simp only [maxLen] at hm; omega) hfit h48
 refine r1 hrun ?_
 have hge:=grownCap_ge w (n+m) c e
 have hle:=grownCap_le_maxLen w (n+m) c e hm
 refine hk _ _ (Builtin.zeroCells z.cells (grownCap w (n+m) c e - (n+m))).toList _ hge hle ?_ ?_
 ·rw [List.length_append,List.length_append,zeroCells_len,zeroCells_len,hel.hz,hx.1,← Nat.add_mul,← Nat.add_mul]
  congr 1; omega
 ·have ha:=(h.drew (drawn_drew w)).alloc e (xs++((Builtin.zeroCells z.cells m).toList++(Builtin.zeroCells z.cells (grownCap w (n+m) c e - (n+m))).toList))
  have hbk:(xs++((Builtin.zeroCells z.cells m).toList++(Builtin.zeroCells z.cells (grownCap w (n+m) c e - (n+m))).toList)).toArray=xs.toArray++Builtin.zeroCells z.cells m++Builtin.zeroCells z.cells (grownCap w (n+m) c e - (n+m)):=by
   apply Array.ext'; simp
  rw [hbk] at ha
  exact ha
theorem r_slice1 (hel:El P t e sz bt z) (h:St o w R) (us:List Value) (hsz:sz≤16777216) (hv:us.length=sz)
  (hk:∀g w',St o w' (Sh.own e sz (.slice (some ⟨g,0,none⟩) 1 1) 1 us::R)→w'.heap[g]? = some (.cells us.toArray e)→kk (.slice (some ⟨g,0,none⟩) 1 1) w'):rN P Z (Instr.buildSlice t 1 #[(0,.agg us.toArray)]) w kk:=by
 obtain ⟨i,hi,hs,_,hz⟩:=hel.info
 have hcs:P.cellsOf e=sz:=by simp [Program.cellsOf,hi,hs]
 have hf:Instr.fill (fun i=>some (i * sz,sz)) (madeCells z.cells (1 * sz)) #[((0:Nat),Value.agg us.toArray)].toList=some us.toArray:=by
  have:=fill_allN sz [us] [] (madeCells z.cells (1 * sz)).toList 0 (by simp) (by simpa using hv) (by rw [Array.length_toList,size_madeCells]; rfl)
  simp only [List.nil_append,Array.toArray_toList,List.flatten_cons,List.flatten_nil,List.append_nil] at this
  exact this
 have hpos:=hel.pos
 have h1:¬ (1 * sz > 2 ^ 24):=by omega
 have h2:¬ (1 * sz=0):=by omega
 have hrun:(Instr.buildSlice t 1 #[(0,.agg us.toArray)]).run P w=.ok (.slice (some ⟨w.heap.size,0,none⟩) 1 1) (w.alloc (.cells us.toArray e)):=by
  have h3:(Array.range (1 * sz)).map (fun x=>z.cells[x % z.cells.size]!)=madeCells z.cells (1 * sz):=rfl
  have hzv:(zeroValue e).run P w=.ok z w:=by simp [zeroValue,run_typeInfo _ hi,hz]
  unfold Instr.buildSlice
  simp only [Sem.run_bind,run_underlying hel.ht,Result.andThen_ok,run_sizeOf _ hi,hcs,h1,h2,if_false,Sem.run_pure,hzv,h3,hf]
  simp [newRow,newObj,Sem.run,World.alloc_eq]
 have hpl:(w.alloc (.cells us.toArray e)).heap[w.heap.size]? = some (.cells us.toArray e):=by
  have:=hp_alloc w (.cells us.toArray e) w.heap.size
  rw [if_pos rfl] at this
  exact this
 refine r1 hrun (hk _ _ ?_ hpl)
 have ha:=h.alloc e us
 have hmk:=ha.own_mk (sz:=sz) (cap:=1) 1 (Nat.le_refl _) (by simp [maxLen]) (by rw [hv,Nat.one_mul])
 rw [List.take_of_length_le (by omega)] at hmk
 exact hmk
theorem run_cap {t:TypeId} (h:isSliceT P t=true) (ty:TypeId) (a:Option Addr) (n c:Nat) (w:World):(Builtin.cap_ #[t] ty #[.slice a n c]).run P w=.ok (.int .i64 c) w:=by
 obtain ⟨e,he⟩:=isSliceT_spec h
 simp [Builtin.cap_,run_underlying he,goInt]
theorem run_overlaps_fresh {g b off la ca lb cb:Nat} {tR:TypeId} (hel:El P t e sz bt z) (hplain:w.heap[g]? = some (.cells xs.toArray e)) (hb:ob e ys w.heap[b]?) (hne:g ≠ b) (hy:ys ≠ []) :
  (Extern.SlicesOverlaps.overlaps #[t,t] #[tR] #[.slice (some ⟨g,0,none⟩) la ca,.slice (some ⟨b,off,none⟩) lb cb]).run P w=.ok (.bool false) w:=by
 obtain ⟨i,hi,hs,_,_⟩:=hel.info
 obtain ⟨f,_,hf⟩:=hb
 refine Lib.run_overlaps_apart w t tR e hel.ht i.size (fun w=>by have h:=run_sizeOf (P:=P) w hi; rwa [show P.cellsOf e=i.size by simp [Program.cellsOf,hi]] at h) ⟨g,0,none⟩ ⟨b,off,none⟩ la ca lb cb hne e e xs.length ys.length ?_ ?_ ?_ ?_ ?_
 ·simp [World.shape?,hplain]
 ·simp [World.shape?,hf]
 ·simpa using hy
 ·simp [World.frozen?,hplain]
 ·simp [World.frozen?,hplain]
theorem St.rd_blk {b off c:Nat} (h:St o w As) (hm:blk b e ys ∈ As) (xs:List Value) (hl:xs.length=n * sz) (hn:n≤maxLen) (hx:∀j v,xs[j]? = some v→ys[off+j]? = some v):Rd w sz (.slice (some ⟨b,off,none⟩) n c) n xs:=
 ⟨hl,hn,.inr ⟨_,c,rfl,h.cells_at hm off hx⟩⟩
theorem St.ne {a b:Nat} {ta tb:TypeId} (h:St o w (blk a ta xs::blk b tb ys::R)):a ≠ b:=by
 obtain ⟨_,_,_,_,S,hA,T,hB,_⟩:=h
 rintro rfl
 have h1:=(blk_on hA).2
 rw [Hp.on_on] at hB
 exact (blk_on hB).2.1 h1
theorem r_copyT {b off dn dc:Nat} (hel:El P t e sz bt z) (h:St o w (blk b e ys::R)) (hx:Rd w sz x m xs) (hone:ones (xs.take (min m dn * sz))) (hfit:off+min m dn * sz≤ys.length)
  (hk:∀w',St o w' (blk b e (setL ys off (xs.take (min m dn * sz)))::R)→kk (.int .i64 (min m dn:Nat)) w') :
  rN P Z (Builtin.copy_ #[t,tx] ty #[.slice (some ⟨b,off,none⟩) dn dc,x]) w kk:=by
 obtain ⟨i,hi,rfl,_,_⟩:=hel.info
 have hlen:(xs.take (min m dn * i.size)).length=min m dn * i.size:=by
  rw [List.length_take,hx.1]
  exact Nat.min_eq_left (Nat.mul_le_mul_right _ (Nat.min_le_left _ _))
 have hst:=run_storeCells_cells (P:=P) b off (xs.take (min m dn * i.size)) 0 w (fun j hj=>by
   rw [cell_of_blk h.head_blk,List.getElem?_eq_getElem (by omega)]; rfl) (fun j hj=>frozen_of_blk h.head_blk _ (by omega)) hone
 simp only [Nat.add_zero] at hst
 have hf:(Builtin.firstCells i.size (min m dn) x).run P w=.ok (xs.take (min m dn * i.size)).toArray w:=by
  obtain ⟨_,_,⟨c,rfl,rfl⟩ | ⟨a,c,rfl,hc⟩⟩:=hx
  ·simp [Builtin.firstCells]
  ·exact run_firstCells_some w i.size _ a m c _ hlen fun j u hu=>hc j u (by
    by_cases hj:j < min m dn * i.size
    ·rwa [List.getElem?_take_of_lt hj] at hu
    ·rw [List.getElem?_take_eq_none (by omega)] at hu; cases hu)
 have hl:(Builtin.lenOf x).run P w=.ok m w:=by
  obtain ⟨_,_,⟨c,rfl,rfl⟩ | ⟨a,c,rfl,hc⟩⟩:=hx <;> rfl
 have hrun:(Builtin.copy_ #[t,tx] ty #[.slice (some ⟨b,off,none⟩) dn dc,x]).run P w=.ok (.int .i64 (min m dn:Nat)) (w.setCells b off (xs.take (min m dn * i.size))):=by
  have hmin:Nat.min m dn=min m dn:=rfl
  simp [Builtin.copy_,run_underlying hel.ht,hl,run_sizeOf _ hi,Program.cellsOf,hi,hmin,hf,hst,goInt]
 exact r1 hrun (hk _ (h.setCells _ off))
theorem left_at {zs:List Value} (h:∀j v,zs[j]? = some v→xs[n+j]? = some v) (rest:List Value):∀j v,zs[j]? = some v→(xs++rest)[n+j]? = some v:=fun j v hv=>by
 have:=h j v hv
 rw [List.getElem?_append_left (List.getElem?_eq_some_iff.1 this).1]; exact this
theorem str_size (l:List UInt8):(str l).size=l.length:=rfl
theorem str_toList (l:List UInt8):(str l).toList=l:=by rw [ByteArray.toList_eq]; rfl
theorem str_data (s:ByteArray):str s.data.toList=s:=rfl
theorem run_indexStr {t:TypeId} (h:isStrT P t=true) (k:IntKind) (l:List UInt8) (i:Nat) (hi:i < l.length) (w:World):(Instr.index t (.string (str l)) (.int k i)).run P w=.ok (.int .u8 (l[i].toNat:Int)) w:=by
 have hs:(str l)[i]? = some l[i]:=by
  have h1:i < (str l).size:=hi
  rw [getElem?_pos (str l) i h1]
  rfl
 simp [Instr.index,asIntOf,run_underlying (isStrT_spec h),hs]
theorem run_eql_strS (t:TypeId) (cx cy:Bool) (a b:List UInt8) (w:World):(eqOp .eql t cx cy (.string (str a)) (.string (str b))).run P w=.ok (.bool (decide (a=b))) w:=by
 rw [run_eql_str,str_toList,str_toList]
 congr 2
 by_cases h:a=b <;> simp [h]
theorem run_neq_strS (t:TypeId) (cx cy:Bool) (a b:List UInt8) (w:World):(eqOp .neq t cx cy (.string (str a)) (.string (str b))).run P w=.ok (.bool (!decide (a=b))) w:=by
 rw [run_neq_str,str_toList,str_toList]
 congr 3
 by_cases h:a=b <;> simp [h]
theorem run_lss_strS (t:TypeId) (a b:List UInt8) (w:World):(binOp .lss t (.string (str a)) (.string (str b))).run P w=.ok (.bool (Op.bytesLess a b)) w:=by
 simp [binOp,Op.stringOp,str_toList]
end

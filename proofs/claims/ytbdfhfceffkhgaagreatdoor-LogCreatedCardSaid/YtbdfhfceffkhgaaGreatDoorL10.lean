
/- The numbers of a log's segments on a disk. -/
import Derived.Test.YtbdfhfceffkhgaaGreatDoorL7
import Derived.Test.YtbdfhfceffkhgaaGreatDoorL8
import Derived.Test.YtbdfhfceffkhgaaGreatDoorD9
set_option linter.unusedVariables false
set_option linter.unusedSimpArgs false
namespace Go.Proofs.YtbdfhfceffkhgaaGreatDoor
open Go.Sh
open Tryz renaming prog → π
theorem St.grown {o w w':World} {R:List HProp} (h:St o w R) (hb:RowKit.Below w.heap.size w w'):St o w' R:=by
 refine ⟨hb.os.trans h.os,hb.tape.trans h.tape,hb.output.trans h.output,Nat.le_trans h.size hb.size,?_⟩
 have e:hp w=(hp w').on fun b=>b < w.heap.size:=by
  funext b
  by_cases hlt:b < w.heap.size
  ·rw [Hp.on_yes (S:=fun b=>b < w.heap.size) _ hlt]
   exact (hb.block b hlt).symm
  ·rw [Hp.on_no (S:=fun b=>b < w.heap.size) _ hlt]
   exact Array.getElem?_eq_none (by omega)
 have hs:=h.sat
 rw [e] at hs
 exact satH_of_on R _ _ hs
theorem grow_below (w:World) (os:Array Obj):RowKit.Below w.heap.size w (Go.Sort.grow w os):=⟨rfl,rfl,rfl,by
  show w.heap.size≤(w.heap++os).size
  rw [Array.size_append]; omega,fun j hj=>by
  show (w.heap++os)[j]? = w.heap[j]?
  rw [Array.getElem?_append_left hj]⟩
theorem putCells_all {α:Type} [Inhabited α] (enc:α→Value) (l:List α) (xs rest:List Value) (hl:xs.length=l.length):Go.Sort.putCells enc 0 l.toArray (xs++rest).toArray=(l.map enc++rest).toArray:=by
 apply Array.ext_getElem?
 intro i
 unfold Go.Sort.putCells
 rw [Array.getElem?_mapIdx]
 simp only [List.getElem?_toArray,List.size_toArray,Nat.zero_le,true_and,Nat.zero_add,Nat.sub_zero]
 by_cases hi:i < l.length
 ·rw [List.getElem?_append_left (by omega),List.getElem?_append_left (by rw [List.length_map]; exact hi),List.getElem?_eq_getElem (by omega)]
  simp [hi]
 ·rw [List.getElem?_append_right (by omega),List.getElem?_append_right (by rw [List.length_map]; omega),List.length_map,hl]
  cases rest[i - l.length]? <;> simp [hi]
theorem St.mapBlock {o w:World} {b:Nat} {t:TypeId} {xs ys:List Value} {R:List HProp} {f:Array Value→Array Value} (h:St o w (blk b t xs::R)) (hf:f xs.toArray=ys.toArray) (hl:ys.length=xs.length):St o (Go.Sort.mapBlock w b f) (blk b t ys::R):=by
 obtain ⟨fr,hfr,hb⟩:=h.head_blk
 obtain ⟨h1,h2,h3,h4,S,hA,hR⟩:=h
 have hS:S b:=(blk_on hA).2
 refine ⟨h1,h2,h3,by simpa [Go.Sort.mapBlock] using h4,S,?_,?_⟩
 ·unfold blk
  rw [Hp.on_yes _ hS]
  refine ⟨fr,by rw [hl]; exact hfr,?_⟩
  show (w.heap.modify b (Go.Sort.onCells f))[b]? = _
  rw [Array.getElem?_modify,if_pos rfl,hb]
  simp [Go.Sort.onCells,hf]
 ·have:(hp (Go.Sort.mapBlock w b f)).on (fun b=>¬ S b)=(hp w).on fun b=>¬ S b:=by
   funext k
   by_cases hk:S k
   ·rw [Hp.on_no _ (not_not_intro hk),Hp.on_no _ (not_not_intro hk)]
   ·rw [Hp.on_yes _ hk,Hp.on_yes _ hk]
    show (w.heap.modify b (Go.Sort.onCells f))[k]? = _
    rw [Array.getElem?_modify,if_neg (fun e:b=k=>hk (e ▸ hS))]
    rfl
  rw [this]; exact hR
def sortI (zs:List Int):List Int:=zs.mergeSort fun x y=>decide (x≤y)
def segNo (a:Nat) (nm:List UInt8):Option Int:=
 if nm.take (preB a).length=preB a∧nameI a (unhex (nm.drop (preB a).length))=nm then some (unhex (nm.drop (preB a).length)) else none
def segNos (a:Nat) (fs:List Fil):List Int:=fs.filterMap fun f=>segNo a f.nm
theorem segNos_len (a:Nat) (fs:List Fil):(segNos a fs).length≤fs.length:=List.length_filterMap_le ..
theorem segNos_take (a:Nat) (fs:List Fil) (i:Nat) (hi:i < fs.length):segNos a (fs.take (i+1))=segNos a (fs.take i)++(match segNo a fs[i].nm with | some k=>[k] | none=>[]):=by
 unfold segNos
 rw [List.take_succ_eq_append_getElem hi,List.filterMap_append]
 cases hseg:segNo a fs[i].nm <;> simp [hseg]
section
variable (Z:PZ) {o w:World} {R As:List HProp}
theorem sortInts {v:Value} {zs:List Int} (hn:zs.length≤1000) (h:St o w (own 3 1 v zs.length (ci zs)::R)):CallV π Z 63 #[v] w fun r w'=>St o w' (own 3 1 v zs.length (ci (sortI zs))::R):=by
 have hlen:(sortI zs).length=zs.length:=List.length_mergeSort ..
 obtain ⟨hl,⟨rfl,h0,hR⟩ | ⟨g,cap,rest,rfl,a1,a2,a3,hB⟩⟩:=h.own_open
 ·have e:zs=[]:=List.eq_nil_of_length_eq_zero h0
  subst e
  exact ⟨(Tryz.slices_Sort_none none 0 w).mono fun e w' ⟨he,hw⟩=>by subst he hw; rw [show sortI []=[] by simp [sortI]]; exact h⟩
 ·have hgl:g < w.heap.size:=by obtain ⟨_,_,e⟩:=hB.head_blk; exact lt_of_heap e
  refine ⟨(Tryz.slices_Sort_int g 0 cap zs w (fun j hj=>?_) hgl (by omega)).mono fun e w' ⟨he,k,os,hw⟩=>?_⟩
  ·have hj:j < zs.length:=by simpa using hj
   refine ⟨?_,frozen_of_blk hB.head_blk _ (by rw [List.length_append,ci_length]; omega)⟩
   rw [cell_of_blk hB.head_blk,Nat.zero_add,List.getElem?_append_left (by rw [ci_length]; exact hj),ci_at hj]
   simp [hj]
  ·subst he
   have hA:St o (Go.Sort.ahead w k) (blk g 3 (ci zs++rest)::R):=hB.drew ⟨rfl,rfl,rfl,rfl⟩
   have hM:=St.mapBlock hA (f:=Go.Sort.putCells (Value.int .i64) 0 (sortI zs).toArray) (ys:=ci (sortI zs)++rest) (putCells_all _ _ _ _ (by rw [ci_length,hlen])) (by rw [List.length_append,List.length_append,ci_length,ci_length,hlen])
   have hG:St o w' (blk g 3 (ci (sortI zs)++rest)::R):=by rw [hw]; exact St.grown hM (grow_below _ _)
   have:=hG.own_mk (sz:=1) (cap:=cap) zs.length a1 a2 (by rw [List.length_append,ci_length,hlen,← a3,List.length_append,ci_length])
   rw [List.take_left' (by rw [ci_length,hlen,Nat.mul_one])] at this
   exact this
theorem lSegments {g:Nat} {d:Dk} (a:Nat) (ha:1≤a∧a≤9223372036854775807) (hP:∀f ∈ d.fs,∀rest,f.nm=preB a++rest→isHex rest∧1≤rest.length∧rest.length≤15) (hd:d.fs.length≤64) (hB:Bits o) (ho:old o ∈ R) (h:St o w (DiskM g d::R)) :
  CallV π Z 40 #[.pointer (some ⟨g,0,none⟩),.int .i64 a] w fun r w'=>St o w' (own 3 1 r (sortI (segNos a d.fs)).length (ci (sortI (segNos a d.fs)))::DiskM g d::R):=by
 refine f40.calls ?_
 unfold f40.sh
 refine (dNames Z h).mono fun r w1 hS=>?_
 obtain ⟨va,vc,rfl⟩:=hS.own_form
 (try simp only [ln_66_3])
 refine ⟨fun m x y w'=>∃i:Nat,i≤d.fs.length∧y=.int .i64 i∧m+i=d.fs.length∧St o w' (own 3 1 x (segNos a (d.fs.take i)).length (ci (segNos a (d.fs.take i)))::own 9 1 (.slice va d.fs.length vc) d.fs.length (d.fs.map fnV)::DiskM g d::R),⟨d.fs.length,0,Nat.zero_le _,rfl,rfl,hS.own_nil _ _⟩,?_⟩
 clear hS
 rintro m x _ w2 ⟨i,hile,rfl,hi,hS⟩ _
 have hle:=segNos_len a (d.fs.take i)
 rw [List.length_take] at hle
 by_cases hlt:(i:Int) < (d.fs.length:Int)
 case neg=>
  obtain rfl:i=d.fs.length:=by omega
  rw [List.take_length] at hS
  (try simp only [o_add,o_lss,hlt,decide_false,condF])
  have hsl:(sortI (segNos a d.fs)).length=(segNos a d.fs).length:=List.length_mergeSort ..
  refine (sortInts Z (zs:=segNos a d.fs) (by have:=segNos_len a d.fs; omega) hS).mono fun r w3 hS=>?_
  rw [hsl]
  exact hS.swap.drop
 have hil:i < d.fs.length:=by omega
 have hmem:d.fs[i] ∈ d.fs:=List.getElem_mem hil
 have htk:=segNos_take a d.fs i hil
 have hho:old o ∈ own 3 1 x (segNos a (d.fs.take i)).length (ci (segNos a (d.fs.take i)))::own 9 1 (.slice va d.fs.length vc) d.fs.length (d.fs.map fnV)::DiskM g d::R:=List.mem_cons_of_mem _ (List.mem_cons_of_mem _ (List.mem_cons_of_mem _ ho))
 (try simp only [o_add,o_lss,hlt,decide_true,condT])
 intro j7 hj7
 have next:∀(x':Value) (w':World),St o w' (own 3 1 x' (segNos a (d.fs.take (i+1))).length (ci (segNos a (d.fs.take (i+1))))::own 9 1 (.slice va d.fs.length vc) d.fs.length (d.fs.map fnV)::DiskM g d::R)→j7 x' w':=fun x' w' hS=>by
  refine hj7 _ _ fun _=>?_
  rw [wr_i64 (x:=(i:Int)+1) (by omega) (by omega)]
  exact ⟨m - 1,by omega,i+1,by omega,rfl,by omega,hS⟩
 clear hj7
 obtain ⟨p,hp,hpc,_⟩:=(hS.own_rd m1).index el66 .i64 i hil
 have hpc:w2.cell? p=some (.string (str d.fs[i].nm)):=by rw [hpc]; simp [hil,fnV]
 refine r1 (hp _) (r_load one9 hpc ?_)
 refine (lPrefix Z a (by omega) (by omega) hB hho hS).mono fun r w3 ⟨hr,hS⟩=>?_
 subst hr
 rw [Int.toNat_natCast]
 refine (cutPre Z d.fs[i].nm (preB a)).mono fun r w4 ⟨hr,hw⟩=>?_
 subst hr hw
 by_cases hpre:d.fs[i].nm.take (preB a).length=preB a
 case neg=>
  rw [if_neg hpre]
  (try simp only [o_ext2_1,o_not,Bool.not_false,condT,o_ext2_0])
  refine next _ _ ?_
  rw [htk,show segNo a d.fs[i].nm=none from if_neg fun hh=>hpre hh.1,List.append_nil]
  exact hS
 rw [if_pos hpre]
 (try simp only [o_ext2_1,o_not,Bool.not_true,condF,o_ext2_0])
 obtain ⟨hx1,hx2,hx3⟩:=hP _ hmem (d.fs[i].nm.drop (preB a).length) (by conv=>lhs; rw [← List.take_append_drop (preB a).length d.fs[i].nm,hpre])
 have hv:=unhex_take hx1 _ (Nat.le_refl _)
 rw [List.take_length] at hv
 have hb:16 ^ (d.fs[i].nm.drop (preB a).length).length≤16 ^ 15:=Nat.pow_le_pow_right (by omega) hx3
 have p15:16 ^ 15=1152921504606846976:=by decide
 refine (parseI Z _ hx1 hx2 hx3 hS).mono fun r w5 ⟨hr,hS⟩=>?_
 subst hr
 (try simp only [o_ext2_1,o_ext2_0])
 refine rk (v:=.bool true) (by kernel_rfl) ?_
 (try simp only [o_pickT,guardW_true])
 refine (lName Z a (unhex (d.fs[i].nm.drop (preB a).length):Nat) ⟨by omega,by omega⟩ ⟨by omega,by omega⟩ hB hho hS).mono fun r w6 ⟨hr,hS⟩=>?_
 subst hr
 refine r1 (run_eql_strS _ _ _ _ _ _) ?_
 by_cases hnm:nameI a (unhex (d.fs[i].nm.drop (preB a).length):Nat)=d.fs[i].nm
 case neg=>
  rw [decide_eq_false hnm]
  (try simp only [condF])
  refine next _ _ ?_
  rw [htk,show segNo a d.fs[i].nm=none from if_neg fun hh=>hnm hh.2,List.append_nil]
  exact hS
 rw [decide_eq_true hnm]
 (try simp only [condT])
 refine r_push el23 hS (.int .i64 (unhex (d.fs[i].nm.drop (preB a).length):Nat)) rfl (by omega) (by simp only [maxLen]; omega) fun v' w7 hS=>?_
 refine next _ _ ?_
 rw [htk,show segNo a d.fs[i].nm=some (unhex (d.fs[i].nm.drop (preB a).length):Nat) from if_pos ⟨hpre,hnm⟩]
 rw [List.length_append,ci,List.map_append]
 exact hS
end

/- Data that came in, fuel by fuel (for types that hold themselves). Nothing of any one program stands here. -/
import Derived.Test.YtbdfhfceffkhgaaGreatDoorShOpen
namespace Go.Sh
open Go.RowKit
def OpnN (P:Program) (w:World) (k:Nat) (t:TypeId) (Φ:List Value→Prop):Prop:=
 ∀(H:Type) (enc:TypeId × Value→H) (fuel:Nat) (cs:List Value) (x:DataW H × List MemPlace),fuel≤k→DataW.trod enc P w 0 (fun _=>true) true fuel t cs=some x→(∀n ∈ x.1.weights P t,n≤140737488351232)→Φ cs
section
variable {P:Program} {w w' o:World} {t e:TypeId} {sz bt:Nat} {z v:Value} {Φ:List Value→Prop}
theorem Opn.fuel (h:Opn P w t Φ) (k:Nat):OpnN P w k t Φ:=fun H enc fuel cs x _ hx hw=>h H enc fuel cs x hx hw
theorem OpnN.mono {k:Nat} {Φ':List Value→Prop} (h:OpnN P w k t Φ) (hk:∀cs,Φ cs→Φ' cs):OpnN P w k t Φ':=fun H enc fuel cs x hf hx hw=>hk cs (h H enc fuel cs x hf hx hw)
theorem OpnN.less {k j:Nat} (h:OpnN P w k t Φ) (hj:j≤k):OpnN P w j t Φ:=fun H enc fuel cs x hf hx hw=>h H enc fuel cs x (by omega) hx hw
theorem OpnN.zero:OpnN P w 0 t Φ:=fun H enc fuel cs x hf hx hw=>by
 obtain rfl:fuel=0:=by omega
 simp [DataW.trod] at hx
theorem OpnN.all (h:∀k,OpnN P w k t Φ):Opn P w t Φ:=fun H enc fuel cs x hx hw=>h fuel H enc fuel cs x (Nat.le_refl _) hx hw
theorem opnN_slice {k:Nat} (hel:El P t e sz bt z) (he:OpnN P w k e Φ):OpnN P w (k+1) t fun cs=>∃v,cs=[v]∧RowO w sz bt Φ v:=fun H enc fuel cs x hf hx hw=>by
 obtain ⟨info,hinfo,hs,hbt,_⟩:=hel.info
 have hcs:P.cellsOf e=sz:=by simp [Program.cellsOf,hinfo,hs]
 have hbs:P.bytesOf e=bt:=by simp [Program.bytesOf,hinfo,hbt]
 rcases DataW.trod_slice hel.ht hx with ⟨h0,_⟩ | ⟨a,len,cap,elems,rest,n,hfu,h0,hxe,hb,hl,hm,hlen,hel',_⟩
 ·exact ⟨_,h0,0,[],rfl,by omega,by simp,by simp,by simp [maxLen],.inl ⟨0,rfl,rfl⟩⟩
 ·refine ⟨_,h0,?_⟩
  rw [hxe] at hw
  simp only [DataW.weights,hel.ht,List.length_map,List.mem_cons,List.mem_append] at hw
  have hwl:len * bt≤140737488351232:=by
   have:=hw _ (.inl rfl)
   rw [hbs] at this
   refine Nat.le_trans (Nat.mul_le_mul_right _ ?_) this
   omega
  have hwe:∀(i:Nat) y,elems[i]? = some y→∀n ∈ y.1.weights P e,n≤140737488351232:=fun i y hy n hn=>by
   refine hw n (.inr (.inl ?_))
   have key:∀(l:List (DataW H)) (d:DataW H),d ∈ l→n ∈ d.weights P e→n ∈ DataW.weightsAll P e l:=by
    intro l
    induction l with
    | nil=>intro d hd; cases hd
    | cons a l ih=>
     intro d hd hn
     rw [DataW.weightsAll,List.mem_append]
     rcases List.mem_cons.1 hd with rfl | hd
     ·exact .inl hn
     ·exact .inr (ih d hd hn)
   exact key _ y.1 (List.mem_map_of_mem (List.mem_of_getElem? hy)) hn
  have each:∀i,i < len→∃c,w.cells? 0 (a.add (i * sz)) sz=some c∧Φ c:=by
   intro i hi
   have h1:=hel' i hi
   rw [hcs,List.getElem?_eq_getElem (show i < elems.length by omega),Option.bind_eq_some_iff] at h1
   obtain ⟨c,hc,hy⟩:=h1
   exact ⟨c,hc,he _ _ _ _ _ (by omega) hy (hwe i _ (List.getElem?_eq_getElem (by omega)))⟩
  have pick:∀k,k≤len→∃css:List (List Value),css.length=k∧∀i c,css[i]? = some c→w.cells? 0 (a.add (i * sz)) sz=some c∧Φ c:=by
   intro k
   induction k with
   | zero=>intro _; exact ⟨[],rfl,by simp⟩
   | succ k ih=>
    intro hk
    obtain ⟨css,h1,h2⟩:=ih (by omega)
    obtain ⟨c,hc⟩:=each k (by omega)
    refine ⟨css++[c],by simp [h1],fun i d hd=>?_⟩
    by_cases hi:i < css.length
    ·rw [List.getElem?_append_left hi] at hd; exact h2 i d hd
    ·rw [List.getElem?_append_right (by omega)] at hd
     have:i=k:=by
      have:=(List.getElem?_eq_some_iff.1 hd).1
      simp at this; omega
     subst this
     rw [h1,Nat.sub_self,List.getElem?_cons_zero] at hd
     injection hd with hd; subst hd
     exact hc
  obtain ⟨css,h1,h2⟩:=pick len (Nat.le_refl _)
  have hsz:∀c ∈ css,c.length=sz:=fun c hc=>by
   obtain ⟨i,hi⟩:=List.getElem?_of_mem hc
   exact (World.cells?_some (h2 i c hi).1).2.1
  refine ⟨len,css,h1,hwl,fun c hc=>⟨hsz c hc,?_⟩,by rw [len_flatten_of hsz,h1],by omega,.inr ⟨a,cap,rfl,fun k u hk=>?_⟩⟩
  ·obtain ⟨i,hi⟩:=List.getElem?_of_mem hc
   exact (h2 i c hi).2
  ·obtain ⟨c,hc1,hc2⟩:=flatten_of hsz hel.pos k u hk
   have hcell:=(World.cells?_some (h2 _ c hc1).1).2.2
   have hj:=(List.getElem?_eq_some_iff.1 hc2).1
   have hlc:=(World.cells?_some (h2 _ c hc1).1).2.1
   have:=hcell (k % sz) (by omega)
   rw [addr_add2,hc2,Nat.mul_comm,Nat.div_add_mod] at this
   exact this
def OpnAllN (P:Program) (w:World) (m:Nat):List TypeId→List (Nat × (List Value→Prop))→Prop
 | [],[]=>True
 | t::ts,(n,Φ)::r=>P.cellsOf t=n∧OpnN P w m t Φ∧OpnAllN P w m ts r
 | _,_=>False
theorem opnN_cut (H:Type) (enc:TypeId × Value→H) (m fuel:Nat) (hfm:fuel≤m):∀(fs:List Field) (r:List (Nat × (List Value→Prop))) (k:Nat) (cs:List Value),fs.map (fun f=>(f.offset,P.cellsOf f.type))=offs k (r.map (·.1))→OpnAllN P w m (fs.map (·.type)) r→k≤cs.length→cs.length=k+(r.map (·.1)).sum →
  (∀f ∈ fs,∃y,DataW.trod enc P w 0 (fun _=>true) true fuel f.type ((cs.drop f.offset).take (P.cellsOf f.type))=some y∧∀n ∈ y.1.weights P f.type,n≤140737488351232)→Cut r (cs.drop k)
 | [],[],k,cs,_,_,hk,hl,_=>by
  simp only [Cut]
  simp at hl
  rw [List.drop_of_length_le (by omega)]
 | [],_::_,_,_,h,_,_,_,_=>by simp [offs] at h
 | _::_,[],_,_,h,_,_,_,_=>by simp [offs] at h
 | f::fs,(n,Φ)::r,k,cs,h,ho,hk,hl,ht=>by
  simp only [List.map_cons,offs,List.cons.injEq,Prod.mk.injEq] at h
  obtain ⟨⟨h1,h2⟩,h3⟩:=h
  obtain ⟨_,o2,o3⟩:=ho
  simp only [List.map_cons,List.sum_cons] at hl
  obtain ⟨y,hy,hyw⟩:=ht f List.mem_cons_self
  rw [h1,h2] at hy
  refine ⟨(cs.drop k).take n,cs.drop (k+n),?_,by rw [List.length_take,List.length_drop]; omega,o2 _ _ _ _ _ hfm hy hyw,?_⟩
  ·rw [← List.drop_drop,List.take_append_drop]
  ·exact opnN_cut H enc m fuel hfm fs r (k+n) cs h3 o3 (by omega) (by omega) fun g hg=>ht g (List.mem_cons_of_mem _ hg)
theorem opnN_struct {m:Nat} {fs:Array Field} (ht:P.underlying t=some (.struct fs)) (r:List (Nat × (List Value→Prop))) (ho:(fs.toList.map (fun f=>(f.offset,P.cellsOf f.type)) == offs 0 (r.map (·.1)))=true) (hn:P.cellsOf t=(r.map (·.1)).sum) (h:OpnAllN P w m (fs.toList.map (·.type)) r):OpnN P w (m+1) t (Cut r):=fun H enc fuel cs x hf0 hx hw=>by
 obtain ⟨xs,n,hfu,hxe,hl,hxl,hf⟩:=DataW.trod_struct ht hx
 have:=opnN_cut H enc m n (by omega) fs.toList r 0 cs (by simpa using ho) h (Nat.zero_le _) (by rw [hl,hn]; omega) fun f hfm=>by
  obtain ⟨i,hi⟩:=List.getElem?_of_mem hfm
  rw [Array.getElem?_toList] at hi
  have hlt:i < xs.length:=by
   have:=(Array.getElem?_eq_some_iff.1 hi).1
   omega
  refine ⟨xs[i],by rw [hf i f hi,List.getElem?_eq_getElem hlt],fun n hn=>hw n ?_⟩
  rw [hxe]
  simp only [DataW.weights,ht]
  have key:∀(ts:List TypeId) (l:List (DataW H)) (i:Nat) (t:TypeId) (d:DataW H),ts[i]? = some t→l[i]? = some d→n ∈ d.weights P t→n ∈ DataW.weightsEach P ts l:=by
   intro ts
   induction ts with
   | nil=>intro l i t d h; simp at h
   | cons a ts ih=>
    intro l i t d h1 h2 h3
    cases l with
    | nil=>simp at h2
    | cons b l=>
     rw [DataW.weightsEach,List.mem_append]
     cases i with
     | zero=>
      simp only [List.getElem?_cons_zero,Option.some.injEq] at h1 h2
      subst h1; subst h2
      exact .inl h3
     | succ i=>exact .inr (ih l i t d (by simpa using h1) (by simpa using h2) h3)
  exact key _ _ i f.type xs[i].1 (by rw [List.getElem?_map,Array.getElem?_toList,hi]; rfl) (by rw [List.getElem?_map,List.getElem?_eq_getElem hlt]; rfl) hn
 simpa using this
end

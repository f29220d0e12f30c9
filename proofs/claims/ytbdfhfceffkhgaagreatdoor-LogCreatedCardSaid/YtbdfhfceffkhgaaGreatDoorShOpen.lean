/- Data that came in: what the row's data say of cells, told by Lean's own data. Nothing of any one program stands here. -/
import Derived.Test.YtbdfhfceffkhgaaGreatDoorShAgg
import Derived.OpenShut
import Derived.ChangeArms
import Derived.DataReads
import Derived.SizedLaws
namespace Go.Sh
open Go.RowKit
def Opn (P:Program) (w:World) (t:TypeId) (Φ:List Value→Prop):Prop:=
 ∀(H:Type) (enc:TypeId × Value→H) (fuel:Nat) (cs:List Value) (x:DataW H × List MemPlace),DataW.trod enc P w 0 (fun _=>true) true fuel t cs=some x→(∀n ∈ x.1.weights P t,n≤140737488351232)→Φ cs
def RowO (w:World) (sz bt:Nat) (Φ:List Value→Prop) (v:Value):Prop:=∃(n:Nat) (css:List (List Value)),css.length=n∧n * bt≤140737488351232∧(∀c ∈ css,c.length=sz∧Φ c)∧Rd w sz v n css.flatten
def RowR {α:Type} (w:World) (sz:Nat) (Ψ:α→List Value→Prop) (as:List α) (v:Value):Prop:=
 ∃css:List (List Value),css.length=as.length∧(∀(i:Nat) a c,as[i]? = some a→css[i]? = some c→c.length=sz∧Ψ a c)∧Rd w sz v as.length css.flatten
section
variable {P:Program} {w w' o:World} {t e:TypeId} {sz bt:Nat} {z v:Value} {Φ:List Value→Prop}
theorem Opn.mono {Φ':List Value→Prop} (h:Opn P w t Φ) (hk:∀cs,Φ cs→Φ' cs):Opn P w t Φ':=fun H enc fuel cs x hx hw=>hk cs (h H enc fuel cs x hx hw)
theorem Opn.use {H:Type} {enc:TypeId × Value→H} {d:DataW H} {p:List MemPlace} (h:Opn P w t Φ) (hx:DataW.Trod enc P w 0 (fun _=>true) true t v d p) (hw:∀n ∈ d.weights P t,n≤140737488351232):Φ v.cells.toList:=by
 obtain ⟨fuel,hx⟩:=hx
 exact h _ _ _ _ _ hx hw
theorem weights_part {H:Type} {ts:List TypeId} {ds:List (DataW H)} {d:DataW H} (h:(DataW.weightsEach P (t::ts) (d::ds)).all (·≤reachBytes)=true):(∀n ∈ d.weights P t,n≤140737488351232)∧(DataW.weightsEach P ts ds).all (·≤reachBytes)=true:=by
 rw [DataW.weightsEach,List.all_append,Bool.and_eq_true] at h
 exact ⟨fun n hn=>of_decide_eq_true (List.all_eq_true.1 h.1 n hn),h.2⟩
theorem opn_int {k:IntKind} (ht:P.underlying t=some (.int k)):Opn P w t fun cs=>∃n,cs=[.int k n]∧k.min≤n∧n≤k.max:=fun H enc fuel cs x hx hw=>by
 obtain ⟨n,h1,_,h2⟩:=DataW.trod_int ht hx
 simp [Lit.wf] at h2
 exact ⟨n,h1,h2⟩
theorem opn_bool (ht:P.underlying t=some .bool):Opn P w t fun cs=>∃b,cs=[.bool b]:=fun H enc fuel cs x hx hw=>by
 obtain ⟨b,h1,_⟩:=DataW.trod_bool ht hx
 exact ⟨b,h1⟩
theorem opn_string (ht:P.underlying t=some .string):Opn P w t fun cs=>∃s:ByteArray,cs=[.string s]∧s.size≤140737488351232:=fun H enc fuel cs x hx hw=>by
 obtain ⟨s,h1,hx1,h2⟩:=DataW.trod_string ht hx
 rw [hx1] at hw
 exact ⟨s,h1,hw s.size (by simp [DataW.weights])⟩
theorem len_flatten_of {css:List (List Value)} (h:∀c ∈ css,c.length=sz):css.flatten.length=css.length * sz:=by
 induction css with
 | nil=>simp
 | cons c css ih=>
  rw [List.flatten_cons,List.length_append,h c List.mem_cons_self,ih fun c hc=>h c (List.mem_cons_of_mem _ hc),List.length_cons,Nat.succ_mul]; omega
theorem flatten_at {css:List (List Value)} (h:∀c ∈ css,c.length=sz):∀(i j:Nat) (c:List Value) (u:Value),css[i]? = some c→c[j]? = some u→css.flatten[i * sz+j]? = some u:=by
 induction css with
 | nil=>intro i j c u hc; simp at hc
 | cons d css ih=>
  intro i j c u hc hu
  have hd:=h d List.mem_cons_self
  cases i with
  | zero=>
   simp only [List.getElem?_cons_zero,Option.some.injEq] at hc
   subst hc
   rw [Nat.zero_mul,Nat.zero_add,List.flatten_cons,List.getElem?_append_left (List.getElem?_eq_some_iff.1 hu).1]
   exact hu
  | succ i=>
   rw [List.getElem?_cons_succ] at hc
   rw [List.flatten_cons,List.getElem?_append_right (by rw [Nat.succ_mul]; omega),hd,show (i+1) * sz+j - sz=i * sz+j by rw [Nat.succ_mul]; omega]
   exact ih (fun c hc=>h c (List.mem_cons_of_mem _ hc)) i j c u hc hu
theorem flatten_cut {css:List (List Value)} (h:∀c ∈ css,c.length=sz) (i:Nat) (hi:i < css.length):(css.flatten.drop (i * sz)).take sz=css[i]:=by
 induction css generalizing i with
 | nil=>simp at hi
 | cons d css ih=>
  have hd:=h d List.mem_cons_self
  cases i with
  | zero=>rw [Nat.zero_mul,List.drop_zero,List.flatten_cons,← hd,List.take_left]; rfl
  | succ i=>
   rw [List.flatten_cons,Nat.succ_mul,Nat.add_comm,← List.drop_drop,← hd,List.drop_left,hd]
   exact ih (fun c hc=>h c (List.mem_cons_of_mem _ hc)) i (by simpa using hi)
theorem flatten_of {css:List (List Value)} (h:∀c ∈ css,c.length=sz) (hpos:0 < sz):∀(k:Nat) (u:Value),css.flatten[k]? = some u→∃c,css[k / sz]? = some c∧c[k % sz]? = some u:=by
 induction css with
 | nil=>intro k u hk; simp at hk
 | cons d css ih=>
  intro k u hk
  have hd:=h d List.mem_cons_self
  rw [List.flatten_cons] at hk
  by_cases hl:k < sz
  ·rw [List.getElem?_append_left (by omega)] at hk
   exact ⟨d,by rw [Nat.div_eq_of_lt hl]; rfl,by rw [Nat.mod_eq_of_lt hl]; exact hk⟩
  ·rw [List.getElem?_append_right (by omega),hd] at hk
   obtain ⟨c,h1,h2⟩:=ih (fun c hc=>h c (List.mem_cons_of_mem _ hc)) (k - sz) u hk
   refine ⟨c,?_,?_⟩
   ·rw [Nat.div_eq k sz,if_pos ⟨hpos,by omega⟩,List.getElem?_cons_succ]; exact h1
   ·rw [Nat.mod_eq_sub_mod (by omega)]; exact h2
theorem opn_slice (hel:El P t e sz bt z) (he:Opn P w e Φ):Opn P w t fun cs=>∃v,cs=[v]∧RowO w sz bt Φ v:=fun H enc fuel cs x hx hw=>by
 obtain ⟨info,hinfo,hs,hbt,_⟩:=hel.info
 have hcs:P.cellsOf e=sz:=by simp [Program.cellsOf,hinfo,hs]
 have hbs:P.bytesOf e=bt:=by simp [Program.bytesOf,hinfo,hbt]
 rcases DataW.trod_slice hel.ht hx with ⟨h0,_⟩ | ⟨a,len,cap,elems,rest,n,_,h0,hxe,hb,hl,hm,hlen,hel',_⟩
 ·exact ⟨_,h0,0,[],rfl,by omega,by simp,by simp,by simp [maxLen],.inl ⟨0,rfl,rfl⟩⟩
 ·refine ⟨_,h0,?_⟩
  rw [hxe] at hw
  simp only [DataW.weights,hel.ht,List.length_map,List.mem_cons,List.mem_append] at hw
  have hwl:len * bt≤140737488351232:=by
   have:=hw _ (.inl rfl)
   rw [hbs] at this
   refine Nat.le_trans (Nat.mul_le_mul_right _ ?_) this
   omega
  have hwe:∀(i:Nat) y,elems[i]? = some y→∀n ∈ y.1.weights P e,n≤140737488351232:=fun i y hy n hn=>by
   refine hw n (.inr (.inl ?_))
   have key:∀(l:List (DataW H)) (d:DataW H),d ∈ l→n ∈ d.weights P e→n ∈ DataW.weightsAll P e l:=by
    intro l
    induction l with
    | nil=>intro d hd; cases hd
    | cons a l ih=>
     intro d hd hn
     rw [DataW.weightsAll,List.mem_append]
     rcases List.mem_cons.1 hd with rfl | hd
     ·exact .inl hn
     ·exact .inr (ih d hd hn)
   exact key _ y.1 (List.mem_map_of_mem (List.mem_of_getElem? hy)) hn
  have each:∀i,i < len→∃c,w.cells? 0 (a.add (i * sz)) sz=some c∧Φ c:=by
   intro i hi
   have h1:=hel' i hi
   rw [hcs,List.getElem?_eq_getElem (show i < elems.length by omega),Option.bind_eq_some_iff] at h1
   obtain ⟨c,hc,hy⟩:=h1
   exact ⟨c,hc,he _ _ _ _ _ hy (hwe i _ (List.getElem?_eq_getElem (by omega)))⟩
  have pick:∀k,k≤len→∃css:List (List Value),css.length=k∧∀i c,css[i]? = some c→w.cells? 0 (a.add (i * sz)) sz=some c∧Φ c:=by
   intro k
   induction k with
   | zero=>intro _; exact ⟨[],rfl,by simp⟩
   | succ k ih=>
    intro hk
    obtain ⟨css,h1,h2⟩:=ih (by omega)
    obtain ⟨c,hc⟩:=each k (by omega)
    refine ⟨css++[c],by simp [h1],fun i d hd=>?_⟩
    by_cases hi:i < css.length
    ·rw [List.getElem?_append_left hi] at hd; exact h2 i d hd
    ·rw [List.getElem?_append_right (by omega)] at hd
     have:i=k:=by
      have:=(List.getElem?_eq_some_iff.1 hd).1
      simp at this; omega
     subst this
     rw [h1,Nat.sub_self,List.getElem?_cons_zero] at hd
     injection hd with hd; subst hd
     exact hc
  obtain ⟨css,h1,h2⟩:=pick len (Nat.le_refl _)
  have hsz:∀c ∈ css,c.length=sz:=fun c hc=>by
   obtain ⟨i,hi⟩:=List.getElem?_of_mem hc
   exact (World.cells?_some (h2 i c hi).1).2.1
  refine ⟨len,css,h1,hwl,fun c hc=>⟨hsz c hc,?_⟩,by rw [len_flatten_of hsz,h1],by omega,.inr ⟨a,cap,rfl,fun k u hk=>?_⟩⟩
  ·obtain ⟨i,hi⟩:=List.getElem?_of_mem hc
   exact (h2 i c hi).2
  ·obtain ⟨c,hc1,hc2⟩:=flatten_of hsz hel.pos k u hk
   have hcell:=(World.cells?_some (h2 _ c hc1).1).2.2
   have hj:=(List.getElem?_eq_some_iff.1 hc2).1
   have hlc:=(World.cells?_some (h2 _ c hc1).1).2.1
   have:=hcell (k % sz) (by omega)
   rw [addr_add2,hc2,Nat.mul_comm,Nat.div_add_mod] at this
   exact this
def Cut:List (Nat × (List Value→Prop))→List Value→Prop
 | [],cs=>cs=[]
 | (n,Φ)::r,cs=>∃c d,cs=c++d∧c.length=n∧Φ c∧Cut r d
def OpnAll (P:Program) (w:World):List TypeId→List (Nat × (List Value→Prop))→Prop
 | [],[]=>True
 | t::ts,(n,Φ)::r=>P.cellsOf t=n∧Opn P w t Φ∧OpnAll P w ts r
 | _,_=>False
def offs:Nat→List Nat→List (Nat × Nat)
 | _,[]=>[]
 | k,n::r=>(k,n)::offs (k+n) r
theorem opn_cut (H:Type) (enc:TypeId × Value→H) (fuel:Nat):∀(fs:List Field) (r:List (Nat × (List Value→Prop))) (k:Nat) (cs:List Value),fs.map (fun f=>(f.offset,P.cellsOf f.type))=offs k (r.map (·.1))→OpnAll P w (fs.map (·.type)) r→k≤cs.length→cs.length=k+(r.map (·.1)).sum →
  (∀f ∈ fs,∃y,DataW.trod enc P w 0 (fun _=>true) true fuel f.type ((cs.drop f.offset).take (P.cellsOf f.type))=some y∧∀n ∈ y.1.weights P f.type,n≤140737488351232)→Cut r (cs.drop k)
 | [],[],k,cs,_,_,hk,hl,_=>by
  simp only [Cut]
  simp at hl
  rw [List.drop_of_length_le (by omega)]
 | [],_::_,_,_,h,_,_,_,_=>by simp [offs] at h
 | _::_,[],_,_,h,_,_,_,_=>by simp [offs] at h
 | f::fs,(n,Φ)::r,k,cs,h,ho,hk,hl,ht=>by
  simp only [List.map_cons,offs,List.cons.injEq,Prod.mk.injEq] at h
  obtain ⟨⟨h1,h2⟩,h3⟩:=h
  obtain ⟨_,o2,o3⟩:=ho
  simp only [List.map_cons,List.sum_cons] at hl
  obtain ⟨y,hy,hyw⟩:=ht f List.mem_cons_self
  rw [h1,h2] at hy
  refine ⟨(cs.drop k).take n,cs.drop (k+n),?_,by rw [List.length_take,List.length_drop]; omega,o2 _ _ _ _ _ hy hyw,?_⟩
  ·rw [← List.drop_drop,List.take_append_drop]
  ·exact opn_cut H enc fuel fs r (k+n) cs h3 o3 (by omega) (by omega) fun g hg=>ht g (List.mem_cons_of_mem _ hg)
theorem opn_struct {fs:Array Field} (ht:P.underlying t=some (.struct fs)) (r:List (Nat × (List Value→Prop))) (ho:(fs.toList.map (fun f=>(f.offset,P.cellsOf f.type)) == offs 0 (r.map (·.1)))=true) (hn:P.cellsOf t=(r.map (·.1)).sum) (h:OpnAll P w (fs.toList.map (·.type)) r):Opn P w t (Cut r):=fun H enc fuel cs x hx hw=>by
 obtain ⟨xs,n,_,hxe,hl,hxl,hf⟩:=DataW.trod_struct ht hx
 have:=opn_cut H enc n fs.toList r 0 cs (by simpa using ho) h (Nat.zero_le _) (by rw [hl,hn]; omega) fun f hfm=>by
  obtain ⟨i,hi⟩:=List.getElem?_of_mem hfm
  rw [Array.getElem?_toList] at hi
  have hlt:i < xs.length:=by
   have:=(Array.getElem?_eq_some_iff.1 hi).1
   omega
  refine ⟨xs[i],by rw [hf i f hi,List.getElem?_eq_getElem hlt],fun n hn=>hw n ?_⟩
  rw [hxe]
  simp only [DataW.weights,ht]
  have key:∀(ts:List TypeId) (l:List (DataW H)) (i:Nat) (t:TypeId) (d:DataW H),ts[i]? = some t→l[i]? = some d→n ∈ d.weights P t→n ∈ DataW.weightsEach P ts l:=by
   intro ts
   induction ts with
   | nil=>intro l i t d h; simp at h
   | cons a ts ih=>
    intro l i t d h1 h2 h3
    cases l with
    | nil=>simp at h2
    | cons b l=>
     rw [DataW.weightsEach,List.mem_append]
     cases i with
     | zero=>
      simp only [List.getElem?_cons_zero,Option.some.injEq] at h1 h2
      subst h1; subst h2
      exact .inl h3
     | succ i=>exact .inr (ih l i t d (by simpa using h1) (by simpa using h2) h3)
  exact key _ _ i f.type xs[i].1 (by rw [List.getElem?_map,Array.getElem?_toList,hi]; rfl) (by rw [List.getElem?_map,List.getElem?_eq_getElem hlt]; rfl) hn
 simpa using this
theorem RowR.form {α:Type} {Ψ:α→List Value→Prop} {as:List α} (h:RowR w sz Ψ as v):∃a c,v=.slice a as.length c:=by
 obtain ⟨_,_,_,h⟩:=h
 exact h.form
theorem RowR.le {α:Type} {Ψ:α→List Value→Prop} {as:List α} (h:RowR w sz Ψ as v):as.length≤maxLen:=by
 obtain ⟨_,_,_,h⟩:=h
 exact h.2.1
theorem RowR.of_old {α:Type} {Ψ:α→List Value→Prop} {as:List α} {As:List HProp} (h:RowR w sz Ψ as v) (hS:St o w' As) (hm:old w ∈ As):RowR w' sz Ψ as v:=by
 obtain ⟨css,h1,h2,h3⟩:=h
 exact ⟨css,h1,h2,h3.of_old hS hm⟩
theorem RowR.index {α:Type} {Ψ:α→List Value→Prop} {as:List α} (h:RowR w sz Ψ as v) (hel:El P t e sz bt z) (k:IntKind) (i:Nat) (hi:i < as.length) :
  ∃a c,(∀w,(Instr.indexAt t v (.int k i)).run P w=.ok (.pointer (some a)) w)∧c.length=sz∧Ψ as[i] c∧∀j u,c[j]? = some u→w.cell? (a.add j)=some u:=by
 obtain ⟨css,h1,h2,h3⟩:=h
 have hic:i < css.length:=by omega
 obtain ⟨hl,hp⟩:=h2 i as[i] css[i] (List.getElem?_eq_getElem hi) (List.getElem?_eq_getElem hic)
 obtain ⟨a,ha,hcell,_⟩:=h3.indexN hel k i hi
 refine ⟨a,css[i],ha,hl,hp,fun j u hu=>hcell j u ?_⟩
 have hsz:∀c ∈ css,c.length=sz:=fun c hc=>by
  obtain ⟨q,hq⟩:=List.getElem?_of_mem hc
  have hqa:q < as.length:=by have:=(List.getElem?_eq_some_iff.1 hq).1; omega
  exact (h2 q as[q] c (List.getElem?_eq_getElem hqa) hq).1
 have hj:=(List.getElem?_eq_some_iff.1 hu).1
 rw [List.getElem?_take_of_lt (by omega),List.getElem?_drop]
 exact flatten_at hsz i j css[i] u (List.getElem?_eq_getElem hic) hu
theorem addr_of_cell {a:Addr} {u:Value} (h:w.cell? a=some u):a=⟨a.block,a.off,none⟩:=by
 obtain ⟨b,i,s⟩:=a
 cases s with
 | none=>rfl
 | some s=>
  unfold World.cell? at h
  split at h <;> simp at h
theorem RowR.ix {α:Type} {Ψ:α→List Value→Prop} {as:List α} (h:RowR w sz Ψ as v) (hel:El P t e sz bt z) (k:IntKind) (i:Nat) (hi:i < as.length) :
  ∃b q c,(∀w,(Instr.indexAt t v (.int k i)).run P w=.ok (.pointer (some ⟨b,q,none⟩)) w)∧c.length=sz∧Ψ as[i] c∧∀j u,c[j]? = some u→w.cell? ⟨b,q+j,none⟩=some u:=by
 obtain ⟨a,c,h1,h2,h3,h4⟩:=h.index hel k i hi
 have hpos:=hel.pos
 have h0:=h4 0 c[0] (List.getElem?_eq_getElem (by omega))
 have e:=addr_of_cell (a:=a) (by simpa [Addr.add] using h0)
 rw [e] at h1 h4
 exact ⟨_,_,c,h1,h2,h3,fun j u hu=>by have:=h4 j u hu; rwa [add_addr] at this⟩
theorem Rd.ix {n:Nat} {xs:List Value} (h:Rd w sz v n xs) (hel:El P t e sz bt z) (k:IntKind) (i:Nat) (hi:i < n) :
  ∃b q,(∀w,(Instr.indexAt t v (.int k i)).run P w=.ok (.pointer (some ⟨b,q,none⟩)) w)∧(∀j u,((xs.drop (i * sz)).take sz)[j]? = some u→w.cell? ⟨b,q+j,none⟩=some u)∧((xs.drop (i * sz)).take sz).length=sz:=by
 obtain ⟨a,h1,h2,h3⟩:=h.indexN hel k i hi
 have hpos:=hel.pos
 have h0:=h2 0 _ (List.getElem?_eq_getElem (by rw [h3]; exact hpos))
 have e:=addr_of_cell (a:=a) (by simpa [Addr.add] using h0)
 rw [e] at h1 h2
 exact ⟨_,_,h1,fun j u hu=>by have:=h2 j u hu; rwa [add_addr] at this,h3⟩
end

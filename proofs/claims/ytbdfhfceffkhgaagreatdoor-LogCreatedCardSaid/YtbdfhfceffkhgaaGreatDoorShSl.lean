/- Slices: rows of the call's own; rows that are read; what the operations do to them. Nothing of any one program stands here. -/
import Derived.Test.YtbdfhfceffkhgaaGreatDoorShOps
import Derived.Deep.AppendSrc
import Derived.Laws.MakeOwn
import Derived.Laws.OwnMore
import Derived.Deep.Upon
namespace Go.Sh
open Go.RowKit
structure El (P:Program) (t e:TypeId) (sz bt:Nat) (z:Value):Prop where
 ht:P.underlying t=some (.slice e)
 hi:(P.info? e).map (fun i=>(i.size,i.bytes,i.zero))=some (sz,bt,some z)
 hz:z.cells.size=sz
 pos:0 < sz
theorem El.info {P:Program} {t e:TypeId} {sz bt:Nat} {z:Value} (h:El P t e sz bt z):∃i,P.info? e=some i∧i.size=sz∧i.bytes=bt∧i.zero=some z:=by
 have hi:=h.hi
 cases hh:P.info? e with
 | none=>rw [hh] at hi; cases hi
 | some i=>
  rw [hh] at hi
  simp only [Option.map_some,Option.some.injEq,Prod.mk.injEq] at hi
  exact ⟨i,rfl,hi.1,hi.2.1,hi.2.2⟩
def own (e:TypeId) (sz:Nat) (v:Value) (n:Nat) (xs:List Value):HProp:=fun h=>xs.length=n * sz ∧
 ((v=.slice none 0 0∧n=0)∨∃g cap rest,v=.slice (some ⟨g,0,none⟩) n cap∧n≤cap∧cap≤maxLen∧(xs++rest).length=cap * sz∧blk g e (xs++rest) h)
def Rd (w:World) (sz:Nat) (v:Value) (n:Nat) (xs:List Value):Prop:=xs.length=n * sz∧n≤maxLen ∧
 ((∃c,v=.slice none 0 c∧n=0)∨∃a c,v=.slice (some a) n c∧∀(j:Nat) (u:Value),xs[j]? = some u→w.cell? (a.add j)=some u)
def ones (xs:List Value):Prop:=∀u ∈ xs,u.oneCell'=true
section
variable {P:Program} {Z:PZ} {o w w':World} {kk:PQ} {R As:List HProp} {t tx e ty:TypeId} {sz bt n m:Nat} {z v x:Value} {xs ys:List Value}
theorem St.own_nil (h:St o w R) (e:TypeId) (sz:Nat):St o w (own e sz (.slice none 0 0) 0 []::R):=h.emp.mono fun _ _=>⟨by simp,.inl ⟨rfl,rfl⟩⟩
theorem St.own_mk {g cap:Nat} {cells:List Value} (h:St o w (blk g e cells::R)) (n:Nat) (hn:n≤cap) (hc:cap≤maxLen) (hl:cells.length=cap * sz):St o w (own e sz (.slice (some ⟨g,0,none⟩) n cap) n (cells.take (n * sz))::R):=by
 refine h.mono fun h hb=>⟨?_,.inr ⟨g,cap,cells.drop (n * sz),rfl,hn,hc,?_,?_⟩⟩
 ·rw [List.length_take,hl]
  exact Nat.min_eq_left (Nat.mul_le_mul_right _ hn)
 ·rw [List.take_append_drop]; exact hl
 ·rw [List.take_append_drop]; exact hb
theorem St.own_open (h:St o w (own e sz v n xs::R)):xs.length=n * sz∧((v=.slice none 0 0∧n=0∧St o w R) ∨
  ∃g cap rest,v=.slice (some ⟨g,0,none⟩) n cap∧n≤cap∧cap≤maxLen∧(xs++rest).length=cap * sz∧St o w (blk g e (xs++rest)::R)):=by
 have h':=h
 obtain ⟨h1,h2,h3,h4,S,hA,hR⟩:=h
 obtain ⟨hl,hA⟩:=hA
 refine ⟨hl,?_⟩
 rcases hA with ⟨rfl,rfl⟩ | ⟨g,cap,rest,rfl,a1,a2,a3,a4⟩
 ·exact .inl ⟨rfl,rfl,h'.drop⟩
 ·exact .inr ⟨g,cap,rest,rfl,a1,a2,a3,h1,h2,h3,h4,S,a4,hR⟩
theorem St.own_rd (h:St o w As) (hm:own e sz v n xs ∈ As):Rd w sz v n xs:=by
 obtain ⟨S,hl,hA⟩:=satH_mem hm h.sat
 rcases hA with ⟨rfl,rfl⟩ | ⟨g,cap,rest,rfl,a1,a2,a3,a4⟩
 ·exact ⟨hl,by unfold maxLen; omega,.inl ⟨0,rfl,rfl⟩⟩
 ·refine ⟨hl,Nat.le_trans a1 a2,.inr ⟨_,cap,rfl,fun j u hu=>?_⟩⟩
  have hb:ob e (xs++rest) w.heap[g]? := (blk_on a4).1
  rw [add_addr,Nat.zero_add,cell_of_blk hb]
  rw [List.getElem?_append_left (List.getElem?_eq_some_iff.1 hu).1]
  exact hu
theorem Rd.src (h:Rd w sz x m ys) {e':TypeId} (hk:P.underlying tx=some (.slice e')) (h1:ones ys):Src P sz tx x m ys w:=by
 obtain ⟨hl,_,⟨c,rfl,rfl⟩ | ⟨a,c,rfl,hc⟩⟩:=h
 ·obtain rfl:ys=[]:=List.eq_nil_of_length_eq_zero (by simpa using hl)
  exact Src.ofNil w hk c
 ·exact Src.ofSlice w hk a m c ys hl hc h1
theorem nextcap_bound (need old b:Nat) (ho:old < need) (hb:need * b≤140737488355328):Builtin.nextslicecap need old * b≤281474976710656:=by
 have h2:need * 2 * b≤281474976710656:=by
  have:need * 2 * b=need * b * 2:=by rw [Nat.mul_assoc,Nat.mul_comm 2 b,← Nat.mul_assoc]
  omega
 have key:∀(k c:Nat),c≤need * 2→Builtin.growBy need k c≤need * 2+192:=by
  intro k
  induction k with
  | zero=>intro c hc; simp only [Builtin.growBy]; omega
  | succ k ih=>
   intro c hc
   simp only [Builtin.growBy]
   split
   ·omega
   ·rename_i hlt
    by_cases hq:c+(c+768) / 4≤need * 2
    ·exact ih _ hq
    ·have hge:need≤c+(c+768) / 4:=by omega
     have:Builtin.growBy need k (c+(c+768) / 4)=c+(c+768) / 4:=by
      cases k with
      | zero=>rfl
      | succ k=>simp only [Builtin.growBy]; rw [if_pos hge]
     rw [this]; omega
 unfold Builtin.nextslicecap
 split
 ·have:need * b≤need * 2 * b:=Nat.mul_le_mul_right _ (by omega)
  omega
 ·split
  ·have:2 * old * b≤need * 2 * b:=Nat.mul_le_mul_right _ (by omega)
   omega
  ·rename_i h1 h256
   -- old is 256 at least: 192 more are less than need itself
   have hk:Builtin.growBy need 4 old≤need * 2:=by
    have k2:∀(k c:Nat),256≤c→c≤need→Builtin.growBy need k c≤need * 2:=by
     intro k
     induction k with
     | zero=>intro c _ hc; simp only [Builtin.growBy]; omega
     | succ k ih=>
      intro c h256 hc
      simp only [Builtin.growBy]
      split
      ·omega
      ·rename_i hlt
       by_cases hq:c+(c+768) / 4≤need
       ·exact ih _ (by omega) hq
       ·have hge:need≤c+(c+768) / 4:=by omega
        have:Builtin.growBy need k (c+(c+768) / 4)=c+(c+768) / 4:=by
         cases k with
         | zero=>rfl
         | succ k=>simp only [Builtin.growBy]; rw [if_pos hge]
        rw [this]; omega
    exact k2 4 old (by omega) (by omega)
   have:Builtin.growBy need 4 old * b≤need * 2 * b:=Nat.mul_le_mul_right _ hk
   omega
theorem drawn_drew (w:World):Drew w w.drew:=⟨rfl,rfl,rfl,rfl⟩
theorem r_append (hel:El P t e sz bt z) (h:St o w (own e sz v n xs::R)) (hs:Src P sz tx x m ys w) (hb:(n+m) * bt≤140737488355328) (hm:n+m≤maxLen)
  (hk:∀v' w',St o w' (own e sz v' (n+m) (xs++ys)::R)→kk v' w'):rN P Z (Builtin.append_ #[t,tx] ty #[v,x]) w kk:=by
 obtain ⟨i,hi,rfl,rfl,hz⟩:=hel.info
 obtain ⟨hl,hv⟩:=h.own_open
 have hyl:=hs.newsLen
 have hm63:((n+m:Nat):Int)≤9223372036854775807:=by simp only [maxLen] at hm; omega
 have hlen:(xs++ys).length=(n+m) * i.size:=by rw [List.length_append,hl,hyl,Nat.add_mul]
 -- a new row
 have grown:∀(base:Option Addr) (cap:Nat),v=.slice base n cap→cap < n+m→St o w R→(Builtin.firstCells i.size n (.slice base n cap)).run P w.drew=.ok xs.toArray w.drew→rN P Z (Builtin.append_ #[t,tx] ty #[v,x]) w kk:=by
  intro base cap hv hlt hR hold
  subst hv
  have hrun:=run_append_grow_src (P:=P) w t tx ty e i z hel.ht hi hz base n cap xs hold x m ys hs hlt hm63 (nextcap_bound _ _ _ hlt hb)
  refine r1 hrun (hk _ _ ?_)
  have hge:=grownCap_ge w (n+m) cap e
  have hle:=grownCap_le_maxLen w (n+m) cap e hm
  have ha:=(hR.drew (drawn_drew w)).alloc e ((xs++ys)++(Builtin.zeroCells z.cells (grownCap w (n+m) cap e - (n+m))).toList)
  have hbk:((xs++ys)++(Builtin.zeroCells z.cells (grownCap w (n+m) cap e - (n+m))).toList).toArray=(xs++ys).toArray++Builtin.zeroCells z.cells (grownCap w (n+m) cap e - (n+m)):=by
   apply Array.ext'; simp
  rw [hbk] at ha
  have hcl:((xs++ys)++(Builtin.zeroCells z.cells (grownCap w (n+m) cap e - (n+m))).toList).length=grownCap w (n+m) cap e * i.size:=by
   rw [List.length_append,hlen,Array.length_toList,size_zeroCells,hel.hz,← Nat.add_mul]
   congr 1; omega
  have hmk:=ha.own_mk (sz:=i.size) (n+m) hge hle hcl
  rw [← hlen,List.take_left'] at hmk
  ·exact hmk
  ·rfl
 rcases hv with ⟨rfl,rfl,hR⟩ | ⟨g,cap,rest,rfl,h1,h2,h3,hB⟩
 ·obtain rfl:xs=[]:=List.eq_nil_of_length_eq_zero (by simpa using hl)
  rcases Nat.eq_zero_or_pos m with rfl | hmp
  ·obtain rfl:ys=[]:=List.eq_nil_of_length_eq_zero (by simpa using hyl)
   exact r1 (run_append_nothing w t tx ty e i hel.ht hi none 0 0 (Nat.le_refl _) x hs) (hk _ _ (by simpa using h))
  ·exact grown none 0 rfl (by omega) hR (by simpa using run_firstCells_none w.drew i.size 0 0 0)
 ·by_cases hroom:n+m≤cap
  ·have hcells:=hB.head_blk
   have hrest:ys.length≤rest.length:=by
    have:(n+m) * i.size≤cap * i.size:=Nat.mul_le_mul_right _ hroom
    rw [List.length_append] at h3 hlen
    omega
   have hrun:=run_append_room_src (P:=P) w t tx ty e i hel.ht hi g 0 n cap x m ys hs hroom (fun j hj=>by
     rw [cell_of_blk hcells]
     have:0+n * i.size+j < (xs++rest).length:=by rw [List.length_append,hl]; omega
     rw [List.getElem?_eq_getElem this]; rfl) (fun j hj=>frozen_of_blk hcells _ (by rw [List.length_append,hl]; omega))
   refine r1 hrun (hk _ _ ?_)
   have hset:=hB.setCells ys (0+n * i.size)
   rw [Nat.zero_add,← hl,setL_append xs ys rest hrest,← List.append_assoc] at hset
   have hcl:((xs++ys)++rest.drop ys.length).length=cap * i.size:=by
    rw [List.length_append,List.length_drop]
    rw [List.length_append] at h3 ⊢
    omega
   have hmk:=hset.own_mk (sz:=i.size) (n+m) hroom h2 hcl
   rw [← hlen,List.take_left'] at hmk
   ·rw [Nat.zero_add,← hl]; exact hmk
   ·rfl
  ·refine grown _ cap rfl (by omega) hB.drop ?_
   have hcells:=hB.head_blk
   refine run_firstCells_some w.drew i.size n _ n cap xs hl fun j u hu=>?_
   have:w.drew.cell? ((⟨g,0,none⟩:Addr).add j)=w.cell? ((⟨g,0,none⟩:Addr).add j):=rfl
   rw [this,add_addr,Nat.zero_add,cell_of_blk hcells,List.getElem?_append_left (List.getElem?_eq_some_iff.1 hu).1]
   exact hu
theorem r_make (hel:El P t e sz bt z) (h:St o w R) (kl kc:IntKind) (n:Nat) (hb:n * bt≤281474976710656) (hm:n≤maxLen)
  (hk:∀g w',St o w' (own e sz (.slice (some ⟨g,0,none⟩) n n) n (madeCells z.cells (n * sz)).toList::R)→kk (.slice (some ⟨g,0,none⟩) n n) w'):rN P Z (Instr.makeSlice t (.int kl n) (.int kc n)) w kk:=by
 obtain ⟨i,hi,rfl,rfl,hz⟩:=hel.info
 have hb':(i.bytes:Int) * (n:Int)≤281474976710656:=by
  have h:((n * i.bytes:Nat):Int)≤281474976710656:=by omega
  rw [Int.natCast_mul,Int.mul_comm] at h; exact h
 have hrun:=run_make (P:=P) w t e i z hel.ht hi hz kl kc n n (by omega) (Int.le_refl _) hb' (by simp only [maxLen] at hm; omega)
 refine r1 hrun (hk _ _ ?_)
 have ha:=h.alloc e (madeCells z.cells (n * i.size)).toList
 have hl:(madeCells z.cells (n * i.size)).toList.length=n * i.size:=by rw [Array.length_toList,size_madeCells]
 have hmk:=ha.own_mk (sz:=i.size) n (Nat.le_refl _) hm hl
 rw [List.take_of_length_le (by rw [hl]; exact Nat.le_refl _)] at hmk
 simpa using hmk
theorem r_load (h1:oneT P t=true) {a:Addr} (hc:w.cell? a=some v) (hk:kk v w):rN P Z (Instr.loadAt t (.pointer (some a))) w kk:=r1 (run_loadAt1 h1 hc) hk
theorem rr_load {kv:Value→Prop} (h1:oneT P t=true) {a:Addr} (hc:w.cell? a=some v) (hk:kv v):rD P (Instr.loadAt t (.pointer (some a))) w kv:=rr (run_loadAt1 h1 hc) hk
theorem rs_load {A:Prop} (h1:oneT P t=true) {a:Addr} (hc:w.cell? a=some v) (hk:A):Still P (nx (Instr.loadAt t (.pointer (some a)))) v w A:=rs (run_loadAt1 h1 hc) hk
theorem St.at (h:St o w As) {b:Nat} (hm:blk b e xs ∈ As) (i:Nat) (hx:xs[i]? = some v):w.cell? ⟨b,i,none⟩=some v:=by rw [cell_of_blk (h.mem_blk hm)]; exact hx
theorem r_store {k:World→Prop} {b i:Nat} (h:St o w (blk b e xs::R)) (h1:oneT P t=true) (hi:i < xs.length) (hv:v.oneCell'=true) (hk:∀w',St o w' (blk b e (xs.set i v)::R)→k w') :
  rO P Z (Instr.storeAt t (.pointer (some ⟨b,i,none⟩)) v) w k:=
 r0 (run_storeAt1 h1 (u:=xs[i]) (by rw [cell_of_blk h.head_blk]; exact List.getElem?_eq_getElem hi) (frozen_of_blk h.head_blk i hi) hv) (hk _ (h.setCell i v))
theorem r_box (elem:TypeId) (v:Value) (h:St o w R) (hk:∀g w',St o w' (blk g elem v.cells.toList::R)→kk (.pointer (some ⟨g,0,none⟩)) w'):rN P Z (Instr.box elem v) w kk:=by
 have hrun:(Instr.box elem v).run P w=.ok (.pointer (some ⟨w.heap.size,0,none⟩)) (w.alloc (.cells v.cells elem)):=by
  simp [Instr.box,newVar,newRow,newObj,Sem.run,World.alloc_eq]
 refine r1 hrun (hk _ _ ?_)
 simpa using h.alloc elem v.cells.toList
theorem Rd.index (h:Rd w 1 v n xs) (hel:El P t e 1 bt z) (k:IntKind) (i:Nat) (hi:i < n):∃a,(∀w,(Instr.indexAt t v (.int k i)).run P w=.ok (.pointer (some a)) w)∧w.cell? a=xs[i]? ∧ (xs[i]?).isSome=true:=by
 obtain ⟨hl,_,⟨c,rfl,rfl⟩ | ⟨a,c,rfl,hc⟩⟩:=h
 ·omega
 ·obtain ⟨info,hinfo,hs,_,_⟩:=hel.info
  rw [Nat.mul_one] at hl
  have hx:=List.getElem?_eq_getElem (l:=xs) (i:=i) (by omega)
  refine ⟨a.add i,fun w=>?_,by rw [hc i _ hx,hx],by rw [hx]; rfl⟩
  have hcs:P.cellsOf e=1:=by simp [Program.cellsOf,hinfo,hs]
  simp [Instr.indexAt,asIntOf,run_underlying hel.ht,run_sizeOf _ hinfo,hcs,hi]
theorem cells_one {v:Value} (hv:v.oneCell'=true):v.cells=#[v]:=by cases v <;> simp [Value.oneCell'] at hv <;> rfl
theorem fill_all:∀(vs pre rest:List Value),rest.length=vs.length→ones vs→Instr.fill (fun i=>some (i * 1,1)) (pre++rest).toArray ((vs.zipIdx pre.length).map fun p=>(p.2,p.1))=some (pre++vs).toArray
 | [],pre,rest,hl,_=>by
  obtain rfl:rest=[]:=List.eq_nil_of_length_eq_zero hl
  simp [Instr.fill]
 | v::vs,pre,rest,hl,h1=>by
  cases rest with
  | nil=>simp at hl
  | cons r rest=>
   have hv:=cells_one (h1 v List.mem_cons_self)
   have ih:=fill_all vs (pre++[v]) rest (by simpa using hl) (fun u hu=>h1 u (List.mem_cons_of_mem _ hu))
   simp only [List.zipIdx_cons,List.map_cons,Instr.fill,hv]
   have hs:¬ ((#[v].size ≠ 1 || pre.length * 1+#[v].size > (pre++r::rest).toArray.size)=true):=by simp
   rw [if_neg hs]
   have hset:(#[v].zipIdx.foldl (fun cs x=>cs.setIfInBounds (pre.length * 1+x.2) x.1) (pre++r::rest).toArray)=((pre++[v])++rest).toArray:=by
    apply Array.ext'
    simp [List.set_append_right]
   have e2:(pre++[v]).length=pre.length+1:=by simp
   rw [e2] at ih
   simp only [hset]
   have e3:pre++v::vs=pre++[v]++vs:=by simp
   rw [e3]
   exact ih
theorem r_slice (hel:El P t e 1 bt z) (h:St o w R) (len:Nat) (parts:Array (Nat × Value)) (vs:List Value) (hlen:vs.length=len) (hsz:len≤16777216) (h0:0 < len)
  (h1:ones vs) (hp:parts=(vs.zipIdx.map fun p=>(p.2,p.1)).toArray)
  (hk:∀g w',St o w' (own e 1 (.slice (some ⟨g,0,none⟩) len len) len vs::R)→kk (.slice (some ⟨g,0,none⟩) len len) w'):rN P Z (Instr.buildSlice t len parts) w kk:=by
 obtain ⟨i,hi,hs,_,hz⟩:=hel.info
 have hcs:P.cellsOf e=1:=by simp [Program.cellsOf,hi,hs]
 have hf:Instr.fill (fun i=>some (i * 1,1)) (madeCells z.cells (len * 1)) parts.toList=some vs.toArray:=by
  have:=fill_all vs [] (madeCells z.cells (len * 1)).toList (by rw [Array.length_toList,size_madeCells]; omega) h1
  simpa [hp] using this
 have hrun:(Instr.buildSlice t len parts).run P w=.ok (.slice (some ⟨w.heap.size,0,none⟩) len len) (w.alloc (.cells vs.toArray e)):=by
  have h1:¬ (len * 1 > 2 ^ 24):=by omega
  have h2:¬ (len * 1=0):=by omega
  have h3:(Array.range (len * 1)).map (fun x=>z.cells[x % z.cells.size]!)=madeCells z.cells (len * 1):=rfl
  have hzv:(zeroValue e).run P w=.ok z w:=by simp [zeroValue,run_typeInfo _ hi,hz]
  unfold Instr.buildSlice
  simp only [Sem.run_bind,run_underlying hel.ht,Result.andThen_ok,run_sizeOf _ hi,hcs,h1,h2,if_false,Sem.run_pure,hzv,h3,hf]
  simp [newRow,newObj,Sem.run,World.alloc_eq]
 refine r1 hrun (hk _ _ ?_)
 have ha:=h.alloc e vs
 have hmk:=ha.own_mk (sz:=1) (cap:=len) len (Nat.le_refl _) (by unfold maxLen; omega) (by rw [hlen,Nat.mul_one])
 rw [Nat.mul_one,List.take_of_length_le (by omega)] at hmk
 exact hmk
theorem Rd.form (h:Rd w sz v n xs):∃a c,v=.slice a n c:=by
 obtain ⟨_,_,⟨c,rfl,rfl⟩ | ⟨a,c,rfl,_⟩⟩:=h
 ·exact ⟨none,c,rfl⟩
 ·exact ⟨some a,c,rfl⟩
theorem Rd.drew (h:Rd w sz v n xs) (hd:Drew w w'):Rd w' sz v n xs:=by
 have hc:∀a,w'.cell? a=w.cell? a:=fun a=>by unfold World.cell?; rw [hd.heap]
 refine ⟨h.1,h.2.1,?_⟩
 rcases h.2.2 with h | ⟨a,c,rfl,hh⟩
 ·exact .inl h
 ·exact .inr ⟨a,c,rfl,fun j u hu=>by rw [hc]; exact hh j u hu⟩
theorem Rd.of_old {o':World} (h:Rd o' sz v n xs) (hS:St o w As) (hm:old o' ∈ As):Rd w sz v n xs:=by
 refine ⟨h.1,h.2.1,?_⟩
 rcases h.2.2 with h | ⟨a,c,rfl,hh⟩
 ·exact .inl h
 ·refine .inr ⟨a,c,rfl,fun j u hu=>?_⟩
  have h1:=hh j u hu
  have hb:=World.block_lt_of_cell? _ _ h1
  rw [← h1]
  exact World.cell?_of_block (w:=o') (hS.mem_old hm hb)
def Ent (o:World) (R:List HProp) (φ:World→Prop):Prop:=∀w,St o w R→φ w
theorem Ent.drop {A:HProp} {φ:World→Prop} (h:Ent o R φ):Ent o (A::R) φ:=fun w hS=>h w hS.drop
theorem Ent.old {o':World} (h:Rd o' sz v n xs) (hm:Sh.old o' ∈ R):Ent o R fun w=>Rd w sz v n xs:=fun _ hS=>h.of_old hS hm
theorem Ent.own (hm:Sh.own e sz v n xs ∈ R):Ent o R fun w=>Rd w sz v n xs:=fun _ hS=>hS.own_rd hm
theorem St.own_form (h:St o w (Sh.own e sz v n xs::R)):∃a c,v=.slice a n c:=(h.own_rd List.mem_cons_self).form
theorem r_push (hel:El P t e 1 bt z) (h:St o w (Sh.own e 1 v n xs::R)) (u:Value) (hu:u.oneCell'=true) (hb:(n+1) * bt≤140737488355328) (hm:n+1≤maxLen)
  (hk:∀v' w',St o w' (Sh.own e 1 v' (n+1) (xs++[u])::R)→kk v' w'):rN P Z (Instr.buildSlice t 1 #[(0,u)]) w fun x w=>rN P Z (Builtin.append_ #[t,t] ty #[v,x]) w kk:=by
 have h1:ones [u]:=by intro x hx; simp at hx; subst hx; exact hu
 refine r_slice hel h 1 _ [u] rfl (by omega) (by omega) h1 rfl fun g w1 hS=>?_
 have hsrc:=(hS.own_rd List.mem_cons_self).src hel.ht h1
 exact r_append hel hS.swap hsrc hb hm fun v' w2 hS2=>hk v' w2 hS2.swap.drop
theorem map_add0 (a:Option Addr):a.map (·.add 0)=a:=by cases a <;> rfl
theorem run_slice_to (hel:El P t e sz bt z) (a:Option Addr) (n c:Nat) (k:IntKind) (h:Int) (h0:0≤h) (h1:h≤c) (w:World) :
  (Instr.sliceAt t (.slice a n c) none (some (.int k h)) none).run P w=.ok (.slice a h.toNat c) w:=by
 obtain ⟨i,hi,_,_,_⟩:=hel.info
 have hb:h≤(c:Int):=h1
 simp [Instr.sliceAt,run_underlying hel.ht,Instr.slice,Instr.sliceBounds,Instr.sliceBound,asIntOf,h0,hb,run_sizeOf _ hi,map_add0]
theorem run_slice_from (hel:El P t e sz bt z) (a:Option Addr) (n c:Nat) (k:IntKind) (l:Int) (h0:0≤l) (h1:l≤n) (w:World) :
  (Instr.sliceAt t (.slice a n c) (some (.int k l)) none none).run P w=.ok (.slice (if c=l.toNat then a else a.map (·.add (l.toNat * sz))) (n - l.toNat) (c - l.toNat)) w:=by
 obtain ⟨i,hi,hs,_,_⟩:=hel.info
 have hc:P.cellsOf e=sz:=by simp [Program.cellsOf,hi,hs]
 simp [Instr.sliceAt,run_underlying hel.ht,Instr.slice,Instr.sliceBounds,Instr.sliceBound,asIntOf,h0,h1,run_sizeOf _ hi,hc]
theorem run_slice_3 (hel:El P t e sz bt z) (a:Option Addr) (n c:Nat) (k q:IntKind) (h m:Int) (h0:0≤h) (h1:h≤m) (h2:m≤c) (w:World) :
  (Instr.sliceAt t (.slice a n c) none (some (.int k h)) (some (.int q m))).run P w=.ok (.slice a h.toNat m.toNat) w:=by
 obtain ⟨i,hi,_,_,_⟩:=hel.info
 have h3:0≤m:=by omega
 have h4:max m 0=m:=by omega
 simp [Instr.sliceAt,run_underlying hel.ht,Instr.slice,Instr.sliceBounds,Instr.sliceBound,asIntOf,h0,h1,h2,h3,run_sizeOf _ hi,map_add0,h4]
theorem run_slice_mid (hel:El P t e sz bt z) (a:Option Addr) (n c:Nat) (k q:IntKind) (l h:Int) (h0:0≤l) (h1:l≤h) (h2:h≤c) (w:World) :
  (Instr.sliceAt t (.slice a n c) (some (.int k l)) (some (.int q h)) none).run P w=.ok (.slice (if c=l.toNat then a else a.map (·.add (l.toNat * sz))) (h.toNat - l.toNat) (c - l.toNat)) w:=by
 obtain ⟨i,hi,hs,_,_⟩:=hel.info
 have hc:P.cellsOf e=sz:=by simp [Program.cellsOf,hi,hs]
 have h3:0≤h:=by omega
 have h4:max h 0=h:=by omega
 simp [Instr.sliceAt,run_underlying hel.ht,Instr.slice,Instr.sliceBounds,Instr.sliceBound,asIntOf,h0,h1,h2,h3,run_sizeOf _ hi,hc,h4]
theorem St.fin {f:FuncId} {args:Array Value} (h:CallV P (fun _ _=>False) f args w fun r w'=>r=.bool true∧St w w' [Sh.old w]) :
  Calls P f args w fun e w'=>e=.returned (.bool true)∧Below w.heap.size w w':=h.out.mono fun e w' he=>by
 cases e with
 | returned v=>exact ⟨by rw [he.1],he.2.below List.mem_cons_self⟩
 | panicked _=>exact he.elim
 | outgrown=>exact he.elim
theorem Rd.row {k:IntKind} {a:Option Addr} {len cap:Nat} {zs:List Int} (h:(a=none∧len=0∧cap=0∧zs=[]) ∨
  ∃x,a=some x∧len≤cap∧cap≤maxLen∧zs.length=cap∧(∀i,i < zs.length→w.cell? (x.add i)=some (.int k (zs.getD i 0)))∧∀n ∈ zs,(Lit.int k n).wf=true) :
  (zs.take len).length=len∧(∀n ∈ zs.take len,k.min≤n∧n≤k.max)∧Rd w 1 (.slice a len cap) len ((zs.take len).map (.int k)):=by
 rcases h with ⟨rfl,rfl,rfl,rfl⟩ | ⟨x,rfl,h1,h2,h3,h4,h5⟩
 ·exact ⟨rfl,by simp,rfl,by simp [maxLen],.inl ⟨0,rfl,rfl⟩⟩
 ·have hlen:(zs.take len).length=len:=by rw [List.length_take]; omega
  refine ⟨hlen,fun n hn=>?_,by rw [List.length_map,hlen,Nat.mul_one],Nat.le_trans h1 h2,.inr ⟨x,cap,rfl,fun j u hu=>?_⟩⟩
  ·have:=h5 n (List.mem_of_mem_take hn)
   simpa [Lit.wf] using this
  ·have hj:=(List.getElem?_eq_some_iff.1 hu).1
   rw [List.length_map,hlen] at hj
   have hjz:j < zs.length:=by omega
   rw [h4 j hjz,← hu]
   simp [hj,List.getElem?_eq_getElem hjz,List.getD]
end

import Derived.Test.YtfijkedmbaghmaaGreatDoorShOps
import Derived.Deep.AppendSrc
import Derived.Laws.MakeOwn
import Derived.Laws.OwnMore
import Derived.Deep.Upon
import Derived.Laws.BytesString
import Derived.Laws.Tables
import Derived.Lib.ConvBytes
import Derived.OpenShut
import Derived.ChangeArms
import Derived.DataReads
import Derived.SizedLaws
/- Slices: rows of the call's own; rows that are read; what the operations do to them. Nothing of any one program stands here. -/
namespace Go.Sh
open Go.RowKit
structure El (P:Program) (t e:TypeId) (sz bt:Nat) (z:Value):Prop where
 ht:P.underlying t=some (.slice e)
 hi:(P.info? e).map (fun i=>(i.size,i.bytes,i.zero))=some (sz,bt,some z)
 hz:z.cells.size=sz
 pos:0 < sz
theorem El.info {P:Program} {t e:TypeId} {sz bt:Nat} {z:Value} (h:El P t e sz bt z):∃i,P.info? e=some i∧i.size=sz∧i.bytes=bt∧i.zero=some z:=by
 have hi:=h.hi
 cases hh:P.info? e with
 | none=>rw [hh] at hi; cases hi
 | some i=>
  rw [hh] at hi
  simp only [Option.map_some,Option.some.injEq,Prod.mk.injEq] at hi
  exact ⟨i,rfl,hi.1,hi.2.1,hi.2.2⟩
def own (e:TypeId) (sz:Nat) (v:Value) (n:Nat) (xs:List Value):HProp:=fun h=>xs.length=n * sz ∧
 ((v=.slice none 0 0∧n=0)∨∃g cap rest,v=.slice (some ⟨g,0,none⟩) n cap∧n≤cap∧cap≤maxLen∧(xs++rest).length=cap * sz∧blk g e (xs++rest) h)
def Rd (w:World) (sz:Nat) (v:Value) (n:Nat) (xs:List Value):Prop:=xs.length=n * sz∧n≤maxLen ∧
 ((∃c,v=.slice none 0 c∧n=0)∨∃a c,v=.slice (some a) n c∧∀(j:Nat) (u:Value),xs[j]? = some u→w.cell? (a.add j)=some u)
def ones (xs:List Value):Prop:=∀u ∈ xs,u.oneCell'=true
section
variable {P:Program} {Z:PZ} {o w w':World} {kk:PQ} {R As:List HProp} {t tx e ty:TypeId} {sz bt n m:Nat} {z v x:Value} {xs ys:List Value}
theorem St.own_nil (h:St o w R) (e:TypeId) (sz:Nat):St o w (own e sz (.slice none 0 0) 0 []::R):=h.emp.mono fun _ _=>⟨by simp,.inl ⟨rfl,rfl⟩⟩
theorem St.own_mk {g cap:Nat} {cells:List Value} (h:St o w (blk g e cells::R)) (n:Nat) (hn:n≤cap) (hc:cap≤maxLen) (hl:cells.length=cap * sz):St o w (own e sz (.slice (some ⟨g,0,none⟩) n cap) n (cells.take (n * sz))::R):=by
 refine h.mono fun h hb=>⟨?_,.inr ⟨g,cap,cells.drop (n * sz),rfl,hn,hc,?_,?_⟩⟩
 ·rw [List.length_take,hl]
  exact Nat.min_eq_left (Nat.mul_le_mul_right _ hn)
 ·rw [List.take_append_drop]; exact hl
 ·rw [List.take_append_drop]; exact hb
theorem St.own_open (h:St o w (own e sz v n xs::R)):xs.length=n * sz∧((v=.slice none 0 0∧n=0∧St o w R) ∨
  ∃g cap rest,v=.slice (some ⟨g,0,none⟩) n cap∧n≤cap∧cap≤maxLen∧(xs++rest).length=cap * sz∧St o w (blk g e (xs++rest)::R)):=by
 have h':=h
 obtain ⟨h1,h2,h3,h4,S,hA,hR⟩:=h
 obtain ⟨hl,hA⟩:=hA
 refine ⟨hl,?_⟩
 rcases hA with ⟨rfl,rfl⟩ | ⟨g,cap,rest,rfl,a1,a2,a3,a4⟩
 ·exact .inl ⟨rfl,rfl,h'.drop⟩
 ·exact .inr ⟨g,cap,rest,rfl,a1,a2,a3,h1,h2,h3,h4,S,a4,hR⟩
theorem St.own_rd (h:St o w As) (hm:own e sz v n xs ∈ As):Rd w sz v n xs:=by
 obtain ⟨S,hl,hA⟩:=satH_mem hm h.sat
 rcases hA with ⟨rfl,rfl⟩ | ⟨g,cap,rest,rfl,a1,a2,a3,a4⟩
 ·exact ⟨hl,by unfold maxLen; omega,.inl ⟨0,rfl,rfl⟩⟩
 ·refine ⟨hl,Nat.le_trans a1 a2,.inr ⟨_,cap,rfl,fun j u hu=>?_⟩⟩
  have hb:ob e (xs++rest) w.heap[g]? := (blk_on a4).1
  rw [add_addr,Nat.zero_add,cell_of_blk hb]
  rw [List.getElem?_append_left (List.getElem?_eq_some_iff.1 hu).1]
  exact hu
theorem Rd.src (h:Rd w sz x m ys) {e':TypeId} (hk:P.underlying tx=some (.slice e')) (h1:ones ys):Src P sz tx x m ys w:=by
 obtain ⟨hl,_,⟨c,rfl,rfl⟩ | ⟨a,c,rfl,hc⟩⟩:=h
 ·obtain rfl:ys=[]:=List.eq_nil_of_length_eq_zero (by simpa using hl)
  exact Src.ofNil w hk c
 ·exact Src.ofSlice w hk a m c ys hl hc h1
theorem nextcap_bound (need old b:Nat) (ho:old < need) (hb:need * b≤140737488355328):Builtin.nextslicecap need old * b≤281474976710656:=by
 have h2:need * 2 * b≤281474976710656:=by
  have:need * 2 * b=need * b * 2:=by rw [Nat.mul_assoc,Nat.mul_comm 2 b,← Nat.mul_assoc]
  omega
 have key:∀(k c:Nat),c≤need * 2→Builtin.growBy need k c≤need * 2+192:=by
  intro k
  induction k with
  | zero=>intro c hc; simp only [Builtin.growBy]; omega
  | succ k ih=>
   intro c hc
   simp only [Builtin.growBy]
   split
   ·omega
   ·rename_i hlt
    by_cases hq:c+(c+768) / 4≤need * 2
    ·exact ih _ hq
    ·have hge:need≤c+(c+768) / 4:=by omega
     have:Builtin.growBy need k (c+(c+768) / 4)=c+(c+768) / 4:=by
      cases k with
      | zero=>rfl
      | succ k=>simp only [Builtin.growBy]; rw [if_pos hge]
     rw [this]; omega
 unfold Builtin.nextslicecap
 split
 ·have:need * b≤need * 2 * b:=Nat.mul_le_mul_right _ (by omega)
  omega
 ·split
  ·have:2 * old * b≤need * 2 * b:=Nat.mul_le_mul_right _ (by omega)
   omega
  ·rename_i h1 h256
   -- old is 256 at least: 192 more are less than need itself
   have hk:Builtin.growBy need 4 old≤need * 2:=by
    have k2:∀(k c:Nat),256≤c→c≤need→Builtin.growBy need k c≤need * 2:=by
     intro k
     induction k with
     | zero=>intro c _ hc; simp only [Builtin.growBy]; omega
     | succ k ih=>
      intro c h256 hc
      simp only [Builtin.growBy]
      split
      ·omega
      ·rename_i hlt
       by_cases hq:c+(c+768) / 4≤need
       ·exact ih _ (by omega) hq
       ·have hge:need≤c+(c+768) / 4:=by omega
        have:Builtin.growBy need k (c+(c+768) / 4)=c+(c+768) / 4:=by
         cases k with
         | zero=>rfl
         | succ k=>simp only [Builtin.growBy]; rw [if_pos hge]
        rw [this]; omega
    exact k2 4 old (by omega) (by omega)
   have:Builtin.growBy need 4 old * b≤need * 2 * b:=Nat.mul_le_mul_right _ hk
   omega
theorem drawn_drew (w:World):Drew w w.drew:=⟨rfl,rfl,rfl,rfl⟩
theorem r_append (hel:El P t e sz bt z) (h:St o w (own e sz v n xs::R)) (hs:Src P sz tx x m ys w) (hb:(n+m) * bt≤140737488355328) (hm:n+m≤maxLen)
  (hk:∀v' w',St o w' (own e sz v' (n+m) (xs++ys)::R)→kk v' w'):rN P Z (Builtin.append_ #[t,tx] ty #[v,x]) w kk:=by
 obtain ⟨i,hi,rfl,rfl,hz⟩:=hel.info
 obtain ⟨hl,hv⟩:=h.own_open
 have hyl:=hs.newsLen
 have hm63:((n+m:Nat):Int)≤9223372036854775807:=by simp only [maxLen] at hm; omega
 have hlen:(xs++ys).length=(n+m) * i.size:=by rw [List.length_append,hl,hyl,Nat.add_mul]
 -- a new row
 have grown:∀(base:Option Addr) (cap:Nat),v=.slice base n cap→cap < n+m→St o w R→(Builtin.firstCells i.size n (.slice base n cap)).run P w.drew=.ok xs.toArray w.drew→rN P Z (Builtin.append_ #[t,tx] ty #[v,x]) w kk:=by
  intro base cap hv hlt hR hold
  subst hv
  have hrun:=run_append_grow_src (P:=P) w t tx ty e i z hel.ht hi hz base n cap xs hold x m ys hs hlt hm63 (nextcap_bound _ _ _ hlt hb)
  refine r1 hrun (hk _ _ ?_)
  have hge:=grownCap_ge w (n+m) cap e
  have hle:=grownCap_le_maxLen w (n+m) cap e hm
  have ha:=(hR.drew (drawn_drew w)).alloc e ((xs++ys)++(Builtin.zeroCells z.cells (grownCap w (n+m) cap e - (n+m))).toList)
  have hbk:((xs++ys)++(Builtin.zeroCells z.cells (grownCap w (n+m) cap e - (n+m))).toList).toArray=(xs++ys).toArray++Builtin.zeroCells z.cells (grownCap w (n+m) cap e - (n+m)):=by
   apply Array.ext'; simp
  rw [hbk] at ha
  have hcl:((xs++ys)++(Builtin.zeroCells z.cells (grownCap w (n+m) cap e - (n+m))).toList).length=grownCap w (n+m) cap e * i.size:=by
   rw [List.length_append,hlen,Array.length_toList,size_zeroCells,hel.hz,← Nat.add_mul]
   congr 1; omega
  have hmk:=ha.own_mk (sz:=i.size) (n+m) hge hle hcl
  rw [← hlen,List.take_left'] at hmk
  ·exact hmk
  ·rfl
 rcases hv with ⟨rfl,rfl,hR⟩ | ⟨g,cap,rest,rfl,h1,h2,h3,hB⟩
 ·obtain rfl:xs=[]:=List.eq_nil_of_length_eq_zero (by simpa using hl)
  rcases Nat.eq_zero_or_pos m with rfl | hmp
  ·obtain rfl:ys=[]:=List.eq_nil_of_length_eq_zero (by simpa using hyl)
   exact r1 (run_append_nothing w t tx ty e i hel.ht hi none 0 0 (Nat.le_refl _) x hs) (hk _ _ (by simpa using h))
  ·exact grown none 0 rfl (by omega) hR (by simpa using run_firstCells_none w.drew i.size 0 0 0)
 ·by_cases hroom:n+m≤cap
  ·have hcells:=hB.head_blk
   have hrest:ys.length≤rest.length:=by
    have:(n+m) * i.size≤cap * i.size:=Nat.mul_le_mul_right _ hroom
    rw [List.length_append] at h3 hlen
    omega
   have hrun:=run_append_room_src (P:=P) w t tx ty e i hel.ht hi g 0 n cap x m ys hs hroom (fun j hj=>by
     rw [cell_of_blk hcells]
     have:0+n * i.size+j < (xs++rest).length:=by rw [List.length_append,hl]; omega
     rw [List.getElem?_eq_getElem this]; rfl) (fun j hj=>frozen_of_blk hcells _ (by rw [List.length_append,hl]; omega))
   refine r1 hrun (hk _ _ ?_)
   have hset:=hB.setCells ys (0+n * i.size)
   rw [Nat.zero_add,← hl,setL_append xs ys rest hrest,← List.append_assoc] at hset
   have hcl:((xs++ys)++rest.drop ys.length).length=cap * i.size:=by
    rw [List.length_append,List.length_drop]
    rw [List.length_append] at h3 ⊢
    omega
   have hmk:=hset.own_mk (sz:=i.size) (n+m) hroom h2 hcl
   rw [← hlen,List.take_left'] at hmk
   ·rw [Nat.zero_add,← hl]; exact hmk
   ·rfl
  ·refine grown _ cap rfl (by omega) hB.drop ?_
   have hcells:=hB.head_blk
   refine run_firstCells_some w.drew i.size n _ n cap xs hl fun j u hu=>?_
   have:w.drew.cell? ((⟨g,0,none⟩:Addr).add j)=w.cell? ((⟨g,0,none⟩:Addr).add j):=rfl
   rw [this,add_addr,Nat.zero_add,cell_of_blk hcells,List.getElem?_append_left (List.getElem?_eq_some_iff.1 hu).1]
   exact hu
theorem r_make (hel:El P t e sz bt z) (h:St o w R) (kl kc:IntKind) (n:Nat) (hb:n * bt≤281474976710656) (hm:n≤maxLen)
  (hk:∀g w',St o w' (own e sz (.slice (some ⟨g,0,none⟩) n n) n (madeCells z.cells (n * sz)).toList::R)→kk (.slice (some ⟨g,0,none⟩) n n) w'):rN P Z (Instr.makeSlice t (.int kl n) (.int kc n)) w kk:=by
 obtain ⟨i,hi,rfl,rfl,hz⟩:=hel.info
 have hb':(i.bytes:Int) * (n:Int)≤281474976710656:=by
  have h:((n * i.bytes:Nat):Int)≤281474976710656:=by omega
  rw [Int.natCast_mul,Int.mul_comm] at h; exact h
 have hrun:=run_make (P:=P) w t e i z hel.ht hi hz kl kc n n (by omega) (Int.le_refl _) hb' (by simp only [maxLen] at hm; omega)
 refine r1 hrun (hk _ _ ?_)
 have ha:=h.alloc e (madeCells z.cells (n * i.size)).toList
 have hl:(madeCells z.cells (n * i.size)).toList.length=n * i.size:=by rw [Array.length_toList,size_madeCells]
 have hmk:=ha.own_mk (sz:=i.size) n (Nat.le_refl _) hm hl
 rw [List.take_of_length_le (by rw [hl]; exact Nat.le_refl _)] at hmk
 simpa using hmk
theorem r_load (h1:oneT P t=true) {a:Addr} (hc:w.cell? a=some v) (hk:kk v w):rN P Z (Instr.loadAt t (.pointer (some a))) w kk:=r1 (run_loadAt1 h1 hc) hk
theorem rr_load {kv:Value→Prop} (h1:oneT P t=true) {a:Addr} (hc:w.cell? a=some v) (hk:kv v):rD P (Instr.loadAt t (.pointer (some a))) w kv:=rr (run_loadAt1 h1 hc) hk
theorem rs_load {A:Prop} (h1:oneT P t=true) {a:Addr} (hc:w.cell? a=some v) (hk:A):Still P (nx (Instr.loadAt t (.pointer (some a)))) v w A:=rs (run_loadAt1 h1 hc) hk
theorem St.at (h:St o w As) {b:Nat} (hm:blk b e xs ∈ As) (i:Nat) (hx:xs[i]? = some v):w.cell? ⟨b,i,none⟩=some v:=by rw [cell_of_blk (h.mem_blk hm)]; exact hx
theorem r_store {k:World→Prop} {b i:Nat} (h:St o w (blk b e xs::R)) (h1:oneT P t=true) (hi:i < xs.length) (hv:v.oneCell'=true) (hk:∀w',St o w' (blk b e (xs.set i v)::R)→k w') :
  rO P Z (Instr.storeAt t (.pointer (some ⟨b,i,none⟩)) v) w k:=
 r0 (run_storeAt1 h1 (u:=xs[i]) (by rw [cell_of_blk h.head_blk]; exact List.getElem?_eq_getElem hi) (frozen_of_blk h.head_blk i hi) hv) (hk _ (h.setCell i v))
theorem r_store_own {k:World→Prop} {g c:Nat} {i:Nat} (h:St o w (own e 1 (.slice (some ⟨g,0,none⟩) n c) n xs::R)) (h1:oneT P t=true) (hi:i < n) (hv:v.oneCell'=true)
  (hk:∀w',St o w' (own e 1 (.slice (some ⟨g,0,none⟩) n c) n (xs.set i v)::R)→k w'):rO P Z (Instr.storeAt t (.pointer (some ⟨g,i,none⟩)) v) w k:=by
 obtain ⟨hl,⟨hx,_⟩ | ⟨g',cap,rest,hx,a1,a2,a3,hB⟩⟩:=h.own_open
 ·cases hx
 ·injection hx with hx1 hx2 hx3
  injection hx1 with hx1
  injection hx1 with hx1
  subst hx1; subst hx3
  rw [Nat.mul_one] at hl
  refine r_store hB h1 (by rw [List.length_append]; omega) hv fun w' hS=>hk w' ?_
  have e1:(xs++rest).set i v=xs.set i v++rest:=List.set_append_left _ _ (by omega)
  rw [e1] at hS
  have hmk:=hS.own_mk (sz:=1) n a1 a2 (by rw [← a3]; simp)
  rw [Nat.mul_one,List.take_left' (by rw [List.length_set]; exact hl)] at hmk
  exact hmk
theorem r_box (elem:TypeId) (v:Value) (h:St o w R) (hk:∀g w',St o w' (blk g elem v.cells.toList::R)→kk (.pointer (some ⟨g,0,none⟩)) w'):rN P Z (Instr.box elem v) w kk:=by
 have hrun:(Instr.box elem v).run P w=.ok (.pointer (some ⟨w.heap.size,0,none⟩)) (w.alloc (.cells v.cells elem)):=by
  simp [Instr.box,newVar,newRow,newObj,Sem.run,World.alloc_eq]
 refine r1 hrun (hk _ _ ?_)
 simpa using h.alloc elem v.cells.toList
theorem Rd.index (h:Rd w 1 v n xs) (hel:El P t e 1 bt z) (k:IntKind) (i:Nat) (hi:i < n):∃a,(∀w,(Instr.indexAt t v (.int k i)).run P w=.ok (.pointer (some a)) w)∧w.cell? a=xs[i]? ∧ (xs[i]?).isSome=true:=by
 obtain ⟨hl,_,⟨c,rfl,rfl⟩ | ⟨a,c,rfl,hc⟩⟩:=h
 ·omega
 ·obtain ⟨info,hinfo,hs,_,_⟩:=hel.info
  rw [Nat.mul_one] at hl
  have hx:=List.getElem?_eq_getElem (l:=xs) (i:=i) (by omega)
  refine ⟨a.add i,fun w=>?_,by rw [hc i _ hx,hx],by rw [hx]; rfl⟩
  have hcs:P.cellsOf e=1:=by simp [Program.cellsOf,hinfo,hs]
  simp [Instr.indexAt,asIntOf,run_underlying hel.ht,run_sizeOf _ hinfo,hcs,hi]
theorem cells_one {v:Value} (hv:v.oneCell'=true):v.cells=#[v]:=by cases v <;> simp [Value.oneCell'] at hv <;> rfl
theorem fill_all:∀(vs pre rest:List Value),rest.length=vs.length→ones vs→Instr.fill (fun i=>some (i * 1,1)) (pre++rest).toArray ((vs.zipIdx pre.length).map fun p=>(p.2,p.1))=some (pre++vs).toArray
 | [],pre,rest,hl,_=>by
  obtain rfl:rest=[]:=List.eq_nil_of_length_eq_zero hl
  simp [Instr.fill]
 | v::vs,pre,rest,hl,h1=>by
  cases rest with
  | nil=>simp at hl
  | cons r rest=>
   have hv:=cells_one (h1 v List.mem_cons_self)
   have ih:=fill_all vs (pre++[v]) rest (by simpa using hl) (fun u hu=>h1 u (List.mem_cons_of_mem _ hu))
   simp only [List.zipIdx_cons,List.map_cons,Instr.fill,hv]
   have hs:¬ ((#[v].size ≠ 1 || pre.length * 1+#[v].size > (pre++r::rest).toArray.size)=true):=by simp
   rw [if_neg hs]
   have hset:(#[v].zipIdx.foldl (fun cs x=>cs.setIfInBounds (pre.length * 1+x.2) x.1) (pre++r::rest).toArray)=((pre++[v])++rest).toArray:=by
    apply Array.ext'
    simp [List.set_append_right]
   have e2:(pre++[v]).length=pre.length+1:=by simp
   rw [e2] at ih
   simp only [hset]
   have e3:pre++v::vs=pre++[v]++vs:=by simp
   rw [e3]
   exact ih
theorem r_slice (hel:El P t e 1 bt z) (h:St o w R) (len:Nat) (parts:Array (Nat × Value)) (vs:List Value) (hlen:vs.length=len) (hsz:len≤16777216) (h0:0 < len)
  (h1:ones vs) (hp:parts=(vs.zipIdx.map fun p=>(p.2,p.1)).toArray)
  (hk:∀g w',St o w' (own e 1 (.slice (some ⟨g,0,none⟩) len len) len vs::R)→kk (.slice (some ⟨g,0,none⟩) len len) w'):rN P Z (Instr.buildSlice t len parts) w kk:=by
 obtain ⟨i,hi,hs,_,hz⟩:=hel.info
 have hcs:P.cellsOf e=1:=by simp [Program.cellsOf,hi,hs]
 have hf:Instr.fill (fun i=>some (i * 1,1)) (madeCells z.cells (len * 1)) parts.toList=some vs.toArray:=by
  have:=fill_all vs [] (madeCells z.cells (len * 1)).toList (by rw [Array.length_toList,size_madeCells]; omega) h1
  simpa [hp] using this
 have hrun:(Instr.buildSlice t len parts).run P w=.ok (.slice (some ⟨w.heap.size,0,none⟩) len len) (w.alloc (.cells vs.toArray e)):=by
  have h1:¬ (len * 1 > 2 ^ 24):=by omega
  have h2:¬ (len * 1=0):=by omega
  have h3:(Array.range (len * 1)).map (fun x=>z.cells[x % z.cells.size]!)=madeCells z.cells (len * 1):=rfl
  have hzv:(zeroValue e).run P w=.ok z w:=by simp [zeroValue,run_typeInfo _ hi,hz]
  unfold Instr.buildSlice
  simp only [Sem.run_bind,run_underlying hel.ht,Result.andThen_ok,run_sizeOf _ hi,hcs,h1,h2,if_false,Sem.run_pure,hzv,h3,hf]
  simp [newRow,newObj,Sem.run,World.alloc_eq]
 refine r1 hrun (hk _ _ ?_)
 have ha:=h.alloc e vs
 have hmk:=ha.own_mk (sz:=1) (cap:=len) len (Nat.le_refl _) (by unfold maxLen; omega) (by rw [hlen,Nat.mul_one])
 rw [Nat.mul_one,List.take_of_length_le (by omega)] at hmk
 exact hmk
theorem Rd.form (h:Rd w sz v n xs):∃a c,v=.slice a n c:=by
 obtain ⟨_,_,⟨c,rfl,rfl⟩ | ⟨a,c,rfl,_⟩⟩:=h
 ·exact ⟨none,c,rfl⟩
 ·exact ⟨some a,c,rfl⟩
theorem Rd.drew (h:Rd w sz v n xs) (hd:Drew w w'):Rd w' sz v n xs:=by
 have hc:∀a,w'.cell? a=w.cell? a:=fun a=>by unfold World.cell?; rw [hd.heap]
 refine ⟨h.1,h.2.1,?_⟩
 rcases h.2.2 with h | ⟨a,c,rfl,hh⟩
 ·exact .inl h
 ·exact .inr ⟨a,c,rfl,fun j u hu=>by rw [hc]; exact hh j u hu⟩
theorem Rd.of_old {o':World} (h:Rd o' sz v n xs) (hS:St o w As) (hm:old o' ∈ As):Rd w sz v n xs:=by
 refine ⟨h.1,h.2.1,?_⟩
 rcases h.2.2 with h | ⟨a,c,rfl,hh⟩
 ·exact .inl h
 ·refine .inr ⟨a,c,rfl,fun j u hu=>?_⟩
  have h1:=hh j u hu
  have hb:=World.block_lt_of_cell? _ _ h1
  rw [← h1]
  exact World.cell?_of_block (w:=o') (hS.mem_old hm hb)
def Ent (o:World) (R:List HProp) (φ:World→Prop):Prop:=∀w,St o w R→φ w
theorem Ent.drop {A:HProp} {φ:World→Prop} (h:Ent o R φ):Ent o (A::R) φ:=fun w hS=>h w hS.drop
theorem Ent.old {o':World} (h:Rd o' sz v n xs) (hm:Sh.old o' ∈ R):Ent o R fun w=>Rd w sz v n xs:=fun _ hS=>h.of_old hS hm
theorem Ent.own (hm:Sh.own e sz v n xs ∈ R):Ent o R fun w=>Rd w sz v n xs:=fun _ hS=>hS.own_rd hm
theorem St.own_form (h:St o w (Sh.own e sz v n xs::R)):∃a c,v=.slice a n c:=(h.own_rd List.mem_cons_self).form
theorem r_push (hel:El P t e 1 bt z) (h:St o w (Sh.own e 1 v n xs::R)) (u:Value) (hu:u.oneCell'=true) (hb:(n+1) * bt≤140737488355328) (hm:n+1≤maxLen)
  (hk:∀v' w',St o w' (Sh.own e 1 v' (n+1) (xs++[u])::R)→kk v' w'):rN P Z (Instr.buildSlice t 1 #[(0,u)]) w fun x w=>rN P Z (Builtin.append_ #[t,t] ty #[v,x]) w kk:=by
 have h1:ones [u]:=by intro x hx; simp at hx; subst hx; exact hu
 refine r_slice hel h 1 _ [u] rfl (by omega) (by omega) h1 rfl fun g w1 hS=>?_
 have hsrc:=(hS.own_rd List.mem_cons_self).src hel.ht h1
 exact r_append hel hS.swap hsrc hb hm fun v' w2 hS2=>hk v' w2 hS2.swap.drop
theorem map_add0 (a:Option Addr):a.map (·.add 0)=a:=by cases a <;> rfl
theorem run_slice_to (hel:El P t e sz bt z) (a:Option Addr) (n c:Nat) (k:IntKind) (h:Int) (h0:0≤h) (h1:h≤c) (w:World) :
  (Instr.sliceAt t (.slice a n c) none (some (.int k h)) none).run P w=.ok (.slice a h.toNat c) w:=by
 obtain ⟨i,hi,_,_,_⟩:=hel.info
 have hb:h≤(c:Int):=h1
 simp [Instr.sliceAt,run_underlying hel.ht,Instr.slice,Instr.sliceBounds,Instr.sliceBound,asIntOf,h0,hb,run_sizeOf _ hi,map_add0]
theorem run_slice_from (hel:El P t e sz bt z) (a:Option Addr) (n c:Nat) (k:IntKind) (l:Int) (h0:0≤l) (h1:l≤n) (w:World) :
  (Instr.sliceAt t (.slice a n c) (some (.int k l)) none none).run P w=.ok (.slice (if c=l.toNat then a else a.map (·.add (l.toNat * sz))) (n - l.toNat) (c - l.toNat)) w:=by
 obtain ⟨i,hi,hs,_,_⟩:=hel.info
 have hc:P.cellsOf e=sz:=by simp [Program.cellsOf,hi,hs]
 simp [Instr.sliceAt,run_underlying hel.ht,Instr.slice,Instr.sliceBounds,Instr.sliceBound,asIntOf,h0,h1,run_sizeOf _ hi,hc]
theorem run_slice_3 (hel:El P t e sz bt z) (a:Option Addr) (n c:Nat) (k q:IntKind) (h m:Int) (h0:0≤h) (h1:h≤m) (h2:m≤c) (w:World) :
  (Instr.sliceAt t (.slice a n c) none (some (.int k h)) (some (.int q m))).run P w=.ok (.slice a h.toNat m.toNat) w:=by
 obtain ⟨i,hi,_,_,_⟩:=hel.info
 have h3:0≤m:=by omega
 have h4:max m 0=m:=by omega
 simp [Instr.sliceAt,run_underlying hel.ht,Instr.slice,Instr.sliceBounds,Instr.sliceBound,asIntOf,h0,h1,h2,h3,run_sizeOf _ hi,map_add0,h4]
theorem r_store_ix {k:World→Prop} {a:Addr} (h:St o w (Sh.own e 1 v n xs::R)) (hel:El P t e 1 bt z) (h1:oneT P ty=true) (q:IntKind) (i:Nat) (hi:i < n) (ha:(Instr.indexAt t v (.int q i)).run P w=.ok (.pointer (some a)) w) (hu:x.oneCell'=true)
  (hk:∀w',St o w' (Sh.own e 1 v n (xs.set i x)::R)→k w'):rO P Z (Instr.storeAt ty (.pointer (some a)) x) w k:=by
 obtain ⟨hl,⟨rfl,rfl,_⟩ | ⟨g,cap,rest,rfl,a1,a2,a3,hB⟩⟩:=h.own_open
 ·omega
 ·obtain ⟨info,hinfo,hs,_,_⟩:=hel.info
  have:=run_indexAt hel.ht hinfo g 0 n cap q (i:Int) (by omega) (by omega) w
  rw [this,hs] at ha
  injection ha with ha _
  injection ha with ha
  injection ha with ha
  subst ha
  simp only [Nat.mul_one,Nat.zero_add,Int.toNat_natCast]
  exact r_store_own h h1 hi hu hk
theorem St.fin {f:FuncId} {args:Array Value} (h:CallV P (fun _ _=>False) f args w fun r w'=>r=.bool true∧St w w' [Sh.old w]) :
  Calls P f args w fun e w'=>e=.returned (.bool true)∧Below w.heap.size w w':=h.out.mono fun e w' he=>by
 cases e with
 | returned v=>exact ⟨by rw [he.1],he.2.below List.mem_cons_self⟩
 | panicked _=>exact he.elim
 | outgrown=>exact he.elim
theorem Rd.row {k:IntKind} {a:Option Addr} {len cap:Nat} {zs:List Int} (h:(a=none∧len=0∧cap=0∧zs=[]) ∨
  ∃x,a=some x∧len≤cap∧cap≤maxLen∧zs.length=cap∧(∀i,i < zs.length→w.cell? (x.add i)=some (.int k (zs.getD i 0)))∧∀n ∈ zs,(Lit.int k n).wf=true) :
  (zs.take len).length=len∧(∀n ∈ zs.take len,k.min≤n∧n≤k.max)∧Rd w 1 (.slice a len cap) len ((zs.take len).map (.int k)):=by
 rcases h with ⟨rfl,rfl,rfl,rfl⟩ | ⟨x,rfl,h1,h2,h3,h4,h5⟩
 ·exact ⟨rfl,by simp,rfl,by simp [maxLen],.inl ⟨0,rfl,rfl⟩⟩
 ·have hlen:(zs.take len).length=len:=by rw [List.length_take]; omega
  refine ⟨hlen,fun n hn=>?_,by rw [List.length_map,hlen,Nat.mul_one],Nat.le_trans h1 h2,.inr ⟨x,cap,rfl,fun j u hu=>?_⟩⟩
  ·have:=h5 n (List.mem_of_mem_take hn)
   simpa [Lit.wf] using this
  ·have hj:=(List.getElem?_eq_some_iff.1 hu).1
   rw [List.length_map,hlen] at hj
   have hjz:j < zs.length:=by omega
   rw [h4 j hjz,← hu]
   simp [hj,List.getElem?_eq_getElem hjz,List.getD]
end
end Go.Sh

/- Values of many cells (structs, arrays): loads, stores, new variables, slices of them, copy; calls through values; strings of bytes. Nothing of any one program stands here. -/
namespace Go.Sh
open Go.RowKit
def aggT (P:Program) (t:TypeId) (n:Nat):Bool:=(match P.underlying t with
 | some (.struct _)=>true
 | some (.array _ _)=>true
 | _=>false) && (match P.info? t with
 | some i=>Nat.beq i.size n
 | none=>false)
def isFuncT (P:Program) (t:TypeId):Bool:=match P.underlying t with | some (.func _ _ _)=>true | _=>false
def isBoolT (P:Program) (t:TypeId):Bool:=match P.underlying t with | some .bool=>true | _=>false
theorem isFuncT_spec {P:Program} {t:TypeId} (h:isFuncT P t=true):∃a b c,P.underlying t=some (.func a b c):=by
 unfold isFuncT at h; split at h
 ·rename_i a b c he; exact ⟨a,b,c,he⟩
 ·cases h
theorem isBoolT_spec {P:Program} {t:TypeId} (h:isBoolT P t=true):P.underlying t=some .bool:=by
 unfold isBoolT at h; split at h
 ·rename_i he; exact he
 ·cases h
theorem run_eql_func {P:Program} {t:TypeId} (h:isFuncT P t=true) (cx cy:Bool) (f:Fn) (a b:Array Value) (w:World):(eqOp .eql t cx cy (.func f a b) .nilFunc).run P w=.ok (.bool false) w:=by
 obtain ⟨_,_,_,he⟩:=isFuncT_spec h
 have hq:=run_equal1 (P:=P) (w:=w) (t:=t) (x:=.func f a b) (y:=.nilFunc) (r:=false) fun d=>by simp [Op.equalIn,run_underlying he]
 simp only [eqOp,eqGuard,binOp]
 simp [hq]
theorem run_eql_boolV {P:Program} {t:TypeId} (h:isBoolT P t=true) (cx cy a b:Bool) (w:World):(eqOp .eql t cx cy (.bool a) (.bool b)).run P w=.ok (.bool (a == b)) w:=by
 have hq:=run_equal1 (P:=P) (w:=w) (t:=t) (x:=.bool a) (y:=.bool b) (r:=a == b) fun d=>by simp [Op.equalIn,run_underlying (isBoolT_spec h)]
 simp only [eqOp,eqGuard,binOp]
 simp [hq]
theorem run_neq_boolV {P:Program} {t:TypeId} (h:isBoolT P t=true) (cx cy a b:Bool) (w:World):(eqOp .neq t cx cy (.bool a) (.bool b)).run P w=.ok (.bool (a != b)) w:=by
 have hq:=run_equal1 (P:=P) (w:=w) (t:=t) (x:=.bool a) (y:=.bool b) (r:=a == b) fun d=>by simp [Op.equalIn,run_underlying (isBoolT_spec h)]
 simp only [eqOp,eqGuard,binOp]
 simp [hq,bne]
def zeroT (P:Program) (t:TypeId):Option Value:=(P.info? t).bind (·.zero)
section
variable {P:Program} {Z:PZ} {o w w':World} {kk:PQ} {kv:Value→Prop} {R As:List HProp} {t tx e ty:TypeId} {sz bt n m:Nat} {z v x:Value} {xs ys:List Value}
theorem addr_add2 (a:Addr) (i j:Nat):(a.add i).add j=a.add (i+j):=by
 unfold Addr.add
 by_cases hi:i=0
 ·subst hi; simp
 ·by_cases hj:j=0
  ·subst hj; simp [hi]
  ·simp [hi,hj,Nat.add_assoc]
theorem aggT_spec (h:aggT P t n=true):(∃d,P.underlying t=some d∧((∃f,d=.struct f)∨∃a b,d=.array a b))∧∃i,P.info? t=some i∧i.size=n:=by
 unfold aggT at h
 rw [Bool.and_eq_true] at h
 obtain ⟨h1,h2⟩:=h
 constructor
 ·cases hd:P.underlying t with
  | none=>rw [hd] at h1; cases h1
  | some d=>
   rw [hd] at h1
   refine ⟨d,rfl,?_⟩
   cases d <;> first | exact .inl ⟨_,rfl⟩ | exact .inr ⟨_,_,rfl⟩ | cases h1
 ·cases hi:P.info? t with
  | none=>rw [hi] at h2; cases h2
  | some i=>rw [hi] at h2; exact ⟨i,rfl,Nat.eq_of_beq_eq_true h2⟩
theorem run_isAgg (h:aggT P t n=true) (w:World):(isAgg t).run P w=.ok true w:=by
 obtain ⟨⟨d,hd,hk⟩,_⟩:=aggT_spec h
 unfold isAgg
 simp only [Sem.run_bind,run_underlying hd]
 rcases hk with ⟨f,rfl⟩ | ⟨a,b,rfl⟩ <;> rfl
theorem run_loadVarN (h:aggT P t n=true) {a:Addr} (hl:xs.length=n) (hc:∀j v,xs[j]? = some v→w.cell? (a.add j)=some v):(loadVar t a).run P w=.ok (.agg xs.toArray) w:=by
 obtain ⟨_,i,hi,hs⟩:=aggT_spec h
 unfold loadVar
 have hcs:P.cellsOf t=n:=by simp [Program.cellsOf,hi,hs]
 simp only [Sem.run_bind,run_isAgg h,Result.andThen_ok,if_true,run_sizeOf _ hi,hcs,← hl,run_loadCells_list w a xs hc]
 rfl
theorem run_loadAtN (h:aggT P t n=true) {a:Addr} (hl:xs.length=n) (hc:∀j v,xs[j]? = some v→w.cell? (a.add j)=some v):(Instr.loadAt t (.pointer (some a))).run P w=.ok (.agg xs.toArray) w:=by
 simp [Instr.loadAt,Instr.sureAddr,run_loadVarN h hl hc]
theorem St.cells_at (h:St o w As) {b:Nat} (hm:blk b e ys ∈ As) (i:Nat) (hx:∀j v,xs[j]? = some v→ys[i+j]? = some v):∀j v,xs[j]? = some v→w.cell? ((⟨b,i,none⟩:Addr).add j)=some v:=fun j v hv=>by
 rw [add_addr,cell_of_blk (h.mem_blk hm)]; exact hx j v hv
theorem whole_at (xs:List Value):∀j v,xs[j]? = some v→xs[0+j]? = some v:=fun j v h=>by rwa [Nat.zero_add]
theorem take_drop_at (ys:List Value) (i n:Nat):∀j v,((ys.drop i).take n)[j]? = some v→ys[i+j]? = some v:=fun j v h=>by
 by_cases hj:j < n
 ·rwa [List.getElem?_take_of_lt hj,List.getElem?_drop] at h
 ·rw [List.getElem?_take_eq_none (by omega)] at h; cases h
theorem r_loadN (h1:aggT P t n=true) {a:Addr} (hl:xs.length=n) (hc:∀j v,xs[j]? = some v→w.cell? (a.add j)=some v) (hk:kk (.agg xs.toArray) w):rN P Z (Instr.loadAt t (.pointer (some a))) w kk:=r1 (run_loadAtN h1 hl hc) hk
theorem rr_loadN (h1:aggT P t n=true) {a:Addr} (hl:xs.length=n) (hc:∀j v,xs[j]? = some v→w.cell? (a.add j)=some v) (hk:kv (.agg xs.toArray)):rD P (Instr.loadAt t (.pointer (some a))) w kv:=rr (run_loadAtN h1 hl hc) hk
theorem rs_loadN {A:Prop} (h1:aggT P t n=true) {a:Addr} (hl:xs.length=n) (hc:∀j v,xs[j]? = some v→w.cell? (a.add j)=some v) (hk:A):Still P (nx (Instr.loadAt t (.pointer (some a)))) (.agg xs.toArray) w A:=rs (run_loadAtN h1 hl hc) hk
theorem r_resN {A:Value→Prop} (h1:aggT P t n=true) {a:Addr} (hl:xs.length=n) (hc:∀j v,xs[j]? = some v→w.cell? (a.add j)=some v) (hk:A (.agg xs.toArray)):∃r,(do loadVar t (← asAddr (.pointer (some a))):Sem Value).run P w=.ok r w∧A r:=
 ⟨_,by simp [asAddr,run_loadVarN h1 hl hc],hk⟩
theorem r_res {A:Value→Prop} (h1:oneT P t=true) {a:Addr} (hc:w.cell? a=some v) (hk:A v):∃r,(do loadVar t (← asAddr (.pointer (some a))):Sem Value).run P w=.ok r w∧A r:=by
 refine ⟨v,?_,hk⟩
 have:=run_loadAt1 (P:=P) (w:=w) h1 hc
 simpa [Instr.loadAt,Instr.sureAddr,asAddr] using this
theorem r_storeN {k:World→Prop} {b i:Nat} (h:St o w (blk b e ys::R)) (h1:aggT P t n=true) (hl:xs.length=n) (hi:i+n≤ys.length) (hv:ones xs) (hk:∀w',St o w' (blk b e (setL ys i xs)::R)→k w') :
  rO P Z (Instr.storeAt t (.pointer (some ⟨b,i,none⟩)) (.agg xs.toArray)) w k:=by
 obtain ⟨_,info,hinfo,hs⟩:=aggT_spec h1
 have hcs:P.cellsOf t=n:=by simp [Program.cellsOf,hinfo,hs]
 have hst:=run_storeCells_cells (P:=P) b i xs 0 w (fun j hj=>by rw [cell_of_blk h.head_blk,List.getElem?_eq_getElem (by omega)]; rfl) (fun j hj=>frozen_of_blk h.head_blk _ (by omega)) hv
 have hrun:(Instr.storeAt t (.pointer (some ⟨b,i,none⟩)) (.agg xs.toArray)).run P w=.ok () (w.setCells b i xs):=by
  simp only [Instr.storeAt,Instr.sureAddr,storeVar,Value.cells,Sem.run_bind,run_sizeOf _ hinfo,Sem.run_pure,Result.andThen_ok,hcs]
  simp only [List.size_toArray,hl,ne_eq,not_true_eq_false,if_false]
  simpa using hst
 exact r0 hrun (hk _ (h.setCells xs i))
theorem setL_all:∀(ys xs:List Value),xs.length=ys.length→setL ys 0 xs=xs:=fun ys xs h=>by
 have:=setL_append [] xs ys (by omega)
 rw [List.nil_append,List.nil_append,List.length_nil] at this
 rw [this,h,List.drop_length,List.append_nil]
theorem setL_mid (pre ys xs post:List Value) (h:xs.length=ys.length):setL (pre++(ys++post)) pre.length xs=pre++(xs++post):=by
 rw [setL_append pre xs (ys++post) (by rw [List.length_append]; omega),h,List.drop_left]
theorem r_alloc (h:St o w R) (hz:zeroT P t=some z) (hk:∀g w',St o w' (blk g t z.cells.toList::R)→kk (.pointer (some ⟨g,0,none⟩)) w'):rN P Z (Instr.alloc t true (.tuple #[])) w kk:=by
 unfold zeroT at hz
 cases hi:P.info? t with
 | none=>rw [hi] at hz; cases hz
 | some i=>
  rw [hi,Option.bind_some] at hz
  have hrun:(Instr.alloc t true (.tuple #[])).run P w=.ok (.pointer (some ⟨w.heap.size,0,none⟩)) (w.alloc (.cells z.cells t)):=by
   simp [Instr.alloc,zeroValue,run_typeInfo _ hi,hz,newVar,newRow,newObj,Sem.run,World.alloc_eq]
  refine r1 hrun (hk _ _ ?_)
  have:=h.alloc t z.cells.toList
  rwa [Array.toArray_toList] at this
theorem r_build {parts:Array (Nat × Value)} {cells:Array Value} (h:P.built t parts.toList=some cells) (hk:kk (.agg cells) w):rN P Z (Instr.build t parts) w kk:=r1 (run_build w t parts cells h) hk
theorem rp_build {parts:Array (Nat × Value)} {cells:Array Value} (h:P.built t parts.toList=some cells) (hk:kv (.agg cells)):pU P (Instr.build t parts) kv:=rp (fun w=>run_build w t parts cells h) hk
theorem Rd.indexN (h:Rd w sz v n xs) (hel:El P t e sz bt z) (k:IntKind) (i:Nat) (hi:i < n):∃a,(∀w,(Instr.indexAt t v (.int k i)).run P w=.ok (.pointer (some a)) w)∧(∀j u,((xs.drop (i * sz)).take sz)[j]? = some u→w.cell? (a.add j)=some u)∧((xs.drop (i * sz)).take sz).length=sz:=by
 obtain ⟨hl,_,⟨c,rfl,rfl⟩ | ⟨a,c,rfl,hc⟩⟩:=h
 ·omega
 ·obtain ⟨info,hinfo,hs,_,_⟩:=hel.info
  have hlen:i * sz+sz≤xs.length:=by
   rw [hl,← Nat.succ_mul]; exact Nat.mul_le_mul_right _ hi
  refine ⟨a.add (i * sz),fun w=>?_,fun j u hu=>?_,by rw [List.length_take,List.length_drop]; omega⟩
  ·have hcs:P.cellsOf e=sz:=by simp [Program.cellsOf,hinfo,hs]
   simp [Instr.indexAt,asIntOf,run_underlying hel.ht,run_sizeOf _ hinfo,hcs,hi]
  ·rw [addr_add2]
   exact hc _ _ (take_drop_at xs (i * sz) sz j u hu)
theorem own_at {g c:Nat} (h:St o w (Sh.own e sz (.slice (some ⟨g,0,none⟩) n c) n xs::R)):∃cap rest,c=cap∧n≤cap∧cap≤maxLen∧xs.length=n * sz∧(xs++rest).length=cap * sz∧St o w (blk g e (xs++rest)::R):=by
 obtain ⟨hl,⟨hx,_⟩ | ⟨g',cap,rest,hx,a1,a2,a3,hB⟩⟩:=h.own_open
 ·cases hx
 ·injection hx with hx1 hx2 hx3
  injection hx1 with hx1
  injection hx1 with hx1
  subst hx1
  exact ⟨cap,rest,hx3,a1,a2,hl,a3,hB⟩
theorem setL_left (xs ys zs:List Value):∀(i:Nat),i+zs.length≤xs.length→setL (xs++ys) i zs=setL xs i zs++ys:=by
 induction zs generalizing xs with
 | nil=>intro i _; rfl
 | cons u zs ih=>
  intro i hi
  simp only [List.length_cons] at hi
  rw [setL,setL,List.set_append_left _ _ (by omega),ih _ _ (by rw [List.length_set]; omega)]
theorem r_store_ixN {k:World→Prop} {a:Addr} {us:List Value} (h:St o w (Sh.own e sz v n xs::R)) (hel:El P t e sz bt z) (h1:aggT P ty sz=true) (q:IntKind) (i:Nat) (hi:i < n) (ha:(Instr.indexAt t v (.int q i)).run P w=.ok (.pointer (some a)) w) (hl:us.length=sz) (hu:ones us)
  (hk:∀w',St o w' (Sh.own e sz v n (setL xs (i * sz) us)::R)→k w'):rO P Z (Instr.storeAt ty (.pointer (some a)) (.agg us.toArray)) w k:=by
 obtain ⟨hxl,⟨rfl,rfl,_⟩ | ⟨g,cap,rest,rfl,a1,a2,a3,hB⟩⟩:=h.own_open
 ·omega
 ·obtain ⟨info,hinfo,hs,_,_⟩:=hel.info
  have:=run_indexAt hel.ht hinfo g 0 n cap q (i:Int) (by omega) (by omega) w
  rw [this,hs] at ha
  injection ha with ha _
  injection ha with ha
  injection ha with ha
  subst ha
  simp only [Nat.zero_add,Int.toNat_natCast]
  have hlen:i * sz+sz≤xs.length:=by
   rw [hxl,← Nat.succ_mul]; exact Nat.mul_le_mul_right _ hi
  refine r_storeN hB h1 hl (by rw [List.length_append]; omega) hu fun w' hS=>hk w' ?_
  rw [setL_left _ _ _ _ (by omega)] at hS
  have hmk:=hS.own_mk (sz:=sz) n a1 a2 (by rw [← a3,List.length_append,List.length_append,setL_length])
  rw [List.take_left' (by rw [setL_length]; exact hxl)] at hmk
  exact hmk
theorem fill_allN (sz:Nat):∀(vs:List (List Value)) (pre rest:List Value) (k:Nat),pre.length=k * sz→(∀v ∈ vs,v.length=sz)→rest.length=vs.length * sz→Instr.fill (fun i=>some (i * sz,sz)) (pre++rest).toArray ((vs.zipIdx k).map fun p=>(p.2,Value.agg p.1.toArray))=some (pre++vs.flatten).toArray
 | [],pre,rest,k,_,_,hl=>by
  obtain rfl:rest=[]:=List.eq_nil_of_length_eq_zero (by simpa using hl)
  simp [Instr.fill]
 | v::vs,pre,rest,k,hp,hv,hl=>by
  have hvl:=hv v List.mem_cons_self
  have hrl:v.length≤rest.length:=by rw [hl,hvl,List.length_cons,Nat.succ_mul]; omega
  have ih:=fill_allN sz vs (pre++v) (rest.drop v.length) (k+1) (by rw [List.length_append,hp,hvl,Nat.succ_mul]) (fun u hu=>hv u (List.mem_cons_of_mem _ hu)) (by rw [List.length_drop,hl,hvl,List.length_cons,Nat.succ_mul]; omega)
  simp only [List.zipIdx_cons,List.map_cons,Instr.fill]
  have hs:¬ (((Value.agg v.toArray).cells.size ≠ sz || k * sz+(Value.agg v.toArray).cells.size > (pre++rest).toArray.size)=true):=by
   simp [Value.cells]; omega
  rw [if_neg hs]
  have hfold:∀(zs:List Value) (i:Nat) (cs:List Value),(zs.toArray.zipIdx.foldl (fun cs x=>cs.setIfInBounds (i+x.2) x.1) cs.toArray)=(setL cs i zs).toArray:=by
   have gen:∀(zs:List Value) (i j:Nat) (cs:List Value),((zs.zipIdx j).foldl (fun cs x=>cs.setIfInBounds (i+x.2) x.1) cs.toArray)=(setL cs (i+j) zs).toArray:=by
    intro zs
    induction zs with
    | nil=>intro i j cs; rfl
    | cons z zs ih=>
     intro i j cs
     simp only [List.zipIdx_cons,List.foldl_cons,setL]
     have:cs.toArray.setIfInBounds (i+j) z=(cs.set (i+j) z).toArray:=by simp
     rw [this,ih,Nat.add_assoc]
   intro zs i cs
   have:=gen zs i 0 cs
   rw [Nat.add_zero] at this
   rw [← this,← Array.foldl_toList]
   congr 1
   simp
  have hc:(Value.agg v.toArray).cells=v.toArray:=rfl
  rw [hc,hfold,← hp,setL_append pre v rest hrl]
  rw [← List.append_assoc]
  simp only [List.flatten_cons]
  rw [ih,List.append_assoc]
theorem r_sliceN (hel:El P t e sz bt z) (h:St o w R) (len:Nat) (parts:Array (Nat × Value)) (vs:List (List Value)) (hlen:vs.length=len) (hsz:len * sz≤16777216) (h0:0 < len) (hsz2:len≤16777216)
  (hv:∀v ∈ vs,v.length=sz) (hp:parts=(vs.zipIdx.map fun p=>(p.2,Value.agg p.1.toArray)).toArray)
  (hk:∀g w',St o w' (Sh.own e sz (.slice (some ⟨g,0,none⟩) len len) len vs.flatten::R)→kk (.slice (some ⟨g,0,none⟩) len len) w'):rN P Z (Instr.buildSlice t len parts) w kk:=by
 obtain ⟨i,hi,hs,_,hz⟩:=hel.info
 have hcs:P.cellsOf e=sz:=by simp [Program.cellsOf,hi,hs]
 have hf:Instr.fill (fun i=>some (i * sz,sz)) (madeCells z.cells (len * sz)) parts.toList=some vs.flatten.toArray:=by
  have:=fill_allN sz vs [] (madeCells z.cells (len * sz)).toList 0 (by simp) hv (by rw [Array.length_toList,size_madeCells,hlen])
  rw [hp]
  simpa using this
 have hpos:=hel.pos
 have h1:¬ (len * sz > 2 ^ 24):=by omega
 have h2:¬ (len * sz=0):=by
  have:=Nat.mul_pos h0 hpos; omega
 have hrun:(Instr.buildSlice t len parts).run P w=.ok (.slice (some ⟨w.heap.size,0,none⟩) len len) (w.alloc (.cells vs.flatten.toArray e)):=by
  have h3:(Array.range (len * sz)).map (fun x=>z.cells[x % z.cells.size]!)=madeCells z.cells (len * sz):=rfl
  have hzv:(zeroValue e).run P w=.ok z w:=by simp [zeroValue,run_typeInfo _ hi,hz]
  unfold Instr.buildSlice
  simp only [Sem.run_bind,run_underlying hel.ht,Result.andThen_ok,run_sizeOf _ hi,hcs,h1,h2,if_false,Sem.run_pure,hzv,h3,hf]
  simp [newRow,newObj,Sem.run,World.alloc_eq]
 refine r1 hrun (hk _ _ ?_)
 have ha:=h.alloc e vs.flatten
 have hfl:vs.flatten.length=len * sz:=by
  clear hrun hf hp hsz h0 hsz2 h1 h2 ha hk
  induction vs generalizing len with
  | nil=>simp at hlen; subst hlen; simp
  | cons v vs ih=>
   simp only [List.length_cons] at hlen
   subst hlen
   rw [List.flatten_cons,List.length_append,hv v List.mem_cons_self,ih _ rfl (fun u hu=>hv u (List.mem_cons_of_mem _ hu)),Nat.succ_mul]; omega
 have hmk:=ha.own_mk (sz:=sz) (cap:=len) len (Nat.le_refl _) (by unfold maxLen; omega) hfl
 rw [List.take_of_length_le (by omega)] at hmk
 exact hmk
theorem r_pushN (hel:El P t e sz bt z) (h:St o w (Sh.own e sz v n xs::R)) (us:List Value) (hus:us.length=sz) (hu:ones us) (hsz:sz≤16777216) (hb:(n+1) * bt≤140737488355328) (hm:n+1≤maxLen)
  (hk:∀v' w',St o w' (Sh.own e sz v' (n+1) (xs++us)::R)→kk v' w'):rN P Z (Instr.buildSlice t 1 #[(0,.agg us.toArray)]) w fun x w=>rN P Z (Builtin.append_ #[t,t] ty #[v,x]) w kk:=by
 refine r_sliceN hel h 1 _ [us] rfl (by omega) (by omega) (by omega) (by simpa using hus) rfl fun g w1 hS=>?_
 have e1:[us].flatten=us:=by simp
 rw [e1] at hS
 have hsrc:=(hS.own_rd List.mem_cons_self).src hel.ht hu
 exact r_append hel hS.swap hsrc hb hm fun v' w2 hS2=>hk v' w2 hS2.swap.drop
theorem r_callVal {f:FuncId} {first cap args:Array Value} (hf:∀args w,(callFunc f args).run P w=.ok (.enter f args) w) {l1 l2 l3:List Value} (e1:first=l1.toArray) (e2:args=l2.toArray) (e3:cap=l3.toArray) (h:CallV P Z f (l1++l2++l3).toArray w kk):runX P Z (callVal (.func (.func f) first cap) args) w kk:=by
 refine ⟨?_⟩
 subst e1; subst e2; subst e3
 unfold callVal Deferred.ofValue
 simp only [pure_bind,invoke]
 rw [hf]
 simp only [List.append_toArray]
 exact h.out
theorem guardV_u (want:Bool) (body:(Value→Prop)→Prop) (k:Value→Prop):guardV undef want body k=k undef:=propext ⟨fun h=>h.out,fun h=>⟨h⟩⟩
theorem guardW_u (want:Bool) (body:(PQ)→Prop) (k:PQ) (w:World):gW undef want body k w=k undef w:=propext ⟨fun h=>h.out,fun h=>⟨h⟩⟩
theorem still_tt (A:Prop) (s:Sem Next) (v:Value) (w:World):Still P (gSem (.bool true) true s) v w A=Still P s v w A:=rfl
theorem still_ff (A:Prop) (s:Sem Next) (v:Value) (w:World):Still P (gSem (.bool false) false s) v w A=Still P s v w A:=rfl
theorem still_tf (A:Prop) (s:Sem Next) (w:World):Still P (gSem (.bool true) false s) undef w A=A:=propext ⟨fun h=>h.out,fun h=>⟨rfl,h⟩⟩
theorem still_ft (A:Prop) (s:Sem Next) (w:World):Still P (gSem (.bool false) true s) undef w A=A:=propext ⟨fun h=>h.out,fun h=>⟨rfl,h⟩⟩
def str (l:List UInt8):ByteArray:=⟨l.toArray⟩
theorem foldl_push (l:List UInt8) (s:ByteArray):(l.map fun b=>((b.toNat:Nat):Int)).foldl (fun r n=>r.push (UInt8.ofNat n.toNat)) s=⟨s.data++l.toArray⟩:=by
 induction l generalizing s with
 | nil=>simp
 | cons b l ih=>
  simp only [List.map_cons,List.foldl_cons,Int.toNat_natCast,UInt8.ofNat_toNat]
  rw [ih]
  have:s.push b=⟨s.data.push b⟩:=rfl
  rw [this]
  congr 1
  apply Array.ext'
  simp
theorem run_toString {src dst:TypeId} {l:List UInt8} (hs:P.underlying src=some (.slice e)) (he:P.underlying e=some (.int .u8)) (hd:P.underlying dst=some .string) (h:Rd w 1 v n (l.map fun b=>.int .u8 b.toNat)) :
  (convert src dst v).run P w=.ok (.string (str l)) w:=by
 have hl:=h.1
 rw [List.length_map,Nat.mul_one] at hl
 obtain ⟨_,_,⟨c,rfl,rfl⟩ | ⟨a,c,rfl,hc⟩⟩:=h
 ·rw [run_convert_bytes_string w src dst e none 0 c hs he hd]
  obtain rfl:l=[]:=List.eq_nil_of_length_eq_zero hl
  rfl
 ·rw [run_convert_bytes_string w src dst e (some a) n c hs he hd]
  have hcells:=run_loadCells_list (P:=P) w a _ hc
  rw [List.length_map,hl] at hcells
  rw [run_bytesToString w a n c (l.map fun b=>((b.toNat:Nat):Int)) (by rw [List.map_map]; exact hcells),foldl_push]
  congr 3
  simp
theorem r_toBytes {src dst:TypeId} {u:TypeDesc} (s:ByteArray) (h:St o w R) (hs:P.underlying src=some u) (hel:El P dst e 1 bt z) (he:P.underlying e=some (.int .u8)) (hm:s.size≤maxLen)
  (hk:∀v' w',St o w' (Sh.own e 1 v' s.size (byteCells s)::R)→kk v' w'):rN P Z (convert src dst (.string s)) w kk:=by
 refine r1 (Lib.run_convert_string_bytes w src dst e s hs hel.ht he) (hk _ _ ?_)
 have hge:s.size≤grownCap w s.size 0 e:=grownCap_ge w s.size 0 e
 have hle:=grownCap_le_maxLen w s.size 0 e hm
 have hc:(Lib.bytesCells w e s).toList=byteCells s++List.replicate (grownCap w s.size 0 e - s.size) (.int .u8 0):=by
  unfold Lib.bytesCells byteCells
  simp
 have hS:St o (Lib.bytesWorld w e s) (blk w.heap.size e (Lib.bytesCells w e s).toList::R):=by
  refine h.alloc_ob rfl ?_ ?_ ?_ (Lib.bytesWorld_size w e s) (Lib.bytesWorld_at_old w e s) ?_
  ·simp [Lib.bytesWorld,World.freeze,World.alloc,World.drew,-World.alloc_eq,-World.drew_eq]
  ·simp [Lib.bytesWorld,World.freeze,World.alloc,World.drew,-World.alloc_eq,-World.drew_eq]
  ·simp [Lib.bytesWorld,World.freeze,World.alloc,World.drew,-World.alloc_eq,-World.drew_eq]
  ·refine ⟨_,.inr ?_,by rw [Lib.bytesWorld_at_new]⟩
   simp
 have hlen:(Lib.bytesCells w e s).toList.length=grownCap w s.size 0 e * 1:=by
  rw [hc,List.length_append,byteCells_length,List.length_replicate]; omega
 have hmk:=hS.own_mk (sz:=1) s.size hge hle hlen
 rw [hc,Nat.mul_one,List.take_left' (byteCells_length s)] at hmk
 exact hmk
end
end Go.Sh

/- Data that came in: what the row's data say of cells, told by Lean's own data. Nothing of any one program stands here. -/
namespace Go.Sh
open Go.RowKit
def Opn (P:Program) (w:World) (t:TypeId) (Φ:List Value→Prop):Prop:=
 ∀(H:Type) (enc:TypeId × Value→H) (fuel:Nat) (cs:List Value) (x:DataW H × List MemPlace),DataW.trod enc P w 0 (fun _=>true) true fuel t cs=some x→(∀n ∈ x.1.weights P t,n≤140737488351232)→Φ cs
def RowO (w:World) (sz bt:Nat) (Φ:List Value→Prop) (v:Value):Prop:=∃(n:Nat) (css:List (List Value)),css.length=n∧n * bt≤140737488351232∧(∀c ∈ css,c.length=sz∧Φ c)∧Rd w sz v n css.flatten
def RowR {α:Type} (w:World) (sz:Nat) (Ψ:α→List Value→Prop) (as:List α) (v:Value):Prop:=
 ∃css:List (List Value),css.length=as.length∧(∀(i:Nat) a c,as[i]? = some a→css[i]? = some c→c.length=sz∧Ψ a c)∧Rd w sz v as.length css.flatten
section
variable {P:Program} {w w' o:World} {t e:TypeId} {sz bt:Nat} {z v:Value} {Φ:List Value→Prop}
theorem Opn.mono {Φ':List Value→Prop} (h:Opn P w t Φ) (hk:∀cs,Φ cs→Φ' cs):Opn P w t Φ':=fun H enc fuel cs x hx hw=>hk cs (h H enc fuel cs x hx hw)
theorem Opn.use {H:Type} {enc:TypeId × Value→H} {d:DataW H} {p:List MemPlace} (h:Opn P w t Φ) (hx:DataW.Trod enc P w 0 (fun _=>true) true t v d p) (hw:∀n ∈ d.weights P t,n≤140737488351232):Φ v.cells.toList:=by
 obtain ⟨fuel,hx⟩:=hx
 exact h _ _ _ _ _ hx hw
theorem weights_part {H:Type} {ts:List TypeId} {ds:List (DataW H)} {d:DataW H} (h:(DataW.weightsEach P (t::ts) (d::ds)).all (·≤reachBytes)=true):(∀n ∈ d.weights P t,n≤140737488351232)∧(DataW.weightsEach P ts ds).all (·≤reachBytes)=true:=by
 rw [DataW.weightsEach,List.all_append,Bool.and_eq_true] at h
 exact ⟨fun n hn=>of_decide_eq_true (List.all_eq_true.1 h.1 n hn),h.2⟩
theorem opn_int {k:IntKind} (ht:P.underlying t=some (.int k)):Opn P w t fun cs=>∃n,cs=[.int k n]∧k.min≤n∧n≤k.max:=fun H enc fuel cs x hx hw=>by
 obtain ⟨n,h1,_,h2⟩:=DataW.trod_int ht hx
 simp [Lit.wf] at h2
 exact ⟨n,h1,h2⟩
theorem opn_bool (ht:P.underlying t=some .bool):Opn P w t fun cs=>∃b,cs=[.bool b]:=fun H enc fuel cs x hx hw=>by
 obtain ⟨b,h1,_⟩:=DataW.trod_bool ht hx
 exact ⟨b,h1⟩
theorem opn_string (ht:P.underlying t=some .string):Opn P w t fun cs=>∃s:ByteArray,cs=[.string s]∧s.size≤140737488351232:=fun H enc fuel cs x hx hw=>by
 obtain ⟨s,h1,hx1,h2⟩:=DataW.trod_string ht hx
 rw [hx1] at hw
 exact ⟨s,h1,hw s.size (by simp [DataW.weights])⟩
theorem len_flatten_of {css:List (List Value)} (h:∀c ∈ css,c.length=sz):css.flatten.length=css.length * sz:=by
 induction css with
 | nil=>simp
 | cons c css ih=>
  rw [List.flatten_cons,List.length_append,h c List.mem_cons_self,ih fun c hc=>h c (List.mem_cons_of_mem _ hc),List.length_cons,Nat.succ_mul]; omega
theorem flatten_at {css:List (List Value)} (h:∀c ∈ css,c.length=sz):∀(i j:Nat) (c:List Value) (u:Value),css[i]? = some c→c[j]? = some u→css.flatten[i * sz+j]? = some u:=by
 induction css with
 | nil=>intro i j c u hc; simp at hc
 | cons d css ih=>
  intro i j c u hc hu
  have hd:=h d List.mem_cons_self
  cases i with
  | zero=>
   simp only [List.getElem?_cons_zero,Option.some.injEq] at hc
   subst hc
   rw [Nat.zero_mul,Nat.zero_add,List.flatten_cons,List.getElem?_append_left (List.getElem?_eq_some_iff.1 hu).1]
   exact hu
  | succ i=>
   rw [List.getElem?_cons_succ] at hc
   rw [List.flatten_cons,List.getElem?_append_right (by rw [Nat.succ_mul]; omega),hd,show (i+1) * sz+j - sz=i * sz+j by rw [Nat.succ_mul]; omega]
   exact ih (fun c hc=>h c (List.mem_cons_of_mem _ hc)) i j c u hc hu
theorem flatten_cut {css:List (List Value)} (h:∀c ∈ css,c.length=sz) (i:Nat) (hi:i < css.length):(css.flatten.drop (i * sz)).take sz=css[i]:=by
 induction css generalizing i with
 | nil=>simp at hi
 | cons d css ih=>
  have hd:=h d List.mem_cons_self
  cases i with
  | zero=>rw [Nat.zero_mul,List.drop_zero,List.flatten_cons,← hd,List.take_left]; rfl
  | succ i=>
   rw [List.flatten_cons,Nat.succ_mul,Nat.add_comm,← List.drop_drop,← hd,List.drop_left,hd]
   exact ih (fun c hc=>h c (List.mem_cons_of_mem _ hc)) i (by simpa using hi)
theorem flatten_of {css:List (List Value)} (h:∀c ∈ css,c.length=sz) (hpos:0 < sz):∀(k:Nat) (u:Value),css.flatten[k]? = some u→∃c,css[k / sz]? = some c∧c[k % sz]? = some u:=by
 induction css with
 | nil=>intro k u hk; simp at hk
 | cons d css ih=>
  intro k u hk
  have hd:=h d List.mem_cons_self
  rw [List.flatten_cons] at hk
  by_cases hl:k < sz
  ·rw [List.getElem?_append_left (by omega)] at hk
   exact ⟨d,by rw [Nat.div_eq_of_lt hl]; rfl,by rw [Nat.mod_eq_of_lt hl]; exact hk⟩
  ·rw [List.getElem?_append_right (by omega),hd] at hk
   obtain ⟨c,h1,h2⟩:=ih (fun c hc=>h c (List.mem_cons_of_mem _ hc)) (k - sz) u hk
   refine ⟨c,?_,?_⟩
   ·rw [Nat.div_eq k sz,if_pos ⟨hpos,by omega⟩,List.getElem?_cons_succ]; exact h1
   ·rw [Nat.mod_eq_sub_mod (by omega)]; exact h2
theorem opn_slice (hel:El P t e sz bt z) (he:Opn P w e Φ):Opn P w t fun cs=>∃v,cs=[v]∧RowO w sz bt Φ v:=fun H enc fuel cs x hx hw=>by
 obtain ⟨info,hinfo,hs,hbt,_⟩:=hel.info
 have hcs:P.cellsOf e=sz:=by simp [Program.cellsOf,hinfo,hs]
 have hbs:P.bytesOf e=bt:=by simp [Program.bytesOf,hinfo,hbt]
 rcases DataW.trod_slice hel.ht hx with ⟨h0,_⟩ | ⟨a,len,cap,elems,rest,n,_,h0,hxe,hb,hl,hm,hlen,hel',_⟩
 ·exact ⟨_,h0,0,[],rfl,by omega,by simp,by simp,by simp [maxLen],.inl ⟨0,rfl,rfl⟩⟩
 ·refine ⟨_,h0,?_⟩
  rw [hxe] at hw
  simp only [DataW.weights,hel.ht,List.length_map,List.mem_cons,List.mem_append] at hw
  have hwl:len * bt≤140737488351232:=by
   have:=hw _ (.inl rfl)
   rw [hbs] at this
   refine Nat.le_trans (Nat.mul_le_mul_right _ ?_) this
   omega
  have hwe:∀(i:Nat) y,elems[i]? = some y→∀n ∈ y.1.weights P e,n≤140737488351232:=fun i y hy n hn=>by
   refine hw n (.inr (.inl ?_))
   have key:∀(l:List (DataW H)) (d:DataW H),d ∈ l→n ∈ d.weights P e→n ∈ DataW.weightsAll P e l:=by
    intro l
    induction l with
    | nil=>intro d hd; cases hd
    | cons a l ih=>
     intro d hd hn
     rw [DataW.weightsAll,List.mem_append]
     rcases List.mem_cons.1 hd with rfl | hd
     ·exact .inl hn
     ·exact .inr (ih d hd hn)
   exact key _ y.1 (List.mem_map_of_mem (List.mem_of_getElem? hy)) hn
  have each:∀i,i < len→∃c,w.cells? 0 (a.add (i * sz)) sz=some c∧Φ c:=by
   intro i hi
   have h1:=hel' i hi
   rw [hcs,List.getElem?_eq_getElem (show i < elems.length by omega),Option.bind_eq_some_iff] at h1
   obtain ⟨c,hc,hy⟩:=h1
   exact ⟨c,hc,he _ _ _ _ _ hy (hwe i _ (List.getElem?_eq_getElem (by omega)))⟩
  have pick:∀k,k≤len→∃css:List (List Value),css.length=k∧∀i c,css[i]? = some c→w.cells? 0 (a.add (i * sz)) sz=some c∧Φ c:=by
   intro k
   induction k with
   | zero=>intro _; exact ⟨[],rfl,by simp⟩
   | succ k ih=>
    intro hk
    obtain ⟨css,h1,h2⟩:=ih (by omega)
    obtain ⟨c,hc⟩:=each k (by omega)
    refine ⟨css++[c],by simp [h1],fun i d hd=>?_⟩
    by_cases hi:i < css.length
    ·rw [List.getElem?_append_left hi] at hd; exact h2 i d hd
    ·rw [List.getElem?_append_right (by omega)] at hd
     have:i=k:=by
      have:=(List.getElem?_eq_some_iff.1 hd).1
      simp at this; omega
     subst this
     rw [h1,Nat.sub_self,List.getElem?_cons_zero] at hd
     injection hd with hd; subst hd
     exact hc
  obtain ⟨css,h1,h2⟩:=pick len (Nat.le_refl _)
  have hsz:∀c ∈ css,c.length=sz:=fun c hc=>by
   obtain ⟨i,hi⟩:=List.getElem?_of_mem hc
   exact (World.cells?_some (h2 i c hi).1).2.1
  refine ⟨len,css,h1,hwl,fun c hc=>⟨hsz c hc,?_⟩,by rw [len_flatten_of hsz,h1],by omega,.inr ⟨a,cap,rfl,fun k u hk=>?_⟩⟩
  ·obtain ⟨i,hi⟩:=List.getElem?_of_mem hc
   exact (h2 i c hi).2
  ·obtain ⟨c,hc1,hc2⟩:=flatten_of hsz hel.pos k u hk
   have hcell:=(World.cells?_some (h2 _ c hc1).1).2.2
   have hj:=(List.getElem?_eq_some_iff.1 hc2).1
   have hlc:=(World.cells?_some (h2 _ c hc1).1).2.1
   have:=hcell (k % sz) (by omega)
   rw [addr_add2,hc2,Nat.mul_comm,Nat.div_add_mod] at this
   exact this
def Cut:List (Nat × (List Value→Prop))→List Value→Prop
 | [],cs=>cs=[]
 | (n,Φ)::r,cs=>∃c d,cs=c++d∧c.length=n∧Φ c∧Cut r d
def OpnAll (P:Program) (w:World):List TypeId→List (Nat × (List Value→Prop))→Prop
 | [],[]=>True
 | t::ts,(n,Φ)::r=>P.cellsOf t=n∧Opn P w t Φ∧OpnAll P w ts r
 | _,_=>False
def offs:Nat→List Nat→List (Nat × Nat)
 | _,[]=>[]
 | k,n::r=>(k,n)::offs (k+n) r
theorem opn_cut (H:Type) (enc:TypeId × Value→H) (fuel:Nat):∀(fs:List Field) (r:List (Nat × (List Value→Prop))) (k:Nat) (cs:List Value),fs.map (fun f=>(f.offset,P.cellsOf f.type))=offs k (r.map (·.1))→OpnAll P w (fs.map (·.type)) r→k≤cs.length→cs.length=k+(r.map (·.1)).sum →
  (∀f ∈ fs,∃y,DataW.trod enc P w 0 (fun _=>true) true fuel f.type ((cs.drop f.offset).take (P.cellsOf f.type))=some y∧∀n ∈ y.1.weights P f.type,n≤140737488351232)→Cut r (cs.drop k)
 | [],[],k,cs,_,_,hk,hl,_=>by
  simp only [Cut]
  simp at hl
  rw [List.drop_of_length_le (by omega)]
 | [],_::_,_,_,h,_,_,_,_=>by simp [offs] at h
 | _::_,[],_,_,h,_,_,_,_=>by simp [offs] at h
 | f::fs,(n,Φ)::r,k,cs,h,ho,hk,hl,ht=>by
  simp only [List.map_cons,offs,List.cons.injEq,Prod.mk.injEq] at h
  obtain ⟨⟨h1,h2⟩,h3⟩:=h
  obtain ⟨_,o2,o3⟩:=ho
  simp only [List.map_cons,List.sum_cons] at hl
  obtain ⟨y,hy,hyw⟩:=ht f List.mem_cons_self
  rw [h1,h2] at hy
  refine ⟨(cs.drop k).take n,cs.drop (k+n),?_,by rw [List.length_take,List.length_drop]; omega,o2 _ _ _ _ _ hy hyw,?_⟩
  ·rw [← List.drop_drop,List.take_append_drop]
  ·exact opn_cut H enc fuel fs r (k+n) cs h3 o3 (by omega) (by omega) fun g hg=>ht g (List.mem_cons_of_mem _ hg)
theorem opn_struct {fs:Array Field} (ht:P.underlying t=some (.struct fs)) (r:List (Nat × (List Value→Prop))) (ho:(fs.toList.map (fun f=>(f.offset,P.cellsOf f.type)) == offs 0 (r.map (·.1)))=true) (hn:P.cellsOf t=(r.map (·.1)).sum) (h:OpnAll P w (fs.toList.map (·.type)) r):Opn P w t (Cut r):=fun H enc fuel cs x hx hw=>by
 obtain ⟨xs,n,_,hxe,hl,hxl,hf⟩:=DataW.trod_struct ht hx
 have:=opn_cut H enc n fs.toList r 0 cs (by simpa using ho) h (Nat.zero_le _) (by rw [hl,hn]; omega) fun f hfm=>by
  obtain ⟨i,hi⟩:=List.getElem?_of_mem hfm
  rw [Array.getElem?_toList] at hi
  have hlt:i < xs.length:=by
   have:=(Array.getElem?_eq_some_iff.1 hi).1
   omega
  refine ⟨xs[i],by rw [hf i f hi,List.getElem?_eq_getElem hlt],fun n hn=>hw n ?_⟩
  rw [hxe]
  simp only [DataW.weights,ht]
  have key:∀(ts:List TypeId) (l:List (DataW H)) (i:Nat) (t:TypeId) (d:DataW H),ts[i]? = some t→l[i]? = some d→n ∈ d.weights P t→n ∈ DataW.weightsEach P ts l:=by
   intro ts
   induction ts with
   | nil=>intro l i t d h; simp at h
   | cons a ts ih=>
    intro l i t d h1 h2 h3
    cases l with
    | nil=>simp at h2
    | cons b l=>
     rw [DataW.weightsEach,List.mem_append]
     cases i with
     | zero=>
      simp only [List.getElem?_cons_zero,Option.some.injEq] at h1 h2
      subst h1; subst h2
      exact .inl h3
     | succ i=>exact .inr (ih l i t d (by simpa using h1) (by simpa using h2) h3)
  exact key _ _ i f.type xs[i].1 (by rw [List.getElem?_map,Array.getElem?_toList,hi]; rfl) (by rw [List.getElem?_map,List.getElem?_eq_getElem hlt]; rfl) hn
 simpa using this
theorem RowR.form {α:Type} {Ψ:α→List Value→Prop} {as:List α} (h:RowR w sz Ψ as v):∃a c,v=.slice a as.length c:=by
 obtain ⟨_,_,_,h⟩:=h
 exact h.form
theorem RowR.le {α:Type} {Ψ:α→List Value→Prop} {as:List α} (h:RowR w sz Ψ as v):as.length≤maxLen:=by
 obtain ⟨_,_,_,h⟩:=h
 exact h.2.1
theorem RowR.of_old {α:Type} {Ψ:α→List Value→Prop} {as:List α} {As:List HProp} (h:RowR w sz Ψ as v) (hS:St o w' As) (hm:old w ∈ As):RowR w' sz Ψ as v:=by
 obtain ⟨css,h1,h2,h3⟩:=h
 exact ⟨css,h1,h2,h3.of_old hS hm⟩
theorem RowR.index {α:Type} {Ψ:α→List Value→Prop} {as:List α} (h:RowR w sz Ψ as v) (hel:El P t e sz bt z) (k:IntKind) (i:Nat) (hi:i < as.length) :
  ∃a c,(∀w,(Instr.indexAt t v (.int k i)).run P w=.ok (.pointer (some a)) w)∧c.length=sz∧Ψ as[i] c∧∀j u,c[j]? = some u→w.cell? (a.add j)=some u:=by
 obtain ⟨css,h1,h2,h3⟩:=h
 have hic:i < css.length:=by omega
 obtain ⟨hl,hp⟩:=h2 i as[i] css[i] (List.getElem?_eq_getElem hi) (List.getElem?_eq_getElem hic)
 obtain ⟨a,ha,hcell,_⟩:=h3.indexN hel k i hi
 refine ⟨a,css[i],ha,hl,hp,fun j u hu=>hcell j u ?_⟩
 have hsz:∀c ∈ css,c.length=sz:=fun c hc=>by
  obtain ⟨q,hq⟩:=List.getElem?_of_mem hc
  have hqa:q < as.length:=by have:=(List.getElem?_eq_some_iff.1 hq).1; omega
  exact (h2 q as[q] c (List.getElem?_eq_getElem hqa) hq).1
 have hj:=(List.getElem?_eq_some_iff.1 hu).1
 rw [List.getElem?_take_of_lt (by omega),List.getElem?_drop]
 exact flatten_at hsz i j css[i] u (List.getElem?_eq_getElem hic) hu
theorem addr_of_cell {a:Addr} {u:Value} (h:w.cell? a=some u):a=⟨a.block,a.off,none⟩:=by
 obtain ⟨b,i,s⟩:=a
 cases s with
 | none=>rfl
 | some s=>
  unfold World.cell? at h
  split at h <;> simp at h
theorem RowR.ix {α:Type} {Ψ:α→List Value→Prop} {as:List α} (h:RowR w sz Ψ as v) (hel:El P t e sz bt z) (k:IntKind) (i:Nat) (hi:i < as.length) :
  ∃b q c,(∀w,(Instr.indexAt t v (.int k i)).run P w=.ok (.pointer (some ⟨b,q,none⟩)) w)∧c.length=sz∧Ψ as[i] c∧∀j u,c[j]? = some u→w.cell? ⟨b,q+j,none⟩=some u:=by
 obtain ⟨a,c,h1,h2,h3,h4⟩:=h.index hel k i hi
 have hpos:=hel.pos
 have h0:=h4 0 c[0] (List.getElem?_eq_getElem (by omega))
 have e:=addr_of_cell (a:=a) (by simpa [Addr.add] using h0)
 rw [e] at h1 h4
 exact ⟨_,_,c,h1,h2,h3,fun j u hu=>by have:=h4 j u hu; rwa [add_addr] at this⟩
theorem Rd.ix {n:Nat} {xs:List Value} (h:Rd w sz v n xs) (hel:El P t e sz bt z) (k:IntKind) (i:Nat) (hi:i < n) :
  ∃b q,(∀w,(Instr.indexAt t v (.int k i)).run P w=.ok (.pointer (some ⟨b,q,none⟩)) w)∧(∀j u,((xs.drop (i * sz)).take sz)[j]? = some u→w.cell? ⟨b,q+j,none⟩=some u)∧((xs.drop (i * sz)).take sz).length=sz:=by
 obtain ⟨a,h1,h2,h3⟩:=h.indexN hel k i hi
 have hpos:=hel.pos
 have h0:=h2 0 _ (List.getElem?_eq_getElem (by rw [h3]; exact hpos))
 have e:=addr_of_cell (a:=a) (by simpa [Addr.add] using h0)
 rw [e] at h1 h2
 exact ⟨_,_,h1,fun j u hu=>by have:=h2 j u hu; rwa [add_addr] at this,h3⟩
end

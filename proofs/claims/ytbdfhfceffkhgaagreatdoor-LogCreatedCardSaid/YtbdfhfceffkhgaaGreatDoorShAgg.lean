/- Values of many cells (structs, arrays): loads, stores, new variables, slices of them, copy; calls through values; strings of bytes. Nothing of any one program stands here. -/
import Derived.Test.YtbdfhfceffkhgaaGreatDoorShSl
import Derived.Laws.BytesString
import Derived.Laws.Tables
import Derived.Lib.ConvBytes
namespace Go.Sh
open Go.RowKit
def aggT (P:Program) (t:TypeId) (n:Nat):Bool:=(match P.underlying t with
 | some (.struct _)=>true
 | some (.array _ _)=>true
 | _=>false) && (match P.info? t with
 | some i=>Nat.beq i.size n
 | none=>false)
def isFuncT (P:Program) (t:TypeId):Bool:=match P.underlying t with | some (.func _ _ _)=>true | _=>false
def isBoolT (P:Program) (t:TypeId):Bool:=match P.underlying t with | some .bool=>true | _=>false
theorem isFuncT_spec {P:Program} {t:TypeId} (h:isFuncT P t=true):∃a b c,P.underlying t=some (.func a b c):=by
 unfold isFuncT at h; split at h
 ·rename_i a b c he; exact ⟨a,b,c,he⟩
 ·cases h
theorem isBoolT_spec {P:Program} {t:TypeId} (h:isBoolT P t=true):P.underlying t=some .bool:=by
 unfold isBoolT at h; split at h
 ·rename_i he; exact he
 ·cases h
theorem run_eql_func {P:Program} {t:TypeId} (h:isFuncT P t=true) (cx cy:Bool) (f:Fn) (a b:Array Value) (w:World):(eqOp .eql t cx cy (.func f a b) .nilFunc).run P w=.ok (.bool false) w:=by
 obtain ⟨_,_,_,he⟩:=isFuncT_spec h
 have hq:=run_equal1 (P:=P) (w:=w) (t:=t) (x:=.func f a b) (y:=.nilFunc) (r:=false) fun d=>by simp [Op.equalIn,run_underlying he]
 simp only [eqOp,eqGuard,binOp]
 simp [hq]
theorem run_neq_boolV {P:Program} {t:TypeId} (h:isBoolT P t=true) (cx cy a b:Bool) (w:World):(eqOp .neq t cx cy (.bool a) (.bool b)).run P w=.ok (.bool (a != b)) w:=by
 have hq:=run_equal1 (P:=P) (w:=w) (t:=t) (x:=.bool a) (y:=.bool b) (r:=a == b) fun d=>by simp [Op.equalIn,run_underlying (isBoolT_spec h)]
 simp only [eqOp,eqGuard,binOp]
 simp [hq,bne]
theorem run_maxV {P:Program} (ts:Array TypeId) (t:TypeId) (k k':IntKind) (x y:Int) (w:World):(Builtin.max_ ts t #[.int k x,.int k' y]).run P w=.ok (.int k (max x y)) w:=by
 have:max x y=if y > x then y else x:=by split <;> omega
 simp [Builtin.max_,Builtin.max2,this]
theorem run_minV {P:Program} (ts:Array TypeId) (t:TypeId) (k k':IntKind) (x y:Int) (w:World):(Builtin.min_ ts t #[.int k x,.int k' y]).run P w=.ok (.int k (min x y)) w:=by
 have:min x y=if y < x then y else x:=by split <;> omega
 simp [Builtin.min_,Builtin.min2,this]
def zeroT (P:Program) (t:TypeId):Option Value:=(P.info? t).bind (·.zero)
section
variable {P:Program} {Z:PZ} {o w w':World} {kk:PQ} {kv:Value→Prop} {R As:List HProp} {t tx e ty:TypeId} {sz bt n m:Nat} {z v x:Value} {xs ys:List Value}
theorem addr_add2 (a:Addr) (i j:Nat):(a.add i).add j=a.add (i+j):=by
 unfold Addr.add
 by_cases hi:i=0
 ·subst hi; simp
 ·by_cases hj:j=0
  ·subst hj; simp [hi]
  ·simp [hi,hj,Nat.add_assoc]
theorem aggT_spec (h:aggT P t n=true):(∃d,P.underlying t=some d∧((∃f,d=.struct f)∨∃a b,d=.array a b))∧∃i,P.info? t=some i∧i.size=n:=by
 unfold aggT at h
 rw [Bool.and_eq_true] at h
 obtain ⟨h1,h2⟩:=h
 constructor
 ·cases hd:P.underlying t with
  | none=>rw [hd] at h1; cases h1
  | some d=>
   rw [hd] at h1
   refine ⟨d,rfl,?_⟩
   cases d <;> first | exact .inl ⟨_,rfl⟩ | exact .inr ⟨_,_,rfl⟩ | cases h1
 ·cases hi:P.info? t with
  | none=>rw [hi] at h2; cases h2
  | some i=>rw [hi] at h2; exact ⟨i,rfl,Nat.eq_of_beq_eq_true h2⟩
theorem run_isAgg (h:aggT P t n=true) (w:World):(isAgg t).run P w=.ok true w:=by
 obtain ⟨⟨d,hd,hk⟩,_⟩:=aggT_spec h
 unfold isAgg
 simp only [Sem.run_bind,run_underlying hd]
 rcases hk with ⟨f,rfl⟩ | ⟨a,b,rfl⟩ <;> rfl
theorem run_loadVarN (h:aggT P t n=true) {a:Addr} (hl:xs.length=n) (hc:∀j v,xs[j]? = some v→w.cell? (a.add j)=some v):(loadVar t a).run P w=.ok (.agg xs.toArray) w:=by
 obtain ⟨_,i,hi,hs⟩:=aggT_spec h
 unfold loadVar
 have hcs:P.cellsOf t=n:=by simp [Program.cellsOf,hi,hs]
 simp only [Sem.run_bind,run_isAgg h,Result.andThen_ok,if_true,run_sizeOf _ hi,hcs,← hl,run_loadCells_list w a xs hc]
 rfl
theorem run_loadAtN (h:aggT P t n=true) {a:Addr} (hl:xs.length=n) (hc:∀j v,xs[j]? = some v→w.cell? (a.add j)=some v):(Instr.loadAt t (.pointer (some a))).run P w=.ok (.agg xs.toArray) w:=by
 simp [Instr.loadAt,Instr.sureAddr,run_loadVarN h hl hc]
theorem St.cells_at (h:St o w As) {b:Nat} (hm:blk b e ys ∈ As) (i:Nat) (hx:∀j v,xs[j]? = some v→ys[i+j]? = some v):∀j v,xs[j]? = some v→w.cell? ((⟨b,i,none⟩:Addr).add j)=some v:=fun j v hv=>by
 rw [add_addr,cell_of_blk (h.mem_blk hm)]; exact hx j v hv
theorem whole_at (xs:List Value):∀j v,xs[j]? = some v→xs[0+j]? = some v:=fun j v h=>by rwa [Nat.zero_add]
theorem take_drop_at (ys:List Value) (i n:Nat):∀j v,((ys.drop i).take n)[j]? = some v→ys[i+j]? = some v:=fun j v h=>by
 by_cases hj:j < n
 ·rwa [List.getElem?_take_of_lt hj,List.getElem?_drop] at h
 ·rw [List.getElem?_take_eq_none (by omega)] at h; cases h
theorem r_loadN (h1:aggT P t n=true) {a:Addr} (hl:xs.length=n) (hc:∀j v,xs[j]? = some v→w.cell? (a.add j)=some v) (hk:kk (.agg xs.toArray) w):rN P Z (Instr.loadAt t (.pointer (some a))) w kk:=r1 (run_loadAtN h1 hl hc) hk
theorem rr_loadN (h1:aggT P t n=true) {a:Addr} (hl:xs.length=n) (hc:∀j v,xs[j]? = some v→w.cell? (a.add j)=some v) (hk:kv (.agg xs.toArray)):rD P (Instr.loadAt t (.pointer (some a))) w kv:=rr (run_loadAtN h1 hl hc) hk
theorem rs_loadN {A:Prop} (h1:aggT P t n=true) {a:Addr} (hl:xs.length=n) (hc:∀j v,xs[j]? = some v→w.cell? (a.add j)=some v) (hk:A):Still P (nx (Instr.loadAt t (.pointer (some a)))) (.agg xs.toArray) w A:=rs (run_loadAtN h1 hl hc) hk
theorem r_resN {A:Value→Prop} (h1:aggT P t n=true) {a:Addr} (hl:xs.length=n) (hc:∀j v,xs[j]? = some v→w.cell? (a.add j)=some v) (hk:A (.agg xs.toArray)):∃r,(do loadVar t (← asAddr (.pointer (some a))):Sem Value).run P w=.ok r w∧A r:=
 ⟨_,by simp [asAddr,run_loadVarN h1 hl hc],hk⟩
theorem r_res {A:Value→Prop} (h1:oneT P t=true) {a:Addr} (hc:w.cell? a=some v) (hk:A v):∃r,(do loadVar t (← asAddr (.pointer (some a))):Sem Value).run P w=.ok r w∧A r:=by
 refine ⟨v,?_,hk⟩
 have:=run_loadAt1 (P:=P) (w:=w) h1 hc
 simpa [Instr.loadAt,Instr.sureAddr,asAddr] using this
theorem r_storeN {k:World→Prop} {b i:Nat} (h:St o w (blk b e ys::R)) (h1:aggT P t n=true) (hl:xs.length=n) (hi:i+n≤ys.length) (hv:ones xs) (hk:∀w',St o w' (blk b e (setL ys i xs)::R)→k w') :
  rO P Z (Instr.storeAt t (.pointer (some ⟨b,i,none⟩)) (.agg xs.toArray)) w k:=by
 obtain ⟨_,info,hinfo,hs⟩:=aggT_spec h1
 have hcs:P.cellsOf t=n:=by simp [Program.cellsOf,hinfo,hs]
 have hst:=run_storeCells_cells (P:=P) b i xs 0 w (fun j hj=>by rw [cell_of_blk h.head_blk,List.getElem?_eq_getElem (by omega)]; rfl) (fun j hj=>frozen_of_blk h.head_blk _ (by omega)) hv
 have hrun:(Instr.storeAt t (.pointer (some ⟨b,i,none⟩)) (.agg xs.toArray)).run P w=.ok () (w.setCells b i xs):=by
  simp only [Instr.storeAt,Instr.sureAddr,storeVar,Value.cells,Sem.run_bind,run_sizeOf _ hinfo,Sem.run_pure,Result.andThen_ok,hcs]
  simp only [List.size_toArray,hl,ne_eq,not_true_eq_false,if_false]
  simpa using hst
 exact r0 hrun (hk _ (h.setCells xs i))
theorem setL_all:∀(ys xs:List Value),xs.length=ys.length→setL ys 0 xs=xs:=fun ys xs h=>by
 have:=setL_append [] xs ys (by omega)
 rw [List.nil_append,List.nil_append,List.length_nil] at this
 rw [this,h,List.drop_length,List.append_nil]
theorem setL_mid (pre ys xs post:List Value) (h:xs.length=ys.length):setL (pre++(ys++post)) pre.length xs=pre++(xs++post):=by
 rw [setL_append pre xs (ys++post) (by rw [List.length_append]; omega),h,List.drop_left]
theorem r_alloc (h:St o w R) (hz:zeroT P t=some z) (hk:∀g w',St o w' (blk g t z.cells.toList::R)→kk (.pointer (some ⟨g,0,none⟩)) w'):rN P Z (Instr.alloc t true (.tuple #[])) w kk:=by
 unfold zeroT at hz
 cases hi:P.info? t with
 | none=>rw [hi] at hz; cases hz
 | some i=>
  rw [hi,Option.bind_some] at hz
  have hrun:(Instr.alloc t true (.tuple #[])).run P w=.ok (.pointer (some ⟨w.heap.size,0,none⟩)) (w.alloc (.cells z.cells t)):=by
   simp [Instr.alloc,zeroValue,run_typeInfo _ hi,hz,newVar,newRow,newObj,Sem.run,World.alloc_eq]
  refine r1 hrun (hk _ _ ?_)
  have:=h.alloc t z.cells.toList
  rwa [Array.toArray_toList] at this
theorem r_build {parts:Array (Nat × Value)} {cells:Array Value} (h:P.built t parts.toList=some cells) (hk:kk (.agg cells) w):rN P Z (Instr.build t parts) w kk:=r1 (run_build w t parts cells h) hk
theorem Rd.indexN (h:Rd w sz v n xs) (hel:El P t e sz bt z) (k:IntKind) (i:Nat) (hi:i < n):∃a,(∀w,(Instr.indexAt t v (.int k i)).run P w=.ok (.pointer (some a)) w)∧(∀j u,((xs.drop (i * sz)).take sz)[j]? = some u→w.cell? (a.add j)=some u)∧((xs.drop (i * sz)).take sz).length=sz:=by
 obtain ⟨hl,_,⟨c,rfl,rfl⟩ | ⟨a,c,rfl,hc⟩⟩:=h
 ·omega
 ·obtain ⟨info,hinfo,hs,_,_⟩:=hel.info
  have hlen:i * sz+sz≤xs.length:=by
   rw [hl,← Nat.succ_mul]; exact Nat.mul_le_mul_right _ hi
  refine ⟨a.add (i * sz),fun w=>?_,fun j u hu=>?_,by rw [List.length_take,List.length_drop]; omega⟩
  ·have hcs:P.cellsOf e=sz:=by simp [Program.cellsOf,hinfo,hs]
   simp [Instr.indexAt,asIntOf,run_underlying hel.ht,run_sizeOf _ hinfo,hcs,hi]
  ·rw [addr_add2]
   exact hc _ _ (take_drop_at xs (i * sz) sz j u hu)
theorem own_at {g c:Nat} (h:St o w (Sh.own e sz (.slice (some ⟨g,0,none⟩) n c) n xs::R)):∃cap rest,c=cap∧n≤cap∧cap≤maxLen∧xs.length=n * sz∧(xs++rest).length=cap * sz∧St o w (blk g e (xs++rest)::R):=by
 obtain ⟨hl,⟨hx,_⟩ | ⟨g',cap,rest,hx,a1,a2,a3,hB⟩⟩:=h.own_open
 ·cases hx
 ·injection hx with hx1 hx2 hx3
  injection hx1 with hx1
  injection hx1 with hx1
  subst hx1
  exact ⟨cap,rest,hx3,a1,a2,hl,a3,hB⟩
theorem setL_left (xs ys zs:List Value):∀(i:Nat),i+zs.length≤xs.length→setL (xs++ys) i zs=setL xs i zs++ys:=by
 induction zs generalizing xs with
 | nil=>intro i _; rfl
 | cons u zs ih=>
  intro i hi
  simp only [List.length_cons] at hi
  rw [setL,setL,List.set_append_left _ _ (by omega),ih _ _ (by rw [List.length_set]; omega)]
theorem r_store_ixN {k:World→Prop} {a:Addr} {us:List Value} (h:St o w (Sh.own e sz v n xs::R)) (hel:El P t e sz bt z) (h1:aggT P ty sz=true) (q:IntKind) (i:Nat) (hi:i < n) (ha:(Instr.indexAt t v (.int q i)).run P w=.ok (.pointer (some a)) w) (hl:us.length=sz) (hu:ones us)
  (hk:∀w',St o w' (Sh.own e sz v n (setL xs (i * sz) us)::R)→k w'):rO P Z (Instr.storeAt ty (.pointer (some a)) (.agg us.toArray)) w k:=by
 obtain ⟨hxl,⟨rfl,rfl,_⟩ | ⟨g,cap,rest,rfl,a1,a2,a3,hB⟩⟩:=h.own_open
 ·omega
 ·obtain ⟨info,hinfo,hs,_,_⟩:=hel.info
  have:=run_indexAt hel.ht hinfo g 0 n cap q (i:Int) (by omega) (by omega) w
  rw [this,hs] at ha
  injection ha with ha _
  injection ha with ha
  injection ha with ha
  subst ha
  simp only [Nat.zero_add,Int.toNat_natCast]
  have hlen:i * sz+sz≤xs.length:=by
   rw [hxl,← Nat.succ_mul]; exact Nat.mul_le_mul_right _ hi
  refine r_storeN hB h1 hl (by rw [List.length_append]; omega) hu fun w' hS=>hk w' ?_
  rw [setL_left _ _ _ _ (by omega)] at hS
  have hmk:=hS.own_mk (sz:=sz) n a1 a2 (by rw [← a3,List.length_append,List.length_append,setL_length])
  rw [List.take_left' (by rw [setL_length]; exact hxl)] at hmk
  exact hmk
theorem fill_allN (sz:Nat):∀(vs:List (List Value)) (pre rest:List Value) (k:Nat),pre.length=k * sz→(∀v ∈ vs,v.length=sz)→rest.length=vs.length * sz→Instr.fill (fun i=>some (i * sz,sz)) (pre++rest).toArray ((vs.zipIdx k).map fun p=>(p.2,Value.agg p.1.toArray))=some (pre++vs.flatten).toArray
 | [],pre,rest,k,_,_,hl=>by
  obtain rfl:rest=[]:=List.eq_nil_of_length_eq_zero (by simpa using hl)
  simp [Instr.fill]
 | v::vs,pre,rest,k,hp,hv,hl=>by
  have hvl:=hv v List.mem_cons_self
  have hrl:v.length≤rest.length:=by rw [hl,hvl,List.length_cons,Nat.succ_mul]; omega
  have ih:=fill_allN sz vs (pre++v) (rest.drop v.length) (k+1) (by rw [List.length_append,hp,hvl,Nat.succ_mul]) (fun u hu=>hv u (List.mem_cons_of_mem _ hu)) (by rw [List.length_drop,hl,hvl,List.length_cons,Nat.succ_mul]; omega)
  simp only [List.zipIdx_cons,List.map_cons,Instr.fill]
  have hs:¬ (((Value.agg v.toArray).cells.size ≠ sz || k * sz+(Value.agg v.toArray).cells.size > (pre++rest).toArray.size)=true):=by
   simp [Value.cells]; omega
  rw [if_neg hs]
  have hfold:∀(zs:List Value) (i:Nat) (cs:List Value),(zs.toArray.zipIdx.foldl (fun cs x=>cs.setIfInBounds (i+x.2) x.1) cs.toArray)=(setL cs i zs).toArray:=by
   have gen:∀(zs:List Value) (i j:Nat) (cs:List Value),((zs.zipIdx j).foldl (fun cs x=>cs.setIfInBounds (i+x.2) x.1) cs.toArray)=(setL cs (i+j) zs).toArray:=by
    intro zs
    induction zs with
    | nil=>intro i j cs; rfl
    | cons z zs ih=>
     intro i j cs
     simp only [List.zipIdx_cons,List.foldl_cons,setL]
     have:cs.toArray.setIfInBounds (i+j) z=(cs.set (i+j) z).toArray:=by simp
     rw [this,ih,Nat.add_assoc]
   intro zs i cs
   have:=gen zs i 0 cs
   rw [Nat.add_zero] at this
   rw [← this,← Array.foldl_toList]
   congr 1
   simp
  have hc:(Value.agg v.toArray).cells=v.toArray:=rfl
  rw [hc,hfold,← hp,setL_append pre v rest hrl]
  rw [← List.append_assoc]
  simp only [List.flatten_cons]
  rw [ih,List.append_assoc]
theorem r_sliceN (hel:El P t e sz bt z) (h:St o w R) (len:Nat) (parts:Array (Nat × Value)) (vs:List (List Value)) (hlen:vs.length=len) (hsz:len * sz≤16777216) (h0:0 < len) (hsz2:len≤16777216)
  (hv:∀v ∈ vs,v.length=sz) (hp:parts=(vs.zipIdx.map fun p=>(p.2,Value.agg p.1.toArray)).toArray)
  (hk:∀g w',St o w' (Sh.own e sz (.slice (some ⟨g,0,none⟩) len len) len vs.flatten::R)→kk (.slice (some ⟨g,0,none⟩) len len) w'):rN P Z (Instr.buildSlice t len parts) w kk:=by
 obtain ⟨i,hi,hs,_,hz⟩:=hel.info
 have hcs:P.cellsOf e=sz:=by simp [Program.cellsOf,hi,hs]
 have hf:Instr.fill (fun i=>some (i * sz,sz)) (madeCells z.cells (len * sz)) parts.toList=some vs.flatten.toArray:=by
  have:=fill_allN sz vs [] (madeCells z.cells (len * sz)).toList 0 (by simp) hv (by rw [Array.length_toList,size_madeCells,hlen])
  rw [hp]
  simpa using this
 have hpos:=hel.pos
 have h1:¬ (len * sz > 2 ^ 24):=by omega
 have h2:¬ (len * sz=0):=by
  have:=Nat.mul_pos h0 hpos; omega
 have hrun:(Instr.buildSlice t len parts).run P w=.ok (.slice (some ⟨w.heap.size,0,none⟩) len len) (w.alloc (.cells vs.flatten.toArray e)):=by
  have h3:(Array.range (len * sz)).map (fun x=>z.cells[x % z.cells.size]!)=madeCells z.cells (len * sz):=rfl
  have hzv:(zeroValue e).run P w=.ok z w:=by simp [zeroValue,run_typeInfo _ hi,hz]
  unfold Instr.buildSlice
  simp only [Sem.run_bind,run_underlying hel.ht,Result.andThen_ok,run_sizeOf _ hi,hcs,h1,h2,if_false,Sem.run_pure,hzv,h3,hf]
  simp [newRow,newObj,Sem.run,World.alloc_eq]
 refine r1 hrun (hk _ _ ?_)
 have ha:=h.alloc e vs.flatten
 have hfl:vs.flatten.length=len * sz:=by
  clear hrun hf hp hsz h0 hsz2 h1 h2 ha hk
  induction vs generalizing len with
  | nil=>simp at hlen; subst hlen; simp
  | cons v vs ih=>
   simp only [List.length_cons] at hlen
   subst hlen
   rw [List.flatten_cons,List.length_append,hv v List.mem_cons_self,ih _ rfl (fun u hu=>hv u (List.mem_cons_of_mem _ hu)),Nat.succ_mul]; omega
 have hmk:=ha.own_mk (sz:=sz) (cap:=len) len (Nat.le_refl _) (by unfold maxLen; omega) hfl
 rw [List.take_of_length_le (by omega)] at hmk
 exact hmk
theorem r_pushN (hel:El P t e sz bt z) (h:St o w (Sh.own e sz v n xs::R)) (us:List Value) (hus:us.length=sz) (hu:ones us) (hsz:sz≤16777216) (hb:(n+1) * bt≤140737488355328) (hm:n+1≤maxLen)
  (hk:∀v' w',St o w' (Sh.own e sz v' (n+1) (xs++us)::R)→kk v' w'):rN P Z (Instr.buildSlice t 1 #[(0,.agg us.toArray)]) w fun x w=>rN P Z (Builtin.append_ #[t,t] ty #[v,x]) w kk:=by
 refine r_sliceN hel h 1 _ [us] rfl (by omega) (by omega) (by omega) (by simpa using hus) rfl fun g w1 hS=>?_
 have e1:[us].flatten=us:=by simp
 rw [e1] at hS
 have hsrc:=(hS.own_rd List.mem_cons_self).src hel.ht hu
 exact r_append hel hS.swap hsrc hb hm fun v' w2 hS2=>hk v' w2 hS2.swap.drop
theorem r_copy {b off dn dc:Nat} (hel:El P t e sz bt z) (h:St o w (blk b e ys::R)) (hx:Rd w sz x m xs) (hone:ones xs) (hfit:off+min m dn * sz≤ys.length)
  (hk:∀w',St o w' (blk b e (setL ys off (xs.take (min m dn * sz)))::R)→kk (.int .i64 (min m dn:Nat)) w') :
  rN P Z (Builtin.copy_ #[t,tx] ty #[.slice (some ⟨b,off,none⟩) dn dc,x]) w kk:=by
 obtain ⟨i,hi,rfl,_,_⟩:=hel.info
 have hlen:(xs.take (min m dn * i.size)).length=min m dn * i.size:=by
  rw [List.length_take,hx.1]
  exact Nat.min_eq_left (Nat.mul_le_mul_right _ (Nat.min_le_left _ _))
 have hst:=run_storeCells_cells (P:=P) b off (xs.take (min m dn * i.size)) 0 w (fun j hj=>by
   rw [cell_of_blk h.head_blk,List.getElem?_eq_getElem (by omega)]; rfl) (fun j hj=>frozen_of_blk h.head_blk _ (by omega)) (fun u hu=>hone u (List.mem_of_mem_take hu))
 simp only [Nat.add_zero] at hst
 have hf:(Builtin.firstCells i.size (min m dn) x).run P w=.ok (xs.take (min m dn * i.size)).toArray w:=by
  obtain ⟨_,_,⟨c,rfl,rfl⟩ | ⟨a,c,rfl,hc⟩⟩:=hx
  ·simp [Builtin.firstCells]
  ·exact run_firstCells_some w i.size _ a m c _ hlen fun j u hu=>hc j u (by
    by_cases hj:j < min m dn * i.size
    ·rwa [List.getElem?_take_of_lt hj] at hu
    ·rw [List.getElem?_take_eq_none (by omega)] at hu; cases hu)
 have hl:(Builtin.lenOf x).run P w=.ok m w:=by
  obtain ⟨_,_,⟨c,rfl,rfl⟩ | ⟨a,c,rfl,hc⟩⟩:=hx <;> rfl
 have hrun:(Builtin.copy_ #[t,tx] ty #[.slice (some ⟨b,off,none⟩) dn dc,x]).run P w=.ok (.int .i64 (min m dn:Nat)) (w.setCells b off (xs.take (min m dn * i.size))):=by
  have hmin:Nat.min m dn=min m dn:=rfl
  simp [Builtin.copy_,run_underlying hel.ht,hl,run_sizeOf _ hi,Program.cellsOf,hi,hmin,hf,hst,goInt]
 exact r1 hrun (hk _ (h.setCells _ off))
theorem r_callVal {f:FuncId} {first cap args:Array Value} (hf:∀args w,(callFunc f args).run P w=.ok (.enter f args) w) {l1 l2 l3:List Value} (e1:first=l1.toArray) (e2:args=l2.toArray) (e3:cap=l3.toArray) (h:CallV P Z f (l1++l2++l3).toArray w kk):runX P Z (callVal (.func (.func f) first cap) args) w kk:=by
 refine ⟨?_⟩
 subst e1; subst e2; subst e3
 unfold callVal Deferred.ofValue
 simp only [pure_bind,invoke]
 rw [hf]
 simp only [List.append_toArray]
 exact h.out
theorem guardW_u (want:Bool) (body:(PQ)→Prop) (k:PQ) (w:World):gW undef want body k w=k undef w:=propext ⟨fun h=>h.out,fun h=>⟨h⟩⟩
theorem still_tt (A:Prop) (s:Sem Next) (v:Value) (w:World):Still P (gSem (.bool true) true s) v w A=Still P s v w A:=rfl
theorem still_ff (A:Prop) (s:Sem Next) (v:Value) (w:World):Still P (gSem (.bool false) false s) v w A=Still P s v w A:=rfl
theorem still_tf (A:Prop) (s:Sem Next) (w:World):Still P (gSem (.bool true) false s) undef w A=A:=propext ⟨fun h=>h.out,fun h=>⟨rfl,h⟩⟩
def str (l:List UInt8):ByteArray:=⟨l.toArray⟩
theorem foldl_push (l:List UInt8) (s:ByteArray):(l.map fun b=>((b.toNat:Nat):Int)).foldl (fun r n=>r.push (UInt8.ofNat n.toNat)) s=⟨s.data++l.toArray⟩:=by
 induction l generalizing s with
 | nil=>simp
 | cons b l ih=>
  simp only [List.map_cons,List.foldl_cons,Int.toNat_natCast,UInt8.ofNat_toNat]
  rw [ih]
  have:s.push b=⟨s.data.push b⟩:=rfl
  rw [this]
  congr 1
  apply Array.ext'
  simp
theorem run_toString {src dst:TypeId} {l:List UInt8} (hs:P.underlying src=some (.slice e)) (he:P.underlying e=some (.int .u8)) (hd:P.underlying dst=some .string) (h:Rd w 1 v n (l.map fun b=>.int .u8 b.toNat)) :
  (convert src dst v).run P w=.ok (.string (str l)) w:=by
 have hl:=h.1
 rw [List.length_map,Nat.mul_one] at hl
 obtain ⟨_,_,⟨c,rfl,rfl⟩ | ⟨a,c,rfl,hc⟩⟩:=h
 ·rw [run_convert_bytes_string w src dst e none 0 c hs he hd]
  obtain rfl:l=[]:=List.eq_nil_of_length_eq_zero hl
  rfl
 ·rw [run_convert_bytes_string w src dst e (some a) n c hs he hd]
  have hcells:=run_loadCells_list (P:=P) w a _ hc
  rw [List.length_map,hl] at hcells
  rw [run_bytesToString w a n c (l.map fun b=>((b.toNat:Nat):Int)) (by rw [List.map_map]; exact hcells),foldl_push]
  congr 3
  simp
theorem r_toBytes {src dst:TypeId} {u:TypeDesc} (s:ByteArray) (h:St o w R) (hs:P.underlying src=some u) (hel:El P dst e 1 bt z) (he:P.underlying e=some (.int .u8)) (hm:s.size≤maxLen)
  (hk:∀v' w',St o w' (Sh.own e 1 v' s.size (byteCells s)::R)→kk v' w'):rN P Z (convert src dst (.string s)) w kk:=by
 refine r1 (Lib.run_convert_string_bytes w src dst e s hs hel.ht he) (hk _ _ ?_)
 have hge:s.size≤grownCap w s.size 0 e:=grownCap_ge w s.size 0 e
 have hle:=grownCap_le_maxLen w s.size 0 e hm
 have hc:(Lib.bytesCells w e s).toList=byteCells s++List.replicate (grownCap w s.size 0 e - s.size) (.int .u8 0):=by
  unfold Lib.bytesCells byteCells
  simp
 have hS:St o (Lib.bytesWorld w e s) (blk w.heap.size e (Lib.bytesCells w e s).toList::R):=by
  refine h.alloc_ob rfl ?_ ?_ ?_ (Lib.bytesWorld_size w e s) (Lib.bytesWorld_at_old w e s) ?_
  ·simp [Lib.bytesWorld,World.freeze,World.alloc,World.drew,-World.alloc_eq,-World.drew_eq]
  ·simp [Lib.bytesWorld,World.freeze,World.alloc,World.drew,-World.alloc_eq,-World.drew_eq]
  ·simp [Lib.bytesWorld,World.freeze,World.alloc,World.drew,-World.alloc_eq,-World.drew_eq]
  ·refine ⟨_,.inr ?_,by rw [Lib.bytesWorld_at_new]⟩
   simp
 have hlen:(Lib.bytesCells w e s).toList.length=grownCap w s.size 0 e * 1:=by
  rw [hc,List.length_append,byteCells_length,List.length_replicate]; omega
 have hmk:=hS.own_mk (sz:=1) s.size hge hle hlen
 rw [hc,Nat.mul_one,List.take_left' (byteCells_length s)] at hmk
 exact hmk
end

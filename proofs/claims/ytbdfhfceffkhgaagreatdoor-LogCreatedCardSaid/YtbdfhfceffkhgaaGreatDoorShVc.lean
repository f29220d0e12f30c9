/- The shallow reading of a function's code: a predicate over values alone, out of which the machine's calls follow. Nothing of any one program stands here. -/
import Derived.Orders
import Derived.KernelRfl
import Derived.Laws.Sem
namespace Go.Sh
abbrev PZ:=List PanicEntry→World→Prop
abbrev PQ:=Value→World→Prop

abbrev memN (t:Nat):List Nat→Bool
 | []=>false
 | x::xs=>bif Nat.beq t x then true else memN t xs
theorem memN_append (t:Nat) (xs ys:List Nat):memN t (xs++ys)=(memN t xs || memN t ys):=by
 induction xs with
 | nil=>rfl
 | cons x xs ih=>
  simp only [List.cons_append,memN]
  cases Nat.beq t x
  ·simpa using ih
  ·rfl
theorem memN_of_mem {t:Nat} {xs:List Nat} (h:t ∈ xs):memN t xs=true:=by
 induction xs with
 | nil=>cases h
 | cons x xs ih=>
  simp only [memN]
  cases hb:Nat.beq t x with
  | true=>rfl
  | false=>
   rcases List.mem_cons.1 h with rfl | h
   ·rw [Nat.beq_refl] at hb; cases hb
   ·exact ih h
abbrev Env:=Nat→Value
abbrev upd (ρ:Env) (d:Nat) (v:Value):Env:=fun t=>bif Nat.beq t d then v else ρ t
abbrev evT (n:Nat) (ρ:Env) (t:Nat):Value:=bif Nat.blt t n then ρ t else undef
abbrev ev (n:Nat) (ρ:Env):Operand→Value
 | .tmp t=>evT n ρ t
 | .const v=>v
 | .global g=>.pointer (some ⟨g,0,none⟩)
 | .func f=>.func (.func f) #[] #[]
abbrev putD (ρ:Env):Option Tmp→Value→Env
 | some d,v=>upd ρ d v
 | none,_=>ρ
abbrev argEnv:List Value→Env
 | [],_=>undef
 | v::_,0=>v
 | _::vs,t+1=>argEnv vs t
structure Rel (ds:List Deferred) (n:Nat) (a:Act) (ρ:Env):Prop where
 defers:a.defers=ds
 size:a.tmps.size=n
 get:∀t,t < n→a.tmps.getD t undef=ρ t
variable {ds:List Deferred}
theorem beq_false_of_ne {a b:Nat} (h:a ≠ b):Nat.beq a b=false:=by
 cases hh:Nat.beq a b with
 | false=>rfl
 | true=>exact absurd (Nat.eq_of_beq_eq_true hh) h
theorem blt_iff {a b:Nat}:Nat.blt a b=true ↔ a < b:=by
 unfold Nat.blt; rw [Nat.ble_eq]; exact Iff.rfl
theorem upd_same (ρ:Env) (d:Nat) (v:Value):upd ρ d v d=v:=by unfold upd; rw [Nat.beq_refl]; rfl
theorem upd_ne (ρ:Env) {d t:Nat} (v:Value) (h:t ≠ d):upd ρ d v t=ρ t:=by unfold upd; rw [beq_false_of_ne h]; rfl
theorem Rel.evT {n:Nat} {a:Act} {ρ:Env} (h:Rel ds n a ρ) (t:Nat):a.tmps.getD t undef=Sh.evT n ρ t:=by
 unfold Sh.evT
 by_cases ht:t < n
 ·rw [blt_iff.2 ht]; exact h.get t ht
 ·have:Nat.blt t n=false:=by
   cases hh:Nat.blt t n with
   | false=>rfl
   | true=>exact absurd (blt_iff.1 hh) ht
  rw [this]
  simp [h.size,ht]
theorem Rel.eval {n:Nat} {a:Act} {ρ:Env} (h:Rel ds n a ρ):a.eval=ev n ρ:=by
 funext x
 cases x with
 | tmp t=>exact h.evT t
 | _=>rfl
theorem Rel.put {n:Nat} {a:Act} {ρ:Env} (h:Rel ds n a ρ) (d:Option Tmp) (v:Value):Rel ds n (a.put d v) (putD ρ d v):=by
 cases d with
 | none=>exact h
 | some d=>
  refine ⟨h.defers,by simp [Act.put,h.size],fun t ht=>?_⟩
  by_cases e:t=d
  ·subst e
   simp [Act.put,putD,upd_same,h.size,ht]
  ·simp only [Act.put,putD,upd_ne ρ v e]
   rw [← h.get t ht]
   simp [Array.getElem?_setIfInBounds_ne (Ne.symm e)]

abbrev isC:Operand→Bool | .const _=>true | _=>false
theorem listmap_arr {α β:Type} (xs:Array α) (f:α→β):(xs.toList.map f).toArray=xs.map f:=by
 apply Array.ext' ; simp
def cst:Bool→Operand
 | true=>.const undef
 | false=>.tmp 0
def eqOp (op:BinOp) (t:TypeId) (cx cy:Bool) (a b:Value):Sem Value:=do eqGuard op t (cst cx) (cst cy) a b; binOp op t a b
def nilChk (x:Value):Sem Next:=execOp (fun _=>x) { dst:=none,op:=.nilCheck (.tmp 0),type:=0,pos := "", after:=#[],guard:=none }
def pickV (c a b:Value):Sem Value:=do pure (if ← asBool c then a else b)
def callVal (f:Value) (args:Array Value):Sem Next:=do let d ← Deferred.ofValue f args; invoke d.target d.args
def nx (s:Sem Value):Sem Next:=do pure (Next.value (← s))
abbrev argsV (ρ:Operand→Value) (args:Array Operand):Array Value:=(args.toList.map ρ).toArray
abbrev partsV (ρ:Operand→Value) (ps:Array (Nat × Operand)):Array (Nat × Value):=(ps.toList.map fun p=>(p.1,ρ p.2)).toArray
abbrev valSem (ρ:Operand→Value) (o:Oper):Option (Sem Value):=
 match o.op with
 | .pick c a b=>some (pickV (ρ c) (ρ a) (ρ b))
 | .alloc elem=>some (Instr.alloc elem true (.tuple #[]))
 | .box elem x=>some (Instr.box elem (ρ x))
 | .build t parts=>some (Instr.build t (partsV ρ parts))
 | .buildSlice t len parts=>some (Instr.buildSlice t len (partsV ρ parts))
 | .load t a=>some (Instr.loadAt t (ρ a))
 | .binOp op t x y _=>match op with
  | .eql=>some (eqOp .eql t (isC x) (isC y) (ρ x) (ρ y))
  | .neq=>some (eqOp .neq t (isC x) (isC y) (ρ x) (ρ y))
  | op=>some (binOp op t (ρ x) (ρ y))
 | .unOp op _ x=>some (Op.unary op (ρ x))
 | .convert src dst x=>some (convert src dst (ρ x))
 | .sliceToArrayPointer arr x=>some (Instr.arrayAt arr (ρ x))
 | .makeInterface t x=>some (Instr.makeInterface t (ρ x))
 | .makeFunc fn first captured=>some (Instr.makeFunc fn (argsV ρ first) (argsV ρ captured))
 | .makeMap t r=>some (Instr.makeMap t (r.map ρ))
 | .makeSlice t l c=>some (Instr.makeSlice t (ρ l) (ρ c))
 | .slice t x lo hi mx=>some (Instr.sliceAt t (ρ x) (lo.map ρ) (hi.map ρ) (mx.map ρ))
 | .fieldAddr t x f=>some (Instr.fieldAt t (ρ x) f)
 | .field t x f=>some (Instr.field t (ρ x) f)
 | .indexAddr t x i=>some (Instr.indexAt t (ρ x) (ρ i))
 | .index t x i=>some (Instr.index t (ρ x) (ρ i))
 | .lookup t x i ok=>some (Instr.lookup t (ρ x) (ρ i) ok)
 | .range t x=>some (Instr.range t (ρ x))
 | .next it isString=>some (Instr.next (ρ it) isString o.type)
 | .entry it=>some (Instr.entry (ρ it))
 | .typeAssert x xt t ok=>some (Instr.typeAssert (ρ x) xt t ok)
 | .extract t i=>some (Instr.extract (ρ t) i)
 | .panic x=>some (Instr.panic (ρ x))
 | .call ⟨.builtin b,args,argTypes⟩=>match b with
  | .append=>some (Builtin.append_ argTypes o.type (argsV ρ args))
  | .cap=>some (Builtin.cap_ argTypes o.type (argsV ρ args))
  | .clear=>some (Builtin.clear_ argTypes o.type (argsV ρ args))
  | .copy=>some (Builtin.copy_ argTypes o.type (argsV ρ args))
  | .delete=>some (Builtin.delete_ argTypes o.type (argsV ρ args))
  | .len=>some (Builtin.len_ argTypes o.type (argsV ρ args))
  | .max=>some (Builtin.max_ argTypes o.type (argsV ρ args))
  | .min=>some (Builtin.min_ argTypes o.type (argsV ρ args))
  | _=>none
 | _=>none
theorem eqGuard_cst (op:BinOp) (t:TypeId) (x y:Operand) (a b:Value):eqGuard op t x y a b=eqGuard op t (cst (isC x)) (cst (isC y)) a b:=by
 cases x <;> cases y <;> rfl
theorem valSem_spec {ρ:Operand→Value} {o:Oper} {s:Sem Value} (h:valSem ρ o=some s):execOp ρ o=nx s:=by
 obtain ⟨dst,op,type,pos,after,guard⟩:=o
 have pairs:∀ps:Array (Nat × Operand),partsV ρ ps=ps.map fun (i,x)=>(i,ρ x):=fun ps=>by
  rw [partsV,listmap_arr]
 cases op
 case binOp op t x y yt=>
  cases op
  case eql=>simp only [valSem,Option.some.injEq] at h; subst h; simp only [execOp,nx,eqOp,← eqGuard_cst]
  case neq=>simp only [valSem,Option.some.injEq] at h; subst h; simp only [execOp,nx,eqOp,← eqGuard_cst]
  all_goals
   simp only [valSem,Option.some.injEq] at h; subst h
   simp only [execOp,nx,eqGuard]
   rfl
 case call c=>
  obtain ⟨callee,args,argTypes⟩:=c
  cases callee
  case builtin b=>
   cases b <;> simp only [valSem,Option.some.injEq,reduceCtorEq] at h <;> subst h <;> simp only [execOp,resolve,nx,argsV,listmap_arr] <;> rfl
  all_goals (simp only [valSem,reduceCtorEq] at h)
 all_goals
  simp only [valSem,Option.some.injEq,reduceCtorEq] at h
  try (subst h; simp only [execOp,nx,pairs,argsV,listmap_arr,pickV,bind_assoc,pure_bind]; try rfl)
def opV (P:Program) (Z:PZ) (r:Result Next) (k:PQ):Prop:=
 match r with
 | .ok (.value v) w=>k v w
 | .ok .skip w=>k undef w
 | .ok (.enter f args) w=>Calls P f args w fun e w'=>match e with
  | .returned v=>k v w'
  | .panicked ch=>Z ch w'
  | .outgrown=>False
 | .ok (.row row args) w=>Rows P row args w k
 | .halt (.panic v) w=>Z [{ v,recovered:=false }] w
 | _=>False
structure CallV (P:Program) (Z:PZ) (f:FuncId) (args:Array Value) (w:World) (k:PQ):Prop where
 out:Calls P f args w fun e w'=>match e with
  | .returned v=>k v w'
  | .panicked ch=>Z ch w'
  | .outgrown=>False
structure rN (P:Program) (Z:PZ) (s:Sem Value) (w:World) (k:PQ):Prop where
 out:opV P Z ((nx s).run P w) k
structure rO (P:Program) (Z:PZ) (s:Sem Unit) (w:World) (k:World→Prop):Prop where
 out:opV P Z ((do s; pure Next.skip:Sem Next).run P w) fun _ w=>k w
structure runX (P:Program) (Z:PZ) (s:Sem Next) (w:World) (k:PQ):Prop where
 out:opV P Z (s.run P w) k
def yieldE (n:Nat) (ops:Array Oper) (ρ:Env) (j:Nat):Option Bool:=
 match (ops[j]?).bind (·.dst) with
 | some d=>match evT n ρ d with
  | .bool b=>some b
  | _=>none
 | none=>none
theorem Rel.yielded {n:Nat} {a:Act} {ρ:Env} (h:Rel ds n a ρ) (ops:Array Oper) (j:Nat):yielded ops a.tmps j=yieldE n ops ρ j:=by
 unfold Go.yielded yieldE
 cases (ops[j]?).bind (·.dst) with
 | none=>rfl
 | some d=>
  simp only [Option.bind_some]
  rw [← h.evT d]
  by_cases hd:d < a.tmps.size
  ·simp only [hd,getElem?_pos,Array.getD_eq_getD_getElem?,Option.getD_some]
   split <;> simp_all
  ·simp [hd,undef]
abbrev beqB:Bool→Bool→Bool
 | true,true=>true
 | false,false=>true
 | _,_=>false
abbrev isB (v:Value) (want:Bool):Bool:=match v with | .bool b=>beqB b want | _=>false
structure guardV (v:Value) (want:Bool) (body:(Value→Prop)→Prop) (k:Value→Prop):Prop where
 out:bif isB v want then body k else k undef
structure gW (v:Value) (want:Bool) (body:(PQ)→Prop) (k:PQ) (w:World):Prop where
 out:bif isB v want then body k else k undef w
theorem guard_spec {n:Nat} {ops:Array Oper} {ρ:Env} {o:Oper} {j d:Nat} {want:Bool} {A B:Prop} {a:Act} (hr:Rel ds n a ρ) (hg:o.guard=some (j,want)) (hd:(ops[j]?).bind (·.dst)=some d)
  (h:bif isB (evT n ρ d) want then A else B) :
  (Region.wanted o (yielded ops a.tmps)=true∧A)∨(Region.wanted o (yielded ops a.tmps)=false∧B):=by
 unfold Region.wanted
 simp only [hg]
 rw [hr.yielded]
 unfold yieldE
 simp only [hd]
 cases hv:evT n ρ d with
 | bool b=>
  simp only [hv,isB] at h ⊢
  cases b <;> cases want <;> simp [beqB] at h ⊢ <;> exact h
 | _=>simp only [hv,isB] at h ⊢; exact .inr ⟨by simp,h⟩
abbrev dstAt:List Oper→Nat→Option Tmp
 | [],_=>none
 | o::_,0=>o.dst
 | _::os,j+1=>dstAt os j
theorem dstAt_list:∀(os:List Oper) (j:Nat),dstAt os j=(os[j]?).bind (·.dst)
 | [],j=>by simp [dstAt]
 | o::os,0=>by simp [dstAt]
 | o::os,j+1=>by simp [dstAt,dstAt_list os j]
theorem dstAt_eq (ops:Array Oper) (j:Nat):dstAt ops.toList j=(ops[j]?).bind (·.dst):=by rw [dstAt_list,Array.getElem?_toList]
abbrev guardE (n:Nat) (os:List Oper) (ρ:Env) (o:Oper) (body:(PQ)→Prop) (k:PQ) (w:World):Prop:=
 match o.guard with
 | none=>body k
 | some (j,want)=>match dstAt os j with
  | some d=>gW (evT n ρ d) want body k w
  | none=>k undef w
abbrev guardP (n:Nat) (os:List Oper) (ρ:Env) (o:Oper) (body:(Value→Prop)→Prop) (k:Value→Prop):Prop:=
 match o.guard with
 | none=>body k
 | some (j,want)=>match dstAt os j with
  | some d=>guardV (evT n ρ d) want body k
  | none=>k undef
theorem wanted_none {ops:Array Oper} {o:Oper} {a:Act} {n:Nat} {ρ:Env} (hr:Rel ds n a ρ) {j:Nat} {want:Bool} (hg:o.guard=some (j,want)) (hd:(ops[j]?).bind (·.dst)=none):Region.wanted o (yielded ops a.tmps)=false:=by
 unfold Region.wanted
 simp only [hg]
 rw [hr.yielded]
 unfold yieldE
 simp [hd]
theorem guardE_spec {n:Nat} {ops:Array Oper} {ρ:Env} {o:Oper} {body:(PQ)→Prop} {k:PQ} {w:World} {a:Act} (hr:Rel ds n a ρ) (h:guardE n ops.toList ρ o body k w) :
  (Region.wanted o (yielded ops a.tmps)=true∧body k)∨(Region.wanted o (yielded ops a.tmps)=false∧k undef w):=by
 unfold guardE at h
 cases hg:o.guard with
 | none=>simp only [hg] at h; exact .inl ⟨by simp [Region.wanted,hg],h⟩
 | some gw=>
  obtain ⟨j,want⟩:=gw
  simp only [hg,dstAt_eq] at h
  cases hd:(ops[j]?).bind (·.dst) with
  | none=>simp only [hd] at h; exact .inr ⟨wanted_none hr hg hd,h⟩
  | some d=>simp only [hd] at h; exact guard_spec hr hg hd h.out
theorem guardP_spec {n:Nat} {ops:Array Oper} {ρ:Env} {o:Oper} {body:(Value→Prop)→Prop} {k:Value→Prop} {a:Act} (hr:Rel ds n a ρ) (h:guardP n ops.toList ρ o body k) :
  (Region.wanted o (yielded ops a.tmps)=true∧body k)∨(Region.wanted o (yielded ops a.tmps)=false∧k undef):=by
 unfold guardP at h
 cases hg:o.guard with
 | none=>simp only [hg] at h; exact .inl ⟨by simp [Region.wanted,hg],h⟩
 | some gw=>
  obtain ⟨j,want⟩:=gw
  simp only [hg,dstAt_eq] at h
  cases hd:(ops[j]?).bind (·.dst) with
  | none=>simp only [hd] at h; exact .inr ⟨wanted_none hr hg hd,h⟩
  | some d=>simp only [hd] at h; exact guard_spec hr hg hd h.out
def Enters (P:Program) (f:Nat):Prop:=∀args w,(callFunc f args).run P w=.ok (.enter f args) w
abbrev opE (P:Program) (n:Nat) (Z:PZ) (cal:List Nat) (ρ:Env) (o:Oper) (w:World) (k:PQ):Prop:=
 match o.op with
 | .move x=>k (ev n ρ x) w
 | .assign x=>k (ev n ρ x) w
 | .store t a x=>rO P Z (Instr.storeAt t (ev n ρ a) (ev n ρ x)) w fun w=>k undef w
 | .nilCheck x=>runX P Z (nilChk (ev n ρ x)) w k
 | .call ⟨.value f,args,_⟩=>match f with
  | .func f=>bif memN f cal then CallV P Z f (argsV (ev n ρ) args) w k else runX P Z (callFunc f (argsV (ev n ρ) args)) w k
  | f=>runX P Z (callVal (ev n ρ f) (argsV (ev n ρ) args)) w k
 | _=>match valSem (ev n ρ) o with
  | some s=>rN P Z s w k
  | none=>False
theorem opE_sound {P:Program} {n:Nat} {Z:PZ} {cal:List Nat} (hcal:∀f,memN f cal=true→Enters P f) {ρ:Env} {o:Oper} {w:World} {k:PQ}
  (h:opE P n Z cal ρ o w k):opV P Z ((execOp (ev n ρ) o).run P w) k:=by
 have vals:∀{s:Sem Value},valSem (ev n ρ) o=some s→rN P Z s w k→opV P Z ((execOp (ev n ρ) o).run P w) k:=fun hs hk=>by
  rw [valSem_spec hs]; exact hk.out
 obtain ⟨dst,op,type,pos,after,guard⟩:=o
 cases op
 case move x=>exact h
 case assign x=>exact h
 case store t a x=>
  have h':=rO.out (show rO P Z (Instr.storeAt t (ev n ρ a) (ev n ρ x)) w fun w=>k undef w from h)
  show opV P Z ((do Instr.storeAt t (ev n ρ a) (ev n ρ x); pure Next.skip:Sem Next).run P w) k
  rw [Sem.run_bind] at h' ⊢
  cases hr:(Instr.storeAt t (ev n ρ a) (ev n ρ x)).run P w with
  | ok u w'=>rw [hr] at h'; exact h'
  | halt x w'=>rw [hr] at h'; cases x <;> exact h'
 case nilCheck x=>exact runX.out (show runX P Z (nilChk (ev n ρ x)) w k from h)
 case call c=>
  obtain ⟨callee,args,argTypes⟩:=c
  cases callee
  case value f=>
   cases f
   case func f=>
    have h':bif memN f cal then CallV P Z f (argsV (ev n ρ) args) w k else runX P Z (callFunc f (argsV (ev n ρ) args)) w k:=h
    simp only [execOp,resolve,Deferred.ofValue,← listmap_arr]
    show opV P Z ((callFunc f (#[]++(args.toList.map (ev n ρ)).toArray++#[])).run P w) k
    rw [Array.empty_append,Array.append_empty]
    cases hf:memN f cal with
    | false=>rw [hf] at h'; exact h'.out
    | true=>
     rw [hf] at h'
     rw [hcal f hf _ w]
     exact h'.out
   all_goals
    simp only [execOp,resolve,← listmap_arr]
    exact runX.out (s:=callVal _ _) h
  case builtin b=>
   have h':(match valSem (ev n ρ) ⟨dst,.call ⟨.builtin b,args,argTypes⟩,type,pos,after,guard⟩ with | some s=>rN P Z s w k | none=>False):=h
   cases hs:valSem (ev n ρ) ⟨dst,.call ⟨.builtin b,args,argTypes⟩,type,pos,after,guard⟩ with
   | none=>rw [hs] at h'; exact h'.elim
   | some s=>rw [hs] at h'; exact vals hs h'
  case invoke=>exact h.elim
 all_goals first
  | exact h.elim
  | exact vals rfl h
  | (rename_i bop t x y yt; cases bop <;> exact vals rfl h)
theorem opV_upon {P:Program} {Z:PZ} {r:Result Next} {k:PQ} {o:Oper} {a:Act} {next:Act→World→Prop} {Q:Exit→Act→World→Prop}
  (h:opV P Z r k) (hk:∀v w,k v w→next (a.put o.dst v) w) (hz:∀ch w,Z ch w→Q (.panic ch) a w):o.upon P a next Q r:=by
 unfold opV at h
 split at h <;> simp only [Oper.upon]
 ·exact hk _ _ h
 ·exact hk _ _ h
 ·refine Calls.mono h fun e w' he=>?_
  cases e with
  | returned v=>exact hk _ _ he
  | panicked ch=>exact hz _ _ he
  | outgrown=>exact he.elim
 ·exact Rows.mono h fun v w' he=>hk _ _ he
 ·exact hz _ _ h
 ·exact h.elim
abbrev vcOps (P:Program) (n:Nat) (Z:PZ) (cal:List Nat) (os:List Oper) (Q:Env→World→Prop):List Oper→Env→World→Prop
 | [],ρ,w=>Q ρ w
 | o::rest,ρ,w=>guardE n os ρ o (fun k=>opE P n Z cal ρ o w k) (fun v w'=>vcOps P n Z cal os Q rest (putD ρ o.dst v) w') w
def Agree (W:List Nat) (ρ ρ':Env):Prop:=∀t,memN t W=false→ρ' t=ρ t
theorem Agree.refl (W:List Nat) (ρ:Env):Agree W ρ ρ:=fun _ _=>rfl
theorem Agree.trans {W:List Nat} {a b c:Env} (h:Agree W a b) (k:Agree W b c):Agree W a c:=fun t ht=>(k t ht).trans (h t ht)
theorem Agree.left {W V:List Nat} {a b:Env} (h:Agree W a b):Agree (W++V) a b:=fun t ht=>h t (by rw [memN_append] at ht; simp at ht; exact ht.1)
theorem Agree.right {W V:List Nat} {a b:Env} (h:Agree V a b):Agree (W++V) a b:=fun t ht=>h t (by rw [memN_append] at ht; simp at ht; exact ht.2)
abbrev dsts:List Oper→List Nat
 | []=>[]
 | o::os=>match o.dst with
  | some d=>d::dsts os
  | none=>dsts os
theorem mem_dsts {os:List Oper} {o:Oper} {d:Nat} (h:o ∈ os) (hd:o.dst=some d):d ∈ dsts os:=by
 induction os with
 | nil=>cases h
 | cons x os ih=>
  simp only [dsts]
  rcases List.mem_cons.1 h with rfl | h
  ·rw [hd]; exact List.mem_cons_self
  ·cases x.dst with
   | none=>exact ih h
   | some e=>exact List.mem_cons_of_mem _ (ih h)
theorem agree_putD {ops:Array Oper} {i:Nat} {o:Oper} (ho:ops[i]? = some o) (ρ:Env) (v:Value):Agree (dsts ops.toList) ρ (putD ρ o.dst v):=by
 intro t ht
 cases hd:o.dst with
 | none=>rfl
 | some d=>
  refine upd_ne ρ v fun e=>?_
  subst e
  have hm:o ∈ ops.toList:=by
   have:=Array.mem_of_getElem? ho
   exact Array.mem_toList_iff.2 this
  rw [memN_of_mem (mem_dsts hm hd)] at ht
  cases ht
def Full (ds:List Deferred) (n:Nat) (Q:Exit→Env→World→Prop):Exit→Act→World→Prop
 | .outgrown,_,_=>False
 | e,a,w=>∃ρ,Rel ds n a ρ∧Q e ρ w
theorem Full.mono {n:Nat} {Q Q':Exit→Env→World→Prop} (h:∀e ρ w,Q e ρ w→Q' e ρ w):∀e a w,Full ds n Q e a w→Full ds n Q' e a w:=by
 intro e a w hf
 cases e with
 | outgrown=>exact hf
 | _=>obtain ⟨ρ,hr,hq⟩:=hf; exact ⟨ρ,hr,h _ _ _ hq⟩
abbrev zq (Z:PZ) (Q:Exit→Env→World→Prop):Exit→Env→World→Prop
 | .panic ch,_,w=>Z ch w
 | e,ρ,w=>Q e ρ w
structure Kept (ds:List Deferred) (n:Nat) (W:List Nat) (ρ:Env) (a:Act):Prop where
 defers:a.defers=ds
 size:a.tmps.size=n
 get:∀t,t < n→memN t W=false→a.tmps.getD t undef=ρ t
theorem Rel.kept {n:Nat} {W:List Nat} {a:Act} {ρ ρ':Env} (h:Rel ds n a ρ') (hag:Agree W ρ ρ'):Kept ds n W ρ a:=⟨h.defers,h.size,fun t ht hm=>by rw [h.get t ht,hag t hm]⟩
theorem Kept.rel {n:Nat} {W:List Nat} {a:Act} {ρ:Env} (h:Kept ds n W ρ a):∃ρ',Rel ds n a ρ'∧Agree W ρ ρ':=by
 refine ⟨fun t=>bif Nat.blt t n then a.tmps.getD t undef else ρ t,⟨h.defers,h.size,fun t ht=>by simp only [blt_iff.2 ht,cond_true]⟩,fun t hm=>?_⟩
 show (bif Nat.blt t n then a.tmps.getD t undef else ρ t)=ρ t
 cases hb:Nat.blt t n with
 | true=>exact h.get t (blt_iff.1 hb) hm
 | false=>rfl
theorem Kept.unput {n:Nat} {W:List Nat} {a:Act} {ρ:Env} {d:Option Tmp} {v:Value} (h:Kept ds n W ρ (a.put d v)) (hd:∀t,d=some t→memN t W=true):Kept ds n W ρ a:=by
 cases d with
 | none=>exact h
 | some d=>
  refine ⟨h.defers,by have:=h.size; simpa [Act.put] using this,fun t ht hm=>?_⟩
  rw [← h.get t ht hm]
  have hne:t ≠ d:=fun e=>by subst e; rw [hd t rfl] at hm; cases hm
  simp [Act.put,Array.getElem?_setIfInBounds_ne (Ne.symm hne)]
section
variable {P:Program} {n:Nat} {Z:PZ} {cal:List Nat}
theorem vcOps_sound (hcal:∀f,memN f cal=true→Enters P f) {ops:Array Oper} {Q:Exit→Act→World→Prop} {K:Env→World→Prop} {ρ0:Env}
  (hQ:∀a ρ w,Rel ds n a ρ→Agree (dsts ops.toList) ρ0 ρ→K ρ w→Q .normal a w) (hZ:∀ch a ρ w,Rel ds n a ρ→Agree (dsts ops.toList) ρ0 ρ→Z ch w→Q (.panic ch) a w) :
  ∀(l:List Oper) (pre:List Oper) (ρ:Env) (w:World) (a:Act),ops.toList=pre++l→vcOps P n Z cal ops.toList K l ρ w→Rel ds n a ρ→Agree (dsts ops.toList) ρ0 ρ→wpOps P ops Q (List.range' pre.length l.length) a w:=by
 intro l
 induction l with
 | nil=>intro pre ρ w a _ h hr hag; exact hQ a ρ w hr hag h
 | cons o rest ih=>
  intro pre ρ w a hl h hr hag
  simp only [vcOps] at h
  have ho:ops[pre.length]? = some o:=by rw [← Array.getElem?_toList,hl]; simp
  have hl2:ops.toList=(pre++[o])++rest:=by rw [hl]; simp
  have ih2:=fun ρ w a h hr hag=>ih (pre++[o]) ρ w a hl2 h hr hag
  simp only [List.length_append,List.length_cons,List.length_nil] at ih2
  rw [List.length_cons,List.range'_succ]
  simp only [wpOps,ho]
  rcases guardE_spec hr h with ⟨hw,hA⟩ | ⟨hw,hB⟩
  ·rw [if_pos hw]
   refine .inl ?_
   unfold Oper.wp
   rw [hr.eval]
   exact opV_upon (opE_sound hcal hA) (fun v w' hk=>ih2 _ w' _ hk (hr.put o.dst v) (hag.trans (agree_putD ho ρ v))) (fun ch w' hz=>hZ ch a ρ w' hr hag hz)
  ·rw [hw]
   exact ih2 _ w _ hB (hr.put o.dst undef) (hag.trans (agree_putD ho ρ undef))
end

theorem enters_of {P:Program} {f:FuncId} {fn:Func} {c:Code} (hf:P.funcs[f]? = some fn) (hname:(fn.name == "runtime.NumGoroutine")=false) (hb:fn.body=some c):Enters P f:=by
 intro args w
 unfold callFunc
 have hn:fn.body ≠ none:=by rw [hb]; simp
 have hname':fn.name ≠ "runtime.NumGoroutine" := by simpa using hname
 simp only [program,Sem.run_bind,Sem.run]
 simp [hf,hname',hn]
abbrev writes:Code→List Nat
 | .region _ ops _=>dsts ops.toList
 | .seq a b=>writes a++writes b
 | .cond _ a b=>writes a++writes b
 | .block _ c=>writes c
 | .loop c=>writes c
 | .scope c=>writes c
 | _=>[]
abbrev mix (W:List Nat) (ρ junk:Env):Env:=fun t=>bif memN t W then junk t else ρ t
abbrev putMany:List Nat→List Value→Env→Env
 | t::ts,v::vs,ρ=>upd (putMany ts vs ρ) t v
 | _,_,ρ=>ρ
theorem putMany_id {W:List Nat} {ρ ρ':Env} (h:Agree W ρ ρ') (L:List Nat):putMany L (L.map ρ') (mix W ρ ρ')=ρ':=by
 funext t
 induction L with
 | nil=>
  simp only [putMany,mix]
  cases hm:memN t W with
  | true=>rfl
  | false=>exact (h t hm).symm
 | cons x xs ih=>
  simp only [List.map_cons,putMany]
  by_cases e:t=x
  ·subst e; rw [upd_same]
  ·rw [upd_ne _ _ e]; exact ih
abbrev Cur:Nat→Type
 | 0=>World→Prop
 | n+1=>Value→Cur n
abbrev app:(n:Nat)→Cur n→List Value→World→Prop
 | 0,c,_,w=>c w
 | n+1,c,y::ys,w=>app n (c y) ys w
 | _+1,_,[],_=>False
def lam:(n:Nat)→(List Value→World→Prop)→Cur n
 | 0,f=>fun w=>f [] w
 | n+1,f=>fun y=>lam n fun ys=>f (y::ys)
theorem app_lam:∀(n:Nat) (f:List Value→World→Prop) (ys:List Value) (w:World),ys.length=n→(app n (lam n f) ys w ↔ f ys w):=by
 intro n
 induction n with
 | zero=>intro f ys w h; obtain rfl:=List.eq_nil_of_length_eq_zero h; exact Iff.rfl
 | succ n ih=>
  intro f ys w h
  cases ys with
  | nil=>simp at h
  | cons y ys=>simp only [lam,app]; exact ih _ ys w (by simpa using h)
abbrev allN:Nat→(List Value→Prop)→Prop
 | 0,f=>f []
 | n+1,f=>∀y,allN n fun ys=>f (y::ys)
theorem allN_at:∀(n:Nat) (f:List Value→Prop) (ys:List Value),allN n f→ys.length=n→f ys:=by
 intro n
 induction n with
 | zero=>intro f ys h hl; obtain rfl:=List.eq_nil_of_length_eq_zero hl; exact h
 | succ n ih=>
  intro f ys h hl
  cases ys with
  | nil=>simp at hl
  | cons y ys=>exact ih _ ys (h y) (by simpa using hl)
theorem allN_all:∀(n:Nat) (f:List Value→Prop),(∀ys,ys.length=n→f ys)→allN n f:=by
 intro n
 induction n with
 | zero=>intro f h; exact h [] rfl
 | succ n ih=>intro f h y; exact ih _ fun ys hl=>h (y::ys) (by simpa using hl)
abbrev thenE (next:Env→World→Prop) (Q:Exit→Env→World→Prop):Exit→Env→World→Prop
 | .normal,ρ,w=>next ρ w
 | e,ρ,w=>Q e ρ w
abbrev inBlockE (id:Nat) (Q:Exit→Env→World→Prop):Exit→Env→World→Prop
 | .exit i,ρ,w=>bif Nat.beq i id then Q .normal ρ w else Q (.exit i) ρ w
 | e,ρ,w=>Q e ρ w
structure cV (v:Value) (A B:Prop):Prop where
 out:match v with
  | .bool b=>(b=true→A)∧(b=false→B)
  | _=>False
inductive Plan where
 | fin
 | take (i:Nat) (rd:Bool) (p:Plan)
 | one (j:Nat) (p:Plan)
 | two (j:Nat) (p:Plan) (k:Nat) (q:Plan)
inductive An where
 | leaf
 | dr (p:Plan)
 | sq (a b:An)
 | sj (L:List Nat) (a b:An)
 | cn (a b:An)
 | bl (a:An)
 | lp (L:List Nat) (a:An)
abbrev pl:List Nat→Plan→Plan
 | [],p=>p
 | c::cs,p=>bif Nat.beq (c % 4) 0 then .take (c / 4) false (pl cs p) else bif Nat.beq (c % 4) 1 then .take (c / 4) true (pl cs p) else .one (c / 4) (pl cs p)
abbrev DrawRule:=(p:Plan)→(P:Program)→(n:Nat)→(Z:PZ)→(cal:List Nat)→(ops:Array Oper)→(Q:Env→World→Prop)→Env→World→Prop
def DrawRule.sound (D:DrawRule):Prop:=∀(ds:List Deferred) (p:Plan) (P:Program) (n:Nat) (Z:PZ) (cal:List Nat) (id:Nat) (ops:Array Oper) (K:Env→World→Prop) (ρ:Env) (w:World) (a:Act) (Q:Exit→Act→World→Prop),
 P.follows .mixedOrders=true→(∀f,memN f cal=true→Enters P f)→D p P n Z cal ops K ρ w→Rel ds n a ρ→(∀a' ρ' w',Rel ds n a' ρ'→Agree (dsts ops.toList) ρ ρ'→K ρ' w'→Q .normal a' w') →
 (∀ch a' w',Kept ds n (dsts ops.toList) ρ a'→Z ch w'→Q (.panic ch) a' w')→(Code.region id ops true).wp P Q a w
abbrev vc (D:DrawRule) (P:Program) (n:Nat) (Z:PZ) (cal:List Nat):An→Code→(Exit→Env→World→Prop)→Env→World→Prop
 | .leaf,c,Q,ρ,w=>match c with
  | .skip=>Q .normal ρ w
  | .label _=>Q .normal ρ w
  | .exit id=>Q (.exit id) ρ w
  | .ret=>Q .ret ρ w
  | .region _ ops draw=>bif draw then False else vcOps P n Z cal ops.toList (fun ρ w=>Q .normal ρ w) ops.toList ρ w
  | _=>False
 | .dr p,c,Q,ρ,w=>match c with
  | .region _ ops draw=>bif draw then D p P n Z cal ops (fun ρ w=>Q .normal ρ w) ρ w else False
  | _=>False
 | .sq a b,c,Q,ρ,w=>match c with
  | .seq x y=>vc D P n Z cal a x (thenE (fun ρ' w'=>vc D P n Z cal b y Q ρ' w') Q) ρ w
  | _=>False
 | .sj L a b,c,Q,ρ,w=>match c with
  | .seq x y=>
    ∀j:Cur L.length,(allN L.length fun ys=>∀w',(∀junk:Env,vc D P n Z cal b y Q (putMany L ys (mix (writes x) ρ junk)) w')→app _ j ys w') →
     vc D P n Z cal a x (thenE (fun ρ' w'=>app _ j (L.map ρ') w') Q) ρ w
  | _=>False
 | .cn a b,c,Q,ρ,w=>match c with
  | .cond t x y=>cV (ev n ρ t) (vc D P n Z cal a x Q ρ w) (vc D P n Z cal b y Q ρ w)
  | _=>False
 | .bl a,c,Q,ρ,w=>match c with
  | .block id x=>vc D P n Z cal a x (inBlockE id Q) ρ w
  | _=>False
 | .lp L a,c,Q,ρ,w=>match c with
  | .loop x=>
    ∃J:Nat→Cur L.length,(∃m,app _ (J m) (L.map ρ) w)∧∀m,allN L.length fun ys=>∀w',app _ (J m) ys w'→∀junk:Env,
     vc D P n Z cal a x (thenE (fun ρ'' w''=>∃m',m' < m∧app _ (J m') (L.map ρ'') w'') Q) (putMany L ys (mix (writes x) ρ junk)) w'
  | _=>False
section
variable {P:Program} {n:Nat} {Z:PZ} {cal:List Nat} {D:DrawRule}
theorem wp_loop_ix {Q:Exit→Act→World→Prop} {c:Code} (I:Nat→Act→World→Prop) (round:∀m a w,I m a w→c.wp P (Exit.then (fun a' w'=>∃m',m' < m∧I m' a' w') Q) a w)
  {m:Nat} {a:Act} {w:World} (h:I m a w):(Code.loop c).wp P Q a w:=by
 intro b k cs
 have key:∀m a w,I m a w→∃e a' w',Q e a' w'∧Arrives P (lone (b.at a (.code c::.inLoop c::k)) cs w) b k cs e a' w':=by
  intro m
  induction m using Nat.strongRecOn with
  | _ m ih=>
   intro a w hI
   obtain ⟨e,a₁,w₁,hq,harr⟩:=round m a w hI b (.inLoop c::k) cs
   cases e with
   | normal=>
    obtain ⟨m',hlt,hI₁⟩:=hq
    obtain ⟨e₂,a₂,w₂,hq₂,harr₂⟩:=ih m' hlt a₁ w₁ hI₁
    exact ⟨e₂,a₂,w₂,hq₂,.of_steps (Steps.trans harr (.one step_inLoop)) harr₂⟩
   | exit id=>exact ⟨_,a₁,w₁,hq,.pass (x:=.inLoop c) rfl (fun _ _=>.inl (by simp)) harr⟩
   | goto l=>exact ⟨_,a₁,w₁,hq,.pass (x:=.inLoop c) rfl (fun _ _=>.inl (by simp)) harr⟩
   | ret=>exact ⟨_,a₁,w₁,hq,.pass (x:=.inLoop c) rfl (fun _ _=>.inl (by simp)) harr⟩
   | panic ch=>exact ⟨_,a₁,w₁,hq,.pass (x:=.inLoop c) rfl (fun _ _=>.inl (by simp)) harr⟩
   | outgrown=>exact ⟨_,a₁,w₁,hq,.pass (x:=.inLoop c) rfl (fun _ _=>.inl (by simp)) harr⟩
 obtain ⟨e,a',w',hq,harr⟩:=key m a w h
 exact ⟨e,a',w',hq,.of_steps (.one step_loop) harr⟩
theorem vc_sound (hD:D.sound) (hm:P.follows .mixedOrders=true) (hcal:∀f,memN f cal=true→Enters P f):∀(an:An) (c:Code) (Q:Exit→Env→World→Prop) (ρ:Env) (w:World) (a:Act),
  vc D P n Z cal an c Q ρ w→Rel ds n a ρ→c.wp P (Full ds n fun e ρ' w'=>Agree (writes c) ρ ρ'∧zq Z Q e ρ' w') a w:=by
 intro an
 induction an with
 | leaf=>
  intro c Q ρ w a h hr
  cases c with
  | skip=>exact wp_skip ⟨ρ,hr,Agree.refl _ _,h⟩
  | label l=>exact wp_label ⟨ρ,hr,Agree.refl _ _,h⟩
  | exit id=>exact wp_exit ⟨ρ,hr,Agree.refl _ _,h⟩
  | ret=>exact wp_ret ⟨ρ,hr,Agree.refl _ _,h⟩
  | region id ops draw=>
   cases draw with
   | true=>exact h.elim
   | false=>
    have h1:=vcOps_sound hcal (Q:=Full ds n fun e ρ' w'=>Agree (dsts ops.toList) ρ ρ'∧zq Z Q e ρ' w') (K:=fun ρ w=>Q .normal ρ w) (ρ0:=ρ) (fun a' ρ' w' hr' hag hk=>⟨ρ',hr',hag,hk⟩) (fun ch a' ρ' w' hr' hag hz=>⟨ρ',hr',hag,hz⟩) ops.toList [] ρ w a rfl h hr (Agree.refl _ _)
    refine wp_region ?_
    show wpOps P ops (Full ds n fun e ρ' w'=>Agree (dsts ops.toList) ρ ρ'∧zq Z Q e ρ' w') _ a w
    rw [List.range_eq_range']
    simpa using h1
  | _=>exact h.elim
 | dr p=>
  intro c Q ρ w a h hr
  cases c with
  | region id ops draw=>
   cases draw with
   | false=>exact h.elim
   | true=>exact hD ds p P n Z cal id ops _ ρ w a _ hm hcal h hr (fun a' ρ' w' hr' hag hk=>⟨ρ',hr',hag,hk⟩) (fun ch a' w' hk hz=>let ⟨ρ',hr',hag⟩:=hk.rel; ⟨ρ',hr',hag,hz⟩)
  | _=>exact h.elim
 | sq an1 an2 ihx ihy=>
  intro c Q ρ w a h hr
  cases c with
  | seq x y=>
   refine wp_seq (wp_mono (ihx x _ ρ w a h hr) fun e a' w' hf=>?_)
   cases e with
   | normal=>
    obtain ⟨ρ',hr',hag,hk⟩:=hf
    exact wp_mono (ihy y _ ρ' w' a' hk hr') (Full.mono fun e ρ'' w'' ⟨h1,h2⟩=>⟨hag.left.trans h1.right,h2⟩)
   | outgrown=>exact hf
   | _=>obtain ⟨ρ',hr',hag,hk⟩:=hf; exact ⟨ρ',hr',hag.left,hk⟩
  | _=>exact h.elim
 | sj L an1 an2 ihx ihy=>
  intro c Q ρ w a h hr
  cases c with
  | seq x y=>
   unfold vc at h
   have h1:=h (lam L.length fun ys w'=>∀junk:Env,vc D P n Z cal an2 y Q (putMany L ys (mix (writes x) ρ junk)) w')
    (allN_all _ _ fun ys hl w' hj=>(app_lam _ _ _ _ hl).2 hj)
   refine wp_seq (wp_mono (ihx x _ ρ w a h1 hr) fun e a' w' hf=>?_)
   cases e with
   | normal=>
    obtain ⟨ρ',hr',hag,hk⟩:=hf
    have hk2:=(app_lam _ _ _ _ (by simp)).1 hk ρ'
    rw [putMany_id hag] at hk2
    exact wp_mono (ihy y _ ρ' w' a' hk2 hr') (Full.mono fun e ρ'' w'' ⟨h1,h2⟩=>⟨hag.left.trans h1.right,h2⟩)
   | outgrown=>exact hf
   | _=>obtain ⟨ρ',hr',hag,hk⟩:=hf; exact ⟨ρ',hr',hag.left,hk⟩
  | _=>exact h.elim
 | cn an1 an2 ihx ihy=>
  intro c Q ρ w a h hr
  cases c with
  | cond t x y=>
   unfold vc at h
   have h:=h.out
   split at h
   ·rename_i b hb
    refine wp_cond_split (t:=b) (by rw [hr.eval]; exact hb) (fun ht=>?_) (fun ht=>?_)
    ·exact wp_mono (ihx x _ ρ w a (h.1 ht) hr) (Full.mono fun e ρ'' w'' ⟨h1,h2⟩=>⟨h1.left,h2⟩)
    ·exact wp_mono (ihy y _ ρ w a (h.2 ht) hr) (Full.mono fun e ρ'' w'' ⟨h1,h2⟩=>⟨h1.right,h2⟩)
   ·exact h.elim
  | _=>exact h.elim
 | bl an ih=>
  intro c Q ρ w a h hr
  cases c with
  | block id x=>
   refine wp_block (wp_mono (ih x _ ρ w a h hr) fun e a' w' hf=>?_)
   cases e with
   | exit i=>
    obtain ⟨ρ',hr',hag,hk⟩:=hf
    simp only [zq,inBlockE] at hk
    by_cases e:i=id
    ·subst e
     rw [Nat.beq_refl] at hk
     simp only [Exit.inBlock,if_true]
     exact ⟨ρ',hr',hag,hk⟩
    ·rw [beq_false_of_ne e] at hk
     simp only [Exit.inBlock,e,if_false]
     exact ⟨ρ',hr',hag,hk⟩
   | outgrown=>exact hf
   | _=>exact hf
  | _=>exact h.elim
 | lp L an ih=>
  intro c Q ρ w a h hr
  cases c with
  | loop x=>
   unfold vc at h
   obtain ⟨J,⟨m,h0⟩,hstep⟩:=h
   refine wp_loop_ix (I:=fun m a w=>∃ρ',Rel ds n a ρ'∧Agree (writes x) ρ ρ'∧app _ (J m) (L.map ρ') w) (fun m' a' w' hI=>?_) ⟨ρ,hr,Agree.refl _ _,h0⟩
   obtain ⟨ρ',hr',hag,hJ⟩:=hI
   have h1:=allN_at _ _ (L.map ρ') (hstep m') (by simp) w' hJ ρ'
   rw [putMany_id hag] at h1
   refine wp_mono (ih x _ ρ' w' a' h1 hr') fun e a'' w'' hf=>?_
   cases e with
   | normal=>
    obtain ⟨ρ'',hr'',hag'',m'',hlt,hJ''⟩:=hf
    exact ⟨m'',hlt,ρ'',hr'',hag.trans hag'',hJ''⟩
   | outgrown=>exact hf
   | _=>obtain ⟨ρ'',hr'',hag'',hk⟩:=hf; exact ⟨ρ'',hr'',hag.trans hag'',hk⟩
  | _=>exact h.elim
end

abbrev vcRes (P:Program) (f:Nat→Value) (w:World):List ResultVar→(List Value→Prop)→Prop
 | [],k=>k []
 | .tmp t::rs,k=>vcRes P f w rs fun vs=>k (f t::vs)
 | .cell a t::rs,k=>∃v,(do loadVar t (← asAddr (f a)):Sem Value).run P w=.ok v w∧vcRes P f w rs fun vs=>k (v::vs)
abbrev packRes:List Value→Value
 | [v]=>v
 | vs=>.tuple vs.toArray
def resL (f:Nat→Value):List ResultVar→Sem (List Value)
 | []=>pure []
 | .tmp t::rs=>do pure (f t::(← resL f rs))
 | .cell a t::rs=>do let v ← (do loadVar t (← asAddr (f a))); pure (v::(← resL f rs))
theorem resL_eq (f:Nat→Value) (g:ResultVar→Sem Value) (hg:∀t,g (.tmp t)=pure (f t)) (hc:∀a t,g (.cell a t)=do loadVar t (← asAddr (f a))) (rs:List ResultVar):rs.mapM g=resL f rs:=by
 induction rs with
 | nil=>rfl
 | cons r rs ih=>
  rw [List.mapM_cons,ih]
  cases r with
  | tmp t=>simp [resL,hg]
  | cell a t=>simp [resL,hc]
theorem vcRes_run {P:Program} {f:Nat→Value} {w:World}:∀(rs:List ResultVar) (k:List Value→Prop),vcRes P f w rs k→∃vs,(resL f rs).run P w=.ok vs w∧k vs:=by
 intro rs
 induction rs with
 | nil=>intro k h; exact ⟨[],rfl,h⟩
 | cons r rs ih=>
  intro k h
  cases r with
  | tmp t=>
   obtain ⟨vs,h1,h2⟩:=ih _ h
   exact ⟨f t::vs,by simp [resL,h1],h2⟩
  | cell a t=>
   obtain ⟨v,hv,h⟩:=h
   obtain ⟨vs,h1,h2⟩:=ih _ h
   refine ⟨v::vs,?_,h2⟩
   rw [resL,Sem.run_bind,hv]
   simp [h1]
theorem results_run {P:Program} {fn:Func} {tmps:Array Value} {f:Nat→Value} {w:World} (hf:∀t,tmps.getD t undef=f t) {k:List Value→Prop} (h:vcRes P f w fn.results.toList k) :
  ∃vs,(results fn tmps).run P w=.ok (packRes vs) w∧k vs:=by
 obtain ⟨vs,h1,h2⟩:=vcRes_run _ _ h
 refine ⟨vs,?_,h2⟩
 unfold results
 rw [Array.mapM_eq_mapM_toList,resL_eq f _ (fun t=>by simp only [hf]) (fun a t=>by simp only [hf])]
 simp only [Sem.run_bind,map_eq_pure_bind]
 rw [h1]
 match vs with
 | []=>rfl
 | [v]=>rfl
 | a::b::r=>simp [packRes]
abbrev fnQ (P:Program) (n:Nat) (rs:Array ResultVar) (Q:PQ):Exit→Env→World→Prop
 | .normal,ρ,w=>vcRes P (evT n ρ) w rs.toList fun vs=>Q (packRes vs) w
 | .ret,ρ,w=>vcRes P (evT n ρ) w rs.toList fun vs=>Q (packRes vs) w
 | _,_,_=>False
theorem calls_of_vc {D:DrawRule} (hD:D.sound) {P:Program} {Z:PZ} {cal:List Nat} {an:An} {f:FuncId} {fn:Func} {c:Code} {args:List Value} {w:World} {Q:PQ} (hf:P.funcs[f]? = some fn) (hb:fn.body=some c) (hm:P.follows .mixedOrders=true)
  (hn:args.length≤fn.ntmps) (hcal:∀g,memN g cal=true→Enters P g) (h:vc D P fn.ntmps Z cal an c (fnQ P fn.ntmps fn.results Q) (argEnv args) w) :
  Calls P f args.toArray w fun e w'=>match e with
   | .returned v=>Q v w'
   | .panicked ch=>Z ch w'
   | .outgrown=>False:=by
 refine calls_of_wp hf hb (wp_mono (vc_sound (ds:=[]) hD hm hcal an c _ (argEnv args) w _ h ⟨rfl,by simp; omega,fun t ht=>?_⟩) fun e a w' hq=>?_)
 ·have key:∀(l:List Value) (t:Nat),(l[t]?).getD undef=argEnv l t:=by
   intro l
   induction l with
   | nil=>intro t; simp [argEnv]
   | cons v l ih=>
    intro t
    cases t with
    | zero=>rfl
    | succ t=>simpa [argEnv] using ih t
  rw [← key]
  by_cases h1:t < args.length
  ·simp [Array.getElem?_append,h1]
  ·have h2:args.length≤t:=by omega
   simp only [List.size_toArray,Array.getElem?_append,h1,if_false,Array.getElem?_replicate,Array.getD_eq_getD_getElem?,List.getElem?_eq_none h2,Option.getD_none]
   split <;> rfl
 ·cases e with
  | normal=>
   obtain ⟨ρ,hr,_,hk⟩:=hq
   obtain ⟨vs,h1,h2⟩:=results_run (fn:=fn) (tmps:=a.tmps) (fun t=>hr.evT t) hk
   exact ⟨hr.defers,_,h1,h2⟩
  | ret=>
   obtain ⟨ρ,hr,_,hk⟩:=hq
   obtain ⟨vs,h1,h2⟩:=results_run (fn:=fn) (tmps:=a.tmps) (fun t=>hr.evT t) hk
   exact ⟨hr.defers,_,h1,h2⟩
  | panic ch=>obtain ⟨ρ,hr,_,hk⟩:=hq; exact ⟨hr.defers,hk⟩
  | exit id=>obtain ⟨ρ,hr,_,hk⟩:=hq; exact hk.elim
  | goto l=>obtain ⟨ρ,hr,_,hk⟩:=hq; exact hk.elim
  | outgrown=>exact hq.elim
theorem calls_of_vcn {D:DrawRule} (hD:D.sound) {P:Program} {Z:PZ} {cal:List Nat} {an:An} {f:FuncId} {fn:Func} {c:Code} {args:List Value} {w:World} {Q:PQ} {n:Nat} {rs:Array ResultVar} (hf:P.funcs[f]? = some fn) (hnt:fn.ntmps=n) (hrs:fn.results=rs) (hb:fn.body=some c) (hm:P.follows .mixedOrders=true)
  (hn:args.length≤n) (hcal:∀g,memN g cal=true→Enters P g) (h:vc D P n Z cal an c (fnQ P n rs Q) (argEnv args) w) :
  CallV P Z f args.toArray w Q:=by
 subst hnt hrs
 exact ⟨calls_of_vc hD hf hb hm hn hcal h⟩
abbrev codeOf (fn:Func):Code:=match fn.body with | some c=>c | none=>.skip
abbrev okFn (fn:Func) (k:Nat):Bool:=match fn.body with | some _=>Nat.ble k fn.ntmps | none=>false
theorem clls {D:DrawRule} (hD:D.sound) {P:Program} {Z:PZ} {cal:List Nat} (hm:P.follows .mixedOrders=true) (hcal:∀g,memN g cal=true→Enters P g) {f:FuncId} {fn:Func} (hf:P.funcs[f]? = some fn) (an:An) (args:List Value) (ho:okFn fn args.length=true)
  {w:World} {Q:PQ} {S:Prop} (hs:vc D P fn.ntmps Z cal an (codeOf fn) (fnQ P fn.ntmps fn.results Q) (argEnv args) w=S) (h:S):CallV P Z f args.toArray w Q:=by
 cases hb:fn.body with
 | none=>rw [okFn,hb] at ho; cases ho
 | some c=>
  rw [okFn,hb] at ho
  have hc:codeOf fn=c:=by rw [codeOf,hb]
  rw [hc] at hs
  exact calls_of_vcn hD hf rfl rfl hb hm (Nat.le_of_ble_eq_true ho) hcal (hs.mpr h)
abbrev entAll (P:Program):List Nat→Bool
 | []=>true
 | f::fs=>bif (match P.funcs[f]? with | some fn=>(match fn.body with | some _=>!(fn.name == "runtime.NumGoroutine") | none=>false) | none=>false) then entAll P fs else false
theorem ent_of {P:Program}:∀{fs:List Nat},entAll P fs=true→∀g,memN g fs=true→Enters P g
 | [],_,g,hg=>by cases hg
 | f::fs,h,g,hg=>by
  have h2:(match P.funcs[f]? with | some fn=>(match fn.body with | some _=>!(fn.name == "runtime.NumGoroutine") | none=>false) | none=>false)=true∧entAll P fs=true:=by
   simp only [entAll] at h
   cases hb:(match P.funcs[f]? with | some fn=>(match fn.body with | some _=>!(fn.name == "runtime.NumGoroutine") | none=>false) | none=>false) with
   | true=>rw [hb] at h; exact ⟨rfl,h⟩
   | false=>rw [hb] at h; cases h
  simp only [memN] at hg
  cases hgf:Nat.beq g f with
  | true=>
   obtain rfl:=Nat.eq_of_beq_eq_true hgf
   cases hfn:P.funcs[g]? with
   | none=>rw [hfn] at h2; cases h2.1
   | some fn=>
    rw [hfn] at h2
    cases hbd:fn.body with
    | none=>simp only [hbd] at h2; cases h2.1
    | some c=>
     simp only [hbd] at h2
     exact enters_of hfn (by simpa using h2.1) hbd
  | false=>rw [hgf] at hg; exact ent_of h2.2 g hg

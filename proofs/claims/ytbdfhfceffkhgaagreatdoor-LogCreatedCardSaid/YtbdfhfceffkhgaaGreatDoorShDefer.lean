/- Functions that defer a call first of all; functions that are called so, and recover. Nothing of any one program stands here. -/
import Derived.Test.YtbdfhfceffkhgaaGreatDoorShAgg
import Derived.Recover
namespace Go.Sh
abbrev recW (u:FrameMode) (k:Value→FrameMode→Prop):Prop:=match u with
 | .panicking (⟨v,false,false⟩::older)=>k v (.panicking ({ v,recovered:=true }::older))
 | u=>k .nilIface u
structure recV (u:FrameMode) (k:Value→FrameMode→Prop):Prop where
 out:recW u k
section
variable {P:Program} {n:Nat} {Z:PZ} {cal:List Nat} {ds:List Deferred}
end
theorem rel_args {fn:Func} {args:List Value} (hn:args.length≤fn.ntmps):Rel [] fn.ntmps { tmps:=args.toArray++Array.replicate (fn.ntmps - args.toArray.size) undef,defers:=[] } (argEnv args):=by
 refine ⟨rfl,by simp; omega,fun t ht=>?_⟩
 have key:∀(l:List Value) (t:Nat),(l[t]?).getD undef=argEnv l t:=by
  intro l
  induction l with
  | nil=>intro t; simp [argEnv]
  | cons v l ih=>
   intro t
   cases t with
   | zero=>rfl
   | succ t=>simpa [argEnv] using ih t
 rw [← key]
 by_cases h1:t < args.length
 ·simp [Array.getElem?_append,h1]
 ·have h2:args.length≤t:=by omega
  simp only [List.size_toArray,Array.getElem?_append,h1,if_false,Array.getElem?_replicate,Array.getD_eq_getD_getElem?,List.getElem?_eq_none h2,Option.getD_none]
  split <;> rfl
structure CallD (P:Program) (Z:PZ) (f:FuncId) (args:Array Value) (u:FrameMode) (w:World) (k:FrameMode→World→Prop):Prop where
 out:CallsD P f args u w fun e u' w'=>match e with
  | .returned _=>k u' w'
  | .panicked ch=>Z ch w'
  | .outgrown=>False
theorem callD_of_vc {D:DrawRule} (hD:D.sound) {P:Program} {Z:PZ} {cal:List Nat} {an:An} {f:FuncId} {fn:Func} {c:Code} {args:List Value} {u:FrameMode} {w:World} {Q:PQ} {n:Nat} {rs:Array ResultVar}
  (hf:P.funcs[f]? = some fn) (hnt:fn.ntmps=n) (hrs:fn.results=rs) (hb:fn.body=some c) (hm:P.follows .mixedOrders=true) (hn:args.length≤n) (hcal:∀g,memN g cal=true→Enters P g)
  (h:vc D P n Z cal an c (fnQ P n rs Q) (argEnv args) w):CallD P Z f args.toArray u w fun u' w'=>u'=u∧∃v,Q v w':=by
 subst hnt hrs
 refine ⟨(callsD_of_wp (u:=u) (R:=fun e w'=>match e with | .returned v=>Q v w' | .panicked ch=>Z ch w' | .outgrown=>False) hf hb (wp_mono (vc_sound (ds:=[]) hD hm hcal an c _ (argEnv args) w _ h (rel_args hn)) fun e a w' hq=>?_)).mono fun e u' w' ⟨h1,h2⟩=>?_⟩
 ·cases e with
  | normal=>
   obtain ⟨ρ,hr,_,hk⟩:=hq
   obtain ⟨vs,h1,h2⟩:=results_run (fn:=fn) (tmps:=a.tmps) (fun t=>hr.evT t) hk
   exact ⟨hr.defers,_,h1,h2⟩
  | ret=>
   obtain ⟨ρ,hr,_,hk⟩:=hq
   obtain ⟨vs,h1,h2⟩:=results_run (fn:=fn) (tmps:=a.tmps) (fun t=>hr.evT t) hk
   exact ⟨hr.defers,_,h1,h2⟩
  | panic ch=>obtain ⟨ρ,hr,_,hk⟩:=hq; exact ⟨hr.defers,hk⟩
  | exit id=>obtain ⟨ρ,hr,_,hk⟩:=hq; exact hk.elim
  | goto l=>obtain ⟨ρ,hr,_,hk⟩:=hq; exact hk.elim
  | outgrown=>exact hq.elim
 ·cases e with
  | returned v=>exact ⟨h1,v,h2⟩
  | panicked ch=>exact h2
  | outgrown=>exact h2
structure deferV (f:Value) (args:Array Value) (k:Deferred→Prop):Prop where
 out:match f with
  | .func fn first cap=>k ⟨.fn fn cap,first++args⟩
  | _=>False
theorem deferV_mk {fn:Fn} {first cap args:Array Value} {k:Deferred→Prop} (h:k ⟨.fn fn cap,first++args⟩):deferV (.func fn first cap) args k:=⟨h⟩
structure leaveV (P:Program) (d:Deferred) (u:FrameMode) (w:World) (k:World→Prop):Prop where
 out:∃fv cap f args,d.target=.fn fv cap∧(invoke d.target d.args).run P w=.ok (.enter f args) w∧CallD P (fun _ _=>False) f args u w fun u' w'=>settle u'=.returning∧k w'
abbrev vcDef (P:Program) (n:Nat) (Z:PZ) (cal:List Nat) (os:List Oper) (Q:Deferred→Env→World→Prop):List Oper→Env→World→Prop
 | [],_,_=>False
 | o::rest,ρ,w=>match o.op with
  | .defer ⟨.value f,args,_⟩=>match o.guard with
   | none=>match rest with
    | []=>deferV (ev n ρ f) (argsV (ev n ρ) args) fun d=>Q d (putD ρ o.dst undef) w
    | _::_=>False
   | some _=>False
  | _=>guardE n os ρ o (fun k=>opE P n Z cal ρ o w k) (fun v w'=>vcDef P n Z cal os Q rest (putD ρ o.dst v) w') w
abbrev keepsRes (W:List Nat):List ResultVar→Bool
 | []=>true
 | .tmp t::rs=>bif memN t W then false else keepsRes W rs
 | .cell a _::rs=>bif memN a W then false else keepsRes W rs
theorem vcRes_keep {P:Program} {n:Nat} {W:List Nat} {ρ ρ':Env} {w:World} (hag:Agree W ρ ρ'):∀(rs:List ResultVar) (k:List Value→Prop),keepsRes W rs=true→vcRes P (evT n ρ) w rs k→vcRes P (evT n ρ') w rs k
 | [],_,_,h=>h
 | .tmp t::rs,k,hk,h=>by
  cases hm:memN t W with
  | true=>simp only [keepsRes,hm] at hk; cases hk
  | false=>
   simp only [keepsRes,hm,cond_false] at hk
   have e:evT n ρ' t=evT n ρ t:=by unfold evT; rw [hag t hm]
   simp only [vcRes,e]
   exact vcRes_keep hag rs _ hk h
 | .cell a _::rs,k,hk,h=>by
  cases hm:memN a W with
  | true=>simp only [keepsRes,hm] at hk; cases hk
  | false=>
   simp only [keepsRes,hm,cond_false] at hk
   have e:evT n ρ' a=evT n ρ a:=by unfold evT; rw [hag a hm]
   obtain ⟨v,hv,h⟩:=h
   refine ⟨v,by rw [e]; exact hv,?_⟩
   exact vcRes_keep hag rs _ hk h
section
variable {P:Program} {n:Nat} {Z:PZ} {cal:List Nat}
theorem vcDef_sound (hcal:∀f,memN f cal=true→Enters P f) {ops:Array Oper} {Q:Exit→Act→World→Prop} {K:Deferred→Env→World→Prop}
  (hQ:∀d a ρ w,Rel [d] n a ρ→K d ρ w→Q .normal a w) (hZ:∀ch a w,a.defers=[]→Z ch w→Q (.panic ch) a w) :
  ∀(l:List Oper) (pre:List Oper) (ρ:Env) (w:World) (a:Act),ops.toList=pre++l→vcDef P n Z cal ops.toList K l ρ w→Rel [] n a ρ→wpOps P ops Q (List.range' pre.length l.length) a w:=by
 intro l
 induction l with
 | nil=>intro pre ρ w a _ h hr; exact h.elim
 | cons o rest ih=>
  intro pre ρ w a hl h hr
  have ho:ops[pre.length]? = some o:=by rw [← Array.getElem?_toList,hl]; simp
  have hl2:ops.toList=(pre++[o])++rest:=by rw [hl]; simp
  have ih2:=fun ρ w a h hr=>ih (pre++[o]) ρ w a hl2 h hr
  simp only [List.length_append,List.length_cons,List.length_nil] at ih2
  rw [List.length_cons,List.range'_succ]
  simp only [wpOps,ho]
  have plain:guardE n ops.toList ρ o (fun k=>opE P n Z cal ρ o w k) (fun v w'=>vcDef P n Z cal ops.toList K rest (putD ρ o.dst v) w') w →
    if Region.wanted o (yielded ops a.tmps) then o.wp P a w (wpOps P ops Q (List.range' (pre.length+1) rest.length)) Q∨(o.asks P a w∧LetsOut Q) else wpOps P ops Q (List.range' (pre.length+1) rest.length) (a.put o.dst undef) w:=fun h=>by
   rcases guardE_spec hr h with ⟨hw,hA⟩ | ⟨hw,hB⟩
   ·rw [if_pos hw]
    refine .inl ?_
    unfold Oper.wp
    rw [hr.eval]
    exact opV_upon (opE_sound hcal hA) (fun v w' hk=>ih2 _ w' _ hk (hr.put o.dst v)) (fun ch w' hz=>hZ ch a w' hr.defers hz)
   ·rw [hw]
    exact ih2 _ w _ hB (hr.put o.dst undef)
  obtain ⟨dst,op,type,pos,after,guard⟩:=o
  cases op
  case defer c=>
   obtain ⟨callee,args,argTypes⟩:=c
   cases callee
   case value f=>
    cases guard with
    | some g=>exact h.elim
    | none=>
     cases rest with
     | cons _ _=>exact h.elim
     | nil=>
      have h:deferV (ev n ρ f) (argsV (ev n ρ) args) fun d=>K d (putD ρ dst undef) w:=h
      have hw:Region.wanted ⟨dst,.defer ⟨.value f,args,argTypes⟩,type,pos,after,none⟩ (yielded ops a.tmps)=true:=rfl
      rw [if_pos hw]
      refine .inl ?_
      unfold Oper.wp
      rw [hr.eval]
      have h:=h.out
      cases hf:ev n ρ f with
      | func fn first cap=>
       rw [hf] at h
       have he:(execOp (ev n ρ) ⟨dst,.defer ⟨.value f,args,argTypes⟩,type,pos,after,none⟩).run P w=.ok (.defer ⟨.fn fn cap,first++argsV (ev n ρ) args⟩) w:=by
        simp only [execOp,resolve,hf,Deferred.ofValue,Sem.run_bind,Sem.run_pure,Result.andThen_ok,argsV,listmap_arr]
       rw [he]
       show wpOps P ops Q [] _ w
       refine hQ _ _ _ w ?_ h
       have hp:=hr.put dst undef
       exact ⟨by cases dst <;> simp [Act.put,hr.defers],by have:=hp.size; cases dst <;> simpa [Act.put] using this,fun t ht=>by have:=hp.get t ht; cases dst <;> simpa [Act.put] using this⟩
      | _=>rw [hf] at h; exact h.elim
   all_goals exact plain h
  all_goals exact plain h
end
abbrev fnQD (P:Program) (n:Nat) (rs:Array ResultVar) (d:Deferred) (Q:PQ):Exit→Env→World→Prop
 | .normal,ρ,w=>leaveV P d .returning w fun w=>vcRes P (evT n ρ) w rs.toList fun vs=>Q (packRes vs) w
 | .ret,ρ,w=>leaveV P d .returning w fun w=>vcRes P (evT n ρ) w rs.toList fun vs=>Q (packRes vs) w
 | _,_,_=>False
abbrev ZD (P:Program) (n:Nat) (rs:Array ResultVar) (d:Deferred) (ρ:Env) (Q:PQ):PZ:=fun ch w=>
 leaveV P d (.panicking ch) w fun w=>vcRes P (evT n ρ) w rs.toList fun vs=>Q (packRes vs) w
abbrev vcFn (D:DrawRule) (P:Program) (n:Nat) (Z:PZ) (cal:List Nat) (rs:Array ResultVar) (Q:PQ) (an:An):Nat→Code→Env→World→Prop
 | 0,c,ρ,w=>match c with
  | .seq (.region _ ops draw) y=>bif (bif draw then false else keepsRes (writes y) rs.toList) then
    vcDef P n Z cal ops.toList (fun d ρ w=>∀Z':PZ,(∀ch w,ZD P n rs d ρ Q ch w→Z' ch w)→vc D P n Z' cal an y (fnQD P n rs d Q) ρ w) ops.toList ρ w
   else False
  | _=>False
 | k+1,c,ρ,w=>match c with
  | .seq x y=>vc D P n Z cal .leaf x (thenE (fun ρ w=>vcFn D P n Z cal rs Q an k y ρ w) fun _ _ _=>False) ρ w
  | _=>False
theorem vcFn_sound {D:DrawRule} (hD:D.sound) {P:Program} {Z:PZ} {cal:List Nat} {an:An} {fn:Func} {Q:PQ} (hm:P.follows .mixedOrders=true) (hcal:∀g,memN g cal=true→Enters P g) :
  ∀(k:Nat) (c:Code) (ρ:Env) (w:World) (a:Act),vcFn D P fn.ntmps Z cal fn.results Q an k c ρ w→Rel [] fn.ntmps a ρ→c.wp P (bodyPostD P fn fun e w'=>match e with | .returned v=>Q v w' | .panicked ch=>Z ch w' | .outgrown=>False) a w:=by
 let R:Ending→World→Prop:=fun e w'=>match e with | .returned v=>Q v w' | .panicked ch=>Z ch w' | .outgrown=>False
 have leave:∀(d:Deferred) (u:FrameMode) (tmps:Array Value) (ρ:Env) (w:World),u ≠ .run→(∀t,tmps.getD t undef=evT fn.ntmps ρ t)→(leaveV P d u w fun w=>vcRes P (evT fn.ntmps ρ) w fn.results.toList fun vs=>Q (packRes vs) w)→Leaves P fn tmps R [d] u w:=by
  intro d u tmps ρ w hu ht hl
  obtain ⟨fv,cap,f,args,h1,h2,h3⟩:=hl.out
  refine ⟨hu,fv,cap,f,args,h1,h2,h3.out.mono fun e u' w' he=>?_⟩
  cases e with
  | returned v=>
   obtain ⟨hs,hr⟩:=he
   show Leaves P fn tmps R [] (settle u') w'
   rw [hs]
   obtain ⟨vs,h1,h2⟩:=results_run ht hr
   exact ⟨_,h1,h2⟩
  | panicked ch=>exact he.elim
  | outgrown=>exact he.elim
 intro k
 induction k with
 | zero=>
  intro c ρ w a h hr
  cases c with
  | seq x y=>
   cases x with
   | region id ops draw=>
    have h:bif (bif draw then false else keepsRes (writes y) fn.results.toList) then
      vcDef P fn.ntmps Z cal ops.toList (fun d ρ w=>∀Z':PZ,(∀ch w,ZD P fn.ntmps fn.results d ρ Q ch w→Z' ch w)→vc D P fn.ntmps Z' cal an y (fnQD P fn.ntmps fn.results d Q) ρ w) ops.toList ρ w
     else False:=h
    cases draw with
    | true=>exact h.elim
    | false=>
     cases hk:keepsRes (writes y) fn.results.toList with
     | false=>rw [hk] at h; exact h.elim
     | true=>
      rw [hk] at h
      refine wp_seq (wp_region ?_)
      rw [List.range_eq_range']
      have h1:=vcDef_sound (K:=fun d ρ w=>∀Z':PZ,(∀ch w,ZD P fn.ntmps fn.results d ρ Q ch w→Z' ch w)→vc D P fn.ntmps Z' cal an y (fnQD P fn.ntmps fn.results d Q) ρ w) (Q:=Exit.then (y.wp P (bodyPostD P fn R)) (bodyPostD P fn R)) hcal ?_ ?_ ops.toList [] _ w _ rfl h hr
      ·simpa using h1
      ·intro d a ρ w hr hv
       refine wp_mono (vc_sound hD hm hcal an y _ ρ w a (hv _ fun _ _ h=>h) hr) fun e a' w' hq=>?_
       cases e with
       | normal=>
        obtain ⟨ρ',hr',_,hl⟩:=hq
        have:=leave d .returning a'.tmps ρ' w' (by simp) (fun t=>hr'.evT t) hl
        show Leaves P fn a'.tmps R a'.defers .returning w'
        rw [hr'.defers]; exact this
       | ret=>
        obtain ⟨ρ',hr',_,hl⟩:=hq
        have:=leave d .returning a'.tmps ρ' w' (by simp) (fun t=>hr'.evT t) hl
        show Leaves P fn a'.tmps R a'.defers .returning w'
        rw [hr'.defers]; exact this
       | panic ch=>
        obtain ⟨ρ',hr',hag,hl⟩:=hq
        have hl:leaveV P d (.panicking ch) w' fun w=>vcRes P (evT fn.ntmps ρ) w fn.results.toList fun vs=>Q (packRes vs) w:=hl
        have:=leave d (.panicking ch) a'.tmps ρ' w' (by simp) (fun t=>hr'.evT t) (by
         obtain ⟨fv,cap,f,args,h1,h2,h3⟩:=hl.out
         refine ⟨fv,cap,f,args,h1,h2,⟨h3.out.mono fun e u' w' he=>?_⟩⟩
         cases e with
         | returned v=>exact ⟨he.1,vcRes_keep hag _ _ hk he.2⟩
         | panicked ch=>exact he
         | outgrown=>exact he)
        show Leaves P fn a'.tmps R a'.defers (.panicking ch) w'
        rw [hr'.defers]; exact this
       | exit id=>obtain ⟨_,_,_,hk⟩:=hq; exact hk.elim
       | goto l=>obtain ⟨_,_,_,hk⟩:=hq; exact hk.elim
       | outgrown=>exact hq.elim
      ·intro ch a w hd hz
       show Leaves P fn a.tmps R a.defers (.panicking ch) w
       rw [hd]; exact hz
   | _=>exact h.elim
  | _=>exact h.elim
 | succ k ih=>
  intro c ρ w a h hr
  cases c with
  | seq x y=>
   have h:vc D P fn.ntmps Z cal .leaf x (thenE (fun ρ w=>vcFn D P fn.ntmps Z cal fn.results Q an k y ρ w) fun _ _ _=>False) ρ w:=h
   refine wp_seq (wp_mono (vc_sound hD hm hcal .leaf x _ ρ w a h hr) fun e a' w' hf=>?_)
   cases e with
   | normal=>obtain ⟨ρ',hr',_,hk⟩:=hf; exact ih y ρ' w' a' hk hr'
   | ret=>obtain ⟨ρ',hr',_,hk⟩:=hf; exact hk.elim
   | exit id=>obtain ⟨ρ',hr',_,hk⟩:=hf; exact hk.elim
   | goto l=>obtain ⟨ρ',hr',_,hk⟩:=hf; exact hk.elim
   | panic ch=>
    obtain ⟨ρ',hr',_,hz⟩:=hf
    show Leaves P fn a'.tmps _ a'.defers (.panicking ch) w'
    rw [hr'.defers]; exact hz
   | outgrown=>exact hf.elim
  | _=>exact h.elim
theorem clDef {D:DrawRule} (hD:D.sound) {P:Program} {Z:PZ} {cal:List Nat} (hm:P.follows .mixedOrders=true) (hcal:∀g,memN g cal=true→Enters P g) {f:FuncId} {fn:Func} (hf:P.funcs[f]? = some fn) (k:Nat) (an:An) (args:List Value) (ho:okFn fn args.length=true)
  {w:World} {Q:PQ} {S:Prop} (hs:vcFn D P fn.ntmps Z cal fn.results Q an k (codeOf fn) (argEnv args) w=S) (h:S):CallV P Z f args.toArray w Q:=by
 cases hb:fn.body with
 | none=>rw [okFn,hb] at ho; cases ho
 | some c=>
  rw [okFn,hb] at ho
  have hc:codeOf fn=c:=by rw [codeOf,hb]
  rw [hc] at hs
  exact ⟨calls_of_wp_defers hf hb (vcFn_sound hD hm hcal k c _ w _ (hs.mpr h) (rel_args (Nat.le_of_ble_eq_true ho)))⟩
theorem clDn {D:DrawRule} (hD:D.sound) {P:Program} {Z:PZ} {cal:List Nat} (hm:P.follows .mixedOrders=true) (hcal:∀g,memN g cal=true→Enters P g) {f:FuncId} {fn:Func} (hf:P.funcs[f]? = some fn) (an:An) (args:List Value) (ho:okFn fn args.length=true)
  {u:FrameMode} {w:World} {Q:PQ} {S:Prop} (hs:vc D P fn.ntmps Z cal an (codeOf fn) (fnQ P fn.ntmps fn.results Q) (argEnv args) w=S) (h:S):CallD P Z f args.toArray u w fun u' w'=>u'=u∧∃v,Q v w':=by
 cases hb:fn.body with
 | none=>rw [okFn,hb] at ho; cases ho
 | some c=>
  rw [okFn,hb] at ho
  have hc:codeOf fn=c:=by rw [codeOf,hb]
  rw [hc] at hs
  exact callD_of_vc hD hf rfl rfl hb hm (Nat.le_of_ble_eq_true ho) hcal (hs.mpr h)
theorem r_leave {P:Program} {f:FuncId} {cap args:Array Value} {u:FrameMode} {w:World} {k:World→Prop} (he:Enters P f) {l:List Value} (hl:args++cap=l.toArray) (h:CallD P (fun _ _=>False) f l.toArray u w fun u' w'=>settle u'=.returning∧k w'):leaveV P ⟨.fn (.func f) cap,args⟩ u w k:=
 ⟨_,_,f,l.toArray,rfl,by rw [← hl]; exact he _ w,h⟩
theorem CallD.mono {P:Program} {Z:PZ} {f:FuncId} {args:Array Value} {u:FrameMode} {w:World} {k k':FrameMode→World→Prop} (h:CallD P Z f args u w k) (hk:∀u w,k u w→k' u w):CallD P Z f args u w k':=⟨h.out.mono fun e u' w' he=>by
 cases e with
 | returned v=>exact hk _ _ he
 | panicked ch=>exact he
 | outgrown=>exact he⟩

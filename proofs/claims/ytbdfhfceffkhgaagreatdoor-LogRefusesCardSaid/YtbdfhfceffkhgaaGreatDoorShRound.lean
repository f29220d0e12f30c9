/- Rounds of a loop over a function: the record in memory, yield, one round. Nothing of any one program stands here. -/
import Derived.Test.YtbdfhfceffkhgaaGreatDoorShRng
import Derived.Test.YtbdfhfceffkhgaaGreatDoorShOps
namespace Go.Sh
def obP (b:Nat) (x:Obj):HProp:=fun h=>h b=some x
section
variable {o w w':World} {As R:List HProp} {b:Nat} {x y:Obj}
theorem obP_on {h:Hp} {S:Nat→Prop} (hb:obP b x (h.on S)):obP b x h∧S b:=by
 unfold obP at *
 by_cases hs:S b
 ·rw [Hp.on_yes _ hs] at hb; exact ⟨hb,hs⟩
 ·rw [Hp.on_no _ hs] at hb; cases hb
theorem St.obj (h:St o w As) (hm:obP b x ∈ As):w.heap[b]? = some x:=by
 obtain ⟨S,hS⟩:=satH_mem hm h.sat
 exact (obP_on hS).1
theorem St.alloc_obj (h:St o w R) (x:Obj):St o (w.alloc x) (obP w.heap.size x::R):=by
 refine ⟨h.os,h.tape,h.output,Nat.le_trans h.size (show w.heap.size≤(w.heap.push _).size by simp),fun b=>b=w.heap.size,?_,?_⟩
 ·unfold obP
  rw [Hp.on_yes (S:=fun b=>b=w.heap.size) _ rfl,hp_alloc,if_pos rfl]
 ·have:(hp (w.alloc x)).on (fun b=>¬ b=w.heap.size)=hp w:=by
   funext b
   by_cases hb:b=w.heap.size
   ·rw [Hp.on_no _ (not_not_intro hb)]
    subst hb
    simp [hp]
   ·rw [Hp.on_yes _ hb,hp_alloc,if_neg hb]
  rw [this]; exact h.sat
theorem St.put_obj (h:St o w (obP b x::R)) (y:Obj):St o (w.putObj b y) (obP b y::R):=by
 have hb:=h.obj List.mem_cons_self
 have hlt:b < w.heap.size:=(Array.getElem?_eq_some_iff.1 hb).1
 obtain ⟨h1,h2,h3,h4,S,hA,hR⟩:=h
 have hS:S b:=(obP_on hA).2
 refine ⟨h1,h2,h3,by simpa using h4,S,?_,?_⟩
 ·unfold obP
  rw [Hp.on_yes _ hS]
  exact World.putObj_heap_same hlt
 ·have:(hp (w.putObj b y)).on (fun b=>¬ S b)=(hp w).on fun b=>¬ S b:=by
   funext k
   by_cases hk:S k
   ·rw [Hp.on_no _ (not_not_intro hk),Hp.on_no _ (not_not_intro hk)]
   ·rw [Hp.on_yes _ hk,Hp.on_yes _ hk]
    exact World.putObj_heap_other fun e=>hk (e ▸ hS)
  rw [this]; exact hR
end
abbrev yieldV (P:Program) (l:Nat) (args:List Value) (w:World) (k:PQ):Prop:=runY P (fun _ _=>False) (callVal (.func (.yield l) #[] #[]) args.toArray) w k
section
variable {P:Program} {n:Nat} {Z:PZ} {cal:List Nat} {o w w':World} {As R:List HProp}
theorem runY.mono {s:Sem Next} {k k':PQ} (h:runY P (fun _ _=>False) s w k) (hk:∀v w,k v w→k' v w):runY P Z s w k':=by
 refine ⟨?_⟩
 have h:=h.out
 unfold opVR at h ⊢
 split at h
 ·exact RoundIn.mono h fun e w' he=>by
   cases e with
   | returned v=>exact hk _ _ he
   | panicked ch=>exact he.elim
   | outgrown=>exact he.elim
 ·unfold opV at h ⊢
  split at h
  ·exact hk _ _ h
  ·exact hk _ _ h
  ·exact Calls.mono h fun e w' he=>by
    cases e with
    | returned v=>exact hk _ _ he
    | panicked ch=>exact he.elim
    | outgrown=>exact he.elim
  ·exact Rows.mono h fun v w' he=>hk _ _ he
  ·exact h.elim
  ·exact h.elim
abbrev putPs:List Nat→List Value→Env→Env
 | t::ts,v::vs,ρ=>putPs ts vs (upd ρ t v)
 | _,_,ρ=>ρ
theorem putPs_rel:∀(ps:List Nat) (vs:List Value) {tmps:Array Value} {ρ:Env},Rel [] n { tmps:=tmps,defers:=[] } ρ→Rel [] n { tmps:=(ps.zip vs).foldl (fun t (p:Nat × Value)=>t.setIfInBounds p.1 p.2) tmps,defers:=[] } (putPs ps vs ρ)
 | [],_,_,_,h=>h
 | _::_,[],_,_,h=>h
 | t::ts,v::vs,tmps,ρ,h=>by
  have h1:=h.put (some t) v
  exact putPs_rel ts vs (tmps:=tmps.setIfInBounds t v) h1
theorem foldl_zip (ps:Array Nat) (args:List Value) (tmps:Array Value):(ps.zip args.toArray).foldl (fun tmps (t,a)=>tmps.setIfInBounds t a) tmps=(ps.toList.zip args).foldl (fun t (p:Nat × Value)=>t.setIfInBounds p.1 p.2) tmps:=by
 rw [← Array.foldl_toList]
 simp
abbrev roundQ (l:Nat) (rc:LoopState→Option Code→Loop) (k:PQ):Exit→Env→World→Prop
 | .normal,_,w=>w.heap[l]? = some (.loop (rc .busy none))∧k (.bool true) (w.putObj l (.loop (rc .ready none)))
 | .ret,_,w=>w.heap[l]? = some (.loop (rc .busy none))∧k (.bool false) (w.putObj l (.loop (rc .done (some .ret))))
 | .exit id,_,w=>w.heap[l]? = some (.loop (rc .busy none))∧k (.bool false) (w.putObj l (.loop (rc .done (some (.exit id)))))
 | .goto t,_,w=>w.heap[l]? = some (.loop (rc .busy none))∧k (.bool false) (w.putObj l (.loop (rc .done (some (.goto t)))))
 | _,_,_=>False
abbrev roundV (P:Program) (n:Nat) (cal:List Nat) (an1 an2:An) (assign body:Code) (l:Nat) (rc:LoopState→Option Code→Loop) (k:PQ) (ρ:Env) (w:World):Prop:=
 vcR P n (fun _ _=>False) cal an1 assign (thenE (fun ρ' w'=>w'.heap[l]? = some (.loop (rc .ready none))∧vcR P n (fun _ _=>False) cal an2 body (roundQ l rc k) ρ' (w'.putObj l (.loop (rc .busy none)))) fun _ _ _=>False) ρ w
abbrev recOf (fn:FuncId) (tmps:Array Value) (ps:Array Nat) (assign body:Code) (D:Nat):LoopState→Option Code→Loop:=fun st pe=>{ state:=st,pending:=pe,fn,tmps,params:=ps,assign,body,defers:=D }
theorem roundV_sound {an1 an2:An} {fn:FuncId} {tmps:Array Value} {ps:Array Nat} {assign body:Code} {D l:Nat} {args:List Value} {k:PQ} {ρ:Env} (hm:P.follows .mixedOrders=true) (hcal:∀f,memN f cal=true→Enters P f)
  (hr:Rel [] n { tmps:=tmps,defers:=[] } ρ) (hl:w.heap[l]? = some (.loop (recOf fn tmps ps assign body D .ready none))) (hs:args.length=ps.size)
  (h:roundV P n cal an1 an2 assign body l (recOf fn tmps ps assign body D) k (putPs ps.toList args ρ) w):yieldV P l args w k:=by
 refine ⟨?_⟩
 have hrun:(callVal (.func (.yield l) #[] #[]) args.toArray).run P w=.ok (.round l fn ((ps.toList.zip args).foldl (fun t (p:Nat × Value)=>t.setIfInBounds p.1 p.2) tmps) assign body) w:=by
  have hy:=run_yield (P:=P) (args:=args.toArray) hl (by simpa using hs)
  rw [← foldl_zip]
  simp only [callVal,Deferred.ofValue,Sem.run_bind,Sem.run_pure,Result.andThen,invoke,Array.empty_append]
  exact hy
 rw [hrun]
 refine roundIn_of_wpIn trivial (wpIn_mono (vcR_sound (r:=some l) hm hcal an1 assign _ _ _ _ h (putPs_rel _ _ hr)) fun e a w1 hq=>?_)
 cases e with
 | normal=>
  obtain ⟨ρ1,hr1,_,hl1,hb⟩:=hq
  refine ⟨_,run_beginRound hl1 rfl,wpIn_mono (vcR_sound (r:=some l) hm hcal an2 body _ _ _ _ hb hr1) fun e a w2 hq=>?_⟩
  cases e with
  | normal=>obtain ⟨ρ2,_,_,hl2,hk⟩:=hq; exact ⟨_,_,run_endRound none hl2,hk⟩
  | ret=>obtain ⟨ρ2,_,_,hl2,hk⟩:=hq; exact ⟨_,_,run_endRound (some .ret) hl2,hk⟩
  | exit id=>obtain ⟨ρ2,_,_,hl2,hk⟩:=hq; exact ⟨_,_,run_endRound (some (.exit id)) hl2,hk⟩
  | goto t=>obtain ⟨ρ2,_,_,hl2,hk⟩:=hq; exact ⟨_,_,run_endRound (some (.goto t)) hl2,hk⟩
  | panic ch=>obtain ⟨_,_,_,hk⟩:=hq; exact hk.elim
  | outgrown=>exact hq.elim
 | ret=>obtain ⟨_,_,_,hk⟩:=hq; exact hk.elim
 | exit id=>obtain ⟨_,_,_,hk⟩:=hq; exact hk.elim
 | goto t=>obtain ⟨_,_,_,hk⟩:=hq; exact hk.elim
 | panic ch=>obtain ⟨_,_,_,hk⟩:=hq; exact hk.elim
 | outgrown=>exact hq.elim
end

/- Code in the rounds of a loop over a function; functions that such a loop ranges over (they call yield); the loop's statement. Nothing of any one program stands here. -/
import Derived.Test.YtcbbaiglcgemmaaGreatDoorShDraw
import Derived.OrdersIn
import Derived.RangeFuncRecord
namespace Go.Sh
variable {ds : List Deferred}
abbrev wideR (r : Option Nat) : Fence := { fn := fun _ => True, depth := none, alive := false, round := r }
def opVR (P : Program) (Z : List PanicEntry → World → Prop) (r : Result Next) (k : Value → World → Prop) : Prop :=
  match r with
  | .ok (.round l f tmps assign body) w => RoundIn Fence.wide 0 P l f tmps assign body w fun e w' => match e with
    | .returned v => k v w'
    | .panicked ch => Z ch w'
    | .outgrown => False
  | r => opV P Z r k
structure runY (P : Program) (Z : List PanicEntry → World → Prop) (s : Sem Next) (w : World) (k : Value → World → Prop) : Prop where
  out : opVR P Z (s.run P w) k
section
variable {P : Program} {n : Nat} {Z : List PanicEntry → World → Prop} {cal : List Nat}
end
section
variable {r : Option Nat} {P : Program} {ops : Array Oper} {Q : Exit → Act → World → Prop}
def wpAnyY (r : Option Nat) (P : Program) (ops : Array Oper) (Q : Exit → Act → World → Prop) : Nat → Array Bool → Gd → Act → World → Prop
  | 0, listed, G, a, w => gAll P G w ∧ Region.ready .any ops listed = [] ∧ Q .normal a w
  | fuel + 1, listed, G, a, w => gAll P G w ∧ (Region.ready .any ops listed = [] → Q .normal a w) ∧
    ∀ i ∈ Region.ready .any ops listed, wpOpIn (wideR r) 0 P ops Q i (wpAnyY r P ops Q fuel (listed.setIfInBounds i true) (dropG ops i G)) a w
theorem wpAnyY.all : ∀ {fuel : Nat} {listed : Array Bool} {G : Gd} {a : Act} {w : World}, wpAnyY r P ops Q fuel listed G a w → gAll P G w
  | 0, _, _, _, _, h => h.1
  | _ + 1, _, _, _, _, h => h.1
theorem wpAnyY.any : ∀ {fuel : Nat} {listed : Array Bool} {G : Gd} {a : Act} {w : World}, wpAnyY r P ops Q fuel listed G a w → wpAnyIn (wideR r) 0 P .any ops Q fuel listed a w
  | 0, _, _, _, _, h => h.2
  | _ + 1, _, _, _, _, h => ⟨h.2.1, fun i hi => wpOpIn_mono (fun _ _ hh => wpAnyY.any hh) (h.2.2 i hi)⟩
theorem wpAnyY.weaken : ∀ {fuel : Nat} {listed : Array Bool} {G G' : Gd} {a : Act} {w : World}, (∀ g, g ∈ G' → g ∈ G) → wpAnyY r P ops Q fuel listed G a w → wpAnyY r P ops Q fuel listed G' a w
  | 0, _, _, _, _, _, hs, h => ⟨fun g hg => h.1 g (hs g hg), h.2⟩
  | _ + 1, _, _, _, _, _, hs, h => ⟨fun g hg => h.1 g (hs g hg), h.2.1, fun i hi => wpOpIn_mono (fun _ _ hh => wpAnyY.weaken (dropG_sub hs) hh) (h.2.2 i hi)⟩
end
section
variable {r : Option Nat} {P : Program} {n : Nat} {Z : List PanicEntry → World → Prop} {cal : List Nat} {ops : Array Oper} {K : Env → World → Prop} {Q : Exit → Act → World → Prop} {ρ0 : Env}
end
section
variable {P : Program} {n : Nat} {Z : List PanicEntry → World → Prop} {cal : List Nat}
end
end Go.Sh

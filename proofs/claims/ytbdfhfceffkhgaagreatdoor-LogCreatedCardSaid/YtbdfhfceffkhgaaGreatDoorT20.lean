
/- Read. -/
import Derived.Test.YtbdfhfceffkhgaaGreatDoorT17
set_option linter.unusedVariables false
set_option linter.unusedSimpArgs false
namespace Go.Proofs.YtbdfhfceffkhgaaGreatDoor
open Go.Sh
open Tryz renaming prog → π
structure Hd where
  e:Int
  n:Int
  sv:Int
  bo:Int
  nu:Int
def Tx.hd (t:Tx):Hd:=⟨t.e,t.n,t.sv,t.bo,t.nu⟩
def hC (h:Hd):List Value:=zx h.e h.n++orC h.sv h.bo h.nu
def hcut:Nat→Hd→Hd
  | 0,h=>⟨0,0,0,0,0⟩
  | 1,h=>⟨h.e,0,0,0,0⟩
  | 2,h=>⟨h.e,h.n,0,0,0⟩
  | 3,h=>⟨h.e,h.n,h.sv,0,0⟩
  | 4,h=>⟨h.e,h.n,h.sv,h.bo,0⟩
  | _,h=>h
def hb (h:Hd):Nat→List UInt8
  | 0=>enc 4 h.e
  | 1=>enc 4 h.n
  | 2=>enc 1 h.sv
  | 3=>enc 4 h.bo
  | _=>enc 8 h.nu
def hpre (h:Hd):Nat→List UInt8
  | 0=>[]
  | i+1=>hpre h i++hb h i
def hokc (h:Hd):Nat→Prop
  | 0=>0≤h.e∧h.e≤4294967295
  | 1=>0≤h.n∧h.n≤4294967295
  | 2 => -128≤h.sv∧h.sv≤127
  | 3=>0≤h.bo∧h.bo≤4294967295
  | _ => -9223372036854775808≤h.nu∧h.nu≤9223372036854775807
def hok (h:Hd):Nat→Prop
  | 0=>True
  | i+1=>hok h i∧hokc h i
def okT (t:Tx):Prop:=hok t.hd 5∧okR false t.q
theorem lt5 {i:Nat} (h:i < 5):i=0∨i=1∨i=2∨i=3∨i=4:=by omega
theorem txB_pre (t:Tx):txB t=hpre t.hd 5++reqI false t.q:=rfl
theorem hpre_cut (i:Nat) (hi:i < 5) (h:Hd):hpre (hcut i h) i=hpre h i:=by
  obtain rfl | rfl | rfl | rfl | rfl:=lt5 hi <;> rfl
theorem hok_cut (i:Nat) (hi:i < 5) (h:Hd):hok (hcut i h) i=hok h i:=by
  obtain rfl | rfl | rfl | rfl | rfl:=lt5 hi <;> rfl
theorem hpre_add (h:Hd) (j:Nat):∀k,∃rest,hpre h (j+k)=hpre h j++rest
  | 0=>⟨[],by rw [List.append_nil]; rfl⟩
  | k+1=>by
    obtain ⟨rest,e⟩:=hpre_add h j k
    exact ⟨rest++hb h (j+k),by rw [← Nat.add_assoc,hpre,e,List.append_assoc]⟩
theorem hok_le {h:Hd} {i j:Nat} (hh:hok h j) (hi:i < j):hokc h i:=by
  induction j with
  | zero=>omega
  | succ j ih=>
    by_cases e:i=j
    · subst e; exact hh.2
    · exact ih hh.1 (by omega)
theorem hpiece {all:List UInt8} {i:Nat} {h:Hd} {y:Tx} (hi:i < 5) (hc:hcut i y.hd=h) (hh:Has all 0 (txB y)):Has all (hpre h i).length (hb y.hd i):=by
  have h1:=hh.left
  obtain ⟨rest,hr⟩:=hpre_add y.hd (i+1) (4 - i)
  have e:hpre y.hd (i+1)=hpre y.hd i++hb y.hd i:=rfl
  rw [show i+1+(4 - i)=5 by omega,e,List.append_assoc] at hr
  change Has all 0 (hpre y.hd 5) at h1
  rw [hr] at h1
  have h2:=h1.right.left
  rwa [← hpre_cut i hi,hc,Nat.zero_add] at h2
theorem hgood {all:List UInt8} {i:Nat} (hi:i < 5) {h h':Hd} (hcf:hcut i h'=h) (hk:hok h i) (hkc:hokc h' i) (hh:Has all 0 (hpre h i)) (hpc:Has all (hpre h i).length (hb h' i))
    (hu:∀y,okT y→Has all 0 (txB y)→hcut i y.hd=h) (hu2:∀y,okT y→hcut i y.hd=h→Has all (hpre h i).length (hb y.hd i)→hcut (i+1) y.hd=h') :
    hok h' (i+1)∧Has all 0 (hpre h' (i+1))∧(∀y,okT y→Has all 0 (txB y)→hcut (i+1) y.hd=h')∧(hpre h' (i+1)).length=(hpre h i).length+(hb h' i).length:=by
  have hp:hpre h' i=hpre h i:=by rw [← hpre_cut i hi h',hcf]
  refine ⟨⟨?_,hkc⟩,?_,fun y hy hhy=>hu2 y hy (hu y hy hhy) (hpiece hi (hu y hy hhy) hhy),?_⟩
  · rw [← hok_cut i hi h',hcf]; exact hk
  · rw [hpre,hp]; exact Has.split.2 ⟨hh,by rw [Nat.zero_add]; exact hpc⟩
  · rw [hpre,hp,List.length_append]
section
variable (Z:PZ) {o w:World} {R As:List HProp} {g g5:Nat} {B:Option Nat} {all:List UInt8}
def Hs (g g5:Nat) (B:Option Nat) (all:List UInt8) (o:World) (R:List HProp) (i:Nat) (w:World):Prop:=
  (∃h,hcut i h=h∧hok h i∧Has all 0 (hpre h i)∧(∀y,okT y→Has all 0 (txB y)→hcut i y.hd=h) ∧
    St o w (RdrAt g B all (hpre h i).length 0::blk g5 50 (hC h++rqC zf (.slice none 0 0) (.slice none 0 0) (.slice none 0 0) (.slice none 0 0))::R)) ∨
  ((∀y,okT y→¬ Has all 0 (txB y))∧∃off' e' xs,e' ≠ 0∧xs.length=16∧ones xs∧St o w (RdrAt g B all off' e'::blk g5 50 xs::R))
theorem hC_ones (h:Hd):ones (hC h++rqC zf (.slice none 0 0) (.slice none 0 0) (.slice none 0 0) (.slice none 0 0)):=by
  intro u hu
  simp only [hC,zx,orC,rqC,List.mem_append,List.mem_cons,List.not_mem_nil,or_false] at hu
  rcases hu with ((rfl | rfl) | rfl | rfl | rfl) | rfl | rfl | rfl | rfl | rfl | rfl | rfl | rfl | rfl | rfl | rfl <;> rfl
theorem hs0 {K:World→Prop} (hG:Hs g g5 B all o R 0 w) (hk:∀w',Hs g g5 B all o R (0+1) w'→K w') :
    CallV π Z 97 #[.pointer (some ⟨g,0,none⟩)] w fun t9 w=>rO π Z (Instr.storeAt 37 (.pointer (some ⟨g5,0,none⟩)) t9) w fun w=>K w:=by
  rcases hG with ⟨h,hcut,hok,hh,hu,hS⟩ | ⟨hno,off',e',xs,he',hxl,hxo,hS⟩
  · refine (gUint32 Z hS).mono fun r wA hq=>?_
    rcases hq with ⟨x,hx,_,hh2,hu2,rfl,hS⟩ | ⟨rfl,hnx,off',e',⟨he',_⟩,hS⟩
    · obtain ⟨a1,a2,a3,a4⟩:=hgood (i:=0) (by omega) (h:=h) (h':={ h with e:=x }) (by rw [← hcut]; rfl) hok hx hh hh2 hu (fun y hy hc hyp=>by
          have hv:=hu2 _ (hok_le hy.1 (show 0 < 5 by omega)) hyp
          have hv:y.hd.e=x:=hv
          subst hv
          rw [← hc]; rfl)
      refine r_store hS.swap one37 (by simp [hC,zx,orC,rqC]) rfl fun wB hS=>hk _ (.inl ⟨{ h with e:=x },by rw [← hcut]; rfl,a1,a2,a3,?_⟩)
      rw [a4]
      exact hS.swap
    · refine r_store hS.swap one37 (by simp [hC,zx,orC,rqC]) rfl fun wB hS=>hk _ (.inr ⟨fun y hy hhy=>?_,off',e',_,he',?_,?_,hS.swap⟩)
      · exact hnx _ (hok_le hy.1 (show 0 < 5 by omega)) ⟨rfl,hpiece (by omega) (hu y hy hhy) hhy⟩
      · simp [hC,zx,orC,rqC]
      · exact ones_set (hC_ones _) rfl
  · refine (gUint32 Z hS).mono fun r wA hq=>?_
    rcases hq with ⟨x,hx,h0,_⟩ | ⟨rfl,_,off2,e2,⟨he2,_⟩,hS⟩
    · exact absurd h0 he'
    · refine r_store hS.swap one37 (by rw [hxl]; omega) rfl fun wB hS=>hk _ (.inr ⟨hno,off2,e2,_,he2,by rw [List.length_set]; exact hxl,?_,hS.swap⟩)
      exact ones_set hxo rfl
theorem hs1 {K:World→Prop} (hG:Hs g g5 B all o R 1 w) (hk:∀w',Hs g g5 B all o R (1+1) w'→K w') :
    CallV π Z 97 #[.pointer (some ⟨g,0,none⟩)] w fun t9 w=>rO π Z (Instr.storeAt 37 (.pointer (some ⟨g5,1,none⟩)) t9) w fun w=>K w:=by
  rcases hG with ⟨h,hcut,hok,hh,hu,hS⟩ | ⟨hno,off',e',xs,he',hxl,hxo,hS⟩
  · refine (gUint32 Z hS).mono fun r wA hq=>?_
    rcases hq with ⟨x,hx,_,hh2,hu2,rfl,hS⟩ | ⟨rfl,hnx,off',e',⟨he',_⟩,hS⟩
    · obtain ⟨a1,a2,a3,a4⟩:=hgood (i:=1) (by omega) (h:=h) (h':={ h with n:=x }) (by rw [← hcut]; rfl) hok hx hh hh2 hu (fun y hy hc hyp=>by
          have hv:=hu2 _ (hok_le hy.1 (show 1 < 5 by omega)) hyp
          have hv:y.hd.n=x:=hv
          subst hv
          rw [← hc]; rfl)
      refine r_store hS.swap one37 (by simp [hC,zx,orC,rqC]) rfl fun wB hS=>hk _ (.inl ⟨{ h with n:=x },by rw [← hcut]; rfl,a1,a2,a3,?_⟩)
      rw [a4]
      exact hS.swap
    · refine r_store hS.swap one37 (by simp [hC,zx,orC,rqC]) rfl fun wB hS=>hk _ (.inr ⟨fun y hy hhy=>?_,off',e',_,he',?_,?_,hS.swap⟩)
      · exact hnx _ (hok_le hy.1 (show 1 < 5 by omega)) ⟨rfl,hpiece (by omega) (hu y hy hhy) hhy⟩
      · simp [hC,zx,orC,rqC]
      · exact ones_set (hC_ones _) rfl
  · refine (gUint32 Z hS).mono fun r wA hq=>?_
    rcases hq with ⟨x,hx,h0,_⟩ | ⟨rfl,_,off2,e2,⟨he2,_⟩,hS⟩
    · exact absurd h0 he'
    · refine r_store hS.swap one37 (by rw [hxl]; omega) rfl fun wB hS=>hk _ (.inr ⟨hno,off2,e2,_,he2,by rw [List.length_set]; exact hxl,?_,hS.swap⟩)
      exact ones_set hxo rfl
theorem hs2 {K:World→Prop} (hG:Hs g g5 B all o R 2 w) (hk:∀w',Hs g g5 B all o R (2+1) w'→K w') :
    CallV π Z 98 #[.pointer (some ⟨g,0,none⟩)] w fun t9 w=>rO π Z (Instr.storeAt 40 (.pointer (some ⟨g5,2,none⟩)) t9) w fun w=>K w:=by
  rcases hG with ⟨h,hcut,hok,hh,hu,hS⟩ | ⟨hno,off',e',xs,he',hxl,hxo,hS⟩
  · refine (gInt8 Z hS).mono fun r wA hq=>?_
    rcases hq with ⟨x,hx,_,hh2,hu2,rfl,hS⟩ | ⟨rfl,hnx,off',e',⟨he',_⟩,hS⟩
    · obtain ⟨a1,a2,a3,a4⟩:=hgood (i:=2) (by omega) (h:=h) (h':={ h with sv:=x }) (by rw [← hcut]; rfl) hok hx hh hh2 hu (fun y hy hc hyp=>by
          have hv:=hu2 _ (hok_le hy.1 (show 2 < 5 by omega)) hyp
          have hv:y.hd.sv=x:=hv
          subst hv
          rw [← hc]; rfl)
      refine r_store hS.swap one40 (by simp [hC,zx,orC,rqC]) rfl fun wB hS=>hk _ (.inl ⟨{ h with sv:=x },by rw [← hcut]; rfl,a1,a2,a3,?_⟩)
      rw [a4]
      exact hS.swap
    · refine r_store hS.swap one40 (by simp [hC,zx,orC,rqC]) rfl fun wB hS=>hk _ (.inr ⟨fun y hy hhy=>?_,off',e',_,he',?_,?_,hS.swap⟩)
      · exact hnx _ (hok_le hy.1 (show 2 < 5 by omega)) ⟨rfl,hpiece (by omega) (hu y hy hhy) hhy⟩
      · simp [hC,zx,orC,rqC]
      · exact ones_set (hC_ones _) rfl
  · refine (gInt8 Z hS).mono fun r wA hq=>?_
    rcases hq with ⟨x,hx,h0,_⟩ | ⟨rfl,_,off2,e2,⟨he2,_⟩,hS⟩
    · exact absurd h0 he'
    · refine r_store hS.swap one40 (by rw [hxl]; omega) rfl fun wB hS=>hk _ (.inr ⟨hno,off2,e2,_,he2,by rw [List.length_set]; exact hxl,?_,hS.swap⟩)
      exact ones_set hxo rfl
theorem hs3 {K:World→Prop} (hG:Hs g g5 B all o R 3 w) (hk:∀w',Hs g g5 B all o R (3+1) w'→K w') :
    CallV π Z 97 #[.pointer (some ⟨g,0,none⟩)] w fun t9 w=>rO π Z (Instr.storeAt 37 (.pointer (some ⟨g5,3,none⟩)) t9) w fun w=>K w:=by
  rcases hG with ⟨h,hcut,hok,hh,hu,hS⟩ | ⟨hno,off',e',xs,he',hxl,hxo,hS⟩
  · refine (gUint32 Z hS).mono fun r wA hq=>?_
    rcases hq with ⟨x,hx,_,hh2,hu2,rfl,hS⟩ | ⟨rfl,hnx,off',e',⟨he',_⟩,hS⟩
    · obtain ⟨a1,a2,a3,a4⟩:=hgood (i:=3) (by omega) (h:=h) (h':={ h with bo:=x }) (by rw [← hcut]; rfl) hok hx hh hh2 hu (fun y hy hc hyp=>by
          have hv:=hu2 _ (hok_le hy.1 (show 3 < 5 by omega)) hyp
          have hv:y.hd.bo=x:=hv
          subst hv
          rw [← hc]; rfl)
      refine r_store hS.swap one37 (by simp [hC,zx,orC,rqC]) rfl fun wB hS=>hk _ (.inl ⟨{ h with bo:=x },by rw [← hcut]; rfl,a1,a2,a3,?_⟩)
      rw [a4]
      exact hS.swap
    · refine r_store hS.swap one37 (by simp [hC,zx,orC,rqC]) rfl fun wB hS=>hk _ (.inr ⟨fun y hy hhy=>?_,off',e',_,he',?_,?_,hS.swap⟩)
      · exact hnx _ (hok_le hy.1 (show 3 < 5 by omega)) ⟨rfl,hpiece (by omega) (hu y hy hhy) hhy⟩
      · simp [hC,zx,orC,rqC]
      · exact ones_set (hC_ones _) rfl
  · refine (gUint32 Z hS).mono fun r wA hq=>?_
    rcases hq with ⟨x,hx,h0,_⟩ | ⟨rfl,_,off2,e2,⟨he2,_⟩,hS⟩
    · exact absurd h0 he'
    · refine r_store hS.swap one37 (by rw [hxl]; omega) rfl fun wB hS=>hk _ (.inr ⟨hno,off2,e2,_,he2,by rw [List.length_set]; exact hxl,?_,hS.swap⟩)
      exact ones_set hxo rfl
theorem hs4 {K:World→Prop} (hG:Hs g g5 B all o R 4 w) (hk:∀w',Hs g g5 B all o R (4+1) w'→K w') :
    CallV π Z 99 #[.pointer (some ⟨g,0,none⟩)] w fun t9 w=>rO π Z (Instr.storeAt 2 (.pointer (some ⟨g5,4,none⟩)) t9) w fun w=>K w:=by
  rcases hG with ⟨h,hcut,hok,hh,hu,hS⟩ | ⟨hno,off',e',xs,he',hxl,hxo,hS⟩
  · refine (gInt64 Z hS).mono fun r wA hq=>?_
    rcases hq with ⟨x,hx,_,hh2,hu2,rfl,hS⟩ | ⟨rfl,hnx,off',e',⟨he',_⟩,hS⟩
    · obtain ⟨a1,a2,a3,a4⟩:=hgood (i:=4) (by omega) (h:=h) (h':={ h with nu:=x }) (by rw [← hcut]; rfl) hok hx hh hh2 hu (fun y hy hc hyp=>by
          have hv:=hu2 _ (hok_le hy.1 (show 4 < 5 by omega)) hyp
          have hv:y.hd.nu=x:=hv
          subst hv
          rw [← hc]; rfl)
      refine r_store hS.swap one2 (by simp [hC,zx,orC,rqC]) rfl fun wB hS=>hk _ (.inl ⟨{ h with nu:=x },by rw [← hcut]; rfl,a1,a2,a3,?_⟩)
      rw [a4]
      exact hS.swap
    · refine r_store hS.swap one2 (by simp [hC,zx,orC,rqC]) rfl fun wB hS=>hk _ (.inr ⟨fun y hy hhy=>?_,off',e',_,he',?_,?_,hS.swap⟩)
      · exact hnx _ (hok_le hy.1 (show 4 < 5 by omega)) ⟨rfl,hpiece (by omega) (hu y hy hhy) hhy⟩
      · simp [hC,zx,orC,rqC]
      · exact ones_set (hC_ones _) rfl
  · refine (gInt64 Z hS).mono fun r wA hq=>?_
    rcases hq with ⟨x,hx,h0,_⟩ | ⟨rfl,_,off2,e2,⟨he2,_⟩,hS⟩
    · exact absurd h0 he'
    · refine r_store hS.swap one2 (by rw [hxl]; omega) rfl fun wB hS=>hk _ (.inr ⟨hno,off2,e2,_,he2,by rw [List.length_set]; exact hxl,?_,hS.swap⟩)
      exact ones_set hxo rfl
theorem getI (hN:Names o) (ho:old o ∈ R) (hall:all.length≤140737488355328) {off:Nat} {err:Int} (h:St o w (RdrAt g B all off err::R)) :
    CallV π Z 100 #[.agg #[.bool true],.pointer (some ⟨g,0,none⟩)] w fun r w'=>GetsE (reqI true) (okR true) keyQ Rq.cells OwQ 11 g B all off err o R r w':=
  getG Z true hN ho hall (fun _ _ _ _ _ _ hi=>by cases hi) h
theorem getO (hN:Names o) (ho:old o ∈ R) (hall:all.length≤140737488355328) {off:Nat} {err:Int} (h:St o w (RdrAt g B all off err::R)) :
    CallV π Z 100 #[.agg #[.bool false],.pointer (some ⟨g,0,none⟩)] w fun r w'=>GetsE (reqI false) (okR false) keyQ Rq.cells OwQ 11 g B all off err o R r w':=
  getG Z false hN ho hall (fun w R' off' err' ho' hS _=>gLRq Z (reqI true) (okR true) keyQ Rq.cells OwQ 8 (by omega) _ [.agg #[.bool true]] en100 (reqI_pos true) (fun x y=>keyQ_bytes x y) hall ho' (fun w R' off ho' hS=>getI Z hN ho' hall hS) hS) h
theorem isOp_key {x y:Rq} (hx:x.ops=[]) (hy:y.ops=[]) (h:x.f=y.f):isOp x=isOp y:=by
  unfold isOp
  rw [hx,hy,h]
theorem chk_key {x y:Rq} (hx:okR false x) (hy:okR false y) (h:keyQ x=keyQ y):chkQ x=chkQ y:=by
  have h1:x.f=y.f:=congrArg Prod.fst h
  have h2:x.ops.map Rq.f=y.ops.map Rq.f:=congrArg Prod.snd h
  have hl:x.ops.length=y.ops.length:=by have:=congrArg List.length h2; simpa using this
  have hox:∀q,okR false q→∀z ∈ q.ops,z.ops=[]:=by
    intro q hq z hz
    have h3:=hq.2
    by_cases hb:bi false q.f 8=true
    · rw [if_pos hb] at h3; exact (h3.2 z hz).2
    · rw [if_neg hb] at h3; rw [h3] at hz; cases hz
  have key:∀(l m:List Rq),(∀z ∈ l,z.ops=[])→(∀z ∈ m,z.ops=[])→l.map Rq.f=m.map Rq.f→l.all isOp=m.all isOp:=by
    intro l
    induction l with
    | nil=>intro m _ _ h; cases m with
      | nil=>rfl
      | cons _ _=>simp at h
    | cons z l ih=>
      intro m hl hm h
      cases m with
      | nil=>simp at h
      | cons z' m=>
        simp only [List.map_cons,List.cons.injEq] at h
        rw [List.all_cons,List.all_cons,ih m (fun z hz=>hl z (List.mem_cons_of_mem _ hz)) (fun z hz=>hm z (List.mem_cons_of_mem _ hz)) h.2,isOp_key (hl z List.mem_cons_self) (hm z' List.mem_cons_self) h.1]
  unfold chkQ
  rw [h1,hl,key _ _ (hox x hx) (hox y hy) h2]
theorem chkT_key {x y:Tx} (hx:okT x) (hy:okT y) (h:x.hd=y.hd) (hk:keyQ x.q=keyQ y.q):chkT x=chkT y:=by
  have h1:x.e=y.e:=congrArg Hd.e h
  have h2:x.n=y.n:=congrArg Hd.n h
  have h3:x.sv=y.sv:=congrArg Hd.sv h
  have h4:x.nu=y.nu:=congrArg Hd.nu h
  have h5:x.q.f=y.q.f:=congrArg Prod.fst hk
  unfold chkT
  rw [h1,h2,h3,h4,h5,chk_key hx.2 hy.2 hk]
def zTx:List Value:=hC ⟨0,0,0,0,0⟩++rqC zf (.slice none 0 0) (.slice none 0 0) (.slice none 0 0) (.slice none 0 0)
theorem readC {x:Value} {n:Nat} {l:List UInt8} (hN:Names o) (ho:old o ∈ R) (hx:Ent o R fun w=>Rd w 1 x n (cb l)) (hl:l.length≤140737488355328) (h:St o w R) :
    CallV π Z 74 #[x] w fun r w'=>
      (∃t,okT t∧chkT t=true∧l=txB t∧(∀y,okT y→Has l 0 (txB y)→y.hd=t.hd∧keyQ y.q=keyQ t.q)∧r=.tuple #[.agg t.cells.toArray,.int .i64 0]∧St o w' (OwQ t.q::R)) ∨
      ((∀y,okT y→chkT y=true→l ≠ txB y)∧r=.tuple #[.agg zTx.toArray,.int .i64 40]∧St o w' R):=by
  refine f74.calls ?_
  unfold f74.sh
  refine r_alloc h ze50 fun g2 w1 hS=>?_
  have hS:St o w1 (blk g2 50 zTx::R):=hS
  refine (rNew Z hS (fun w hw=>hx w hw.drop) hl).mono fun r w2 ⟨g,B,hr,hS⟩=>?_
  subst hr
  refine r_alloc hS ze50 fun g5 w3 hS=>?_
  have hS:St o w3 (blk g5 50 zTx::RdrAt g B l 0 0::blk g2 50 zTx::R):=hS
  have hG:Hs g g5 B l o (blk g2 50 zTx::R) 0 w3:=.inl ⟨⟨0,0,0,0,0⟩,rfl,trivial,⟨_,rfl⟩,fun y _ _=>rfl,hS.swap⟩
  have ho':old o ∈ (blk g5 50 zTx::blk g2 50 zTx::R):=List.mem_cons_of_mem _ (List.mem_cons_of_mem _ ho)
  clear hS
  have fail:∀(w:World) (As:List HProp) (Q:PQ),St o w (blk g2 50 zTx::As)→(∀w',St o w' As→Q (.agg zTx.toArray) w') →
      rN π Z (Instr.build 50 #[]) w fun t40 w=>rO π Z (Instr.storeAt 50 (.pointer (some ⟨g2,0,none⟩)) t40) w fun w=>
        ∃r,(do loadVar 50 (← asAddr (.pointer (some ⟨g2,0,none⟩))):Sem Value).run π w=.ok r w∧Q r w:=by
    intro w As Q hS hQ
    refine r_build (cells:=zTx.toArray) (by kernel_rfl) ?_
    refine r_storeN hS ag50 (xs:=zTx) rfl (show 0+16≤16 from Nat.le_refl _) (hC_ones _) fun w2 hS=>?_
    rw [setL_all _ _ (by rfl)] at hS
    exact r_resN ag50 (xs:=zTx) rfl (hS.cells_at m0 0 (whole_at _)) (hQ _ hS.drop)
  have nope:∀y:Tx,l=txB y→Has l 0 (txB y):=fun y e=>⟨[],by rw [List.append_nil]; exact e⟩
  (try simp only [fa_50_2,Nat.zero_add,fa_50_1,fa_42_2,fa_42_1,fa_42_0,Nat.add_zero,fa_50_0,fa_39_1,fa_39_0])
  refine hs0 Z hG fun w4 hG=>?_
  refine hs1 Z hG fun w4 hG=>?_
  refine hs2 Z hG fun w4 hG=>?_
  refine hs3 Z hG fun w4 hG=>?_
  refine hs4 Z hG fun w4 hG=>?_
  refine r_build (cells:=#[.bool false]) (by kernel_rfl) ?_
  rcases hG with ⟨h,hcut,hok,hh,hu,hS⟩ | ⟨hno,off',e',xs,he',hxl,hxo,hS⟩
  · refine (getO Z hN (List.mem_cons_of_mem _ (List.mem_cons_of_mem _ ho)) hl hS).mono fun r w5 hq=>?_
    rcases hq with ⟨q,hqk,_,hh2,hu2,rfl,_,hon,hS⟩ | ⟨⟨xs,rfl,hxl,hxo⟩,hno,off',e',he',hS⟩
    · refine r_storeN (hS.pick 2) ag48 (xs:=q.cells) rfl (show 5+11≤16 from Nat.le_refl _) hon fun w6 hS=>?_
      have hS:St o w6 (blk g5 50 (Tx.cells ⟨h.e,h.n,h.sv,h.bo,h.nu,q⟩)::RdrAt g B l ((hpre h 5).length+(reqI false q).length) 0::OwQ q::blk g2 50 zTx::R):=hS
      generalize ht:(⟨h.e,h.n,h.sv,h.bo,h.nu,q⟩:Tx)=t at hS
      have hth:t.hd=h:=by subst ht; rfl
      have htq:t.q=q:=by subst ht; rfl
      have htk:okT t:=⟨by rw [hth]; exact hok,by rw [htq]; exact hqk⟩
      have hhas:Has l 0 (txB t):=by
        rw [txB_pre,hth,htq]
        exact Has.split.2 ⟨hh,by rw [Nat.zero_add]; exact hh2⟩
      have huniq:∀y,okT y→Has l 0 (txB y)→y.hd=t.hd∧keyQ y.q=keyQ t.q:=by
        intro y hy hhy
        have h1:y.hd=h:=hu y hy hhy
        rw [txB_pre,h1] at hhy
        have h2:=hhy.right
        rw [Nat.zero_add] at h2
        exact ⟨by rw [h1,hth],by rw [htq]; exact hu2 _ hy.2 h2⟩
      have hlen:(hpre h 5).length+(reqI false q).length=(txB t).length:=by rw [txB_pre,hth,htq,List.length_append]
      rw [hlen] at hS
      refine (rEnd Z hS.swap).mono fun r w7 ⟨hr,hw⟩=>?_
      subst hr; subst hw
      refine r1 (run_neq_int _ _ _ _ _ _ _ _) ?_
      by_cases hmore:(txB t).length < l.length
      · rw [if_pos ⟨rfl,hmore⟩]
        (try simp only [Int.reduceBNe,o_pickT,condT,guardW_tf])
        refine fail _ _ _ ((hS.pick 3)) fun w8 hS=>?_
        refine Or.inr ⟨fun y hy _ e=>?_,rfl,hS.drop.drop.drop⟩
        obtain ⟨h1,h2⟩:=huniq y hy (nope y e)
        have h3:txB y=txB t:=by rw [txB_pre,txB_pre,h1,keyQ_bytes _ _ h2]
        rw [e,h3] at hmore
        omega
      · rw [if_neg (fun hc=>hmore hc.2)]
        have hall:l=txB t:=by
          obtain ⟨rest,hr⟩:=hhas
          rw [List.drop_zero] at hr
          have hl2:=congrArg List.length hr
          rw [List.length_append] at hl2
          have:rest=[]:=List.eq_nil_of_length_eq_zero (by omega)
          rw [hr,this,List.append_nil]
        (try simp only [bne_self_eq_false,o_pickF,guardW_ff])
        refine r_loadN ag50 (xs:=t.cells) rfl (hS.cells_at m0 0 (whole_at _)) ?_
        have hent:Ent o (blk g5 50 t.cells::RdrAt g B l (txB t).length 0::OwQ q::blk g2 50 zTx::R) fun w=>RdQ w t.q:=fun w hw=>by rw [htq]; exact OwQ.rd q (hw.pick 2)
        refine (chkTx Z t hN (List.mem_cons_of_mem _ (List.mem_cons_of_mem _ (List.mem_cons_of_mem _ (List.mem_cons_of_mem _ ho)))) hent hS).mono fun r w8 ⟨hr,hS⟩=>?_
        subst hr
        refine r1 (run_neq_int _ _ _ _ _ _ _ _) ?_
        cases hc:chkT t with
        | false=>
          simp only [Bool.false_eq_true,if_false]
          (try simp only [Int.reduceBNe,condT])
          refine fail _ _ _ ((hS.pick 3)) fun w9 hS=>?_
          refine Or.inr ⟨fun y hy hyc e=>?_,rfl,hS.drop.drop.drop⟩
          obtain ⟨h1,h2⟩:=huniq y hy (nope y e)
          rw [chkT_key hy htk h1 h2,hc] at hyc
          cases hyc
        | true=>
          simp only [if_true]
          (try simp only [bne_self_eq_false,condF])
          have hones:ones t.cells:=by
            intro u hu
            have hu:u ∈ zx t.e t.n++(orC t.sv t.bo t.nu++t.q.cells):=hu
            rcases List.mem_append.1 hu with hu | hu
            · exact zx_ones _ _ u hu
            · rcases List.mem_append.1 hu with hu | hu
              · simp only [orC,List.mem_cons,List.not_mem_nil,or_false] at hu
                rcases hu with rfl | rfl | rfl <;> rfl
              · rw [htq] at hu; exact hon u hu
          refine r_loadN ag50 (xs:=t.cells) rfl (hS.cells_at m0 0 (whole_at _)) ?_
          refine r_storeN (hS.pick 3) ag50 (xs:=t.cells) rfl (show 0+16≤16 from Nat.le_refl _) hones fun w9 hS=>?_
          rw [setL_all _ _ (by rfl)] at hS
          refine r_resN ag50 (xs:=t.cells) rfl (hS.cells_at m0 0 (whole_at _)) ?_
          refine .inl ⟨t,htk,hc,hall,huniq,rfl,?_⟩
          rw [htq]
          exact hS.drop.drop.drop
    · refine r_storeN (hS.pick 1) ag48 (xs:=xs) hxl (show 5+11≤16 from Nat.le_refl _) hxo fun w6 hS=>?_
      refine (rEnd Z hS.swap).mono fun r w7 ⟨hr,hw⟩=>?_
      subst hr; subst hw
      rw [if_neg (fun hc=>he' hc.1)]
      refine r1 (run_neq_int _ _ _ _ _ _ _ _) ?_
      rw [show (e' != 0)=true by simpa using he']
      (try simp only [o_pickT,condT,guardW_tf])
      refine fail _ _ _ ((hS.pick 2)) fun w8 hS=>?_
      refine Or.inr ⟨fun y hy _ e=>?_,rfl,hS.drop.drop⟩
      have hhy:=nope y e
      have h1:y.hd=h:=hu y hy hhy
      rw [txB_pre,h1] at hhy
      have h2:=hhy.right
      rw [Nat.zero_add] at h2
      exact hno _ hy.2 ⟨rfl,h2⟩
  · refine (getO Z hN (List.mem_cons_of_mem _ (List.mem_cons_of_mem _ ho)) hl hS).mono fun r w5 hq=>?_
    rcases hq with ⟨q,_,h0,_⟩ | ⟨⟨ys,rfl,hyl,hyo⟩,_,off2,e2,he2,hS⟩
    · exact absurd h0 he'
    · refine r_storeN (hS.pick 1) ag48 (xs:=ys) hyl (show 5+11≤xs.length by omega) hyo fun w6 hS=>?_
      refine (rEnd Z hS.swap).mono fun r w7 ⟨hr,hw⟩=>?_
      subst hr; subst hw
      rw [if_neg (fun hc=>he2 hc.1)]
      refine r1 (run_neq_int _ _ _ _ _ _ _ _) ?_
      rw [show (e2 != 0)=true by simpa using he2]
      (try simp only [o_pickT,condT,guardW_tf])
      refine fail _ _ _ ((hS.pick 2)) fun w8 hS=>?_
      refine Or.inr ⟨fun y hy _ e=>hno y hy (nope y e),rfl,hS.drop.drop⟩
end
end Go.Proofs.YtbdfhfceffkhgaaGreatDoor


/- EqTxn; works: one transaction there and back. -/
set_option linter.unusedVariables false
set_option linter.unusedSimpArgs false
namespace Go.Proofs.YtbdfhfceffkhgaaGreatDoor
open Go.Sh
open Tryz renaming prog → π
theorem txC_ones {t:Tx} (h:ones t.q.cells):ones t.cells:=by
  intro u hu
  have hu:u ∈ zx t.e t.n++(orC t.sv t.bo t.nu++t.q.cells):=hu
  rcases List.mem_append.1 hu with hu | hu
  · exact zx_ones _ _ u hu
  · rcases List.mem_append.1 hu with hu | hu
    · simp only [orC,List.mem_cons,List.not_mem_nil,or_false] at hu
      rcases hu with rfl | rfl | rfl <;> rfl
    · exact h u hu
theorem zx_at (t:Tx):∀j v,(zx t.e t.n)[j]? = some v→t.cells[0+j]? = some v:=by
  rintro (_ | _ | j) v hv
  · exact hv
  · exact hv
  · simp [zx] at hv
theorem or_at (t:Tx):∀j v,(orC t.sv t.bo t.nu)[j]? = some v→t.cells[2+j]? = some v:=by
  rintro (_ | _ | _ | j) v hv
  · exact hv
  · exact hv
  · exact hv
  · simp [orC] at hv
theorem rq_at (t:Tx):∀j v,t.q.cells[j]? = some v→t.cells[5+j]? = some v:=fun j v hv=>by rw [Nat.add_comm]; exact hv
def q0:Rq:=.mk ⟨2,[47,97],[],[],-1,false,false,0,0,[]⟩ (.slice none 0 0) (.slice none 0 0) (.slice none 0 0) (.slice none 0 0) []
theorem rd0 (w:World) (sz:Nat):Rd w sz (.slice none 0 0) 0 []:=⟨by simp,by simp [maxLen],.inl ⟨0,rfl,rfl⟩⟩
section
variable (Z:PZ) {o w:World} {R As:List HProp}
theorem eqT (a c:Tx) (hx:Ent o R fun w=>RdQ w a.q) (hy:Ent o R fun w=>RdQ w c.q) (h:St o w R) :
    CallV π Z 48 #[.agg a.cells.toArray,.agg c.cells.toArray] w fun r w'=>(∃b,r=.bool b∧(b=true ↔ a.hd=c.hd∧a.q.st=c.q.st))∧St o w' R:=by
  refine f48.calls ?_
  unfold f48.sh
  refine r_box _ _ h fun g1 w1 hS=>?_
  refine r_box _ _ hS fun g2 w2 hS=>?_
  have hS:St o w2 (blk g2 50 c.cells::blk g1 50 a.cells::R):=hS
  have bad:∀{w':World},¬ (a.hd=c.hd∧a.q.st=c.q.st)→St o w' (blk g2 50 c.cells::blk g1 50 a.cells::R)→((∃b,Value.bool false=.bool b∧(b=true ↔ a.hd=c.hd∧a.q.st=c.q.st))∧St o w' R):=
    fun hne hS=>⟨⟨_,rfl,⟨fun h=>(by cases h),fun e=>absurd e hne⟩⟩,hS.drop.drop⟩
  (try simp only [fa_50_1,Nat.zero_add,fa_50_2,fa_50_0,Nat.add_zero])
  refine r_loadN ag39 (xs:=zx a.e a.n) rfl (hS.cells_at m1 0 (zx_at a)) ?_
  refine r_loadN ag39 (xs:=zx c.e c.n) rfl (hS.cells_at m0 0 (zx_at c)) ?_
  refine r1 (eqZx a.e a.n c.e c.n _) ?_
  by_cases hz:a.e=c.e∧a.n=c.n
  case neg=>
    have e:((a.e == c.e) && (a.n == c.n))=false:=by
      by_cases h1:a.e=c.e <;> by_cases h2:a.n=c.n <;> simp [h1,h2]
      exact hz ⟨h1,h2⟩
    rw [e]
    (try simp only [o_pickF,guardW_ft])
    exact bad (fun h=>hz ⟨congrArg Hd.e h.1,congrArg Hd.n h.1⟩) hS
  have e:((a.e == c.e) && (a.n == c.n))=true:=by simp [hz.1,hz.2]
  rw [e]
  (try simp only [o_pickT,guardW_true])
  refine r_loadN ag42 (xs:=orC a.sv a.bo a.nu) rfl (hS.cells_at m1 2 (or_at a)) ?_
  refine r_loadN ag42 (xs:=orC c.sv c.bo c.nu) rfl (hS.cells_at m0 2 (or_at c)) ?_
  refine r1 (eqOr a.sv a.bo a.nu c.sv c.bo c.nu _) ?_
  by_cases ho:a.sv=c.sv∧a.bo=c.bo∧a.nu=c.nu
  case neg=>
    rw [decide_eq_false ho]
    (try simp only [o_pickF,guardW_ft])
    exact bad (fun h=>ho ⟨congrArg Hd.sv h.1,congrArg Hd.bo h.1,congrArg Hd.nu h.1⟩) hS
  rw [decide_eq_true ho]
  (try simp only [o_pickT,guardW_true])
  refine r_loadN ag48 (xs:=a.q.cells) rfl (hS.cells_at m1 5 (rq_at a)) ?_
  refine r_loadN ag48 (xs:=c.q.cells) rfl (hS.cells_at m0 5 (rq_at c)) ?_
  refine (eqQ Z a.q c.q (fun w hw=>hx w hw.drop.drop) (fun w hw=>hy w hw.drop.drop) hS).mono fun r w3 ⟨⟨b,hr,hb⟩,hS⟩=>?_
  subst hr
  skip
  refine ⟨⟨b,rfl,hb.trans ⟨fun h=>⟨?_,h⟩,fun h=>h.2⟩⟩,hS.drop.drop⟩
  show (⟨a.e,a.n,a.sv,a.bo,a.nu⟩:Hd)=⟨c.e,c.n,c.sv,c.bo,c.nu⟩
  rw [hz.1,hz.2,ho.1,ho.2.1,ho.2.2]
end
end Go.Proofs.YtbdfhfceffkhgaaGreatDoor


/- TxnNumbers, TxnPacked: the walks. -/
set_option linter.unusedVariables false
set_option linter.unusedSimpArgs false
namespace Go.Proofs.YtbdfhfceffkhgaaGreatDoor
open Go.Sh
open Tryz renaming prog → π
def ZxO (w:World) (cs:List Value):Prop:=∃e n,cs=zx e n∧u32r e∧u32r n
theorem opn_ZxO (w:World):Opn π w 39 (ZxO w):=(opn_struct Tryz.underlying39 [(1,fun cs=>∃n,cs=[.int .u32 n]∧u32r n),(1,fun cs=>∃n,cs=[.int .u32 n]∧u32r n)] (by kernel_rfl) (by kernel_rfl)
  ⟨by kernel_rfl,(opn_int Tryz.underlying37).mono fun cs ⟨n,h,a,b⟩=>⟨n,h,a,b⟩,by kernel_rfl,(opn_int Tryz.underlying37).mono fun cs ⟨n,h,a,b⟩=>⟨n,h,a,b⟩,trivial⟩).mono fun cs ⟨c,d,h,_,⟨e,h1,he⟩,c2,d2,h2,_,⟨n,h3,hn⟩,h4⟩=>⟨e,n,by subst h; subst h1; subst h2; subst h3; simp only [Cut] at h4; subst h4; rfl,he,hn⟩
section
variable (Z:PZ) {o w:World} {R As:List HProp}
theorem cmpZ_pack {e n e' n':Int} (hn:u32r n) (hn':u32r n'):(decide (e * 4294967296+n < e' * 4294967296+n') == decide (cmpZ e n e' n' < 0))=true∧((e * 4294967296+n == e' * 4294967296+n') == (cmpZ e n e' n' == 0))=true∧cmpZ e n e' n' = -cmpZ e' n' e n∧(-1≤cmpZ e n e' n'∧cmpZ e n e' n'≤1):=by
  unfold u32r at hn hn'
  have key:(cmpZ e n e' n' = -1∧cmpZ e' n' e n=1∧e * 4294967296+n < e' * 4294967296+n')∨(cmpZ e n e' n'=1∧cmpZ e' n' e n = -1∧e' * 4294967296+n' < e * 4294967296+n)∨(cmpZ e n e' n'=0∧cmpZ e' n' e n=0∧e * 4294967296+n=e' * 4294967296+n'):=by
    unfold cmpZ cmpI
    split <;> split <;> (try split) <;> (try split) <;> (try split) <;> (try split) <;> (try split) <;> (try split) <;> (try split) <;> omega
  rcases key with ⟨h1,h2,h3⟩ | ⟨h1,h2,h3⟩ | ⟨h1,h2,h3⟩
  · refine ⟨?_,?_,by rw [h1,h2],by omega⟩
    · rw [h1,decide_eq_true h3]; rfl
    · rw [h1,beq_eq_false_iff_ne.2 (show e * 4294967296+n ≠ e' * 4294967296+n' by omega)]; rfl
  · refine ⟨?_,?_,by rw [h1,h2]; rfl,by omega⟩
    · rw [h1,decide_eq_false (show ¬ e * 4294967296+n < e' * 4294967296+n' by omega)]; rfl
    · rw [h1,beq_eq_false_iff_ne.2 (show e * 4294967296+n ≠ e' * 4294967296+n' by omega)]; rfl
  · refine ⟨?_,?_,by rw [h1,h2]; rfl,by omega⟩
    · rw [h1,decide_eq_false (show ¬ e * 4294967296+n < e' * 4294967296+n' by omega)]; rfl
    · rw [h1,h3]; simp
end

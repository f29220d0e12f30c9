import Derived.Test.YtfijkedmbaghmaaGreatDoorV6
import Derived.Test.YtfijkedmbaghmaaGreatDoorT30
import Derived.Test.YtfijkedmbaghmaaGreatDoorU1
import Derived.Test.YtfijkedmbaghmaaGreatDoorG2
/- The document's Read. -/
set_option linter.unusedVariables false
set_option linter.unusedSimpArgs false
namespace Go.Proofs.YtfijkedmbaghmaaGreatDoor
open Go.Sh
open Tryz renaming prog → π
def Hq (g g5:Nat) (all:List UInt8) (o:World) (R:List HProp) (i:Nat) (w:World):Prop:=
  (∃h,hcut i h=h∧hok h i∧Has all 0 (hpre h i)∧(∀y,okT y→Has all 0 (txB y)→hcut i y.hd=h) ∧
    St o w (RefR g all (hpre h i).length 0::blk g5 37 (hC h++rqC zf (.slice none 0 0) (.slice none 0 0) (.slice none 0 0) (.slice none 0 0))::R)) ∨
  ((∀y,okT y→¬ Has all 0 (txB y))∧∃off' e' xs,e' ≠ 0∧xs.length=16∧ones xs∧St o w (RefR g all off' e'::blk g5 37 xs::R))
section
variable (Z:PZ) {o w:World} {R:List HProp} {g g5:Nat} {all:List UInt8}
theorem hq0 {K:World→Prop} (hG:Hq g g5 all o R 0 w) (hk:∀w',Hq g g5 all o R (0+1) w'→K w') :
    CallV π Z 164 #[.pointer (some ⟨g,0,none⟩)] w fun t9 w=>rO π Z (Instr.storeAt 23 (.pointer (some ⟨g5,0,none⟩)) t9) w fun w=>K w:=by
  rcases hG with ⟨h,hcut,hok,hh,hu,hS⟩ | ⟨hno,off',e',xs,he',hxl,hxo,hS⟩
  · refine (dgUint32 Z hS).mono fun r wA hq=>?_
    rcases hq with ⟨x,hx,_,hh2,hu2,rfl,hS⟩ | ⟨rfl,hnx,off',e',he',hS⟩
    · obtain ⟨a1,a2,a3,a4⟩:=hgood (i:=0) (by omega) (h:=h) (h':={ h with e:=x }) (by rw [← hcut]; rfl) hok hx hh hh2 hu (fun y hy hc hyp=>by
          have hv:=hu2 _ (hok_le hy.1 (show 0 < 5 by omega)) hyp
          have hv:y.hd.e=x:=hv
          subst hv
          rw [← hc]; rfl)
      refine r_store hS.swap one23 (by simp [hC,zx,orC,rqC]) rfl fun wB hS=>hk _ (.inl ⟨{ h with e:=x },by rw [← hcut]; rfl,a1,a2,a3,?_⟩)
      rw [a4]
      exact hS.swap
    · refine r_store hS.swap one23 (by simp [hC,zx,orC,rqC]) rfl fun wB hS=>hk _ (.inr ⟨fun y hy hhy=>?_,off',e',_,he',?_,?_,hS.swap⟩)
      · exact hnx _ (hok_le hy.1 (show 0 < 5 by omega)) ⟨rfl,hpiece (by omega) (hu y hy hhy) hhy⟩
      · simp [hC,zx,orC,rqC]
      · exact ones_set (hC_ones _) rfl
  · refine (dgUint32 Z hS).mono fun r wA hq=>?_
    rcases hq with ⟨x,hx,h0,_⟩ | ⟨rfl,_,off2,e2,he2,hS⟩
    · exact absurd h0 he'
    · refine r_store hS.swap one23 (by rw [hxl]; omega) rfl fun wB hS=>hk _ (.inr ⟨hno,off2,e2,_,he2,by rw [List.length_set]; exact hxl,?_,hS.swap⟩)
      exact ones_set hxo rfl
theorem hq1 {K:World→Prop} (hG:Hq g g5 all o R 1 w) (hk:∀w',Hq g g5 all o R (1+1) w'→K w') :
    CallV π Z 164 #[.pointer (some ⟨g,0,none⟩)] w fun t9 w=>rO π Z (Instr.storeAt 23 (.pointer (some ⟨g5,1,none⟩)) t9) w fun w=>K w:=by
  rcases hG with ⟨h,hcut,hok,hh,hu,hS⟩ | ⟨hno,off',e',xs,he',hxl,hxo,hS⟩
  · refine (dgUint32 Z hS).mono fun r wA hq=>?_
    rcases hq with ⟨x,hx,_,hh2,hu2,rfl,hS⟩ | ⟨rfl,hnx,off',e',he',hS⟩
    · obtain ⟨a1,a2,a3,a4⟩:=hgood (i:=1) (by omega) (h:=h) (h':={ h with n:=x }) (by rw [← hcut]; rfl) hok hx hh hh2 hu (fun y hy hc hyp=>by
          have hv:=hu2 _ (hok_le hy.1 (show 1 < 5 by omega)) hyp
          have hv:y.hd.n=x:=hv
          subst hv
          rw [← hc]; rfl)
      refine r_store hS.swap one23 (by simp [hC,zx,orC,rqC]) rfl fun wB hS=>hk _ (.inl ⟨{ h with n:=x },by rw [← hcut]; rfl,a1,a2,a3,?_⟩)
      rw [a4]
      exact hS.swap
    · refine r_store hS.swap one23 (by simp [hC,zx,orC,rqC]) rfl fun wB hS=>hk _ (.inr ⟨fun y hy hhy=>?_,off',e',_,he',?_,?_,hS.swap⟩)
      · exact hnx _ (hok_le hy.1 (show 1 < 5 by omega)) ⟨rfl,hpiece (by omega) (hu y hy hhy) hhy⟩
      · simp [hC,zx,orC,rqC]
      · exact ones_set (hC_ones _) rfl
  · refine (dgUint32 Z hS).mono fun r wA hq=>?_
    rcases hq with ⟨x,hx,h0,_⟩ | ⟨rfl,_,off2,e2,he2,hS⟩
    · exact absurd h0 he'
    · refine r_store hS.swap one23 (by rw [hxl]; omega) rfl fun wB hS=>hk _ (.inr ⟨hno,off2,e2,_,he2,by rw [List.length_set]; exact hxl,?_,hS.swap⟩)
      exact ones_set hxo rfl
theorem hq2 {K:World→Prop} (hG:Hq g g5 all o R 2 w) (hk:∀w',Hq g g5 all o R (2+1) w'→K w') :
    CallV π Z 165 #[.pointer (some ⟨g,0,none⟩)] w fun t9 w=>rO π Z (Instr.storeAt 22 (.pointer (some ⟨g5,2,none⟩)) t9) w fun w=>K w:=by
  rcases hG with ⟨h,hcut,hok,hh,hu,hS⟩ | ⟨hno,off',e',xs,he',hxl,hxo,hS⟩
  · refine (dgInt8 Z hS).mono fun r wA hq=>?_
    rcases hq with ⟨x,hx,_,hh2,hu2,rfl,hS⟩ | ⟨rfl,hnx,off',e',he',hS⟩
    · obtain ⟨a1,a2,a3,a4⟩:=hgood (i:=2) (by omega) (h:=h) (h':={ h with sv:=x }) (by rw [← hcut]; rfl) hok hx hh hh2 hu (fun y hy hc hyp=>by
          have hv:=hu2 _ (hok_le hy.1 (show 2 < 5 by omega)) hyp
          have hv:y.hd.sv=x:=hv
          subst hv
          rw [← hc]; rfl)
      refine r_store hS.swap one22 (by simp [hC,zx,orC,rqC]) rfl fun wB hS=>hk _ (.inl ⟨{ h with sv:=x },by rw [← hcut]; rfl,a1,a2,a3,?_⟩)
      rw [a4]
      exact hS.swap
    · refine r_store hS.swap one22 (by simp [hC,zx,orC,rqC]) rfl fun wB hS=>hk _ (.inr ⟨fun y hy hhy=>?_,off',e',_,he',?_,?_,hS.swap⟩)
      · exact hnx _ (hok_le hy.1 (show 2 < 5 by omega)) ⟨rfl,hpiece (by omega) (hu y hy hhy) hhy⟩
      · simp [hC,zx,orC,rqC]
      · exact ones_set (hC_ones _) rfl
  · refine (dgInt8 Z hS).mono fun r wA hq=>?_
    rcases hq with ⟨x,hx,h0,_⟩ | ⟨rfl,_,off2,e2,he2,hS⟩
    · exact absurd h0 he'
    · refine r_store hS.swap one22 (by rw [hxl]; omega) rfl fun wB hS=>hk _ (.inr ⟨hno,off2,e2,_,he2,by rw [List.length_set]; exact hxl,?_,hS.swap⟩)
      exact ones_set hxo rfl
theorem hq3 {K:World→Prop} (hG:Hq g g5 all o R 3 w) (hk:∀w',Hq g g5 all o R (3+1) w'→K w') :
    CallV π Z 164 #[.pointer (some ⟨g,0,none⟩)] w fun t9 w=>rO π Z (Instr.storeAt 23 (.pointer (some ⟨g5,3,none⟩)) t9) w fun w=>K w:=by
  rcases hG with ⟨h,hcut,hok,hh,hu,hS⟩ | ⟨hno,off',e',xs,he',hxl,hxo,hS⟩
  · refine (dgUint32 Z hS).mono fun r wA hq=>?_
    rcases hq with ⟨x,hx,_,hh2,hu2,rfl,hS⟩ | ⟨rfl,hnx,off',e',he',hS⟩
    · obtain ⟨a1,a2,a3,a4⟩:=hgood (i:=3) (by omega) (h:=h) (h':={ h with bo:=x }) (by rw [← hcut]; rfl) hok hx hh hh2 hu (fun y hy hc hyp=>by
          have hv:=hu2 _ (hok_le hy.1 (show 3 < 5 by omega)) hyp
          have hv:y.hd.bo=x:=hv
          subst hv
          rw [← hc]; rfl)
      refine r_store hS.swap one23 (by simp [hC,zx,orC,rqC]) rfl fun wB hS=>hk _ (.inl ⟨{ h with bo:=x },by rw [← hcut]; rfl,a1,a2,a3,?_⟩)
      rw [a4]
      exact hS.swap
    · refine r_store hS.swap one23 (by simp [hC,zx,orC,rqC]) rfl fun wB hS=>hk _ (.inr ⟨fun y hy hhy=>?_,off',e',_,he',?_,?_,hS.swap⟩)
      · exact hnx _ (hok_le hy.1 (show 3 < 5 by omega)) ⟨rfl,hpiece (by omega) (hu y hy hhy) hhy⟩
      · simp [hC,zx,orC,rqC]
      · exact ones_set (hC_ones _) rfl
  · refine (dgUint32 Z hS).mono fun r wA hq=>?_
    rcases hq with ⟨x,hx,h0,_⟩ | ⟨rfl,_,off2,e2,he2,hS⟩
    · exact absurd h0 he'
    · refine r_store hS.swap one23 (by rw [hxl]; omega) rfl fun wB hS=>hk _ (.inr ⟨hno,off2,e2,_,he2,by rw [List.length_set]; exact hxl,?_,hS.swap⟩)
      exact ones_set hxo rfl
theorem hq4 {K:World→Prop} (hG:Hq g g5 all o R 4 w) (hk:∀w',Hq g g5 all o R (4+1) w'→K w') :
    CallV π Z 209 #[.pointer (some ⟨g,0,none⟩)] w fun t9 w=>rO π Z (Instr.storeAt 2 (.pointer (some ⟨g5,4,none⟩)) t9) w fun w=>K w:=by
  rcases hG with ⟨h,hcut,hok,hh,hu,hS⟩ | ⟨hno,off',e',xs,he',hxl,hxo,hS⟩
  · refine (dgInt64 Z hS).mono fun r wA hq=>?_
    rcases hq with ⟨x,hx,_,hh2,hu2,rfl,hS⟩ | ⟨rfl,hnx,off',e',he',hS⟩
    · obtain ⟨a1,a2,a3,a4⟩:=hgood (i:=4) (by omega) (h:=h) (h':={ h with nu:=x }) (by rw [← hcut]; rfl) hok hx hh hh2 hu (fun y hy hc hyp=>by
          have hv:=hu2 _ (hok_le hy.1 (show 4 < 5 by omega)) hyp
          have hv:y.hd.nu=x:=hv
          subst hv
          rw [← hc]; rfl)
      refine r_store hS.swap one2 (by simp [hC,zx,orC,rqC]) rfl fun wB hS=>hk _ (.inl ⟨{ h with nu:=x },by rw [← hcut]; rfl,a1,a2,a3,?_⟩)
      rw [a4]
      exact hS.swap
    · refine r_store hS.swap one2 (by simp [hC,zx,orC,rqC]) rfl fun wB hS=>hk _ (.inr ⟨fun y hy hhy=>?_,off',e',_,he',?_,?_,hS.swap⟩)
      · exact hnx _ (hok_le hy.1 (show 4 < 5 by omega)) ⟨rfl,hpiece (by omega) (hu y hy hhy) hhy⟩
      · simp [hC,zx,orC,rqC]
      · exact ones_set (hC_ones _) rfl
  · refine (dgInt64 Z hS).mono fun r wA hq=>?_
    rcases hq with ⟨x,hx,h0,_⟩ | ⟨rfl,_,off2,e2,he2,hS⟩
    · exact absurd h0 he'
    · refine r_store hS.swap one2 (by rw [hxl]; omega) rfl fun wB hS=>hk _ (.inr ⟨hno,off2,e2,_,he2,by rw [List.length_set]; exact hxl,?_,hS.swap⟩)
      exact ones_set hxo rfl
theorem readR {x:Value} {n:Nat} {l:List UInt8} (hx:Ent o R fun w=>Rd w 1 x n (cb l)) (hl:l.length≤140737488355328) (h:St o w R) :
    CallV π Z 211 #[x] w fun r w'=>
      (∃t,okT t∧chkT t=true∧l=txB t∧(∀y,okT y→Has l 0 (txB y)→y.hd=t.hd∧keyQ y.q=keyQ t.q)∧r=.tuple #[.agg t.cells.toArray,.int .i64 0]∧St o w' (OwQ t.q::R)) ∨
      ((∀y,okT y→chkT y=true→l ≠ txB y)∧r=.tuple #[.agg zTx.toArray,.int .i64 40]∧St o w' R):=by
  refine f211.calls ?_
  unfold f211.sh
  refine r_alloc h ze37 fun g2 w1 hS=>?_
  have hS:St o w1 (blk g2 37 zTx::R):=hS
  refine (dNew Z hS (fun w hw=>hx w hw.drop) hl).mono fun r w2 ⟨g,hr,hS⟩=>?_
  subst hr
  refine r_alloc hS ze37 fun g5 w3 hS=>?_
  have hS:St o w3 (blk g5 37 zTx::RefR g l 0 0::blk g2 37 zTx::R):=hS
  have hG:Hq g g5 l o (blk g2 37 zTx::R) 0 w3:=.inl ⟨⟨0,0,0,0,0⟩,rfl,trivial,⟨_,rfl⟩,fun y _ _=>rfl,hS.swap⟩
  clear hS
  have fail:∀(w:World) (As:List HProp) (Q:PQ),St o w (blk g2 37 zTx::As)→(∀w',St o w' As→Q (.agg zTx.toArray) w') →
      rN π Z (Instr.build 37 #[]) w fun t40 w=>rO π Z (Instr.storeAt 37 (.pointer (some ⟨g2,0,none⟩)) t40) w fun w=>
        ∃r,(do loadVar 37 (← asAddr (.pointer (some ⟨g2,0,none⟩))):Sem Value).run π w=.ok r w∧Q r w:=by
    intro w As Q hS hQ
    refine r_build (cells:=zTx.toArray) (by kernel_rfl) ?_
    refine r_storeN hS ag37 (xs:=zTx) rfl (show 0+16≤16 from Nat.le_refl _) (hC_ones _) fun w2 hS=>?_
    rw [setL_all _ _ (by rfl)] at hS
    exact r_resN ag37 (xs:=zTx) rfl (hS.cells_at m0 0 (whole_at _)) (hQ _ hS.drop)
  have nope:∀y:Tx,l=txB y→Has l 0 (txB y):=fun y e=>⟨[],by rw [List.append_nil]; exact e⟩
  (try simp only [fa_37_2,Nat.zero_add,fa_37_1,fa_29_2,fa_29_1,fa_29_0,Nat.add_zero,fa_37_0,fa_27_1,fa_27_0])
  refine hq0 Z hG fun w4 hG=>?_
  refine hq1 Z hG fun w4 hG=>?_
  refine hq2 Z hG fun w4 hG=>?_
  refine hq3 Z hG fun w4 hG=>?_
  refine hq4 Z hG fun w4 hG=>?_
  rcases hG with ⟨h,hcut,hok,hh,hu,hS⟩ | ⟨hno,off',e',xs,he',hxl,hxo,hS⟩
  · refine (readD0 Z hS).mono fun r w5 hq=>?_
    rcases hq with ⟨q,hqk,_,hh2,hu2,rfl,_,hon,hS⟩ | ⟨⟨xs,rfl,hxl,hxo⟩,hno,off',e',he',hS⟩
    · refine r_storeN (hS.pick 2) ag35 (xs:=q.cells) rfl (show 5+11≤16 from Nat.le_refl _) hon fun w6 hS=>?_
      have hS:St o w6 (blk g5 37 (Tx.cells ⟨h.e,h.n,h.sv,h.bo,h.nu,q⟩)::RefR g l ((hpre h 5).length+(reqI false q).length) 0::OwQ q::blk g2 37 zTx::R):=hS
      generalize ht:(⟨h.e,h.n,h.sv,h.bo,h.nu,q⟩:Tx)=t at hS
      have hth:t.hd=h:=by subst ht; rfl
      have htq:t.q=q:=by subst ht; rfl
      have htk:okT t:=⟨by rw [hth]; exact hok,by rw [htq]; exact hqk⟩
      have hhas:Has l 0 (txB t):=by
        rw [txB_pre,hth,htq]
        exact Has.split.2 ⟨hh,by rw [Nat.zero_add]; exact hh2⟩
      have huniq:∀y,okT y→Has l 0 (txB y)→y.hd=t.hd∧keyQ y.q=keyQ t.q:=by
        intro y hy hhy
        have h1:y.hd=h:=hu y hy hhy
        rw [txB_pre,h1] at hhy
        have h2:=hhy.right
        rw [Nat.zero_add] at h2
        exact ⟨by rw [h1,hth],by rw [htq]; exact hu2 _ hy.2 h2⟩
      have hlen:(hpre h 5).length+(reqI false q).length=(txB t).length:=by rw [txB_pre,hth,htq,List.length_append]
      rw [hlen] at hS
      refine (dEnd Z hS.swap).mono fun r w7 ⟨hr,hS⟩=>?_
      subst hr
      refine r1 (run_neq_int _ _ _ _ _ _ _ _) ?_
      by_cases hmore:(txB t).length < l.length
      · rw [if_pos ⟨rfl,hmore⟩]
        (try simp only [Int.reduceBNe,o_pickT,condT,guardW_tf])
        refine fail _ _ _ ((hS.pick 3)) fun w8 hS=>?_
        refine Or.inr ⟨fun y hy _ e=>?_,rfl,hS.drop.drop.drop⟩
        obtain ⟨h1,h2⟩:=huniq y hy (nope y e)
        have h3:txB y=txB t:=by rw [txB_pre,txB_pre,h1,keyQ_bytes _ _ h2]
        rw [e,h3] at hmore
        omega
      · rw [if_neg (fun hc=>hmore hc.2)]
        have hall:l=txB t:=by
          obtain ⟨rest,hr⟩:=hhas
          rw [List.drop_zero] at hr
          have hl2:=congrArg List.length hr
          rw [List.length_append] at hl2
          have:rest=[]:=List.eq_nil_of_length_eq_zero (by omega)
          rw [hr,this,List.append_nil]
        (try simp only [bne_self_eq_false,o_pickF,guardW_ff])
        refine r_loadN ag37 (xs:=t.cells) rfl (hS.cells_at m1 0 (whole_at _)) ?_
        have hent:Ent o (RefR g l (txB t).length 0::blk g5 37 t.cells::OwQ q::blk g2 37 zTx::R) fun w=>RdQ w t.q:=fun w hw=>by rw [htq]; exact OwQ.rd q (hw.pick 2)
        refine (refChkT Z t htk.1 hent hS).mono fun r w8 ⟨hr,hS⟩=>?_
        subst hr
        refine r1 (run_neq_int _ _ _ _ _ _ _ _) ?_
        cases hc:chkT t with
        | false=>
          simp only [Bool.false_eq_true,if_false]
          (try simp only [Int.reduceBNe,condT])
          refine fail _ _ _ ((hS.pick 3)) fun w9 hS=>?_
          refine Or.inr ⟨fun y hy hyc e=>?_,rfl,hS.drop.drop.drop⟩
          obtain ⟨h1,h2⟩:=huniq y hy (nope y e)
          rw [chkT_key hy htk h1 h2,hc] at hyc
          cases hyc
        | true=>
          simp only [if_true]
          (try simp only [bne_self_eq_false,condF])
          have hones:ones t.cells:=by
            intro u hu
            have hu:u ∈ zx t.e t.n++(orC t.sv t.bo t.nu++t.q.cells):=hu
            rcases List.mem_append.1 hu with hu | hu
            · exact zx_ones _ _ u hu
            · rcases List.mem_append.1 hu with hu | hu
              · simp only [orC,List.mem_cons,List.not_mem_nil,or_false] at hu
                rcases hu with rfl | rfl | rfl <;> rfl
              · rw [htq] at hu; exact hon u hu
          refine r_loadN ag37 (xs:=t.cells) rfl (hS.cells_at m1 0 (whole_at _)) ?_
          refine r_storeN (hS.pick 3) ag37 (xs:=t.cells) rfl (show 0+16≤16 from Nat.le_refl _) hones fun w9 hS=>?_
          rw [setL_all _ _ (by rfl)] at hS
          refine r_resN ag37 (xs:=t.cells) rfl (hS.cells_at m0 0 (whole_at _)) ?_
          refine .inl ⟨t,htk,hc,hall,huniq,rfl,?_⟩
          rw [htq]
          exact hS.drop.drop.drop
    · refine r_storeN (hS.pick 1) ag35 (xs:=xs) hxl (show 5+11≤16 from Nat.le_refl _) hxo fun w6 hS=>?_
      refine (dEnd Z hS.swap).mono fun r w7 ⟨hr,hS⟩=>?_
      subst hr
      rw [if_neg (fun hc=>he' hc.1)]
      refine r1 (run_neq_int _ _ _ _ _ _ _ _) ?_
      rw [show (e' != 0)=true by simpa using he']
      (try simp only [o_pickT,condT,guardW_tf])
      refine fail _ _ _ ((hS.pick 2)) fun w8 hS=>?_
      refine Or.inr ⟨fun y hy _ e=>?_,rfl,hS.drop.drop⟩
      have hhy:=nope y e
      have h1:y.hd=h:=hu y hy hhy
      rw [txB_pre,h1] at hhy
      have h2:=hhy.right
      rw [Nat.zero_add] at h2
      exact hno _ hy.2 ⟨rfl,h2⟩
  · refine (readD0 Z hS).mono fun r w5 hq=>?_
    rcases hq with ⟨q,_,h0,_⟩ | ⟨⟨ys,rfl,hyl,hyo⟩,_,off2,e2,he2,hS⟩
    · exact absurd h0 he'
    · refine r_storeN (hS.pick 1) ag35 (xs:=ys) hyl (show 5+11≤xs.length by omega) hyo fun w6 hS=>?_
      refine (dEnd Z hS.swap).mono fun r w7 ⟨hr,hS⟩=>?_
      subst hr
      rw [if_neg (fun hc=>he2 hc.1)]
      refine r1 (run_neq_int _ _ _ _ _ _ _ _) ?_
      rw [show (e2 != 0)=true by simpa using he2]
      (try simp only [o_pickT,condT,guardW_tf])
      refine fail _ _ _ ((hS.pick 2)) fun w8 hS=>?_
      refine Or.inr ⟨fun y hy _ e=>hno y hy (nope y e),rfl,hS.drop.drop⟩
end
end Go.Proofs.YtfijkedmbaghmaaGreatDoor

/- TxnReads: the walk. -/
set_option linter.unusedVariables false
set_option linter.unusedSimpArgs false
namespace Go.Proofs.YtfijkedmbaghmaaGreatDoor
open Go.Sh
open Tryz renaming prog → π
def Rds (l:List UInt8) (t:Tx) (e:Int):Prop:=(okT t∧chkT t=true∧l=txB t∧(∀y,okT y→Has l 0 (txB y)→y.hd=t.hd∧keyQ y.q=keyQ t.q)∧e=0)∨((∀y,okT y→chkT y=true→l ≠ txB y)∧t=tz∧e=40)
theorem Rds.wf {l:List UInt8} {t:Tx} {e:Int} (h:Rds l t e):WfQ t.q:=by
  rcases h with ⟨h,_⟩ | ⟨_,rfl,_⟩
  · exact okR_wf h.2
  · exact qz_wf
theorem Rds.same {l:List UInt8} {t u:Tx} {e f:Int} (h:Rds l t e) (k:Rds l u f):e=f∧t.hd=u.hd∧t.q.st=u.q.st:=by
  rcases h with ⟨h1,h2,h3,h4,rfl⟩ | ⟨h1,rfl,rfl⟩
  · rcases k with ⟨k1,k2,k3,k4,rfl⟩ | ⟨k1,rfl,rfl⟩
    · obtain ⟨a,b⟩:=h4 u k1 ⟨[],by rw [List.append_nil]; exact k3⟩
      exact ⟨rfl,a.symm,(st_of_key k1.2 h1.2 b).symm⟩
    · exact absurd h3 (k1 t h1 h2)
  · rcases k with ⟨k1,k2,k3,k4,rfl⟩ | ⟨k1,rfl,rfl⟩
    · exact absurd k3 (h1 u k1 k2)
    · exact ⟨rfl,rfl,rfl⟩
section
variable (Z:PZ) {o w:World} {R As:List HProp}
theorem readY {x:Value} {n:Nat} {l:List UInt8} (hx:Ent o R fun w=>Rd w 1 x n (cb l)) (hl:l.length≤140737488355328) (h:St o w R) :
    CallV π Z 211 #[x] w fun r w'=>∃t e,r=.tuple #[.agg t.cells.toArray,.int .i64 e]∧Rds l t e∧St o w' (OwQ t.q::R):=
  (readR Z hx hl h).mono fun r w' hq=>by
    rcases hq with ⟨t,h1,h2,h3,h4,hr,hS⟩ | ⟨h1,hr,hS⟩
    · exact ⟨t,0,hr,.inl ⟨h1,h2,h3,h4,rfl⟩,hS⟩
    · exact ⟨tz,40,hr,.inr ⟨h1,rfl,rfl⟩,tz_own hS⟩
end

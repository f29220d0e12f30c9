/- The document's Reader: what it reads, as codes. -/
import Derived.Test.YtfijkedmbaghmaaGreatDoorE5
import Derived.Test.YtfijkedmbaghmaaGreatDoorT17
set_option linter.unusedVariables false
set_option linter.unusedSimpArgs false
namespace Go.Proofs.YtfijkedmbaghmaaGreatDoor
open Go.Sh
open Tryz renaming prog → π
def DG {α:Type} (e:α→List UInt8) (ok:α→Prop) (val:α→Value) (zero:Value) (g:Nat) (all:List UInt8) (off:Nat) (err:Int) (o:World) (R:List HProp) (r:Value) (w':World):Prop:=
 (∃x,ok x∧err=0∧Has all off (e x)∧(∀y,ok y→Has all off (e y)→y=x)∧r=val x∧St o w' (RefR g all (off+(e x).length) 0::R)) ∨
 (r=zero∧(∀x,ok x→¬ (err=0∧Has all off (e x)))∧∃off' e',e' ≠ 0∧St o w' (RefR g all off' e'::R))
def DGE {α β:Type} (e:α→List UInt8) (ok:α→Prop) (κ:α→β) (cells:α→List Value) (Own:α→HProp) (sz:Nat) (g:Nat) (all:List UInt8) (off:Nat) (err:Int) (o:World) (R:List HProp) (r:Value) (w':World):Prop:=
 (∃x,ok x∧err=0∧Has all off (e x)∧(∀y,ok y→Has all off (e y)→κ y=κ x)∧r=.agg (cells x).toArray∧(cells x).length=sz∧ones (cells x)∧St o w' (RefR g all (off+(e x).length) 0::Own x::R)) ∨
 ((∃xs:List Value,r=.agg xs.toArray∧xs.length=sz∧ones xs)∧(∀x,ok x→¬ (err=0∧Has all off (e x)))∧∃off' e',e' ≠ 0∧St o w' (RefR g all off' e'::R))
section
variable {o w:World} {R:List HProp} {g:Nat} {all:List UInt8} {off:Nat} {err:Int}
theorem dg_int {n:Nat} {k:IntKind} {lo hi:Int} (hc:Codec n k lo hi) {w':World} {r:Value} {x off':Nat} {e':Int} (ho:off≤all.length) (hv:nmV n all off err=(x,off',e')) (hr:r=.int k (k.wrap x)) (hS:St o w' (RefR g all off' e'::R)) :
  DG (enc n) (fun x=>lo≤x∧x≤hi) (fun x=>.int k x) (.int k (k.wrap 0)) g all off err o R r w':=by
 unfold nmV at hv
 by_cases h0:err=0∧off+n≤all.length
 ·rw [if_pos h0] at hv
  injection hv with hx hv
  injection hv with ho' he
  subst ho' he hx
  obtain ⟨rfl,hle⟩:=h0
  have hl:((all.drop off).take n).length=n:=by rw [List.length_take,List.length_drop]; omega
  have hed:enc n (k.wrap (dec ((all.drop off).take n):Int))=(all.drop off).take n:=by
   rw [← enc_mod n,hc.mod,enc_mod]
   have:=enc_dec ((all.drop off).take n)
   rwa [hl] at this
  refine .inl ⟨_,hc.range _,rfl,?_,fun y hy hh=>?_,hr,by rw [enc_length]; exact hS⟩
  ·rw [hed]; exact has_of rfl
  ·have ht:=hh.take
   rw [enc_length] at ht
   have h2:=dec_enc n y
   rw [← ht] at h2
   rw [h2,hc.one y hy.1 hy.2]
 ·rw [if_neg h0] at hv
  injection hv with hx hv
  injection hv with ho' he
  subst ho' he hx
  refine .inr ⟨hr,fun x _ ⟨he,hh⟩=>h0 ⟨he,?_⟩,off,_,?_,hS⟩
  ·have:=hh.le ho
   rwa [enc_length] at this
  ·by_cases he:err=0
   ·rw [if_pos he]; omega
   ·rw [if_neg he]; exact he
theorem err10 {err:Int}:(if err=0 then (10:Int) else err) ≠ 0:=by
 by_cases he:err=0
 ·rw [if_pos he]; omega
 ·rw [if_neg he]; exact he
theorem sz_gets {most:Int} {k:List UInt8} {off':Nat} {e':Int} (ho:off≤all.length) (hv:szV most all off err=(k,off',e')) :
  (okL most k∧err=0∧e'=0∧Has all off (encL k)∧off'=off+(encL k).length∧∀y,okL most y→Has all off (encL y)→y=k) ∨
  (k=[]∧e' ≠ 0∧∀y,okL most y→¬ (err=0∧Has all off (encL y))):=by
 have hlen:∀y:List UInt8,y.length≤2147483647→Has all off (encL y)→off+4≤all.length∧IntKind.i32.wrap (dec ((all.drop off).take 4):Int)=y.length∧off+4+y.length≤all.length:=fun y hy hh=>by
  have hle:=hh.le ho
  rw [encL_len] at hle
  have ht:=(Has.split.1 hh).1.take
  rw [enc_length] at ht
  have h2:=dec_enc 4 (IntKind.i32.wrap y.length)
  rw [← ht] at h2
  refine ⟨by omega,?_,by omega⟩
  rw [h2,wr_i32 (x:=(y.length:Int)) (by omega) (by omega),wrap_i32]
  split <;> omega
 unfold szV at hv
 by_cases h0:err=0∧off+4≤all.length
 ·rw [if_pos h0] at hv
  have hrg:=i32_range (dec ((all.drop off).take 4):Int)
  by_cases h1:IntKind.i32.wrap (dec ((all.drop off).take 4):Int) < 0∨most < IntKind.i32.wrap (dec ((all.drop off).take 4):Int)
  ·rw [if_pos h1] at hv
   injection hv with hk hv
   injection hv with ho' he
   subst hk ho' he
   refine .inr ⟨rfl,by omega,fun y hy ⟨_,hh⟩=>?_⟩
   have h3:=(hlen y hy.2 hh).2.1
   rw [h3] at h1
   have:=hy.1
   omega
  ·rw [if_neg h1] at hv
   by_cases h2:off+4+(IntKind.i32.wrap (dec ((all.drop off).take 4):Int)).toNat≤all.length
   ·rw [if_pos h2] at hv
    injection hv with hk hv
    injection hv with ho' he
    have hkl:k.length=(IntKind.i32.wrap (dec ((all.drop off).take 4):Int)).toNat:=by rw [← hk,List.length_take,List.length_drop]; omega
    have h4:((all.drop off).take 4).length=4:=by rw [List.length_take,List.length_drop]; omega
    have hed:enc 4 (IntKind.i32.wrap (dec ((all.drop off).take 4):Int))=(all.drop off).take 4:=by
     rw [← enc_mod 4,codec_i32.mod,enc_mod]
     have:=enc_dec ((all.drop off).take 4)
     rwa [h4] at this
    have hkw:IntKind.i32.wrap (k.length:Int)=IntKind.i32.wrap (dec ((all.drop off).take 4):Int):=by rw [hkl,wr_i32 (by omega) (by omega)]; omega
    have hhas:Has all off (encL k):=by
     unfold encL
     rw [hkw,hed]
     refine Has.split.2 ⟨has_of rfl,?_⟩
     rw [h4]
     exact has_of hk
    have hok:okL most k:=⟨by omega,by omega⟩
    refine .inl ⟨hok,h0.1,he.symm,hhas,?_,fun y hy hh=>encL_uniq hy.2 hok.2 hh hhas⟩
    rw [encL_len,hkl,← ho']; omega
   ·rw [if_neg h2] at hv
    injection hv with hk hv
    injection hv with ho' he
    subst hk ho' he
    refine .inr ⟨rfl,by omega,fun y hy ⟨_,hh⟩=>?_⟩
    have h3:=hlen y hy.2 hh
    rw [h3.2.1] at h2
    omega
 ·rw [if_neg h0] at hv
  injection hv with hk hv
  injection hv with ho' he
  subst hk ho' he
  exact .inr ⟨rfl,err10,fun y hy ⟨h1,hh⟩=>h0 ⟨h1,(hlen y hy.2 hh).1⟩⟩
theorem ct_gets {α:Type} {e:α→List UInt8} {ok:α→Prop} (hpos:∀x,ok x→1≤(e x).length) {most:Int} (hm:most≤1000) {c:Int} {off':Nat} {e':Int} (ho:off≤all.length) (hv:ctV most all off err=(c,off',e')) :
  (∃n:Nat,c=n∧(n:Int)≤most∧err=0∧e'=0∧off'=off+4∧Has all off (enc 4 (IntKind.i32.wrap n))∧∀ys:List α,(ys.length:Int)≤most→Has all off (lsB ys.length (ys.map e))→ys.length=n) ∨
  (c = -1∧e' ≠ 0∧∀ys:List α,(ys.length:Int)≤most→(∀y ∈ ys,ok y)→¬ (err=0∧Has all off (lsB ys.length (ys.map e)))):=by
 have hlen:∀ys:List α,(ys.length:Int)≤most→Has all off (lsB ys.length (ys.map e))→off+4≤all.length∧IntKind.i32.wrap (dec ((all.drop off).take 4):Int)=ys.length∧off+4+(ys.map e).flatten.length≤all.length:=fun ys hy hh=>by
  have hle:=hh.le ho
  rw [lsB,List.length_append,enc_length] at hle
  have ht:=(Has.split.1 hh).1.take
  rw [enc_length] at ht
  have h2:=dec_enc 4 (IntKind.i32.wrap ys.length)
  rw [← ht] at h2
  refine ⟨by omega,?_,by omega⟩
  rw [h2,wr_i32 (x:=(ys.length:Int)) (by omega) (by omega),wrap_i32]
  split <;> omega
 unfold ctV at hv
 by_cases h0:err=0∧off+4≤all.length
 ·rw [if_pos h0] at hv
  have hrg:=i32_range (dec ((all.drop off).take 4):Int)
  by_cases h1:IntKind.i32.wrap (dec ((all.drop off).take 4):Int) < 0∨most < IntKind.i32.wrap (dec ((all.drop off).take 4):Int)
  ·rw [if_pos h1] at hv
   injection hv with hk hv
   injection hv with ho' he
   subst hk ho' he
   refine .inr ⟨rfl,by omega,fun y hy _ ⟨_,hh⟩=>?_⟩
   have h3:=(hlen y hy hh).2.1
   rw [h3] at h1
   omega
  ·rw [if_neg h1] at hv
   by_cases h2:off+4+(IntKind.i32.wrap (dec ((all.drop off).take 4):Int)).toNat≤all.length
   ·rw [if_pos h2] at hv
    injection hv with hk hv
    injection hv with ho' he
    have h4:((all.drop off).take 4).length=4:=by rw [List.length_take,List.length_drop]; omega
    have hed:enc 4 (IntKind.i32.wrap (dec ((all.drop off).take 4):Int))=(all.drop off).take 4:=by
     rw [← enc_mod 4,codec_i32.mod,enc_mod]
     have:=enc_dec ((all.drop off).take 4)
     rwa [h4] at this
    refine .inl ⟨c.toNat,by omega,by omega,h0.1,he.symm,ho'.symm,?_,fun ys hy hh=>?_⟩
    ·have e1:IntKind.i32.wrap (c.toNat:Int)=IntKind.i32.wrap (dec ((all.drop off).take 4):Int):=by rw [wr_i32 (by omega) (by omega)]; omega
     rw [e1,hed]
     exact has_of rfl
    ·have h3:=(hlen ys hy hh).2.1
     omega
   ·rw [if_neg h2] at hv
    injection hv with hk hv
    injection hv with ho' he
    subst hk ho' he
    refine .inr ⟨rfl,by omega,fun y hy hok ⟨_,hh⟩=>?_⟩
    have h3:=hlen y hy hh
    have h5:=flat_pos hpos y hok
    rw [h3.2.1] at h2
    omega
 ·rw [if_neg h0] at hv
  injection hv with hk hv
  injection hv with ho' he
  subst hk ho' he
  exact .inr ⟨rfl,err10,fun y hy _ ⟨h1,hh⟩=>h0 ⟨h1,(hlen y hy hh).1⟩⟩
end
section
variable (Z:PZ) {o w:World} {R:List HProp} {g:Nat} {all:List UInt8} {off:Nat} {err:Int}
theorem dgInt8 (h:St o w (RefR g all off err::R)):CallV π Z 165 #[.pointer (some ⟨g,0,none⟩)] w fun r w'=>DG (enc 1) (fun x => -128≤x∧x≤127) (fun x=>.int .i8 x) (.int .i8 (IntKind.i8.wrap 0)) g all off err o R r w':=
 (dInt8 Z h).mono fun r w' ⟨x,off',e',hv,hr,hS⟩=>dg_int codec_i8 (RefR.le h) hv hr hS
theorem dgInt32 (h:St o w (RefR g all off err::R)):CallV π Z 236 #[.pointer (some ⟨g,0,none⟩)] w fun r w'=>DG (enc 4) (fun x => -2147483648≤x∧x≤2147483647) (fun x=>.int .i32 x) (.int .i32 (IntKind.i32.wrap 0)) g all off err o R r w':=
 (dInt32 Z h).mono fun r w' ⟨x,off',e',hv,hr,hS⟩=>dg_int codec_i32 (RefR.le h) hv hr hS
theorem dgUint32 (h:St o w (RefR g all off err::R)):CallV π Z 164 #[.pointer (some ⟨g,0,none⟩)] w fun r w'=>DG (enc 4) (fun x=>0≤x∧x≤4294967295) (fun x=>.int .u32 x) (.int .u32 (IntKind.u32.wrap 0)) g all off err o R r w':=
 (dUint32 Z h).mono fun r w' ⟨x,off',e',hv,hr,hS⟩=>dg_int codec_u32 (RefR.le h) hv hr hS
theorem dgInt64 (h:St o w (RefR g all off err::R)):CallV π Z 209 #[.pointer (some ⟨g,0,none⟩)] w fun r w'=>DG (enc 8) (fun x => -9223372036854775808≤x∧x≤9223372036854775807) (fun x=>.int .i64 x) (.int .i64 (IntKind.i64.wrap 0)) g all off err o R r w':=
 (dInt64 Z h).mono fun r w' ⟨x,off',e',hv,hr,hS⟩=>dg_int codec_i64 (RefR.le h) hv hr hS
theorem dgBool (h:St o w (RefR g all off err::R)):CallV π Z 210 #[.pointer (some ⟨g,0,none⟩)] w fun r w'=>DG encB (fun _=>True) (fun x=>.bool x) (.bool false) g all off err o R r w':=by
 have ho:=(RefR.le h)
 refine (dBool Z h).mono fun r w' ⟨b,off',e',hv,hr,hS⟩=>?_
 have key:∀y:Bool,Has all off (encB y)→off+1≤all.length∧dec ((all.drop off).take 1)=if y then 1 else 0:=fun y hh=>by
  have hle:=hh.le ho
  have ht:=hh.take
  have e1:(encB y).length=1:=rfl
  rw [e1] at hle ht
  refine ⟨hle,?_⟩
  rw [ht]
  cases y <;> rfl
 unfold blV at hv
 by_cases h0:err=0∧off+1≤all.length
 ·rw [if_pos h0] at hv
  have hl:((all.drop off).take 1).length=1:=by rw [List.length_take,List.length_drop]; omega
  obtain ⟨c,hc⟩:∃c,(all.drop off).take 1=[c]:=by
   match h9:(all.drop off).take 1,hl with
   | [c],_=>exact ⟨c,rfl⟩
  have hd:dec ((all.drop off).take 1)=c.toNat:=by rw [hc]; simp [dec]
  by_cases h1:1 < dec ((all.drop off).take 1)
  ·rw [if_pos h1] at hv
   injection hv with hb hv
   injection hv with ho' he
   subst hb ho' he
   refine .inr ⟨hr,fun y _ ⟨_,hh⟩=>?_,_,_,by omega,hS⟩
   have:=(key y hh).2
   rw [this] at h1
   cases y <;> simp at h1
  ·rw [if_neg h1] at hv
   injection hv with hb hv
   injection hv with ho' he
   subst ho' he
   have hcb:(all.drop off).take 1=encB b:=by
    rw [hc]
    rw [hd] at hb h1
    have:c.toNat=0∨c.toNat=1:=by omega
    rcases this with h2 | h2
    ·have:c=0:=UInt8.toNat_inj.1 h2
     subst this
     rw [← hb]; rfl
    ·have:c=1:=UInt8.toNat_inj.1 h2
     subst this
     rw [← hb]; rfl
   refine .inl ⟨b,trivial,h0.1,by rw [← hcb]; exact has_of rfl,fun y _ hh=>?_,hr,hS⟩
   have h2:=(key y hh).2
   rw [h2] at hb
   rw [← hb]
   cases y <;> rfl
 ·rw [if_neg h0] at hv
  injection hv with hb hv
  injection hv with ho' he
  subst hb ho' he
  exact .inr ⟨hr,fun y _ ⟨h1,hh⟩=>h0 ⟨h1,(key y hh).1⟩,_,_,err10,hS⟩
theorem dgText (most:Int) (h:St o w (RefR g all off err::R)):CallV π Z 258 #[.pointer (some ⟨g,0,none⟩),.int .i64 most] w fun r w'=>DG encL (okL most) (fun k=>.string (str k)) (.string (str [])) g all off err o R r w':=
 (dText Z most h).mono fun r w' ⟨k,off',e',hv,hr,hS⟩=>by
  rcases sz_gets (RefR.le h) hv with ⟨h1,h2,rfl,h4,rfl,h6⟩ | ⟨rfl,h2,h3⟩
  ·exact .inl ⟨k,h1,h2,h4,h6,hr,hS⟩
  ·exact .inr ⟨hr,h3,_,_,h2,hS⟩
theorem dgId (h:St o w (RefR g all off err::R)):CallV π Z 260 #[.pointer (some ⟨g,0,none⟩)] w fun r w'=>DGE idB okId id idC (fun _=>emp) 2 g all off err o R r w':=by
 refine f260.calls ?_
 unfold f260.sh
 refine r_alloc h ze175 fun ga w1 hS=>?_
 have fin:∀{w:World} {R':List HProp} (a b:List UInt8) (Q:PQ),St o w (blk ga 175 [.string ByteArray.empty,.string ByteArray.empty]::R')→(∀w',St o w' R'→Q (.agg (idC ⟨a,b⟩).toArray) w') →
   rN π Z (Instr.build 175 #[(0,.string (str a)),(1,.string (str b))]) w fun t9 w=>rO π Z (Instr.storeAt 175 (.pointer (some ⟨ga,0,none⟩)) t9) w fun w=>
    ∃r,(do loadVar 175 (← asAddr (.pointer (some ⟨ga,0,none⟩))):Sem Value).run π w=.ok r w∧Q r w:=by
  intro w R' a b Q hS hQ
  generalize hsa:str a=sa
  generalize hsb:str b=sb
  refine r_build (cells:=#[.string sa,.string sb]) (by kernel_rfl) ?_
  subst hsa; subst hsb
  refine r_storeN hS ag175 (xs:=idC ⟨a,b⟩) rfl (show 0+2≤2 from Nat.le_refl _) (idB_ones _) fun w2 hS=>?_
  rw [setL_all _ _ (by rfl)] at hS
  exact r_resN ag175 (xs:=idC ⟨a,b⟩) rfl (hS.cells_at m0 0 (whole_at _)) (hQ _ hS.drop)
 have hS:St o w1 (blk ga 175 [.string ByteArray.empty,.string ByteArray.empty]::RefR g all off err::R):=hS
 refine (dgText Z 24 hS.swap).mono fun r w2 hq=>?_
 rcases hq with ⟨a,ha,rfl,hh,hu,rfl,hS⟩ | ⟨rfl,hno,off',e',he',hS⟩
 ·refine (dgText Z 24 hS).mono fun r w3 hq=>?_
  rcases hq with ⟨b,hb,_,hh2,hu2,rfl,hS⟩ | ⟨rfl,hno,off',e',he',hS⟩
  ·refine fin a b _ hS.swap fun w4 hS=>.inl ⟨⟨a,b⟩,⟨ha,hb⟩,rfl,Has.split.2 ⟨hh,hh2⟩,fun y hy hhy=>?_,rfl,rfl,idB_ones _,?_⟩
   ·have h1:=hu _ hy.1 hhy.left
    have h2:=hhy.right
    rw [h1] at h2
    have h2:=hu2 _ hy.2 h2
    cases y; simp_all
   ·have e1:(idB ⟨a,b⟩).length=(encL a).length+(encL b).length:=by rw [idB,List.length_append]
    rw [e1,← Nat.add_assoc]
    exact hS.emp.swap
  ·refine fin a [] _ hS.swap fun w4 hS=>.inr ⟨⟨_,rfl,rfl,idB_ones _⟩,fun y hy ⟨_,hhy⟩=>?_,off',e',he',hS⟩
   have h1:=hu _ hy.1 hhy.left
   have h2:=hhy.right
   rw [h1] at h2
   exact hno _ hy.2 ⟨rfl,h2⟩
 ·refine (dgText Z 24 hS).mono fun r w3 hq=>?_
  rcases hq with ⟨b,hb,he0,_⟩ | ⟨rfl,_,off2,e2,he2,hS⟩
  ·exact absurd he0 he'
  ·exact fin [] [] _ hS.swap fun w4 hS=>.inr ⟨⟨_,rfl,rfl,idB_ones _⟩,fun y hy ⟨h0,hhy⟩=>hno _ hy.1 ⟨h0,hhy.left⟩,off2,e2,he2,hS⟩
end
end Go.Proofs.YtfijkedmbaghmaaGreatDoor

/- What the document's read has read of a request: its plain fields. Printed by wip/sh/mkV2.py. -/
set_option linter.unusedVariables false
set_option linter.unusedSimpArgs false
namespace Go.Proofs.YtfijkedmbaghmaaGreatDoor
open Go.Sh
open Tryz renaming prog → π
section
variable {o w:World} {R:List HProp} {g g2:Nat} {all:List UInt8} {off:Nat} {err:Int} {inner:Bool} {kd:Int}
def DgG (inner:Bool) (kd:Int) (g g2:Nat) (all:List UInt8) (off:Nat) (o:World) (R:List HProp) (i:Nat) (w:World):Prop:=
 ∃f vd va vw,f.kd=kd∧cut i f=f∧okTo inner f i∧Has all off (pre inner f i)∧(∀y,okR inner y→Has all off (reqI inner y)→cut i y.f=f)∧(i≤2→va=.slice none 0 0)∧(i≤7→vw=.slice none 0 0) ∧
  St o w (RefR g all (off+(pre inner f i).length) 0::blk g2 35 (rqC f vd va vw (.slice none 0 0))::OwF f vd va vw::R)
def DgB (inner:Bool) (g g2:Nat) (all:List UInt8) (off:Nat) (o:World) (R:List HProp) (w:World):Prop:=
 (∀y,okR inner y→¬ Has all off (reqI inner y))∧∃off' e' xs,e' ≠ 0∧xs.length=11∧ones xs∧St o w (RefR g all off' e'::blk g2 35 xs::R)
def DqG (inner:Bool) (kd:Int) (g g2:Nat) (all:List UInt8) (off:Nat) (o:World) (R:List HProp) (w:World):Prop:=
 ∃q,okR inner q∧Has all off (reqI inner q)∧(∀y,okR inner y→Has all off (reqI inner y)→keyQ y=keyQ q)∧St o w (RefR g all (off+(reqI inner q).length) 0::blk g2 35 q.cells::OwQ q::R)
theorem bi_kf {f:Fl} (hf:f.kd=kd) (i:Nat):bi inner f i=bi inner (kf kd) i:=by unfold bi; rw [hf]; rfl
theorem DgG.skip {i:Nat} (hi:i < 8) (hb:bi inner (kf kd) i=false) (h:DgG inner kd g g2 all off o R i w):DgG inner kd g g2 all off o R (i+1) w:=by
 have hbk:∀f:Fl,f.kd=kd→bi inner f i=false:=fun f hk=>by rw [bi_kf hk]; exact hb
 obtain ⟨f,vd,va,vw,hk,hc,hok,hh,hu,hva,hvw,hS⟩:=h
 have hb1:=hbk f hk
 have hoc:=okc_zero hi hb1 hc
 have hp:=pc_skip hi hb1
 refine ⟨f,vd,va,vw,hk,by rw [cut_skip hi hb1 hoc,hc],⟨hok,hoc⟩,?_,fun y hy hhy=>?_,fun h=>hva (by omega),fun h=>hvw (by omega),?_⟩
 ·rw [pre,hp,List.append_nil]; exact hh
 ·have h1:=hu y hy hhy
  have hky:y.f.kd=kd:=by rw [← hk,← h1,cut_kd]
  rw [cut_skip hi (hbk _ hky) (okTo_le hy.1 hi),h1]
 ·rw [pre,hp,List.append_nil]; exact hS
theorem DgG.skips {i:Nat}:∀(k:Nat),i+k≤8→(∀j,i≤j→j < i+k→bi inner (kf kd) j=false)→DgG inner kd g g2 all off o R i w→DgG inner kd g g2 all off o R (i+k) w
 | 0,_,_,h=>h
 | k+1,hi,hb,h=>by
  have h1:=(DgG.skips k (by omega) (fun j h1 h2=>hb j h1 (by omega)) h).skip (by omega) (hb (i+k) (by omega) (by omega))
  exact h1
theorem DgG.noOps (hb8:bi inner (kf kd) 8=false) (h:DgG inner kd g g2 all off o R 8 w):DqG inner kd g g2 all off o R w:=by
 obtain ⟨f,vd,va,vw,hfk,hcut,hok,hh,hu,_,_,hS⟩:=h
 have hf8:bi inner f 8=false:=by rw [bi_kf hfk]; exact hb8
 refine ⟨.mk f vd va vw (.slice none 0 0) [],⟨hok,by show (if bi inner f 8 then _ else _); rw [hf8]; rfl⟩,?_,fun y hy hhy=>?_,?_⟩
 ·show Has all off (flB inner f++if bi inner f 8 then _ else _)
  rw [hf8]
  simpa [flB_pre] using hh
 ·have hyf:y.f=f:=hu y hy hhy
  have h2:=hy.2
  rw [hyf,hf8] at h2
  have h3:y.ops=[]:=by simpa using h2
  unfold keyQ
  rw [hyf,h3]
  rfl
 ·have e9:reqI inner (.mk f vd va vw (.slice none 0 0) [])=pre inner f 8:=by
   show flB inner f++(if bi inner f 8 then _ else _)=_
   rw [hf8]; simp [flB_pre]
  rw [e9,OwQ_eq]
  have h1:=((hS.pick 2).emp.mono fun _ _=>(trivial:satH (([]:List Rq).map OwQ) _)).own_nil 35 11
  exact h1.sep_intro.swap.sep_intro.put 2
theorem y_has {i:Nat} {f:Fl} {y:Rq} (hi:i < 8) (hb:bi inner f i=true) (hy:okR inner y) (hc:cut i y.f=f):bi inner y.f i=true∧okc inner y.f i:=⟨by rw [← cut_bi inner i i y.f,hc]; exact hb,okTo_le hy.1 hi⟩
end
section
variable (Z:PZ) {o w:World} {R:List HProp} {g g2:Nat} {all:List UInt8} {off:Nat} {inner:Bool} {kd:Int} {K:World→Prop}
theorem dgs0 (hb:bi inner (kf kd) 0=true) (hG:DgG inner kd g g2 all off o R 0 w) (hk:∀w',DgG inner kd g g2 all off o R (0+1) w'∨DgB inner g g2 all off o R w'→K w') :
  CallV π Z 258 #[.pointer (some ⟨g,0,none⟩),.int .i64 64] w fun t w=>rN π Z (Instr.fieldAt 35 (.pointer (some ⟨g2,0,none⟩)) 1) w fun a w=>rO π Z (Instr.storeAt 9 a t) w K:=by
 obtain ⟨f,vd,va,vw,hfk,hcut,hok,hh,hu,hva,hvw,hS⟩:=hG
 have hbf:bi inner f 0=true:=by rw [bi_kf hfk]; exact hb
 have hrd:=OwF.rd (hS.pick 2)
 have hro:=rqC_ones (f:=f) (Rd.one hrd.data) (Rd.one hrd.acl) (Rd.one hrd.who) (vo:=.slice none 0 0) rfl
 refine (dgText Z 64 hS).mono fun r wA hq=>?_
 (try simp only [fa_35_1,Nat.zero_add])
 rcases hq with ⟨x,hx,_,hh2,hu2,rfl,hS⟩ | ⟨rfl,hnx,off',e',he',hS⟩
 ·have hbf':bi inner { f with path:=x } 0=true:=hbf
  obtain ⟨a1,a2,a3,a4⟩:=good_step (inner:=inner) (all:=all) (off:=off) (i:=0) (by omega) (f:=f) (f':={ f with path:=x }) (by rw [← hcut]; rfl) hok (by show (if bi inner f 0 then _ else _); rw [if_pos hbf]; exact hx) hh (by show Has all _ (p0 inner { f with path:=x }); rw [p0,if_pos hbf']; exact hh2) hu (fun y hy hc hyp=>by
    obtain ⟨hyb,hyo⟩:=y_has (i:=0) (by omega) hbf hy hc
    replace hyp:Has all _ (p0 inner y.f):=hyp
    rw [p0,if_pos hyb] at hyp
    replace hyo:if bi inner y.f 0 then _ else _:=hyo
    rw [if_pos hyb] at hyo
    have hv:=hu2 _ hyo hyp
    subst hv
    rw [← hc]; rfl)
  refine r_store hS.swap one9 (by simp [rqC]) rfl fun wB hS=>hk _ (.inl ⟨{ f with path:=x },vd,va,vw,hfk,by rw [← hcut]; rfl,a1,a2,a3,fun h=>hva (by omega),fun h=>hvw (by omega),?_⟩)
  rw [a4]
  have e9:pc inner { f with path:=x } 0=_:=if_pos hbf'
  rw [e9]
  exact hS.swap
 ·refine r_store hS.swap one9 (by simp [rqC]) rfl fun wB hS=>hk _ (.inr ⟨fun y hy hhy=>?_,off',e',_,he',?_,?_,hS.swap.pick 2 |>.drop⟩)
  ·obtain ⟨hyb,hyo⟩:=y_has (i:=0) (by omega) hbf hy (hu y hy hhy)
   have hyp:Has all _ (p0 inner y.f):=piece_at (i:=0) (by omega) (hu y hy hhy) hhy
   rw [p0,if_pos hyb] at hyp
   replace hyo:if bi inner y.f 0 then _ else _:=hyo
   rw [if_pos hyb] at hyo
   exact hnx _ hyo ⟨rfl,hyp⟩
  ·simp [rqC]
  ·exact ones_set hro rfl
theorem dgs3 (hb:bi inner (kf kd) 3=true) (hG:DgG inner kd g g2 all off o R 3 w) (hk:∀w',DgG inner kd g g2 all off o R (3+1) w'∨DgB inner g g2 all off o R w'→K w') :
  CallV π Z 236 #[.pointer (some ⟨g,0,none⟩)] w fun t w=>rN π Z (Instr.fieldAt 35 (.pointer (some ⟨g2,0,none⟩)) 4) w fun a w=>rO π Z (Instr.storeAt 21 a t) w K:=by
 obtain ⟨f,vd,va,vw,hfk,hcut,hok,hh,hu,hva,hvw,hS⟩:=hG
 have hbf:bi inner f 3=true:=by rw [bi_kf hfk]; exact hb
 have hrd:=OwF.rd (hS.pick 2)
 have hro:=rqC_ones (f:=f) (Rd.one hrd.data) (Rd.one hrd.acl) (Rd.one hrd.who) (vo:=.slice none 0 0) rfl
 refine (dgInt32 Z hS).mono fun r wA hq=>?_
 (try simp only [fa_35_4,Nat.zero_add])
 rcases hq with ⟨x,hx,_,hh2,hu2,rfl,hS⟩ | ⟨rfl,hnx,off',e',he',hS⟩
 ·have hbf':bi inner { f with ver:=x } 3=true:=hbf
  obtain ⟨a1,a2,a3,a4⟩:=good_step (inner:=inner) (all:=all) (off:=off) (i:=3) (by omega) (f:=f) (f':={ f with ver:=x }) (by rw [← hcut]; rfl) hok (by show (if bi inner f 3 then _ else _); rw [if_pos hbf]; exact hx) hh (by show Has all _ (p3 inner { f with ver:=x }); rw [p3,if_pos hbf']; exact hh2) hu (fun y hy hc hyp=>by
    obtain ⟨hyb,hyo⟩:=y_has (i:=3) (by omega) hbf hy hc
    replace hyp:Has all _ (p3 inner y.f):=hyp
    rw [p3,if_pos hyb] at hyp
    replace hyo:if bi inner y.f 3 then _ else _:=hyo
    rw [if_pos hyb] at hyo
    have hv:=hu2 _ hyo hyp
    subst hv
    rw [← hc]; rfl)
  refine r_store hS.swap one21 (by simp [rqC]) rfl fun wB hS=>hk _ (.inl ⟨{ f with ver:=x },vd,va,vw,hfk,by rw [← hcut]; rfl,a1,a2,a3,fun h=>hva (by omega),fun h=>hvw (by omega),?_⟩)
  rw [a4]
  have e9:pc inner { f with ver:=x } 3=_:=if_pos hbf'
  rw [e9]
  exact hS.swap
 ·refine r_store hS.swap one21 (by simp [rqC]) rfl fun wB hS=>hk _ (.inr ⟨fun y hy hhy=>?_,off',e',_,he',?_,?_,hS.swap.pick 2 |>.drop⟩)
  ·obtain ⟨hyb,hyo⟩:=y_has (i:=3) (by omega) hbf hy (hu y hy hhy)
   have hyp:Has all _ (p3 inner y.f):=piece_at (i:=3) (by omega) (hu y hy hhy) hhy
   rw [p3,if_pos hyb] at hyp
   replace hyo:if bi inner y.f 3 then _ else _:=hyo
   rw [if_pos hyb] at hyo
   exact hnx _ hyo ⟨rfl,hyp⟩
  ·simp [rqC]
  ·exact ones_set hro rfl
theorem dgs5 (hb:bi inner (kf kd) 5=true) (hG:DgG inner kd g g2 all off o R 5 w) (hk:∀w',DgG inner kd g g2 all off o R (5+1) w'∨DgB inner g g2 all off o R w'→K w') :
  CallV π Z 209 #[.pointer (some ⟨g,0,none⟩)] w fun t w=>rN π Z (Instr.fieldAt 35 (.pointer (some ⟨g2,0,none⟩)) 7) w fun a w=>rO π Z (Instr.storeAt 2 a t) w K:=by
 obtain ⟨f,vd,va,vw,hfk,hcut,hok,hh,hu,hva,hvw,hS⟩:=hG
 have hbf:bi inner f 5=true:=by rw [bi_kf hfk]; exact hb
 have hrd:=OwF.rd (hS.pick 2)
 have hro:=rqC_ones (f:=f) (Rd.one hrd.data) (Rd.one hrd.acl) (Rd.one hrd.who) (vo:=.slice none 0 0) rfl
 refine (dgInt64 Z hS).mono fun r wA hq=>?_
 (try simp only [fa_35_7,Nat.zero_add])
 rcases hq with ⟨x,hx,_,hh2,hu2,rfl,hS⟩ | ⟨rfl,hnx,off',e',he',hS⟩
 ·have hbf':bi inner { f with ses:=x } 5=true:=hbf
  obtain ⟨a1,a2,a3,a4⟩:=good_step (inner:=inner) (all:=all) (off:=off) (i:=5) (by omega) (f:=f) (f':={ f with ses:=x }) (by rw [← hcut]; rfl) hok (by show (if bi inner f 5 then _ else _); rw [if_pos hbf]; exact hx) hh (by show Has all _ (p5 inner { f with ses:=x }); rw [p5,if_pos hbf']; exact hh2) hu (fun y hy hc hyp=>by
    obtain ⟨hyb,hyo⟩:=y_has (i:=5) (by omega) hbf hy hc
    replace hyp:Has all _ (p5 inner y.f):=hyp
    rw [p5,if_pos hyb] at hyp
    replace hyo:if bi inner y.f 5 then _ else _:=hyo
    rw [if_pos hyb] at hyo
    have hv:=hu2 _ hyo hyp
    subst hv
    rw [← hc]; rfl)
  refine r_store hS.swap one2 (by simp [rqC]) rfl fun wB hS=>hk _ (.inl ⟨{ f with ses:=x },vd,va,vw,hfk,by rw [← hcut]; rfl,a1,a2,a3,fun h=>hva (by omega),fun h=>hvw (by omega),?_⟩)
  rw [a4]
  have e9:pc inner { f with ses:=x } 5=_:=if_pos hbf'
  rw [e9]
  exact hS.swap
 ·refine r_store hS.swap one2 (by simp [rqC]) rfl fun wB hS=>hk _ (.inr ⟨fun y hy hhy=>?_,off',e',_,he',?_,?_,hS.swap.pick 2 |>.drop⟩)
  ·obtain ⟨hyb,hyo⟩:=y_has (i:=5) (by omega) hbf hy (hu y hy hhy)
   have hyp:Has all _ (p5 inner y.f):=piece_at (i:=5) (by omega) (hu y hy hhy) hhy
   rw [p5,if_pos hyb] at hyp
   replace hyo:if bi inner y.f 5 then _ else _:=hyo
   rw [if_pos hyb] at hyo
   exact hnx _ hyo ⟨rfl,hyp⟩
  ·simp [rqC]
  ·exact ones_set hro rfl
theorem dgs6 (hb:bi inner (kf kd) 6=true) (hG:DgG inner kd g g2 all off o R 6 w) (hk:∀w',DgG inner kd g g2 all off o R (6+1) w'∨DgB inner g g2 all off o R w'→K w') :
  CallV π Z 236 #[.pointer (some ⟨g,0,none⟩)] w fun t w=>rN π Z (Instr.fieldAt 35 (.pointer (some ⟨g2,0,none⟩)) 8) w fun a w=>rO π Z (Instr.storeAt 21 a t) w K:=by
 obtain ⟨f,vd,va,vw,hfk,hcut,hok,hh,hu,hva,hvw,hS⟩:=hG
 have hbf:bi inner f 6=true:=by rw [bi_kf hfk]; exact hb
 have hrd:=OwF.rd (hS.pick 2)
 have hro:=rqC_ones (f:=f) (Rd.one hrd.data) (Rd.one hrd.acl) (Rd.one hrd.who) (vo:=.slice none 0 0) rfl
 refine (dgInt32 Z hS).mono fun r wA hq=>?_
 (try simp only [fa_35_8,Nat.zero_add])
 rcases hq with ⟨x,hx,_,hh2,hu2,rfl,hS⟩ | ⟨rfl,hnx,off',e',he',hS⟩
 ·have hbf':bi inner { f with tmo:=x } 6=true:=hbf
  obtain ⟨a1,a2,a3,a4⟩:=good_step (inner:=inner) (all:=all) (off:=off) (i:=6) (by omega) (f:=f) (f':={ f with tmo:=x }) (by rw [← hcut]; rfl) hok (by show (if bi inner f 6 then _ else _); rw [if_pos hbf]; exact hx) hh (by show Has all _ (p6 inner { f with tmo:=x }); rw [p6,if_pos hbf']; exact hh2) hu (fun y hy hc hyp=>by
    obtain ⟨hyb,hyo⟩:=y_has (i:=6) (by omega) hbf hy hc
    replace hyp:Has all _ (p6 inner y.f):=hyp
    rw [p6,if_pos hyb] at hyp
    replace hyo:if bi inner y.f 6 then _ else _:=hyo
    rw [if_pos hyb] at hyo
    have hv:=hu2 _ hyo hyp
    subst hv
    rw [← hc]; rfl)
  refine r_store hS.swap one21 (by simp [rqC]) rfl fun wB hS=>hk _ (.inl ⟨{ f with tmo:=x },vd,va,vw,hfk,by rw [← hcut]; rfl,a1,a2,a3,fun h=>hva (by omega),fun h=>hvw (by omega),?_⟩)
  rw [a4]
  have e9:pc inner { f with tmo:=x } 6=_:=if_pos hbf'
  rw [e9]
  exact hS.swap
 ·refine r_store hS.swap one21 (by simp [rqC]) rfl fun wB hS=>hk _ (.inr ⟨fun y hy hhy=>?_,off',e',_,he',?_,?_,hS.swap.pick 2 |>.drop⟩)
  ·obtain ⟨hyb,hyo⟩:=y_has (i:=6) (by omega) hbf hy (hu y hy hhy)
   have hyp:Has all _ (p6 inner y.f):=piece_at (i:=6) (by omega) (hu y hy hhy) hhy
   rw [p6,if_pos hyb] at hyp
   replace hyo:if bi inner y.f 6 then _ else _:=hyo
   rw [if_pos hyb] at hyo
   exact hnx _ hyo ⟨rfl,hyp⟩
  ·simp [rqC]
  ·exact ones_set hro rfl
theorem dgs4 (hb:bi inner (kf kd) 4=true) (hG:DgG inner kd g g2 all off o R 4 w) (hk:∀w',DgG inner kd g g2 all off o R (4+1) w'∨DgB inner g g2 all off o R w'→K w') :
  CallV π Z 210 #[.pointer (some ⟨g,0,none⟩)] w fun t w=>rN π Z (Instr.fieldAt 35 (.pointer (some ⟨g2,0,none⟩)) 5) w fun a w=>rO π Z (Instr.storeAt 4 a t) w fun w=>
  CallV π Z 210 #[.pointer (some ⟨g,0,none⟩)] w fun t w=>rN π Z (Instr.fieldAt 35 (.pointer (some ⟨g2,0,none⟩)) 6) w fun a w=>rO π Z (Instr.storeAt 4 a t) w K:=by
 obtain ⟨f,vd,va,vw,hfk,hcut,hok,hh,hu,hva,hvw,hS⟩:=hG
 have hbf:bi inner f 4=true:=by rw [bi_kf hfk]; exact hb
 have hrd:=OwF.rd (hS.pick 2)
 have hro:=rqC_ones (f:=f) (Rd.one hrd.data) (Rd.one hrd.acl) (Rd.one hrd.who) (vo:=.slice none 0 0) rfl
 refine (dgBool Z hS).mono fun r wA hq=>?_
 (try simp only [fa_35_6,Nat.zero_add,fa_35_5])
 have bad:∀y,okR inner y→Has all off (reqI inner y)→∃a b,Has all (off+(pre inner f 4).length) (encB a++encB b):=fun y hy hhy=>by
  obtain ⟨hyb,_⟩:=y_has (i:=4) (by omega) hbf hy (hu y hy hhy)
  have hyp:Has all _ (p4 inner y.f):=piece_at (i:=4) (by omega) (hu y hy hhy) hhy
  rw [p4,if_pos hyb] at hyp
  exact ⟨_,_,hyp⟩
 rcases hq with ⟨x,_,_,hh2,hu2,rfl,hS⟩ | ⟨rfl,hnx,off',e',he',hS⟩
 ·refine r_store hS.swap one4 (by simp [rqC]) rfl fun wB hS=>?_
  refine (dgBool Z hS.swap).mono fun r wA hq=>?_
  skip
  rcases hq with ⟨x2,_,_,hh3,hu3,rfl,hS⟩ | ⟨rfl,hnx,off',e',he',hS⟩
  ·have hbf':bi inner { f with eph:=x,seq:=x2 } 4=true:=hbf
   obtain ⟨a1,a2,a3,a4⟩:=good_step (inner:=inner) (all:=all) (off:=off) (i:=4) (by omega) (f:=f) (f':={ f with eph:=x,seq:=x2 }) (by rw [← hcut]; rfl) hok (by show (if bi inner f 4 then _ else _); rw [if_pos hbf]; exact trivial) hh (by show Has all _ (p4 inner { f with eph:=x,seq:=x2 }); rw [p4,if_pos hbf']; exact Has.split.2 ⟨hh2,hh3⟩) hu (fun y hy hc hyp=>by
     obtain ⟨hyb,hyo⟩:=y_has (i:=4) (by omega) hbf hy hc
     replace hyp:Has all _ (p4 inner y.f):=hyp
     rw [p4,if_pos hyb] at hyp
     have hv:=hu2 _ trivial hyp.left
     have hyp2:=hyp.right
     rw [hv] at hyp2
     have hv2:=hu3 _ trivial hyp2
     subst hv; subst hv2
     rw [← hc]; rfl)
   refine r_store hS.swap one4 (by simp [rqC]) rfl fun wB hS=>hk _ (.inl ⟨{ f with eph:=x,seq:=x2 },vd,va,vw,hfk,by rw [← hcut]; rfl,a1,a2,a3,fun h=>hva (by omega),fun h=>hvw (by omega),?_⟩)
   rw [a4]
   have e9:pc inner { f with eph:=x,seq:=x2 } 4=_:=if_pos hbf'
   rw [e9,List.length_append,← Nat.add_assoc]
   exact hS.swap
  ·refine r_store hS.swap one4 (by simp [rqC]) rfl fun wB hS=>hk _ (.inr ⟨fun y hy hhy=>?_,off',e',_,he',?_,?_,hS.swap.pick 2 |>.drop⟩)
   ·obtain ⟨a,b,hab⟩:=bad y hy hhy
    have hv:=hu2 _ trivial hab.left
    have h3:=hab.right
    rw [hv] at h3
    exact hnx _ trivial ⟨rfl,h3⟩
   ·simp [rqC]
   ·exact ones_set (ones_set hro rfl) rfl
 ·refine r_store hS.swap one4 (by simp [rqC]) rfl fun wB hS=>?_
  refine (dgBool Z hS.swap).mono fun r wA hq=>?_
  skip
  rcases hq with ⟨x2,_,h0,_⟩ | ⟨rfl,_,off2,e2,he2,hS⟩
  ·exact absurd h0 he'
  ·refine r_store hS.swap one4 (by simp [rqC]) rfl fun wB hS=>hk _ (.inr ⟨fun y hy hhy=>?_,off2,e2,_,he2,?_,?_,hS.swap.pick 2 |>.drop⟩)
   ·obtain ⟨a,b,hab⟩:=bad y hy hhy
    exact hnx _ trivial ⟨rfl,hab.left⟩
   ·simp [rqC]
   ·exact ones_set (ones_set hro rfl) rfl
theorem dgs1 (hb:bi inner (kf kd) 1=true) (hG:DgG inner kd g g2 all off o R 1 w) (hk:∀w',DgG inner kd g g2 all off o R (1+1) w'∨DgB inner g g2 all off o R w'→K w') :
  CallV π Z 212 #[.pointer (some ⟨g,0,none⟩),.int .i64 96] w fun t w=>rN π Z (Instr.fieldAt 35 (.pointer (some ⟨g2,0,none⟩)) 2) w fun a w=>rO π Z (Instr.storeAt 30 a t) w K:=by
 obtain ⟨f,vd,va,vw,hfk,hcut,hok,hh,hu,hva,hvw,hS⟩:=hG
 have hbf:bi inner f 1=true:=by rw [bi_kf hfk]; exact hb
 have hrd:=OwF.rd (hS.pick 2)
 have hro:=rqC_ones (f:=f) (Rd.one hrd.data) (Rd.one hrd.acl) (Rd.one hrd.who) (vo:=.slice none 0 0) rfl
 have hle:=RefR.le hS
 refine (dBuffer Z 96 hS).mono fun r wA ⟨x,off',e',hv,hS⟩=>?_
 (try simp only [fa_35_2,Nat.zero_add])
 have hone:=St.own_one hS
 refine r_store (hS.pick 2) one30 (by simp [rqC]) hone fun wB hS=>?_
 rcases sz_gets hle hv with ⟨hx,_,rfl,hh2,rfl,hu2⟩ | ⟨rfl,he',hnx⟩
 ·have hbf':bi inner { f with data:=x } 1=true:=hbf
  obtain ⟨a1,a2,a3,a4⟩:=good_step (inner:=inner) (all:=all) (off:=off) (i:=1) (by omega) (f:=f) (f':={ f with data:=x }) (by rw [← hcut]; rfl) hok (by show (if bi inner f 1 then _ else _); rw [if_pos hbf]; exact hx) hh (by show Has all _ (p1 inner { f with data:=x }); rw [p1,if_pos hbf']; exact hh2) hu (fun y hy hc hyp=>by
    obtain ⟨hyb,hyo⟩:=y_has (i:=1) (by omega) hbf hy hc
    replace hyp:Has all _ (p1 inner y.f):=hyp
    rw [p1,if_pos hyb] at hyp
    replace hyo:if bi inner y.f 1 then _ else _:=hyo
    rw [if_pos hyb] at hyo
    have hv:=hu2 _ hyo hyp
    subst hv
    rw [← hc]; rfl)
  refine hk _ (.inl ⟨{ f with data:=x },r,va,vw,hfk,by rw [← hcut]; rfl,a1,a2,a3,fun h=>hva (by omega),fun h=>hvw (by omega),?_⟩)
  rw [a4]
  have e9:pc inner { f with data:=x } 1=_:=if_pos hbf'
  rw [e9]
  -- blk own RefR OwF
  have h1:=OwF.data ((hS.pick 3).pick 2)
  exact h1.swap.pick 2
 ·refine hk _ (.inr ⟨fun y hy hhy=>?_,off',e',_,he',?_,?_,(hS.pick 2).pick 2 |>.pick 3 |>.drop |>.drop |> fun _=>((hS.pick 3).drop.swap.drop).swap⟩)
  ·obtain ⟨hyb,hyo⟩:=y_has (i:=1) (by omega) hbf hy (hu y hy hhy)
   have hyp:Has all _ (p1 inner y.f):=piece_at (i:=1) (by omega) (hu y hy hhy) hhy
   rw [p1,if_pos hyb] at hyp
   replace hyo:if bi inner y.f 1 then _ else _:=hyo
   rw [if_pos hyb] at hyo
   exact hnx _ hyo ⟨rfl,hyp⟩
  ·simp [rqC]
  ·exact ones_set hro hone
end
end Go.Proofs.YtfijkedmbaghmaaGreatDoor

/- Lists that the document's read reads, element by element. -/
set_option linter.unusedVariables false
set_option linter.unusedSimpArgs false
namespace Go.Proofs.YtfijkedmbaghmaaGreatDoor
open Go.Sh
open Tryz renaming prog → π
section
variable {α β:Type} {o w:World} {g:Nat} {all:List UInt8} {off off1:Nat} {e:α→List UInt8} {ok:α→Prop} {κ:α→β} {cells:α→List Value} {Own:α→HProp} {sz:Nat} {t:TypeId} {n k:Nat} {Rst:Value→List HProp} {v:Value}
def DL (e:α→List UInt8) (ok:α→Prop) (κ:α→β) (cells:α→List Value) (Own:α→HProp) (sz:Nat) (t:TypeId) (n:Nat) (g:Nat) (all:List UInt8) (off:Nat) (o:World) (Rst:Value→List HProp) (v:Value) (k:Nat) (w:World):Prop:=
 (∃xs:List α,xs.length=k∧(∀x ∈ xs,ok x)∧Has all off (xs.map e).flatten∧(∀ys:List α,ys.length=n→(∀y ∈ ys,ok y)→Has all off (ys.map e).flatten→(ys.take k).map κ=xs.map κ) ∧
  (∀x ∈ xs,(cells x).length=sz∧ones (cells x))∧St o w (RefR g all (off+(xs.map e).flatten.length) 0::own t sz v k (xs.map cells).flatten::satH (xs.map Own)::Rst v)) ∨
 ((∀ys:List α,ys.length=n→(∀y ∈ ys,ok y)→¬ Has all off (ys.map e).flatten)∧∃off' e' rows S,e' ≠ 0∧ones rows∧St o w (RefR g all off' e'::own t sz v k rows::S::Rst v))
def DLF (e:α→List UInt8) (ok:α→Prop) (κ:α→β) (cells:α→List Value) (Own:α→HProp) (sz:Nat) (t:TypeId) (most:Nat) (g:Nat) (all:List UInt8) (off:Nat) (o:World) (Rst:Value→List HProp) (w:World):Prop:=
 (∃(xs:List α) (v:Value),xs.length≤most∧(∀x ∈ xs,ok x)∧Has all off (lsB xs.length (xs.map e))∧(∀ys:List α,ys.length≤most→(∀y ∈ ys,ok y)→Has all off (lsB ys.length (ys.map e))→ys.map κ=xs.map κ) ∧
  St o w (RefR g all (off+(lsB xs.length (xs.map e)).length) 0::own t sz v xs.length (xs.map cells).flatten::satH (xs.map Own)::Rst v)) ∨
 ((∀ys:List α,ys.length≤most→(∀y ∈ ys,ok y)→¬ Has all off (lsB ys.length (ys.map e)))∧∃off' e' v k rows S,e' ≠ 0∧St o w (RefR g all off' e'::own t sz v k rows::S::Rst v))
theorem DL.start (h:St o w (RefR g all off 0::Rst (.slice none 0 0))):DL e ok κ cells Own sz t n g all off o Rst (.slice none 0 0) 0 w:=
 .inl ⟨[],rfl,by simp,⟨all.drop off,rfl⟩,fun ys _ _ _=>by simp,by simp,((h.emp.mono fun _ _=>(trivial:satH (([]:List α).map Own) _)).own_nil t sz).pick 2⟩
theorem DL.read (hke:∀x y,κ x=κ y→e x=e y) (hk:k < n) (h:DL e ok κ cells Own sz t n g all off o Rst v k w):∃off' e' rows S,ones rows∧St o w (RefR g all off' e'::own t sz v k rows::S::Rst v) ∧
  ∀r w',DGE e ok κ cells Own sz g all off' e' o (own t sz v k rows::S::Rst v) r w'→∃cs off2 e2 S2,r=.agg cs.toArray∧cs.length=sz∧ones cs∧St o w' (RefR g all off2 e2::own t sz v k rows::S2::Rst v) ∧
   ∀v' w2,St o w2 (RefR g all off2 e2::own t sz v' (k+1) (rows++cs)::S2::Rst v')→DL e ok κ cells Own sz t n g all off o Rst v' (k+1) w2:=by
 rcases h with ⟨xs,hl,hok,hh,hu,hcs,hS⟩ | ⟨hno,off',e',rows,S,he',hro,hS⟩
 ·refine ⟨_,_,_,_,fun u hu=>by obtain ⟨c,hc,hu⟩:=List.mem_flatten.1 hu; obtain ⟨x,hx,rfl⟩:=List.mem_map.1 hc; exact (hcs x hx).2 u hu,hS,fun r w' hq=>?_⟩
  have next:∀ys:List α,ys.length=n→(∀y ∈ ys,ok y)→Has all off (ys.map e).flatten→∃hkl:k < ys.length,(ys.take k).map κ=xs.map κ∧Has all (off+(xs.map e).flatten.length) (e ys[k]):=fun ys hyl hyk hyh=>by
   have hkl:k < ys.length:=by omega
   have h1:=hu ys hyl hyk hyh
   obtain ⟨rest,hr⟩:=flat_split e ys k hkl
   rw [hr,map_flat hke _ _ h1] at hyh
   exact ⟨hkl,h1,hyh.right.left⟩
  rcases hq with ⟨x,hx,_,hh2,hu2,hr,hcl,hco,hS⟩ | ⟨⟨cs,hr,hcl,hco⟩,hno,off2,e2,he2,hS⟩
  ·have hS:=hS.pick 1
   have hS:St o w' (satH ((xs++[x]).map Own)::RefR g all (off+(xs.map e).flatten.length+(e x).length) 0::own t sz v k (xs.map cells).flatten::Rst v):=by
    have e3:(xs++[x]).map Own=xs.map Own++[Own x]:=by simp
    rw [e3]
    exact (hS.pick 3).all_snoc
   refine ⟨cells x,_,_,_,hr,hcl,hco,hS.put 2,fun v' w2 hS=>.inl ⟨xs++[x],by simp [hl],?_,?_,?_,?_,?_⟩⟩
   ·intro y hy
    rcases List.mem_append.1 hy with hy | hy
    ·exact hok y hy
    ·rw [List.mem_singleton.1 hy]; exact hx
   ·rw [List.map_append,List.flatten_append]
    exact Has.split.2 ⟨hh,by simpa using hh2⟩
   ·intro ys hyl hyk hyh
    obtain ⟨hkl,h1,h2⟩:=next ys hyl hyk hyh
    have h3:=hu2 _ (hyk _ (List.getElem_mem hkl)) h2
    rw [List.take_succ_eq_append_getElem hkl,List.map_append,List.map_append,h1]
    simp [h3]
   ·intro y hy
    rcases List.mem_append.1 hy with hy | hy
    ·exact hcs y hy
    ·rw [List.mem_singleton.1 hy]; exact ⟨hcl,hco⟩
   ·have e4:((xs++[x]).map e).flatten.length=(xs.map e).flatten.length+(e x).length:=by simp
    have e5:((xs++[x]).map cells).flatten=(xs.map cells).flatten++cells x:=by simp
    rw [e4,e5,← Nat.add_assoc]
    exact hS
  ·refine ⟨cs,off2,e2,_,hr,hcl,hco,hS,fun v' w2 hS=>.inr ⟨fun ys hyl hyk hyh=>?_,off2,e2,_,_,he2,?_,hS⟩⟩
   ·obtain ⟨hkl,_,h2⟩:=next ys hyl hyk hyh
    exact hno _ (hyk _ (List.getElem_mem hkl)) ⟨rfl,h2⟩
   ·intro u hu
    rcases List.mem_append.1 hu with hu | hu
    ·obtain ⟨c,hc,hu⟩:=List.mem_flatten.1 hu
     obtain ⟨x,hx,rfl⟩:=List.mem_map.1 hc
     exact (hcs x hx).2 u hu
    ·exact hco u hu
 ·refine ⟨_,_,_,_,hro,hS,fun r w' hq=>?_⟩
  rcases hq with ⟨x,_,h0,_⟩ | ⟨⟨cs,hr,hcl,hco⟩,_,off2,e2,he2,hS⟩
  ·exact absurd h0 he'
  ·refine ⟨cs,off2,e2,_,hr,hcl,hco,hS,fun v' w2 hS=>.inr ⟨hno,off2,e2,_,_,he2,?_,hS⟩⟩
   intro u hu
   rcases List.mem_append.1 hu with hu | hu
   ·exact hro u hu
   ·exact hco u hu
theorem DL.fin {most:Nat} (hn:n≤most) (hh4:Has all off (enc 4 (IntKind.i32.wrap n))) (hlen:∀ys:List α,(ys.length:Int)≤(most:Int)→Has all off (lsB ys.length (ys.map e))→ys.length=n) (h:DL e ok κ cells Own sz t n g all (off+4) o Rst v n w) :
  DLF e ok κ cells Own sz t most g all off o Rst w:=by
 have key:∀ys:List α,ys.length≤most→Has all off (lsB ys.length (ys.map e))→ys.length=n∧Has all (off+4) (ys.map e).flatten:=fun ys hl hh=>by
  refine ⟨hlen ys (by omega) hh,?_⟩
  have:=hh.right
  rwa [enc_length] at this
 rcases h with ⟨xs,hl,hok,hh,hu,hcs,hS⟩ | ⟨hno,off',e',rows,S,he',hro,hS⟩
 ·subst hl
  refine .inl ⟨xs,v,hn,hok,Has.split.2 ⟨hh4,by rw [enc_length]; exact hh⟩,fun ys hyl hyk hyh=>?_,?_⟩
  ·obtain ⟨h1,h2⟩:=key ys hyl hyh
   have h3:=hu ys h1 hyk h2
   rw [← h1,List.take_length] at h3
   exact h3
  ·rw [lsB,List.length_append,enc_length,← Nat.add_assoc]
   exact hS
 ·refine .inr ⟨fun ys hyl hyk hyh=>?_,off',e',v,n,rows,S,he',hS⟩
  obtain ⟨h1,h2⟩:=key ys hyl hyh
  exact hno ys h1 hyk h2
end
section
variable {P:Program} {Z:PZ} {o w:World} {R:List HProp}
theorem r_pushS {t e ty:TypeId} {sz bt:Nat} {z:Value} {v:Value} {n:Nat} {xs:List Value} {kk:PQ} {vv:Value} {s:Sem Next} (hel:El P t e sz bt z) (h:St o w (own e sz v n xs::R)) (us:List Value) (hus:us.length=sz) (hu:ones us) (hsz:sz≤16777216) (hb:(n+1) * bt≤140737488355328) (hm:n+1≤maxLen)
  (hs:∀(w':World) (A:Prop),St o w' (own e sz v n xs::R)→A→Still P s vv w' A)
  (hk:∀v' w',St o w' (own e sz v' (n+1) (xs++us)::R)→kk v' w'):rN P Z (Instr.buildSlice t 1 #[(0,.agg us.toArray)]) w fun x w=>Still P s vv w (rN P Z (Builtin.append_ #[t,t] ty #[v,x]) w kk):=by
 refine r_sliceN hel h 1 _ [us] rfl (by omega) (by omega) (by omega) (by simpa using hus) rfl fun g w1 hS=>?_
 have e1:[us].flatten=us:=by simp
 rw [e1] at hS
 refine hs _ _ hS.drop ?_
 have hsrc:=(hS.own_rd List.mem_cons_self).src hel.ht hu
 exact r_append hel hS.swap hsrc hb hm fun v' w2 hS2=>hk v' w2 hS2.swap.drop
end
section
variable (Z:PZ) {o w:World} {R:List HProp} {g:Nat} {all:List UInt8} {off:Nat} {err:Int}
theorem enRead (h:St o w (RefR g all off err::R)):CallV π Z 165 #[.pointer (some ⟨g,0,none⟩)] w fun r w1=>∃p off1 e1,r=.int .i8 p∧St o w1 (RefR g all off1 e1::R) ∧
  ∀r2 w2,DGE idB okId id idC (fun _=>emp) 2 g all off1 e1 o R r2 w2→∃ys,r2=.agg ys.toArray∧ys.length=2∧ones ys∧DGE enB okEn id enC (fun _=>emp) 3 g all off err o R (.agg (Value.int .i8 p::ys).toArray) w2:=by
 refine (dgInt8 Z h).mono fun r w1 hq=>?_
 have hcons:∀(p:Int) (ys:List Value),ones ys→ones (Value.int .i8 p::ys):=fun p ys ho u hu=>by
  rcases List.mem_cons.1 hu with rfl | hu
  ·rfl
  ·exact ho u hu
 rcases hq with ⟨p,hp,rfl,hh,hu,rfl,hS⟩ | ⟨rfl,hno,off',e',he',hS⟩
 ·refine ⟨p,_,_,rfl,hS,fun r2 w2 hq=>?_⟩
  rcases hq with ⟨x,hx,_,hh2,hu2,rfl,hl,hon,hS⟩ | ⟨⟨xs,rfl,hl,hon⟩,hno,off',e',he',hS⟩
  ·refine ⟨idC x,rfl,hl,hon,.inl ⟨⟨p,x⟩,⟨hp,hx⟩,rfl,Has.split.2 ⟨hh,hh2⟩,fun y hy hhy=>?_,rfl,rfl,enB_ones _,?_⟩⟩
   ·have h1:=hu _ hy.1 hhy.left
    have h2:=hhy.right
    rw [h1] at h2
    have h2:=hu2 _ hy.2 h2
    cases y; simp_all
   ·have e1:(enB ⟨p,x⟩).length=(enc 1 p).length+(idB x).length:=by rw [enB,List.length_append]
    rw [e1,← Nat.add_assoc]
    exact hS
  ·refine ⟨xs,rfl,hl,hon,.inr ⟨⟨_,rfl,by simp [hl],hcons _ _ hon⟩,fun y hy ⟨_,hhy⟩=>?_,off',e',he',hS⟩⟩
   have h1:=hu _ hy.1 hhy.left
   have h2:=hhy.right
   rw [h1] at h2
   exact hno _ hy.2 ⟨rfl,h2⟩
 ·refine ⟨_,_,_,rfl,hS,fun r2 w2 hq=>?_⟩
  rcases hq with ⟨x,_,h0,_⟩ | ⟨⟨xs,rfl,hl,hon⟩,_,off2,e2,he2,hS⟩
  ·exact absurd h0 he'
  ·exact ⟨xs,rfl,hl,hon,.inr ⟨⟨_,rfl,by simp [hl],hcons _ _ hon⟩,fun y hy ⟨h0,hhy⟩=>hno _ hy.1 ⟨h0,hhy.left⟩,off2,e2,he2,hS⟩⟩
end

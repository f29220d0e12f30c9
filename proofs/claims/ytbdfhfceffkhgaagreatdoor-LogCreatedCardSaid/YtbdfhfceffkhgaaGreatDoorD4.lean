
/- slices.Insert and slices.Delete over a disk's files; make, take. -/
import Derived.Test.YtbdfhfceffkhgaaGreatDoorD6
set_option linter.unusedVariables false
set_option linter.unusedSimpArgs false
namespace Go.Proofs.YtbdfhfceffkhgaaGreatDoor
open Go.Sh
open Tryz renaming prog → π
section
variable (Z:PZ) {o w:World} {R As:List HProp} {g:Nat} {d:Dk} {v:Value} {L:List (Fil × Value)}
theorem setL_at {k:Nat} (pre ys zs:List Value) (hk:pre.length=k) (h:ys.length≤zs.length):setL (pre++zs) k ys=pre++(ys++zs.drop ys.length):=by subst hk; exact setL_append pre ys zs h
theorem fInsert {n i g2:Nat} {xs us:List Value} (h:St o w (own 97 3 v n xs::own 97 3 (.slice (some ⟨g2,0,none⟩) 1 1) 1 us::R)) (hpl:w.heap[g2]? = some (.cells us.toArray 97)) (hxo:ones xs) (huo:ones us) (hi:i≤n) (hn:n≤1000) :
  CallV π Z 134 #[v,.int .i64 i,.slice (some ⟨g2,0,none⟩) 1 1] w fun r w'=>St o w' (own 97 3 r (n+1) (xs.take (i * 3)++(us++xs.drop (i * 3)))::R):=by
 have hur:=h.own_rd m1
 have hul:us.length=3:=by have:=hur.1; omega
 have hus:us.take 3=us:=List.take_of_length_le (by omega)
 have hv0:=h.own_form
 obtain ⟨hl,hv⟩:=h.own_open
 obtain ⟨va,vc,hvf⟩:=hv0
 refine f134.calls ?_
 unfold f134.sh
 by_cases hin:i=n
 ·subst hin
  have hsl:∀w,∃u,(Instr.sliceAt 72 v (some (.int .i64 i)) none none).run π w=.ok u w:=fun w=>by
   rw [hvf]; exact ⟨_,run_slice_from el72 va i vc .i64 (i:Int) (by omega) (by omega) w⟩
  obtain ⟨u,hu⟩:=hsl w
  refine r1 hu ?_
  subst hvf
  have e1:(((1:Nat):Int) == 0)=false:=by decide
  (try simp only [ln_72_3,o_eql,beq_self_eq_true,condT,e1,condF])
  refine r_append el72 h (hur.src Tryz.underlying72 huo) (by omega) (by simp only [maxLen]; omega) fun v' w1 hS=>?_
  rw [List.take_of_length_le (by omega),List.drop_of_length_le (by omega),List.append_nil]
  exact hS.swap.drop
 have hlt:i < n:=by omega
 rcases hv with ⟨_,hz,_⟩ | ⟨g,cap,rest,rfl,hnc,hcm,hcl,hS⟩
 ·omega
 simp only [maxLen] at hcm
 rw [List.length_append,hl] at hcl
 have hne:g2 ≠ g:=by
  have:=(hS.pick 1)
  obtain ⟨_,⟨hx,_⟩ | ⟨g',c',r',hx,_,_,_,hB⟩⟩:=St.own_open this
  ·cases hx
  ·injection hx with hx _ _
   injection hx with hx
   injection hx with hx _ _
   rw [hx]; exact hB.ne
 have hnz:((i:Int) == (n:Int))=false:=by simp; omega
 obtain ⟨A,B,rfl,hal,hbl⟩:∃A B,xs=A++B∧A.length=i * 3∧B.length=(n - i) * 3:=⟨xs.take (i * 3),xs.drop (i * 3),(List.take_append_drop _ _).symm,by rw [List.length_take,hl]; omega,by rw [List.length_drop,hl]; omega⟩
 rw [List.take_left' hal,List.drop_left' hal]
 have hto:∀a:Nat,((a:Nat):Int).toNat=a:=fun a=>Int.toNat_natCast a
 refine r1 (run_slice_from el72 _ _ _ .i64 (i:Int) (by omega) (by omega) _) ?_
 have e1:(((1:Nat):Int) == 0)=false:=by decide
 (try simp only [ln_72_3,o_eql,hnz,condF,o_addp,o_add,o_sub,e1])
 rw [wr_i64 (x:=(n:Int)+((1:Nat):Int)) (by omega) (by omega)]
 refine r1 (run_cap sl72 _ _ _ _ _) ?_
 have hone:=hxo
 by_cases hg:(cap:Int) < (n:Int)+((1:Nat):Int)
 ·have hcn:cap=n:=by omega
  (try simp only [o_gtr,hg,decide_true,condT])
  refine r1 (run_slice_to el72 _ _ _ .i64 (i:Int) (by omega) (by omega) _) ?_
  rw [hto]
  rw [wr_i64 (x:=(n:Int)+((1:Nat):Int) - (i:Int)) (by omega) (by omega),show (n:Int)+((1:Nat):Int) - (i:Int)=((n+1 - i:Nat):Int) by omega]
  have hrdA:Rd w 3 (.slice (some ⟨g,0,none⟩) i cap) i A:=hS.rd_blk m0 _ hal (by simp only [maxLen]; omega) (left_at (n:=0) (fun j v hv=>by rw [Nat.zero_add,List.getElem?_append_left (List.getElem?_eq_some_iff.1 hv).1]; exact hv) rest)
  refine r_appendZ (kn:=.i64) el72 Tryz.underlying3 hS hrdA (by omega) (by omega) (by omega) (by simp only [maxLen]; omega) fun g' c' rest' w1 hc1 hc2 hcl' hS=>?_
  simp only [maxLen] at hc2
  generalize hZ:(Builtin.zeroCells (Value.agg #[(.string ByteArray.empty),(.slice none 0 0),(.int .i64 0)]).cells (n+1 - i)).toList=Zs at hcl' hS
  have hZl:Zs.length=(n+1 - i) * 3:=by rw [← hZ,zeroCells_len]; rfl
  rw [List.length_append,List.length_append,hal,hZl] at hcl'
  rw [show i+(n+1 - i)=n+1 by omega] at hc1 ⊢
  refine r1 (run_slice_from el72 _ _ _ .i64 (i:Int) (by omega) (by omega) _) ?_
  rw [if_neg (by omega),hto,Option.map_some,add_addr,Nat.zero_add]
  refine r_copy el72 hS (hS.own_rd m2) huo (by simp only [List.length_append,hal,hZl]; omega) fun w2 hS=>?_
  rw [show min 1 (n+1 - i) * 3=3 by omega,hus,setL_at _ _ _ hal (by rw [List.length_append]; omega),hul] at hS
  refine ⟨fun w3 hd=>?_⟩
  have hS:=hS.drew hd
  skip
  rw [wr_i64 (x:=(i:Int)+((1:Nat):Int)) (by omega) (by omega)]
  refine rp (fun w=>run_slice_from el72 _ _ _ .i64 ((i:Int)+((1:Nat):Int)) (by omega) (by omega) w) ?_
  rw [show ((i:Int)+((1:Nat):Int)).toNat=i+1 by omega,if_neg (by omega),Option.map_some,add_addr,Nat.zero_add]
  refine rp (fun w=>run_slice_from el72 _ _ _ .i64 (i:Int) (by omega) (by omega) w) ?_
  rw [hto,if_neg (by omega),Option.map_some,add_addr,Nat.zero_add]
  refine r_copy el72 hS (hS.rd_blk m1 B hbl (by simp only [maxLen]; omega) (left_at (fun j v hv=>by rw [← hal,List.getElem?_append_right (by omega),Nat.add_sub_cancel_left]; exact hv) rest)) (fun u hu=>hxo u (List.mem_append_right _ hu)) (by simp only [List.length_append,List.length_drop,hal,hZl,hul]; omega) fun w4 hS=>?_
  have hA2:(A++us).length=(i+1) * 3:=by rw [List.length_append,hal,hul]; omega
  rw [show min (n - i) (n+1 - (i+1)) * 3=B.length by rw [hbl]; omega,List.take_length,← List.append_assoc,setL_at _ _ _ hA2 (by simp only [List.length_append,List.length_drop,hZl,hbl]; omega)] at hS
  have hS:=hS.own_mk (sz:=3) (n+1) hc1 (by simp only [maxLen]; omega) (by simp only [List.length_append,List.length_drop,hal,hul,hZl,hbl]; omega)
  rw [List.append_assoc,← List.append_assoc us,← List.append_assoc A,List.take_left' (by simp only [List.length_append,hal,hul,hbl]; omega)] at hS
  exact (hS.swap.drop.swap.drop)
 ·(try simp only [o_gtr,hg,decide_false,condF])
  refine r1 (run_slice_to el72 _ _ _ .i64 ((n:Int)+((1:Nat):Int)) (by omega) (by omega) _) ?_
  rw [show ((n:Int)+((1:Nat):Int)).toNat=n+1 by omega]
  rw [wr_i64 (x:=(i:Int)+((1:Nat):Int)) (by omega) (by omega)]
  refine r1 (run_slice_from el72 _ _ _ .i64 ((i:Int)+((1:Nat):Int)) (by omega) (by omega) _) ?_
  rw [show ((i:Int)+((1:Nat):Int)).toNat=i+1 by omega,if_neg (by omega),Option.map_some,add_addr,Nat.zero_add]
  have hxne:(A++B)++rest ≠ []:=by
   intro e
   have:=congrArg List.length e
   rw [List.length_append,hl] at this
   simp at this; omega
  have hov:(callFunc 177 #[.slice (some ⟨g2,0,none⟩) 1 1,.slice (some ⟨g,(i+1) * 3,none⟩) (n+1 - (i+1)) (cap - (i+1))]).run π w=.ok (.value (.bool false)) w:=by
   rw [run_callFunc_extern Tryz.func177 (by kernel_rfl) (by kernel_rfl) (by kernel_rfl) (e:=Extern.SlicesOverlaps.overlaps #[72,72] #[4]) (by kernel_rfl),
    run_overlaps_fresh el72 hpl hS.head_blk hne hxne]
   rfl
  refine ⟨?_⟩
  rw [hov]
  show Sh.rN _ _ _ _ _
  (try simp only [o_not,Bool.not_false,condT])
  refine ⟨fun w1 hd=>?_⟩
  have hS:=hS.drew hd
  skip
  refine rp (fun w=>run_slice_from el72 _ _ _ .i64 ((i:Int)+((1:Nat):Int)) (by omega) (by omega) w) ?_
  rw [show ((i:Int)+((1:Nat):Int)).toNat=i+1 by omega,if_neg (by omega),Option.map_some,add_addr,Nat.zero_add]
  refine rp (fun w=>run_slice_from el72 _ _ _ .i64 (i:Int) (by omega) (by omega) w) ?_
  rw [hto,if_neg (by omega),Option.map_some,add_addr,Nat.zero_add]
  have hr3:3≤rest.length:=by omega
  obtain ⟨r3,r4,rfl,hr3l⟩:∃r3 r4,rest=r3++r4∧r3.length=3:=⟨rest.take 3,rest.drop 3,(List.take_append_drop _ _).symm,by rw [List.length_take]; omega⟩
  have hsrcl:(B++r3).length=(n+1 - i) * 3:=by rw [List.length_append,hbl,hr3l]; omega
  have hB:(B++r3).take (min (n+1 - i) (n+1 - (i+1)) * 3)=B:=List.take_left' (by rw [hbl]; omega)
  refine r_copyT el72 hS (hS.rd_blk m0 (B++r3) hsrcl (by simp only [maxLen]; omega) (fun j v hv=>by
   rw [List.append_assoc,← List.append_assoc B,List.getElem?_append_right (by rw [hal]; omega),hal,show i * 3+j - i * 3=j by omega,List.getElem?_append_left (List.getElem?_eq_some_iff.1 hv).1]; exact hv)) (by rw [hB]; exact fun u hu=>hxo u (List.mem_append_right _ hu)) (by simp only [List.length_append,hal,hbl,hr3l] at hcl ⊢; omega) fun w2 hS=>?_
  rw [hB] at hS
  obtain ⟨x3,x4,hx34,hx3l⟩:∃x3 x4,B++(r3++r4)=x3++x4∧x3.length=3:=⟨(B++(r3++r4)).take 3,(B++(r3++r4)).drop 3,(List.take_append_drop _ _).symm,by rw [List.length_take,List.length_append,List.length_append]; omega⟩
  have hx4l:x4.length=B.length+r4.length:=by
   have:=congrArg List.length hx34
   simp only [List.length_append] at this; omega
  have hprel:(A++x3).length=(i+1) * 3:=by rw [List.length_append,hal,hx3l]; omega
  rw [List.append_assoc,hx34,← List.append_assoc,setL_at _ _ _ hprel (by omega)] at hS
  have e2:((n+1:Nat):Int)=(n:Int)+1:=by omega
  refine r1 (run_slice_from el72 _ _ _ .i64 (i:Int) (by omega) (by omega) _) ?_
  rw [hto,if_neg (by omega),Option.map_some,add_addr,Nat.zero_add]
  refine r_copy el72 hS (hS.own_rd m1) huo (by simp only [List.length_append,List.length_drop,hal,hbl,hx3l]; omega) fun w3 hS=>?_
  rw [show min 1 (n+1 - i) * 3=3 by omega,hus,List.append_assoc,setL_at _ _ _ hal (by simp only [List.length_append,hx3l]; omega),hul,List.drop_left' hx3l] at hS
  have hS:=hS.own_mk (sz:=3) (cap:=cap) (n+1) (by omega) (by simp only [maxLen]; omega) (by
   simp only [List.length_append,hal,hbl,hr3l] at hcl
   simp only [List.length_append,List.length_drop,hal,hul,hbl,hx4l]; omega)
  rw [← List.append_assoc us,← List.append_assoc A,List.take_left' (by simp only [List.length_append,hal,hul,hbl]; omega)] at hS
  exact hS.swap.drop
theorem disk_put {u k:Nat} (hk:k≤L.length) {q:Fil × Value} (h:St o w (blk g 76 (dcells v u d)::own 97 3 v (L.length+1) ((L.flatMap fc).take (k * 3)++(fc q++(L.flatMap fc).drop (k * 3)))::satH (L.map fb)::fb q::R)) :
  St o w (DiskO g u d v (L.take k++q::L.drop k) R):=by
 unfold DiskO Fils
 have e1:(L.take k++q::L.drop k).length=L.length+1:=by simp; omega
 have e2:(L.take k++q::L.drop k).flatMap fc=(L.flatMap fc).take (k * 3)++(fc q++(L.flatMap fc).drop (k * 3)):=by
  have e3:L.flatMap fc=(L.take k).flatMap fc++(L.drop k).flatMap fc:=by rw [← List.flatMap_append,List.take_append_drop]
  have e4:((L.take k).flatMap fc).length=k * 3:=by rw [fc_flat,List.length_take]; omega
  rw [List.flatMap_append,List.flatMap_cons,e3,List.take_left' e4,List.drop_left' e4]
 rw [e1,e2]
 have h1:=(h.pick 2).pick 3
 have e5:satH (L.map fb)=satH ((L.take k).map fb++(L.drop k).map fb):=by rw [← List.map_append,List.take_append_drop]
 rw [e5] at h1
 have h2:St o w (satH ((L.take k).map fb++fb q::(L.drop k).map fb)::blk g 76 (dcells v u d)::own 97 3 v (L.length+1) ((L.flatMap fc).take (k * 3)++(fc q++(L.flatMap fc).drop (k * 3)))::R):=h1.all_in
 rw [List.map_append,List.map_cons]
 exact (h2.pick 2).pick 2
theorem dMake (n:Bs) (u:Nat) (h:St o w (DiskO g u d v L R)) (hs:Srt (L.map (·.1))) (hl:L.length≤999) :
  CallV π Z 89 #[.pointer (some ⟨g,0,none⟩),.string (str n)] w fun r w'=>r=.int .i64 (ix (L.map (·.1)) n)∧∃v' L',L'.map (·.1)=makeF (L.map (·.1)) n∧St o w' (DiskO g u d v' L' R):=by
 unfold DiskO at h
 refine f89.calls ?_
 unfold f89.sh
 refine (dAtN Z n h m0 rfl m1 hs (by omega)).mono fun r w1 ⟨hr,hd⟩=>?_
 subst hr
 have hS:=h.drew hd
 have hone:=fc_ones (fb_one hS.drop.drop)
 (try simp only [o_chk,fa_74_0,Nat.add_zero,o_ext2_1,o_not,cond_not,o_ext2_0])
 intro j hj
 cases hat:isAt (L.map (·.1)) n with
 | true=>
  (try simp only [condT])
  refine hj w1 fun _=>⟨trivial,v,L,by simp [makeF,hat],hS⟩
 | false=>
  (try simp only [condF])
  refine r_load one72 (hS.at m0 0 rfl) ?_
  refine r_build (cells:=(fc (⟨n,[],0⟩,.slice none 0 0)).toArray) (by kernel_rfl) ?_
  refine r_slice1 el72 hS (fc (⟨n,[],0⟩,.slice none 0 0)) (by omega) rfl fun g2 w2 hS hpl=>?_
  have hixl:ix (L.map (·.1)) n≤L.length:=by have:=ix_le (L.map (·.1)) n; simpa using this
  refine (fInsert Z (i:=ix (L.map (·.1)) n) ((hS.pick 2)) hpl hone (by intro u hu; simp [fc] at hu; rcases hu with rfl | rfl | rfl <;> rfl) hixl (by omega)).mono fun r w3 hS=>?_
  skip
  have hro:r.oneCell'=true:=by obtain ⟨_,_,e⟩:=hS.own_form; rw [e]; rfl
  refine r_store (hS.pick 1) one72 (by simp [dcells]) hro fun w4 hS=>?_
  refine hj w4 fun _=>⟨trivial,r,L.take (ix (L.map (·.1)) n)++(⟨n,[],0⟩,.slice none 0 0)::L.drop (ix (L.map (·.1)) n),?_,?_⟩
  ·simp [makeF,hat,insF,List.map_take,List.map_drop]
  ·have h1:=hS.own_nil 5 1
   exact disk_put hixl (((h1.pick 3).pick 3).pick 3)
end
end Go.Proofs.YtbdfhfceffkhgaaGreatDoor


/- Disks: what the calls of a Disk answer, and leave. -/
set_option linter.unusedVariables false
set_option linter.unusedSimpArgs false
namespace Go.Proofs.YtbdfhfceffkhgaaGreatDoor
open Go.Sh
open Tryz renaming prog → π
section
variable (Z:PZ) {o w:World} {R As:List HProp} {g u:Nat} {d:Dk} {v:Value} {L:List (Fil × Value)}
theorem dkNew (room:Int) (h:St o w R):CallV π Z 11 #[.int .i64 room] w fun r w'=>
  ((room < 0∨16777216 < room)∧r=.tuple #[.pointer none,.int .i64 1]∧w'=w)∨(∃n:Nat,room=n∧n≤16777216∧∃g,r=.tuple #[.pointer (some ⟨g,0,none⟩),.int .i64 0]∧St o w' (DiskM g (Dk.new n)::R)):=by
 refine f11.calls ?_
 unfold f11.sh
 by_cases h1:room < 0
 ·(try simp only [h1,o_lss,decide_true,o_pickT,condT,guardW_tf])
  exact .inl ⟨.inl trivial,trivial,trivial⟩
 by_cases h2:16777216 < room
 ·(try simp only [h1,h2,o_lss,decide_false,o_pickF,guardW_ff,o_gtr,decide_true,condT])
  exact .inl ⟨.inr trivial,trivial,trivial⟩
 (try simp only [h1,h2,o_lss,decide_false,o_pickF,guardW_ff,o_gtr,condF])
 obtain ⟨n,rfl⟩:∃n:Nat,room=n:=⟨room.toNat,by omega⟩
 refine r_build (cells:=(dcells (.slice none 0 0) 0 (Dk.new n)).toArray) (by kernel_rfl) ?_
 refine r_box 76 _ h fun g w1 hS=>.inr ⟨n,rfl,by omega,g,rfl,?_⟩
 refine DiskM.shut (v:=.slice none 0 0) (L:=[]) (Dk.new_ok (by omega)) rfl rfl ?_
 unfold DiskO Fils
 exact ((St.all_intro (As:=[]) hS).own_nil _ 3).pick 2
theorem dZero (h:St o w As) (hm:blk g 76 (dcells v u d) ∈ As):CallV π Z 51 #[.pointer (some ⟨g,0,none⟩)] w fun r w'=>r=.bool false∧w'=w:=by
 refine f51.calls ?_
 unfold f51.sh
 (try simp only [eqlp_29,o_pickF,guardW_ff,o_chk,fa_76_1,Nat.zero_add])
 refine r_load one4 (h.at hm 2 rfl) ?_
 (try simp only [o_not,Bool.not_true])
 exact ⟨trivial,trivial⟩
theorem dAsked {x:Value} {ns:List Bs} (hx:Rd w 1 x ns.length (ns.map fun s=>.string (str s))) (hn:ns.length≤1000) (hl:∀s ∈ ns,s.length≤1000000000000) (h:St o w As) (hm:blk g 76 (dcells v u d) ∈ As) :
  CallV π Z 87 #[.pointer (some ⟨g,0,none⟩),x] w fun r w'=>r=.int .i64 (d.asked ns)∧w'=w:=by
 obtain ⟨xa,xc,rfl⟩:=hx.form
 refine f87.calls ?_
 unfold f87.sh
 refine (dZero Z h hm).mono fun r w1 ⟨hr,hw⟩=>?_
 subst hr; subst hw
 (try simp only [ln_66_3,o_chk,fa_76_3,Nat.zero_add,condF])
 refine r_load one4 (h.at hm 4 rfl) ?_
 unfold Dk.asked
 cases hon:d.on with
 | false=>
  (try simp only [o_not,Bool.not_false,condT])
  exact ⟨by simp,trivial⟩
 | true=>
 (try simp only [o_not,Bool.not_true,condF])
 refine ⟨fun m y w'=>∃i:Nat,y=.int .i64 i∧m+i=ns.length∧(ns.take i).all nameOk=true∧w'=w1,⟨ns.length,0,rfl,rfl,rfl,rfl⟩,?_⟩
 rintro m _ w2 ⟨i,rfl,hi,hall,rfl⟩ _
 by_cases hlt:(i:Int) < (ns.length:Int)
 ·have hil:i < ns.length:=by omega
  (try simp only [o_add,o_lss,hlt,decide_true,condT])
  obtain ⟨a,hp,hc,_⟩:=hx.index el66 .i64 i hil
  rw [List.getElem?_map,List.getElem?_eq_getElem hil,Option.map_some] at hc
  refine r1 (hp _) (r_load one9 hc ?_)
  refine (isName Z ns[i] (by have:=hl _ (List.getElem_mem hil); omega)).mono fun r w3 ⟨hr,hw⟩=>?_
  subst hr; subst hw
  cases hno:nameOk ns[i] with
  | false=>
   (try simp only [o_not,Bool.not_false,condT])
   have:ns.all nameOk=false:=by
    rw [List.all_eq_false]
    exact ⟨ns[i],List.getElem_mem hil,by simp [hno]⟩
   exact ⟨by simp [this],trivial⟩
  | true=>
   (try simp only [o_not,Bool.not_true,condF])
   rw [wr_i64 (x:=(i:Int)+1) (by omega) (by omega)]
   refine ⟨m - 1,by omega,i+1,rfl,by omega,?_,trivial⟩
   rw [List.take_succ_eq_append_getElem hil,List.all_append,hall]
   simp [hno]
 ·obtain rfl:i=ns.length:=by omega
  rw [List.take_length] at hall
  (try simp only [o_add,o_lss,hlt,decide_false,condF])
  exact ⟨by simp [hall],trivial⟩
theorem ask1 {kk:PQ} (n:Bs) (hn:n.length≤1000000000000) (h:St o w R) (hm:blk g 76 (dcells v u d) ∈ R) (hk:∀w',St o w' R→kk (.int .i64 (d.asked [n])) w') :
  rN π Z (Instr.buildSlice 66 1 #[(0,.string (str n))]) w fun t1 w=>CallV π Z 87 #[.pointer (some ⟨g,0,none⟩),t1] w kk:=by
 refine r_slice el66 h 1 _ [.string (str n)] rfl (by omega) (by omega) (by intro u hu; simp at hu; subst hu; rfl) rfl fun g2 w2 hS=>?_
 refine (dAsked Z (ns:=[n]) (hS.own_rd m0) (by simp) (by simp [hn]) hS (List.mem_cons_of_mem _ hm)).mono fun r w3 ⟨hr,hw⟩=>?_
 subst hr; subst hw
 exact hk _ hS.drop
theorem dFind (n:Bs) (hn:n.length≤1000000000000) (h:St o w (DiskO g u d v L R)) (hL:L.map (·.1)=d.fs) (hk:d.ok):CallV π Z 72 #[.pointer (some ⟨g,0,none⟩),.string (str n)] w fun r w'=>
  (d.found n ≠ 0∧r=.tuple #[.int .i64 0,.int .i64 (d.found n)]∨d.found n=0∧r=.tuple #[.int .i64 (ix d.fs n),.int .i64 0])∧St o w' (DiskO g u d v L R):=by
 have hlen:L.length≤64:=by have:=congrArg List.length hL; rw [List.length_map] at this; have:=hk.many; omega
 unfold DiskO at h ⊢
 refine f72.calls ?_
 unfold f72.sh
 refine ask1 Z n hn h m0 fun w1 hS=>?_
 unfold Dk.found
 by_cases ha:d.asked [n]=0
 ·have e0:((0:Int) != 0)=false:=rfl
  rw [ha]
  (try simp only [o_chk,fa_76_0,Nat.add_zero,o_neq,e0,condF])
  refine (dAtN Z n hS m0 rfl m1 (by rw [hL]; exact hk.srt) (by omega)).mono fun r w2 ⟨hr,hd⟩=>?_
  rw [hL] at hr
  subst hr
  have hS:=hS.drew hd
  cases hat:isAt d.fs n with
  | false=>
   (try simp only [o_ext2_1,o_not,Bool.not_false,condT,o_ext2_0])
   exact ⟨.inl ⟨by simp,by simp⟩,hS⟩
  | true=>
   (try simp only [o_ext2_1,o_not,Bool.not_true,condF,o_ext2_0])
   exact ⟨.inr ⟨by simp,by simp⟩,hS⟩
 ·have e1:(d.asked [n] != 0)=true:=bne_iff_ne.2 ha
  (try simp only [o_chk,fa_76_0,Nat.add_zero,o_neq,e1,condT])
  exact ⟨.inl ⟨by simp [ha],by simp [ha]⟩,hS⟩
theorem dOff (h:St o w (blk g 76 (dcells v u d)::R)):CallV π Z 25 #[.pointer (some ⟨g,0,none⟩)] w fun r w'=>r=.tuple #[]∧St o w' (blk g 76 (dcells v u d.off)::R):=by
 refine f25.calls ?_
 unfold f25.sh
 refine (dZero Z h m0).mono fun r w1 ⟨hr,hw⟩=>?_
 subst hr; subst hw
 (try simp only [o_chk,fa_76_4,Nat.zero_add,fa_76_3,o_not,Bool.not_false,condT])
 refine r_store h one4 (by simp [dcells]) rfl fun w2 hS=>?_
 skip
 refine r_store hS one4 (by simp [dcells]) rfl fun w3 hS=>?_
 exact ⟨by first | rfl | trivial,hS⟩
theorem dWrite (h:St o w (blk g 76 (dcells v u d)::R)):CallV π Z 75 #[.pointer (some ⟨g,0,none⟩)] w fun r w'=>
  r=.bool (!d.stops)∧St o w' (blk g 76 (dcells v u (if d.stops then d.off else d.wrote))::R):=by
 refine f75.calls ?_
 unfold f75.sh
 (try simp only [o_chk,fa_76_6,Nat.zero_add,fa_76_5,fa_76_4])
 refine r_load one4 (h.at m0 5 rfl) ?_
 have fin:d.stops=false→∀w,St o w (blk g 76 (dcells v u d)::R)→rN π Z (Instr.loadAt 3 (.pointer (some ⟨g,6,none⟩))) w fun t13 w=>
   rN π Z (binOp .sub 3 t13 (.int .i64 1)) w fun t14 w=>rO π Z (Instr.storeAt 3 (.pointer (some ⟨g,6,none⟩)) t14) w fun w=>
   rN π Z (Instr.loadAt 3 (.pointer (some ⟨g,7,none⟩))) w fun t19 w=>rN π Z (binOp .add 3 t19 (.int .i64 1)) w fun t20 w=>
   rO π Z (Instr.storeAt 3 (.pointer (some ⟨g,7,none⟩)) t20) w fun w=>Value.bool true=.bool (!d.stops)∧St o w (blk g 76 (dcells v u (if d.stops then d.off else d.wrote))::R):=by
  intro hst w h
  refine r_load one3 (h.at m0 6 rfl) ?_
  (try simp only [o_sub])
  refine r_store h one3 (by simp [dcells]) rfl fun w2 hS=>?_
  refine r_load one3 (hS.at m0 7 rfl) ?_
  (try simp only [o_add])
  refine r_store hS one3 (by simp [dcells]) rfl fun w3 hS=>?_
  rw [hst]
  exact ⟨rfl,hS⟩
 cases har:d.armed with
 | false=>
  have hst:d.stops=false:=by unfold Dk.stops; rw [har]; rfl
  (try simp only [o_pickF,condF,guardW_ft])
  exact fin hst w h
 | true=>
  (try simp only [o_pickT,guardW_true,o_chk,fa_76_5,Nat.zero_add])
  refine r_load one3 (h.at m0 6 rfl) ?_
  by_cases h0:d.more=0
  ·have hst:d.stops=true:=by unfold Dk.stops; rw [har,h0]; rfl
   have e0:(d.more == 0)=true:=by rw [h0]; rfl
   (try simp only [o_eql,e0,condT])
   refine (dOff Z h).mono fun r w2 ⟨_,hS⟩=>?_
   rw [hst]
   exact ⟨rfl,hS⟩
  ·have e0:(d.more == 0)=false:=beq_eq_false_iff_ne.2 h0
   have hst:d.stops=false:=by unfold Dk.stops; rw [har,e0]; rfl
   (try simp only [o_eql,e0,condF])
   exact fin hst w h
theorem dOn (h:St o w As) (hm:blk g 76 (dcells v u d) ∈ As):CallV π Z 39 #[.pointer (some ⟨g,0,none⟩)] w fun r w'=>r=.bool d.on∧w'=w:=by
 refine f39.calls ?_
 unfold f39.sh
 refine (dZero Z h hm).mono fun r w1 ⟨hr,hw⟩=>?_
 subst hr; subst hw
 (try simp only [o_not,Bool.not_false,o_pickT,guardW_true,o_chk,fa_76_3,Nat.zero_add])
 refine r_load one4 (h.at hm 4 rfl) ?_
 (try simp only [])
 exact ⟨by first | rfl | trivial,by first | rfl | trivial⟩
end

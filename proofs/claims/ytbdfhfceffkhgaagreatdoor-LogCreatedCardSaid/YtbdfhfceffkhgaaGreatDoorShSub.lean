/- Parts of memory put in another order, some of them let go. Nothing of any one program stands here. -/
import Derived.Test.YtbdfhfceffkhgaaGreatDoorShOps
namespace Go.Sh
def SubP (As Bs:List HProp):Prop:=∀h,satH As h→satH Bs h
theorem St.sub {o w:World} {As Bs:List HProp} (hs:SubP As Bs) (h:St o w As):St o w Bs:=⟨h.os,h.tape,h.output,h.size,hs _ h.sat⟩
theorem sub_refl {As:List HProp}:SubP As As:=fun _ h=>h
theorem sub_drop {A:HProp} {As Bs:List HProp} (h:SubP As Bs):SubP (A::As) Bs:=fun x hx=>h x (satH_drop hx)
theorem sub_nil {As:List HProp}:SubP As []:=fun _ _=>trivial
theorem sP0 {A:HProp} {As Bs:List HProp} (h:SubP As Bs):SubP (A::As) (A::Bs):=fun _ hx=>satH_cons (fun _ h=>h) h hx
theorem sP1 {A0 B:HProp} {As Bs:List HProp} (h:SubP (A0::As) Bs):SubP (A0::B::As) (B::Bs):=fun x hx=>sP0 h x (satH_perm (pickL_perm 1 (A0::B::As)) x hx)
theorem sP2 {A0 A1 B:HProp} {As Bs:List HProp} (h:SubP (A0::A1::As) Bs):SubP (A0::A1::B::As) (B::Bs):=fun x hx=>sP0 h x (satH_perm (pickL_perm 2 (A0::A1::B::As)) x hx)
theorem sP3 {A0 A1 A2 B:HProp} {As Bs:List HProp} (h:SubP (A0::A1::A2::As) Bs):SubP (A0::A1::A2::B::As) (B::Bs):=fun x hx=>sP0 h x (satH_perm (pickL_perm 3 (A0::A1::A2::B::As)) x hx)
theorem sP4 {A0 A1 A2 A3 B:HProp} {As Bs:List HProp} (h:SubP (A0::A1::A2::A3::As) Bs):SubP (A0::A1::A2::A3::B::As) (B::Bs):=fun x hx=>sP0 h x (satH_perm (pickL_perm 4 (A0::A1::A2::A3::B::As)) x hx)
theorem sP5 {A0 A1 A2 A3 A4 B:HProp} {As Bs:List HProp} (h:SubP (A0::A1::A2::A3::A4::As) Bs):SubP (A0::A1::A2::A3::A4::B::As) (B::Bs):=fun x hx=>sP0 h x (satH_perm (pickL_perm 5 (A0::A1::A2::A3::A4::B::As)) x hx)
theorem sP6 {A0 A1 A2 A3 A4 A5 B:HProp} {As Bs:List HProp} (h:SubP (A0::A1::A2::A3::A4::A5::As) Bs):SubP (A0::A1::A2::A3::A4::A5::B::As) (B::Bs):=fun x hx=>sP0 h x (satH_perm (pickL_perm 6 (A0::A1::A2::A3::A4::A5::B::As)) x hx)
theorem sP7 {A0 A1 A2 A3 A4 A5 A6 B:HProp} {As Bs:List HProp} (h:SubP (A0::A1::A2::A3::A4::A5::A6::As) Bs):SubP (A0::A1::A2::A3::A4::A5::A6::B::As) (B::Bs):=fun x hx=>sP0 h x (satH_perm (pickL_perm 7 (A0::A1::A2::A3::A4::A5::A6::B::As)) x hx)
theorem sP8 {A0 A1 A2 A3 A4 A5 A6 A7 B:HProp} {As Bs:List HProp} (h:SubP (A0::A1::A2::A3::A4::A5::A6::A7::As) Bs):SubP (A0::A1::A2::A3::A4::A5::A6::A7::B::As) (B::Bs):=fun x hx=>sP0 h x (satH_perm (pickL_perm 8 (A0::A1::A2::A3::A4::A5::A6::A7::B::As)) x hx)
theorem sP9 {A0 A1 A2 A3 A4 A5 A6 A7 A8 B:HProp} {As Bs:List HProp} (h:SubP (A0::A1::A2::A3::A4::A5::A6::A7::A8::As) Bs):SubP (A0::A1::A2::A3::A4::A5::A6::A7::A8::B::As) (B::Bs):=fun x hx=>sP0 h x (satH_perm (pickL_perm 9 (A0::A1::A2::A3::A4::A5::A6::A7::A8::B::As)) x hx)
theorem sP10 {A0 A1 A2 A3 A4 A5 A6 A7 A8 A9 B:HProp} {As Bs:List HProp} (h:SubP (A0::A1::A2::A3::A4::A5::A6::A7::A8::A9::As) Bs):SubP (A0::A1::A2::A3::A4::A5::A6::A7::A8::A9::B::As) (B::Bs):=fun x hx=>sP0 h x (satH_perm (pickL_perm 10 (A0::A1::A2::A3::A4::A5::A6::A7::A8::A9::B::As)) x hx)
theorem sP11 {A0 A1 A2 A3 A4 A5 A6 A7 A8 A9 A10 B:HProp} {As Bs:List HProp} (h:SubP (A0::A1::A2::A3::A4::A5::A6::A7::A8::A9::A10::As) Bs):SubP (A0::A1::A2::A3::A4::A5::A6::A7::A8::A9::A10::B::As) (B::Bs):=fun x hx=>sP0 h x (satH_perm (pickL_perm 11 (A0::A1::A2::A3::A4::A5::A6::A7::A8::A9::A10::B::As)) x hx)
theorem sP12 {A0 A1 A2 A3 A4 A5 A6 A7 A8 A9 A10 A11 B:HProp} {As Bs:List HProp} (h:SubP (A0::A1::A2::A3::A4::A5::A6::A7::A8::A9::A10::A11::As) Bs):SubP (A0::A1::A2::A3::A4::A5::A6::A7::A8::A9::A10::A11::B::As) (B::Bs):=fun x hx=>sP0 h x (satH_perm (pickL_perm 12 (A0::A1::A2::A3::A4::A5::A6::A7::A8::A9::A10::A11::B::As)) x hx)
theorem sP13 {A0 A1 A2 A3 A4 A5 A6 A7 A8 A9 A10 A11 A12 B:HProp} {As Bs:List HProp} (h:SubP (A0::A1::A2::A3::A4::A5::A6::A7::A8::A9::A10::A11::A12::As) Bs):SubP (A0::A1::A2::A3::A4::A5::A6::A7::A8::A9::A10::A11::A12::B::As) (B::Bs):=fun x hx=>sP0 h x (satH_perm (pickL_perm 13 (A0::A1::A2::A3::A4::A5::A6::A7::A8::A9::A10::A11::A12::B::As)) x hx)
theorem sP14 {A0 A1 A2 A3 A4 A5 A6 A7 A8 A9 A10 A11 A12 A13 B:HProp} {As Bs:List HProp} (h:SubP (A0::A1::A2::A3::A4::A5::A6::A7::A8::A9::A10::A11::A12::A13::As) Bs):SubP (A0::A1::A2::A3::A4::A5::A6::A7::A8::A9::A10::A11::A12::A13::B::As) (B::Bs):=fun x hx=>sP0 h x (satH_perm (pickL_perm 14 (A0::A1::A2::A3::A4::A5::A6::A7::A8::A9::A10::A11::A12::A13::B::As)) x hx)
theorem sP15 {A0 A1 A2 A3 A4 A5 A6 A7 A8 A9 A10 A11 A12 A13 A14 B:HProp} {As Bs:List HProp} (h:SubP (A0::A1::A2::A3::A4::A5::A6::A7::A8::A9::A10::A11::A12::A13::A14::As) Bs):SubP (A0::A1::A2::A3::A4::A5::A6::A7::A8::A9::A10::A11::A12::A13::A14::B::As) (B::Bs):=fun x hx=>sP0 h x (satH_perm (pickL_perm 15 (A0::A1::A2::A3::A4::A5::A6::A7::A8::A9::A10::A11::A12::A13::A14::B::As)) x hx)

import Derived.Test.YtbdfhfceffkhgaaGreatDoorProg
import Derived.Test.YtbdfhfceffkhgaaGreatDoorTy
set_option linter.unusedVariables false
namespace Go.Proofs.YtbdfhfceffkhgaaGreatDoor
open Go.Sh
open Tryz renaming prog → π
abbrev _root_.Go.Sh.An.q (x:An):An:=.sq .leaf x
abbrev _root_.Go.Sh.An.c:An:=.cn .leaf .leaf
theorem follows:π.follows .mixedOrders=true:=by kernel_rfl
def fns:List Nat:=[2,3,4,5,6,7,8,9,10,11,12,13,14,15,16,17,18,19,20,21,22,23,24,25,26,27,28,29,30,31,32,33,34,35,36,37,38,39,40,41,42,43,44,45,46,47,48,49,50,51,52,53,54,55,56,57,58,59,60,61,62,63,64,65,66,67,68,69,70,71,72,73,74,75,76,77,78,79,80,81,82,83,84,85,86,87,88,89,90,91,92,93,94,95,96,97,98,99,100,101,102,103,104,105,106,107,108,109,110,111,112,113,114,115,116,117,118,119,120,121,122,123,124,125,126,127,128,129,130,131,132,133,134,135,136,137,138,139,140,141,142,143,144,145,146,147,148,149,150,151,152,153,154,155,156,157,158,159,160,161,162,163,164,165,166,167,168,169,170,171,172,173,174,175,176,178,179,180,181,182,183,184,185,186,187,188,189,190,191,192,193,194,195,196,197,198,199,200,201,202,203,204,205,206,234]
theorem ents:∀g,memN g fns=true→Enters π g:=ent_of (by kernel_rfl)
theorem en35:Enters π 35:=ents 35 (by kernel_rfl)
theorem en64:Enters π 64:=ents 64 (by kernel_rfl)
theorem en94:Enters π 94:=ents 94 (by kernel_rfl)
theorem en100:Enters π 100:=ents 100 (by kernel_rfl)
theorem en138:Enters π 138:=ents 138 (by kernel_rfl)
theorem en146:Enters π 146:=ents 146 (by kernel_rfl)
theorem en154:Enters π 154:=ents 154 (by kernel_rfl)
theorem en158:Enters π 158:=ents 158 (by kernel_rfl)
theorem en162:Enters π 162:=ents 162 (by kernel_rfl)
theorem en165:Enters π 165:=ents 165 (by kernel_rfl)
theorem en183:Enters π 183:=ents 183 (by kernel_rfl)
theorem en187:Enters π 187:=ents 187 (by kernel_rfl)
theorem cl {Z:PZ} {f:FuncId} {fn:Func} (hf:π.funcs[f]? = some fn) (an:An) (args:List Value) (ho:okFn fn args.length=true) {w:World} {Q:PQ} {S:Prop} (hs:vc drawD π fn.ntmps Z fns an (codeOf fn) (fnQ π fn.ntmps fn.results Q) (argEnv args) w=S) (h:S):CallV π Z f args.toArray w Q:=clls drawD_sound follows ents hf an args ho hs h

/- Lemmas: the tables of types, and trees. No condition. -/
import Derived.Test.YtdngjamjccjlmaaProg
import Derived.Test.YtdngjamjccjlmaaPAb
set_option linter.defProp false
namespace Go.Proofs.Ytdngjamjccjlmaa
open Go Go.Ab
open AV renaming belL -> yO, bel -> yN, normL -> yQ, norm -> yP
section
def tab:List (Nat×TL):=[(2,⟨0,.int .i64,1,8,.int .i64 0⟩),
 (3,⟨0,.int .i64,1,8,.int .i64 0⟩),
 (4,⟨0,.bool,1,1,.bool false⟩),
 (5,⟨0,.int .u8,1,1,.int .u8 0⟩),
 (9,⟨0,.str,1,16,.str ByteArray.empty⟩),
 (12,⟨0,.int .u64,1,8,.int .u64 0⟩),
 (13,⟨0,.st [(0,9),(1,12)],2,24,.agg [.str ByteArray.empty,.int .u64 0]⟩),
 (19,⟨0,.st [(0,17)],1,8,.agg [.nilp]⟩),
 (21,⟨0,.int .i32,1,4,.int .i32 0⟩),
 (22,⟨0,.sl 24,1,24,.sl [] .full⟩),
 (23,⟨0,.st [(0,3),(1,3),(2,22)],3,40,.agg [.int .i64 0,.int .i64 0,.sl [] .full]⟩),
 (24,⟨0,.st [(0,3),(1,3),(2,22)],3,40,.agg [.int .i64 0,.int .i64 0,.sl [] .full]⟩),
 (27,⟨0,.ptr,1,8,.nilp⟩),
 (29,⟨0,.map 3 3,1,8,.nilm⟩),
 (30,⟨0,.int .i64,1,8,.int .i64 0⟩),
 (33,⟨0,.sl 3,1,24,.sl [] .full⟩),
 (56,⟨0,.st [(0,24),(3,24)],6,80,.agg [.int .i64 0,.int .i64 0,.sl [] .full,.int .i64 0,.int .i64 0,.sl [] .full]⟩),
 (57,⟨0,.st [(0,24),(3,24)],6,80,.agg [.int .i64 0,.int .i64 0,.sl [] .full,.int .i64 0,.int .i64 0,.sl [] .full]⟩),
 (58,⟨0,.sl 57,1,24,.sl [] .full⟩),
 (61,⟨0,.ptr,1,8,.nilp⟩),
 (67,⟨0,.sl 69,1,24,.sl [] .full⟩),
 (68,⟨0,.st [(0,3),(1,3),(2,3),(3,3),(4,24),(7,33),(8,33)],9,120,.agg [.int .i64 0,.int .i64 0,.int .i64 0,.int .i64 0,.int .i64 0,.int .i64 0,.sl [] .full,.sl [] .full,.sl [] .full]⟩),
 (69,⟨0,.st [(0,3),(1,3),(2,3),(3,3),(4,24),(7,33),(8,33)],9,120,.agg [.int .i64 0,.int .i64 0,.int .i64 0,.int .i64 0,.int .i64 0,.int .i64 0,.sl [] .full,.sl [] .full,.sl [] .full]⟩),
 (70,⟨0,.sl 139,1,24,.sl [] .full⟩),
 (71,⟨0,.st [(0,3),(1,3),(2,70)],3,40,.agg [.int .i64 0,.int .i64 0,.sl [] .full]⟩),
 (72,⟨0,.st [(0,3),(1,3),(2,70)],3,40,.agg [.int .i64 0,.int .i64 0,.sl [] .full]⟩),
 (78,⟨0,.sl 150,1,24,.sl [] .full⟩),
 (86,⟨1,.st [(0,3),(1,3)],2,16,.agg [.int .i64 0,.int .i64 0]⟩),
 (87,⟨1,.st [(0,3),(1,3)],2,16,.agg [.int .i64 0,.int .i64 0]⟩),
 (88,⟨0,.sl 90,1,24,.sl [] .full⟩),
 (89,⟨0,.st [(0,3),(1,87),(3,9),(4,2),(5,9),(6,88)],7,88,.agg [.int .i64 0,.int .i64 0,.int .i64 0,.str ByteArray.empty,.int .i64 0,.str ByteArray.empty,.sl [] .full]⟩),
 (90,⟨0,.st [(0,3),(1,87),(3,9),(4,2),(5,9),(6,88)],7,88,.agg [.int .i64 0,.int .i64 0,.int .i64 0,.str ByteArray.empty,.int .i64 0,.str ByteArray.empty,.sl [] .full]⟩),
 (94,⟨0,.sl 111,1,24,.sl [] .full⟩),
 (98,⟨0,.sl 9,1,24,.sl [] .full⟩),
 (106,⟨2,.st [(0,87),(2,30),(3,3),(4,3),(5,9)],6,56,.agg [.int .i64 0,.int .i64 0,.int .i64 0,.int .i64 0,.int .i64 0,.str ByteArray.empty]⟩),
 (107,⟨2,.st [(0,87),(2,30),(3,3),(4,3),(5,9)],6,56,.agg [.int .i64 0,.int .i64 0,.int .i64 0,.int .i64 0,.int .i64 0,.str ByteArray.empty]⟩),
 (110,⟨0,.st [(0,9),(1,24)],4,56,.agg [.str ByteArray.empty,.int .i64 0,.int .i64 0,.sl [] .full]⟩),
 (111,⟨0,.st [(0,9),(1,24)],4,56,.agg [.str ByteArray.empty,.int .i64 0,.int .i64 0,.sl [] .full]⟩),
 (114,⟨0,.sl 118,1,24,.sl [] .full⟩),
 (115,⟨0,.st [(0,114),(1,3),(2,3),(3,3)],4,48,.agg [.sl [] .full,.int .i64 0,.int .i64 0,.int .i64 0]⟩),
 (116,⟨0,.st [(0,114),(1,3),(2,3),(3,3)],4,48,.agg [.sl [] .full,.int .i64 0,.int .i64 0,.int .i64 0]⟩),
 (117,⟨0,.st [(0,3),(1,3),(2,3),(3,33),(4,3)],5,56,.agg [.int .i64 0,.int .i64 0,.int .i64 0,.sl [] .full,.int .i64 0]⟩),
 (118,⟨0,.st [(0,3),(1,3),(2,3),(3,33),(4,3)],5,56,.agg [.int .i64 0,.int .i64 0,.int .i64 0,.sl [] .full,.int .i64 0]⟩),
 (124,⟨0,.int .u64,1,8,.int .u64 0⟩),
 (126,⟨0,.ptr,1,8,.nilp⟩),
 (127,⟨0,.map 3 24,1,8,.nilm⟩),
 (128,⟨0,.st [(0,27),(1,3),(2,29),(3,127)],4,32,.agg [.nilp,.int .i64 0,.nilm,.nilm]⟩),
 (129,⟨0,.st [(0,27),(1,3),(2,29),(3,127)],4,32,.agg [.nilp,.int .i64 0,.nilm,.nilm]⟩),
 (131,⟨0,.ptr,1,8,.nilp⟩),
 (132,⟨0,.st [(0,27),(1,29),(2,29),(3,29)],4,32,.agg [.nilp,.nilm,.nilm,.nilm]⟩),
 (133,⟨0,.st [(0,27),(1,29),(2,29),(3,29)],4,32,.agg [.nilp,.nilm,.nilm,.nilm]⟩),
 (135,⟨0,.arr 2 3,2,16,.agg [.int .i64 0,.int .i64 0]⟩),
 (136,⟨0,.sl 135,1,24,.sl [] .full⟩),
 (138,⟨0,.st [(0,3),(1,3),(2,3),(3,3),(4,3)],5,40,.agg [.int .i64 0,.int .i64 0,.int .i64 0,.int .i64 0,.int .i64 0]⟩),
 (139,⟨0,.st [(0,3),(1,3),(2,3),(3,3),(4,3)],5,40,.agg [.int .i64 0,.int .i64 0,.int .i64 0,.int .i64 0,.int .i64 0]⟩),
 (140,⟨0,.ptr,1,8,.nilp⟩),
 (141,⟨1,.st [(0,3),(1,3)],2,16,.agg [.int .i64 0,.int .i64 0]⟩),
 (142,⟨1,.st [(0,3),(1,3)],2,16,.agg [.int .i64 0,.int .i64 0]⟩),
 (143,⟨0,.sl 142,1,24,.sl [] .full⟩),
 (144,⟨0,.st [(0,61),(1,143)],2,32,.agg [.nilp,.sl [] .full]⟩),
 (145,⟨0,.st [(0,61),(1,143)],2,32,.agg [.nilp,.sl [] .full]⟩),
 (149,⟨0,.st [(0,3),(1,24)],4,48,.agg [.int .i64 0,.int .i64 0,.int .i64 0,.sl [] .full]⟩),
 (150,⟨0,.st [(0,3),(1,24)],4,48,.agg [.int .i64 0,.int .i64 0,.int .i64 0,.sl [] .full]⟩),
 (154,⟨0,.ptr,1,8,.nilp⟩),
 (155,⟨0,.st [(0,78),(1,29)],2,32,.agg [.sl [] .full,.nilm]⟩),
 (156,⟨0,.st [(0,78),(1,29)],2,32,.agg [.sl [] .full,.nilm]⟩),
 (161,⟨0,.ptr,1,8,.nilp⟩),
 (162,⟨0,.st [(0,27),(1,3),(2,98),(3,33),(4,107)],10,120,.agg [.nilp,.int .i64 0,.sl [] .full,.sl [] .full,.int .i64 0,.int .i64 0,.int .i64 0,.int .i64 0,.int .i64 0,.str ByteArray.empty]⟩),
 (163,⟨0,.st [(0,27),(1,3),(2,98),(3,33),(4,107)],10,120,.agg [.nilp,.int .i64 0,.sl [] .full,.sl [] .full,.int .i64 0,.int .i64 0,.int .i64 0,.int .i64 0,.int .i64 0,.str ByteArray.empty]⟩),
 (173,⟨0,.sl 4,1,24,.sl [] .full⟩),
 (176,⟨0,.map 9 3,1,8,.nilm⟩),
 (192,⟨0,.int .u32,1,4,.int .u32 0⟩),
 (196,⟨0,.ptr,1,8,.nilp⟩)]
theorem zYK:zYJ Try.prog tab=true:=by kernel_rfl
def C:Cfg:= {ty:=tyOf tab,rdr:=fun f=> [29,32,35,60,36,83,120].contains f,mwr:=fun f=> [89,90].contains f,zwr:=fun f=> [91,124].contains f}
theorem C_ok:zAb Try.prog C:=zYL zYK
theorem ty_2:C.ty 2=some ⟨0,.int .i64,1,8,.int .i64 0⟩:=rfl
theorem ty_3:C.ty 3=some ⟨0,.int .i64,1,8,.int .i64 0⟩:=rfl
theorem ty_4:C.ty 4=some ⟨0,.bool,1,1,.bool false⟩:=rfl
theorem ty_5:C.ty 5=some ⟨0,.int .u8,1,1,.int .u8 0⟩:=rfl
theorem ty_9:C.ty 9=some ⟨0,.str,1,16,.str ByteArray.empty⟩:=rfl
theorem zZA:C.ty 12=some ⟨0,.int .u64,1,8,.int .u64 0⟩:=rfl
theorem zZG:C.ty 13=some ⟨0,.st [(0,9),(1,12)],2,24,.agg [.str ByteArray.empty,.int .u64 0]⟩:=rfl
theorem zZe:C.ty 19=some ⟨0,.st [(0,17)],1,8,.agg [.nilp]⟩:=rfl
theorem zZh:C.ty 21=some ⟨0,.int .i32,1,4,.int .i32 0⟩:=rfl
theorem zZi:C.ty 22=some ⟨0,.sl 24,1,24,.sl [] .full⟩:=rfl
theorem zZj:C.ty 23=some ⟨0,.st [(0,3),(1,3),(2,22)],3,40,.agg [.int .i64 0,.int .i64 0,.sl [] .full]⟩:=rfl
theorem zZk:C.ty 24=some ⟨0,.st [(0,3),(1,3),(2,22)],3,40,.agg [.int .i64 0,.int .i64 0,.sl [] .full]⟩:=rfl
theorem zZl:C.ty 27=some ⟨0,.ptr,1,8,.nilp⟩:=rfl
theorem zZm:C.ty 29=some ⟨0,.map 3 3,1,8,.nilm⟩:=rfl
theorem zZn:C.ty 30=some ⟨0,.int .i64,1,8,.int .i64 0⟩:=rfl
theorem zZo:C.ty 33=some ⟨0,.sl 3,1,24,.sl [] .full⟩:=rfl
theorem zZp:C.ty 56=some ⟨0,.st [(0,24),(3,24)],6,80,.agg [.int .i64 0,.int .i64 0,.sl [] .full,.int .i64 0,.int .i64 0,.sl [] .full]⟩:=rfl
theorem zZq:C.ty 57=some ⟨0,.st [(0,24),(3,24)],6,80,.agg [.int .i64 0,.int .i64 0,.sl [] .full,.int .i64 0,.int .i64 0,.sl [] .full]⟩:=rfl
theorem zZr:C.ty 58=some ⟨0,.sl 57,1,24,.sl [] .full⟩:=rfl
theorem zZs:C.ty 61=some ⟨0,.ptr,1,8,.nilp⟩:=rfl
theorem zZt:C.ty 67=some ⟨0,.sl 69,1,24,.sl [] .full⟩:=rfl
theorem zZu:C.ty 68=some ⟨0,.st [(0,3),(1,3),(2,3),(3,3),(4,24),(7,33),(8,33)],9,120,.agg [.int .i64 0,.int .i64 0,.int .i64 0,.int .i64 0,.int .i64 0,.int .i64 0,.sl [] .full,.sl [] .full,.sl [] .full]⟩:=rfl
theorem zZv:C.ty 69=some ⟨0,.st [(0,3),(1,3),(2,3),(3,3),(4,24),(7,33),(8,33)],9,120,.agg [.int .i64 0,.int .i64 0,.int .i64 0,.int .i64 0,.int .i64 0,.int .i64 0,.sl [] .full,.sl [] .full,.sl [] .full]⟩:=rfl
theorem zZw:C.ty 70=some ⟨0,.sl 139,1,24,.sl [] .full⟩:=rfl
theorem zZx:C.ty 71=some ⟨0,.st [(0,3),(1,3),(2,70)],3,40,.agg [.int .i64 0,.int .i64 0,.sl [] .full]⟩:=rfl
theorem zZy:C.ty 72=some ⟨0,.st [(0,3),(1,3),(2,70)],3,40,.agg [.int .i64 0,.int .i64 0,.sl [] .full]⟩:=rfl
theorem zZz:C.ty 78=some ⟨0,.sl 150,1,24,.sl [] .full⟩:=rfl
theorem zZ0:C.ty 86=some ⟨1,.st [(0,3),(1,3)],2,16,.agg [.int .i64 0,.int .i64 0]⟩:=rfl
theorem zZ1:C.ty 87=some ⟨1,.st [(0,3),(1,3)],2,16,.agg [.int .i64 0,.int .i64 0]⟩:=rfl
theorem zZ2:C.ty 88=some ⟨0,.sl 90,1,24,.sl [] .full⟩:=rfl
theorem zZ3:C.ty 89=some ⟨0,.st [(0,3),(1,87),(3,9),(4,2),(5,9),(6,88)],7,88,.agg [.int .i64 0,.int .i64 0,.int .i64 0,.str ByteArray.empty,.int .i64 0,.str ByteArray.empty,.sl [] .full]⟩:=rfl
theorem zZ4:C.ty 90=some ⟨0,.st [(0,3),(1,87),(3,9),(4,2),(5,9),(6,88)],7,88,.agg [.int .i64 0,.int .i64 0,.int .i64 0,.str ByteArray.empty,.int .i64 0,.str ByteArray.empty,.sl [] .full]⟩:=rfl
theorem zZ5:C.ty 94=some ⟨0,.sl 111,1,24,.sl [] .full⟩:=rfl
theorem zZ6:C.ty 98=some ⟨0,.sl 9,1,24,.sl [] .full⟩:=rfl
theorem zY1:C.ty 106=some ⟨2,.st [(0,87),(2,30),(3,3),(4,3),(5,9)],6,56,.agg [.int .i64 0,.int .i64 0,.int .i64 0,.int .i64 0,.int .i64 0,.str ByteArray.empty]⟩:=rfl
theorem zY2:C.ty 107=some ⟨2,.st [(0,87),(2,30),(3,3),(4,3),(5,9)],6,56,.agg [.int .i64 0,.int .i64 0,.int .i64 0,.int .i64 0,.int .i64 0,.str ByteArray.empty]⟩:=rfl
theorem zY3:C.ty 110=some ⟨0,.st [(0,9),(1,24)],4,56,.agg [.str ByteArray.empty,.int .i64 0,.int .i64 0,.sl [] .full]⟩:=rfl
theorem zY4:C.ty 111=some ⟨0,.st [(0,9),(1,24)],4,56,.agg [.str ByteArray.empty,.int .i64 0,.int .i64 0,.sl [] .full]⟩:=rfl
theorem zY5:C.ty 114=some ⟨0,.sl 118,1,24,.sl [] .full⟩:=rfl
theorem zY6:C.ty 115=some ⟨0,.st [(0,114),(1,3),(2,3),(3,3)],4,48,.agg [.sl [] .full,.int .i64 0,.int .i64 0,.int .i64 0]⟩:=rfl
theorem zY7:C.ty 116=some ⟨0,.st [(0,114),(1,3),(2,3),(3,3)],4,48,.agg [.sl [] .full,.int .i64 0,.int .i64 0,.int .i64 0]⟩:=rfl
theorem zY8:C.ty 117=some ⟨0,.st [(0,3),(1,3),(2,3),(3,33),(4,3)],5,56,.agg [.int .i64 0,.int .i64 0,.int .i64 0,.sl [] .full,.int .i64 0]⟩:=rfl
theorem zY9:C.ty 118=some ⟨0,.st [(0,3),(1,3),(2,3),(3,33),(4,3)],5,56,.agg [.int .i64 0,.int .i64 0,.int .i64 0,.sl [] .full,.int .i64 0]⟩:=rfl
theorem zZB:C.ty 124=some ⟨0,.int .u64,1,8,.int .u64 0⟩:=rfl
theorem zZC:C.ty 126=some ⟨0,.ptr,1,8,.nilp⟩:=rfl
theorem zZD:C.ty 127=some ⟨0,.map 3 24,1,8,.nilm⟩:=rfl
theorem zZE:C.ty 128=some ⟨0,.st [(0,27),(1,3),(2,29),(3,127)],4,32,.agg [.nilp,.int .i64 0,.nilm,.nilm]⟩:=rfl
theorem zZF:C.ty 129=some ⟨0,.st [(0,27),(1,3),(2,29),(3,127)],4,32,.agg [.nilp,.int .i64 0,.nilm,.nilm]⟩:=rfl
theorem zZH:C.ty 131=some ⟨0,.ptr,1,8,.nilp⟩:=rfl
theorem zZI:C.ty 132=some ⟨0,.st [(0,27),(1,29),(2,29),(3,29)],4,32,.agg [.nilp,.nilm,.nilm,.nilm]⟩:=rfl
theorem zZJ:C.ty 133=some ⟨0,.st [(0,27),(1,29),(2,29),(3,29)],4,32,.agg [.nilp,.nilm,.nilm,.nilm]⟩:=rfl
theorem zZK:C.ty 135=some ⟨0,.arr 2 3,2,16,.agg [.int .i64 0,.int .i64 0]⟩:=rfl
theorem zZL:C.ty 136=some ⟨0,.sl 135,1,24,.sl [] .full⟩:=rfl
theorem zZM:C.ty 138=some ⟨0,.st [(0,3),(1,3),(2,3),(3,3),(4,3)],5,40,.agg [.int .i64 0,.int .i64 0,.int .i64 0,.int .i64 0,.int .i64 0]⟩:=rfl
theorem zZN:C.ty 139=some ⟨0,.st [(0,3),(1,3),(2,3),(3,3),(4,3)],5,40,.agg [.int .i64 0,.int .i64 0,.int .i64 0,.int .i64 0,.int .i64 0]⟩:=rfl
theorem zZO:C.ty 140=some ⟨0,.ptr,1,8,.nilp⟩:=rfl
theorem zZP:C.ty 141=some ⟨1,.st [(0,3),(1,3)],2,16,.agg [.int .i64 0,.int .i64 0]⟩:=rfl
theorem zZQ:C.ty 142=some ⟨1,.st [(0,3),(1,3)],2,16,.agg [.int .i64 0,.int .i64 0]⟩:=rfl
theorem zZR:C.ty 143=some ⟨0,.sl 142,1,24,.sl [] .full⟩:=rfl
theorem zZS:C.ty 144=some ⟨0,.st [(0,61),(1,143)],2,32,.agg [.nilp,.sl [] .full]⟩:=rfl
theorem zZT:C.ty 145=some ⟨0,.st [(0,61),(1,143)],2,32,.agg [.nilp,.sl [] .full]⟩:=rfl
theorem zZU:C.ty 149=some ⟨0,.st [(0,3),(1,24)],4,48,.agg [.int .i64 0,.int .i64 0,.int .i64 0,.sl [] .full]⟩:=rfl
theorem zZV:C.ty 150=some ⟨0,.st [(0,3),(1,24)],4,48,.agg [.int .i64 0,.int .i64 0,.int .i64 0,.sl [] .full]⟩:=rfl
theorem zZW:C.ty 154=some ⟨0,.ptr,1,8,.nilp⟩:=rfl
theorem zZX:C.ty 155=some ⟨0,.st [(0,78),(1,29)],2,32,.agg [.sl [] .full,.nilm]⟩:=rfl
theorem zZY:C.ty 156=some ⟨0,.st [(0,78),(1,29)],2,32,.agg [.sl [] .full,.nilm]⟩:=rfl
theorem zZZ:C.ty 161=some ⟨0,.ptr,1,8,.nilp⟩:=rfl
theorem zZa:C.ty 162=some ⟨0,.st [(0,27),(1,3),(2,98),(3,33),(4,107)],10,120,.agg [.nilp,.int .i64 0,.sl [] .full,.sl [] .full,.int .i64 0,.int .i64 0,.int .i64 0,.int .i64 0,.int .i64 0,.str ByteArray.empty]⟩:=rfl
theorem zZb:C.ty 163=some ⟨0,.st [(0,27),(1,3),(2,98),(3,33),(4,107)],10,120,.agg [.nilp,.int .i64 0,.sl [] .full,.sl [] .full,.int .i64 0,.int .i64 0,.int .i64 0,.int .i64 0,.int .i64 0,.str ByteArray.empty]⟩:=rfl
theorem zZc:C.ty 173=some ⟨0,.sl 4,1,24,.sl [] .full⟩:=rfl
theorem zZd:C.ty 176=some ⟨0,.map 9 3,1,8,.nilm⟩:=rfl
theorem zZf:C.ty 192=some ⟨0,.int .u32,1,4,.int .u32 0⟩:=rfl
theorem zZg:C.ty 196=some ⟨0,.ptr,1,8,.nilp⟩:=rfl
theorem zLm(t:Nat):C.inpl t=false:=rfl
theorem mixed:Try.prog.follows .mixedOrders=true:=by kernel_rfl
theorem drA{D:Cfg}{K:Exit->AState->Prop}{k:List KI}{e:Nat->AV}{F:List AObj}{b n:Nat}{ops:Array Oper}(hC:zAb Try.prog D)(id m:Nat)(h:GoD Try.prog D K ops (pos b (FS e F b n).L.length) ops.toList k (FS e (F++List.replicate m .dead) b n))(hz:∀s,ZLd D s:=by exact fun _=>trivial)(hb:b<=F.length:=by first|(simp;done)|(simp;omega)|assumption)(hc:chk D ops []=true:=by kernel_rfl)(hk:zFG n (.region id ops true)=true:=by decide):Go Try.prog D K (.code (.region id ops true)::k) (FS e F b n):=zKh hC hz mixed m n hb rfl hc hk h
end
section
inductive Ty where
 |mk (kind n:Int) (kids:List Ty)
def Ty.kind:Ty->Int| .mk k _ _=>k
def Ty.num:Ty->Int| .mk _ n _=>n
def Ty.kids:Ty->List Ty| .mk _ _ l=>l
instance:Inhabited Ty:=⟨.mk 0 0 []⟩
theorem Ty.eta(t:Ty):Ty.mk t.kind t.num t.kids=t:=by cases t;rfl
theorem Ty.zMj(k n:Int)(l:List Ty):(Ty.mk k n l).kind=k:=rfl
theorem Ty.zQn(k n:Int)(l:List Ty):(Ty.mk k n l).num=n:=rfl
theorem Ty.zMf(k n:Int)(l:List Ty):(Ty.mk k n l).kids=l:=rfl
mutual
def emb:Ty->AV
 | .mk k n l=> .agg [.int .i64 k,.int .i64 n,.sl (embL l) .no]
def embL:List Ty->List AV
 | []=> []
 |t::l=>emb t::embL l
end
theorem zGU:∀l:List Ty,embL l=l.map emb
 | []=>rfl
 |t::l=>by simp[embL,zGU l]
theorem zGz(t:Ty):emb t= .agg [.int .i64 t.kind,.int .i64 t.num,.sl (t.kids.map emb) .no]:=by
 cases t with|mk k n l=>simp only[emb,zGU,Ty.kind,Ty.num,Ty.kids]
theorem zG3(k n:Int)(l:List Ty):AV.agg [.int .i64 k,.int .i64 n,.sl (l.map emb) .no]=emb (.mk k n l):=by simp only[emb,zGU]
theorem zG0(k n:Int):AV.agg [.int .i64 k,.int .i64 n,.sl [] .no]=emb (.mk k n []):=zG3 k n []
theorem zG1(k n:Int)(a:Ty):AV.agg [.int .i64 k,.int .i64 n,.sl [emb a] .no]=emb (.mk k n [a]):=zG3 k n [a]
theorem zG2(k n:Int)(a b:Ty):AV.agg [.int .i64 k,.int .i64 n,.sl [emb a,emb b] .no]=emb (.mk k n [a,b]):=zG3 k n [a,b]
theorem zGy(t:Ty):cellsOf (emb t)=[.int .i64 t.kind,.int .i64 t.num,.sl (t.kids.map emb) .no]:=by rw[zGz];rfl
theorem zG6(t:Ty):(emb t).solid=true:=by rw[zGz];rfl
theorem zB9(l:List Ty):(∀y,y∈l.map emb->(cellsOf y).length=3)=True:=by
 simp only[YAb,iff_true];intro y hy;obtain⟨t,_,rfl⟩:=List.mem_map.1 hy;rw[zGy];rfl
mutual
theorem zG4:∀t:Ty,(emb t).norm=emb t
 | .mk k n l=>by simp only[emb,yP,yQ,zGV l]
theorem zGV:∀l:List Ty,AV.normL (embL l)=embL l
 | []=>rfl
 |t::l=>by simp only[embL,yQ,zG4 t,zGV l]
end
mutual
theorem zGx(m:Nat):∀t:Ty,(emb t).bel m=true
 | .mk k n l=>by simp only[emb,yN,yO,zGT m l,Bool.and_self]
theorem zGT(m:Nat):∀l:List Ty,AV.belL m (embL l)=true
 | []=>rfl
 |t::l=>by simp only[embL,yO,zGx m t,zGT m l,Bool.and_self]
end
theorem zOu(l:List Ty):AV.normL (l.map emb)=l.map emb:=by rw[<-zGU];exact zGV l
theorem zOq(m:Nat)(l:List Ty):AV.belL m (l.map emb)=true:=by rw[<-zGU];exact zGT m l
theorem zG5{t:Ty}(h:(emb t).okay):t.kids.length<=maxLen/\IntKind.min .i64<=t.kind/\t.kind<=IntKind.max .i64/\IntKind.min .i64<=t.num/\t.num<=IntKind.max .i64/\∀x∈t.kids,(emb x).okay:=by
 rw[zGz]at h
 simp only[AV.okay,AV.zRR,YAK,and_true]at h
 exact⟨h.2.2.1,h.1.1,h.1.2,h.2.1.1,h.2.1.2,fun x hx=>(zRS _).1 h.2.2.2 _ (List.mem_map_of_mem hx)⟩
def W1d:=cjI @ty_2 (cjI @ty_3 (cjI @ty_4 (cjI @ty_5 (cjI @ty_9 (cjI @zZA (cjI @zZG (cjI @zZe (cjI @zZh (cjI @zZi (cjI @zZj (cjI @zZk (cjI @zZl (cjI @zZm (cjI @zZn (cjI @zZo (cjI @zZp (cjI @zZq (cjI @zZr (cjI @zZs (cjI @zZt (cjI @zZu (cjI @zZv (cjI @zZw (cjI @zZx (cjI @zZy (cjI @zZz (cjI @zZ0 (cjI @zZ1 (cjI @zZ2 (cjI @zZ3 (cjI @zZ4 (cjI @zZ5 (cjI @zZ6 (cjI @zY1 (cjI @zY2 (cjI @zY3 (cjI @zY4 (cjI @zY5 (cjI @zY6 (cjI @zY7 (cjI @zY8 (cjI @zY9 (cjI @zZB (cjI @zZC (cjI @zZD (cjI @zZE (cjI @zZF (cjI @zZH (cjI @zZI (cjI @zZJ (cjI @zZK (cjI @zZL (cjI @zZM (cjI @zZN (cjI @zZO (cjI @zZP (cjI @zZQ (cjI @zZR (cjI @zZS (cjI @zZT (cjI @zZU (cjI @zZV (cjI @zZW (cjI @zZX (cjI @zZY (cjI @zZZ (cjI @zZa (cjI @zZb (cjI @zZc (cjI @zZd (cjI @zZf (cjI @zZg (cjI @zLm (cjI @Ty.zMj (cjI @Ty.zQn (cjI @Ty.zMf (cjI @zB9 (cjI @zG6 (cjI @zGy (cjI @zG0 (cjI @zG3 (cjI @zG1 (cjI @zG2 (cjI @Ty.eta (cjI @zG4 (cjI @zOu (@List.length_map.{0,0})))))))))))))))))))))))))))))))))))))))))))))))))))))))))))))))))))))))))))))))))))))))
theorem W1:type_of% W1d:=W1d
def W2d:=cjI @zG4 (cjI @zOu (cjI @zG0 (cjI @zG3 (cjI @zG1 (cjI @zG2 (@Ty.eta))))))
theorem W2:type_of% W2d:=W2d
end
end Go.Proofs.Ytdngjamjccjlmaa

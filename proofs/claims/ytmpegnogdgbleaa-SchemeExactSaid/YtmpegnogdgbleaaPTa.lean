/- Lemmas: the tables of types, and trees. No condition. -/
import Derived.Test.YtmpegnogdgbleaaProg
import Derived.Test.YtmpegnogdgbleaaPAb
set_option linter.defProp false
namespace Go.Proofs.Ytmpegnogdgbleaa
open Go Go.Ab
open AV renaming belL -> yO, bel -> yN, normL -> yQ, norm -> yP
section
def tab:List (Nat×TL):=[(2,⟨0,.int .i64,1,8,.int .i64 0⟩),
 (3,⟨0,.int .i64,1,8,.int .i64 0⟩),
 (4,⟨0,.bool,1,1,.bool false⟩),
 (5,⟨0,.int .u8,1,1,.int .u8 0⟩),
 (9,⟨0,.str,1,16,.str ByteArray.empty⟩),
 (12,⟨0,.int .u64,1,8,.int .u64 0⟩),
 (13,⟨0,.st [(0,9),(1,12)],2,24,.agg [.str ByteArray.empty,.int .u64 0]⟩),
 (19,⟨0,.st [(0,17)],1,8,.agg [.nilp]⟩),
 (21,⟨0,.int .i32,1,4,.int .i32 0⟩),
 (22,⟨0,.sl 24,1,24,.sl [] .full⟩),
 (23,⟨0,.st [(0,3),(1,3),(2,22)],3,40,.agg [.int .i64 0,.int .i64 0,.sl [] .full]⟩),
 (24,⟨0,.st [(0,3),(1,3),(2,22)],3,40,.agg [.int .i64 0,.int .i64 0,.sl [] .full]⟩),
 (25,⟨0,.sl 44,1,24,.sl [] .full⟩),
 (29,⟨0,.int .i64,1,8,.int .i64 0⟩),
 (43,⟨0,.st [(0,3),(1,24)],4,48,.agg [.int .i64 0,.int .i64 0,.int .i64 0,.sl [] .full]⟩),
 (44,⟨0,.st [(0,3),(1,24)],4,48,.agg [.int .i64 0,.int .i64 0,.int .i64 0,.sl [] .full]⟩),
 (46,⟨0,.sl 3,1,24,.sl [] .full⟩),
 (55,⟨0,.map 3 3,1,8,.nilm⟩),
 (58,⟨0,.ptr,1,8,.nilp⟩),
 (59,⟨0,.st [(0,25),(1,55)],2,32,.agg [.sl [] .full,.nilm]⟩),
 (60,⟨0,.st [(0,25),(1,55)],2,32,.agg [.sl [] .full,.nilm]⟩),
 (61,⟨0,.ptr,1,8,.nilp⟩),
 (62,⟨0,.sl 79,1,24,.sl [] .full⟩),
 (63,⟨0,.st [(0,62),(1,55),(2,55)],3,40,.agg [.sl [] .full,.nilm,.nilm]⟩),
 (64,⟨0,.st [(0,62),(1,55),(2,55)],3,40,.agg [.sl [] .full,.nilm,.nilm]⟩),
 (70,⟨0,.ptr,1,8,.nilp⟩),
 (71,⟨0,.st [(0,25)],1,24,.agg [.sl [] .full]⟩),
 (72,⟨0,.st [(0,25)],1,24,.agg [.sl [] .full]⟩),
 (78,⟨0,.st [(0,3),(1,3),(2,46)],3,40,.agg [.int .i64 0,.int .i64 0,.sl [] .full]⟩),
 (79,⟨0,.st [(0,3),(1,3),(2,46)],3,40,.agg [.int .i64 0,.int .i64 0,.sl [] .full]⟩),
 (82,⟨0,.arr 2 3,2,16,.agg [.int .i64 0,.int .i64 0]⟩),
 (83,⟨0,.sl 82,1,24,.sl [] .full⟩),
 (92,⟨0,.int .u32,1,4,.int .u32 0⟩),
 (96,⟨0,.ptr,1,8,.nilp⟩)]
theorem zYK:zYJ Try.prog tab=true:=by kernel_rfl
def C:Cfg:= {ty:=tyOf tab,rdr:=fun f=> [38].contains f,zwr:=fun f=> [40,59,71,58,41,60].contains f}
theorem C_ok:zAb Try.prog C:=zYL zYK
theorem ty_2:C.ty 2=some ⟨0,.int .i64,1,8,.int .i64 0⟩:=rfl
theorem ty_3:C.ty 3=some ⟨0,.int .i64,1,8,.int .i64 0⟩:=rfl
theorem ty_4:C.ty 4=some ⟨0,.bool,1,1,.bool false⟩:=rfl
theorem ty_5:C.ty 5=some ⟨0,.int .u8,1,1,.int .u8 0⟩:=rfl
theorem ty_9:C.ty 9=some ⟨0,.str,1,16,.str ByteArray.empty⟩:=rfl
theorem zZA:C.ty 12=some ⟨0,.int .u64,1,8,.int .u64 0⟩:=rfl
theorem zZG:C.ty 13=some ⟨0,.st [(0,9),(1,12)],2,24,.agg [.str ByteArray.empty,.int .u64 0]⟩:=rfl
theorem zZe:C.ty 19=some ⟨0,.st [(0,17)],1,8,.agg [.nilp]⟩:=rfl
theorem zZh:C.ty 21=some ⟨0,.int .i32,1,4,.int .i32 0⟩:=rfl
theorem zZi:C.ty 22=some ⟨0,.sl 24,1,24,.sl [] .full⟩:=rfl
theorem zZj:C.ty 23=some ⟨0,.st [(0,3),(1,3),(2,22)],3,40,.agg [.int .i64 0,.int .i64 0,.sl [] .full]⟩:=rfl
theorem zZk:C.ty 24=some ⟨0,.st [(0,3),(1,3),(2,22)],3,40,.agg [.int .i64 0,.int .i64 0,.sl [] .full]⟩:=rfl
theorem zkm:C.ty 25=some ⟨0,.sl 44,1,24,.sl [] .full⟩:=rfl
theorem zZm:C.ty 29=some ⟨0,.int .i64,1,8,.int .i64 0⟩:=rfl
theorem zkn:C.ty 43=some ⟨0,.st [(0,3),(1,24)],4,48,.agg [.int .i64 0,.int .i64 0,.int .i64 0,.sl [] .full]⟩:=rfl
theorem zko:C.ty 44=some ⟨0,.st [(0,3),(1,24)],4,48,.agg [.int .i64 0,.int .i64 0,.int .i64 0,.sl [] .full]⟩:=rfl
theorem zkp:C.ty 46=some ⟨0,.sl 3,1,24,.sl [] .full⟩:=rfl
theorem zkq:C.ty 55=some ⟨0,.map 3 3,1,8,.nilm⟩:=rfl
theorem zZr:C.ty 58=some ⟨0,.ptr,1,8,.nilp⟩:=rfl
theorem zkr:C.ty 59=some ⟨0,.st [(0,25),(1,55)],2,32,.agg [.sl [] .full,.nilm]⟩:=rfl
theorem zks:C.ty 60=some ⟨0,.st [(0,25),(1,55)],2,32,.agg [.sl [] .full,.nilm]⟩:=rfl
theorem zZs:C.ty 61=some ⟨0,.ptr,1,8,.nilp⟩:=rfl
theorem zkt:C.ty 62=some ⟨0,.sl 79,1,24,.sl [] .full⟩:=rfl
theorem zku:C.ty 63=some ⟨0,.st [(0,62),(1,55),(2,55)],3,40,.agg [.sl [] .full,.nilm,.nilm]⟩:=rfl
theorem zkv:C.ty 64=some ⟨0,.st [(0,62),(1,55),(2,55)],3,40,.agg [.sl [] .full,.nilm,.nilm]⟩:=rfl
theorem zZw:C.ty 70=some ⟨0,.ptr,1,8,.nilp⟩:=rfl
theorem zZx:C.ty 71=some ⟨0,.st [(0,25)],1,24,.agg [.sl [] .full]⟩:=rfl
theorem zZy:C.ty 72=some ⟨0,.st [(0,25)],1,24,.agg [.sl [] .full]⟩:=rfl
theorem zZz:C.ty 78=some ⟨0,.st [(0,3),(1,3),(2,46)],3,40,.agg [.int .i64 0,.int .i64 0,.sl [] .full]⟩:=rfl
theorem zkw:C.ty 79=some ⟨0,.st [(0,3),(1,3),(2,46)],3,40,.agg [.int .i64 0,.int .i64 0,.sl [] .full]⟩:=rfl
theorem zkx:C.ty 82=some ⟨0,.arr 2 3,2,16,.agg [.int .i64 0,.int .i64 0]⟩:=rfl
theorem zky:C.ty 83=some ⟨0,.sl 82,1,24,.sl [] .full⟩:=rfl
theorem zkz:C.ty 92=some ⟨0,.int .u32,1,4,.int .u32 0⟩:=rfl
theorem zk0:C.ty 96=some ⟨0,.ptr,1,8,.nilp⟩:=rfl
theorem zLm(t:Nat):C.inpl t=false:=rfl
theorem mixed:Try.prog.follows .mixedOrders=true:=by kernel_rfl
theorem drA{D:Cfg}{K:Exit->AState->Prop}{k:List KI}{e:Nat->AV}{F:List AObj}{b n:Nat}{ops:Array Oper}(hC:zAb Try.prog D)(id m:Nat)(h:GoD Try.prog D K ops (pos b (FS e F b n).L.length) ops.toList k (FS e (F++List.replicate m .dead) b n))(hz:∀s,ZLd D s:=by exact fun _=>trivial)(hb:b<=F.length:=by first|(simp;done)|(simp;omega)|assumption)(hc:chk D ops []=true:=by kernel_rfl)(hk:zFG n (.region id ops true)=true:=by decide):Go Try.prog D K (.code (.region id ops true)::k) (FS e F b n):=zKh hC hz mixed m n hb rfl hc hk h
end
section
inductive Ty where
 |mk (kind n:Int) (kids:List Ty)
def Ty.kind:Ty->Int| .mk k _ _=>k
def Ty.num:Ty->Int| .mk _ n _=>n
def Ty.kids:Ty->List Ty| .mk _ _ l=>l
instance:Inhabited Ty:=⟨.mk 0 0 []⟩
theorem Ty.eta(t:Ty):Ty.mk t.kind t.num t.kids=t:=by cases t;rfl
theorem Ty.zMj(k n:Int)(l:List Ty):(Ty.mk k n l).kind=k:=rfl
theorem Ty.zQn(k n:Int)(l:List Ty):(Ty.mk k n l).num=n:=rfl
theorem Ty.zMf(k n:Int)(l:List Ty):(Ty.mk k n l).kids=l:=rfl
mutual
def emb:Ty->AV
 | .mk k n l=> .agg [.int .i64 k,.int .i64 n,.sl (embL l) .no]
def embL:List Ty->List AV
 | []=> []
 |t::l=>emb t::embL l
end
theorem zGU:∀l:List Ty,embL l=l.map emb
 | []=>rfl
 |t::l=>by simp[embL,zGU l]
theorem zGz(t:Ty):emb t= .agg [.int .i64 t.kind,.int .i64 t.num,.sl (t.kids.map emb) .no]:=by
 cases t with|mk k n l=>simp only[emb,zGU,Ty.kind,Ty.num,Ty.kids]
theorem zG3(k n:Int)(l:List Ty):AV.agg [.int .i64 k,.int .i64 n,.sl (l.map emb) .no]=emb (.mk k n l):=by simp only[emb,zGU]
theorem zG0(k n:Int):AV.agg [.int .i64 k,.int .i64 n,.sl [] .no]=emb (.mk k n []):=zG3 k n []
theorem zG1(k n:Int)(a:Ty):AV.agg [.int .i64 k,.int .i64 n,.sl [emb a] .no]=emb (.mk k n [a]):=zG3 k n [a]
theorem zG2(k n:Int)(a b:Ty):AV.agg [.int .i64 k,.int .i64 n,.sl [emb a,emb b] .no]=emb (.mk k n [a,b]):=zG3 k n [a,b]
theorem zGy(t:Ty):cellsOf (emb t)=[.int .i64 t.kind,.int .i64 t.num,.sl (t.kids.map emb) .no]:=by rw[zGz];rfl
theorem zG6(t:Ty):(emb t).solid=true:=by rw[zGz];rfl
theorem zB9(l:List Ty):(∀y,y∈l.map emb->(cellsOf y).length=3)=True:=by
 simp only[YAb,iff_true];intro y hy;obtain⟨t,_,rfl⟩:=List.mem_map.1 hy;rw[zGy];rfl
mutual
theorem zG4:∀t:Ty,(emb t).norm=emb t
 | .mk k n l=>by simp only[emb,yP,yQ,zGV l]
theorem zGV:∀l:List Ty,AV.normL (embL l)=embL l
 | []=>rfl
 |t::l=>by simp only[embL,yQ,zG4 t,zGV l]
end
mutual
theorem zGx(m:Nat):∀t:Ty,(emb t).bel m=true
 | .mk k n l=>by simp only[emb,yN,yO,zGT m l,Bool.and_self]
theorem zGT(m:Nat):∀l:List Ty,AV.belL m (embL l)=true
 | []=>rfl
 |t::l=>by simp only[embL,yO,zGx m t,zGT m l,Bool.and_self]
end
theorem zOu(l:List Ty):AV.normL (l.map emb)=l.map emb:=by rw[<-zGU];exact zGV l
theorem zOq(m:Nat)(l:List Ty):AV.belL m (l.map emb)=true:=by rw[<-zGU];exact zGT m l
theorem zG5{t:Ty}(h:(emb t).okay):t.kids.length<=maxLen/\IntKind.min .i64<=t.kind/\t.kind<=IntKind.max .i64/\IntKind.min .i64<=t.num/\t.num<=IntKind.max .i64/\∀x∈t.kids,(emb x).okay:=by
 rw[zGz]at h
 simp only[AV.okay,AV.zRR,YAK,and_true]at h
 exact⟨h.2.2.1,h.1.1,h.1.2,h.2.1.1,h.2.1.2,fun x hx=>(zRS _).1 h.2.2.2 _ (List.mem_map_of_mem hx)⟩
def W1d:=cjI @ty_2 (cjI @ty_3 (cjI @ty_4 (cjI @ty_5 (cjI @ty_9 (cjI @zZA (cjI @zZG (cjI @zZe (cjI @zZh (cjI @zZi (cjI @zZj (cjI @zZk (cjI @zkm (cjI @zZm (cjI @zkn (cjI @zko (cjI @zkp (cjI @zkq (cjI @zZr (cjI @zkr (cjI @zks (cjI @zZs (cjI @zkt (cjI @zku (cjI @zkv (cjI @zZw (cjI @zZx (cjI @zZy (cjI @zZz (cjI @zkw (cjI @zkx (cjI @zky (cjI @zkz (cjI @zk0 (cjI @zLm (cjI @Ty.zMj (cjI @Ty.zQn (cjI @Ty.zMf (cjI @zB9 (cjI @zG6 (cjI @zGy (cjI @zG0 (cjI @zG3 (cjI @zG1 (cjI @zG2 (cjI @Ty.eta (cjI @zG4 (cjI @zOu (@List.length_map.{0,0}))))))))))))))))))))))))))))))))))))))))))))))))
theorem W1:type_of% W1d:=W1d
def W2d:=cjI @zG4 (cjI @zOu (cjI @zG0 (cjI @zG3 (cjI @zG1 (cjI @zG2 (@Ty.eta))))))
theorem W2:type_of% W2d:=W2d
end
end Go.Proofs.Ytmpegnogdgbleaa

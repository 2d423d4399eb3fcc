import Derived.Test.YthhglklcaodfmaaGreatDoorCQd
import Derived.Shelf.Unicode.ValidAny
set_option linter.all false
set_option maxRecDepth 100000
set_option maxHeartbeats 8000000
namespace Go.Proofs.YthhglklcaodfmaaGreatDoor
open Go Go.Mw Go.Shelf
def agj:Go.Shelf.Ren:=⟨λ|196=>157|259=>202|n=>n,λ|9=>9|4=>4|3=>3|5=>5|12=>12|119=>246|0=>0|46=>250|139=>249|138=>248|53=>61|n=>n,λ|3=>0|4=>1|n=>n⟩
def aar:Go.Proofs.Lays.n196 pg agj:={
 mixed:=by kernel_rfl
 f196:=Tryz.func157.trans (congrArg some (by kernel_rfl))
 f259:=Tryz.func202.trans (congrArg some (by kernel_rfl))
 t0:=Tryz.underlying0
 a0:=Tryz.isAgg0
 z0:=Tryz.sizeOf0
 v0:=Tryz.zeroValue0
 t3:=Tryz.underlying3
 a3:=Tryz.isAgg3
 z3:=Tryz.sizeOf3
 v3:=Tryz.zeroValue3
 t4:=Tryz.underlying4
 a4:=Tryz.isAgg4
 z4:=Tryz.sizeOf4
 v4:=Tryz.zeroValue4
 t5:=Tryz.underlying5
 a5:=Tryz.isAgg5
 z5:=Tryz.sizeOf5
 v5:=Tryz.zeroValue5
 t9:=Tryz.underlying9
 a9:=Tryz.isAgg9
 z9:=Tryz.sizeOf9
 v9:=Tryz.zeroValue9
 t12:=Tryz.underlying12
 a12:=Tryz.isAgg12
 z12:=Tryz.sizeOf12
 v12:=Tryz.zeroValue12
 t46:=Tryz.underlying250
 a46:=Tryz.isAgg250
 z46:=Tryz.sizeOf250
 v46:=Tryz.zeroValue250
 t53:=Tryz.underlying61
 a53:=Tryz.isAgg61
 z53:=Tryz.sizeOf61
 v53:=Tryz.zeroValue61
 t119:=Tryz.underlying246
 a119:=Tryz.isAgg246
 z119:=Tryz.sizeOf246
 t138:=Tryz.underlying248
 a138:=Tryz.isAgg248
 z138:=Tryz.sizeOf248
 v138:=Tryz.zeroValue248
 t139:=Tryz.underlying249
 a139:=Tryz.isAgg249
 z139:=Tryz.sizeOf249
 v139:=Tryz.zeroValue249
 g3:=by kernel_rfl
 g4:=by kernel_rfl}
def ajN(s:List UInt8)(hs:s.length<1000000000):aj pg yj [.str s] (.bool (uv s)):=by
 refine aj.of (λw bl M cargs hH hM ha=>?_) rfl
 match cargs,ha with
 | [a],⟨h1,_⟩ =>
  obtain rfl:=h1.str;refine(Any.utf8_ValidString aar ⟨s.toArray⟩ w (by simp[ByteArray.size];omega) hH.1).mono ?_;rintro e w' ⟨rfl,hb⟩;exact⟨_,rfl,⟨hb.size,λb h _=>hb.block b h,λb c t fr h=>⟨c,fr,(hb.block b (bp h)).trans h,rfl⟩,hb.os,hb.output⟩,IRel.bool _⟩
def slv:Option (List UInt8)->AV
 | none=>.nl
 | some l=>.sl 1 (l.map TC)
def bJ(o:Option (List UInt8)):aV (slv o)=[]:=by cases o<;>rfl
def XA:slv none = .nl:=rfl
def XB(l:List UInt8):slv (some l) = .sl 1 (l.map TC):=rfl
attribute[go_sem] XA XB
def wa(l:List UInt8):au:=⟨5,1,l.map TC,false⟩

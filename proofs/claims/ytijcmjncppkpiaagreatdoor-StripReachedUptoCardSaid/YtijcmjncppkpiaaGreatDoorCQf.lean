import Derived.Test.YtijcmjncppkpiaaGreatDoorCQe
set_option linter.all false
set_option maxRecDepth 100000
set_option maxHeartbeats 4000000
namespace Go.Proofs.YtijcmjncppkpiaaGreatDoor
open Go Go.Mw
def ro(m:Bool)(b:List UInt8)(a e:Int):aj:=⟨272,4,[[.bool m,.sl 1 (b.map FZ),.int .i64 a,.int .i64 e]],true⟩
section
attribute[go_sem] bne_self_eq_false jr
def rx(b:List UInt8)(a e:Int):AV:=.agg [.sl 1 (b.map FZ),.int .i64 a,.int .i64 e]
attribute[local go_sem] rx ro
end
section
attribute[local go_sem] rx ro
section
variable(b:List UInt8)(a:Nat)(e:Int)(ha:a<=b.length)(hb:b.length<1000000000)
include ha hb
end
end
def mW:∀l:List UInt8,mU (l.map FZ)=some l
 | []=>rfl
 | b::l=>by
  simp only[bY,FZ,mU,mW l,fo,cY,UInt8.ofNat_toNat]
section
attribute[local go_sem] rx ro
end
section
variable(n:Int)(b:List UInt8)(a:Nat)(e:Int)(b2:List UInt8)(a2:Nat)(e2:Int)(hn:-9223372036854775808<=n/\n<9223372036854775808)(ha:a<=b.length)(hb:b.length<1000000000)(ha2:a2<=b2.length)(hb2:b2.length<1000000000)
include hn ha hb ha2 hb2
end
section
def ado(x:Int×Int):List AV:=[.int .i64 x.1,.int .i64 x.2]
def aaD(x:Int×Int):ado x=[.int .i64 x.1,.int .i64 x.2]:=rfl
attribute[go_sem] aaD
attribute[local go_sem] rx ro
end
section
def i64_in(x:Int):inI (IntKind.i64.wrap x):=by unfold inI;rw[acS];omega
attribute[local go_sem] wo wa
section
variable(m:Bool)(l:List UInt8)(e:Int)(hl:l.length<50000000000)
include hl

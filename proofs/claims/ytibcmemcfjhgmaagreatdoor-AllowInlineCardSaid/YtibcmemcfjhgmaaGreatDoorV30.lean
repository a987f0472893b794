/-
  Package urls: main.
-/
import Derived.Test.YtibcmemcfjhgmaaGreatDoorV29
import Derived.Test.YtibcmemcfjhgmaaGreatDoorV21
namespace Go.Proofs.YtibcmemcfjhgmaaGreatDoor
open Go.RowKit
def abc (u:Lz.au) (a r:List UInt8):Option Lz.au->Lz.UR
 | some x=>if x.scheme=a/\Lib.hasPrefix r [47,47]=false then Lz.Ae u x r else Lz.dK u (r.drop (Lz.kh true r))
 | none=>Lz.dK u (r.drop (Lz.kh true r))
def YZ (u:Lz.au) (r:List UInt8):Lz.UR:=
 if Lib.hasPrefix r [47,47]then Lz.dK u (r.drop 2)
 else if Lib.hasPrefix r [47]then .ok (Lz.onP u (r.drop 1))
 else .ok {u with opq:=true,path:=[Lz.aq [] r]}
def okU (u:Lz.au) (a r:List UInt8) (b:Option Lz.au):Lz.UR:=if a=Lz.cJ then Lz.lK u b r else if Lz.aj a then abc u a r b else YZ u r
theorem Mr (u:Lz.au) (s:List UInt8) (b:Option Lz.au) {a r:List UInt8} (h:Lz.aI s=(a,r,true)):Lz.jL u s b=okU {u with scheme:=a} a r b:=by
 unfold Lz.jL okU YZ;rw[h];cases b<;>rfl
end Go.Proofs.YtibcmemcfjhgmaaGreatDoor

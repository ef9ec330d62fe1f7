import Derived.Test.YtlkfabkkjfmnmaaKaz
import Derived.Test.YtlkfabkkjfmnmaaKbb
import Derived.Test.YtlkfabkkjfmnmaaKbc
import Derived.Test.YtlkfabkkjfmnmaaKbd
import Derived.Test.YtlkfabkkjfmnmaaKbe
import Derived.Test.YtlkfabkkjfmnmaaKbf
import Derived.Test.YtlkfabkkjfmnmaaKbg
namespace Go.Proofs.Ytlkfabkkjfmnmaa
open Go.RowKit
set_option linter.all false
set_option maxRecDepth 1000000 in
set_option maxHeartbeats 6000000 in
theorem l6Rename_any (B : Nat) (next : Int) (a : Option Addr) (cap : Nat) (m : List InoP) (kd dir : Int) (nm : ByteArray) (tt : Int) (sa dt : ByteArray) (k1 : Nat) (Y1 : InoL) (ya1 : Option Addr) (yc1 : Nat) (k2 : Nat) (Y2 : InoL) (ya2 : Option Addr) (yc2 : Nat) (kx : Nat) (X : InoL) (xa : Option Addr) (xc : Nat) (j : Nat) (hj : j < Y1.ents.length) (w : World) (h : VolOwn B w a cap m w) (hi : Inv d0 next (xs m))
  (hy1 : m[k1]? = some ⟨Y1, ya1, yc1⟩) (hat1 : atF (xs m) dir = (k1 : Int)) (hy2 : m[k2]? = some ⟨Y2, ya2, yc2⟩) (hat2 : atF (xs m) tt = (k2 : Int)) (hkd2 : Y2.kind = 2) (hyx : m[kx]? = some ⟨X, xa, xc⟩) (hatx : atF (xs m) X.id = (kx : Int)) (hxid : X.id = Y1.ents[j].id) (hj1 : (Y1.ents.take j).any (fun x => alikeB x.name nm) = false) (hj2 : alikeB Y1.ents[j].name nm = true) (hnb1 : nameB nm = true) (hnb2 : nameB sa = true) :
  Calls Try.prog 42 #[.agg #[.int .i64 next, .slice a m.length cap], .agg #[.int .i64 kd, .int .i64 dir, .string nm, .int .i64 tt, .string sa, .string dt], .agg #[.int .i64 X.id, .int .i64 X.kind, .int .i64 X.links, .string X.data, .slice xa X.ents.length xc]] w (VolAns B (VolBl a cap m) w) := by
 by_cases hxk : X.kind = 2
 ·rcases hit_or Y2.ents (fun x => alikeB x.name sa) with hno | ⟨q, hq, hq1, hq2⟩
  ·exact l6RenCD_any B next a cap m kd dir nm tt sa dt k1 Y1 ya1 yc1 k2 Y2 ya2 yc2 kx X xa xc j hj w h hi hy1 hat1 hy2 hat2 hkd2 hyx hatx hxid hj1 hj2 hnb1 hnb2 hxk hno
  ·by_cases hqid : Y2.ents[q].id = X.id
   ·exact l6RenBD_any B next a cap m kd dir nm tt sa dt k1 Y1 ya1 yc1 k2 Y2 ya2 yc2 kx X xa xc j hj w h hi hy1 hat1 hy2 hat2 hkd2 hyx hatx hxid hj1 hj2 hnb1 hnb2 hxk q hq hq1 hq2 hqid
   ·exact l6RenDD_any B next a cap m kd dir nm tt sa dt k1 Y1 ya1 yc1 k2 Y2 ya2 yc2 kx X xa xc j hj w h hi hy1 hat1 hy2 hat2 hkd2 hyx hatx hxid hj1 hj2 hnb1 hnb2 hxk q hq hq1 hq2 hqid
 ·rcases hit_or Y2.ents (fun x => alikeB x.name sa) with hno | ⟨q, hq, hq1, hq2⟩
  ·exact l6RenCF_any B next a cap m kd dir nm tt sa dt k1 Y1 ya1 yc1 k2 Y2 ya2 yc2 kx X xa xc j hj w h hi hy1 hat1 hy2 hat2 hkd2 hyx hatx hxid hj1 hj2 hnb1 hnb2 hxk hno
  ·by_cases hqid : Y2.ents[q].id = X.id
   ·exact l6RenBF_any B next a cap m kd dir nm tt sa dt k1 Y1 ya1 yc1 k2 Y2 ya2 yc2 kx X xa xc j hj w h hi hy1 hat1 hy2 hat2 hkd2 hyx hatx hxid hj1 hj2 hnb1 hnb2 hxk q hq hq1 hq2 hqid
   ·exact l6RenDF_any B next a cap m kd dir nm tt sa dt k1 Y1 ya1 yc1 k2 Y2 ya2 yc2 kx X xa xc j hj w h hi hy1 hat1 hy2 hat2 hkd2 hyx hatx hxid hj1 hj2 hnb1 hnb2 hxk q hq hq1 hq2 hqid
end Go.Proofs.Ytlkfabkkjfmnmaa

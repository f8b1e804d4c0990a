-- Written by wip/xprint.py of this session's own repo (a patched run of the kit's printer). Not trusted: Lean checks it.
import Derived.Test.YtljadejgdbemoaaDoorPdBx0
import Derived.Test.YtljadejgdbemoaaDoorPdBx1
import Derived.Test.YtljadejgdbemoaaDoorPdBx4
import Derived.Test.YtljadejgdbemoaaDoorPdBx5
import Derived.Test.YtljadejgdbemoaaDoorPdBx6
import Derived.Test.YtljadejgdbemoaaDoorPdBx7
namespace Go.Proofs.YtljadejgdbemoaaDoor.B
open Go.RowKit Go.Proofs.YtljadejgdbemoaaDoorW.PrintWords Go.Proofs.YtljadejgdbemoaaDoorW.PrintLast Go.Proofs.YtljadejgdbemoaaDoorW.PrintMore Go.Proofs.YtljadejgdbemoaaDoorX
attribute [local go_sem] max2_int min2_int max_two min_two max_three min_three max_four min_four
set_option linter.unusedVariables false
set_option linter.unusedSimpArgs false

attribute [local go_sem high] eqA38
/-! ### barbicanlaw05_ValueDivides: function 8 -/
mutual
def barbicanlaw05_ValueDivides.j0 : Nat → Int → Option Int → Bool → Int → Int → ByteArray → Bool → Int → Int → ByteArray → Bool → Int → Int → ByteArray → Bool → Option (Bool)
  | 0, _, _, _, _, _, _, _, _, _, _, _, _, _, _, _ => none
  | k + 1, x0, x10, x15, x397000, x397001, x397002, x397003, x398000, x398001, x398002, x398003, x410000, x410001, x410002, x410003 => if x10.isNone = true then (if x15 = true then (if x410001 > 0 then (if x0 < 0 then (none) else (if x410001 < 0 then (none) else (barbicanlaw05_ValueDivides.j1 k false x397000 x397001 x397002 x397003 x398000 x398001 x398002 x398003))) else (if x410001 < 0 then (barbicanlaw05_ValueDivides.j1 k (decide (x0 > 0)) x397000 x397001 x397002 x397003 x398000 x398001 x398002 x398003) else (barbicanlaw05_ValueDivides.j1 k false x397000 x397001 x397002 x397003 x398000 x398001 x398002 x398003))) else (none)) else (none)
def barbicanlaw05_ValueDivides.j1 : Nat → Bool → Int → Int → ByteArray → Bool → Int → Int → ByteArray → Bool → Option (Bool)
  | 0, _, _, _, _, _, _, _, _, _ => none
  | k + 1, x158, x397000, x397001, x397002, x397003, x398000, x398001, x398002, x398003 => if x158 = true then (none) else ((value_Reckon.f k 43 x397000 x397001 x397002 x397003 x398000 x398001 x398002 x398003).bind fun bt429 => (if bt429.2.2.2.2.isNone = true then ((value_Reckon.f k 45 bt429.1 bt429.2.1 bt429.2.2.1 bt429.2.2.2.1 x398000 x398001 x398002 x398003).bind fun bt436 => (if bt436.2.2.2.2.isNone = true then (if (bt436.1 == x397000 && (bt436.2.1 == x397001 && (bt436.2.2.1.toList == x397002.toList && (bt436.2.2.2.1 == x397003)))) = true then ((barbicanlaw05_sure.f k).bind fun t443 => (some t443)) else (none)) else (none))) else ((barbicanlaw05_num.f (some (bt429.2.2.2.2.getD 0))).bind fun t444 => (if t444 = 5 then ((barbicanlaw05_sure.f k).bind fun t445 => (some t445)) else (none)))))
def barbicanlaw05_ValueDivides.j2 : Nat → Int → Option Int → Bool → Int → Int → ByteArray → Bool → Int → Int → ByteArray → Bool → Int → Int → ByteArray → Bool → Option (Bool)
  | 0, _, _, _, _, _, _, _, _, _, _, _, _, _, _, _ => none
  | k + 1, x0, x10, x15, x397000, x397001, x397002, x397003, x398000, x398001, x398002, x398003, x410000, x410001, x410002, x410003 => if x10.isNone = true then (if x15 = true then (if x410001 > 0 then (if x0 < 0 then (none) else (if x410001 < 0 then (none) else (barbicanlaw05_ValueDivides.j3 k false x397000 x397001 x397002 x397003 x398000 x398001 x398002 x398003))) else (if x410001 < 0 then (barbicanlaw05_ValueDivides.j3 k (decide (x0 > 0)) x397000 x397001 x397002 x397003 x398000 x398001 x398002 x398003) else (barbicanlaw05_ValueDivides.j3 k false x397000 x397001 x397002 x397003 x398000 x398001 x398002 x398003))) else (none)) else (none)
def barbicanlaw05_ValueDivides.j3 : Nat → Bool → Int → Int → ByteArray → Bool → Int → Int → ByteArray → Bool → Option (Bool)
  | 0, _, _, _, _, _, _, _, _, _ => none
  | k + 1, x158, x397000, x397001, x397002, x397003, x398000, x398001, x398002, x398003 => if x158 = true then (none) else ((value_Reckon.f k 43 x397000 x397001 x397002 x397003 x398000 x398001 x398002 x398003).bind fun bt448 => (if bt448.2.2.2.2.isNone = true then ((value_Reckon.f k 45 bt448.1 bt448.2.1 bt448.2.2.1 bt448.2.2.2.1 x398000 x398001 x398002 x398003).bind fun bt455 => (if bt455.2.2.2.2.isNone = true then (if (bt455.1 == x397000 && (bt455.2.1 == x397001 && (bt455.2.2.1.toList == x397002.toList && (bt455.2.2.2.1 == x397003)))) = true then ((barbicanlaw05_sure.f k).bind fun t462 => (some t462)) else (none)) else (none))) else ((barbicanlaw05_num.f (some (bt448.2.2.2.2.getD 0))).bind fun t463 => (if t463 = 5 then ((barbicanlaw05_sure.f k).bind fun t464 => (some t464)) else (none)))))
end
def barbicanlaw05_ValueDivides.f (k : Nat) (a0 : Int) (a1 : Int) : Option (Bool) := (value_Int.f a0).bind fun bt388 => ((value_Int.f a1).bind fun bt392 => ((value_Reckon.f k 47 bt388.1 bt388.2.1 bt388.2.2.1 bt388.2.2.2 bt392.1 bt392.2.1 bt392.2.2.1 bt392.2.2.2).bind fun bt398 => ((value_Reckon.f k 37 bt388.1 bt388.2.1 bt388.2.2.1 bt388.2.2.2 bt392.1 bt392.2.1 bt392.2.2.1 bt392.2.2.2).bind fun bt404 => (if a1 = 0 then ((barbicanlaw05_num.f bt398.2.2.2.2).bind fun t410 => (if t410 = 6 then ((barbicanlaw05_num.f bt404.2.2.2.2).bind fun t411 => (if t411 = 6 then ((barbicanlaw05_sure.f k).bind fun t412 => (some t412)) else (none))) else (none))) else (if bt398.2.2.2.2.isNone = true then ((value_Reckon.f k 42 bt398.1 bt398.2.1 bt398.2.2.1 bt398.2.2.2.1 bt392.1 bt392.2.1 bt392.2.2.1 bt392.2.2.2).bind fun bt414 => ((value_Reckon.f k 43 bt414.1 bt414.2.1 bt414.2.2.1 bt414.2.2.2.1 bt404.1 bt404.2.1 bt404.2.2.1 bt404.2.2.2.1).bind fun bt420 => (if bt414.2.2.2.2.isNone = true then (if bt420.2.2.2.2.isNone = true then (if (!(bt420.1 == bt388.1) || (!(bt420.2.1 == bt388.2.1) || (!(bt420.2.2.1.toList == bt388.2.2.1.toList) || (!(bt420.2.2.2.1 == bt388.2.2.2))))) = true then (none) else (if bt404.2.1 < 0 then (if a1 < 0 then (if bt404.2.1 > a1 then (barbicanlaw05_ValueDivides.j0 k a0 bt404.2.2.2.2 true bt388.1 bt388.2.1 bt388.2.2.1 bt388.2.2.2 bt392.1 bt392.2.1 bt392.2.2.1 bt392.2.2.2 bt404.1 bt404.2.1 bt404.2.2.1 bt404.2.2.2.1) else (if a1 > 0 then (none) else (if a1 = (-9223372036854775808) then (barbicanlaw05_ValueDivides.j0 k a0 bt404.2.2.2.2 true bt388.1 bt388.2.1 bt388.2.2.1 bt388.2.2.2 bt392.1 bt392.2.1 bt392.2.2.1 bt392.2.2.2 bt404.1 bt404.2.1 bt404.2.2.1 bt404.2.2.2.1) else (none)))) else (if a1 > 0 then (if bt404.2.1 > (wrap64 (-a1)) then (barbicanlaw05_ValueDivides.j0 k a0 bt404.2.2.2.2 true bt388.1 bt388.2.1 bt388.2.2.1 bt388.2.2.2 bt392.1 bt392.2.1 bt392.2.2.1 bt392.2.2.2 bt404.1 bt404.2.1 bt404.2.2.1 bt404.2.2.2.1) else (none)) else (none))) else (if bt404.2.1 ≥ 0 then (if a1 > 0 then (if bt404.2.1 < a1 then (barbicanlaw05_ValueDivides.j0 k a0 bt404.2.2.2.2 true bt388.1 bt388.2.1 bt388.2.2.1 bt388.2.2.2 bt392.1 bt392.2.1 bt392.2.2.1 bt392.2.2.2 bt404.1 bt404.2.1 bt404.2.2.1 bt404.2.2.2.1) else (none)) else (if a1 < 0 then (barbicanlaw05_ValueDivides.j0 k a0 bt404.2.2.2.2 (decide ((wrap64 (-bt404.2.1)) > a1)) bt388.1 bt388.2.1 bt388.2.2.1 bt388.2.2.2 bt392.1 bt392.2.1 bt392.2.2.1 bt392.2.2.2 bt404.1 bt404.2.1 bt404.2.2.1 bt404.2.2.2.1) else (none))) else (none)))) else (none)) else (none)))) else ((barbicanlaw05_num.f (some (bt398.2.2.2.2.getD 0))).bind fun t446 => (if t446 = 5 then (if a1 = (-1) then (if bt404.2.1 < 0 then (if a1 < 0 then (if bt404.2.1 > a1 then (barbicanlaw05_ValueDivides.j2 k a0 bt404.2.2.2.2 true bt388.1 bt388.2.1 bt388.2.2.1 bt388.2.2.2 bt392.1 bt392.2.1 bt392.2.2.1 bt392.2.2.2 bt404.1 bt404.2.1 bt404.2.2.1 bt404.2.2.2.1) else (none)) else (none)) else (if bt404.2.1 ≥ 0 then (if a1 > 0 then (none) else (if a1 < 0 then (barbicanlaw05_ValueDivides.j2 k a0 bt404.2.2.2.2 (decide ((wrap64 (-bt404.2.1)) > a1)) bt388.1 bt388.2.1 bt388.2.2.1 bt388.2.2.2 bt392.1 bt392.2.1 bt392.2.2.1 bt392.2.2.2 bt404.1 bt404.2.1 bt404.2.2.1 bt404.2.2.2.1) else (none))) else (none))) else (none)) else (none))))))))
set_option maxHeartbeats 8000000 in
set_option maxRecDepth 100000 in
theorem barbicanlaw05_ValueDivides.calls_a (k : Nat) (a0 : Int) (a1 : Int) (r : Bool) (w : World) (hG : GW w) (he : ∀ p q z, value_Int.f a0 = some p → value_Int.f a1 = some q → value_Reckon.f k 47 p.1 p.2.1 p.2.2.1 p.2.2.2 q.1 q.2.1 q.2.2.1 q.2.2.2 = some z → z.2.2.2.2 = none) (h : barbicanlaw05_ValueDivides.f k a0 a1 = some r) :
    Calls Tryd.prog 8 #[.int .i64 a0, .int .i64 a1] w fun e w' => e = .returned (.bool r) ∧ Below w.heap.size w w' := by
  have hu38 := Tryd.underlying38
  have hu28 := Tryd.underlying28
  have hu72 := Tryd.underlying72
  have HB := Aside0.mk (Below.refl w.heap.size w)
  have HG := Aside0.mk hG
  clear hG
  have HE := Aside0.mk he
  clear he
  have H : ((value_Int.f a0).bind fun bt388 => ((value_Int.f a1).bind fun bt392 => ((value_Reckon.f k 47 bt388.1 bt388.2.1 bt388.2.2.1 bt388.2.2.2 bt392.1 bt392.2.1 bt392.2.2.1 bt392.2.2.2).bind fun bt398 => ((value_Reckon.f k 37 bt388.1 bt388.2.1 bt388.2.2.1 bt388.2.2.2 bt392.1 bt392.2.1 bt392.2.2.1 bt392.2.2.2).bind fun bt404 => (if a1 = 0 then ((barbicanlaw05_num.f bt398.2.2.2.2).bind fun t410 => (if t410 = 6 then ((barbicanlaw05_num.f bt404.2.2.2.2).bind fun t411 => (if t411 = 6 then ((barbicanlaw05_sure.f k).bind fun t412 => (some t412)) else (none))) else (none))) else (if bt398.2.2.2.2.isNone = true then ((value_Reckon.f k 42 bt398.1 bt398.2.1 bt398.2.2.1 bt398.2.2.2.1 bt392.1 bt392.2.1 bt392.2.2.1 bt392.2.2.2).bind fun bt414 => ((value_Reckon.f k 43 bt414.1 bt414.2.1 bt414.2.2.1 bt414.2.2.2.1 bt404.1 bt404.2.1 bt404.2.2.1 bt404.2.2.2.1).bind fun bt420 => (if bt414.2.2.2.2.isNone = true then (if bt420.2.2.2.2.isNone = true then (if (!(bt420.1 == bt388.1) || (!(bt420.2.1 == bt388.2.1) || (!(bt420.2.2.1.toList == bt388.2.2.1.toList) || (!(bt420.2.2.2.1 == bt388.2.2.2))))) = true then (none) else (if bt404.2.1 < 0 then (if a1 < 0 then (if bt404.2.1 > a1 then (barbicanlaw05_ValueDivides.j0 k a0 bt404.2.2.2.2 true bt388.1 bt388.2.1 bt388.2.2.1 bt388.2.2.2 bt392.1 bt392.2.1 bt392.2.2.1 bt392.2.2.2 bt404.1 bt404.2.1 bt404.2.2.1 bt404.2.2.2.1) else (if a1 > 0 then (none) else (if a1 = (-9223372036854775808) then (barbicanlaw05_ValueDivides.j0 k a0 bt404.2.2.2.2 true bt388.1 bt388.2.1 bt388.2.2.1 bt388.2.2.2 bt392.1 bt392.2.1 bt392.2.2.1 bt392.2.2.2 bt404.1 bt404.2.1 bt404.2.2.1 bt404.2.2.2.1) else (none)))) else (if a1 > 0 then (if bt404.2.1 > (wrap64 (-a1)) then (barbicanlaw05_ValueDivides.j0 k a0 bt404.2.2.2.2 true bt388.1 bt388.2.1 bt388.2.2.1 bt388.2.2.2 bt392.1 bt392.2.1 bt392.2.2.1 bt392.2.2.2 bt404.1 bt404.2.1 bt404.2.2.1 bt404.2.2.2.1) else (none)) else (none))) else (if bt404.2.1 ≥ 0 then (if a1 > 0 then (if bt404.2.1 < a1 then (barbicanlaw05_ValueDivides.j0 k a0 bt404.2.2.2.2 true bt388.1 bt388.2.1 bt388.2.2.1 bt388.2.2.2 bt392.1 bt392.2.1 bt392.2.2.1 bt392.2.2.2 bt404.1 bt404.2.1 bt404.2.2.1 bt404.2.2.2.1) else (none)) else (if a1 < 0 then (barbicanlaw05_ValueDivides.j0 k a0 bt404.2.2.2.2 (decide ((wrap64 (-bt404.2.1)) > a1)) bt388.1 bt388.2.1 bt388.2.2.1 bt388.2.2.2 bt392.1 bt392.2.1 bt392.2.2.1 bt392.2.2.2 bt404.1 bt404.2.1 bt404.2.2.1 bt404.2.2.2.1) else (none))) else (none)))) else (none)) else (none)))) else ((barbicanlaw05_num.f (some (bt398.2.2.2.2.getD 0))).bind fun t446 => (if t446 = 5 then (if a1 = (-1) then (if bt404.2.1 < 0 then (if a1 < 0 then (if bt404.2.1 > a1 then (barbicanlaw05_ValueDivides.j2 k a0 bt404.2.2.2.2 true bt388.1 bt388.2.1 bt388.2.2.1 bt388.2.2.2 bt392.1 bt392.2.1 bt392.2.2.1 bt392.2.2.2 bt404.1 bt404.2.1 bt404.2.2.1 bt404.2.2.2.1) else (none)) else (none)) else (if bt404.2.1 ≥ 0 then (if a1 > 0 then (none) else (if a1 < 0 then (barbicanlaw05_ValueDivides.j2 k a0 bt404.2.2.2.2 (decide ((wrap64 (-bt404.2.1)) > a1)) bt388.1 bt388.2.1 bt388.2.2.1 bt388.2.2.2 bt392.1 bt392.2.1 bt392.2.2.1 bt392.2.2.2 bt404.1 bt404.2.1 bt404.2.2.1 bt404.2.2.2.1) else (none))) else (none))) else (none)) else (none))))))))) = some r := h
  clear h
  replace H := Option.bind_eq_some_iff.mp H
  obtain ⟨⟨t388, t389, t390, t391⟩, A30, H⟩ := H
  replace H : ((value_Int.f a1).bind fun bt392 => ((value_Reckon.f k 47 t388 t389 t390 t391 bt392.1 bt392.2.1 bt392.2.2.1 bt392.2.2.2).bind fun bt398 => ((value_Reckon.f k 37 t388 t389 t390 t391 bt392.1 bt392.2.1 bt392.2.2.1 bt392.2.2.2).bind fun bt404 => (if a1 = 0 then ((barbicanlaw05_num.f bt398.2.2.2.2).bind fun t410 => (if t410 = 6 then ((barbicanlaw05_num.f bt404.2.2.2.2).bind fun t411 => (if t411 = 6 then ((barbicanlaw05_sure.f k).bind fun t412 => (some t412)) else (none))) else (none))) else (if bt398.2.2.2.2.isNone = true then ((value_Reckon.f k 42 bt398.1 bt398.2.1 bt398.2.2.1 bt398.2.2.2.1 bt392.1 bt392.2.1 bt392.2.2.1 bt392.2.2.2).bind fun bt414 => ((value_Reckon.f k 43 bt414.1 bt414.2.1 bt414.2.2.1 bt414.2.2.2.1 bt404.1 bt404.2.1 bt404.2.2.1 bt404.2.2.2.1).bind fun bt420 => (if bt414.2.2.2.2.isNone = true then (if bt420.2.2.2.2.isNone = true then (if (!(bt420.1 == t388) || (!(bt420.2.1 == t389) || (!(bt420.2.2.1.toList == t390.toList) || (!(bt420.2.2.2.1 == t391))))) = true then (none) else (if bt404.2.1 < 0 then (if a1 < 0 then (if bt404.2.1 > a1 then (barbicanlaw05_ValueDivides.j0 k a0 bt404.2.2.2.2 true t388 t389 t390 t391 bt392.1 bt392.2.1 bt392.2.2.1 bt392.2.2.2 bt404.1 bt404.2.1 bt404.2.2.1 bt404.2.2.2.1) else (if a1 > 0 then (none) else (if a1 = (-9223372036854775808) then (barbicanlaw05_ValueDivides.j0 k a0 bt404.2.2.2.2 true t388 t389 t390 t391 bt392.1 bt392.2.1 bt392.2.2.1 bt392.2.2.2 bt404.1 bt404.2.1 bt404.2.2.1 bt404.2.2.2.1) else (none)))) else (if a1 > 0 then (if bt404.2.1 > (wrap64 (-a1)) then (barbicanlaw05_ValueDivides.j0 k a0 bt404.2.2.2.2 true t388 t389 t390 t391 bt392.1 bt392.2.1 bt392.2.2.1 bt392.2.2.2 bt404.1 bt404.2.1 bt404.2.2.1 bt404.2.2.2.1) else (none)) else (none))) else (if bt404.2.1 ≥ 0 then (if a1 > 0 then (if bt404.2.1 < a1 then (barbicanlaw05_ValueDivides.j0 k a0 bt404.2.2.2.2 true t388 t389 t390 t391 bt392.1 bt392.2.1 bt392.2.2.1 bt392.2.2.2 bt404.1 bt404.2.1 bt404.2.2.1 bt404.2.2.2.1) else (none)) else (if a1 < 0 then (barbicanlaw05_ValueDivides.j0 k a0 bt404.2.2.2.2 (decide ((wrap64 (-bt404.2.1)) > a1)) t388 t389 t390 t391 bt392.1 bt392.2.1 bt392.2.2.1 bt392.2.2.2 bt404.1 bt404.2.1 bt404.2.2.1 bt404.2.2.2.1) else (none))) else (none)))) else (none)) else (none)))) else ((barbicanlaw05_num.f (some (bt398.2.2.2.2.getD 0))).bind fun t446 => (if t446 = 5 then (if a1 = (-1) then (if bt404.2.1 < 0 then (if a1 < 0 then (if bt404.2.1 > a1 then (barbicanlaw05_ValueDivides.j2 k a0 bt404.2.2.2.2 true t388 t389 t390 t391 bt392.1 bt392.2.1 bt392.2.2.1 bt392.2.2.2 bt404.1 bt404.2.1 bt404.2.2.1 bt404.2.2.2.1) else (none)) else (none)) else (if bt404.2.1 ≥ 0 then (if a1 > 0 then (none) else (if a1 < 0 then (barbicanlaw05_ValueDivides.j2 k a0 bt404.2.2.2.2 (decide ((wrap64 (-bt404.2.1)) > a1)) t388 t389 t390 t391 bt392.1 bt392.2.1 bt392.2.2.1 bt392.2.2.2 bt404.1 bt404.2.1 bt404.2.2.1 bt404.2.2.2.1) else (none))) else (none))) else (none)) else (none)))))))) = some r := H
  have A3 := Aside0.mk A30
  clear A30
  replace H := Option.bind_eq_some_iff.mp H
  obtain ⟨⟨t392, t393, t394, t395⟩, A40, H⟩ := H
  replace H : ((value_Reckon.f k 47 t388 t389 t390 t391 t392 t393 t394 t395).bind fun bt398 => ((value_Reckon.f k 37 t388 t389 t390 t391 t392 t393 t394 t395).bind fun bt404 => (if a1 = 0 then ((barbicanlaw05_num.f bt398.2.2.2.2).bind fun t410 => (if t410 = 6 then ((barbicanlaw05_num.f bt404.2.2.2.2).bind fun t411 => (if t411 = 6 then ((barbicanlaw05_sure.f k).bind fun t412 => (some t412)) else (none))) else (none))) else (if bt398.2.2.2.2.isNone = true then ((value_Reckon.f k 42 bt398.1 bt398.2.1 bt398.2.2.1 bt398.2.2.2.1 t392 t393 t394 t395).bind fun bt414 => ((value_Reckon.f k 43 bt414.1 bt414.2.1 bt414.2.2.1 bt414.2.2.2.1 bt404.1 bt404.2.1 bt404.2.2.1 bt404.2.2.2.1).bind fun bt420 => (if bt414.2.2.2.2.isNone = true then (if bt420.2.2.2.2.isNone = true then (if (!(bt420.1 == t388) || (!(bt420.2.1 == t389) || (!(bt420.2.2.1.toList == t390.toList) || (!(bt420.2.2.2.1 == t391))))) = true then (none) else (if bt404.2.1 < 0 then (if a1 < 0 then (if bt404.2.1 > a1 then (barbicanlaw05_ValueDivides.j0 k a0 bt404.2.2.2.2 true t388 t389 t390 t391 t392 t393 t394 t395 bt404.1 bt404.2.1 bt404.2.2.1 bt404.2.2.2.1) else (if a1 > 0 then (none) else (if a1 = (-9223372036854775808) then (barbicanlaw05_ValueDivides.j0 k a0 bt404.2.2.2.2 true t388 t389 t390 t391 t392 t393 t394 t395 bt404.1 bt404.2.1 bt404.2.2.1 bt404.2.2.2.1) else (none)))) else (if a1 > 0 then (if bt404.2.1 > (wrap64 (-a1)) then (barbicanlaw05_ValueDivides.j0 k a0 bt404.2.2.2.2 true t388 t389 t390 t391 t392 t393 t394 t395 bt404.1 bt404.2.1 bt404.2.2.1 bt404.2.2.2.1) else (none)) else (none))) else (if bt404.2.1 ≥ 0 then (if a1 > 0 then (if bt404.2.1 < a1 then (barbicanlaw05_ValueDivides.j0 k a0 bt404.2.2.2.2 true t388 t389 t390 t391 t392 t393 t394 t395 bt404.1 bt404.2.1 bt404.2.2.1 bt404.2.2.2.1) else (none)) else (if a1 < 0 then (barbicanlaw05_ValueDivides.j0 k a0 bt404.2.2.2.2 (decide ((wrap64 (-bt404.2.1)) > a1)) t388 t389 t390 t391 t392 t393 t394 t395 bt404.1 bt404.2.1 bt404.2.2.1 bt404.2.2.2.1) else (none))) else (none)))) else (none)) else (none)))) else ((barbicanlaw05_num.f (some (bt398.2.2.2.2.getD 0))).bind fun t446 => (if t446 = 5 then (if a1 = (-1) then (if bt404.2.1 < 0 then (if a1 < 0 then (if bt404.2.1 > a1 then (barbicanlaw05_ValueDivides.j2 k a0 bt404.2.2.2.2 true t388 t389 t390 t391 t392 t393 t394 t395 bt404.1 bt404.2.1 bt404.2.2.1 bt404.2.2.2.1) else (none)) else (none)) else (if bt404.2.1 ≥ 0 then (if a1 > 0 then (none) else (if a1 < 0 then (barbicanlaw05_ValueDivides.j2 k a0 bt404.2.2.2.2 (decide ((wrap64 (-bt404.2.1)) > a1)) t388 t389 t390 t391 t392 t393 t394 t395 bt404.1 bt404.2.1 bt404.2.2.1 bt404.2.2.2.1) else (none))) else (none))) else (none)) else (none))))))) = some r := H
  have A4 := Aside0.mk A40
  clear A40
  replace H := Option.bind_eq_some_iff.mp H
  obtain ⟨⟨t398, t399, t400, t401, t402⟩, A50, H⟩ := H
  replace H : ((value_Reckon.f k 37 t388 t389 t390 t391 t392 t393 t394 t395).bind fun bt404 => (if a1 = 0 then ((barbicanlaw05_num.f t402).bind fun t410 => (if t410 = 6 then ((barbicanlaw05_num.f bt404.2.2.2.2).bind fun t411 => (if t411 = 6 then ((barbicanlaw05_sure.f k).bind fun t412 => (some t412)) else (none))) else (none))) else (if t402.isNone = true then ((value_Reckon.f k 42 t398 t399 t400 t401 t392 t393 t394 t395).bind fun bt414 => ((value_Reckon.f k 43 bt414.1 bt414.2.1 bt414.2.2.1 bt414.2.2.2.1 bt404.1 bt404.2.1 bt404.2.2.1 bt404.2.2.2.1).bind fun bt420 => (if bt414.2.2.2.2.isNone = true then (if bt420.2.2.2.2.isNone = true then (if (!(bt420.1 == t388) || (!(bt420.2.1 == t389) || (!(bt420.2.2.1.toList == t390.toList) || (!(bt420.2.2.2.1 == t391))))) = true then (none) else (if bt404.2.1 < 0 then (if a1 < 0 then (if bt404.2.1 > a1 then (barbicanlaw05_ValueDivides.j0 k a0 bt404.2.2.2.2 true t388 t389 t390 t391 t392 t393 t394 t395 bt404.1 bt404.2.1 bt404.2.2.1 bt404.2.2.2.1) else (if a1 > 0 then (none) else (if a1 = (-9223372036854775808) then (barbicanlaw05_ValueDivides.j0 k a0 bt404.2.2.2.2 true t388 t389 t390 t391 t392 t393 t394 t395 bt404.1 bt404.2.1 bt404.2.2.1 bt404.2.2.2.1) else (none)))) else (if a1 > 0 then (if bt404.2.1 > (wrap64 (-a1)) then (barbicanlaw05_ValueDivides.j0 k a0 bt404.2.2.2.2 true t388 t389 t390 t391 t392 t393 t394 t395 bt404.1 bt404.2.1 bt404.2.2.1 bt404.2.2.2.1) else (none)) else (none))) else (if bt404.2.1 ≥ 0 then (if a1 > 0 then (if bt404.2.1 < a1 then (barbicanlaw05_ValueDivides.j0 k a0 bt404.2.2.2.2 true t388 t389 t390 t391 t392 t393 t394 t395 bt404.1 bt404.2.1 bt404.2.2.1 bt404.2.2.2.1) else (none)) else (if a1 < 0 then (barbicanlaw05_ValueDivides.j0 k a0 bt404.2.2.2.2 (decide ((wrap64 (-bt404.2.1)) > a1)) t388 t389 t390 t391 t392 t393 t394 t395 bt404.1 bt404.2.1 bt404.2.2.1 bt404.2.2.2.1) else (none))) else (none)))) else (none)) else (none)))) else ((barbicanlaw05_num.f (some (t402.getD 0))).bind fun t446 => (if t446 = 5 then (if a1 = (-1) then (if bt404.2.1 < 0 then (if a1 < 0 then (if bt404.2.1 > a1 then (barbicanlaw05_ValueDivides.j2 k a0 bt404.2.2.2.2 true t388 t389 t390 t391 t392 t393 t394 t395 bt404.1 bt404.2.1 bt404.2.2.1 bt404.2.2.2.1) else (none)) else (none)) else (if bt404.2.1 ≥ 0 then (if a1 > 0 then (none) else (if a1 < 0 then (barbicanlaw05_ValueDivides.j2 k a0 bt404.2.2.2.2 (decide ((wrap64 (-bt404.2.1)) > a1)) t388 t389 t390 t391 t392 t393 t394 t395 bt404.1 bt404.2.1 bt404.2.2.1 bt404.2.2.2.1) else (none))) else (none))) else (none)) else (none)))))) = some r := H
  have A5 := Aside0.mk A50
  clear A50
  replace H := Option.bind_eq_some_iff.mp H
  obtain ⟨⟨t404, t405, t406, t407, t408⟩, A60, H⟩ := H
  replace H : (if a1 = 0 then ((barbicanlaw05_num.f t402).bind fun t410 => (if t410 = 6 then ((barbicanlaw05_num.f t408).bind fun t411 => (if t411 = 6 then ((barbicanlaw05_sure.f k).bind fun t412 => (some t412)) else (none))) else (none))) else (if t402.isNone = true then ((value_Reckon.f k 42 t398 t399 t400 t401 t392 t393 t394 t395).bind fun bt414 => ((value_Reckon.f k 43 bt414.1 bt414.2.1 bt414.2.2.1 bt414.2.2.2.1 t404 t405 t406 t407).bind fun bt420 => (if bt414.2.2.2.2.isNone = true then (if bt420.2.2.2.2.isNone = true then (if (!(bt420.1 == t388) || (!(bt420.2.1 == t389) || (!(bt420.2.2.1.toList == t390.toList) || (!(bt420.2.2.2.1 == t391))))) = true then (none) else (if t405 < 0 then (if a1 < 0 then (if t405 > a1 then (barbicanlaw05_ValueDivides.j0 k a0 t408 true t388 t389 t390 t391 t392 t393 t394 t395 t404 t405 t406 t407) else (if a1 > 0 then (none) else (if a1 = (-9223372036854775808) then (barbicanlaw05_ValueDivides.j0 k a0 t408 true t388 t389 t390 t391 t392 t393 t394 t395 t404 t405 t406 t407) else (none)))) else (if a1 > 0 then (if t405 > (wrap64 (-a1)) then (barbicanlaw05_ValueDivides.j0 k a0 t408 true t388 t389 t390 t391 t392 t393 t394 t395 t404 t405 t406 t407) else (none)) else (none))) else (if t405 ≥ 0 then (if a1 > 0 then (if t405 < a1 then (barbicanlaw05_ValueDivides.j0 k a0 t408 true t388 t389 t390 t391 t392 t393 t394 t395 t404 t405 t406 t407) else (none)) else (if a1 < 0 then (barbicanlaw05_ValueDivides.j0 k a0 t408 (decide ((wrap64 (-t405)) > a1)) t388 t389 t390 t391 t392 t393 t394 t395 t404 t405 t406 t407) else (none))) else (none)))) else (none)) else (none)))) else ((barbicanlaw05_num.f (some (t402.getD 0))).bind fun t446 => (if t446 = 5 then (if a1 = (-1) then (if t405 < 0 then (if a1 < 0 then (if t405 > a1 then (barbicanlaw05_ValueDivides.j2 k a0 t408 true t388 t389 t390 t391 t392 t393 t394 t395 t404 t405 t406 t407) else (none)) else (none)) else (if t405 ≥ 0 then (if a1 > 0 then (none) else (if a1 < 0 then (barbicanlaw05_ValueDivides.j2 k a0 t408 (decide ((wrap64 (-t405)) > a1)) t388 t389 t390 t391 t392 t393 t394 t395 t404 t405 t406 t407) else (none))) else (none))) else (none)) else (none))))) = some r := H
  have A6 := Aside0.mk A60
  clear A60
  by_cases c7 : a1 = 0
  · rw [if_pos c7] at H
    have c7b0 : (a1 == 0) = true := beq_iff_eq.mpr c7
    have c7b1 : (a1 != 0) = false := bne_eq_false_iff_eq.mpr c7
    clear c7
    replace H := Option.bind_eq_some_iff.mp H
    obtain ⟨t410, A80, H⟩ := H
    replace H : (if t410 = 6 then ((barbicanlaw05_num.f t408).bind fun t411 => (if t411 = 6 then ((barbicanlaw05_sure.f k).bind fun t412 => (some t412)) else (none))) else (none)) = some r := H
    have A8 := Aside0.mk A80
    clear A80
    by_cases c9 : t410 = 6
    · rw [if_pos c9] at H
      have c9b0 : (t410 == 6) = true := beq_iff_eq.mpr c9
      have c9b1 : (t410 != 6) = false := bne_eq_false_iff_eq.mpr c9
      clear c9
      replace H := Option.bind_eq_some_iff.mp H
      obtain ⟨t411, A100, H⟩ := H
      replace H : (if t411 = 6 then ((barbicanlaw05_sure.f k).bind fun t412 => (some t412)) else (none)) = some r := H
      have A10 := Aside0.mk A100
      clear A100
      by_cases c11 : t411 = 6
      · rw [if_pos c11] at H
        have c11b0 : (t411 == 6) = true := beq_iff_eq.mpr c11
        have c11b1 : (t411 != 6) = false := bne_eq_false_iff_eq.mpr c11
        clear c11
        replace H := Option.bind_eq_some_iff.mp H
        obtain ⟨t412, A120, H⟩ := H
        replace H : (some t412) = some r := H
        have A12 := Aside0.mk A120
        clear A120
        obtain rfl := Option.some.inj H
        go_enter Tryd.func8, Tryd.ntmps8
        go_wp2_with (first | ((with_reducible refine gate_callee (f := 28) rfl ?_); refine goesL_ (some 21) rfl rfl Tryd.func28 (by kernel_rfl) rfl #[.int .i64 a0] rfl (by (try simp only [List.map_toArray, List.map_cons, List.map_nil]); first | done | rfl | (simp only [List.length_drop, List.length_take]; rfl)) ?_; (with_reducible refine (value_Int.calls a0 t388 t389 t390 t391 _ A3.out).mono ?_); rintro e w13 ⟨rfl, hb⟩; refine ⟨_, rfl, ?_⟩; have n0_ := Aside0.mk (below_step (by repeat (first | (with_reducible first | exact HB.out | apply below_alloc | apply pw_below_drewN | apply below_drew1) | exact HB.out)) hb); clear HB; have HB := n0_; clear n0_; (try clear hb); (try clear hb2); (try clear hk); (try clear hi)) | ((with_reducible refine gate_callee (f := 28) rfl ?_); refine goesL_ (some 23) rfl rfl Tryd.func28 (by kernel_rfl) rfl #[.int .i64 a1] rfl (by (try simp only [List.map_toArray, List.map_cons, List.map_nil]); first | done | rfl | (simp only [List.length_drop, List.length_take]; rfl)) ?_; (with_reducible refine (value_Int.calls a1 t392 t393 t394 t395 _ A4.out).mono ?_); rintro e w14 ⟨rfl, hb⟩; refine ⟨_, rfl, ?_⟩; have n0_ := Aside0.mk (below_step (by repeat (first | (with_reducible first | exact HB.out | apply below_alloc | apply pw_below_drewN | apply below_drew1) | exact HB.out)) hb); clear HB; have HB := n0_; clear n0_; (try clear hb); (try clear hb2); (try clear hk); (try clear hi)) | ((with_reducible refine gate_dst (N := 5) rfl ?_); refine box_event ?hg (N := 5) ?hd (cs := #[.int .i64 0, .int .i64 0, .string (⟨#[]⟩ : ByteArray), .bool false]) (t := 38) ?hr ?_; (case hd => rfl); (case hg => rfl); (case hr => first | (go_simp; done) | (go_simp; rfl)); intro gb396 hg w15 hbox hb; have n0_ := Aside0.mk (below_step (by repeat (first | (with_reducible first | exact HB.out | apply below_alloc | apply pw_below_drewN | apply below_drew1) | exact HB.out)) hb); have n1_ := Aside0.mk (hbox); have n2_ := Aside0.mk ((by rw [hg]; exact (below_size (by repeat (first | (with_reducible first | exact HB.out | apply below_alloc | apply pw_below_drewN | apply below_drew1) | exact HB.out))) : w.heap.size ≤ gb396)); have n3_ := Aside0.mk ((by rw [hg]; exact (below_size (by repeat (first | (with_reducible first | exact HB.out | apply below_alloc | apply pw_below_drewN | apply below_drew1) | exact HB.out))) : w.heap.size ≤ gb396)); clear HB; have HB := n0_; have BK396 := n1_; have GW396 := n2_; have GE396 := n3_; clear n0_ n1_ n2_ n3_; clear hb hbox hg) | ((with_reducible refine gate_dst (N := 6) rfl ?_); refine box_event ?hg (N := 6) ?hd (cs := #[.int .i64 0, .int .i64 0, .string (⟨#[]⟩ : ByteArray), .bool false]) (t := 38) ?hr ?_; (case hd => rfl); (case hg => rfl); (case hr => first | (go_simp; done) | (go_simp; rfl)); intro gb397 hg w16 hbox hb; have n0_ := Aside0.mk (blk_below (g := gb396) (o := .cells #[.int .i64 0, .int .i64 0, .string (⟨#[]⟩ : ByteArray), .bool false] 38 (0, 0)) (by (with_reducible repeat (first | refine blk_drewN ?_ _ | refine blk_drew ?_ | refine blk_alloc ?_ _)); exact BK396.out) hb); have n1_ := Aside0.mk (below_step (by repeat (first | (with_reducible first | exact HB.out | apply below_alloc | apply pw_below_drewN | apply below_drew1 | refine below_set ?_ GE396.out) | exact HB.out)) hb); have n2_ := Aside0.mk (hbox); have n3_ := Aside0.mk ((by rw [hg]; exact (below_size (by repeat (first | (with_reducible first | exact HB.out | apply below_alloc | apply pw_below_drewN | apply below_drew1 | refine below_set ?_ GE396.out) | exact HB.out))) : w.heap.size ≤ gb397)); have n4_ := Aside0.mk ((by rw [hg]; exact (below_size (by repeat (first | (with_reducible first | exact HB.out | apply below_alloc | apply pw_below_drewN | apply below_drew1 | refine below_set ?_ GE396.out) | exact HB.out))) : w.heap.size ≤ gb397)); have n5_ := Aside0.mk ((by rw [hg]; exact Nat.ne_of_lt (blk_lt (g := gb396) (o := .cells #[.int .i64 0, .int .i64 0, .string (⟨#[]⟩ : ByteArray), .bool false] 38 (0, 0)) (by (with_reducible repeat (first | refine blk_drewN ?_ _ | refine blk_drew ?_ | refine blk_alloc ?_ _)); exact BK396.out)) : gb396 ≠ gb397)); have n6_ := Aside0.mk ((by rw [hg]; exact Nat.ne_of_gt (blk_lt (g := gb396) (o := .cells #[.int .i64 0, .int .i64 0, .string (⟨#[]⟩ : ByteArray), .bool false] 38 (0, 0)) (by (with_reducible repeat (first | refine blk_drewN ?_ _ | refine blk_drew ?_ | refine blk_alloc ?_ _)); exact BK396.out)) : gb397 ≠ gb396)); clear BK396; clear HB; have BK396 := n0_; have HB := n1_; have BK397 := n2_; have GW397 := n3_; have GE397 := n4_; have NB396_397 := n5_; have NB397_396 := n6_; clear n0_ n1_ n2_ n3_ n4_ n5_ n6_; clear hb hbox hg; have hnb17 := NB396_397.out; have hnc17 := NB397_396.out; have hcz18_0 : w16.cell? ⟨gb396, 0, none⟩ = some (.int .i64 0) := (blk_cell BK396.out 0).trans rfl; have hcz18_1 : w16.cell? ⟨gb396, 1, none⟩ = some (.int .i64 0) := (blk_cell BK396.out 1).trans rfl; have hcz18_2 : w16.cell? ⟨gb396, 2, none⟩ = some (.string (⟨#[]⟩ : ByteArray)) := (blk_cell BK396.out 2).trans rfl; have hcz18_3 : w16.cell? ⟨gb396, 3, none⟩ = some (.bool false) := (blk_cell BK396.out 3).trans rfl; have hfz18_0 := blk_frozen BK396.out 0; have hfz18_1 := blk_frozen BK396.out 1; have hfz18_2 := blk_frozen BK396.out 2; have hfz18_3 := blk_frozen BK396.out 3; have hcz19_0 : w16.cell? ⟨gb397, 0, none⟩ = some (.int .i64 0) := (blk_cell BK397.out 0).trans rfl; have hcz19_1 : w16.cell? ⟨gb397, 1, none⟩ = some (.int .i64 0) := (blk_cell BK397.out 1).trans rfl; have hcz19_2 : w16.cell? ⟨gb397, 2, none⟩ = some (.string (⟨#[]⟩ : ByteArray)) := (blk_cell BK397.out 2).trans rfl; have hcz19_3 : w16.cell? ⟨gb397, 3, none⟩ = some (.bool false) := (blk_cell BK397.out 3).trans rfl; have hfz19_0 := blk_frozen BK397.out 0; have hfz19_1 := blk_frozen BK397.out 1; have hfz19_2 := blk_frozen BK397.out 2; have hfz19_3 := blk_frozen BK397.out 3) | ((with_reducible refine gate_callee (f := 26) rfl ?_); refine goesL_ (some 27) rfl rfl Tryd.func26 (by kernel_rfl) rfl #[.int .u8 47, .agg #[.int .i64 t388, .int .i64 t389, .string t390, .bool t391], .agg #[.int .i64 t392, .int .i64 t393, .string t394, .bool t395]] rfl (by (try simp only [List.map_toArray, List.map_cons, List.map_nil]); first | done | rfl | (simp only [List.length_drop, List.length_take]; rfl)) ?_; (with_reducible refine (value_Reckon.calls k 47 t388 t389 t390 t391 t392 t393 t394 t395 t398 t399 t400 t401 t402 _ A5.out).mono ?_); rintro e w20 ⟨rfl, hb⟩; refine ⟨_, rfl, ?_⟩; have n0_ := Aside0.mk (blk_below (g := gb396) (o := .cells #[.int .i64 t388, .int .i64 t389, .string t390, .bool t391] 38 (0, 0)) (by (with_reducible repeat (first | refine blk_drewN ?_ _ | refine blk_drew ?_ | refine blk_alloc ?_ _)); refine blk_far ?_ NB396_397.out _; (with_reducible repeat (first | refine blk_drewN ?_ _ | refine blk_drew ?_ | refine blk_alloc ?_ _)); refine blk_far ?_ NB396_397.out _; (with_reducible repeat (first | refine blk_drewN ?_ _ | refine blk_drew ?_ | refine blk_alloc ?_ _)); refine blk_far ?_ NB396_397.out _; (with_reducible repeat (first | refine blk_drewN ?_ _ | refine blk_drew ?_ | refine blk_alloc ?_ _)); refine blk_far ?_ NB396_397.out _; (with_reducible repeat (first | refine blk_drewN ?_ _ | refine blk_drew ?_ | refine blk_alloc ?_ _)); refine blk_put (cs := #[.int .i64 t388, .int .i64 t389, .string t390, .bool false]) ?_ 3 _ rfl; (with_reducible repeat (first | refine blk_drewN ?_ _ | refine blk_drew ?_ | refine blk_alloc ?_ _)); refine blk_put (cs := #[.int .i64 t388, .int .i64 t389, .string (⟨#[]⟩ : ByteArray), .bool false]) ?_ 2 _ rfl; (with_reducible repeat (first | refine blk_drewN ?_ _ | refine blk_drew ?_ | refine blk_alloc ?_ _)); refine blk_put (cs := #[.int .i64 t388, .int .i64 0, .string (⟨#[]⟩ : ByteArray), .bool false]) ?_ 1 _ rfl; (with_reducible repeat (first | refine blk_drewN ?_ _ | refine blk_drew ?_ | refine blk_alloc ?_ _)); refine blk_put (cs := #[.int .i64 0, .int .i64 0, .string (⟨#[]⟩ : ByteArray), .bool false]) ?_ 0 _ rfl; (with_reducible repeat (first | refine blk_drewN ?_ _ | refine blk_drew ?_ | refine blk_alloc ?_ _)); exact BK396.out) hb); have n1_ := Aside0.mk (blk_below (g := gb397) (o := .cells #[.int .i64 t392, .int .i64 t393, .string t394, .bool t395] 38 (0, 0)) (by (with_reducible repeat (first | refine blk_drewN ?_ _ | refine blk_drew ?_ | refine blk_alloc ?_ _)); refine blk_put (cs := #[.int .i64 t392, .int .i64 t393, .string t394, .bool false]) ?_ 3 _ rfl; (with_reducible repeat (first | refine blk_drewN ?_ _ | refine blk_drew ?_ | refine blk_alloc ?_ _)); refine blk_put (cs := #[.int .i64 t392, .int .i64 t393, .string (⟨#[]⟩ : ByteArray), .bool false]) ?_ 2 _ rfl; (with_reducible repeat (first | refine blk_drewN ?_ _ | refine blk_drew ?_ | refine blk_alloc ?_ _)); refine blk_put (cs := #[.int .i64 t392, .int .i64 0, .string (⟨#[]⟩ : ByteArray), .bool false]) ?_ 1 _ rfl; (with_reducible repeat (first | refine blk_drewN ?_ _ | refine blk_drew ?_ | refine blk_alloc ?_ _)); refine blk_put (cs := #[.int .i64 0, .int .i64 0, .string (⟨#[]⟩ : ByteArray), .bool false]) ?_ 0 _ rfl; (with_reducible repeat (first | refine blk_drewN ?_ _ | refine blk_drew ?_ | refine blk_alloc ?_ _)); refine blk_far ?_ NB397_396.out _; (with_reducible repeat (first | refine blk_drewN ?_ _ | refine blk_drew ?_ | refine blk_alloc ?_ _)); refine blk_far ?_ NB397_396.out _; (with_reducible repeat (first | refine blk_drewN ?_ _ | refine blk_drew ?_ | refine blk_alloc ?_ _)); refine blk_far ?_ NB397_396.out _; (with_reducible repeat (first | refine blk_drewN ?_ _ | refine blk_drew ?_ | refine blk_alloc ?_ _)); refine blk_far ?_ NB397_396.out _; (with_reducible repeat (first | refine blk_drewN ?_ _ | refine blk_drew ?_ | refine blk_alloc ?_ _)); exact BK397.out) hb); have n2_ := Aside0.mk (below_step (by repeat (first | (with_reducible first | exact HB.out | apply below_alloc | apply pw_below_drewN | apply below_drew1 | refine below_set ?_ GE396.out | refine below_set ?_ GE397.out) | exact HB.out)) hb); clear BK396; clear BK397; clear HB; have BK396 := n0_; have BK397 := n1_; have HB := n2_; clear n0_ n1_ n2_; (try clear hb); (try clear hb2); (try clear hk); (try clear hi); (try simp only [errW_none, errW_some])) | ((with_reducible refine gate_dst (N := 7) rfl ?_); refine box_event ?hg (N := 7) ?hd (cs := #[.int .i64 0, .int .i64 0, .string (⟨#[]⟩ : ByteArray), .bool false]) (t := 38) ?hr ?_; (case hd => rfl); (case hg => rfl); (case hr => first | (go_simp; done) | (go_simp; rfl)); intro gb403 hg w21 hbox hb; have n0_ := Aside0.mk (blk_below (g := gb396) (o := .cells #[.int .i64 t388, .int .i64 t389, .string t390, .bool t391] 38 (0, 0)) (by (with_reducible repeat (first | refine blk_drewN ?_ _ | refine blk_drew ?_ | refine blk_alloc ?_ _)); exact BK396.out) hb); have n1_ := Aside0.mk (blk_below (g := gb397) (o := .cells #[.int .i64 t392, .int .i64 t393, .string t394, .bool t395] 38 (0, 0)) (by (with_reducible repeat (first | refine blk_drewN ?_ _ | refine blk_drew ?_ | refine blk_alloc ?_ _)); exact BK397.out) hb); have n2_ := Aside0.mk (below_step (by repeat (first | (with_reducible first | exact HB.out | apply below_alloc | apply pw_below_drewN | apply below_drew1 | refine below_set ?_ GE396.out | refine below_set ?_ GE397.out) | exact HB.out)) hb); have n3_ := Aside0.mk (hbox); have n4_ := Aside0.mk ((by rw [hg]; exact (below_size (by repeat (first | (with_reducible first | exact HB.out | apply below_alloc | apply pw_below_drewN | apply below_drew1 | refine below_set ?_ GE396.out | refine below_set ?_ GE397.out) | exact HB.out))) : w.heap.size ≤ gb403)); have n5_ := Aside0.mk ((by rw [hg]; exact (below_size (by repeat (first | (with_reducible first | exact HB.out | apply below_alloc | apply pw_below_drewN | apply below_drew1 | refine below_set ?_ GE396.out | refine below_set ?_ GE397.out) | exact HB.out))) : w.heap.size ≤ gb403)); have n6_ := Aside0.mk ((by rw [hg]; exact Nat.ne_of_lt (blk_lt (g := gb396) (o := .cells #[.int .i64 t388, .int .i64 t389, .string t390, .bool t391] 38 (0, 0)) (by (with_reducible repeat (first | refine blk_drewN ?_ _ | refine blk_drew ?_ | refine blk_alloc ?_ _)); exact BK396.out)) : gb396 ≠ gb403)); have n7_ := Aside0.mk ((by rw [hg]; exact Nat.ne_of_gt (blk_lt (g := gb396) (o := .cells #[.int .i64 t388, .int .i64 t389, .string t390, .bool t391] 38 (0, 0)) (by (with_reducible repeat (first | refine blk_drewN ?_ _ | refine blk_drew ?_ | refine blk_alloc ?_ _)); exact BK396.out)) : gb403 ≠ gb396)); have n8_ := Aside0.mk ((by rw [hg]; exact Nat.ne_of_lt (blk_lt (g := gb397) (o := .cells #[.int .i64 t392, .int .i64 t393, .string t394, .bool t395] 38 (0, 0)) (by (with_reducible repeat (first | refine blk_drewN ?_ _ | refine blk_drew ?_ | refine blk_alloc ?_ _)); exact BK397.out)) : gb397 ≠ gb403)); have n9_ := Aside0.mk ((by rw [hg]; exact Nat.ne_of_gt (blk_lt (g := gb397) (o := .cells #[.int .i64 t392, .int .i64 t393, .string t394, .bool t395] 38 (0, 0)) (by (with_reducible repeat (first | refine blk_drewN ?_ _ | refine blk_drew ?_ | refine blk_alloc ?_ _)); exact BK397.out)) : gb403 ≠ gb397)); clear BK396; clear BK397; clear HB; have BK396 := n0_; have BK397 := n1_; have HB := n2_; have BK403 := n3_; have GW403 := n4_; have GE403 := n5_; have NB396_403 := n6_; have NB403_396 := n7_; have NB397_403 := n8_; have NB403_397 := n9_; clear n0_ n1_ n2_ n3_ n4_ n5_ n6_ n7_ n8_ n9_; clear hb hbox hg; have hnb22 := NB403_396.out; have hnc22 := NB396_403.out; have hnb23 := NB403_397.out; have hnc23 := NB397_403.out; have hcz24_0 : w21.cell? ⟨gb403, 0, none⟩ = some (.int .i64 0) := (blk_cell BK403.out 0).trans rfl; have hcz24_1 : w21.cell? ⟨gb403, 1, none⟩ = some (.int .i64 0) := (blk_cell BK403.out 1).trans rfl; have hcz24_2 : w21.cell? ⟨gb403, 2, none⟩ = some (.string (⟨#[]⟩ : ByteArray)) := (blk_cell BK403.out 2).trans rfl; have hcz24_3 : w21.cell? ⟨gb403, 3, none⟩ = some (.bool false) := (blk_cell BK403.out 3).trans rfl; have hfz24_0 := blk_frozen BK403.out 0; have hfz24_1 := blk_frozen BK403.out 1; have hfz24_2 := blk_frozen BK403.out 2; have hfz24_3 := blk_frozen BK403.out 3; have hcz25_0 : w21.cell? ⟨gb396, 0, none⟩ = some (.int .i64 t388) := (blk_cell BK396.out 0).trans rfl; have hcz25_1 : w21.cell? ⟨gb396, 1, none⟩ = some (.int .i64 t389) := (blk_cell BK396.out 1).trans rfl; have hcz25_2 : w21.cell? ⟨gb396, 2, none⟩ = some (.string t390) := (blk_cell BK396.out 2).trans rfl; have hcz25_3 : w21.cell? ⟨gb396, 3, none⟩ = some (.bool t391) := (blk_cell BK396.out 3).trans rfl; have hfz25_0 := blk_frozen BK396.out 0; have hfz25_1 := blk_frozen BK396.out 1; have hfz25_2 := blk_frozen BK396.out 2; have hfz25_3 := blk_frozen BK396.out 3; have hcz26_0 : w21.cell? ⟨gb397, 0, none⟩ = some (.int .i64 t392) := (blk_cell BK397.out 0).trans rfl; have hcz26_1 : w21.cell? ⟨gb397, 1, none⟩ = some (.int .i64 t393) := (blk_cell BK397.out 1).trans rfl; have hcz26_2 : w21.cell? ⟨gb397, 2, none⟩ = some (.string t394) := (blk_cell BK397.out 2).trans rfl; have hcz26_3 : w21.cell? ⟨gb397, 3, none⟩ = some (.bool t395) := (blk_cell BK397.out 3).trans rfl; have hfz26_0 := blk_frozen BK397.out 0; have hfz26_1 := blk_frozen BK397.out 1; have hfz26_2 := blk_frozen BK397.out 2; have hfz26_3 := blk_frozen BK397.out 3) | ((with_reducible refine gate_callee (f := 26) rfl ?_); refine goesL_ (some 33) rfl rfl Tryd.func26 (by kernel_rfl) rfl #[.int .u8 37, .agg #[.int .i64 t388, .int .i64 t389, .string t390, .bool t391], .agg #[.int .i64 t392, .int .i64 t393, .string t394, .bool t395]] rfl (by (try simp only [List.map_toArray, List.map_cons, List.map_nil]); first | done | rfl | (simp only [List.length_drop, List.length_take]; rfl)) ?_; (with_reducible refine (value_Reckon.calls k 37 t388 t389 t390 t391 t392 t393 t394 t395 t404 t405 t406 t407 t408 _ A6.out).mono ?_); rintro e w27 ⟨rfl, hb⟩; refine ⟨_, rfl, ?_⟩; have n0_ := Aside0.mk (blk_below (g := gb396) (o := .cells #[.int .i64 t388, .int .i64 t389, .string t390, .bool t391] 38 (0, 0)) (by (with_reducible repeat (first | refine blk_drewN ?_ _ | refine blk_drew ?_ | refine blk_alloc ?_ _)); refine blk_far ?_ NB396_403.out _; (with_reducible repeat (first | refine blk_drewN ?_ _ | refine blk_drew ?_ | refine blk_alloc ?_ _)); refine blk_far ?_ NB396_403.out _; (with_reducible repeat (first | refine blk_drewN ?_ _ | refine blk_drew ?_ | refine blk_alloc ?_ _)); refine blk_far ?_ NB396_403.out _; (with_reducible repeat (first | refine blk_drewN ?_ _ | refine blk_drew ?_ | refine blk_alloc ?_ _)); refine blk_far ?_ NB396_403.out _; (with_reducible repeat (first | refine blk_drewN ?_ _ | refine blk_drew ?_ | refine blk_alloc ?_ _)); exact BK396.out) hb); have n1_ := Aside0.mk (blk_below (g := gb397) (o := .cells #[.int .i64 t392, .int .i64 t393, .string t394, .bool t395] 38 (0, 0)) (by (with_reducible repeat (first | refine blk_drewN ?_ _ | refine blk_drew ?_ | refine blk_alloc ?_ _)); refine blk_far ?_ NB397_403.out _; (with_reducible repeat (first | refine blk_drewN ?_ _ | refine blk_drew ?_ | refine blk_alloc ?_ _)); refine blk_far ?_ NB397_403.out _; (with_reducible repeat (first | refine blk_drewN ?_ _ | refine blk_drew ?_ | refine blk_alloc ?_ _)); refine blk_far ?_ NB397_403.out _; (with_reducible repeat (first | refine blk_drewN ?_ _ | refine blk_drew ?_ | refine blk_alloc ?_ _)); refine blk_far ?_ NB397_403.out _; (with_reducible repeat (first | refine blk_drewN ?_ _ | refine blk_drew ?_ | refine blk_alloc ?_ _)); exact BK397.out) hb); have n2_ := Aside0.mk (blk_below (g := gb403) (o := .cells #[.int .i64 t398, .int .i64 t399, .string t400, .bool t401] 38 (0, 0)) (by (with_reducible repeat (first | refine blk_drewN ?_ _ | refine blk_drew ?_ | refine blk_alloc ?_ _)); refine blk_put (cs := #[.int .i64 t398, .int .i64 t399, .string t400, .bool false]) ?_ 3 _ rfl; (with_reducible repeat (first | refine blk_drewN ?_ _ | refine blk_drew ?_ | refine blk_alloc ?_ _)); refine blk_put (cs := #[.int .i64 t398, .int .i64 t399, .string (⟨#[]⟩ : ByteArray), .bool false]) ?_ 2 _ rfl; (with_reducible repeat (first | refine blk_drewN ?_ _ | refine blk_drew ?_ | refine blk_alloc ?_ _)); refine blk_put (cs := #[.int .i64 t398, .int .i64 0, .string (⟨#[]⟩ : ByteArray), .bool false]) ?_ 1 _ rfl; (with_reducible repeat (first | refine blk_drewN ?_ _ | refine blk_drew ?_ | refine blk_alloc ?_ _)); refine blk_put (cs := #[.int .i64 0, .int .i64 0, .string (⟨#[]⟩ : ByteArray), .bool false]) ?_ 0 _ rfl; (with_reducible repeat (first | refine blk_drewN ?_ _ | refine blk_drew ?_ | refine blk_alloc ?_ _)); exact BK403.out) hb); have n3_ := Aside0.mk (below_step (by repeat (first | (with_reducible first | exact HB.out | apply below_alloc | apply pw_below_drewN | apply below_drew1 | refine below_set ?_ GE396.out | refine below_set ?_ GE397.out | refine below_set ?_ GE403.out) | exact HB.out)) hb); clear BK396; clear BK397; clear BK403; clear HB; have BK396 := n0_; have BK397 := n1_; have BK403 := n2_; have HB := n3_; clear n0_ n1_ n2_ n3_; (try clear hb); (try clear hb2); (try clear hk); (try clear hi); (try simp only [errW_none, errW_some])) | ((with_reducible refine gate_dst (N := 9) rfl ?_); refine box_event ?hg (N := 9) ?hd (cs := #[.int .i64 0, .int .i64 0, .string (⟨#[]⟩ : ByteArray), .bool false]) (t := 38) ?hr ?_; (case hd => rfl); (case hg => rfl); (case hr => first | (go_simp; done) | (go_simp; rfl)); intro gb409 hg w28 hbox hb; have n0_ := Aside0.mk (blk_below (g := gb396) (o := .cells #[.int .i64 t388, .int .i64 t389, .string t390, .bool t391] 38 (0, 0)) (by (with_reducible repeat (first | refine blk_drewN ?_ _ | refine blk_drew ?_ | refine blk_alloc ?_ _)); exact BK396.out) hb); have n1_ := Aside0.mk (blk_below (g := gb397) (o := .cells #[.int .i64 t392, .int .i64 t393, .string t394, .bool t395] 38 (0, 0)) (by (with_reducible repeat (first | refine blk_drewN ?_ _ | refine blk_drew ?_ | refine blk_alloc ?_ _)); exact BK397.out) hb); have n2_ := Aside0.mk (blk_below (g := gb403) (o := .cells #[.int .i64 t398, .int .i64 t399, .string t400, .bool t401] 38 (0, 0)) (by (with_reducible repeat (first | refine blk_drewN ?_ _ | refine blk_drew ?_ | refine blk_alloc ?_ _)); exact BK403.out) hb); have n3_ := Aside0.mk (below_step (by repeat (first | (with_reducible first | exact HB.out | apply below_alloc | apply pw_below_drewN | apply below_drew1 | refine below_set ?_ GE396.out | refine below_set ?_ GE397.out | refine below_set ?_ GE403.out) | exact HB.out)) hb); have n4_ := Aside0.mk (hbox); have n5_ := Aside0.mk ((by rw [hg]; exact (below_size (by repeat (first | (with_reducible first | exact HB.out | apply below_alloc | apply pw_below_drewN | apply below_drew1 | refine below_set ?_ GE396.out | refine below_set ?_ GE397.out | refine below_set ?_ GE403.out) | exact HB.out))) : w.heap.size ≤ gb409)); have n6_ := Aside0.mk ((by rw [hg]; exact (below_size (by repeat (first | (with_reducible first | exact HB.out | apply below_alloc | apply pw_below_drewN | apply below_drew1 | refine below_set ?_ GE396.out | refine below_set ?_ GE397.out | refine below_set ?_ GE403.out) | exact HB.out))) : w.heap.size ≤ gb409)); have n7_ := Aside0.mk ((by rw [hg]; exact Nat.ne_of_lt (blk_lt (g := gb396) (o := .cells #[.int .i64 t388, .int .i64 t389, .string t390, .bool t391] 38 (0, 0)) (by (with_reducible repeat (first | refine blk_drewN ?_ _ | refine blk_drew ?_ | refine blk_alloc ?_ _)); exact BK396.out)) : gb396 ≠ gb409)); have n8_ := Aside0.mk ((by rw [hg]; exact Nat.ne_of_gt (blk_lt (g := gb396) (o := .cells #[.int .i64 t388, .int .i64 t389, .string t390, .bool t391] 38 (0, 0)) (by (with_reducible repeat (first | refine blk_drewN ?_ _ | refine blk_drew ?_ | refine blk_alloc ?_ _)); exact BK396.out)) : gb409 ≠ gb396)); have n9_ := Aside0.mk ((by rw [hg]; exact Nat.ne_of_lt (blk_lt (g := gb397) (o := .cells #[.int .i64 t392, .int .i64 t393, .string t394, .bool t395] 38 (0, 0)) (by (with_reducible repeat (first | refine blk_drewN ?_ _ | refine blk_drew ?_ | refine blk_alloc ?_ _)); exact BK397.out)) : gb397 ≠ gb409)); have n10_ := Aside0.mk ((by rw [hg]; exact Nat.ne_of_gt (blk_lt (g := gb397) (o := .cells #[.int .i64 t392, .int .i64 t393, .string t394, .bool t395] 38 (0, 0)) (by (with_reducible repeat (first | refine blk_drewN ?_ _ | refine blk_drew ?_ | refine blk_alloc ?_ _)); exact BK397.out)) : gb409 ≠ gb397)); have n11_ := Aside0.mk ((by rw [hg]; exact Nat.ne_of_lt (blk_lt (g := gb403) (o := .cells #[.int .i64 t398, .int .i64 t399, .string t400, .bool t401] 38 (0, 0)) (by (with_reducible repeat (first | refine blk_drewN ?_ _ | refine blk_drew ?_ | refine blk_alloc ?_ _)); exact BK403.out)) : gb403 ≠ gb409)); have n12_ := Aside0.mk ((by rw [hg]; exact Nat.ne_of_gt (blk_lt (g := gb403) (o := .cells #[.int .i64 t398, .int .i64 t399, .string t400, .bool t401] 38 (0, 0)) (by (with_reducible repeat (first | refine blk_drewN ?_ _ | refine blk_drew ?_ | refine blk_alloc ?_ _)); exact BK403.out)) : gb409 ≠ gb403)); clear BK396; clear BK397; clear BK403; clear HB; have BK396 := n0_; have BK397 := n1_; have BK403 := n2_; have HB := n3_; have BK409 := n4_; have GW409 := n5_; have GE409 := n6_; have NB396_409 := n7_; have NB409_396 := n8_; have NB397_409 := n9_; have NB409_397 := n10_; have NB403_409 := n11_; have NB409_403 := n12_; clear n0_ n1_ n2_ n3_ n4_ n5_ n6_ n7_ n8_ n9_ n10_ n11_ n12_; clear hb hbox hg; have hnb29 := NB409_396.out; have hnc29 := NB396_409.out; have hnb30 := NB409_397.out; have hnc30 := NB397_409.out; have hnb31 := NB409_403.out; have hnc31 := NB403_409.out; have hcz32_0 : w28.cell? ⟨gb409, 0, none⟩ = some (.int .i64 0) := (blk_cell BK409.out 0).trans rfl; have hcz32_1 : w28.cell? ⟨gb409, 1, none⟩ = some (.int .i64 0) := (blk_cell BK409.out 1).trans rfl; have hcz32_2 : w28.cell? ⟨gb409, 2, none⟩ = some (.string (⟨#[]⟩ : ByteArray)) := (blk_cell BK409.out 2).trans rfl; have hcz32_3 : w28.cell? ⟨gb409, 3, none⟩ = some (.bool false) := (blk_cell BK409.out 3).trans rfl; have hfz32_0 := blk_frozen BK409.out 0; have hfz32_1 := blk_frozen BK409.out 1; have hfz32_2 := blk_frozen BK409.out 2; have hfz32_3 := blk_frozen BK409.out 3; have CA8 := fun W (hG_ : GW W) => barbicanlaw05_num.calls t402 t410 W hG_ A8.out; try simp only [errW_none, errW_some] at CA8) | (go_at_call 29; (with_reducible refine (CA8 _ ?side1).mono ?_); (case side1 => exact GW_below HG.out (by repeat (first | (with_reducible first | exact HB.out | apply below_alloc | apply pw_below_drewN | apply below_drew1 | refine below_set ?_ GE396.out | refine below_set ?_ GE397.out | refine below_set ?_ GE403.out | refine below_set ?_ GE409.out) | exact HB.out))); rintro e w33 ⟨rfl, hb⟩; have n0_ := Aside0.mk (blk_below (g := gb396) (o := .cells #[.int .i64 t388, .int .i64 t389, .string t390, .bool t391] 38 (0, 0)) (by (with_reducible repeat (first | refine blk_drewN ?_ _ | refine blk_drew ?_ | refine blk_alloc ?_ _)); refine blk_far ?_ NB396_409.out _; (with_reducible repeat (first | refine blk_drewN ?_ _ | refine blk_drew ?_ | refine blk_alloc ?_ _)); refine blk_far ?_ NB396_409.out _; (with_reducible repeat (first | refine blk_drewN ?_ _ | refine blk_drew ?_ | refine blk_alloc ?_ _)); refine blk_far ?_ NB396_409.out _; (with_reducible repeat (first | refine blk_drewN ?_ _ | refine blk_drew ?_ | refine blk_alloc ?_ _)); refine blk_far ?_ NB396_409.out _; (with_reducible repeat (first | refine blk_drewN ?_ _ | refine blk_drew ?_ | refine blk_alloc ?_ _)); exact BK396.out) hb); have n1_ := Aside0.mk (blk_below (g := gb397) (o := .cells #[.int .i64 t392, .int .i64 t393, .string t394, .bool t395] 38 (0, 0)) (by (with_reducible repeat (first | refine blk_drewN ?_ _ | refine blk_drew ?_ | refine blk_alloc ?_ _)); refine blk_far ?_ NB397_409.out _; (with_reducible repeat (first | refine blk_drewN ?_ _ | refine blk_drew ?_ | refine blk_alloc ?_ _)); refine blk_far ?_ NB397_409.out _; (with_reducible repeat (first | refine blk_drewN ?_ _ | refine blk_drew ?_ | refine blk_alloc ?_ _)); refine blk_far ?_ NB397_409.out _; (with_reducible repeat (first | refine blk_drewN ?_ _ | refine blk_drew ?_ | refine blk_alloc ?_ _)); refine blk_far ?_ NB397_409.out _; (with_reducible repeat (first | refine blk_drewN ?_ _ | refine blk_drew ?_ | refine blk_alloc ?_ _)); exact BK397.out) hb); have n2_ := Aside0.mk (blk_below (g := gb403) (o := .cells #[.int .i64 t398, .int .i64 t399, .string t400, .bool t401] 38 (0, 0)) (by (with_reducible repeat (first | refine blk_drewN ?_ _ | refine blk_drew ?_ | refine blk_alloc ?_ _)); refine blk_far ?_ NB403_409.out _; (with_reducible repeat (first | refine blk_drewN ?_ _ | refine blk_drew ?_ | refine blk_alloc ?_ _)); refine blk_far ?_ NB403_409.out _; (with_reducible repeat (first | refine blk_drewN ?_ _ | refine blk_drew ?_ | refine blk_alloc ?_ _)); refine blk_far ?_ NB403_409.out _; (with_reducible repeat (first | refine blk_drewN ?_ _ | refine blk_drew ?_ | refine blk_alloc ?_ _)); refine blk_far ?_ NB403_409.out _; (with_reducible repeat (first | refine blk_drewN ?_ _ | refine blk_drew ?_ | refine blk_alloc ?_ _)); exact BK403.out) hb); have n3_ := Aside0.mk (blk_below (g := gb409) (o := .cells #[.int .i64 t404, .int .i64 t405, .string t406, .bool t407] 38 (0, 0)) (by (with_reducible repeat (first | refine blk_drewN ?_ _ | refine blk_drew ?_ | refine blk_alloc ?_ _)); refine blk_put (cs := #[.int .i64 t404, .int .i64 t405, .string t406, .bool false]) ?_ 3 _ rfl; (with_reducible repeat (first | refine blk_drewN ?_ _ | refine blk_drew ?_ | refine blk_alloc ?_ _)); refine blk_put (cs := #[.int .i64 t404, .int .i64 t405, .string (⟨#[]⟩ : ByteArray), .bool false]) ?_ 2 _ rfl; (with_reducible repeat (first | refine blk_drewN ?_ _ | refine blk_drew ?_ | refine blk_alloc ?_ _)); refine blk_put (cs := #[.int .i64 t404, .int .i64 0, .string (⟨#[]⟩ : ByteArray), .bool false]) ?_ 1 _ rfl; (with_reducible repeat (first | refine blk_drewN ?_ _ | refine blk_drew ?_ | refine blk_alloc ?_ _)); refine blk_put (cs := #[.int .i64 0, .int .i64 0, .string (⟨#[]⟩ : ByteArray), .bool false]) ?_ 0 _ rfl; (with_reducible repeat (first | refine blk_drewN ?_ _ | refine blk_drew ?_ | refine blk_alloc ?_ _)); exact BK409.out) hb); have n4_ := Aside0.mk (below_step (by repeat (first | (with_reducible first | exact HB.out | apply below_alloc | apply pw_below_drewN | apply below_drew1 | refine below_set ?_ GE396.out | refine below_set ?_ GE397.out | refine below_set ?_ GE403.out | refine below_set ?_ GE409.out) | exact HB.out)) hb); clear BK396; clear BK397; clear BK403; clear BK409; clear HB; have BK396 := n0_; have BK397 := n1_; have BK403 := n2_; have BK409 := n3_; have HB := n4_; clear n0_ n1_ n2_ n3_ n4_; (try clear hb); (try clear hb2); (try clear hk); (try clear hi); have CA10 := fun W (hG_ : GW W) => barbicanlaw05_num.calls t408 t411 W hG_ A10.out; try simp only [errW_none, errW_some] at CA10) | (go_at_call 29; (with_reducible refine (CA10 _ ?side1).mono ?_); (case side1 => exact GW_below HG.out (by repeat (first | (with_reducible first | exact HB.out | apply below_alloc | apply pw_below_drewN | apply below_drew1 | refine below_set ?_ GE396.out | refine below_set ?_ GE397.out | refine below_set ?_ GE403.out | refine below_set ?_ GE409.out) | exact HB.out))); rintro e w34 ⟨rfl, hb⟩; have n0_ := Aside0.mk (blk_below (g := gb396) (o := .cells #[.int .i64 t388, .int .i64 t389, .string t390, .bool t391] 38 (0, 0)) (by (with_reducible repeat (first | refine blk_drewN ?_ _ | refine blk_drew ?_ | refine blk_alloc ?_ _)); exact BK396.out) hb); have n1_ := Aside0.mk (blk_below (g := gb397) (o := .cells #[.int .i64 t392, .int .i64 t393, .string t394, .bool t395] 38 (0, 0)) (by (with_reducible repeat (first | refine blk_drewN ?_ _ | refine blk_drew ?_ | refine blk_alloc ?_ _)); exact BK397.out) hb); have n2_ := Aside0.mk (blk_below (g := gb403) (o := .cells #[.int .i64 t398, .int .i64 t399, .string t400, .bool t401] 38 (0, 0)) (by (with_reducible repeat (first | refine blk_drewN ?_ _ | refine blk_drew ?_ | refine blk_alloc ?_ _)); exact BK403.out) hb); have n3_ := Aside0.mk (blk_below (g := gb409) (o := .cells #[.int .i64 t404, .int .i64 t405, .string t406, .bool t407] 38 (0, 0)) (by (with_reducible repeat (first | refine blk_drewN ?_ _ | refine blk_drew ?_ | refine blk_alloc ?_ _)); exact BK409.out) hb); have n4_ := Aside0.mk (below_step (by repeat (first | (with_reducible first | exact HB.out | apply below_alloc | apply pw_below_drewN | apply below_drew1 | refine below_set ?_ GE396.out | refine below_set ?_ GE397.out | refine below_set ?_ GE403.out | refine below_set ?_ GE409.out) | exact HB.out)) hb); clear BK396; clear BK397; clear BK403; clear BK409; clear HB; have BK396 := n0_; have BK397 := n1_; have BK403 := n2_; have BK409 := n3_; have HB := n4_; clear n0_ n1_ n2_ n3_ n4_; (try clear hb); (try clear hb2); (try clear hk); (try clear hi)) | (go_at_call 22; (with_reducible refine (barbicanlaw05_sure.calls k  t412 _ ?side1 A12.out).mono ?_); (case side1 => exact GW_below HG.out (by repeat (first | (with_reducible first | exact HB.out | apply below_alloc | apply pw_below_drewN | apply below_drew1 | refine below_set ?_ GE396.out | refine below_set ?_ GE397.out | refine below_set ?_ GE403.out | refine below_set ?_ GE409.out) | exact HB.out))); rintro e w35 ⟨rfl, hb⟩; have n0_ := Aside0.mk (blk_below (g := gb396) (o := .cells #[.int .i64 t388, .int .i64 t389, .string t390, .bool t391] 38 (0, 0)) (by (with_reducible repeat (first | refine blk_drewN ?_ _ | refine blk_drew ?_ | refine blk_alloc ?_ _)); exact BK396.out) hb); have n1_ := Aside0.mk (blk_below (g := gb397) (o := .cells #[.int .i64 t392, .int .i64 t393, .string t394, .bool t395] 38 (0, 0)) (by (with_reducible repeat (first | refine blk_drewN ?_ _ | refine blk_drew ?_ | refine blk_alloc ?_ _)); exact BK397.out) hb); have n2_ := Aside0.mk (blk_below (g := gb403) (o := .cells #[.int .i64 t398, .int .i64 t399, .string t400, .bool t401] 38 (0, 0)) (by (with_reducible repeat (first | refine blk_drewN ?_ _ | refine blk_drew ?_ | refine blk_alloc ?_ _)); exact BK403.out) hb); have n3_ := Aside0.mk (blk_below (g := gb409) (o := .cells #[.int .i64 t404, .int .i64 t405, .string t406, .bool t407] 38 (0, 0)) (by (with_reducible repeat (first | refine blk_drewN ?_ _ | refine blk_drew ?_ | refine blk_alloc ?_ _)); exact BK409.out) hb); have n4_ := Aside0.mk (below_step (by repeat (first | (with_reducible first | exact HB.out | apply below_alloc | apply pw_below_drewN | apply below_drew1 | refine below_set ?_ GE396.out | refine below_set ?_ GE397.out | refine below_set ?_ GE403.out | refine below_set ?_ GE409.out) | exact HB.out)) hb); clear BK396; clear BK397; clear BK403; clear BK409; clear HB; have BK396 := n0_; have BK397 := n1_; have BK403 := n2_; have BK409 := n3_; have HB := n4_; clear n0_ n1_ n2_ n3_ n4_; (try clear hb); (try clear hb2); (try clear hk); (try clear hi)))
        go_ret
        exact ⟨by first | rfl | (simp [errW_none, errW_some] <;> rfl) | (simp [*, errW_none, errW_some] <;> rfl), by repeat (first | (with_reducible first | exact HB.out | apply below_alloc | apply pw_below_drewN | apply below_drew1 | refine below_set ?_ GE396.out | refine below_set ?_ GE397.out | refine below_set ?_ GE403.out | refine below_set ?_ GE409.out) | exact HB.out)⟩
      · rw [if_neg c11] at H
        exact absurd H (by simp)
    · rw [if_neg c9] at H
      exact absurd H (by simp)
  · rw [if_neg c7] at H
    have c7b0 : (a1 == 0) = false := beq_eq_false_iff_ne.mpr c7
    have c7b1 : (a1 != 0) = true := bne_iff_ne.mpr c7
    rcases t402 with _ | q413
    · have H1 : ((value_Reckon.f k 42 t398 t399 t400 t401 t392 t393 t394 t395).bind fun bt414 => ((value_Reckon.f k 43 bt414.1 bt414.2.1 bt414.2.2.1 bt414.2.2.2.1 t404 t405 t406 t407).bind fun bt420 => (if bt414.2.2.2.2.isNone = true then (if bt420.2.2.2.2.isNone = true then (if (!(bt420.1 == t388) || (!(bt420.2.1 == t389) || (!(bt420.2.2.1.toList == t390.toList) || (!(bt420.2.2.2.1 == t391))))) = true then (none) else (if t405 < 0 then (if a1 < 0 then (if t405 > a1 then (barbicanlaw05_ValueDivides.j0 k a0 t408 true t388 t389 t390 t391 t392 t393 t394 t395 t404 t405 t406 t407) else (if a1 > 0 then (none) else (if a1 = (-9223372036854775808) then (barbicanlaw05_ValueDivides.j0 k a0 t408 true t388 t389 t390 t391 t392 t393 t394 t395 t404 t405 t406 t407) else (none)))) else (if a1 > 0 then (if t405 > (wrap64 (-a1)) then (barbicanlaw05_ValueDivides.j0 k a0 t408 true t388 t389 t390 t391 t392 t393 t394 t395 t404 t405 t406 t407) else (none)) else (none))) else (if t405 ≥ 0 then (if a1 > 0 then (if t405 < a1 then (barbicanlaw05_ValueDivides.j0 k a0 t408 true t388 t389 t390 t391 t392 t393 t394 t395 t404 t405 t406 t407) else (none)) else (if a1 < 0 then (barbicanlaw05_ValueDivides.j0 k a0 t408 (decide ((wrap64 (-t405)) > a1)) t388 t389 t390 t391 t392 t393 t394 t395 t404 t405 t406 t407) else (none))) else (none)))) else (none)) else (none)))) = some r := by rw [if_pos (show (none : Option Int).isNone = true by rfl)] at H; exact H
      clear H
      have H := H1
      clear H1
      try simp only [errW_none, errW_some]
      replace H := Option.bind_eq_some_iff.mp H
      obtain ⟨⟨t414, t415, t416, t417, t418⟩, A360, H⟩ := H
      replace H : ((value_Reckon.f k 43 t414 t415 t416 t417 t404 t405 t406 t407).bind fun bt420 => (if t418.isNone = true then (if bt420.2.2.2.2.isNone = true then (if (!(bt420.1 == t388) || (!(bt420.2.1 == t389) || (!(bt420.2.2.1.toList == t390.toList) || (!(bt420.2.2.2.1 == t391))))) = true then (none) else (if t405 < 0 then (if a1 < 0 then (if t405 > a1 then (barbicanlaw05_ValueDivides.j0 k a0 t408 true t388 t389 t390 t391 t392 t393 t394 t395 t404 t405 t406 t407) else (if a1 > 0 then (none) else (if a1 = (-9223372036854775808) then (barbicanlaw05_ValueDivides.j0 k a0 t408 true t388 t389 t390 t391 t392 t393 t394 t395 t404 t405 t406 t407) else (none)))) else (if a1 > 0 then (if t405 > (wrap64 (-a1)) then (barbicanlaw05_ValueDivides.j0 k a0 t408 true t388 t389 t390 t391 t392 t393 t394 t395 t404 t405 t406 t407) else (none)) else (none))) else (if t405 ≥ 0 then (if a1 > 0 then (if t405 < a1 then (barbicanlaw05_ValueDivides.j0 k a0 t408 true t388 t389 t390 t391 t392 t393 t394 t395 t404 t405 t406 t407) else (none)) else (if a1 < 0 then (barbicanlaw05_ValueDivides.j0 k a0 t408 (decide ((wrap64 (-t405)) > a1)) t388 t389 t390 t391 t392 t393 t394 t395 t404 t405 t406 t407) else (none))) else (none)))) else (none)) else (none))) = some r := H
      have A36 := Aside0.mk A360
      clear A360
      replace H := Option.bind_eq_some_iff.mp H
      obtain ⟨⟨t420, t421, t422, t423, t424⟩, A370, H⟩ := H
      replace H : (if t418.isNone = true then (if t424.isNone = true then (if (!(t420 == t388) || (!(t421 == t389) || (!(t422.toList == t390.toList) || (!(t423 == t391))))) = true then (none) else (if t405 < 0 then (if a1 < 0 then (if t405 > a1 then (barbicanlaw05_ValueDivides.j0 k a0 t408 true t388 t389 t390 t391 t392 t393 t394 t395 t404 t405 t406 t407) else (if a1 > 0 then (none) else (if a1 = (-9223372036854775808) then (barbicanlaw05_ValueDivides.j0 k a0 t408 true t388 t389 t390 t391 t392 t393 t394 t395 t404 t405 t406 t407) else (none)))) else (if a1 > 0 then (if t405 > (wrap64 (-a1)) then (barbicanlaw05_ValueDivides.j0 k a0 t408 true t388 t389 t390 t391 t392 t393 t394 t395 t404 t405 t406 t407) else (none)) else (none))) else (if t405 ≥ 0 then (if a1 > 0 then (if t405 < a1 then (barbicanlaw05_ValueDivides.j0 k a0 t408 true t388 t389 t390 t391 t392 t393 t394 t395 t404 t405 t406 t407) else (none)) else (if a1 < 0 then (barbicanlaw05_ValueDivides.j0 k a0 t408 (decide ((wrap64 (-t405)) > a1)) t388 t389 t390 t391 t392 t393 t394 t395 t404 t405 t406 t407) else (none))) else (none)))) else (none)) else (none)) = some r := H
      have A37 := Aside0.mk A370
      clear A370
      rcases t418 with _ | q426
      · have H1 : (if t424.isNone = true then (if (!(t420 == t388) || (!(t421 == t389) || (!(t422.toList == t390.toList) || (!(t423 == t391))))) = true then (none) else (if t405 < 0 then (if a1 < 0 then (if t405 > a1 then (barbicanlaw05_ValueDivides.j0 k a0 t408 true t388 t389 t390 t391 t392 t393 t394 t395 t404 t405 t406 t407) else (if a1 > 0 then (none) else (if a1 = (-9223372036854775808) then (barbicanlaw05_ValueDivides.j0 k a0 t408 true t388 t389 t390 t391 t392 t393 t394 t395 t404 t405 t406 t407) else (none)))) else (if a1 > 0 then (if t405 > (wrap64 (-a1)) then (barbicanlaw05_ValueDivides.j0 k a0 t408 true t388 t389 t390 t391 t392 t393 t394 t395 t404 t405 t406 t407) else (none)) else (none))) else (if t405 ≥ 0 then (if a1 > 0 then (if t405 < a1 then (barbicanlaw05_ValueDivides.j0 k a0 t408 true t388 t389 t390 t391 t392 t393 t394 t395 t404 t405 t406 t407) else (none)) else (if a1 < 0 then (barbicanlaw05_ValueDivides.j0 k a0 t408 (decide ((wrap64 (-t405)) > a1)) t388 t389 t390 t391 t392 t393 t394 t395 t404 t405 t406 t407) else (none))) else (none)))) else (none)) = some r := by rw [if_pos (show (none : Option Int).isNone = true by rfl)] at H; exact H
        clear H
        have H := H1
        clear H1
        try simp only [errW_none, errW_some]
        rcases t424 with _ | q427
        · have H1 : (if (!(t420 == t388) || (!(t421 == t389) || (!(t422.toList == t390.toList) || (!(t423 == t391))))) = true then (none) else (if t405 < 0 then (if a1 < 0 then (if t405 > a1 then (barbicanlaw05_ValueDivides.j0 k a0 t408 true t388 t389 t390 t391 t392 t393 t394 t395 t404 t405 t406 t407) else (if a1 > 0 then (none) else (if a1 = (-9223372036854775808) then (barbicanlaw05_ValueDivides.j0 k a0 t408 true t388 t389 t390 t391 t392 t393 t394 t395 t404 t405 t406 t407) else (none)))) else (if a1 > 0 then (if t405 > (wrap64 (-a1)) then (barbicanlaw05_ValueDivides.j0 k a0 t408 true t388 t389 t390 t391 t392 t393 t394 t395 t404 t405 t406 t407) else (none)) else (none))) else (if t405 ≥ 0 then (if a1 > 0 then (if t405 < a1 then (barbicanlaw05_ValueDivides.j0 k a0 t408 true t388 t389 t390 t391 t392 t393 t394 t395 t404 t405 t406 t407) else (none)) else (if a1 < 0 then (barbicanlaw05_ValueDivides.j0 k a0 t408 (decide ((wrap64 (-t405)) > a1)) t388 t389 t390 t391 t392 t393 t394 t395 t404 t405 t406 t407) else (none))) else (none)))) = some r := by rw [if_pos (show (none : Option Int).isNone = true by rfl)] at H; exact H
          clear H
          have H := H1
          clear H1
          try simp only [errW_none, errW_some]
          by_cases c38 : (!(t420 == t388) || (!(t421 == t389) || (!(t422.toList == t390.toList) || (!(t423 == t391))))) = true
          · rw [if_pos c38] at H
            exact absurd H (by simp)
          · rw [if_neg c38] at H
            have c38b0 : (!(t420 == t388) || (!(t421 == t389) || (!(t422.toList == t390.toList) || (!(t423 == t391))))) = false := by simpa using c38
            clear c38
            have HC39 := Aside0.mk H
            clear H
            go_enter Tryd.func8, Tryd.ntmps8
            go_upto_region 13 with (first | ((with_reducible refine gate_callee (f := 28) rfl ?_); refine goesL_ (some 21) rfl rfl Tryd.func28 (by kernel_rfl) rfl #[.int .i64 a0] rfl (by (try simp only [List.map_toArray, List.map_cons, List.map_nil]); first | done | rfl | (simp only [List.length_drop, List.length_take]; rfl)) ?_; (with_reducible refine (value_Int.calls a0 t388 t389 t390 t391 _ A3.out).mono ?_); rintro e w40 ⟨rfl, hb⟩; refine ⟨_, rfl, ?_⟩; have n0_ := Aside0.mk (below_step (by repeat (first | (with_reducible first | exact HB.out | apply below_alloc | apply pw_below_drewN | apply below_drew1) | exact HB.out)) hb); clear HB; have HB := n0_; clear n0_; (try clear hb); (try clear hb2); (try clear hk); (try clear hi)) | ((with_reducible refine gate_callee (f := 28) rfl ?_); refine goesL_ (some 23) rfl rfl Tryd.func28 (by kernel_rfl) rfl #[.int .i64 a1] rfl (by (try simp only [List.map_toArray, List.map_cons, List.map_nil]); first | done | rfl | (simp only [List.length_drop, List.length_take]; rfl)) ?_; (with_reducible refine (value_Int.calls a1 t392 t393 t394 t395 _ A4.out).mono ?_); rintro e w41 ⟨rfl, hb⟩; refine ⟨_, rfl, ?_⟩; have n0_ := Aside0.mk (below_step (by repeat (first | (with_reducible first | exact HB.out | apply below_alloc | apply pw_below_drewN | apply below_drew1) | exact HB.out)) hb); clear HB; have HB := n0_; clear n0_; (try clear hb); (try clear hb2); (try clear hk); (try clear hi)) | ((with_reducible refine gate_dst (N := 5) rfl ?_); refine box_event ?hg (N := 5) ?hd (cs := #[.int .i64 0, .int .i64 0, .string (⟨#[]⟩ : ByteArray), .bool false]) (t := 38) ?hr ?_; (case hd => rfl); (case hg => rfl); (case hr => first | (go_simp; done) | (go_simp; rfl)); intro gb396 hg w42 hbox hb; have n0_ := Aside0.mk (below_step (by repeat (first | (with_reducible first | exact HB.out | apply below_alloc | apply pw_below_drewN | apply below_drew1) | exact HB.out)) hb); have n1_ := Aside0.mk (hbox); have n2_ := Aside0.mk ((by rw [hg]; exact (below_size (by repeat (first | (with_reducible first | exact HB.out | apply below_alloc | apply pw_below_drewN | apply below_drew1) | exact HB.out))) : w.heap.size ≤ gb396)); have n3_ := Aside0.mk ((by rw [hg]; exact (below_size (by repeat (first | (with_reducible first | exact HB.out | apply below_alloc | apply pw_below_drewN | apply below_drew1) | exact HB.out))) : w.heap.size ≤ gb396)); clear HB; have HB := n0_; have BK396 := n1_; have GW396 := n2_; have GE396 := n3_; clear n0_ n1_ n2_ n3_; clear hb hbox hg) | ((with_reducible refine gate_dst (N := 6) rfl ?_); refine box_event ?hg (N := 6) ?hd (cs := #[.int .i64 0, .int .i64 0, .string (⟨#[]⟩ : ByteArray), .bool false]) (t := 38) ?hr ?_; (case hd => rfl); (case hg => rfl); (case hr => first | (go_simp; done) | (go_simp; rfl)); intro gb397 hg w43 hbox hb; have n0_ := Aside0.mk (blk_below (g := gb396) (o := .cells #[.int .i64 0, .int .i64 0, .string (⟨#[]⟩ : ByteArray), .bool false] 38 (0, 0)) (by (with_reducible repeat (first | refine blk_drewN ?_ _ | refine blk_drew ?_ | refine blk_alloc ?_ _)); exact BK396.out) hb); have n1_ := Aside0.mk (below_step (by repeat (first | (with_reducible first | exact HB.out | apply below_alloc | apply pw_below_drewN | apply below_drew1 | refine below_set ?_ GE396.out) | exact HB.out)) hb); have n2_ := Aside0.mk (hbox); have n3_ := Aside0.mk ((by rw [hg]; exact (below_size (by repeat (first | (with_reducible first | exact HB.out | apply below_alloc | apply pw_below_drewN | apply below_drew1 | refine below_set ?_ GE396.out) | exact HB.out))) : w.heap.size ≤ gb397)); have n4_ := Aside0.mk ((by rw [hg]; exact (below_size (by repeat (first | (with_reducible first | exact HB.out | apply below_alloc | apply pw_below_drewN | apply below_drew1 | refine below_set ?_ GE396.out) | exact HB.out))) : w.heap.size ≤ gb397)); have n5_ := Aside0.mk ((by rw [hg]; exact Nat.ne_of_lt (blk_lt (g := gb396) (o := .cells #[.int .i64 0, .int .i64 0, .string (⟨#[]⟩ : ByteArray), .bool false] 38 (0, 0)) (by (with_reducible repeat (first | refine blk_drewN ?_ _ | refine blk_drew ?_ | refine blk_alloc ?_ _)); exact BK396.out)) : gb396 ≠ gb397)); have n6_ := Aside0.mk ((by rw [hg]; exact Nat.ne_of_gt (blk_lt (g := gb396) (o := .cells #[.int .i64 0, .int .i64 0, .string (⟨#[]⟩ : ByteArray), .bool false] 38 (0, 0)) (by (with_reducible repeat (first | refine blk_drewN ?_ _ | refine blk_drew ?_ | refine blk_alloc ?_ _)); exact BK396.out)) : gb397 ≠ gb396)); clear BK396; clear HB; have BK396 := n0_; have HB := n1_; have BK397 := n2_; have GW397 := n3_; have GE397 := n4_; have NB396_397 := n5_; have NB397_396 := n6_; clear n0_ n1_ n2_ n3_ n4_ n5_ n6_; clear hb hbox hg; have hnb44 := NB396_397.out; have hnc44 := NB397_396.out; have hcz45_0 : w43.cell? ⟨gb396, 0, none⟩ = some (.int .i64 0) := (blk_cell BK396.out 0).trans rfl; have hcz45_1 : w43.cell? ⟨gb396, 1, none⟩ = some (.int .i64 0) := (blk_cell BK396.out 1).trans rfl; have hcz45_2 : w43.cell? ⟨gb396, 2, none⟩ = some (.string (⟨#[]⟩ : ByteArray)) := (blk_cell BK396.out 2).trans rfl; have hcz45_3 : w43.cell? ⟨gb396, 3, none⟩ = some (.bool false) := (blk_cell BK396.out 3).trans rfl; have hfz45_0 := blk_frozen BK396.out 0; have hfz45_1 := blk_frozen BK396.out 1; have hfz45_2 := blk_frozen BK396.out 2; have hfz45_3 := blk_frozen BK396.out 3; have hcz46_0 : w43.cell? ⟨gb397, 0, none⟩ = some (.int .i64 0) := (blk_cell BK397.out 0).trans rfl; have hcz46_1 : w43.cell? ⟨gb397, 1, none⟩ = some (.int .i64 0) := (blk_cell BK397.out 1).trans rfl; have hcz46_2 : w43.cell? ⟨gb397, 2, none⟩ = some (.string (⟨#[]⟩ : ByteArray)) := (blk_cell BK397.out 2).trans rfl; have hcz46_3 : w43.cell? ⟨gb397, 3, none⟩ = some (.bool false) := (blk_cell BK397.out 3).trans rfl; have hfz46_0 := blk_frozen BK397.out 0; have hfz46_1 := blk_frozen BK397.out 1; have hfz46_2 := blk_frozen BK397.out 2; have hfz46_3 := blk_frozen BK397.out 3) | ((with_reducible refine gate_callee (f := 26) rfl ?_); refine goesL_ (some 27) rfl rfl Tryd.func26 (by kernel_rfl) rfl #[.int .u8 47, .agg #[.int .i64 t388, .int .i64 t389, .string t390, .bool t391], .agg #[.int .i64 t392, .int .i64 t393, .string t394, .bool t395]] rfl (by (try simp only [List.map_toArray, List.map_cons, List.map_nil]); first | done | rfl | (simp only [List.length_drop, List.length_take]; rfl)) ?_; (with_reducible refine (value_Reckon.calls k 47 t388 t389 t390 t391 t392 t393 t394 t395 t398 t399 t400 t401 none _ A5.out).mono ?_); rintro e w47 ⟨rfl, hb⟩; refine ⟨_, rfl, ?_⟩; have n0_ := Aside0.mk (blk_below (g := gb396) (o := .cells #[.int .i64 t388, .int .i64 t389, .string t390, .bool t391] 38 (0, 0)) (by (with_reducible repeat (first | refine blk_drewN ?_ _ | refine blk_drew ?_ | refine blk_alloc ?_ _)); refine blk_far ?_ NB396_397.out _; (with_reducible repeat (first | refine blk_drewN ?_ _ | refine blk_drew ?_ | refine blk_alloc ?_ _)); refine blk_far ?_ NB396_397.out _; (with_reducible repeat (first | refine blk_drewN ?_ _ | refine blk_drew ?_ | refine blk_alloc ?_ _)); refine blk_far ?_ NB396_397.out _; (with_reducible repeat (first | refine blk_drewN ?_ _ | refine blk_drew ?_ | refine blk_alloc ?_ _)); refine blk_far ?_ NB396_397.out _; (with_reducible repeat (first | refine blk_drewN ?_ _ | refine blk_drew ?_ | refine blk_alloc ?_ _)); refine blk_put (cs := #[.int .i64 t388, .int .i64 t389, .string t390, .bool false]) ?_ 3 _ rfl; (with_reducible repeat (first | refine blk_drewN ?_ _ | refine blk_drew ?_ | refine blk_alloc ?_ _)); refine blk_put (cs := #[.int .i64 t388, .int .i64 t389, .string (⟨#[]⟩ : ByteArray), .bool false]) ?_ 2 _ rfl; (with_reducible repeat (first | refine blk_drewN ?_ _ | refine blk_drew ?_ | refine blk_alloc ?_ _)); refine blk_put (cs := #[.int .i64 t388, .int .i64 0, .string (⟨#[]⟩ : ByteArray), .bool false]) ?_ 1 _ rfl; (with_reducible repeat (first | refine blk_drewN ?_ _ | refine blk_drew ?_ | refine blk_alloc ?_ _)); refine blk_put (cs := #[.int .i64 0, .int .i64 0, .string (⟨#[]⟩ : ByteArray), .bool false]) ?_ 0 _ rfl; (with_reducible repeat (first | refine blk_drewN ?_ _ | refine blk_drew ?_ | refine blk_alloc ?_ _)); exact BK396.out) hb); have n1_ := Aside0.mk (blk_below (g := gb397) (o := .cells #[.int .i64 t392, .int .i64 t393, .string t394, .bool t395] 38 (0, 0)) (by (with_reducible repeat (first | refine blk_drewN ?_ _ | refine blk_drew ?_ | refine blk_alloc ?_ _)); refine blk_put (cs := #[.int .i64 t392, .int .i64 t393, .string t394, .bool false]) ?_ 3 _ rfl; (with_reducible repeat (first | refine blk_drewN ?_ _ | refine blk_drew ?_ | refine blk_alloc ?_ _)); refine blk_put (cs := #[.int .i64 t392, .int .i64 t393, .string (⟨#[]⟩ : ByteArray), .bool false]) ?_ 2 _ rfl; (with_reducible repeat (first | refine blk_drewN ?_ _ | refine blk_drew ?_ | refine blk_alloc ?_ _)); refine blk_put (cs := #[.int .i64 t392, .int .i64 0, .string (⟨#[]⟩ : ByteArray), .bool false]) ?_ 1 _ rfl; (with_reducible repeat (first | refine blk_drewN ?_ _ | refine blk_drew ?_ | refine blk_alloc ?_ _)); refine blk_put (cs := #[.int .i64 0, .int .i64 0, .string (⟨#[]⟩ : ByteArray), .bool false]) ?_ 0 _ rfl; (with_reducible repeat (first | refine blk_drewN ?_ _ | refine blk_drew ?_ | refine blk_alloc ?_ _)); refine blk_far ?_ NB397_396.out _; (with_reducible repeat (first | refine blk_drewN ?_ _ | refine blk_drew ?_ | refine blk_alloc ?_ _)); refine blk_far ?_ NB397_396.out _; (with_reducible repeat (first | refine blk_drewN ?_ _ | refine blk_drew ?_ | refine blk_alloc ?_ _)); refine blk_far ?_ NB397_396.out _; (with_reducible repeat (first | refine blk_drewN ?_ _ | refine blk_drew ?_ | refine blk_alloc ?_ _)); refine blk_far ?_ NB397_396.out _; (with_reducible repeat (first | refine blk_drewN ?_ _ | refine blk_drew ?_ | refine blk_alloc ?_ _)); exact BK397.out) hb); have n2_ := Aside0.mk (below_step (by repeat (first | (with_reducible first | exact HB.out | apply below_alloc | apply pw_below_drewN | apply below_drew1 | refine below_set ?_ GE396.out | refine below_set ?_ GE397.out) | exact HB.out)) hb); clear BK396; clear BK397; clear HB; have BK396 := n0_; have BK397 := n1_; have HB := n2_; clear n0_ n1_ n2_; (try clear hb); (try clear hb2); (try clear hk); (try clear hi); (try simp only [errW_none, errW_some])) | ((with_reducible refine gate_dst (N := 7) rfl ?_); refine box_event ?hg (N := 7) ?hd (cs := #[.int .i64 0, .int .i64 0, .string (⟨#[]⟩ : ByteArray), .bool false]) (t := 38) ?hr ?_; (case hd => rfl); (case hg => rfl); (case hr => first | (go_simp; done) | (go_simp; rfl)); intro gb403 hg w48 hbox hb; have n0_ := Aside0.mk (blk_below (g := gb396) (o := .cells #[.int .i64 t388, .int .i64 t389, .string t390, .bool t391] 38 (0, 0)) (by (with_reducible repeat (first | refine blk_drewN ?_ _ | refine blk_drew ?_ | refine blk_alloc ?_ _)); exact BK396.out) hb); have n1_ := Aside0.mk (blk_below (g := gb397) (o := .cells #[.int .i64 t392, .int .i64 t393, .string t394, .bool t395] 38 (0, 0)) (by (with_reducible repeat (first | refine blk_drewN ?_ _ | refine blk_drew ?_ | refine blk_alloc ?_ _)); exact BK397.out) hb); have n2_ := Aside0.mk (below_step (by repeat (first | (with_reducible first | exact HB.out | apply below_alloc | apply pw_below_drewN | apply below_drew1 | refine below_set ?_ GE396.out | refine below_set ?_ GE397.out) | exact HB.out)) hb); have n3_ := Aside0.mk (hbox); have n4_ := Aside0.mk ((by rw [hg]; exact (below_size (by repeat (first | (with_reducible first | exact HB.out | apply below_alloc | apply pw_below_drewN | apply below_drew1 | refine below_set ?_ GE396.out | refine below_set ?_ GE397.out) | exact HB.out))) : w.heap.size ≤ gb403)); have n5_ := Aside0.mk ((by rw [hg]; exact (below_size (by repeat (first | (with_reducible first | exact HB.out | apply below_alloc | apply pw_below_drewN | apply below_drew1 | refine below_set ?_ GE396.out | refine below_set ?_ GE397.out) | exact HB.out))) : w.heap.size ≤ gb403)); have n6_ := Aside0.mk ((by rw [hg]; exact Nat.ne_of_lt (blk_lt (g := gb396) (o := .cells #[.int .i64 t388, .int .i64 t389, .string t390, .bool t391] 38 (0, 0)) (by (with_reducible repeat (first | refine blk_drewN ?_ _ | refine blk_drew ?_ | refine blk_alloc ?_ _)); exact BK396.out)) : gb396 ≠ gb403)); have n7_ := Aside0.mk ((by rw [hg]; exact Nat.ne_of_gt (blk_lt (g := gb396) (o := .cells #[.int .i64 t388, .int .i64 t389, .string t390, .bool t391] 38 (0, 0)) (by (with_reducible repeat (first | refine blk_drewN ?_ _ | refine blk_drew ?_ | refine blk_alloc ?_ _)); exact BK396.out)) : gb403 ≠ gb396)); have n8_ := Aside0.mk ((by rw [hg]; exact Nat.ne_of_lt (blk_lt (g := gb397) (o := .cells #[.int .i64 t392, .int .i64 t393, .string t394, .bool t395] 38 (0, 0)) (by (with_reducible repeat (first | refine blk_drewN ?_ _ | refine blk_drew ?_ | refine blk_alloc ?_ _)); exact BK397.out)) : gb397 ≠ gb403)); have n9_ := Aside0.mk ((by rw [hg]; exact Nat.ne_of_gt (blk_lt (g := gb397) (o := .cells #[.int .i64 t392, .int .i64 t393, .string t394, .bool t395] 38 (0, 0)) (by (with_reducible repeat (first | refine blk_drewN ?_ _ | refine blk_drew ?_ | refine blk_alloc ?_ _)); exact BK397.out)) : gb403 ≠ gb397)); clear BK396; clear BK397; clear HB; have BK396 := n0_; have BK397 := n1_; have HB := n2_; have BK403 := n3_; have GW403 := n4_; have GE403 := n5_; have NB396_403 := n6_; have NB403_396 := n7_; have NB397_403 := n8_; have NB403_397 := n9_; clear n0_ n1_ n2_ n3_ n4_ n5_ n6_ n7_ n8_ n9_; clear hb hbox hg; have hnb49 := NB403_396.out; have hnc49 := NB396_403.out; have hnb50 := NB403_397.out; have hnc50 := NB397_403.out; have hcz51_0 : w48.cell? ⟨gb403, 0, none⟩ = some (.int .i64 0) := (blk_cell BK403.out 0).trans rfl; have hcz51_1 : w48.cell? ⟨gb403, 1, none⟩ = some (.int .i64 0) := (blk_cell BK403.out 1).trans rfl; have hcz51_2 : w48.cell? ⟨gb403, 2, none⟩ = some (.string (⟨#[]⟩ : ByteArray)) := (blk_cell BK403.out 2).trans rfl; have hcz51_3 : w48.cell? ⟨gb403, 3, none⟩ = some (.bool false) := (blk_cell BK403.out 3).trans rfl; have hfz51_0 := blk_frozen BK403.out 0; have hfz51_1 := blk_frozen BK403.out 1; have hfz51_2 := blk_frozen BK403.out 2; have hfz51_3 := blk_frozen BK403.out 3; have hcz52_0 : w48.cell? ⟨gb396, 0, none⟩ = some (.int .i64 t388) := (blk_cell BK396.out 0).trans rfl; have hcz52_1 : w48.cell? ⟨gb396, 1, none⟩ = some (.int .i64 t389) := (blk_cell BK396.out 1).trans rfl; have hcz52_2 : w48.cell? ⟨gb396, 2, none⟩ = some (.string t390) := (blk_cell BK396.out 2).trans rfl; have hcz52_3 : w48.cell? ⟨gb396, 3, none⟩ = some (.bool t391) := (blk_cell BK396.out 3).trans rfl; have hfz52_0 := blk_frozen BK396.out 0; have hfz52_1 := blk_frozen BK396.out 1; have hfz52_2 := blk_frozen BK396.out 2; have hfz52_3 := blk_frozen BK396.out 3; have hcz53_0 : w48.cell? ⟨gb397, 0, none⟩ = some (.int .i64 t392) := (blk_cell BK397.out 0).trans rfl; have hcz53_1 : w48.cell? ⟨gb397, 1, none⟩ = some (.int .i64 t393) := (blk_cell BK397.out 1).trans rfl; have hcz53_2 : w48.cell? ⟨gb397, 2, none⟩ = some (.string t394) := (blk_cell BK397.out 2).trans rfl; have hcz53_3 : w48.cell? ⟨gb397, 3, none⟩ = some (.bool t395) := (blk_cell BK397.out 3).trans rfl; have hfz53_0 := blk_frozen BK397.out 0; have hfz53_1 := blk_frozen BK397.out 1; have hfz53_2 := blk_frozen BK397.out 2; have hfz53_3 := blk_frozen BK397.out 3) | ((with_reducible refine gate_callee (f := 26) rfl ?_); refine goesL_ (some 33) rfl rfl Tryd.func26 (by kernel_rfl) rfl #[.int .u8 37, .agg #[.int .i64 t388, .int .i64 t389, .string t390, .bool t391], .agg #[.int .i64 t392, .int .i64 t393, .string t394, .bool t395]] rfl (by (try simp only [List.map_toArray, List.map_cons, List.map_nil]); first | done | rfl | (simp only [List.length_drop, List.length_take]; rfl)) ?_; (with_reducible refine (value_Reckon.calls k 37 t388 t389 t390 t391 t392 t393 t394 t395 t404 t405 t406 t407 t408 _ A6.out).mono ?_); rintro e w54 ⟨rfl, hb⟩; refine ⟨_, rfl, ?_⟩; have n0_ := Aside0.mk (blk_below (g := gb396) (o := .cells #[.int .i64 t388, .int .i64 t389, .string t390, .bool t391] 38 (0, 0)) (by (with_reducible repeat (first | refine blk_drewN ?_ _ | refine blk_drew ?_ | refine blk_alloc ?_ _)); refine blk_far ?_ NB396_403.out _; (with_reducible repeat (first | refine blk_drewN ?_ _ | refine blk_drew ?_ | refine blk_alloc ?_ _)); refine blk_far ?_ NB396_403.out _; (with_reducible repeat (first | refine blk_drewN ?_ _ | refine blk_drew ?_ | refine blk_alloc ?_ _)); refine blk_far ?_ NB396_403.out _; (with_reducible repeat (first | refine blk_drewN ?_ _ | refine blk_drew ?_ | refine blk_alloc ?_ _)); refine blk_far ?_ NB396_403.out _; (with_reducible repeat (first | refine blk_drewN ?_ _ | refine blk_drew ?_ | refine blk_alloc ?_ _)); exact BK396.out) hb); have n1_ := Aside0.mk (blk_below (g := gb397) (o := .cells #[.int .i64 t392, .int .i64 t393, .string t394, .bool t395] 38 (0, 0)) (by (with_reducible repeat (first | refine blk_drewN ?_ _ | refine blk_drew ?_ | refine blk_alloc ?_ _)); refine blk_far ?_ NB397_403.out _; (with_reducible repeat (first | refine blk_drewN ?_ _ | refine blk_drew ?_ | refine blk_alloc ?_ _)); refine blk_far ?_ NB397_403.out _; (with_reducible repeat (first | refine blk_drewN ?_ _ | refine blk_drew ?_ | refine blk_alloc ?_ _)); refine blk_far ?_ NB397_403.out _; (with_reducible repeat (first | refine blk_drewN ?_ _ | refine blk_drew ?_ | refine blk_alloc ?_ _)); refine blk_far ?_ NB397_403.out _; (with_reducible repeat (first | refine blk_drewN ?_ _ | refine blk_drew ?_ | refine blk_alloc ?_ _)); exact BK397.out) hb); have n2_ := Aside0.mk (blk_below (g := gb403) (o := .cells #[.int .i64 t398, .int .i64 t399, .string t400, .bool t401] 38 (0, 0)) (by (with_reducible repeat (first | refine blk_drewN ?_ _ | refine blk_drew ?_ | refine blk_alloc ?_ _)); refine blk_put (cs := #[.int .i64 t398, .int .i64 t399, .string t400, .bool false]) ?_ 3 _ rfl; (with_reducible repeat (first | refine blk_drewN ?_ _ | refine blk_drew ?_ | refine blk_alloc ?_ _)); refine blk_put (cs := #[.int .i64 t398, .int .i64 t399, .string (⟨#[]⟩ : ByteArray), .bool false]) ?_ 2 _ rfl; (with_reducible repeat (first | refine blk_drewN ?_ _ | refine blk_drew ?_ | refine blk_alloc ?_ _)); refine blk_put (cs := #[.int .i64 t398, .int .i64 0, .string (⟨#[]⟩ : ByteArray), .bool false]) ?_ 1 _ rfl; (with_reducible repeat (first | refine blk_drewN ?_ _ | refine blk_drew ?_ | refine blk_alloc ?_ _)); refine blk_put (cs := #[.int .i64 0, .int .i64 0, .string (⟨#[]⟩ : ByteArray), .bool false]) ?_ 0 _ rfl; (with_reducible repeat (first | refine blk_drewN ?_ _ | refine blk_drew ?_ | refine blk_alloc ?_ _)); exact BK403.out) hb); have n3_ := Aside0.mk (below_step (by repeat (first | (with_reducible first | exact HB.out | apply below_alloc | apply pw_below_drewN | apply below_drew1 | refine below_set ?_ GE396.out | refine below_set ?_ GE397.out | refine below_set ?_ GE403.out) | exact HB.out)) hb); clear BK396; clear BK397; clear BK403; clear HB; have BK396 := n0_; have BK397 := n1_; have BK403 := n2_; have HB := n3_; clear n0_ n1_ n2_ n3_; (try clear hb); (try clear hb2); (try clear hk); (try clear hi); (try simp only [errW_none, errW_some])) | ((with_reducible refine gate_dst (N := 9) rfl ?_); refine box_event ?hg (N := 9) ?hd (cs := #[.int .i64 0, .int .i64 0, .string (⟨#[]⟩ : ByteArray), .bool false]) (t := 38) ?hr ?_; (case hd => rfl); (case hg => rfl); (case hr => first | (go_simp; done) | (go_simp; rfl)); intro gb409 hg w55 hbox hb; have n0_ := Aside0.mk (blk_below (g := gb396) (o := .cells #[.int .i64 t388, .int .i64 t389, .string t390, .bool t391] 38 (0, 0)) (by (with_reducible repeat (first | refine blk_drewN ?_ _ | refine blk_drew ?_ | refine blk_alloc ?_ _)); exact BK396.out) hb); have n1_ := Aside0.mk (blk_below (g := gb397) (o := .cells #[.int .i64 t392, .int .i64 t393, .string t394, .bool t395] 38 (0, 0)) (by (with_reducible repeat (first | refine blk_drewN ?_ _ | refine blk_drew ?_ | refine blk_alloc ?_ _)); exact BK397.out) hb); have n2_ := Aside0.mk (blk_below (g := gb403) (o := .cells #[.int .i64 t398, .int .i64 t399, .string t400, .bool t401] 38 (0, 0)) (by (with_reducible repeat (first | refine blk_drewN ?_ _ | refine blk_drew ?_ | refine blk_alloc ?_ _)); exact BK403.out) hb); have n3_ := Aside0.mk (below_step (by repeat (first | (with_reducible first | exact HB.out | apply below_alloc | apply pw_below_drewN | apply below_drew1 | refine below_set ?_ GE396.out | refine below_set ?_ GE397.out | refine below_set ?_ GE403.out) | exact HB.out)) hb); have n4_ := Aside0.mk (hbox); have n5_ := Aside0.mk ((by rw [hg]; exact (below_size (by repeat (first | (with_reducible first | exact HB.out | apply below_alloc | apply pw_below_drewN | apply below_drew1 | refine below_set ?_ GE396.out | refine below_set ?_ GE397.out | refine below_set ?_ GE403.out) | exact HB.out))) : w.heap.size ≤ gb409)); have n6_ := Aside0.mk ((by rw [hg]; exact (below_size (by repeat (first | (with_reducible first | exact HB.out | apply below_alloc | apply pw_below_drewN | apply below_drew1 | refine below_set ?_ GE396.out | refine below_set ?_ GE397.out | refine below_set ?_ GE403.out) | exact HB.out))) : w.heap.size ≤ gb409)); have n7_ := Aside0.mk ((by rw [hg]; exact Nat.ne_of_lt (blk_lt (g := gb396) (o := .cells #[.int .i64 t388, .int .i64 t389, .string t390, .bool t391] 38 (0, 0)) (by (with_reducible repeat (first | refine blk_drewN ?_ _ | refine blk_drew ?_ | refine blk_alloc ?_ _)); exact BK396.out)) : gb396 ≠ gb409)); have n8_ := Aside0.mk ((by rw [hg]; exact Nat.ne_of_gt (blk_lt (g := gb396) (o := .cells #[.int .i64 t388, .int .i64 t389, .string t390, .bool t391] 38 (0, 0)) (by (with_reducible repeat (first | refine blk_drewN ?_ _ | refine blk_drew ?_ | refine blk_alloc ?_ _)); exact BK396.out)) : gb409 ≠ gb396)); have n9_ := Aside0.mk ((by rw [hg]; exact Nat.ne_of_lt (blk_lt (g := gb397) (o := .cells #[.int .i64 t392, .int .i64 t393, .string t394, .bool t395] 38 (0, 0)) (by (with_reducible repeat (first | refine blk_drewN ?_ _ | refine blk_drew ?_ | refine blk_alloc ?_ _)); exact BK397.out)) : gb397 ≠ gb409)); have n10_ := Aside0.mk ((by rw [hg]; exact Nat.ne_of_gt (blk_lt (g := gb397) (o := .cells #[.int .i64 t392, .int .i64 t393, .string t394, .bool t395] 38 (0, 0)) (by (with_reducible repeat (first | refine blk_drewN ?_ _ | refine blk_drew ?_ | refine blk_alloc ?_ _)); exact BK397.out)) : gb409 ≠ gb397)); have n11_ := Aside0.mk ((by rw [hg]; exact Nat.ne_of_lt (blk_lt (g := gb403) (o := .cells #[.int .i64 t398, .int .i64 t399, .string t400, .bool t401] 38 (0, 0)) (by (with_reducible repeat (first | refine blk_drewN ?_ _ | refine blk_drew ?_ | refine blk_alloc ?_ _)); exact BK403.out)) : gb403 ≠ gb409)); have n12_ := Aside0.mk ((by rw [hg]; exact Nat.ne_of_gt (blk_lt (g := gb403) (o := .cells #[.int .i64 t398, .int .i64 t399, .string t400, .bool t401] 38 (0, 0)) (by (with_reducible repeat (first | refine blk_drewN ?_ _ | refine blk_drew ?_ | refine blk_alloc ?_ _)); exact BK403.out)) : gb409 ≠ gb403)); clear BK396; clear BK397; clear BK403; clear HB; have BK396 := n0_; have BK397 := n1_; have BK403 := n2_; have HB := n3_; have BK409 := n4_; have GW409 := n5_; have GE409 := n6_; have NB396_409 := n7_; have NB409_396 := n8_; have NB397_409 := n9_; have NB409_397 := n10_; have NB403_409 := n11_; have NB409_403 := n12_; clear n0_ n1_ n2_ n3_ n4_ n5_ n6_ n7_ n8_ n9_ n10_ n11_ n12_; clear hb hbox hg; have hnb56 := NB409_396.out; have hnc56 := NB396_409.out; have hnb57 := NB409_397.out; have hnc57 := NB397_409.out; have hnb58 := NB409_403.out; have hnc58 := NB403_409.out; have hcz59_0 : w55.cell? ⟨gb409, 0, none⟩ = some (.int .i64 0) := (blk_cell BK409.out 0).trans rfl; have hcz59_1 : w55.cell? ⟨gb409, 1, none⟩ = some (.int .i64 0) := (blk_cell BK409.out 1).trans rfl; have hcz59_2 : w55.cell? ⟨gb409, 2, none⟩ = some (.string (⟨#[]⟩ : ByteArray)) := (blk_cell BK409.out 2).trans rfl; have hcz59_3 : w55.cell? ⟨gb409, 3, none⟩ = some (.bool false) := (blk_cell BK409.out 3).trans rfl; have hfz59_0 := blk_frozen BK409.out 0; have hfz59_1 := blk_frozen BK409.out 1; have hfz59_2 := blk_frozen BK409.out 2; have hfz59_3 := blk_frozen BK409.out 3; have hcz60_0 : w55.cell? ⟨gb403, 0, none⟩ = some (.int .i64 t398) := (blk_cell BK403.out 0).trans rfl; have hcz60_1 : w55.cell? ⟨gb403, 1, none⟩ = some (.int .i64 t399) := (blk_cell BK403.out 1).trans rfl; have hcz60_2 : w55.cell? ⟨gb403, 2, none⟩ = some (.string t400) := (blk_cell BK403.out 2).trans rfl; have hcz60_3 : w55.cell? ⟨gb403, 3, none⟩ = some (.bool t401) := (blk_cell BK403.out 3).trans rfl; have hfz60_0 := blk_frozen BK403.out 0; have hfz60_1 := blk_frozen BK403.out 1; have hfz60_2 := blk_frozen BK403.out 2; have hfz60_3 := blk_frozen BK403.out 3; have hcz61_0 : w55.cell? ⟨gb397, 0, none⟩ = some (.int .i64 t392) := (blk_cell BK397.out 0).trans rfl; have hcz61_1 : w55.cell? ⟨gb397, 1, none⟩ = some (.int .i64 t393) := (blk_cell BK397.out 1).trans rfl; have hcz61_2 : w55.cell? ⟨gb397, 2, none⟩ = some (.string t394) := (blk_cell BK397.out 2).trans rfl; have hcz61_3 : w55.cell? ⟨gb397, 3, none⟩ = some (.bool t395) := (blk_cell BK397.out 3).trans rfl; have hfz61_0 := blk_frozen BK397.out 0; have hfz61_1 := blk_frozen BK397.out 1; have hfz61_2 := blk_frozen BK397.out 2; have hfz61_3 := blk_frozen BK397.out 3) | ((with_reducible refine gate_callee (f := 26) rfl ?_); refine goesL_ (some 54) rfl rfl Tryd.func26 (by kernel_rfl) rfl #[.int .u8 42, .agg #[.int .i64 t398, .int .i64 t399, .string t400, .bool t401], .agg #[.int .i64 t392, .int .i64 t393, .string t394, .bool t395]] rfl (by (try simp only [List.map_toArray, List.map_cons, List.map_nil]); first | done | rfl | (simp only [List.length_drop, List.length_take]; rfl)) ?_; (with_reducible refine (value_Reckon.calls k 42 t398 t399 t400 t401 t392 t393 t394 t395 t414 t415 t416 t417 none _ A36.out).mono ?_); rintro e w62 ⟨rfl, hb⟩; refine ⟨_, rfl, ?_⟩; have n0_ := Aside0.mk (blk_below (g := gb396) (o := .cells #[.int .i64 t388, .int .i64 t389, .string t390, .bool t391] 38 (0, 0)) (by (with_reducible repeat (first | refine blk_drewN ?_ _ | refine blk_drew ?_ | refine blk_alloc ?_ _)); refine blk_far ?_ NB396_409.out _; (with_reducible repeat (first | refine blk_drewN ?_ _ | refine blk_drew ?_ | refine blk_alloc ?_ _)); refine blk_far ?_ NB396_409.out _; (with_reducible repeat (first | refine blk_drewN ?_ _ | refine blk_drew ?_ | refine blk_alloc ?_ _)); refine blk_far ?_ NB396_409.out _; (with_reducible repeat (first | refine blk_drewN ?_ _ | refine blk_drew ?_ | refine blk_alloc ?_ _)); refine blk_far ?_ NB396_409.out _; (with_reducible repeat (first | refine blk_drewN ?_ _ | refine blk_drew ?_ | refine blk_alloc ?_ _)); exact BK396.out) hb); have n1_ := Aside0.mk (blk_below (g := gb397) (o := .cells #[.int .i64 t392, .int .i64 t393, .string t394, .bool t395] 38 (0, 0)) (by (with_reducible repeat (first | refine blk_drewN ?_ _ | refine blk_drew ?_ | refine blk_alloc ?_ _)); refine blk_far ?_ NB397_409.out _; (with_reducible repeat (first | refine blk_drewN ?_ _ | refine blk_drew ?_ | refine blk_alloc ?_ _)); refine blk_far ?_ NB397_409.out _; (with_reducible repeat (first | refine blk_drewN ?_ _ | refine blk_drew ?_ | refine blk_alloc ?_ _)); refine blk_far ?_ NB397_409.out _; (with_reducible repeat (first | refine blk_drewN ?_ _ | refine blk_drew ?_ | refine blk_alloc ?_ _)); refine blk_far ?_ NB397_409.out _; (with_reducible repeat (first | refine blk_drewN ?_ _ | refine blk_drew ?_ | refine blk_alloc ?_ _)); exact BK397.out) hb); have n2_ := Aside0.mk (blk_below (g := gb403) (o := .cells #[.int .i64 t398, .int .i64 t399, .string t400, .bool t401] 38 (0, 0)) (by (with_reducible repeat (first | refine blk_drewN ?_ _ | refine blk_drew ?_ | refine blk_alloc ?_ _)); refine blk_far ?_ NB403_409.out _; (with_reducible repeat (first | refine blk_drewN ?_ _ | refine blk_drew ?_ | refine blk_alloc ?_ _)); refine blk_far ?_ NB403_409.out _; (with_reducible repeat (first | refine blk_drewN ?_ _ | refine blk_drew ?_ | refine blk_alloc ?_ _)); refine blk_far ?_ NB403_409.out _; (with_reducible repeat (first | refine blk_drewN ?_ _ | refine blk_drew ?_ | refine blk_alloc ?_ _)); refine blk_far ?_ NB403_409.out _; (with_reducible repeat (first | refine blk_drewN ?_ _ | refine blk_drew ?_ | refine blk_alloc ?_ _)); exact BK403.out) hb); have n3_ := Aside0.mk (blk_below (g := gb409) (o := .cells #[.int .i64 t404, .int .i64 t405, .string t406, .bool t407] 38 (0, 0)) (by (with_reducible repeat (first | refine blk_drewN ?_ _ | refine blk_drew ?_ | refine blk_alloc ?_ _)); refine blk_put (cs := #[.int .i64 t404, .int .i64 t405, .string t406, .bool false]) ?_ 3 _ rfl; (with_reducible repeat (first | refine blk_drewN ?_ _ | refine blk_drew ?_ | refine blk_alloc ?_ _)); refine blk_put (cs := #[.int .i64 t404, .int .i64 t405, .string (⟨#[]⟩ : ByteArray), .bool false]) ?_ 2 _ rfl; (with_reducible repeat (first | refine blk_drewN ?_ _ | refine blk_drew ?_ | refine blk_alloc ?_ _)); refine blk_put (cs := #[.int .i64 t404, .int .i64 0, .string (⟨#[]⟩ : ByteArray), .bool false]) ?_ 1 _ rfl; (with_reducible repeat (first | refine blk_drewN ?_ _ | refine blk_drew ?_ | refine blk_alloc ?_ _)); refine blk_put (cs := #[.int .i64 0, .int .i64 0, .string (⟨#[]⟩ : ByteArray), .bool false]) ?_ 0 _ rfl; (with_reducible repeat (first | refine blk_drewN ?_ _ | refine blk_drew ?_ | refine blk_alloc ?_ _)); exact BK409.out) hb); have n4_ := Aside0.mk (below_step (by repeat (first | (with_reducible first | exact HB.out | apply below_alloc | apply pw_below_drewN | apply below_drew1 | refine below_set ?_ GE396.out | refine below_set ?_ GE397.out | refine below_set ?_ GE403.out | refine below_set ?_ GE409.out) | exact HB.out)) hb); clear BK396; clear BK397; clear BK403; clear BK409; clear HB; have BK396 := n0_; have BK397 := n1_; have BK403 := n2_; have BK409 := n3_; have HB := n4_; clear n0_ n1_ n2_ n3_ n4_; (try clear hb); (try clear hb2); (try clear hk); (try clear hi); (try simp only [errW_none, errW_some])) | ((with_reducible refine gate_dst (N := 11) rfl ?_); refine box_event ?hg (N := 11) ?hd (cs := #[.int .i64 0, .int .i64 0, .string (⟨#[]⟩ : ByteArray), .bool false]) (t := 38) ?hr ?_; (case hd => rfl); (case hg => rfl); (case hr => first | (go_simp; done) | (go_simp; rfl)); intro gb419 hg w63 hbox hb; have n0_ := Aside0.mk (blk_below (g := gb396) (o := .cells #[.int .i64 t388, .int .i64 t389, .string t390, .bool t391] 38 (0, 0)) (by (with_reducible repeat (first | refine blk_drewN ?_ _ | refine blk_drew ?_ | refine blk_alloc ?_ _)); exact BK396.out) hb); have n1_ := Aside0.mk (blk_below (g := gb397) (o := .cells #[.int .i64 t392, .int .i64 t393, .string t394, .bool t395] 38 (0, 0)) (by (with_reducible repeat (first | refine blk_drewN ?_ _ | refine blk_drew ?_ | refine blk_alloc ?_ _)); exact BK397.out) hb); have n2_ := Aside0.mk (blk_below (g := gb403) (o := .cells #[.int .i64 t398, .int .i64 t399, .string t400, .bool t401] 38 (0, 0)) (by (with_reducible repeat (first | refine blk_drewN ?_ _ | refine blk_drew ?_ | refine blk_alloc ?_ _)); exact BK403.out) hb); have n3_ := Aside0.mk (blk_below (g := gb409) (o := .cells #[.int .i64 t404, .int .i64 t405, .string t406, .bool t407] 38 (0, 0)) (by (with_reducible repeat (first | refine blk_drewN ?_ _ | refine blk_drew ?_ | refine blk_alloc ?_ _)); exact BK409.out) hb); have n4_ := Aside0.mk (below_step (by repeat (first | (with_reducible first | exact HB.out | apply below_alloc | apply pw_below_drewN | apply below_drew1 | refine below_set ?_ GE396.out | refine below_set ?_ GE397.out | refine below_set ?_ GE403.out | refine below_set ?_ GE409.out) | exact HB.out)) hb); have n5_ := Aside0.mk (hbox); have n6_ := Aside0.mk ((by rw [hg]; exact (below_size (by repeat (first | (with_reducible first | exact HB.out | apply below_alloc | apply pw_below_drewN | apply below_drew1 | refine below_set ?_ GE396.out | refine below_set ?_ GE397.out | refine below_set ?_ GE403.out | refine below_set ?_ GE409.out) | exact HB.out))) : w.heap.size ≤ gb419)); have n7_ := Aside0.mk ((by rw [hg]; exact (below_size (by repeat (first | (with_reducible first | exact HB.out | apply below_alloc | apply pw_below_drewN | apply below_drew1 | refine below_set ?_ GE396.out | refine below_set ?_ GE397.out | refine below_set ?_ GE403.out | refine below_set ?_ GE409.out) | exact HB.out))) : w.heap.size ≤ gb419)); have n8_ := Aside0.mk ((by rw [hg]; exact Nat.ne_of_lt (blk_lt (g := gb396) (o := .cells #[.int .i64 t388, .int .i64 t389, .string t390, .bool t391] 38 (0, 0)) (by (with_reducible repeat (first | refine blk_drewN ?_ _ | refine blk_drew ?_ | refine blk_alloc ?_ _)); exact BK396.out)) : gb396 ≠ gb419)); have n9_ := Aside0.mk ((by rw [hg]; exact Nat.ne_of_gt (blk_lt (g := gb396) (o := .cells #[.int .i64 t388, .int .i64 t389, .string t390, .bool t391] 38 (0, 0)) (by (with_reducible repeat (first | refine blk_drewN ?_ _ | refine blk_drew ?_ | refine blk_alloc ?_ _)); exact BK396.out)) : gb419 ≠ gb396)); have n10_ := Aside0.mk ((by rw [hg]; exact Nat.ne_of_lt (blk_lt (g := gb397) (o := .cells #[.int .i64 t392, .int .i64 t393, .string t394, .bool t395] 38 (0, 0)) (by (with_reducible repeat (first | refine blk_drewN ?_ _ | refine blk_drew ?_ | refine blk_alloc ?_ _)); exact BK397.out)) : gb397 ≠ gb419)); have n11_ := Aside0.mk ((by rw [hg]; exact Nat.ne_of_gt (blk_lt (g := gb397) (o := .cells #[.int .i64 t392, .int .i64 t393, .string t394, .bool t395] 38 (0, 0)) (by (with_reducible repeat (first | refine blk_drewN ?_ _ | refine blk_drew ?_ | refine blk_alloc ?_ _)); exact BK397.out)) : gb419 ≠ gb397)); have n12_ := Aside0.mk ((by rw [hg]; exact Nat.ne_of_lt (blk_lt (g := gb403) (o := .cells #[.int .i64 t398, .int .i64 t399, .string t400, .bool t401] 38 (0, 0)) (by (with_reducible repeat (first | refine blk_drewN ?_ _ | refine blk_drew ?_ | refine blk_alloc ?_ _)); exact BK403.out)) : gb403 ≠ gb419)); have n13_ := Aside0.mk ((by rw [hg]; exact Nat.ne_of_gt (blk_lt (g := gb403) (o := .cells #[.int .i64 t398, .int .i64 t399, .string t400, .bool t401] 38 (0, 0)) (by (with_reducible repeat (first | refine blk_drewN ?_ _ | refine blk_drew ?_ | refine blk_alloc ?_ _)); exact BK403.out)) : gb419 ≠ gb403)); have n14_ := Aside0.mk ((by rw [hg]; exact Nat.ne_of_lt (blk_lt (g := gb409) (o := .cells #[.int .i64 t404, .int .i64 t405, .string t406, .bool t407] 38 (0, 0)) (by (with_reducible repeat (first | refine blk_drewN ?_ _ | refine blk_drew ?_ | refine blk_alloc ?_ _)); exact BK409.out)) : gb409 ≠ gb419)); have n15_ := Aside0.mk ((by rw [hg]; exact Nat.ne_of_gt (blk_lt (g := gb409) (o := .cells #[.int .i64 t404, .int .i64 t405, .string t406, .bool t407] 38 (0, 0)) (by (with_reducible repeat (first | refine blk_drewN ?_ _ | refine blk_drew ?_ | refine blk_alloc ?_ _)); exact BK409.out)) : gb419 ≠ gb409)); clear BK396; clear BK397; clear BK403; clear BK409; clear HB; have BK396 := n0_; have BK397 := n1_; have BK403 := n2_; have BK409 := n3_; have HB := n4_; have BK419 := n5_; have GW419 := n6_; have GE419 := n7_; have NB396_419 := n8_; have NB419_396 := n9_; have NB397_419 := n10_; have NB419_397 := n11_; have NB403_419 := n12_; have NB419_403 := n13_; have NB409_419 := n14_; have NB419_409 := n15_; clear n0_ n1_ n2_ n3_ n4_ n5_ n6_ n7_ n8_ n9_ n10_ n11_ n12_ n13_ n14_ n15_; clear hb hbox hg; have hnb64 := NB419_396.out; have hnc64 := NB396_419.out; have hnb65 := NB419_397.out; have hnc65 := NB397_419.out; have hnb66 := NB419_403.out; have hnc66 := NB403_419.out; have hnb67 := NB419_409.out; have hnc67 := NB409_419.out; have hcz68_0 : w63.cell? ⟨gb419, 0, none⟩ = some (.int .i64 0) := (blk_cell BK419.out 0).trans rfl; have hcz68_1 : w63.cell? ⟨gb419, 1, none⟩ = some (.int .i64 0) := (blk_cell BK419.out 1).trans rfl; have hcz68_2 : w63.cell? ⟨gb419, 2, none⟩ = some (.string (⟨#[]⟩ : ByteArray)) := (blk_cell BK419.out 2).trans rfl; have hcz68_3 : w63.cell? ⟨gb419, 3, none⟩ = some (.bool false) := (blk_cell BK419.out 3).trans rfl; have hfz68_0 := blk_frozen BK419.out 0; have hfz68_1 := blk_frozen BK419.out 1; have hfz68_2 := blk_frozen BK419.out 2; have hfz68_3 := blk_frozen BK419.out 3; have hcz69_0 : w63.cell? ⟨gb409, 0, none⟩ = some (.int .i64 t404) := (blk_cell BK409.out 0).trans rfl; have hcz69_1 : w63.cell? ⟨gb409, 1, none⟩ = some (.int .i64 t405) := (blk_cell BK409.out 1).trans rfl; have hcz69_2 : w63.cell? ⟨gb409, 2, none⟩ = some (.string t406) := (blk_cell BK409.out 2).trans rfl; have hcz69_3 : w63.cell? ⟨gb409, 3, none⟩ = some (.bool t407) := (blk_cell BK409.out 3).trans rfl; have hfz69_0 := blk_frozen BK409.out 0; have hfz69_1 := blk_frozen BK409.out 1; have hfz69_2 := blk_frozen BK409.out 2; have hfz69_3 := blk_frozen BK409.out 3) | ((with_reducible refine gate_callee (f := 26) rfl ?_); refine goesL_ (some 60) rfl rfl Tryd.func26 (by kernel_rfl) rfl #[.int .u8 43, .agg #[.int .i64 t414, .int .i64 t415, .string t416, .bool t417], .agg #[.int .i64 t404, .int .i64 t405, .string t406, .bool t407]] rfl (by (try simp only [List.map_toArray, List.map_cons, List.map_nil]); first | done | rfl | (simp only [List.length_drop, List.length_take]; rfl)) ?_; (with_reducible refine (value_Reckon.calls k 43 t414 t415 t416 t417 t404 t405 t406 t407 t420 t421 t422 t423 none _ A37.out).mono ?_); rintro e w70 ⟨rfl, hb⟩; refine ⟨_, rfl, ?_⟩; have n0_ := Aside0.mk (blk_below (g := gb396) (o := .cells #[.int .i64 t388, .int .i64 t389, .string t390, .bool t391] 38 (0, 0)) (by (with_reducible repeat (first | refine blk_drewN ?_ _ | refine blk_drew ?_ | refine blk_alloc ?_ _)); refine blk_far ?_ NB396_419.out _; (with_reducible repeat (first | refine blk_drewN ?_ _ | refine blk_drew ?_ | refine blk_alloc ?_ _)); refine blk_far ?_ NB396_419.out _; (with_reducible repeat (first | refine blk_drewN ?_ _ | refine blk_drew ?_ | refine blk_alloc ?_ _)); refine blk_far ?_ NB396_419.out _; (with_reducible repeat (first | refine blk_drewN ?_ _ | refine blk_drew ?_ | refine blk_alloc ?_ _)); refine blk_far ?_ NB396_419.out _; (with_reducible repeat (first | refine blk_drewN ?_ _ | refine blk_drew ?_ | refine blk_alloc ?_ _)); exact BK396.out) hb); have n1_ := Aside0.mk (blk_below (g := gb397) (o := .cells #[.int .i64 t392, .int .i64 t393, .string t394, .bool t395] 38 (0, 0)) (by (with_reducible repeat (first | refine blk_drewN ?_ _ | refine blk_drew ?_ | refine blk_alloc ?_ _)); refine blk_far ?_ NB397_419.out _; (with_reducible repeat (first | refine blk_drewN ?_ _ | refine blk_drew ?_ | refine blk_alloc ?_ _)); refine blk_far ?_ NB397_419.out _; (with_reducible repeat (first | refine blk_drewN ?_ _ | refine blk_drew ?_ | refine blk_alloc ?_ _)); refine blk_far ?_ NB397_419.out _; (with_reducible repeat (first | refine blk_drewN ?_ _ | refine blk_drew ?_ | refine blk_alloc ?_ _)); refine blk_far ?_ NB397_419.out _; (with_reducible repeat (first | refine blk_drewN ?_ _ | refine blk_drew ?_ | refine blk_alloc ?_ _)); exact BK397.out) hb); have n2_ := Aside0.mk (blk_below (g := gb403) (o := .cells #[.int .i64 t398, .int .i64 t399, .string t400, .bool t401] 38 (0, 0)) (by (with_reducible repeat (first | refine blk_drewN ?_ _ | refine blk_drew ?_ | refine blk_alloc ?_ _)); refine blk_far ?_ NB403_419.out _; (with_reducible repeat (first | refine blk_drewN ?_ _ | refine blk_drew ?_ | refine blk_alloc ?_ _)); refine blk_far ?_ NB403_419.out _; (with_reducible repeat (first | refine blk_drewN ?_ _ | refine blk_drew ?_ | refine blk_alloc ?_ _)); refine blk_far ?_ NB403_419.out _; (with_reducible repeat (first | refine blk_drewN ?_ _ | refine blk_drew ?_ | refine blk_alloc ?_ _)); refine blk_far ?_ NB403_419.out _; (with_reducible repeat (first | refine blk_drewN ?_ _ | refine blk_drew ?_ | refine blk_alloc ?_ _)); exact BK403.out) hb); have n3_ := Aside0.mk (blk_below (g := gb409) (o := .cells #[.int .i64 t404, .int .i64 t405, .string t406, .bool t407] 38 (0, 0)) (by (with_reducible repeat (first | refine blk_drewN ?_ _ | refine blk_drew ?_ | refine blk_alloc ?_ _)); refine blk_far ?_ NB409_419.out _; (with_reducible repeat (first | refine blk_drewN ?_ _ | refine blk_drew ?_ | refine blk_alloc ?_ _)); refine blk_far ?_ NB409_419.out _; (with_reducible repeat (first | refine blk_drewN ?_ _ | refine blk_drew ?_ | refine blk_alloc ?_ _)); refine blk_far ?_ NB409_419.out _; (with_reducible repeat (first | refine blk_drewN ?_ _ | refine blk_drew ?_ | refine blk_alloc ?_ _)); refine blk_far ?_ NB409_419.out _; (with_reducible repeat (first | refine blk_drewN ?_ _ | refine blk_drew ?_ | refine blk_alloc ?_ _)); exact BK409.out) hb); have n4_ := Aside0.mk (blk_below (g := gb419) (o := .cells #[.int .i64 t414, .int .i64 t415, .string t416, .bool t417] 38 (0, 0)) (by (with_reducible repeat (first | refine blk_drewN ?_ _ | refine blk_drew ?_ | refine blk_alloc ?_ _)); refine blk_put (cs := #[.int .i64 t414, .int .i64 t415, .string t416, .bool false]) ?_ 3 _ rfl; (with_reducible repeat (first | refine blk_drewN ?_ _ | refine blk_drew ?_ | refine blk_alloc ?_ _)); refine blk_put (cs := #[.int .i64 t414, .int .i64 t415, .string (⟨#[]⟩ : ByteArray), .bool false]) ?_ 2 _ rfl; (with_reducible repeat (first | refine blk_drewN ?_ _ | refine blk_drew ?_ | refine blk_alloc ?_ _)); refine blk_put (cs := #[.int .i64 t414, .int .i64 0, .string (⟨#[]⟩ : ByteArray), .bool false]) ?_ 1 _ rfl; (with_reducible repeat (first | refine blk_drewN ?_ _ | refine blk_drew ?_ | refine blk_alloc ?_ _)); refine blk_put (cs := #[.int .i64 0, .int .i64 0, .string (⟨#[]⟩ : ByteArray), .bool false]) ?_ 0 _ rfl; (with_reducible repeat (first | refine blk_drewN ?_ _ | refine blk_drew ?_ | refine blk_alloc ?_ _)); exact BK419.out) hb); have n5_ := Aside0.mk (below_step (by repeat (first | (with_reducible first | exact HB.out | apply below_alloc | apply pw_below_drewN | apply below_drew1 | refine below_set ?_ GE396.out | refine below_set ?_ GE397.out | refine below_set ?_ GE403.out | refine below_set ?_ GE409.out | refine below_set ?_ GE419.out) | exact HB.out)) hb); clear BK396; clear BK397; clear BK403; clear BK409; clear BK419; clear HB; have BK396 := n0_; have BK397 := n1_; have BK403 := n2_; have BK409 := n3_; have BK419 := n4_; have HB := n5_; clear n0_ n1_ n2_ n3_ n4_ n5_; (try clear hb); (try clear hb2); (try clear hk); (try clear hi); (try simp only [errW_none, errW_some])) | ((with_reducible refine gate_dst (N := 13) rfl ?_); refine box_event ?hg (N := 13) ?hd (cs := #[.int .i64 0, .int .i64 0, .string (⟨#[]⟩ : ByteArray), .bool false]) (t := 38) ?hr ?_; (case hd => rfl); (case hg => rfl); (case hr => first | (go_simp; done) | (go_simp; rfl)); intro gb425 hg w71 hbox hb; have n0_ := Aside0.mk (blk_below (g := gb396) (o := .cells #[.int .i64 t388, .int .i64 t389, .string t390, .bool t391] 38 (0, 0)) (by (with_reducible repeat (first | refine blk_drewN ?_ _ | refine blk_drew ?_ | refine blk_alloc ?_ _)); exact BK396.out) hb); have n1_ := Aside0.mk (blk_below (g := gb397) (o := .cells #[.int .i64 t392, .int .i64 t393, .string t394, .bool t395] 38 (0, 0)) (by (with_reducible repeat (first | refine blk_drewN ?_ _ | refine blk_drew ?_ | refine blk_alloc ?_ _)); exact BK397.out) hb); have n2_ := Aside0.mk (blk_below (g := gb403) (o := .cells #[.int .i64 t398, .int .i64 t399, .string t400, .bool t401] 38 (0, 0)) (by (with_reducible repeat (first | refine blk_drewN ?_ _ | refine blk_drew ?_ | refine blk_alloc ?_ _)); exact BK403.out) hb); have n3_ := Aside0.mk (blk_below (g := gb409) (o := .cells #[.int .i64 t404, .int .i64 t405, .string t406, .bool t407] 38 (0, 0)) (by (with_reducible repeat (first | refine blk_drewN ?_ _ | refine blk_drew ?_ | refine blk_alloc ?_ _)); exact BK409.out) hb); have n4_ := Aside0.mk (blk_below (g := gb419) (o := .cells #[.int .i64 t414, .int .i64 t415, .string t416, .bool t417] 38 (0, 0)) (by (with_reducible repeat (first | refine blk_drewN ?_ _ | refine blk_drew ?_ | refine blk_alloc ?_ _)); exact BK419.out) hb); have n5_ := Aside0.mk (below_step (by repeat (first | (with_reducible first | exact HB.out | apply below_alloc | apply pw_below_drewN | apply below_drew1 | refine below_set ?_ GE396.out | refine below_set ?_ GE397.out | refine below_set ?_ GE403.out | refine below_set ?_ GE409.out | refine below_set ?_ GE419.out) | exact HB.out)) hb); have n6_ := Aside0.mk (hbox); have n7_ := Aside0.mk ((by rw [hg]; exact (below_size (by repeat (first | (with_reducible first | exact HB.out | apply below_alloc | apply pw_below_drewN | apply below_drew1 | refine below_set ?_ GE396.out | refine below_set ?_ GE397.out | refine below_set ?_ GE403.out | refine below_set ?_ GE409.out | refine below_set ?_ GE419.out) | exact HB.out))) : w.heap.size ≤ gb425)); have n8_ := Aside0.mk ((by rw [hg]; exact (below_size (by repeat (first | (with_reducible first | exact HB.out | apply below_alloc | apply pw_below_drewN | apply below_drew1 | refine below_set ?_ GE396.out | refine below_set ?_ GE397.out | refine below_set ?_ GE403.out | refine below_set ?_ GE409.out | refine below_set ?_ GE419.out) | exact HB.out))) : w.heap.size ≤ gb425)); have n9_ := Aside0.mk ((by rw [hg]; exact Nat.ne_of_lt (blk_lt (g := gb396) (o := .cells #[.int .i64 t388, .int .i64 t389, .string t390, .bool t391] 38 (0, 0)) (by (with_reducible repeat (first | refine blk_drewN ?_ _ | refine blk_drew ?_ | refine blk_alloc ?_ _)); exact BK396.out)) : gb396 ≠ gb425)); have n10_ := Aside0.mk ((by rw [hg]; exact Nat.ne_of_gt (blk_lt (g := gb396) (o := .cells #[.int .i64 t388, .int .i64 t389, .string t390, .bool t391] 38 (0, 0)) (by (with_reducible repeat (first | refine blk_drewN ?_ _ | refine blk_drew ?_ | refine blk_alloc ?_ _)); exact BK396.out)) : gb425 ≠ gb396)); have n11_ := Aside0.mk ((by rw [hg]; exact Nat.ne_of_lt (blk_lt (g := gb397) (o := .cells #[.int .i64 t392, .int .i64 t393, .string t394, .bool t395] 38 (0, 0)) (by (with_reducible repeat (first | refine blk_drewN ?_ _ | refine blk_drew ?_ | refine blk_alloc ?_ _)); exact BK397.out)) : gb397 ≠ gb425)); have n12_ := Aside0.mk ((by rw [hg]; exact Nat.ne_of_gt (blk_lt (g := gb397) (o := .cells #[.int .i64 t392, .int .i64 t393, .string t394, .bool t395] 38 (0, 0)) (by (with_reducible repeat (first | refine blk_drewN ?_ _ | refine blk_drew ?_ | refine blk_alloc ?_ _)); exact BK397.out)) : gb425 ≠ gb397)); have n13_ := Aside0.mk ((by rw [hg]; exact Nat.ne_of_lt (blk_lt (g := gb403) (o := .cells #[.int .i64 t398, .int .i64 t399, .string t400, .bool t401] 38 (0, 0)) (by (with_reducible repeat (first | refine blk_drewN ?_ _ | refine blk_drew ?_ | refine blk_alloc ?_ _)); exact BK403.out)) : gb403 ≠ gb425)); have n14_ := Aside0.mk ((by rw [hg]; exact Nat.ne_of_gt (blk_lt (g := gb403) (o := .cells #[.int .i64 t398, .int .i64 t399, .string t400, .bool t401] 38 (0, 0)) (by (with_reducible repeat (first | refine blk_drewN ?_ _ | refine blk_drew ?_ | refine blk_alloc ?_ _)); exact BK403.out)) : gb425 ≠ gb403)); have n15_ := Aside0.mk ((by rw [hg]; exact Nat.ne_of_lt (blk_lt (g := gb409) (o := .cells #[.int .i64 t404, .int .i64 t405, .string t406, .bool t407] 38 (0, 0)) (by (with_reducible repeat (first | refine blk_drewN ?_ _ | refine blk_drew ?_ | refine blk_alloc ?_ _)); exact BK409.out)) : gb409 ≠ gb425)); have n16_ := Aside0.mk ((by rw [hg]; exact Nat.ne_of_gt (blk_lt (g := gb409) (o := .cells #[.int .i64 t404, .int .i64 t405, .string t406, .bool t407] 38 (0, 0)) (by (with_reducible repeat (first | refine blk_drewN ?_ _ | refine blk_drew ?_ | refine blk_alloc ?_ _)); exact BK409.out)) : gb425 ≠ gb409)); have n17_ := Aside0.mk ((by rw [hg]; exact Nat.ne_of_lt (blk_lt (g := gb419) (o := .cells #[.int .i64 t414, .int .i64 t415, .string t416, .bool t417] 38 (0, 0)) (by (with_reducible repeat (first | refine blk_drewN ?_ _ | refine blk_drew ?_ | refine blk_alloc ?_ _)); exact BK419.out)) : gb419 ≠ gb425)); have n18_ := Aside0.mk ((by rw [hg]; exact Nat.ne_of_gt (blk_lt (g := gb419) (o := .cells #[.int .i64 t414, .int .i64 t415, .string t416, .bool t417] 38 (0, 0)) (by (with_reducible repeat (first | refine blk_drewN ?_ _ | refine blk_drew ?_ | refine blk_alloc ?_ _)); exact BK419.out)) : gb425 ≠ gb419)); clear BK396; clear BK397; clear BK403; clear BK409; clear BK419; clear HB; have BK396 := n0_; have BK397 := n1_; have BK403 := n2_; have BK409 := n3_; have BK419 := n4_; have HB := n5_; have BK425 := n6_; have GW425 := n7_; have GE425 := n8_; have NB396_425 := n9_; have NB425_396 := n10_; have NB397_425 := n11_; have NB425_397 := n12_; have NB403_425 := n13_; have NB425_403 := n14_; have NB409_425 := n15_; have NB425_409 := n16_; have NB419_425 := n17_; have NB425_419 := n18_; clear n0_ n1_ n2_ n3_ n4_ n5_ n6_ n7_ n8_ n9_ n10_ n11_ n12_ n13_ n14_ n15_ n16_ n17_ n18_; clear hb hbox hg; have hnb72 := NB425_396.out; have hnc72 := NB396_425.out; have hnb73 := NB425_397.out; have hnc73 := NB397_425.out; have hnb74 := NB425_403.out; have hnc74 := NB403_425.out; have hnb75 := NB425_409.out; have hnc75 := NB409_425.out; have hnb76 := NB425_419.out; have hnc76 := NB419_425.out; have hcz77_0 : w71.cell? ⟨gb425, 0, none⟩ = some (.int .i64 0) := (blk_cell BK425.out 0).trans rfl; have hcz77_1 : w71.cell? ⟨gb425, 1, none⟩ = some (.int .i64 0) := (blk_cell BK425.out 1).trans rfl; have hcz77_2 : w71.cell? ⟨gb425, 2, none⟩ = some (.string (⟨#[]⟩ : ByteArray)) := (blk_cell BK425.out 2).trans rfl; have hcz77_3 : w71.cell? ⟨gb425, 3, none⟩ = some (.bool false) := (blk_cell BK425.out 3).trans rfl; have hfz77_0 := blk_frozen BK425.out 0; have hfz77_1 := blk_frozen BK425.out 1; have hfz77_2 := blk_frozen BK425.out 2; have hfz77_3 := blk_frozen BK425.out 3; have hcz78_0 : w71.cell? ⟨gb396, 0, none⟩ = some (.int .i64 t388) := (blk_cell BK396.out 0).trans rfl; have hcz78_1 : w71.cell? ⟨gb396, 1, none⟩ = some (.int .i64 t389) := (blk_cell BK396.out 1).trans rfl; have hcz78_2 : w71.cell? ⟨gb396, 2, none⟩ = some (.string t390) := (blk_cell BK396.out 2).trans rfl; have hcz78_3 : w71.cell? ⟨gb396, 3, none⟩ = some (.bool t391) := (blk_cell BK396.out 3).trans rfl; have hfz78_0 := blk_frozen BK396.out 0; have hfz78_1 := blk_frozen BK396.out 1; have hfz78_2 := blk_frozen BK396.out 2; have hfz78_3 := blk_frozen BK396.out 3))
            (try simp only [Act.put, List.setIfInBounds_toArray, List.set_cons_zero, List.set_cons_succ])
            go_cut [15] (fun v15 wc => ∃ (kq : Nat) (x15_38 : Bool), v15 = .bool x15_38 ∧ Aside0 (barbicanlaw05_ValueDivides.j0 kq a0 t408 x15_38 t388 t389 t390 t391 t392 t393 t394 t395 t404 t405 t406 t407 = some r) ∧ Aside0 (kq ≤ k) ∧ Aside0 (wc.heap[gb396]? = some (.cells #[.int .i64 t388, .int .i64 t389, .string t390, .bool t391] 38 (0, 0))) ∧ Aside0 (wc.heap[gb397]? = some (.cells #[.int .i64 t392, .int .i64 t393, .string t394, .bool t395] 38 (0, 0))) ∧ Aside0 (wc.heap[gb403]? = some (.cells #[.int .i64 t398, .int .i64 t399, .string t400, .bool t401] 38 (0, 0))) ∧ Aside0 (wc.heap[gb409]? = some (.cells #[.int .i64 t404, .int .i64 t405, .string t406, .bool t407] 38 (0, 0))) ∧ Aside0 (wc.heap[gb419]? = some (.cells #[.int .i64 t414, .int .i64 t415, .string t416, .bool t417] 38 (0, 0))) ∧ Aside0 (wc.heap[gb425]? = some (.cells #[.int .i64 t420, .int .i64 t421, .string t422, .bool t423] 38 (0, 0))) ∧ Aside0 (Below w.heap.size w wc))
            case first =>
              have H := HC39.out
              clear HC39
              by_cases c79 : t405 < 0
              · rw [if_pos c79] at H
                have c79b0 : decide (t405 < 0) = true := decide_eq_true c79
                clear c79
                (first | rw [c79b0] | (simp only [i64_w, i32_w]; rw [c79b0]) | skip)
                by_cases c80 : a1 < 0
                · rw [if_pos c80] at H
                  have c80b0 : decide (a1 < 0) = true := decide_eq_true c80
                  clear c80
                  by_cases c81 : t405 > a1
                  · rw [if_pos c81] at H
                    have c81b0 : decide (a1 < t405) = true := decide_eq_true c81
                    clear c81
                    have H' := Aside0.mk H
                    clear H
                    have hnb82 := NB409_396.out
                    have hnc82 := NB396_409.out
                    have hnb83 := NB409_397.out
                    have hnc83 := NB397_409.out
                    have hnb84 := NB409_403.out
                    have hnc84 := NB403_409.out
                    have hnb85 := NB409_419.out
                    have hnc85 := NB419_409.out
                    have hnb86 := NB409_425.out
                    have hnc86 := NB425_409.out
                    have hcz87_0 : w71.cell? ⟨gb409, 0, none⟩ = some (.int .i64 t404) := (blk_cell BK409.out 0).trans rfl
                    have hcz87_1 : w71.cell? ⟨gb409, 1, none⟩ = some (.int .i64 t405) := (blk_cell BK409.out 1).trans rfl
                    have hcz87_2 : w71.cell? ⟨gb409, 2, none⟩ = some (.string t406) := (blk_cell BK409.out 2).trans rfl
                    have hcz87_3 : w71.cell? ⟨gb409, 3, none⟩ = some (.bool t407) := (blk_cell BK409.out 3).trans rfl
                    have hfz87_0 := blk_frozen BK409.out 0
                    have hfz87_1 := blk_frozen BK409.out 1
                    have hfz87_2 := blk_frozen BK409.out 2
                    have hfz87_3 := blk_frozen BK409.out 3
                    go_wp2
                    refine Met.intro ?_
                    go_step
                    (repeat apply Exists.intro)
                    refine ⟨?rel, ?frm⟩
                    case frm => first | rfl | (simp only [c7b0, c7b1, c38b0, c79b0, c80b0, c81b0]; rfl) | (simp only [c7b0, c7b1, c38b0, c79b0, c80b0, c81b0]; first | done | rfl)
                    case rel => exact ⟨_, (true), (by first | rfl | (simp; done) | (simp [*]; done) | (simp [bne]; done)), H', ⟨by first | omega | exact Nat.le_refl _⟩, ⟨by (with_reducible repeat (first | refine blk_drewN ?_ _ | refine blk_drew ?_ | refine blk_alloc ?_ _)); refine blk_far ?_ NB396_425.out _; (with_reducible repeat (first | refine blk_drewN ?_ _ | refine blk_drew ?_ | refine blk_alloc ?_ _)); refine blk_far ?_ NB396_425.out _; (with_reducible repeat (first | refine blk_drewN ?_ _ | refine blk_drew ?_ | refine blk_alloc ?_ _)); refine blk_far ?_ NB396_425.out _; (with_reducible repeat (first | refine blk_drewN ?_ _ | refine blk_drew ?_ | refine blk_alloc ?_ _)); refine blk_far ?_ NB396_425.out _; (with_reducible repeat (first | refine blk_drewN ?_ _ | refine blk_drew ?_ | refine blk_alloc ?_ _)); exact BK396.out⟩, ⟨by (with_reducible repeat (first | refine blk_drewN ?_ _ | refine blk_drew ?_ | refine blk_alloc ?_ _)); refine blk_far ?_ NB397_425.out _; (with_reducible repeat (first | refine blk_drewN ?_ _ | refine blk_drew ?_ | refine blk_alloc ?_ _)); refine blk_far ?_ NB397_425.out _; (with_reducible repeat (first | refine blk_drewN ?_ _ | refine blk_drew ?_ | refine blk_alloc ?_ _)); refine blk_far ?_ NB397_425.out _; (with_reducible repeat (first | refine blk_drewN ?_ _ | refine blk_drew ?_ | refine blk_alloc ?_ _)); refine blk_far ?_ NB397_425.out _; (with_reducible repeat (first | refine blk_drewN ?_ _ | refine blk_drew ?_ | refine blk_alloc ?_ _)); exact BK397.out⟩, ⟨by (with_reducible repeat (first | refine blk_drewN ?_ _ | refine blk_drew ?_ | refine blk_alloc ?_ _)); refine blk_far ?_ NB403_425.out _; (with_reducible repeat (first | refine blk_drewN ?_ _ | refine blk_drew ?_ | refine blk_alloc ?_ _)); refine blk_far ?_ NB403_425.out _; (with_reducible repeat (first | refine blk_drewN ?_ _ | refine blk_drew ?_ | refine blk_alloc ?_ _)); refine blk_far ?_ NB403_425.out _; (with_reducible repeat (first | refine blk_drewN ?_ _ | refine blk_drew ?_ | refine blk_alloc ?_ _)); refine blk_far ?_ NB403_425.out _; (with_reducible repeat (first | refine blk_drewN ?_ _ | refine blk_drew ?_ | refine blk_alloc ?_ _)); exact BK403.out⟩, ⟨by (with_reducible repeat (first | refine blk_drewN ?_ _ | refine blk_drew ?_ | refine blk_alloc ?_ _)); refine blk_far ?_ NB409_425.out _; (with_reducible repeat (first | refine blk_drewN ?_ _ | refine blk_drew ?_ | refine blk_alloc ?_ _)); refine blk_far ?_ NB409_425.out _; (with_reducible repeat (first | refine blk_drewN ?_ _ | refine blk_drew ?_ | refine blk_alloc ?_ _)); refine blk_far ?_ NB409_425.out _; (with_reducible repeat (first | refine blk_drewN ?_ _ | refine blk_drew ?_ | refine blk_alloc ?_ _)); refine blk_far ?_ NB409_425.out _; (with_reducible repeat (first | refine blk_drewN ?_ _ | refine blk_drew ?_ | refine blk_alloc ?_ _)); exact BK409.out⟩, ⟨by (with_reducible repeat (first | refine blk_drewN ?_ _ | refine blk_drew ?_ | refine blk_alloc ?_ _)); refine blk_far ?_ NB419_425.out _; (with_reducible repeat (first | refine blk_drewN ?_ _ | refine blk_drew ?_ | refine blk_alloc ?_ _)); refine blk_far ?_ NB419_425.out _; (with_reducible repeat (first | refine blk_drewN ?_ _ | refine blk_drew ?_ | refine blk_alloc ?_ _)); refine blk_far ?_ NB419_425.out _; (with_reducible repeat (first | refine blk_drewN ?_ _ | refine blk_drew ?_ | refine blk_alloc ?_ _)); refine blk_far ?_ NB419_425.out _; (with_reducible repeat (first | refine blk_drewN ?_ _ | refine blk_drew ?_ | refine blk_alloc ?_ _)); exact BK419.out⟩, ⟨by (with_reducible repeat (first | refine blk_drewN ?_ _ | refine blk_drew ?_ | refine blk_alloc ?_ _)); refine blk_put (cs := #[.int .i64 t420, .int .i64 t421, .string t422, .bool false]) ?_ 3 _ rfl; (with_reducible repeat (first | refine blk_drewN ?_ _ | refine blk_drew ?_ | refine blk_alloc ?_ _)); refine blk_put (cs := #[.int .i64 t420, .int .i64 t421, .string (⟨#[]⟩ : ByteArray), .bool false]) ?_ 2 _ rfl; (with_reducible repeat (first | refine blk_drewN ?_ _ | refine blk_drew ?_ | refine blk_alloc ?_ _)); refine blk_put (cs := #[.int .i64 t420, .int .i64 0, .string (⟨#[]⟩ : ByteArray), .bool false]) ?_ 1 _ rfl; (with_reducible repeat (first | refine blk_drewN ?_ _ | refine blk_drew ?_ | refine blk_alloc ?_ _)); refine blk_put (cs := #[.int .i64 0, .int .i64 0, .string (⟨#[]⟩ : ByteArray), .bool false]) ?_ 0 _ rfl; (with_reducible repeat (first | refine blk_drewN ?_ _ | refine blk_drew ?_ | refine blk_alloc ?_ _)); exact BK425.out⟩, ⟨by repeat (first | (with_reducible first | exact HB.out | apply below_alloc | apply pw_below_drewN | apply below_drew1 | refine below_set ?_ GE396.out | refine below_set ?_ GE397.out | refine below_set ?_ GE403.out | refine below_set ?_ GE409.out | refine below_set ?_ GE419.out | refine below_set ?_ GE425.out) | exact HB.out)⟩⟩
                  · rw [if_neg c81] at H
                    have c81b0 : decide (a1 < t405) = false := decide_eq_false c81
                    clear c81
                    by_cases c88 : a1 > 0
                    · rw [if_pos c88] at H
                      exact absurd H (by simp)
                    · rw [if_neg c88] at H
                      have c88b0 : decide (0 < a1) = false := decide_eq_false c88
                      clear c88
                      by_cases c89 : a1 = (-9223372036854775808)
                      · rw [if_pos c89] at H
                        have c89b0 : (a1 == (-9223372036854775808)) = true := beq_iff_eq.mpr c89
                        have c89b1 : (a1 != (-9223372036854775808)) = false := bne_eq_false_iff_eq.mpr c89
                        clear c89
                        have H' := Aside0.mk H
                        clear H
                        have hnb90 := NB409_396.out
                        have hnc90 := NB396_409.out
                        have hnb91 := NB409_397.out
                        have hnc91 := NB397_409.out
                        have hnb92 := NB409_403.out
                        have hnc92 := NB403_409.out
                        have hnb93 := NB409_419.out
                        have hnc93 := NB419_409.out
                        have hnb94 := NB409_425.out
                        have hnc94 := NB425_409.out
                        have hcz95_0 : w71.cell? ⟨gb409, 0, none⟩ = some (.int .i64 t404) := (blk_cell BK409.out 0).trans rfl
                        have hcz95_1 : w71.cell? ⟨gb409, 1, none⟩ = some (.int .i64 t405) := (blk_cell BK409.out 1).trans rfl
                        have hcz95_2 : w71.cell? ⟨gb409, 2, none⟩ = some (.string t406) := (blk_cell BK409.out 2).trans rfl
                        have hcz95_3 : w71.cell? ⟨gb409, 3, none⟩ = some (.bool t407) := (blk_cell BK409.out 3).trans rfl
                        have hfz95_0 := blk_frozen BK409.out 0
                        have hfz95_1 := blk_frozen BK409.out 1
                        have hfz95_2 := blk_frozen BK409.out 2
                        have hfz95_3 := blk_frozen BK409.out 3
                        go_wp2
                        refine Met.intro ?_
                        go_step
                        (repeat apply Exists.intro)
                        refine ⟨?rel, ?frm⟩
                        case frm => first | rfl | (simp only [c7b0, c7b1, c38b0, c79b0, c80b0, c81b0, c88b0, c89b0, c89b1]; rfl) | (simp only [c7b0, c7b1, c38b0, c79b0, c80b0, c81b0, c88b0, c89b0, c89b1]; first | done | rfl)
                        case rel => exact ⟨_, (true), (by first | rfl | (simp; done) | (simp [*]; done) | (simp [bne]; done)), H', ⟨by first | omega | exact Nat.le_refl _⟩, ⟨by (with_reducible repeat (first | refine blk_drewN ?_ _ | refine blk_drew ?_ | refine blk_alloc ?_ _)); refine blk_far ?_ NB396_425.out _; (with_reducible repeat (first | refine blk_drewN ?_ _ | refine blk_drew ?_ | refine blk_alloc ?_ _)); refine blk_far ?_ NB396_425.out _; (with_reducible repeat (first | refine blk_drewN ?_ _ | refine blk_drew ?_ | refine blk_alloc ?_ _)); refine blk_far ?_ NB396_425.out _; (with_reducible repeat (first | refine blk_drewN ?_ _ | refine blk_drew ?_ | refine blk_alloc ?_ _)); refine blk_far ?_ NB396_425.out _; (with_reducible repeat (first | refine blk_drewN ?_ _ | refine blk_drew ?_ | refine blk_alloc ?_ _)); exact BK396.out⟩, ⟨by (with_reducible repeat (first | refine blk_drewN ?_ _ | refine blk_drew ?_ | refine blk_alloc ?_ _)); refine blk_far ?_ NB397_425.out _; (with_reducible repeat (first | refine blk_drewN ?_ _ | refine blk_drew ?_ | refine blk_alloc ?_ _)); refine blk_far ?_ NB397_425.out _; (with_reducible repeat (first | refine blk_drewN ?_ _ | refine blk_drew ?_ | refine blk_alloc ?_ _)); refine blk_far ?_ NB397_425.out _; (with_reducible repeat (first | refine blk_drewN ?_ _ | refine blk_drew ?_ | refine blk_alloc ?_ _)); refine blk_far ?_ NB397_425.out _; (with_reducible repeat (first | refine blk_drewN ?_ _ | refine blk_drew ?_ | refine blk_alloc ?_ _)); exact BK397.out⟩, ⟨by (with_reducible repeat (first | refine blk_drewN ?_ _ | refine blk_drew ?_ | refine blk_alloc ?_ _)); refine blk_far ?_ NB403_425.out _; (with_reducible repeat (first | refine blk_drewN ?_ _ | refine blk_drew ?_ | refine blk_alloc ?_ _)); refine blk_far ?_ NB403_425.out _; (with_reducible repeat (first | refine blk_drewN ?_ _ | refine blk_drew ?_ | refine blk_alloc ?_ _)); refine blk_far ?_ NB403_425.out _; (with_reducible repeat (first | refine blk_drewN ?_ _ | refine blk_drew ?_ | refine blk_alloc ?_ _)); refine blk_far ?_ NB403_425.out _; (with_reducible repeat (first | refine blk_drewN ?_ _ | refine blk_drew ?_ | refine blk_alloc ?_ _)); exact BK403.out⟩, ⟨by (with_reducible repeat (first | refine blk_drewN ?_ _ | refine blk_drew ?_ | refine blk_alloc ?_ _)); refine blk_far ?_ NB409_425.out _; (with_reducible repeat (first | refine blk_drewN ?_ _ | refine blk_drew ?_ | refine blk_alloc ?_ _)); refine blk_far ?_ NB409_425.out _; (with_reducible repeat (first | refine blk_drewN ?_ _ | refine blk_drew ?_ | refine blk_alloc ?_ _)); refine blk_far ?_ NB409_425.out _; (with_reducible repeat (first | refine blk_drewN ?_ _ | refine blk_drew ?_ | refine blk_alloc ?_ _)); refine blk_far ?_ NB409_425.out _; (with_reducible repeat (first | refine blk_drewN ?_ _ | refine blk_drew ?_ | refine blk_alloc ?_ _)); exact BK409.out⟩, ⟨by (with_reducible repeat (first | refine blk_drewN ?_ _ | refine blk_drew ?_ | refine blk_alloc ?_ _)); refine blk_far ?_ NB419_425.out _; (with_reducible repeat (first | refine blk_drewN ?_ _ | refine blk_drew ?_ | refine blk_alloc ?_ _)); refine blk_far ?_ NB419_425.out _; (with_reducible repeat (first | refine blk_drewN ?_ _ | refine blk_drew ?_ | refine blk_alloc ?_ _)); refine blk_far ?_ NB419_425.out _; (with_reducible repeat (first | refine blk_drewN ?_ _ | refine blk_drew ?_ | refine blk_alloc ?_ _)); refine blk_far ?_ NB419_425.out _; (with_reducible repeat (first | refine blk_drewN ?_ _ | refine blk_drew ?_ | refine blk_alloc ?_ _)); exact BK419.out⟩, ⟨by (with_reducible repeat (first | refine blk_drewN ?_ _ | refine blk_drew ?_ | refine blk_alloc ?_ _)); refine blk_put (cs := #[.int .i64 t420, .int .i64 t421, .string t422, .bool false]) ?_ 3 _ rfl; (with_reducible repeat (first | refine blk_drewN ?_ _ | refine blk_drew ?_ | refine blk_alloc ?_ _)); refine blk_put (cs := #[.int .i64 t420, .int .i64 t421, .string (⟨#[]⟩ : ByteArray), .bool false]) ?_ 2 _ rfl; (with_reducible repeat (first | refine blk_drewN ?_ _ | refine blk_drew ?_ | refine blk_alloc ?_ _)); refine blk_put (cs := #[.int .i64 t420, .int .i64 0, .string (⟨#[]⟩ : ByteArray), .bool false]) ?_ 1 _ rfl; (with_reducible repeat (first | refine blk_drewN ?_ _ | refine blk_drew ?_ | refine blk_alloc ?_ _)); refine blk_put (cs := #[.int .i64 0, .int .i64 0, .string (⟨#[]⟩ : ByteArray), .bool false]) ?_ 0 _ rfl; (with_reducible repeat (first | refine blk_drewN ?_ _ | refine blk_drew ?_ | refine blk_alloc ?_ _)); exact BK425.out⟩, ⟨by repeat (first | (with_reducible first | exact HB.out | apply below_alloc | apply pw_below_drewN | apply below_drew1 | refine below_set ?_ GE396.out | refine below_set ?_ GE397.out | refine below_set ?_ GE403.out | refine below_set ?_ GE409.out | refine below_set ?_ GE419.out | refine below_set ?_ GE425.out) | exact HB.out)⟩⟩
                      · rw [if_neg c89] at H
                        exact absurd H (by simp)
                · rw [if_neg c80] at H
                  have c80b0 : decide (a1 < 0) = false := decide_eq_false c80
                  clear c80
                  by_cases c96 : a1 > 0
                  · rw [if_pos c96] at H
                    have c96b0 : decide (0 < a1) = true := decide_eq_true c96
                    clear c96
                    by_cases c97 : t405 > (wrap64 (-a1))
                    · rw [if_pos c97] at H
                      have c97b0 : decide ((wrap64 (-a1)) < t405) = true := decide_eq_true c97
                      clear c97
                      have H' := Aside0.mk H
                      clear H
                      have hnb98 := NB409_396.out
                      have hnc98 := NB396_409.out
                      have hnb99 := NB409_397.out
                      have hnc99 := NB397_409.out
                      have hnb100 := NB409_403.out
                      have hnc100 := NB403_409.out
                      have hnb101 := NB409_419.out
                      have hnc101 := NB419_409.out
                      have hnb102 := NB409_425.out
                      have hnc102 := NB425_409.out
                      have hcz103_0 : w71.cell? ⟨gb409, 0, none⟩ = some (.int .i64 t404) := (blk_cell BK409.out 0).trans rfl
                      have hcz103_1 : w71.cell? ⟨gb409, 1, none⟩ = some (.int .i64 t405) := (blk_cell BK409.out 1).trans rfl
                      have hcz103_2 : w71.cell? ⟨gb409, 2, none⟩ = some (.string t406) := (blk_cell BK409.out 2).trans rfl
                      have hcz103_3 : w71.cell? ⟨gb409, 3, none⟩ = some (.bool t407) := (blk_cell BK409.out 3).trans rfl
                      have hfz103_0 := blk_frozen BK409.out 0
                      have hfz103_1 := blk_frozen BK409.out 1
                      have hfz103_2 := blk_frozen BK409.out 2
                      have hfz103_3 := blk_frozen BK409.out 3
                      go_wp2
                      refine Met.intro ?_
                      go_step
                      (repeat apply Exists.intro)
                      refine ⟨?rel, ?frm⟩
                      case frm => first | rfl | (simp only [c7b0, c7b1, c38b0, c79b0, c80b0, c96b0, c97b0]; rfl) | (simp only [c7b0, c7b1, c38b0, c79b0, c80b0, c96b0, c97b0]; first | done | rfl)
                      case rel => exact ⟨_, (true), (by first | rfl | (simp; done) | (simp [*]; done) | (simp [bne]; done)), H', ⟨by first | omega | exact Nat.le_refl _⟩, ⟨by (with_reducible repeat (first | refine blk_drewN ?_ _ | refine blk_drew ?_ | refine blk_alloc ?_ _)); refine blk_far ?_ NB396_425.out _; (with_reducible repeat (first | refine blk_drewN ?_ _ | refine blk_drew ?_ | refine blk_alloc ?_ _)); refine blk_far ?_ NB396_425.out _; (with_reducible repeat (first | refine blk_drewN ?_ _ | refine blk_drew ?_ | refine blk_alloc ?_ _)); refine blk_far ?_ NB396_425.out _; (with_reducible repeat (first | refine blk_drewN ?_ _ | refine blk_drew ?_ | refine blk_alloc ?_ _)); refine blk_far ?_ NB396_425.out _; (with_reducible repeat (first | refine blk_drewN ?_ _ | refine blk_drew ?_ | refine blk_alloc ?_ _)); exact BK396.out⟩, ⟨by (with_reducible repeat (first | refine blk_drewN ?_ _ | refine blk_drew ?_ | refine blk_alloc ?_ _)); refine blk_far ?_ NB397_425.out _; (with_reducible repeat (first | refine blk_drewN ?_ _ | refine blk_drew ?_ | refine blk_alloc ?_ _)); refine blk_far ?_ NB397_425.out _; (with_reducible repeat (first | refine blk_drewN ?_ _ | refine blk_drew ?_ | refine blk_alloc ?_ _)); refine blk_far ?_ NB397_425.out _; (with_reducible repeat (first | refine blk_drewN ?_ _ | refine blk_drew ?_ | refine blk_alloc ?_ _)); refine blk_far ?_ NB397_425.out _; (with_reducible repeat (first | refine blk_drewN ?_ _ | refine blk_drew ?_ | refine blk_alloc ?_ _)); exact BK397.out⟩, ⟨by (with_reducible repeat (first | refine blk_drewN ?_ _ | refine blk_drew ?_ | refine blk_alloc ?_ _)); refine blk_far ?_ NB403_425.out _; (with_reducible repeat (first | refine blk_drewN ?_ _ | refine blk_drew ?_ | refine blk_alloc ?_ _)); refine blk_far ?_ NB403_425.out _; (with_reducible repeat (first | refine blk_drewN ?_ _ | refine blk_drew ?_ | refine blk_alloc ?_ _)); refine blk_far ?_ NB403_425.out _; (with_reducible repeat (first | refine blk_drewN ?_ _ | refine blk_drew ?_ | refine blk_alloc ?_ _)); refine blk_far ?_ NB403_425.out _; (with_reducible repeat (first | refine blk_drewN ?_ _ | refine blk_drew ?_ | refine blk_alloc ?_ _)); exact BK403.out⟩, ⟨by (with_reducible repeat (first | refine blk_drewN ?_ _ | refine blk_drew ?_ | refine blk_alloc ?_ _)); refine blk_far ?_ NB409_425.out _; (with_reducible repeat (first | refine blk_drewN ?_ _ | refine blk_drew ?_ | refine blk_alloc ?_ _)); refine blk_far ?_ NB409_425.out _; (with_reducible repeat (first | refine blk_drewN ?_ _ | refine blk_drew ?_ | refine blk_alloc ?_ _)); refine blk_far ?_ NB409_425.out _; (with_reducible repeat (first | refine blk_drewN ?_ _ | refine blk_drew ?_ | refine blk_alloc ?_ _)); refine blk_far ?_ NB409_425.out _; (with_reducible repeat (first | refine blk_drewN ?_ _ | refine blk_drew ?_ | refine blk_alloc ?_ _)); exact BK409.out⟩, ⟨by (with_reducible repeat (first | refine blk_drewN ?_ _ | refine blk_drew ?_ | refine blk_alloc ?_ _)); refine blk_far ?_ NB419_425.out _; (with_reducible repeat (first | refine blk_drewN ?_ _ | refine blk_drew ?_ | refine blk_alloc ?_ _)); refine blk_far ?_ NB419_425.out _; (with_reducible repeat (first | refine blk_drewN ?_ _ | refine blk_drew ?_ | refine blk_alloc ?_ _)); refine blk_far ?_ NB419_425.out _; (with_reducible repeat (first | refine blk_drewN ?_ _ | refine blk_drew ?_ | refine blk_alloc ?_ _)); refine blk_far ?_ NB419_425.out _; (with_reducible repeat (first | refine blk_drewN ?_ _ | refine blk_drew ?_ | refine blk_alloc ?_ _)); exact BK419.out⟩, ⟨by (with_reducible repeat (first | refine blk_drewN ?_ _ | refine blk_drew ?_ | refine blk_alloc ?_ _)); refine blk_put (cs := #[.int .i64 t420, .int .i64 t421, .string t422, .bool false]) ?_ 3 _ rfl; (with_reducible repeat (first | refine blk_drewN ?_ _ | refine blk_drew ?_ | refine blk_alloc ?_ _)); refine blk_put (cs := #[.int .i64 t420, .int .i64 t421, .string (⟨#[]⟩ : ByteArray), .bool false]) ?_ 2 _ rfl; (with_reducible repeat (first | refine blk_drewN ?_ _ | refine blk_drew ?_ | refine blk_alloc ?_ _)); refine blk_put (cs := #[.int .i64 t420, .int .i64 0, .string (⟨#[]⟩ : ByteArray), .bool false]) ?_ 1 _ rfl; (with_reducible repeat (first | refine blk_drewN ?_ _ | refine blk_drew ?_ | refine blk_alloc ?_ _)); refine blk_put (cs := #[.int .i64 0, .int .i64 0, .string (⟨#[]⟩ : ByteArray), .bool false]) ?_ 0 _ rfl; (with_reducible repeat (first | refine blk_drewN ?_ _ | refine blk_drew ?_ | refine blk_alloc ?_ _)); exact BK425.out⟩, ⟨by repeat (first | (with_reducible first | exact HB.out | apply below_alloc | apply pw_below_drewN | apply below_drew1 | refine below_set ?_ GE396.out | refine below_set ?_ GE397.out | refine below_set ?_ GE403.out | refine below_set ?_ GE409.out | refine below_set ?_ GE419.out | refine below_set ?_ GE425.out) | exact HB.out)⟩⟩
                    · rw [if_neg c97] at H
                      exact absurd H (by simp)
                  · rw [if_neg c96] at H
                    exact absurd H (by simp)
              · rw [if_neg c79] at H
                have c79b0 : decide (t405 < 0) = false := decide_eq_false c79
                clear c79
                (first | rw [c79b0] | (simp only [i64_w, i32_w]; rw [c79b0]) | skip)
                by_cases c104 : t405 ≥ 0
                · rw [if_pos c104] at H
                  have c104b0 : decide (0 ≤ t405) = true := decide_eq_true c104
                  clear c104
                  by_cases c105 : a1 > 0
                  · rw [if_pos c105] at H
                    have c105b0 : decide (0 < a1) = true := decide_eq_true c105
                    clear c105
                    by_cases c106 : t405 < a1
                    · rw [if_pos c106] at H
                      have c106b0 : decide (t405 < a1) = true := decide_eq_true c106
                      clear c106
                      have H' := Aside0.mk H
                      clear H
                      have hnb107 := NB409_396.out
                      have hnc107 := NB396_409.out
                      have hnb108 := NB409_397.out
                      have hnc108 := NB397_409.out
                      have hnb109 := NB409_403.out
                      have hnc109 := NB403_409.out
                      have hnb110 := NB409_419.out
                      have hnc110 := NB419_409.out
                      have hnb111 := NB409_425.out
                      have hnc111 := NB425_409.out
                      have hcz112_0 : w71.cell? ⟨gb409, 0, none⟩ = some (.int .i64 t404) := (blk_cell BK409.out 0).trans rfl
                      have hcz112_1 : w71.cell? ⟨gb409, 1, none⟩ = some (.int .i64 t405) := (blk_cell BK409.out 1).trans rfl
                      have hcz112_2 : w71.cell? ⟨gb409, 2, none⟩ = some (.string t406) := (blk_cell BK409.out 2).trans rfl
                      have hcz112_3 : w71.cell? ⟨gb409, 3, none⟩ = some (.bool t407) := (blk_cell BK409.out 3).trans rfl
                      have hfz112_0 := blk_frozen BK409.out 0
                      have hfz112_1 := blk_frozen BK409.out 1
                      have hfz112_2 := blk_frozen BK409.out 2
                      have hfz112_3 := blk_frozen BK409.out 3
                      go_wp2
                      refine Met.intro ?_
                      go_step
                      (repeat apply Exists.intro)
                      refine ⟨?rel, ?frm⟩
                      case frm => first | rfl | (simp only [c7b0, c7b1, c38b0, c79b0, c104b0, c105b0, c106b0]; rfl) | (simp only [c7b0, c7b1, c38b0, c79b0, c104b0, c105b0, c106b0]; first | done | rfl)
                      case rel => exact ⟨_, (true), (by first | rfl | (simp; done) | (simp [*]; done) | (simp [bne]; done)), H', ⟨by first | omega | exact Nat.le_refl _⟩, ⟨by (with_reducible repeat (first | refine blk_drewN ?_ _ | refine blk_drew ?_ | refine blk_alloc ?_ _)); refine blk_far ?_ NB396_425.out _; (with_reducible repeat (first | refine blk_drewN ?_ _ | refine blk_drew ?_ | refine blk_alloc ?_ _)); refine blk_far ?_ NB396_425.out _; (with_reducible repeat (first | refine blk_drewN ?_ _ | refine blk_drew ?_ | refine blk_alloc ?_ _)); refine blk_far ?_ NB396_425.out _; (with_reducible repeat (first | refine blk_drewN ?_ _ | refine blk_drew ?_ | refine blk_alloc ?_ _)); refine blk_far ?_ NB396_425.out _; (with_reducible repeat (first | refine blk_drewN ?_ _ | refine blk_drew ?_ | refine blk_alloc ?_ _)); exact BK396.out⟩, ⟨by (with_reducible repeat (first | refine blk_drewN ?_ _ | refine blk_drew ?_ | refine blk_alloc ?_ _)); refine blk_far ?_ NB397_425.out _; (with_reducible repeat (first | refine blk_drewN ?_ _ | refine blk_drew ?_ | refine blk_alloc ?_ _)); refine blk_far ?_ NB397_425.out _; (with_reducible repeat (first | refine blk_drewN ?_ _ | refine blk_drew ?_ | refine blk_alloc ?_ _)); refine blk_far ?_ NB397_425.out _; (with_reducible repeat (first | refine blk_drewN ?_ _ | refine blk_drew ?_ | refine blk_alloc ?_ _)); refine blk_far ?_ NB397_425.out _; (with_reducible repeat (first | refine blk_drewN ?_ _ | refine blk_drew ?_ | refine blk_alloc ?_ _)); exact BK397.out⟩, ⟨by (with_reducible repeat (first | refine blk_drewN ?_ _ | refine blk_drew ?_ | refine blk_alloc ?_ _)); refine blk_far ?_ NB403_425.out _; (with_reducible repeat (first | refine blk_drewN ?_ _ | refine blk_drew ?_ | refine blk_alloc ?_ _)); refine blk_far ?_ NB403_425.out _; (with_reducible repeat (first | refine blk_drewN ?_ _ | refine blk_drew ?_ | refine blk_alloc ?_ _)); refine blk_far ?_ NB403_425.out _; (with_reducible repeat (first | refine blk_drewN ?_ _ | refine blk_drew ?_ | refine blk_alloc ?_ _)); refine blk_far ?_ NB403_425.out _; (with_reducible repeat (first | refine blk_drewN ?_ _ | refine blk_drew ?_ | refine blk_alloc ?_ _)); exact BK403.out⟩, ⟨by (with_reducible repeat (first | refine blk_drewN ?_ _ | refine blk_drew ?_ | refine blk_alloc ?_ _)); refine blk_far ?_ NB409_425.out _; (with_reducible repeat (first | refine blk_drewN ?_ _ | refine blk_drew ?_ | refine blk_alloc ?_ _)); refine blk_far ?_ NB409_425.out _; (with_reducible repeat (first | refine blk_drewN ?_ _ | refine blk_drew ?_ | refine blk_alloc ?_ _)); refine blk_far ?_ NB409_425.out _; (with_reducible repeat (first | refine blk_drewN ?_ _ | refine blk_drew ?_ | refine blk_alloc ?_ _)); refine blk_far ?_ NB409_425.out _; (with_reducible repeat (first | refine blk_drewN ?_ _ | refine blk_drew ?_ | refine blk_alloc ?_ _)); exact BK409.out⟩, ⟨by (with_reducible repeat (first | refine blk_drewN ?_ _ | refine blk_drew ?_ | refine blk_alloc ?_ _)); refine blk_far ?_ NB419_425.out _; (with_reducible repeat (first | refine blk_drewN ?_ _ | refine blk_drew ?_ | refine blk_alloc ?_ _)); refine blk_far ?_ NB419_425.out _; (with_reducible repeat (first | refine blk_drewN ?_ _ | refine blk_drew ?_ | refine blk_alloc ?_ _)); refine blk_far ?_ NB419_425.out _; (with_reducible repeat (first | refine blk_drewN ?_ _ | refine blk_drew ?_ | refine blk_alloc ?_ _)); refine blk_far ?_ NB419_425.out _; (with_reducible repeat (first | refine blk_drewN ?_ _ | refine blk_drew ?_ | refine blk_alloc ?_ _)); exact BK419.out⟩, ⟨by (with_reducible repeat (first | refine blk_drewN ?_ _ | refine blk_drew ?_ | refine blk_alloc ?_ _)); refine blk_put (cs := #[.int .i64 t420, .int .i64 t421, .string t422, .bool false]) ?_ 3 _ rfl; (with_reducible repeat (first | refine blk_drewN ?_ _ | refine blk_drew ?_ | refine blk_alloc ?_ _)); refine blk_put (cs := #[.int .i64 t420, .int .i64 t421, .string (⟨#[]⟩ : ByteArray), .bool false]) ?_ 2 _ rfl; (with_reducible repeat (first | refine blk_drewN ?_ _ | refine blk_drew ?_ | refine blk_alloc ?_ _)); refine blk_put (cs := #[.int .i64 t420, .int .i64 0, .string (⟨#[]⟩ : ByteArray), .bool false]) ?_ 1 _ rfl; (with_reducible repeat (first | refine blk_drewN ?_ _ | refine blk_drew ?_ | refine blk_alloc ?_ _)); refine blk_put (cs := #[.int .i64 0, .int .i64 0, .string (⟨#[]⟩ : ByteArray), .bool false]) ?_ 0 _ rfl; (with_reducible repeat (first | refine blk_drewN ?_ _ | refine blk_drew ?_ | refine blk_alloc ?_ _)); exact BK425.out⟩, ⟨by repeat (first | (with_reducible first | exact HB.out | apply below_alloc | apply pw_below_drewN | apply below_drew1 | refine below_set ?_ GE396.out | refine below_set ?_ GE397.out | refine below_set ?_ GE403.out | refine below_set ?_ GE409.out | refine below_set ?_ GE419.out | refine below_set ?_ GE425.out) | exact HB.out)⟩⟩
                    · rw [if_neg c106] at H
                      exact absurd H (by simp)
                  · rw [if_neg c105] at H
                    have c105b0 : decide (0 < a1) = false := decide_eq_false c105
                    clear c105
                    by_cases c113 : a1 < 0
                    · rw [if_pos c113] at H
                      have c113b0 : decide (a1 < 0) = true := decide_eq_true c113
                      clear c113
                      have H' := Aside0.mk H
                      clear H
                      have hnb114 := NB409_396.out
                      have hnc114 := NB396_409.out
                      have hnb115 := NB409_397.out
                      have hnc115 := NB397_409.out
                      have hnb116 := NB409_403.out
                      have hnc116 := NB403_409.out
                      have hnb117 := NB409_419.out
                      have hnc117 := NB419_409.out
                      have hnb118 := NB409_425.out
                      have hnc118 := NB425_409.out
                      have hcz119_0 : w71.cell? ⟨gb409, 0, none⟩ = some (.int .i64 t404) := (blk_cell BK409.out 0).trans rfl
                      have hcz119_1 : w71.cell? ⟨gb409, 1, none⟩ = some (.int .i64 t405) := (blk_cell BK409.out 1).trans rfl
                      have hcz119_2 : w71.cell? ⟨gb409, 2, none⟩ = some (.string t406) := (blk_cell BK409.out 2).trans rfl
                      have hcz119_3 : w71.cell? ⟨gb409, 3, none⟩ = some (.bool t407) := (blk_cell BK409.out 3).trans rfl
                      have hfz119_0 := blk_frozen BK409.out 0
                      have hfz119_1 := blk_frozen BK409.out 1
                      have hfz119_2 := blk_frozen BK409.out 2
                      have hfz119_3 := blk_frozen BK409.out 3
                      go_wp2
                      refine Met.intro ?_
                      go_step
                      (repeat apply Exists.intro)
                      refine ⟨?rel, ?frm⟩
                      case frm => first | rfl | (simp only [c7b0, c7b1, c38b0, c79b0, c104b0, c105b0, c113b0]; rfl) | (simp only [c7b0, c7b1, c38b0, c79b0, c104b0, c105b0, c113b0]; first | done | rfl)
                      case rel => exact ⟨_, (decide ((wrap64 (-t405)) > a1)), (by first | rfl | (simp; done) | (simp [*]; done) | (simp [bne]; done)), H', ⟨by first | omega | exact Nat.le_refl _⟩, ⟨by (with_reducible repeat (first | refine blk_drewN ?_ _ | refine blk_drew ?_ | refine blk_alloc ?_ _)); refine blk_far ?_ NB396_425.out _; (with_reducible repeat (first | refine blk_drewN ?_ _ | refine blk_drew ?_ | refine blk_alloc ?_ _)); refine blk_far ?_ NB396_425.out _; (with_reducible repeat (first | refine blk_drewN ?_ _ | refine blk_drew ?_ | refine blk_alloc ?_ _)); refine blk_far ?_ NB396_425.out _; (with_reducible repeat (first | refine blk_drewN ?_ _ | refine blk_drew ?_ | refine blk_alloc ?_ _)); refine blk_far ?_ NB396_425.out _; (with_reducible repeat (first | refine blk_drewN ?_ _ | refine blk_drew ?_ | refine blk_alloc ?_ _)); exact BK396.out⟩, ⟨by (with_reducible repeat (first | refine blk_drewN ?_ _ | refine blk_drew ?_ | refine blk_alloc ?_ _)); refine blk_far ?_ NB397_425.out _; (with_reducible repeat (first | refine blk_drewN ?_ _ | refine blk_drew ?_ | refine blk_alloc ?_ _)); refine blk_far ?_ NB397_425.out _; (with_reducible repeat (first | refine blk_drewN ?_ _ | refine blk_drew ?_ | refine blk_alloc ?_ _)); refine blk_far ?_ NB397_425.out _; (with_reducible repeat (first | refine blk_drewN ?_ _ | refine blk_drew ?_ | refine blk_alloc ?_ _)); refine blk_far ?_ NB397_425.out _; (with_reducible repeat (first | refine blk_drewN ?_ _ | refine blk_drew ?_ | refine blk_alloc ?_ _)); exact BK397.out⟩, ⟨by (with_reducible repeat (first | refine blk_drewN ?_ _ | refine blk_drew ?_ | refine blk_alloc ?_ _)); refine blk_far ?_ NB403_425.out _; (with_reducible repeat (first | refine blk_drewN ?_ _ | refine blk_drew ?_ | refine blk_alloc ?_ _)); refine blk_far ?_ NB403_425.out _; (with_reducible repeat (first | refine blk_drewN ?_ _ | refine blk_drew ?_ | refine blk_alloc ?_ _)); refine blk_far ?_ NB403_425.out _; (with_reducible repeat (first | refine blk_drewN ?_ _ | refine blk_drew ?_ | refine blk_alloc ?_ _)); refine blk_far ?_ NB403_425.out _; (with_reducible repeat (first | refine blk_drewN ?_ _ | refine blk_drew ?_ | refine blk_alloc ?_ _)); exact BK403.out⟩, ⟨by (with_reducible repeat (first | refine blk_drewN ?_ _ | refine blk_drew ?_ | refine blk_alloc ?_ _)); refine blk_far ?_ NB409_425.out _; (with_reducible repeat (first | refine blk_drewN ?_ _ | refine blk_drew ?_ | refine blk_alloc ?_ _)); refine blk_far ?_ NB409_425.out _; (with_reducible repeat (first | refine blk_drewN ?_ _ | refine blk_drew ?_ | refine blk_alloc ?_ _)); refine blk_far ?_ NB409_425.out _; (with_reducible repeat (first | refine blk_drewN ?_ _ | refine blk_drew ?_ | refine blk_alloc ?_ _)); refine blk_far ?_ NB409_425.out _; (with_reducible repeat (first | refine blk_drewN ?_ _ | refine blk_drew ?_ | refine blk_alloc ?_ _)); exact BK409.out⟩, ⟨by (with_reducible repeat (first | refine blk_drewN ?_ _ | refine blk_drew ?_ | refine blk_alloc ?_ _)); refine blk_far ?_ NB419_425.out _; (with_reducible repeat (first | refine blk_drewN ?_ _ | refine blk_drew ?_ | refine blk_alloc ?_ _)); refine blk_far ?_ NB419_425.out _; (with_reducible repeat (first | refine blk_drewN ?_ _ | refine blk_drew ?_ | refine blk_alloc ?_ _)); refine blk_far ?_ NB419_425.out _; (with_reducible repeat (first | refine blk_drewN ?_ _ | refine blk_drew ?_ | refine blk_alloc ?_ _)); refine blk_far ?_ NB419_425.out _; (with_reducible repeat (first | refine blk_drewN ?_ _ | refine blk_drew ?_ | refine blk_alloc ?_ _)); exact BK419.out⟩, ⟨by (with_reducible repeat (first | refine blk_drewN ?_ _ | refine blk_drew ?_ | refine blk_alloc ?_ _)); refine blk_put (cs := #[.int .i64 t420, .int .i64 t421, .string t422, .bool false]) ?_ 3 _ rfl; (with_reducible repeat (first | refine blk_drewN ?_ _ | refine blk_drew ?_ | refine blk_alloc ?_ _)); refine blk_put (cs := #[.int .i64 t420, .int .i64 t421, .string (⟨#[]⟩ : ByteArray), .bool false]) ?_ 2 _ rfl; (with_reducible repeat (first | refine blk_drewN ?_ _ | refine blk_drew ?_ | refine blk_alloc ?_ _)); refine blk_put (cs := #[.int .i64 t420, .int .i64 0, .string (⟨#[]⟩ : ByteArray), .bool false]) ?_ 1 _ rfl; (with_reducible repeat (first | refine blk_drewN ?_ _ | refine blk_drew ?_ | refine blk_alloc ?_ _)); refine blk_put (cs := #[.int .i64 0, .int .i64 0, .string (⟨#[]⟩ : ByteArray), .bool false]) ?_ 0 _ rfl; (with_reducible repeat (first | refine blk_drewN ?_ _ | refine blk_drew ?_ | refine blk_alloc ?_ _)); exact BK425.out⟩, ⟨by repeat (first | (with_reducible first | exact HB.out | apply below_alloc | apply pw_below_drewN | apply below_drew1 | refine below_set ?_ GE396.out | refine below_set ?_ GE397.out | refine below_set ?_ GE403.out | refine below_set ?_ GE409.out | refine below_set ?_ GE419.out | refine below_set ?_ GE425.out) | exact HB.out)⟩⟩
                    · rw [if_neg c113] at H
                      exact absurd H (by simp)
                · rw [if_neg c104] at H
                  exact absurd H (by simp)
            case rest =>
              clear HC39
              try clear c1
              try clear c2
              try clear p2
              try clear c3
              try clear c4
              try clear q4
              try clear c5
              try clear c6
              try clear p6
              try clear c7
              try clear c7b0
              try clear c7b1
              try clear c8
              try clear c9
              try clear c9b0
              try clear c9b1
              try clear c10
              try clear c11
              try clear c11b0
              try clear c11b1
              try clear c17
              try clear c22
              try clear c23
              try clear c26
              try clear c28
              try clear c29
              try clear c30
              try clear c31
              try clear c38
              try clear c38b0
              try clear q41
              try clear q42
              try clear c44
              try clear c49
              try clear c50
              try clear c56
              try clear c57
              try clear c58
              try clear c64
              try clear p64
              try clear c65
              try clear c66
              try clear c67
              try clear c72
              try clear c73
              try clear c74
              try clear c75
              try clear c76
              try clear c79
              try clear c79b0
              try clear c80
              try clear c80b0
              try clear c81
              try clear c81b0
              try clear c82
              try clear c83
              try clear c84
              try clear c85
              try clear c86
              try clear c88
              try clear c88b0
              try clear c89
              try clear c89b0
              try clear c89b1
              try clear c90
              try clear c91
              try clear c92
              try clear c93
              try clear c94
              try clear c96
              try clear c96b0
              try clear c97
              try clear c97b0
              try clear c98
              try clear c99
              try clear c100
              try clear c101
              try clear c102
              try clear c104
              try clear c104b0
              try clear c105
              try clear c105b0
              try clear c106
              try clear c106b0
              try clear c107
              try clear c108
              try clear c109
              try clear c110
              try clear c111
              try clear c113
              try clear c113b0
              try clear c114
              try clear c115
              try clear c116
              try clear c117
              try clear c118
              try clear hcz103_0
              try clear hcz103_1
              try clear hcz103_2
              try clear hcz103_3
              try clear hcz112_0
              try clear hcz112_1
              try clear hcz112_2
              try clear hcz112_3
              try clear hcz119_0
              try clear hcz119_1
              try clear hcz119_2
              try clear hcz119_3
              try clear hcz18_0
              try clear hcz18_1
              try clear hcz18_2
              try clear hcz18_3
              try clear hcz19_0
              try clear hcz19_1
              try clear hcz19_2
              try clear hcz19_3
              try clear hcz24_0
              try clear hcz24_1
              try clear hcz24_2
              try clear hcz24_3
              try clear hcz25_0
              try clear hcz25_1
              try clear hcz25_2
              try clear hcz25_3
              try clear hcz26_0
              try clear hcz26_1
              try clear hcz26_2
              try clear hcz26_3
              try clear hcz32_0
              try clear hcz32_1
              try clear hcz32_2
              try clear hcz32_3
              try clear hcz45_0
              try clear hcz45_1
              try clear hcz45_2
              try clear hcz45_3
              try clear hcz46_0
              try clear hcz46_1
              try clear hcz46_2
              try clear hcz46_3
              try clear hcz51_0
              try clear hcz51_1
              try clear hcz51_2
              try clear hcz51_3
              try clear hcz52_0
              try clear hcz52_1
              try clear hcz52_2
              try clear hcz52_3
              try clear hcz53_0
              try clear hcz53_1
              try clear hcz53_2
              try clear hcz53_3
              try clear hcz59_0
              try clear hcz59_1
              try clear hcz59_2
              try clear hcz59_3
              try clear hcz60_0
              try clear hcz60_1
              try clear hcz60_2
              try clear hcz60_3
              try clear hcz61_0
              try clear hcz61_1
              try clear hcz61_2
              try clear hcz61_3
              try clear hcz68_0
              try clear hcz68_1
              try clear hcz68_2
              try clear hcz68_3
              try clear hcz69_0
              try clear hcz69_1
              try clear hcz69_2
              try clear hcz69_3
              try clear hcz77_0
              try clear hcz77_1
              try clear hcz77_2
              try clear hcz77_3
              try clear hcz78_0
              try clear hcz78_1
              try clear hcz78_2
              try clear hcz78_3
              try clear hcz87_0
              try clear hcz87_1
              try clear hcz87_2
              try clear hcz87_3
              try clear hcz95_0
              try clear hcz95_1
              try clear hcz95_2
              try clear hcz95_3
              try clear hfz103_0
              try clear hfz103_1
              try clear hfz103_2
              try clear hfz103_3
              try clear hfz112_0
              try clear hfz112_1
              try clear hfz112_2
              try clear hfz112_3
              try clear hfz119_0
              try clear hfz119_1
              try clear hfz119_2
              try clear hfz119_3
              try clear hfz18_0
              try clear hfz18_1
              try clear hfz18_2
              try clear hfz18_3
              try clear hfz19_0
              try clear hfz19_1
              try clear hfz19_2
              try clear hfz19_3
              try clear hfz24_0
              try clear hfz24_1
              try clear hfz24_2
              try clear hfz24_3
              try clear hfz25_0
              try clear hfz25_1
              try clear hfz25_2
              try clear hfz25_3
              try clear hfz26_0
              try clear hfz26_1
              try clear hfz26_2
              try clear hfz26_3
              try clear hfz32_0
              try clear hfz32_1
              try clear hfz32_2
              try clear hfz32_3
              try clear hfz45_0
              try clear hfz45_1
              try clear hfz45_2
              try clear hfz45_3
              try clear hfz46_0
              try clear hfz46_1
              try clear hfz46_2
              try clear hfz46_3
              try clear hfz51_0
              try clear hfz51_1
              try clear hfz51_2
              try clear hfz51_3
              try clear hfz52_0
              try clear hfz52_1
              try clear hfz52_2
              try clear hfz52_3
              try clear hfz53_0
              try clear hfz53_1
              try clear hfz53_2
              try clear hfz53_3
              try clear hfz59_0
              try clear hfz59_1
              try clear hfz59_2
              try clear hfz59_3
              try clear hfz60_0
              try clear hfz60_1
              try clear hfz60_2
              try clear hfz60_3
              try clear hfz61_0
              try clear hfz61_1
              try clear hfz61_2
              try clear hfz61_3
              try clear hfz68_0
              try clear hfz68_1
              try clear hfz68_2
              try clear hfz68_3
              try clear hfz69_0
              try clear hfz69_1
              try clear hfz69_2
              try clear hfz69_3
              try clear hfz77_0
              try clear hfz77_1
              try clear hfz77_2
              try clear hfz77_3
              try clear hfz78_0
              try clear hfz78_1
              try clear hfz78_2
              try clear hfz78_3
              try clear hfz87_0
              try clear hfz87_1
              try clear hfz87_2
              try clear hfz87_3
              try clear hfz95_0
              try clear hfz95_1
              try clear hfz95_2
              try clear hfz95_3
              try clear q413
              try clear q426
              try clear q427
              obtain ⟨kq, x15_38, rfl, HA, HJ38, BK396, BK397, BK403, BK409, BK419, BK425, HB⟩ := hcut
              cases kq with
              | zero => exact absurd HA.out (by simp [barbicanlaw05_ValueDivides.j0])
              | succ kj38 =>
                have H := HA.out
                clear HA
                simp only [barbicanlaw05_ValueDivides.j0] at H
                have HC120 := Aside0.mk H
                clear H
                go_upto_region 14 with (fail)
                go_cut [158] (fun v158 wc => ∃ (kq : Nat) (x158_119 : Bool), v158 = .bool x158_119 ∧ Aside0 (barbicanlaw05_ValueDivides.j1 kq x158_119 t388 t389 t390 t391 t392 t393 t394 t395 = some r) ∧ Aside0 (kq ≤ kj38) ∧ Aside0 (wc.heap[gb396]? = some (.cells #[.int .i64 t388, .int .i64 t389, .string t390, .bool t391] 38 (0, 0))) ∧ Aside0 (wc.heap[gb397]? = some (.cells #[.int .i64 t392, .int .i64 t393, .string t394, .bool t395] 38 (0, 0))) ∧ Aside0 (wc.heap[gb403]? = some (.cells #[.int .i64 t398, .int .i64 t399, .string t400, .bool t401] 38 (0, 0))) ∧ Aside0 (wc.heap[gb409]? = some (.cells #[.int .i64 t404, .int .i64 t405, .string t406, .bool t407] 38 (0, 0))) ∧ Aside0 (wc.heap[gb419]? = some (.cells #[.int .i64 t414, .int .i64 t415, .string t416, .bool t417] 38 (0, 0))) ∧ Aside0 (wc.heap[gb425]? = some (.cells #[.int .i64 t420, .int .i64 t421, .string t422, .bool t423] 38 (0, 0))) ∧ Aside0 (Below w.heap.size w wc))
                case first =>
                  have H := HC120.out
                  clear HC120
                  rcases t408 with _ | q428
                  · have H1 : (if x15_38 = true then (if t405 > 0 then (if a0 < 0 then (none) else (if t405 < 0 then (none) else (barbicanlaw05_ValueDivides.j1 kj38 false t388 t389 t390 t391 t392 t393 t394 t395))) else (if t405 < 0 then (barbicanlaw05_ValueDivides.j1 kj38 (decide (a0 > 0)) t388 t389 t390 t391 t392 t393 t394 t395) else (barbicanlaw05_ValueDivides.j1 kj38 false t388 t389 t390 t391 t392 t393 t394 t395))) else (none)) = some r := by rw [if_pos (show (none : Option Int).isNone = true by rfl)] at H; exact H
                    clear H
                    have H := H1
                    clear H1
                    try simp only [errW_none, errW_some]
                    by_cases c121 : x15_38 = true
                    · subst c121
                      have H1 : (if t405 > 0 then (if a0 < 0 then (none) else (if t405 < 0 then (none) else (barbicanlaw05_ValueDivides.j1 kj38 false t388 t389 t390 t391 t392 t393 t394 t395))) else (if t405 < 0 then (barbicanlaw05_ValueDivides.j1 kj38 (decide (a0 > 0)) t388 t389 t390 t391 t392 t393 t394 t395) else (barbicanlaw05_ValueDivides.j1 kj38 false t388 t389 t390 t391 t392 t393 t394 t395))) = some r := by rw [if_pos rfl] at H; exact H
                      clear H
                      have H := H1
                      clear H1
                      by_cases c122 : t405 > 0
                      · rw [if_pos c122] at H
                        have c122b0 : decide (0 < t405) = true := decide_eq_true c122
                        clear c122
                        (first | rw [c122b0] | (simp only [i64_w, i32_w]; rw [c122b0]) | skip)
                        by_cases c123 : a0 < 0
                        · rw [if_pos c123] at H
                          exact absurd H (by simp)
                        · rw [if_neg c123] at H
                          have c123b0 : decide (a0 < 0) = false := decide_eq_false c123
                          clear c123
                          by_cases c124 : t405 < 0
                          · rw [if_pos c124] at H
                            exact absurd H (by simp)
                          · rw [if_neg c124] at H
                            have c124b0 : decide (t405 < 0) = false := decide_eq_false c124
                            clear c124
                            have H' := Aside0.mk H
                            clear H
                            have hnb125 := NB409_396.out
                            have hnc125 := NB396_409.out
                            have hnb126 := NB409_397.out
                            have hnc126 := NB397_409.out
                            have hnb127 := NB409_403.out
                            have hnc127 := NB403_409.out
                            have hnb128 := NB409_419.out
                            have hnc128 := NB419_409.out
                            have hnb129 := NB409_425.out
                            have hnc129 := NB425_409.out
                            have hcz130_0 : wc.cell? ⟨gb409, 0, none⟩ = some (.int .i64 t404) := (blk_cell BK409.out 0).trans rfl
                            have hcz130_1 : wc.cell? ⟨gb409, 1, none⟩ = some (.int .i64 t405) := (blk_cell BK409.out 1).trans rfl
                            have hcz130_2 : wc.cell? ⟨gb409, 2, none⟩ = some (.string t406) := (blk_cell BK409.out 2).trans rfl
                            have hcz130_3 : wc.cell? ⟨gb409, 3, none⟩ = some (.bool t407) := (blk_cell BK409.out 3).trans rfl
                            have hfz130_0 := blk_frozen BK409.out 0
                            have hfz130_1 := blk_frozen BK409.out 1
                            have hfz130_2 := blk_frozen BK409.out 2
                            have hfz130_3 := blk_frozen BK409.out 3
                            go_wp2
                            refine Met.intro ?_
                            go_step
                            (repeat apply Exists.intro)
                            refine ⟨?rel, ?frm⟩
                            case frm => first | rfl | (simp only [c7b0, c7b1, c38b0, c122b0, c123b0, c124b0]; rfl) | (simp only [c7b0, c7b1, c38b0, c122b0, c123b0, c124b0]; first | done | rfl)
                            case rel => exact ⟨_, (false), (by first | rfl | (simp; done) | (simp [*]; done) | (simp [bne]; done)), H', ⟨by have := HJ38.out; first | omega | exact Nat.le_refl _⟩, ⟨by (with_reducible repeat (first | refine blk_drewN ?_ _ | refine blk_drew ?_ | refine blk_alloc ?_ _)); exact BK396.out⟩, ⟨by (with_reducible repeat (first | refine blk_drewN ?_ _ | refine blk_drew ?_ | refine blk_alloc ?_ _)); exact BK397.out⟩, ⟨by (with_reducible repeat (first | refine blk_drewN ?_ _ | refine blk_drew ?_ | refine blk_alloc ?_ _)); exact BK403.out⟩, ⟨by (with_reducible repeat (first | refine blk_drewN ?_ _ | refine blk_drew ?_ | refine blk_alloc ?_ _)); exact BK409.out⟩, ⟨by (with_reducible repeat (first | refine blk_drewN ?_ _ | refine blk_drew ?_ | refine blk_alloc ?_ _)); exact BK419.out⟩, ⟨by (with_reducible repeat (first | refine blk_drewN ?_ _ | refine blk_drew ?_ | refine blk_alloc ?_ _)); exact BK425.out⟩, ⟨by repeat (first | (with_reducible first | exact HB.out | apply below_alloc | apply pw_below_drewN | apply below_drew1 | refine below_set ?_ GE396.out | refine below_set ?_ GE397.out | refine below_set ?_ GE403.out | refine below_set ?_ GE409.out | refine below_set ?_ GE419.out | refine below_set ?_ GE425.out) | exact HB.out)⟩⟩
                      · rw [if_neg c122] at H
                        have c122b0 : decide (0 < t405) = false := decide_eq_false c122
                        clear c122
                        (first | rw [c122b0] | (simp only [i64_w, i32_w]; rw [c122b0]) | skip)
                        by_cases c131 : t405 < 0
                        · rw [if_pos c131] at H
                          have c131b0 : decide (t405 < 0) = true := decide_eq_true c131
                          clear c131
                          have H' := Aside0.mk H
                          clear H
                          have hnb132 := NB409_396.out
                          have hnc132 := NB396_409.out
                          have hnb133 := NB409_397.out
                          have hnc133 := NB397_409.out
                          have hnb134 := NB409_403.out
                          have hnc134 := NB403_409.out
                          have hnb135 := NB409_419.out
                          have hnc135 := NB419_409.out
                          have hnb136 := NB409_425.out
                          have hnc136 := NB425_409.out
                          have hcz137_0 : wc.cell? ⟨gb409, 0, none⟩ = some (.int .i64 t404) := (blk_cell BK409.out 0).trans rfl
                          have hcz137_1 : wc.cell? ⟨gb409, 1, none⟩ = some (.int .i64 t405) := (blk_cell BK409.out 1).trans rfl
                          have hcz137_2 : wc.cell? ⟨gb409, 2, none⟩ = some (.string t406) := (blk_cell BK409.out 2).trans rfl
                          have hcz137_3 : wc.cell? ⟨gb409, 3, none⟩ = some (.bool t407) := (blk_cell BK409.out 3).trans rfl
                          have hfz137_0 := blk_frozen BK409.out 0
                          have hfz137_1 := blk_frozen BK409.out 1
                          have hfz137_2 := blk_frozen BK409.out 2
                          have hfz137_3 := blk_frozen BK409.out 3
                          go_wp2
                          refine Met.intro ?_
                          go_step
                          (repeat apply Exists.intro)
                          refine ⟨?rel, ?frm⟩
                          case frm => first | rfl | (simp only [c7b0, c7b1, c38b0, c122b0, c131b0]; rfl) | (simp only [c7b0, c7b1, c38b0, c122b0, c131b0]; first | done | rfl)
                          case rel => exact ⟨_, (decide (a0 > 0)), (by first | rfl | (simp; done) | (simp [*]; done) | (simp [bne]; done)), H', ⟨by have := HJ38.out; first | omega | exact Nat.le_refl _⟩, ⟨by (with_reducible repeat (first | refine blk_drewN ?_ _ | refine blk_drew ?_ | refine blk_alloc ?_ _)); exact BK396.out⟩, ⟨by (with_reducible repeat (first | refine blk_drewN ?_ _ | refine blk_drew ?_ | refine blk_alloc ?_ _)); exact BK397.out⟩, ⟨by (with_reducible repeat (first | refine blk_drewN ?_ _ | refine blk_drew ?_ | refine blk_alloc ?_ _)); exact BK403.out⟩, ⟨by (with_reducible repeat (first | refine blk_drewN ?_ _ | refine blk_drew ?_ | refine blk_alloc ?_ _)); exact BK409.out⟩, ⟨by (with_reducible repeat (first | refine blk_drewN ?_ _ | refine blk_drew ?_ | refine blk_alloc ?_ _)); exact BK419.out⟩, ⟨by (with_reducible repeat (first | refine blk_drewN ?_ _ | refine blk_drew ?_ | refine blk_alloc ?_ _)); exact BK425.out⟩, ⟨by repeat (first | (with_reducible first | exact HB.out | apply below_alloc | apply pw_below_drewN | apply below_drew1 | refine below_set ?_ GE396.out | refine below_set ?_ GE397.out | refine below_set ?_ GE403.out | refine below_set ?_ GE409.out | refine below_set ?_ GE419.out | refine below_set ?_ GE425.out) | exact HB.out)⟩⟩
                        · rw [if_neg c131] at H
                          have c131b0 : decide (t405 < 0) = false := decide_eq_false c131
                          clear c131
                          have H' := Aside0.mk H
                          clear H
                          have hnb138 := NB409_396.out
                          have hnc138 := NB396_409.out
                          have hnb139 := NB409_397.out
                          have hnc139 := NB397_409.out
                          have hnb140 := NB409_403.out
                          have hnc140 := NB403_409.out
                          have hnb141 := NB409_419.out
                          have hnc141 := NB419_409.out
                          have hnb142 := NB409_425.out
                          have hnc142 := NB425_409.out
                          have hcz143_0 : wc.cell? ⟨gb409, 0, none⟩ = some (.int .i64 t404) := (blk_cell BK409.out 0).trans rfl
                          have hcz143_1 : wc.cell? ⟨gb409, 1, none⟩ = some (.int .i64 t405) := (blk_cell BK409.out 1).trans rfl
                          have hcz143_2 : wc.cell? ⟨gb409, 2, none⟩ = some (.string t406) := (blk_cell BK409.out 2).trans rfl
                          have hcz143_3 : wc.cell? ⟨gb409, 3, none⟩ = some (.bool t407) := (blk_cell BK409.out 3).trans rfl
                          have hfz143_0 := blk_frozen BK409.out 0
                          have hfz143_1 := blk_frozen BK409.out 1
                          have hfz143_2 := blk_frozen BK409.out 2
                          have hfz143_3 := blk_frozen BK409.out 3
                          go_wp2
                          refine Met.intro ?_
                          go_step
                          (repeat apply Exists.intro)
                          refine ⟨?rel, ?frm⟩
                          case frm => first | rfl | (simp only [c7b0, c7b1, c38b0, c122b0, c131b0]; rfl) | (simp only [c7b0, c7b1, c38b0, c122b0, c131b0]; first | done | rfl)
                          case rel => exact ⟨_, (false), (by first | rfl | (simp; done) | (simp [*]; done) | (simp [bne]; done)), H', ⟨by have := HJ38.out; first | omega | exact Nat.le_refl _⟩, ⟨by (with_reducible repeat (first | refine blk_drewN ?_ _ | refine blk_drew ?_ | refine blk_alloc ?_ _)); exact BK396.out⟩, ⟨by (with_reducible repeat (first | refine blk_drewN ?_ _ | refine blk_drew ?_ | refine blk_alloc ?_ _)); exact BK397.out⟩, ⟨by (with_reducible repeat (first | refine blk_drewN ?_ _ | refine blk_drew ?_ | refine blk_alloc ?_ _)); exact BK403.out⟩, ⟨by (with_reducible repeat (first | refine blk_drewN ?_ _ | refine blk_drew ?_ | refine blk_alloc ?_ _)); exact BK409.out⟩, ⟨by (with_reducible repeat (first | refine blk_drewN ?_ _ | refine blk_drew ?_ | refine blk_alloc ?_ _)); exact BK419.out⟩, ⟨by (with_reducible repeat (first | refine blk_drewN ?_ _ | refine blk_drew ?_ | refine blk_alloc ?_ _)); exact BK425.out⟩, ⟨by repeat (first | (with_reducible first | exact HB.out | apply below_alloc | apply pw_below_drewN | apply below_drew1 | refine below_set ?_ GE396.out | refine below_set ?_ GE397.out | refine below_set ?_ GE403.out | refine below_set ?_ GE409.out | refine below_set ?_ GE419.out | refine below_set ?_ GE425.out) | exact HB.out)⟩⟩
                    · replace c121 := Bool.eq_false_iff.mpr c121
                      subst c121
                      have H1 : (none) = some r := by rw [if_neg (show ¬ (false = true) by decide)] at H; exact H
                      clear H
                      have H := H1
                      clear H1
                      exact absurd H (by simp)
                  · have H1 : (none) = some r := by rw [if_neg (show ¬ (some q428).isNone = true by simp)] at H; exact H
                    clear H
                    have H := H1
                    clear H1
                    try simp only [errW_none, errW_some]
                    exact absurd H (by simp)
                case rest =>
                  clear HC120
                  try clear c1
                  try clear c2
                  try clear p2
                  try clear c3
                  try clear c4
                  try clear q4
                  try clear c5
                  try clear c6
                  try clear p6
                  try clear c7
                  try clear c7b0
                  try clear c7b1
                  try clear c8
                  try clear c9
                  try clear c9b0
                  try clear c9b1
                  try clear c10
                  try clear c11
                  try clear c11b0
                  try clear c11b1
                  try clear c12
                  try clear c13
                  try clear c14
                  try clear c17
                  try clear c22
                  try clear c23
                  try clear c26
                  try clear c28
                  try clear c29
                  try clear c30
                  try clear c31
                  try clear c38
                  try clear c38b0
                  try clear q41
                  try clear q42
                  try clear c44
                  try clear c49
                  try clear c50
                  try clear c56
                  try clear c57
                  try clear c58
                  try clear c64
                  try clear p64
                  try clear c65
                  try clear c66
                  try clear c67
                  try clear c72
                  try clear c73
                  try clear c74
                  try clear c75
                  try clear c76
                  try clear c79
                  try clear c79b0
                  try clear c80
                  try clear c80b0
                  try clear c81
                  try clear c81b0
                  try clear c82
                  try clear c83
                  try clear c84
                  try clear c85
                  try clear c86
                  try clear c88
                  try clear c88b0
                  try clear c89
                  try clear c89b0
                  try clear c89b1
                  try clear c90
                  try clear c91
                  try clear c92
                  try clear c93
                  try clear c94
                  try clear c96
                  try clear c96b0
                  try clear c97
                  try clear c97b0
                  try clear c98
                  try clear c99
                  try clear c100
                  try clear c101
                  try clear c102
                  try clear c104
                  try clear c104b0
                  try clear c105
                  try clear c105b0
                  try clear c106
                  try clear c106b0
                  try clear c107
                  try clear c108
                  try clear c109
                  try clear c110
                  try clear c111
                  try clear c113
                  try clear c113b0
                  try clear c114
                  try clear c115
                  try clear c116
                  try clear c117
                  try clear c118
                  try clear c121
                  try clear c122
                  try clear c122b0
                  try clear c123
                  try clear c123b0
                  try clear c124
                  try clear c124b0
                  try clear c125
                  try clear c126
                  try clear c127
                  try clear c128
                  try clear c129
                  try clear c131
                  try clear c131b0
                  try clear c132
                  try clear c133
                  try clear c134
                  try clear c135
                  try clear c136
                  try clear c138
                  try clear c139
                  try clear c140
                  try clear c141
                  try clear c142
                  try clear hcz103_0
                  try clear hcz103_1
                  try clear hcz103_2
                  try clear hcz103_3
                  try clear hcz112_0
                  try clear hcz112_1
                  try clear hcz112_2
                  try clear hcz112_3
                  try clear hcz119_0
                  try clear hcz119_1
                  try clear hcz119_2
                  try clear hcz119_3
                  try clear hcz130_0
                  try clear hcz130_1
                  try clear hcz130_2
                  try clear hcz130_3
                  try clear hcz137_0
                  try clear hcz137_1
                  try clear hcz137_2
                  try clear hcz137_3
                  try clear hcz143_0
                  try clear hcz143_1
                  try clear hcz143_2
                  try clear hcz143_3
                  try clear hcz18_0
                  try clear hcz18_1
                  try clear hcz18_2
                  try clear hcz18_3
                  try clear hcz19_0
                  try clear hcz19_1
                  try clear hcz19_2
                  try clear hcz19_3
                  try clear hcz24_0
                  try clear hcz24_1
                  try clear hcz24_2
                  try clear hcz24_3
                  try clear hcz25_0
                  try clear hcz25_1
                  try clear hcz25_2
                  try clear hcz25_3
                  try clear hcz26_0
                  try clear hcz26_1
                  try clear hcz26_2
                  try clear hcz26_3
                  try clear hcz32_0
                  try clear hcz32_1
                  try clear hcz32_2
                  try clear hcz32_3
                  try clear hcz45_0
                  try clear hcz45_1
                  try clear hcz45_2
                  try clear hcz45_3
                  try clear hcz46_0
                  try clear hcz46_1
                  try clear hcz46_2
                  try clear hcz46_3
                  try clear hcz51_0
                  try clear hcz51_1
                  try clear hcz51_2
                  try clear hcz51_3
                  try clear hcz52_0
                  try clear hcz52_1
                  try clear hcz52_2
                  try clear hcz52_3
                  try clear hcz53_0
                  try clear hcz53_1
                  try clear hcz53_2
                  try clear hcz53_3
                  try clear hcz59_0
                  try clear hcz59_1
                  try clear hcz59_2
                  try clear hcz59_3
                  try clear hcz60_0
                  try clear hcz60_1
                  try clear hcz60_2
                  try clear hcz60_3
                  try clear hcz61_0
                  try clear hcz61_1
                  try clear hcz61_2
                  try clear hcz61_3
                  try clear hcz68_0
                  try clear hcz68_1
                  try clear hcz68_2
                  try clear hcz68_3
                  try clear hcz69_0
                  try clear hcz69_1
                  try clear hcz69_2
                  try clear hcz69_3
                  try clear hcz77_0
                  try clear hcz77_1
                  try clear hcz77_2
                  try clear hcz77_3
                  try clear hcz78_0
                  try clear hcz78_1
                  try clear hcz78_2
                  try clear hcz78_3
                  try clear hcz87_0
                  try clear hcz87_1
                  try clear hcz87_2
                  try clear hcz87_3
                  try clear hcz95_0
                  try clear hcz95_1
                  try clear hcz95_2
                  try clear hcz95_3
                  try clear hfz103_0
                  try clear hfz103_1
                  try clear hfz103_2
                  try clear hfz103_3
                  try clear hfz112_0
                  try clear hfz112_1
                  try clear hfz112_2
                  try clear hfz112_3
                  try clear hfz119_0
                  try clear hfz119_1
                  try clear hfz119_2
                  try clear hfz119_3
                  try clear hfz130_0
                  try clear hfz130_1
                  try clear hfz130_2
                  try clear hfz130_3
                  try clear hfz137_0
                  try clear hfz137_1
                  try clear hfz137_2
                  try clear hfz137_3
                  try clear hfz143_0
                  try clear hfz143_1
                  try clear hfz143_2
                  try clear hfz143_3
                  try clear hfz18_0
                  try clear hfz18_1
                  try clear hfz18_2
                  try clear hfz18_3
                  try clear hfz19_0
                  try clear hfz19_1
                  try clear hfz19_2
                  try clear hfz19_3
                  try clear hfz24_0
                  try clear hfz24_1
                  try clear hfz24_2
                  try clear hfz24_3
                  try clear hfz25_0
                  try clear hfz25_1
                  try clear hfz25_2
                  try clear hfz25_3
                  try clear hfz26_0
                  try clear hfz26_1
                  try clear hfz26_2
                  try clear hfz26_3
                  try clear hfz32_0
                  try clear hfz32_1
                  try clear hfz32_2
                  try clear hfz32_3
                  try clear hfz45_0
                  try clear hfz45_1
                  try clear hfz45_2
                  try clear hfz45_3
                  try clear hfz46_0
                  try clear hfz46_1
                  try clear hfz46_2
                  try clear hfz46_3
                  try clear hfz51_0
                  try clear hfz51_1
                  try clear hfz51_2
                  try clear hfz51_3
                  try clear hfz52_0
                  try clear hfz52_1
                  try clear hfz52_2
                  try clear hfz52_3
                  try clear hfz53_0
                  try clear hfz53_1
                  try clear hfz53_2
                  try clear hfz53_3
                  try clear hfz59_0
                  try clear hfz59_1
                  try clear hfz59_2
                  try clear hfz59_3
                  try clear hfz60_0
                  try clear hfz60_1
                  try clear hfz60_2
                  try clear hfz60_3
                  try clear hfz61_0
                  try clear hfz61_1
                  try clear hfz61_2
                  try clear hfz61_3
                  try clear hfz68_0
                  try clear hfz68_1
                  try clear hfz68_2
                  try clear hfz68_3
                  try clear hfz69_0
                  try clear hfz69_1
                  try clear hfz69_2
                  try clear hfz69_3
                  try clear hfz77_0
                  try clear hfz77_1
                  try clear hfz77_2
                  try clear hfz77_3
                  try clear hfz78_0
                  try clear hfz78_1
                  try clear hfz78_2
                  try clear hfz78_3
                  try clear hfz87_0
                  try clear hfz87_1
                  try clear hfz87_2
                  try clear hfz87_3
                  try clear hfz95_0
                  try clear hfz95_1
                  try clear hfz95_2
                  try clear hfz95_3
                  try clear p2
                  try clear p6
                  try clear p64
                  try clear q4
                  try clear q41
                  try clear q413
                  try clear q42
                  try clear q426
                  try clear q427
                  try clear q428
                  obtain ⟨kq, x158_119, rfl, HA, HJ119, BK396, BK397, BK403, BK409, BK419, BK425, HB⟩ := hcut
                  cases kq with
                  | zero => exact absurd HA.out (by simp [barbicanlaw05_ValueDivides.j1])
                  | succ kj119 =>
                    have H := HA.out
                    clear HA
                    simp only [barbicanlaw05_ValueDivides.j1] at H
                    by_cases c144 : x158_119 = true
                    · subst c144
                      have H1 : (none) = some r := by rw [if_pos rfl] at H; exact H
                      clear H
                      have H := H1
                      clear H1
                      exact absurd H (by simp)
                    · replace c144 := Bool.eq_false_iff.mpr c144
                      subst c144
                      have H1 : ((value_Reckon.f kj119 43 t388 t389 t390 t391 t392 t393 t394 t395).bind fun bt429 => (if bt429.2.2.2.2.isNone = true then ((value_Reckon.f kj119 45 bt429.1 bt429.2.1 bt429.2.2.1 bt429.2.2.2.1 t392 t393 t394 t395).bind fun bt436 => (if bt436.2.2.2.2.isNone = true then (if (bt436.1 == t388 && (bt436.2.1 == t389 && (bt436.2.2.1.toList == t390.toList && (bt436.2.2.2.1 == t391)))) = true then ((barbicanlaw05_sure.f kj119).bind fun t443 => (some t443)) else (none)) else (none))) else ((barbicanlaw05_num.f (some (bt429.2.2.2.2.getD 0))).bind fun t444 => (if t444 = 5 then ((barbicanlaw05_sure.f kj119).bind fun t445 => (some t445)) else (none))))) = some r := by rw [if_neg (show ¬ (false = true) by decide)] at H; exact H
                      clear H
                      have H := H1
                      clear H1
                      replace H := Option.bind_eq_some_iff.mp H
                      obtain ⟨⟨t429, t430, t431, t432, t433⟩, A1450, H⟩ := H
                      replace H : (if t433.isNone = true then ((value_Reckon.f kj119 45 t429 t430 t431 t432 t392 t393 t394 t395).bind fun bt436 => (if bt436.2.2.2.2.isNone = true then (if (bt436.1 == t388 && (bt436.2.1 == t389 && (bt436.2.2.1.toList == t390.toList && (bt436.2.2.2.1 == t391)))) = true then ((barbicanlaw05_sure.f kj119).bind fun t443 => (some t443)) else (none)) else (none))) else ((barbicanlaw05_num.f (some (t433.getD 0))).bind fun t444 => (if t444 = 5 then ((barbicanlaw05_sure.f kj119).bind fun t445 => (some t445)) else (none)))) = some r := H
                      have A145 := Aside0.mk A1450
                      clear A1450
                      rcases t433 with _ | q435
                      · have H1 : ((value_Reckon.f kj119 45 t429 t430 t431 t432 t392 t393 t394 t395).bind fun bt436 => (if bt436.2.2.2.2.isNone = true then (if (bt436.1 == t388 && (bt436.2.1 == t389 && (bt436.2.2.1.toList == t390.toList && (bt436.2.2.2.1 == t391)))) = true then ((barbicanlaw05_sure.f kj119).bind fun t443 => (some t443)) else (none)) else (none))) = some r := by rw [if_pos (show (none : Option Int).isNone = true by rfl)] at H; exact H
                        clear H
                        have H := H1
                        clear H1
                        try simp only [errW_none, errW_some]
                        replace H := Option.bind_eq_some_iff.mp H
                        obtain ⟨⟨t436, t437, t438, t439, t440⟩, A1460, H⟩ := H
                        replace H : (if t440.isNone = true then (if (t436 == t388 && (t437 == t389 && (t438.toList == t390.toList && (t439 == t391)))) = true then ((barbicanlaw05_sure.f kj119).bind fun t443 => (some t443)) else (none)) else (none)) = some r := H
                        have A146 := Aside0.mk A1460
                        clear A1460
                        rcases t440 with _ | q442
                        · have H1 : (if (t436 == t388 && (t437 == t389 && (t438.toList == t390.toList && (t439 == t391)))) = true then ((barbicanlaw05_sure.f kj119).bind fun t443 => (some t443)) else (none)) = some r := by rw [if_pos (show (none : Option Int).isNone = true by rfl)] at H; exact H
                          clear H
                          have H := H1
                          clear H1
                          try simp only [errW_none, errW_some]
                          by_cases c147 : (t436 == t388 && (t437 == t389 && (t438.toList == t390.toList && (t439 == t391)))) = true
                          · rw [if_pos c147] at H
                            have c147b0 : (t436 == t388 && (t437 == t389 && (t438.toList == t390.toList && (t439 == t391)))) = true := c147
                            (try (have c147b1 : decide (t436 = t388 && (t437 == t389 && (t438.toList == t390.toList && (t439 == t391)))) = true := by simpa using c147))
                            (try (have c147b2 : (t436 == t388 && (t437 == t389 && (t438.toList == t390.toList && (t439 == t391)))) = true := by simpa using c147))
                            (try (have c147b3 : (!(t436 == t388 && (t437 == t389 && (t438.toList == t390.toList && (t439 == t391))))) = false := by first | simpa using c147 | (have h_ := c147; revert h_; cases t436 <;> cases t388 && (t437 == t389 && (t438.toList == t390.toList && (t439 == t391))) <;> simp)))
                            (try rw [c147b3])
                            (try (have c147b4 : ((!t436) == t388 && (t437 == t389 && (t438.toList == t390.toList && (t439 == t391)))) = false := by first | (have h_ := c147; revert h_; cases t436 <;> cases t388 && (t437 == t389 && (t438.toList == t390.toList && (t439 == t391))) <;> simp; done) | simpa using c147))
                            clear c147
                            replace H := Option.bind_eq_some_iff.mp H
                            obtain ⟨t443, A1480, H⟩ := H
                            replace H : (some t443) = some r := H
                            have A148 := Aside0.mk A1480
                            clear A1480
                            obtain rfl := Option.some.inj H
                            have hnb149 := NB396_397.out
                            have hnc149 := NB397_396.out
                            have hnb150 := NB396_403.out
                            have hnc150 := NB403_396.out
                            have hnb151 := NB396_409.out
                            have hnc151 := NB409_396.out
                            have hnb152 := NB396_419.out
                            have hnc152 := NB419_396.out
                            have hnb153 := NB396_425.out
                            have hnc153 := NB425_396.out
                            have hcz154_0 : wc.cell? ⟨gb396, 0, none⟩ = some (.int .i64 t388) := (blk_cell BK396.out 0).trans rfl
                            have hcz154_1 : wc.cell? ⟨gb396, 1, none⟩ = some (.int .i64 t389) := (blk_cell BK396.out 1).trans rfl
                            have hcz154_2 : wc.cell? ⟨gb396, 2, none⟩ = some (.string t390) := (blk_cell BK396.out 2).trans rfl
                            have hcz154_3 : wc.cell? ⟨gb396, 3, none⟩ = some (.bool t391) := (blk_cell BK396.out 3).trans rfl
                            have hfz154_0 := blk_frozen BK396.out 0
                            have hfz154_1 := blk_frozen BK396.out 1
                            have hfz154_2 := blk_frozen BK396.out 2
                            have hfz154_3 := blk_frozen BK396.out 3
                            have hnb155 := NB397_403.out
                            have hnc155 := NB403_397.out
                            have hnb156 := NB397_409.out
                            have hnc156 := NB409_397.out
                            have hnb157 := NB397_419.out
                            have hnc157 := NB419_397.out
                            have hnb158 := NB397_425.out
                            have hnc158 := NB425_397.out
                            have hcz159_0 : wc.cell? ⟨gb397, 0, none⟩ = some (.int .i64 t392) := (blk_cell BK397.out 0).trans rfl
                            have hcz159_1 : wc.cell? ⟨gb397, 1, none⟩ = some (.int .i64 t393) := (blk_cell BK397.out 1).trans rfl
                            have hcz159_2 : wc.cell? ⟨gb397, 2, none⟩ = some (.string t394) := (blk_cell BK397.out 2).trans rfl
                            have hcz159_3 : wc.cell? ⟨gb397, 3, none⟩ = some (.bool t395) := (blk_cell BK397.out 3).trans rfl
                            have hfz159_0 := blk_frozen BK397.out 0
                            have hfz159_1 := blk_frozen BK397.out 1
                            have hfz159_2 := blk_frozen BK397.out 2
                            have hfz159_3 := blk_frozen BK397.out 3
                            go_wp2_with (first | ((with_reducible refine gate_callee (f := 26) rfl ?_); refine goesL_ (some 162) rfl rfl Tryd.func26 (by kernel_rfl) rfl #[.int .u8 43, .agg #[.int .i64 t388, .int .i64 t389, .string t390, .bool t391], .agg #[.int .i64 t392, .int .i64 t393, .string t394, .bool t395]] rfl (by (try simp only [List.map_toArray, List.map_cons, List.map_nil]); first | done | rfl | (simp only [List.length_drop, List.length_take]; rfl)) ?_; (with_reducible refine (value_Reckon.calls kj119 43 t388 t389 t390 t391 t392 t393 t394 t395 t429 t430 t431 t432 none _ A145.out).mono ?_); rintro e w160 ⟨rfl, hb⟩; refine ⟨_, rfl, ?_⟩; have n0_ := Aside0.mk (blk_below (g := gb396) (o := .cells #[.int .i64 t388, .int .i64 t389, .string t390, .bool t391] 38 (0, 0)) (by (with_reducible repeat (first | refine blk_drewN ?_ _ | refine blk_drew ?_ | refine blk_alloc ?_ _)); exact BK396.out) hb); have n1_ := Aside0.mk (blk_below (g := gb397) (o := .cells #[.int .i64 t392, .int .i64 t393, .string t394, .bool t395] 38 (0, 0)) (by (with_reducible repeat (first | refine blk_drewN ?_ _ | refine blk_drew ?_ | refine blk_alloc ?_ _)); exact BK397.out) hb); have n2_ := Aside0.mk (blk_below (g := gb403) (o := .cells #[.int .i64 t398, .int .i64 t399, .string t400, .bool t401] 38 (0, 0)) (by (with_reducible repeat (first | refine blk_drewN ?_ _ | refine blk_drew ?_ | refine blk_alloc ?_ _)); exact BK403.out) hb); have n3_ := Aside0.mk (blk_below (g := gb409) (o := .cells #[.int .i64 t404, .int .i64 t405, .string t406, .bool t407] 38 (0, 0)) (by (with_reducible repeat (first | refine blk_drewN ?_ _ | refine blk_drew ?_ | refine blk_alloc ?_ _)); exact BK409.out) hb); have n4_ := Aside0.mk (blk_below (g := gb419) (o := .cells #[.int .i64 t414, .int .i64 t415, .string t416, .bool t417] 38 (0, 0)) (by (with_reducible repeat (first | refine blk_drewN ?_ _ | refine blk_drew ?_ | refine blk_alloc ?_ _)); exact BK419.out) hb); have n5_ := Aside0.mk (blk_below (g := gb425) (o := .cells #[.int .i64 t420, .int .i64 t421, .string t422, .bool t423] 38 (0, 0)) (by (with_reducible repeat (first | refine blk_drewN ?_ _ | refine blk_drew ?_ | refine blk_alloc ?_ _)); exact BK425.out) hb); have n6_ := Aside0.mk (below_step (by repeat (first | (with_reducible first | exact HB.out | apply below_alloc | apply pw_below_drewN | apply below_drew1 | refine below_set ?_ GE396.out | refine below_set ?_ GE397.out | refine below_set ?_ GE403.out | refine below_set ?_ GE409.out | refine below_set ?_ GE419.out | refine below_set ?_ GE425.out) | exact HB.out)) hb); clear BK396; clear BK397; clear BK403; clear BK409; clear BK419; clear BK425; clear HB; have BK396 := n0_; have BK397 := n1_; have BK403 := n2_; have BK409 := n3_; have BK419 := n4_; have BK425 := n5_; have HB := n6_; clear n0_ n1_ n2_ n3_ n4_ n5_ n6_; (try clear hb); (try clear hb2); (try clear hk); (try clear hi); (try simp only [errW_none, errW_some])) | ((with_reducible refine gate_dst (N := 16) rfl ?_); refine box_event ?hg (N := 16) ?hd (cs := #[.int .i64 0, .int .i64 0, .string (⟨#[]⟩ : ByteArray), .bool false]) (t := 38) ?hr ?_; (case hd => rfl); (case hg => rfl); (case hr => first | (go_simp; done) | (go_simp; rfl)); intro gb434 hg w161 hbox hb; have n0_ := Aside0.mk (blk_below (g := gb396) (o := .cells #[.int .i64 t388, .int .i64 t389, .string t390, .bool t391] 38 (0, 0)) (by (with_reducible repeat (first | refine blk_drewN ?_ _ | refine blk_drew ?_ | refine blk_alloc ?_ _)); exact BK396.out) hb); have n1_ := Aside0.mk (blk_below (g := gb397) (o := .cells #[.int .i64 t392, .int .i64 t393, .string t394, .bool t395] 38 (0, 0)) (by (with_reducible repeat (first | refine blk_drewN ?_ _ | refine blk_drew ?_ | refine blk_alloc ?_ _)); exact BK397.out) hb); have n2_ := Aside0.mk (blk_below (g := gb403) (o := .cells #[.int .i64 t398, .int .i64 t399, .string t400, .bool t401] 38 (0, 0)) (by (with_reducible repeat (first | refine blk_drewN ?_ _ | refine blk_drew ?_ | refine blk_alloc ?_ _)); exact BK403.out) hb); have n3_ := Aside0.mk (blk_below (g := gb409) (o := .cells #[.int .i64 t404, .int .i64 t405, .string t406, .bool t407] 38 (0, 0)) (by (with_reducible repeat (first | refine blk_drewN ?_ _ | refine blk_drew ?_ | refine blk_alloc ?_ _)); exact BK409.out) hb); have n4_ := Aside0.mk (blk_below (g := gb419) (o := .cells #[.int .i64 t414, .int .i64 t415, .string t416, .bool t417] 38 (0, 0)) (by (with_reducible repeat (first | refine blk_drewN ?_ _ | refine blk_drew ?_ | refine blk_alloc ?_ _)); exact BK419.out) hb); have n5_ := Aside0.mk (blk_below (g := gb425) (o := .cells #[.int .i64 t420, .int .i64 t421, .string t422, .bool t423] 38 (0, 0)) (by (with_reducible repeat (first | refine blk_drewN ?_ _ | refine blk_drew ?_ | refine blk_alloc ?_ _)); exact BK425.out) hb); have n6_ := Aside0.mk (below_step (by repeat (first | (with_reducible first | exact HB.out | apply below_alloc | apply pw_below_drewN | apply below_drew1 | refine below_set ?_ GE396.out | refine below_set ?_ GE397.out | refine below_set ?_ GE403.out | refine below_set ?_ GE409.out | refine below_set ?_ GE419.out | refine below_set ?_ GE425.out) | exact HB.out)) hb); have n7_ := Aside0.mk (hbox); have n8_ := Aside0.mk ((by rw [hg]; exact (below_size (by repeat (first | (with_reducible first | exact HB.out | apply below_alloc | apply pw_below_drewN | apply below_drew1 | refine below_set ?_ GE396.out | refine below_set ?_ GE397.out | refine below_set ?_ GE403.out | refine below_set ?_ GE409.out | refine below_set ?_ GE419.out | refine below_set ?_ GE425.out) | exact HB.out))) : w.heap.size ≤ gb434)); have n9_ := Aside0.mk ((by rw [hg]; exact (below_size (by repeat (first | (with_reducible first | exact HB.out | apply below_alloc | apply pw_below_drewN | apply below_drew1 | refine below_set ?_ GE396.out | refine below_set ?_ GE397.out | refine below_set ?_ GE403.out | refine below_set ?_ GE409.out | refine below_set ?_ GE419.out | refine below_set ?_ GE425.out) | exact HB.out))) : w.heap.size ≤ gb434)); have n10_ := Aside0.mk ((by rw [hg]; exact Nat.ne_of_lt (blk_lt (g := gb396) (o := .cells #[.int .i64 t388, .int .i64 t389, .string t390, .bool t391] 38 (0, 0)) (by (with_reducible repeat (first | refine blk_drewN ?_ _ | refine blk_drew ?_ | refine blk_alloc ?_ _)); exact BK396.out)) : gb396 ≠ gb434)); have n11_ := Aside0.mk ((by rw [hg]; exact Nat.ne_of_gt (blk_lt (g := gb396) (o := .cells #[.int .i64 t388, .int .i64 t389, .string t390, .bool t391] 38 (0, 0)) (by (with_reducible repeat (first | refine blk_drewN ?_ _ | refine blk_drew ?_ | refine blk_alloc ?_ _)); exact BK396.out)) : gb434 ≠ gb396)); have n12_ := Aside0.mk ((by rw [hg]; exact Nat.ne_of_lt (blk_lt (g := gb397) (o := .cells #[.int .i64 t392, .int .i64 t393, .string t394, .bool t395] 38 (0, 0)) (by (with_reducible repeat (first | refine blk_drewN ?_ _ | refine blk_drew ?_ | refine blk_alloc ?_ _)); exact BK397.out)) : gb397 ≠ gb434)); have n13_ := Aside0.mk ((by rw [hg]; exact Nat.ne_of_gt (blk_lt (g := gb397) (o := .cells #[.int .i64 t392, .int .i64 t393, .string t394, .bool t395] 38 (0, 0)) (by (with_reducible repeat (first | refine blk_drewN ?_ _ | refine blk_drew ?_ | refine blk_alloc ?_ _)); exact BK397.out)) : gb434 ≠ gb397)); have n14_ := Aside0.mk ((by rw [hg]; exact Nat.ne_of_lt (blk_lt (g := gb403) (o := .cells #[.int .i64 t398, .int .i64 t399, .string t400, .bool t401] 38 (0, 0)) (by (with_reducible repeat (first | refine blk_drewN ?_ _ | refine blk_drew ?_ | refine blk_alloc ?_ _)); exact BK403.out)) : gb403 ≠ gb434)); have n15_ := Aside0.mk ((by rw [hg]; exact Nat.ne_of_gt (blk_lt (g := gb403) (o := .cells #[.int .i64 t398, .int .i64 t399, .string t400, .bool t401] 38 (0, 0)) (by (with_reducible repeat (first | refine blk_drewN ?_ _ | refine blk_drew ?_ | refine blk_alloc ?_ _)); exact BK403.out)) : gb434 ≠ gb403)); have n16_ := Aside0.mk ((by rw [hg]; exact Nat.ne_of_lt (blk_lt (g := gb409) (o := .cells #[.int .i64 t404, .int .i64 t405, .string t406, .bool t407] 38 (0, 0)) (by (with_reducible repeat (first | refine blk_drewN ?_ _ | refine blk_drew ?_ | refine blk_alloc ?_ _)); exact BK409.out)) : gb409 ≠ gb434)); have n17_ := Aside0.mk ((by rw [hg]; exact Nat.ne_of_gt (blk_lt (g := gb409) (o := .cells #[.int .i64 t404, .int .i64 t405, .string t406, .bool t407] 38 (0, 0)) (by (with_reducible repeat (first | refine blk_drewN ?_ _ | refine blk_drew ?_ | refine blk_alloc ?_ _)); exact BK409.out)) : gb434 ≠ gb409)); have n18_ := Aside0.mk ((by rw [hg]; exact Nat.ne_of_lt (blk_lt (g := gb419) (o := .cells #[.int .i64 t414, .int .i64 t415, .string t416, .bool t417] 38 (0, 0)) (by (with_reducible repeat (first | refine blk_drewN ?_ _ | refine blk_drew ?_ | refine blk_alloc ?_ _)); exact BK419.out)) : gb419 ≠ gb434)); have n19_ := Aside0.mk ((by rw [hg]; exact Nat.ne_of_gt (blk_lt (g := gb419) (o := .cells #[.int .i64 t414, .int .i64 t415, .string t416, .bool t417] 38 (0, 0)) (by (with_reducible repeat (first | refine blk_drewN ?_ _ | refine blk_drew ?_ | refine blk_alloc ?_ _)); exact BK419.out)) : gb434 ≠ gb419)); have n20_ := Aside0.mk ((by rw [hg]; exact Nat.ne_of_lt (blk_lt (g := gb425) (o := .cells #[.int .i64 t420, .int .i64 t421, .string t422, .bool t423] 38 (0, 0)) (by (with_reducible repeat (first | refine blk_drewN ?_ _ | refine blk_drew ?_ | refine blk_alloc ?_ _)); exact BK425.out)) : gb425 ≠ gb434)); have n21_ := Aside0.mk ((by rw [hg]; exact Nat.ne_of_gt (blk_lt (g := gb425) (o := .cells #[.int .i64 t420, .int .i64 t421, .string t422, .bool t423] 38 (0, 0)) (by (with_reducible repeat (first | refine blk_drewN ?_ _ | refine blk_drew ?_ | refine blk_alloc ?_ _)); exact BK425.out)) : gb434 ≠ gb425)); clear BK396; clear BK397; clear BK403; clear BK409; clear BK419; clear BK425; clear HB; have BK396 := n0_; have BK397 := n1_; have BK403 := n2_; have BK409 := n3_; have BK419 := n4_; have BK425 := n5_; have HB := n6_; have BK434 := n7_; have GW434 := n8_; have GE434 := n9_; have NB396_434 := n10_; have NB434_396 := n11_; have NB397_434 := n12_; have NB434_397 := n13_; have NB403_434 := n14_; have NB434_403 := n15_; have NB409_434 := n16_; have NB434_409 := n17_; have NB419_434 := n18_; have NB434_419 := n19_; have NB425_434 := n20_; have NB434_425 := n21_; clear n0_ n1_ n2_ n3_ n4_ n5_ n6_ n7_ n8_ n9_ n10_ n11_ n12_ n13_ n14_ n15_ n16_ n17_ n18_ n19_ n20_ n21_; clear hb hbox hg; have hnb162 := NB434_396.out; have hnc162 := NB396_434.out; have hnb163 := NB434_397.out; have hnc163 := NB397_434.out; have hnb164 := NB434_403.out; have hnc164 := NB403_434.out; have hnb165 := NB434_409.out; have hnc165 := NB409_434.out; have hnb166 := NB434_419.out; have hnc166 := NB419_434.out; have hnb167 := NB434_425.out; have hnc167 := NB425_434.out; have hcz168_0 : w161.cell? ⟨gb434, 0, none⟩ = some (.int .i64 0) := (blk_cell BK434.out 0).trans rfl; have hcz168_1 : w161.cell? ⟨gb434, 1, none⟩ = some (.int .i64 0) := (blk_cell BK434.out 1).trans rfl; have hcz168_2 : w161.cell? ⟨gb434, 2, none⟩ = some (.string (⟨#[]⟩ : ByteArray)) := (blk_cell BK434.out 2).trans rfl; have hcz168_3 : w161.cell? ⟨gb434, 3, none⟩ = some (.bool false) := (blk_cell BK434.out 3).trans rfl; have hfz168_0 := blk_frozen BK434.out 0; have hfz168_1 := blk_frozen BK434.out 1; have hfz168_2 := blk_frozen BK434.out 2; have hfz168_3 := blk_frozen BK434.out 3; have hcz169_0 : w161.cell? ⟨gb397, 0, none⟩ = some (.int .i64 t392) := (blk_cell BK397.out 0).trans rfl; have hcz169_1 : w161.cell? ⟨gb397, 1, none⟩ = some (.int .i64 t393) := (blk_cell BK397.out 1).trans rfl; have hcz169_2 : w161.cell? ⟨gb397, 2, none⟩ = some (.string t394) := (blk_cell BK397.out 2).trans rfl; have hcz169_3 : w161.cell? ⟨gb397, 3, none⟩ = some (.bool t395) := (blk_cell BK397.out 3).trans rfl; have hfz169_0 := blk_frozen BK397.out 0; have hfz169_1 := blk_frozen BK397.out 1; have hfz169_2 := blk_frozen BK397.out 2; have hfz169_3 := blk_frozen BK397.out 3) | ((with_reducible refine gate_callee (f := 26) rfl ?_); refine goesL_ (some 176) rfl rfl Tryd.func26 (by kernel_rfl) rfl #[.int .u8 45, .agg #[.int .i64 t429, .int .i64 t430, .string t431, .bool t432], .agg #[.int .i64 t392, .int .i64 t393, .string t394, .bool t395]] rfl (by (try simp only [List.map_toArray, List.map_cons, List.map_nil]); first | done | rfl | (simp only [List.length_drop, List.length_take]; rfl)) ?_; (with_reducible refine (value_Reckon.calls kj119 45 t429 t430 t431 t432 t392 t393 t394 t395 t436 t437 t438 t439 none _ A146.out).mono ?_); rintro e w170 ⟨rfl, hb⟩; refine ⟨_, rfl, ?_⟩; have n0_ := Aside0.mk (blk_below (g := gb396) (o := .cells #[.int .i64 t388, .int .i64 t389, .string t390, .bool t391] 38 (0, 0)) (by (with_reducible repeat (first | refine blk_drewN ?_ _ | refine blk_drew ?_ | refine blk_alloc ?_ _)); refine blk_far ?_ NB396_434.out _; (with_reducible repeat (first | refine blk_drewN ?_ _ | refine blk_drew ?_ | refine blk_alloc ?_ _)); refine blk_far ?_ NB396_434.out _; (with_reducible repeat (first | refine blk_drewN ?_ _ | refine blk_drew ?_ | refine blk_alloc ?_ _)); refine blk_far ?_ NB396_434.out _; (with_reducible repeat (first | refine blk_drewN ?_ _ | refine blk_drew ?_ | refine blk_alloc ?_ _)); refine blk_far ?_ NB396_434.out _; (with_reducible repeat (first | refine blk_drewN ?_ _ | refine blk_drew ?_ | refine blk_alloc ?_ _)); exact BK396.out) hb); have n1_ := Aside0.mk (blk_below (g := gb397) (o := .cells #[.int .i64 t392, .int .i64 t393, .string t394, .bool t395] 38 (0, 0)) (by (with_reducible repeat (first | refine blk_drewN ?_ _ | refine blk_drew ?_ | refine blk_alloc ?_ _)); refine blk_far ?_ NB397_434.out _; (with_reducible repeat (first | refine blk_drewN ?_ _ | refine blk_drew ?_ | refine blk_alloc ?_ _)); refine blk_far ?_ NB397_434.out _; (with_reducible repeat (first | refine blk_drewN ?_ _ | refine blk_drew ?_ | refine blk_alloc ?_ _)); refine blk_far ?_ NB397_434.out _; (with_reducible repeat (first | refine blk_drewN ?_ _ | refine blk_drew ?_ | refine blk_alloc ?_ _)); refine blk_far ?_ NB397_434.out _; (with_reducible repeat (first | refine blk_drewN ?_ _ | refine blk_drew ?_ | refine blk_alloc ?_ _)); exact BK397.out) hb); have n2_ := Aside0.mk (blk_below (g := gb403) (o := .cells #[.int .i64 t398, .int .i64 t399, .string t400, .bool t401] 38 (0, 0)) (by (with_reducible repeat (first | refine blk_drewN ?_ _ | refine blk_drew ?_ | refine blk_alloc ?_ _)); refine blk_far ?_ NB403_434.out _; (with_reducible repeat (first | refine blk_drewN ?_ _ | refine blk_drew ?_ | refine blk_alloc ?_ _)); refine blk_far ?_ NB403_434.out _; (with_reducible repeat (first | refine blk_drewN ?_ _ | refine blk_drew ?_ | refine blk_alloc ?_ _)); refine blk_far ?_ NB403_434.out _; (with_reducible repeat (first | refine blk_drewN ?_ _ | refine blk_drew ?_ | refine blk_alloc ?_ _)); refine blk_far ?_ NB403_434.out _; (with_reducible repeat (first | refine blk_drewN ?_ _ | refine blk_drew ?_ | refine blk_alloc ?_ _)); exact BK403.out) hb); have n3_ := Aside0.mk (blk_below (g := gb409) (o := .cells #[.int .i64 t404, .int .i64 t405, .string t406, .bool t407] 38 (0, 0)) (by (with_reducible repeat (first | refine blk_drewN ?_ _ | refine blk_drew ?_ | refine blk_alloc ?_ _)); refine blk_far ?_ NB409_434.out _; (with_reducible repeat (first | refine blk_drewN ?_ _ | refine blk_drew ?_ | refine blk_alloc ?_ _)); refine blk_far ?_ NB409_434.out _; (with_reducible repeat (first | refine blk_drewN ?_ _ | refine blk_drew ?_ | refine blk_alloc ?_ _)); refine blk_far ?_ NB409_434.out _; (with_reducible repeat (first | refine blk_drewN ?_ _ | refine blk_drew ?_ | refine blk_alloc ?_ _)); refine blk_far ?_ NB409_434.out _; (with_reducible repeat (first | refine blk_drewN ?_ _ | refine blk_drew ?_ | refine blk_alloc ?_ _)); exact BK409.out) hb); have n4_ := Aside0.mk (blk_below (g := gb419) (o := .cells #[.int .i64 t414, .int .i64 t415, .string t416, .bool t417] 38 (0, 0)) (by (with_reducible repeat (first | refine blk_drewN ?_ _ | refine blk_drew ?_ | refine blk_alloc ?_ _)); refine blk_far ?_ NB419_434.out _; (with_reducible repeat (first | refine blk_drewN ?_ _ | refine blk_drew ?_ | refine blk_alloc ?_ _)); refine blk_far ?_ NB419_434.out _; (with_reducible repeat (first | refine blk_drewN ?_ _ | refine blk_drew ?_ | refine blk_alloc ?_ _)); refine blk_far ?_ NB419_434.out _; (with_reducible repeat (first | refine blk_drewN ?_ _ | refine blk_drew ?_ | refine blk_alloc ?_ _)); refine blk_far ?_ NB419_434.out _; (with_reducible repeat (first | refine blk_drewN ?_ _ | refine blk_drew ?_ | refine blk_alloc ?_ _)); exact BK419.out) hb); have n5_ := Aside0.mk (blk_below (g := gb425) (o := .cells #[.int .i64 t420, .int .i64 t421, .string t422, .bool t423] 38 (0, 0)) (by (with_reducible repeat (first | refine blk_drewN ?_ _ | refine blk_drew ?_ | refine blk_alloc ?_ _)); refine blk_far ?_ NB425_434.out _; (with_reducible repeat (first | refine blk_drewN ?_ _ | refine blk_drew ?_ | refine blk_alloc ?_ _)); refine blk_far ?_ NB425_434.out _; (with_reducible repeat (first | refine blk_drewN ?_ _ | refine blk_drew ?_ | refine blk_alloc ?_ _)); refine blk_far ?_ NB425_434.out _; (with_reducible repeat (first | refine blk_drewN ?_ _ | refine blk_drew ?_ | refine blk_alloc ?_ _)); refine blk_far ?_ NB425_434.out _; (with_reducible repeat (first | refine blk_drewN ?_ _ | refine blk_drew ?_ | refine blk_alloc ?_ _)); exact BK425.out) hb); have n6_ := Aside0.mk (blk_below (g := gb434) (o := .cells #[.int .i64 t429, .int .i64 t430, .string t431, .bool t432] 38 (0, 0)) (by (with_reducible repeat (first | refine blk_drewN ?_ _ | refine blk_drew ?_ | refine blk_alloc ?_ _)); refine blk_put (cs := #[.int .i64 t429, .int .i64 t430, .string t431, .bool false]) ?_ 3 _ rfl; (with_reducible repeat (first | refine blk_drewN ?_ _ | refine blk_drew ?_ | refine blk_alloc ?_ _)); refine blk_put (cs := #[.int .i64 t429, .int .i64 t430, .string (⟨#[]⟩ : ByteArray), .bool false]) ?_ 2 _ rfl; (with_reducible repeat (first | refine blk_drewN ?_ _ | refine blk_drew ?_ | refine blk_alloc ?_ _)); refine blk_put (cs := #[.int .i64 t429, .int .i64 0, .string (⟨#[]⟩ : ByteArray), .bool false]) ?_ 1 _ rfl; (with_reducible repeat (first | refine blk_drewN ?_ _ | refine blk_drew ?_ | refine blk_alloc ?_ _)); refine blk_put (cs := #[.int .i64 0, .int .i64 0, .string (⟨#[]⟩ : ByteArray), .bool false]) ?_ 0 _ rfl; (with_reducible repeat (first | refine blk_drewN ?_ _ | refine blk_drew ?_ | refine blk_alloc ?_ _)); exact BK434.out) hb); have n7_ := Aside0.mk (below_step (by repeat (first | (with_reducible first | exact HB.out | apply below_alloc | apply pw_below_drewN | apply below_drew1 | refine below_set ?_ GE396.out | refine below_set ?_ GE397.out | refine below_set ?_ GE403.out | refine below_set ?_ GE409.out | refine below_set ?_ GE419.out | refine below_set ?_ GE425.out | refine below_set ?_ GE434.out) | exact HB.out)) hb); clear BK396; clear BK397; clear BK403; clear BK409; clear BK419; clear BK425; clear BK434; clear HB; have BK396 := n0_; have BK397 := n1_; have BK403 := n2_; have BK409 := n3_; have BK419 := n4_; have BK425 := n5_; have BK434 := n6_; have HB := n7_; clear n0_ n1_ n2_ n3_ n4_ n5_ n6_ n7_; (try clear hb); (try clear hb2); (try clear hk); (try clear hi); (try simp only [errW_none, errW_some])) | ((with_reducible refine gate_dst (N := 18) rfl ?_); refine box_event ?hg (N := 18) ?hd (cs := #[.int .i64 0, .int .i64 0, .string (⟨#[]⟩ : ByteArray), .bool false]) (t := 38) ?hr ?_; (case hd => rfl); (case hg => rfl); (case hr => first | (go_simp; done) | (go_simp; rfl)); intro gb441 hg w171 hbox hb; have n0_ := Aside0.mk (blk_below (g := gb396) (o := .cells #[.int .i64 t388, .int .i64 t389, .string t390, .bool t391] 38 (0, 0)) (by (with_reducible repeat (first | refine blk_drewN ?_ _ | refine blk_drew ?_ | refine blk_alloc ?_ _)); exact BK396.out) hb); have n1_ := Aside0.mk (blk_below (g := gb397) (o := .cells #[.int .i64 t392, .int .i64 t393, .string t394, .bool t395] 38 (0, 0)) (by (with_reducible repeat (first | refine blk_drewN ?_ _ | refine blk_drew ?_ | refine blk_alloc ?_ _)); exact BK397.out) hb); have n2_ := Aside0.mk (blk_below (g := gb403) (o := .cells #[.int .i64 t398, .int .i64 t399, .string t400, .bool t401] 38 (0, 0)) (by (with_reducible repeat (first | refine blk_drewN ?_ _ | refine blk_drew ?_ | refine blk_alloc ?_ _)); exact BK403.out) hb); have n3_ := Aside0.mk (blk_below (g := gb409) (o := .cells #[.int .i64 t404, .int .i64 t405, .string t406, .bool t407] 38 (0, 0)) (by (with_reducible repeat (first | refine blk_drewN ?_ _ | refine blk_drew ?_ | refine blk_alloc ?_ _)); exact BK409.out) hb); have n4_ := Aside0.mk (blk_below (g := gb419) (o := .cells #[.int .i64 t414, .int .i64 t415, .string t416, .bool t417] 38 (0, 0)) (by (with_reducible repeat (first | refine blk_drewN ?_ _ | refine blk_drew ?_ | refine blk_alloc ?_ _)); exact BK419.out) hb); have n5_ := Aside0.mk (blk_below (g := gb425) (o := .cells #[.int .i64 t420, .int .i64 t421, .string t422, .bool t423] 38 (0, 0)) (by (with_reducible repeat (first | refine blk_drewN ?_ _ | refine blk_drew ?_ | refine blk_alloc ?_ _)); exact BK425.out) hb); have n6_ := Aside0.mk (blk_below (g := gb434) (o := .cells #[.int .i64 t429, .int .i64 t430, .string t431, .bool t432] 38 (0, 0)) (by (with_reducible repeat (first | refine blk_drewN ?_ _ | refine blk_drew ?_ | refine blk_alloc ?_ _)); exact BK434.out) hb); have n7_ := Aside0.mk (below_step (by repeat (first | (with_reducible first | exact HB.out | apply below_alloc | apply pw_below_drewN | apply below_drew1 | refine below_set ?_ GE396.out | refine below_set ?_ GE397.out | refine below_set ?_ GE403.out | refine below_set ?_ GE409.out | refine below_set ?_ GE419.out | refine below_set ?_ GE425.out | refine below_set ?_ GE434.out) | exact HB.out)) hb); have n8_ := Aside0.mk (hbox); have n9_ := Aside0.mk ((by rw [hg]; exact (below_size (by repeat (first | (with_reducible first | exact HB.out | apply below_alloc | apply pw_below_drewN | apply below_drew1 | refine below_set ?_ GE396.out | refine below_set ?_ GE397.out | refine below_set ?_ GE403.out | refine below_set ?_ GE409.out | refine below_set ?_ GE419.out | refine below_set ?_ GE425.out | refine below_set ?_ GE434.out) | exact HB.out))) : w.heap.size ≤ gb441)); have n10_ := Aside0.mk ((by rw [hg]; exact (below_size (by repeat (first | (with_reducible first | exact HB.out | apply below_alloc | apply pw_below_drewN | apply below_drew1 | refine below_set ?_ GE396.out | refine below_set ?_ GE397.out | refine below_set ?_ GE403.out | refine below_set ?_ GE409.out | refine below_set ?_ GE419.out | refine below_set ?_ GE425.out | refine below_set ?_ GE434.out) | exact HB.out))) : w.heap.size ≤ gb441)); have n11_ := Aside0.mk ((by rw [hg]; exact Nat.ne_of_lt (blk_lt (g := gb396) (o := .cells #[.int .i64 t388, .int .i64 t389, .string t390, .bool t391] 38 (0, 0)) (by (with_reducible repeat (first | refine blk_drewN ?_ _ | refine blk_drew ?_ | refine blk_alloc ?_ _)); exact BK396.out)) : gb396 ≠ gb441)); have n12_ := Aside0.mk ((by rw [hg]; exact Nat.ne_of_gt (blk_lt (g := gb396) (o := .cells #[.int .i64 t388, .int .i64 t389, .string t390, .bool t391] 38 (0, 0)) (by (with_reducible repeat (first | refine blk_drewN ?_ _ | refine blk_drew ?_ | refine blk_alloc ?_ _)); exact BK396.out)) : gb441 ≠ gb396)); have n13_ := Aside0.mk ((by rw [hg]; exact Nat.ne_of_lt (blk_lt (g := gb397) (o := .cells #[.int .i64 t392, .int .i64 t393, .string t394, .bool t395] 38 (0, 0)) (by (with_reducible repeat (first | refine blk_drewN ?_ _ | refine blk_drew ?_ | refine blk_alloc ?_ _)); exact BK397.out)) : gb397 ≠ gb441)); have n14_ := Aside0.mk ((by rw [hg]; exact Nat.ne_of_gt (blk_lt (g := gb397) (o := .cells #[.int .i64 t392, .int .i64 t393, .string t394, .bool t395] 38 (0, 0)) (by (with_reducible repeat (first | refine blk_drewN ?_ _ | refine blk_drew ?_ | refine blk_alloc ?_ _)); exact BK397.out)) : gb441 ≠ gb397)); have n15_ := Aside0.mk ((by rw [hg]; exact Nat.ne_of_lt (blk_lt (g := gb403) (o := .cells #[.int .i64 t398, .int .i64 t399, .string t400, .bool t401] 38 (0, 0)) (by (with_reducible repeat (first | refine blk_drewN ?_ _ | refine blk_drew ?_ | refine blk_alloc ?_ _)); exact BK403.out)) : gb403 ≠ gb441)); have n16_ := Aside0.mk ((by rw [hg]; exact Nat.ne_of_gt (blk_lt (g := gb403) (o := .cells #[.int .i64 t398, .int .i64 t399, .string t400, .bool t401] 38 (0, 0)) (by (with_reducible repeat (first | refine blk_drewN ?_ _ | refine blk_drew ?_ | refine blk_alloc ?_ _)); exact BK403.out)) : gb441 ≠ gb403)); have n17_ := Aside0.mk ((by rw [hg]; exact Nat.ne_of_lt (blk_lt (g := gb409) (o := .cells #[.int .i64 t404, .int .i64 t405, .string t406, .bool t407] 38 (0, 0)) (by (with_reducible repeat (first | refine blk_drewN ?_ _ | refine blk_drew ?_ | refine blk_alloc ?_ _)); exact BK409.out)) : gb409 ≠ gb441)); have n18_ := Aside0.mk ((by rw [hg]; exact Nat.ne_of_gt (blk_lt (g := gb409) (o := .cells #[.int .i64 t404, .int .i64 t405, .string t406, .bool t407] 38 (0, 0)) (by (with_reducible repeat (first | refine blk_drewN ?_ _ | refine blk_drew ?_ | refine blk_alloc ?_ _)); exact BK409.out)) : gb441 ≠ gb409)); have n19_ := Aside0.mk ((by rw [hg]; exact Nat.ne_of_lt (blk_lt (g := gb419) (o := .cells #[.int .i64 t414, .int .i64 t415, .string t416, .bool t417] 38 (0, 0)) (by (with_reducible repeat (first | refine blk_drewN ?_ _ | refine blk_drew ?_ | refine blk_alloc ?_ _)); exact BK419.out)) : gb419 ≠ gb441)); have n20_ := Aside0.mk ((by rw [hg]; exact Nat.ne_of_gt (blk_lt (g := gb419) (o := .cells #[.int .i64 t414, .int .i64 t415, .string t416, .bool t417] 38 (0, 0)) (by (with_reducible repeat (first | refine blk_drewN ?_ _ | refine blk_drew ?_ | refine blk_alloc ?_ _)); exact BK419.out)) : gb441 ≠ gb419)); have n21_ := Aside0.mk ((by rw [hg]; exact Nat.ne_of_lt (blk_lt (g := gb425) (o := .cells #[.int .i64 t420, .int .i64 t421, .string t422, .bool t423] 38 (0, 0)) (by (with_reducible repeat (first | refine blk_drewN ?_ _ | refine blk_drew ?_ | refine blk_alloc ?_ _)); exact BK425.out)) : gb425 ≠ gb441)); have n22_ := Aside0.mk ((by rw [hg]; exact Nat.ne_of_gt (blk_lt (g := gb425) (o := .cells #[.int .i64 t420, .int .i64 t421, .string t422, .bool t423] 38 (0, 0)) (by (with_reducible repeat (first | refine blk_drewN ?_ _ | refine blk_drew ?_ | refine blk_alloc ?_ _)); exact BK425.out)) : gb441 ≠ gb425)); have n23_ := Aside0.mk ((by rw [hg]; exact Nat.ne_of_lt (blk_lt (g := gb434) (o := .cells #[.int .i64 t429, .int .i64 t430, .string t431, .bool t432] 38 (0, 0)) (by (with_reducible repeat (first | refine blk_drewN ?_ _ | refine blk_drew ?_ | refine blk_alloc ?_ _)); exact BK434.out)) : gb434 ≠ gb441)); have n24_ := Aside0.mk ((by rw [hg]; exact Nat.ne_of_gt (blk_lt (g := gb434) (o := .cells #[.int .i64 t429, .int .i64 t430, .string t431, .bool t432] 38 (0, 0)) (by (with_reducible repeat (first | refine blk_drewN ?_ _ | refine blk_drew ?_ | refine blk_alloc ?_ _)); exact BK434.out)) : gb441 ≠ gb434)); clear BK396; clear BK397; clear BK403; clear BK409; clear BK419; clear BK425; clear BK434; clear HB; have BK396 := n0_; have BK397 := n1_; have BK403 := n2_; have BK409 := n3_; have BK419 := n4_; have BK425 := n5_; have BK434 := n6_; have HB := n7_; have BK441 := n8_; have GW441 := n9_; have GE441 := n10_; have NB396_441 := n11_; have NB441_396 := n12_; have NB397_441 := n13_; have NB441_397 := n14_; have NB403_441 := n15_; have NB441_403 := n16_; have NB409_441 := n17_; have NB441_409 := n18_; have NB419_441 := n19_; have NB441_419 := n20_; have NB425_441 := n21_; have NB441_425 := n22_; have NB434_441 := n23_; have NB441_434 := n24_; clear n0_ n1_ n2_ n3_ n4_ n5_ n6_ n7_ n8_ n9_ n10_ n11_ n12_ n13_ n14_ n15_ n16_ n17_ n18_ n19_ n20_ n21_ n22_ n23_ n24_; clear hb hbox hg; have hnb172 := NB441_396.out; have hnc172 := NB396_441.out; have hnb173 := NB441_397.out; have hnc173 := NB397_441.out; have hnb174 := NB441_403.out; have hnc174 := NB403_441.out; have hnb175 := NB441_409.out; have hnc175 := NB409_441.out; have hnb176 := NB441_419.out; have hnc176 := NB419_441.out; have hnb177 := NB441_425.out; have hnc177 := NB425_441.out; have hnb178 := NB441_434.out; have hnc178 := NB434_441.out; have hcz179_0 : w171.cell? ⟨gb441, 0, none⟩ = some (.int .i64 0) := (blk_cell BK441.out 0).trans rfl; have hcz179_1 : w171.cell? ⟨gb441, 1, none⟩ = some (.int .i64 0) := (blk_cell BK441.out 1).trans rfl; have hcz179_2 : w171.cell? ⟨gb441, 2, none⟩ = some (.string (⟨#[]⟩ : ByteArray)) := (blk_cell BK441.out 2).trans rfl; have hcz179_3 : w171.cell? ⟨gb441, 3, none⟩ = some (.bool false) := (blk_cell BK441.out 3).trans rfl; have hfz179_0 := blk_frozen BK441.out 0; have hfz179_1 := blk_frozen BK441.out 1; have hfz179_2 := blk_frozen BK441.out 2; have hfz179_3 := blk_frozen BK441.out 3; have hcz180_0 : w171.cell? ⟨gb396, 0, none⟩ = some (.int .i64 t388) := (blk_cell BK396.out 0).trans rfl; have hcz180_1 : w171.cell? ⟨gb396, 1, none⟩ = some (.int .i64 t389) := (blk_cell BK396.out 1).trans rfl; have hcz180_2 : w171.cell? ⟨gb396, 2, none⟩ = some (.string t390) := (blk_cell BK396.out 2).trans rfl; have hcz180_3 : w171.cell? ⟨gb396, 3, none⟩ = some (.bool t391) := (blk_cell BK396.out 3).trans rfl; have hfz180_0 := blk_frozen BK396.out 0; have hfz180_1 := blk_frozen BK396.out 1; have hfz180_2 := blk_frozen BK396.out 2; have hfz180_3 := blk_frozen BK396.out 3) | (go_at_call 22; (with_reducible refine (barbicanlaw05_sure.calls kj119  t443 _ ?side1 A148.out).mono ?_); (case side1 => exact GW_below HG.out (by repeat (first | (with_reducible first | exact HB.out | apply below_alloc | apply pw_below_drewN | apply below_drew1 | refine below_set ?_ GE396.out | refine below_set ?_ GE397.out | refine below_set ?_ GE403.out | refine below_set ?_ GE409.out | refine below_set ?_ GE419.out | refine below_set ?_ GE425.out | refine below_set ?_ GE434.out | refine below_set ?_ GE441.out) | exact HB.out))); rintro e w181 ⟨rfl, hb⟩; have n0_ := Aside0.mk (blk_below (g := gb396) (o := .cells #[.int .i64 t388, .int .i64 t389, .string t390, .bool t391] 38 (0, 0)) (by (with_reducible repeat (first | refine blk_drewN ?_ _ | refine blk_drew ?_ | refine blk_alloc ?_ _)); refine blk_far ?_ NB396_441.out _; (with_reducible repeat (first | refine blk_drewN ?_ _ | refine blk_drew ?_ | refine blk_alloc ?_ _)); refine blk_far ?_ NB396_441.out _; (with_reducible repeat (first | refine blk_drewN ?_ _ | refine blk_drew ?_ | refine blk_alloc ?_ _)); refine blk_far ?_ NB396_441.out _; (with_reducible repeat (first | refine blk_drewN ?_ _ | refine blk_drew ?_ | refine blk_alloc ?_ _)); refine blk_far ?_ NB396_441.out _; (with_reducible repeat (first | refine blk_drewN ?_ _ | refine blk_drew ?_ | refine blk_alloc ?_ _)); exact BK396.out) hb); have n1_ := Aside0.mk (blk_below (g := gb397) (o := .cells #[.int .i64 t392, .int .i64 t393, .string t394, .bool t395] 38 (0, 0)) (by (with_reducible repeat (first | refine blk_drewN ?_ _ | refine blk_drew ?_ | refine blk_alloc ?_ _)); refine blk_far ?_ NB397_441.out _; (with_reducible repeat (first | refine blk_drewN ?_ _ | refine blk_drew ?_ | refine blk_alloc ?_ _)); refine blk_far ?_ NB397_441.out _; (with_reducible repeat (first | refine blk_drewN ?_ _ | refine blk_drew ?_ | refine blk_alloc ?_ _)); refine blk_far ?_ NB397_441.out _; (with_reducible repeat (first | refine blk_drewN ?_ _ | refine blk_drew ?_ | refine blk_alloc ?_ _)); refine blk_far ?_ NB397_441.out _; (with_reducible repeat (first | refine blk_drewN ?_ _ | refine blk_drew ?_ | refine blk_alloc ?_ _)); exact BK397.out) hb); have n2_ := Aside0.mk (blk_below (g := gb403) (o := .cells #[.int .i64 t398, .int .i64 t399, .string t400, .bool t401] 38 (0, 0)) (by (with_reducible repeat (first | refine blk_drewN ?_ _ | refine blk_drew ?_ | refine blk_alloc ?_ _)); refine blk_far ?_ NB403_441.out _; (with_reducible repeat (first | refine blk_drewN ?_ _ | refine blk_drew ?_ | refine blk_alloc ?_ _)); refine blk_far ?_ NB403_441.out _; (with_reducible repeat (first | refine blk_drewN ?_ _ | refine blk_drew ?_ | refine blk_alloc ?_ _)); refine blk_far ?_ NB403_441.out _; (with_reducible repeat (first | refine blk_drewN ?_ _ | refine blk_drew ?_ | refine blk_alloc ?_ _)); refine blk_far ?_ NB403_441.out _; (with_reducible repeat (first | refine blk_drewN ?_ _ | refine blk_drew ?_ | refine blk_alloc ?_ _)); exact BK403.out) hb); have n3_ := Aside0.mk (blk_below (g := gb409) (o := .cells #[.int .i64 t404, .int .i64 t405, .string t406, .bool t407] 38 (0, 0)) (by (with_reducible repeat (first | refine blk_drewN ?_ _ | refine blk_drew ?_ | refine blk_alloc ?_ _)); refine blk_far ?_ NB409_441.out _; (with_reducible repeat (first | refine blk_drewN ?_ _ | refine blk_drew ?_ | refine blk_alloc ?_ _)); refine blk_far ?_ NB409_441.out _; (with_reducible repeat (first | refine blk_drewN ?_ _ | refine blk_drew ?_ | refine blk_alloc ?_ _)); refine blk_far ?_ NB409_441.out _; (with_reducible repeat (first | refine blk_drewN ?_ _ | refine blk_drew ?_ | refine blk_alloc ?_ _)); refine blk_far ?_ NB409_441.out _; (with_reducible repeat (first | refine blk_drewN ?_ _ | refine blk_drew ?_ | refine blk_alloc ?_ _)); exact BK409.out) hb); have n4_ := Aside0.mk (blk_below (g := gb419) (o := .cells #[.int .i64 t414, .int .i64 t415, .string t416, .bool t417] 38 (0, 0)) (by (with_reducible repeat (first | refine blk_drewN ?_ _ | refine blk_drew ?_ | refine blk_alloc ?_ _)); refine blk_far ?_ NB419_441.out _; (with_reducible repeat (first | refine blk_drewN ?_ _ | refine blk_drew ?_ | refine blk_alloc ?_ _)); refine blk_far ?_ NB419_441.out _; (with_reducible repeat (first | refine blk_drewN ?_ _ | refine blk_drew ?_ | refine blk_alloc ?_ _)); refine blk_far ?_ NB419_441.out _; (with_reducible repeat (first | refine blk_drewN ?_ _ | refine blk_drew ?_ | refine blk_alloc ?_ _)); refine blk_far ?_ NB419_441.out _; (with_reducible repeat (first | refine blk_drewN ?_ _ | refine blk_drew ?_ | refine blk_alloc ?_ _)); exact BK419.out) hb); have n5_ := Aside0.mk (blk_below (g := gb425) (o := .cells #[.int .i64 t420, .int .i64 t421, .string t422, .bool t423] 38 (0, 0)) (by (with_reducible repeat (first | refine blk_drewN ?_ _ | refine blk_drew ?_ | refine blk_alloc ?_ _)); refine blk_far ?_ NB425_441.out _; (with_reducible repeat (first | refine blk_drewN ?_ _ | refine blk_drew ?_ | refine blk_alloc ?_ _)); refine blk_far ?_ NB425_441.out _; (with_reducible repeat (first | refine blk_drewN ?_ _ | refine blk_drew ?_ | refine blk_alloc ?_ _)); refine blk_far ?_ NB425_441.out _; (with_reducible repeat (first | refine blk_drewN ?_ _ | refine blk_drew ?_ | refine blk_alloc ?_ _)); refine blk_far ?_ NB425_441.out _; (with_reducible repeat (first | refine blk_drewN ?_ _ | refine blk_drew ?_ | refine blk_alloc ?_ _)); exact BK425.out) hb); have n6_ := Aside0.mk (blk_below (g := gb434) (o := .cells #[.int .i64 t429, .int .i64 t430, .string t431, .bool t432] 38 (0, 0)) (by (with_reducible repeat (first | refine blk_drewN ?_ _ | refine blk_drew ?_ | refine blk_alloc ?_ _)); refine blk_far ?_ NB434_441.out _; (with_reducible repeat (first | refine blk_drewN ?_ _ | refine blk_drew ?_ | refine blk_alloc ?_ _)); refine blk_far ?_ NB434_441.out _; (with_reducible repeat (first | refine blk_drewN ?_ _ | refine blk_drew ?_ | refine blk_alloc ?_ _)); refine blk_far ?_ NB434_441.out _; (with_reducible repeat (first | refine blk_drewN ?_ _ | refine blk_drew ?_ | refine blk_alloc ?_ _)); refine blk_far ?_ NB434_441.out _; (with_reducible repeat (first | refine blk_drewN ?_ _ | refine blk_drew ?_ | refine blk_alloc ?_ _)); exact BK434.out) hb); have n7_ := Aside0.mk (blk_below (g := gb441) (o := .cells #[.int .i64 t436, .int .i64 t437, .string t438, .bool t439] 38 (0, 0)) (by (with_reducible repeat (first | refine blk_drewN ?_ _ | refine blk_drew ?_ | refine blk_alloc ?_ _)); refine blk_put (cs := #[.int .i64 t436, .int .i64 t437, .string t438, .bool false]) ?_ 3 _ rfl; (with_reducible repeat (first | refine blk_drewN ?_ _ | refine blk_drew ?_ | refine blk_alloc ?_ _)); refine blk_put (cs := #[.int .i64 t436, .int .i64 t437, .string (⟨#[]⟩ : ByteArray), .bool false]) ?_ 2 _ rfl; (with_reducible repeat (first | refine blk_drewN ?_ _ | refine blk_drew ?_ | refine blk_alloc ?_ _)); refine blk_put (cs := #[.int .i64 t436, .int .i64 0, .string (⟨#[]⟩ : ByteArray), .bool false]) ?_ 1 _ rfl; (with_reducible repeat (first | refine blk_drewN ?_ _ | refine blk_drew ?_ | refine blk_alloc ?_ _)); refine blk_put (cs := #[.int .i64 0, .int .i64 0, .string (⟨#[]⟩ : ByteArray), .bool false]) ?_ 0 _ rfl; (with_reducible repeat (first | refine blk_drewN ?_ _ | refine blk_drew ?_ | refine blk_alloc ?_ _)); exact BK441.out) hb); have n8_ := Aside0.mk (below_step (by repeat (first | (with_reducible first | exact HB.out | apply below_alloc | apply pw_below_drewN | apply below_drew1 | refine below_set ?_ GE396.out | refine below_set ?_ GE397.out | refine below_set ?_ GE403.out | refine below_set ?_ GE409.out | refine below_set ?_ GE419.out | refine below_set ?_ GE425.out | refine below_set ?_ GE434.out | refine below_set ?_ GE441.out) | exact HB.out)) hb); clear BK396; clear BK397; clear BK403; clear BK409; clear BK419; clear BK425; clear BK434; clear BK441; clear HB; have BK396 := n0_; have BK397 := n1_; have BK403 := n2_; have BK409 := n3_; have BK419 := n4_; have BK425 := n5_; have BK434 := n6_; have BK441 := n7_; have HB := n8_; clear n0_ n1_ n2_ n3_ n4_ n5_ n6_ n7_ n8_; (try clear hb); (try clear hb2); (try clear hk); (try clear hi)))
                            go_ret
                            exact ⟨by first | rfl | (simp [errW_none, errW_some] <;> rfl) | (simp [*, errW_none, errW_some] <;> rfl), by repeat (first | (with_reducible first | exact HB.out | apply below_alloc | apply pw_below_drewN | apply below_drew1 | refine below_set ?_ GE396.out | refine below_set ?_ GE397.out | refine below_set ?_ GE403.out | refine below_set ?_ GE409.out | refine below_set ?_ GE419.out | refine below_set ?_ GE425.out | refine below_set ?_ GE434.out | refine below_set ?_ GE441.out) | exact HB.out)⟩
                          · rw [if_neg c147] at H
                            exact absurd H (by simp)
                        · have H1 : (none) = some r := by rw [if_neg (show ¬ (some q442).isNone = true by simp)] at H; exact H
                          clear H
                          have H := H1
                          clear H1
                          try simp only [errW_none, errW_some]
                          exact absurd H (by simp)
                      · have H1 : ((barbicanlaw05_num.f (some q435)).bind fun t444 => (if t444 = 5 then ((barbicanlaw05_sure.f kj119).bind fun t445 => (some t445)) else (none))) = some r := by rw [if_neg (show ¬ (some q435).isNone = true by simp)] at H; exact H
                        clear H
                        have H := H1
                        clear H1
                        try simp only [errW_none, errW_some]
                        replace H := Option.bind_eq_some_iff.mp H
                        obtain ⟨t444, A1820, H⟩ := H
                        replace H : (if t444 = 5 then ((barbicanlaw05_sure.f kj119).bind fun t445 => (some t445)) else (none)) = some r := H
                        have A182 := Aside0.mk A1820
                        clear A1820
                        by_cases c183 : t444 = 5
                        · rw [if_pos c183] at H
                          have c183b0 : (t444 == 5) = true := beq_iff_eq.mpr c183
                          have c183b1 : (t444 != 5) = false := bne_eq_false_iff_eq.mpr c183
                          clear c183
                          replace H := Option.bind_eq_some_iff.mp H
                          obtain ⟨t445, A1840, H⟩ := H
                          replace H : (some t445) = some r := H
                          have A184 := Aside0.mk A1840
                          clear A1840
                          obtain rfl := Option.some.inj H
                          have hnb185 := NB396_397.out
                          have hnc185 := NB397_396.out
                          have hnb186 := NB396_403.out
                          have hnc186 := NB403_396.out
                          have hnb187 := NB396_409.out
                          have hnc187 := NB409_396.out
                          have hnb188 := NB396_419.out
                          have hnc188 := NB419_396.out
                          have hnb189 := NB396_425.out
                          have hnc189 := NB425_396.out
                          have hcz190_0 : wc.cell? ⟨gb396, 0, none⟩ = some (.int .i64 t388) := (blk_cell BK396.out 0).trans rfl
                          have hcz190_1 : wc.cell? ⟨gb396, 1, none⟩ = some (.int .i64 t389) := (blk_cell BK396.out 1).trans rfl
                          have hcz190_2 : wc.cell? ⟨gb396, 2, none⟩ = some (.string t390) := (blk_cell BK396.out 2).trans rfl
                          have hcz190_3 : wc.cell? ⟨gb396, 3, none⟩ = some (.bool t391) := (blk_cell BK396.out 3).trans rfl
                          have hfz190_0 := blk_frozen BK396.out 0
                          have hfz190_1 := blk_frozen BK396.out 1
                          have hfz190_2 := blk_frozen BK396.out 2
                          have hfz190_3 := blk_frozen BK396.out 3
                          have hnb191 := NB397_403.out
                          have hnc191 := NB403_397.out
                          have hnb192 := NB397_409.out
                          have hnc192 := NB409_397.out
                          have hnb193 := NB397_419.out
                          have hnc193 := NB419_397.out
                          have hnb194 := NB397_425.out
                          have hnc194 := NB425_397.out
                          have hcz195_0 : wc.cell? ⟨gb397, 0, none⟩ = some (.int .i64 t392) := (blk_cell BK397.out 0).trans rfl
                          have hcz195_1 : wc.cell? ⟨gb397, 1, none⟩ = some (.int .i64 t393) := (blk_cell BK397.out 1).trans rfl
                          have hcz195_2 : wc.cell? ⟨gb397, 2, none⟩ = some (.string t394) := (blk_cell BK397.out 2).trans rfl
                          have hcz195_3 : wc.cell? ⟨gb397, 3, none⟩ = some (.bool t395) := (blk_cell BK397.out 3).trans rfl
                          have hfz195_0 := blk_frozen BK397.out 0
                          have hfz195_1 := blk_frozen BK397.out 1
                          have hfz195_2 := blk_frozen BK397.out 2
                          have hfz195_3 := blk_frozen BK397.out 3
                          go_wp2_with (first | ((with_reducible refine gate_callee (f := 26) rfl ?_); refine goesL_ (some 162) rfl rfl Tryd.func26 (by kernel_rfl) rfl #[.int .u8 43, .agg #[.int .i64 t388, .int .i64 t389, .string t390, .bool t391], .agg #[.int .i64 t392, .int .i64 t393, .string t394, .bool t395]] rfl (by (try simp only [List.map_toArray, List.map_cons, List.map_nil]); first | done | rfl | (simp only [List.length_drop, List.length_take]; rfl)) ?_; (with_reducible refine (value_Reckon.calls kj119 43 t388 t389 t390 t391 t392 t393 t394 t395 t429 t430 t431 t432 (some q435) _ A145.out).mono ?_); rintro e w196 ⟨rfl, hb⟩; refine ⟨_, rfl, ?_⟩; have n0_ := Aside0.mk (blk_below (g := gb396) (o := .cells #[.int .i64 t388, .int .i64 t389, .string t390, .bool t391] 38 (0, 0)) (by (with_reducible repeat (first | refine blk_drewN ?_ _ | refine blk_drew ?_ | refine blk_alloc ?_ _)); exact BK396.out) hb); have n1_ := Aside0.mk (blk_below (g := gb397) (o := .cells #[.int .i64 t392, .int .i64 t393, .string t394, .bool t395] 38 (0, 0)) (by (with_reducible repeat (first | refine blk_drewN ?_ _ | refine blk_drew ?_ | refine blk_alloc ?_ _)); exact BK397.out) hb); have n2_ := Aside0.mk (blk_below (g := gb403) (o := .cells #[.int .i64 t398, .int .i64 t399, .string t400, .bool t401] 38 (0, 0)) (by (with_reducible repeat (first | refine blk_drewN ?_ _ | refine blk_drew ?_ | refine blk_alloc ?_ _)); exact BK403.out) hb); have n3_ := Aside0.mk (blk_below (g := gb409) (o := .cells #[.int .i64 t404, .int .i64 t405, .string t406, .bool t407] 38 (0, 0)) (by (with_reducible repeat (first | refine blk_drewN ?_ _ | refine blk_drew ?_ | refine blk_alloc ?_ _)); exact BK409.out) hb); have n4_ := Aside0.mk (blk_below (g := gb419) (o := .cells #[.int .i64 t414, .int .i64 t415, .string t416, .bool t417] 38 (0, 0)) (by (with_reducible repeat (first | refine blk_drewN ?_ _ | refine blk_drew ?_ | refine blk_alloc ?_ _)); exact BK419.out) hb); have n5_ := Aside0.mk (blk_below (g := gb425) (o := .cells #[.int .i64 t420, .int .i64 t421, .string t422, .bool t423] 38 (0, 0)) (by (with_reducible repeat (first | refine blk_drewN ?_ _ | refine blk_drew ?_ | refine blk_alloc ?_ _)); exact BK425.out) hb); have n6_ := Aside0.mk (below_step (by repeat (first | (with_reducible first | exact HB.out | apply below_alloc | apply pw_below_drewN | apply below_drew1 | refine below_set ?_ GE396.out | refine below_set ?_ GE397.out | refine below_set ?_ GE403.out | refine below_set ?_ GE409.out | refine below_set ?_ GE419.out | refine below_set ?_ GE425.out) | exact HB.out)) hb); clear BK396; clear BK397; clear BK403; clear BK409; clear BK419; clear BK425; clear HB; have BK396 := n0_; have BK397 := n1_; have BK403 := n2_; have BK409 := n3_; have BK419 := n4_; have BK425 := n5_; have HB := n6_; clear n0_ n1_ n2_ n3_ n4_ n5_ n6_; (try clear hb); (try clear hb2); (try clear hk); (try clear hi); (try simp only [errW_none, errW_some])) | ((with_reducible refine gate_dst (N := 16) rfl ?_); refine box_event ?hg (N := 16) ?hd (cs := #[.int .i64 0, .int .i64 0, .string (⟨#[]⟩ : ByteArray), .bool false]) (t := 38) ?hr ?_; (case hd => rfl); (case hg => rfl); (case hr => first | (go_simp; done) | (go_simp; rfl)); intro gb434 hg w197 hbox hb; have n0_ := Aside0.mk (blk_below (g := gb396) (o := .cells #[.int .i64 t388, .int .i64 t389, .string t390, .bool t391] 38 (0, 0)) (by (with_reducible repeat (first | refine blk_drewN ?_ _ | refine blk_drew ?_ | refine blk_alloc ?_ _)); exact BK396.out) hb); have n1_ := Aside0.mk (blk_below (g := gb397) (o := .cells #[.int .i64 t392, .int .i64 t393, .string t394, .bool t395] 38 (0, 0)) (by (with_reducible repeat (first | refine blk_drewN ?_ _ | refine blk_drew ?_ | refine blk_alloc ?_ _)); exact BK397.out) hb); have n2_ := Aside0.mk (blk_below (g := gb403) (o := .cells #[.int .i64 t398, .int .i64 t399, .string t400, .bool t401] 38 (0, 0)) (by (with_reducible repeat (first | refine blk_drewN ?_ _ | refine blk_drew ?_ | refine blk_alloc ?_ _)); exact BK403.out) hb); have n3_ := Aside0.mk (blk_below (g := gb409) (o := .cells #[.int .i64 t404, .int .i64 t405, .string t406, .bool t407] 38 (0, 0)) (by (with_reducible repeat (first | refine blk_drewN ?_ _ | refine blk_drew ?_ | refine blk_alloc ?_ _)); exact BK409.out) hb); have n4_ := Aside0.mk (blk_below (g := gb419) (o := .cells #[.int .i64 t414, .int .i64 t415, .string t416, .bool t417] 38 (0, 0)) (by (with_reducible repeat (first | refine blk_drewN ?_ _ | refine blk_drew ?_ | refine blk_alloc ?_ _)); exact BK419.out) hb); have n5_ := Aside0.mk (blk_below (g := gb425) (o := .cells #[.int .i64 t420, .int .i64 t421, .string t422, .bool t423] 38 (0, 0)) (by (with_reducible repeat (first | refine blk_drewN ?_ _ | refine blk_drew ?_ | refine blk_alloc ?_ _)); exact BK425.out) hb); have n6_ := Aside0.mk (below_step (by repeat (first | (with_reducible first | exact HB.out | apply below_alloc | apply pw_below_drewN | apply below_drew1 | refine below_set ?_ GE396.out | refine below_set ?_ GE397.out | refine below_set ?_ GE403.out | refine below_set ?_ GE409.out | refine below_set ?_ GE419.out | refine below_set ?_ GE425.out) | exact HB.out)) hb); have n7_ := Aside0.mk (hbox); have n8_ := Aside0.mk ((by rw [hg]; exact (below_size (by repeat (first | (with_reducible first | exact HB.out | apply below_alloc | apply pw_below_drewN | apply below_drew1 | refine below_set ?_ GE396.out | refine below_set ?_ GE397.out | refine below_set ?_ GE403.out | refine below_set ?_ GE409.out | refine below_set ?_ GE419.out | refine below_set ?_ GE425.out) | exact HB.out))) : w.heap.size ≤ gb434)); have n9_ := Aside0.mk ((by rw [hg]; exact (below_size (by repeat (first | (with_reducible first | exact HB.out | apply below_alloc | apply pw_below_drewN | apply below_drew1 | refine below_set ?_ GE396.out | refine below_set ?_ GE397.out | refine below_set ?_ GE403.out | refine below_set ?_ GE409.out | refine below_set ?_ GE419.out | refine below_set ?_ GE425.out) | exact HB.out))) : w.heap.size ≤ gb434)); have n10_ := Aside0.mk ((by rw [hg]; exact Nat.ne_of_lt (blk_lt (g := gb396) (o := .cells #[.int .i64 t388, .int .i64 t389, .string t390, .bool t391] 38 (0, 0)) (by (with_reducible repeat (first | refine blk_drewN ?_ _ | refine blk_drew ?_ | refine blk_alloc ?_ _)); exact BK396.out)) : gb396 ≠ gb434)); have n11_ := Aside0.mk ((by rw [hg]; exact Nat.ne_of_gt (blk_lt (g := gb396) (o := .cells #[.int .i64 t388, .int .i64 t389, .string t390, .bool t391] 38 (0, 0)) (by (with_reducible repeat (first | refine blk_drewN ?_ _ | refine blk_drew ?_ | refine blk_alloc ?_ _)); exact BK396.out)) : gb434 ≠ gb396)); have n12_ := Aside0.mk ((by rw [hg]; exact Nat.ne_of_lt (blk_lt (g := gb397) (o := .cells #[.int .i64 t392, .int .i64 t393, .string t394, .bool t395] 38 (0, 0)) (by (with_reducible repeat (first | refine blk_drewN ?_ _ | refine blk_drew ?_ | refine blk_alloc ?_ _)); exact BK397.out)) : gb397 ≠ gb434)); have n13_ := Aside0.mk ((by rw [hg]; exact Nat.ne_of_gt (blk_lt (g := gb397) (o := .cells #[.int .i64 t392, .int .i64 t393, .string t394, .bool t395] 38 (0, 0)) (by (with_reducible repeat (first | refine blk_drewN ?_ _ | refine blk_drew ?_ | refine blk_alloc ?_ _)); exact BK397.out)) : gb434 ≠ gb397)); have n14_ := Aside0.mk ((by rw [hg]; exact Nat.ne_of_lt (blk_lt (g := gb403) (o := .cells #[.int .i64 t398, .int .i64 t399, .string t400, .bool t401] 38 (0, 0)) (by (with_reducible repeat (first | refine blk_drewN ?_ _ | refine blk_drew ?_ | refine blk_alloc ?_ _)); exact BK403.out)) : gb403 ≠ gb434)); have n15_ := Aside0.mk ((by rw [hg]; exact Nat.ne_of_gt (blk_lt (g := gb403) (o := .cells #[.int .i64 t398, .int .i64 t399, .string t400, .bool t401] 38 (0, 0)) (by (with_reducible repeat (first | refine blk_drewN ?_ _ | refine blk_drew ?_ | refine blk_alloc ?_ _)); exact BK403.out)) : gb434 ≠ gb403)); have n16_ := Aside0.mk ((by rw [hg]; exact Nat.ne_of_lt (blk_lt (g := gb409) (o := .cells #[.int .i64 t404, .int .i64 t405, .string t406, .bool t407] 38 (0, 0)) (by (with_reducible repeat (first | refine blk_drewN ?_ _ | refine blk_drew ?_ | refine blk_alloc ?_ _)); exact BK409.out)) : gb409 ≠ gb434)); have n17_ := Aside0.mk ((by rw [hg]; exact Nat.ne_of_gt (blk_lt (g := gb409) (o := .cells #[.int .i64 t404, .int .i64 t405, .string t406, .bool t407] 38 (0, 0)) (by (with_reducible repeat (first | refine blk_drewN ?_ _ | refine blk_drew ?_ | refine blk_alloc ?_ _)); exact BK409.out)) : gb434 ≠ gb409)); have n18_ := Aside0.mk ((by rw [hg]; exact Nat.ne_of_lt (blk_lt (g := gb419) (o := .cells #[.int .i64 t414, .int .i64 t415, .string t416, .bool t417] 38 (0, 0)) (by (with_reducible repeat (first | refine blk_drewN ?_ _ | refine blk_drew ?_ | refine blk_alloc ?_ _)); exact BK419.out)) : gb419 ≠ gb434)); have n19_ := Aside0.mk ((by rw [hg]; exact Nat.ne_of_gt (blk_lt (g := gb419) (o := .cells #[.int .i64 t414, .int .i64 t415, .string t416, .bool t417] 38 (0, 0)) (by (with_reducible repeat (first | refine blk_drewN ?_ _ | refine blk_drew ?_ | refine blk_alloc ?_ _)); exact BK419.out)) : gb434 ≠ gb419)); have n20_ := Aside0.mk ((by rw [hg]; exact Nat.ne_of_lt (blk_lt (g := gb425) (o := .cells #[.int .i64 t420, .int .i64 t421, .string t422, .bool t423] 38 (0, 0)) (by (with_reducible repeat (first | refine blk_drewN ?_ _ | refine blk_drew ?_ | refine blk_alloc ?_ _)); exact BK425.out)) : gb425 ≠ gb434)); have n21_ := Aside0.mk ((by rw [hg]; exact Nat.ne_of_gt (blk_lt (g := gb425) (o := .cells #[.int .i64 t420, .int .i64 t421, .string t422, .bool t423] 38 (0, 0)) (by (with_reducible repeat (first | refine blk_drewN ?_ _ | refine blk_drew ?_ | refine blk_alloc ?_ _)); exact BK425.out)) : gb434 ≠ gb425)); clear BK396; clear BK397; clear BK403; clear BK409; clear BK419; clear BK425; clear HB; have BK396 := n0_; have BK397 := n1_; have BK403 := n2_; have BK409 := n3_; have BK419 := n4_; have BK425 := n5_; have HB := n6_; have BK434 := n7_; have GW434 := n8_; have GE434 := n9_; have NB396_434 := n10_; have NB434_396 := n11_; have NB397_434 := n12_; have NB434_397 := n13_; have NB403_434 := n14_; have NB434_403 := n15_; have NB409_434 := n16_; have NB434_409 := n17_; have NB419_434 := n18_; have NB434_419 := n19_; have NB425_434 := n20_; have NB434_425 := n21_; clear n0_ n1_ n2_ n3_ n4_ n5_ n6_ n7_ n8_ n9_ n10_ n11_ n12_ n13_ n14_ n15_ n16_ n17_ n18_ n19_ n20_ n21_; clear hb hbox hg; have hnb198 := NB434_396.out; have hnc198 := NB396_434.out; have hnb199 := NB434_397.out; have hnc199 := NB397_434.out; have hnb200 := NB434_403.out; have hnc200 := NB403_434.out; have hnb201 := NB434_409.out; have hnc201 := NB409_434.out; have hnb202 := NB434_419.out; have hnc202 := NB419_434.out; have hnb203 := NB434_425.out; have hnc203 := NB425_434.out; have hcz204_0 : w197.cell? ⟨gb434, 0, none⟩ = some (.int .i64 0) := (blk_cell BK434.out 0).trans rfl; have hcz204_1 : w197.cell? ⟨gb434, 1, none⟩ = some (.int .i64 0) := (blk_cell BK434.out 1).trans rfl; have hcz204_2 : w197.cell? ⟨gb434, 2, none⟩ = some (.string (⟨#[]⟩ : ByteArray)) := (blk_cell BK434.out 2).trans rfl; have hcz204_3 : w197.cell? ⟨gb434, 3, none⟩ = some (.bool false) := (blk_cell BK434.out 3).trans rfl; have hfz204_0 := blk_frozen BK434.out 0; have hfz204_1 := blk_frozen BK434.out 1; have hfz204_2 := blk_frozen BK434.out 2; have hfz204_3 := blk_frozen BK434.out 3; have CA182 := fun W (hG_ : GW W) => barbicanlaw05_num.calls (some q435) t444 W hG_ A182.out; try simp only [errW_none, errW_some] at CA182) | (go_at_call 29; (with_reducible refine (CA182 _ ?side1).mono ?_); (case side1 => exact GW_below HG.out (by repeat (first | (with_reducible first | exact HB.out | apply below_alloc | apply pw_below_drewN | apply below_drew1 | refine below_set ?_ GE396.out | refine below_set ?_ GE397.out | refine below_set ?_ GE403.out | refine below_set ?_ GE409.out | refine below_set ?_ GE419.out | refine below_set ?_ GE425.out | refine below_set ?_ GE434.out) | exact HB.out))); rintro e w205 ⟨rfl, hb⟩; have n0_ := Aside0.mk (blk_below (g := gb396) (o := .cells #[.int .i64 t388, .int .i64 t389, .string t390, .bool t391] 38 (0, 0)) (by (with_reducible repeat (first | refine blk_drewN ?_ _ | refine blk_drew ?_ | refine blk_alloc ?_ _)); refine blk_far ?_ NB396_434.out _; (with_reducible repeat (first | refine blk_drewN ?_ _ | refine blk_drew ?_ | refine blk_alloc ?_ _)); refine blk_far ?_ NB396_434.out _; (with_reducible repeat (first | refine blk_drewN ?_ _ | refine blk_drew ?_ | refine blk_alloc ?_ _)); refine blk_far ?_ NB396_434.out _; (with_reducible repeat (first | refine blk_drewN ?_ _ | refine blk_drew ?_ | refine blk_alloc ?_ _)); refine blk_far ?_ NB396_434.out _; (with_reducible repeat (first | refine blk_drewN ?_ _ | refine blk_drew ?_ | refine blk_alloc ?_ _)); exact BK396.out) hb); have n1_ := Aside0.mk (blk_below (g := gb397) (o := .cells #[.int .i64 t392, .int .i64 t393, .string t394, .bool t395] 38 (0, 0)) (by (with_reducible repeat (first | refine blk_drewN ?_ _ | refine blk_drew ?_ | refine blk_alloc ?_ _)); refine blk_far ?_ NB397_434.out _; (with_reducible repeat (first | refine blk_drewN ?_ _ | refine blk_drew ?_ | refine blk_alloc ?_ _)); refine blk_far ?_ NB397_434.out _; (with_reducible repeat (first | refine blk_drewN ?_ _ | refine blk_drew ?_ | refine blk_alloc ?_ _)); refine blk_far ?_ NB397_434.out _; (with_reducible repeat (first | refine blk_drewN ?_ _ | refine blk_drew ?_ | refine blk_alloc ?_ _)); refine blk_far ?_ NB397_434.out _; (with_reducible repeat (first | refine blk_drewN ?_ _ | refine blk_drew ?_ | refine blk_alloc ?_ _)); exact BK397.out) hb); have n2_ := Aside0.mk (blk_below (g := gb403) (o := .cells #[.int .i64 t398, .int .i64 t399, .string t400, .bool t401] 38 (0, 0)) (by (with_reducible repeat (first | refine blk_drewN ?_ _ | refine blk_drew ?_ | refine blk_alloc ?_ _)); refine blk_far ?_ NB403_434.out _; (with_reducible repeat (first | refine blk_drewN ?_ _ | refine blk_drew ?_ | refine blk_alloc ?_ _)); refine blk_far ?_ NB403_434.out _; (with_reducible repeat (first | refine blk_drewN ?_ _ | refine blk_drew ?_ | refine blk_alloc ?_ _)); refine blk_far ?_ NB403_434.out _; (with_reducible repeat (first | refine blk_drewN ?_ _ | refine blk_drew ?_ | refine blk_alloc ?_ _)); refine blk_far ?_ NB403_434.out _; (with_reducible repeat (first | refine blk_drewN ?_ _ | refine blk_drew ?_ | refine blk_alloc ?_ _)); exact BK403.out) hb); have n3_ := Aside0.mk (blk_below (g := gb409) (o := .cells #[.int .i64 t404, .int .i64 t405, .string t406, .bool t407] 38 (0, 0)) (by (with_reducible repeat (first | refine blk_drewN ?_ _ | refine blk_drew ?_ | refine blk_alloc ?_ _)); refine blk_far ?_ NB409_434.out _; (with_reducible repeat (first | refine blk_drewN ?_ _ | refine blk_drew ?_ | refine blk_alloc ?_ _)); refine blk_far ?_ NB409_434.out _; (with_reducible repeat (first | refine blk_drewN ?_ _ | refine blk_drew ?_ | refine blk_alloc ?_ _)); refine blk_far ?_ NB409_434.out _; (with_reducible repeat (first | refine blk_drewN ?_ _ | refine blk_drew ?_ | refine blk_alloc ?_ _)); refine blk_far ?_ NB409_434.out _; (with_reducible repeat (first | refine blk_drewN ?_ _ | refine blk_drew ?_ | refine blk_alloc ?_ _)); exact BK409.out) hb); have n4_ := Aside0.mk (blk_below (g := gb419) (o := .cells #[.int .i64 t414, .int .i64 t415, .string t416, .bool t417] 38 (0, 0)) (by (with_reducible repeat (first | refine blk_drewN ?_ _ | refine blk_drew ?_ | refine blk_alloc ?_ _)); refine blk_far ?_ NB419_434.out _; (with_reducible repeat (first | refine blk_drewN ?_ _ | refine blk_drew ?_ | refine blk_alloc ?_ _)); refine blk_far ?_ NB419_434.out _; (with_reducible repeat (first | refine blk_drewN ?_ _ | refine blk_drew ?_ | refine blk_alloc ?_ _)); refine blk_far ?_ NB419_434.out _; (with_reducible repeat (first | refine blk_drewN ?_ _ | refine blk_drew ?_ | refine blk_alloc ?_ _)); refine blk_far ?_ NB419_434.out _; (with_reducible repeat (first | refine blk_drewN ?_ _ | refine blk_drew ?_ | refine blk_alloc ?_ _)); exact BK419.out) hb); have n5_ := Aside0.mk (blk_below (g := gb425) (o := .cells #[.int .i64 t420, .int .i64 t421, .string t422, .bool t423] 38 (0, 0)) (by (with_reducible repeat (first | refine blk_drewN ?_ _ | refine blk_drew ?_ | refine blk_alloc ?_ _)); refine blk_far ?_ NB425_434.out _; (with_reducible repeat (first | refine blk_drewN ?_ _ | refine blk_drew ?_ | refine blk_alloc ?_ _)); refine blk_far ?_ NB425_434.out _; (with_reducible repeat (first | refine blk_drewN ?_ _ | refine blk_drew ?_ | refine blk_alloc ?_ _)); refine blk_far ?_ NB425_434.out _; (with_reducible repeat (first | refine blk_drewN ?_ _ | refine blk_drew ?_ | refine blk_alloc ?_ _)); refine blk_far ?_ NB425_434.out _; (with_reducible repeat (first | refine blk_drewN ?_ _ | refine blk_drew ?_ | refine blk_alloc ?_ _)); exact BK425.out) hb); have n6_ := Aside0.mk (blk_below (g := gb434) (o := .cells #[.int .i64 t429, .int .i64 t430, .string t431, .bool t432] 38 (0, 0)) (by (with_reducible repeat (first | refine blk_drewN ?_ _ | refine blk_drew ?_ | refine blk_alloc ?_ _)); refine blk_put (cs := #[.int .i64 t429, .int .i64 t430, .string t431, .bool false]) ?_ 3 _ rfl; (with_reducible repeat (first | refine blk_drewN ?_ _ | refine blk_drew ?_ | refine blk_alloc ?_ _)); refine blk_put (cs := #[.int .i64 t429, .int .i64 t430, .string (⟨#[]⟩ : ByteArray), .bool false]) ?_ 2 _ rfl; (with_reducible repeat (first | refine blk_drewN ?_ _ | refine blk_drew ?_ | refine blk_alloc ?_ _)); refine blk_put (cs := #[.int .i64 t429, .int .i64 0, .string (⟨#[]⟩ : ByteArray), .bool false]) ?_ 1 _ rfl; (with_reducible repeat (first | refine blk_drewN ?_ _ | refine blk_drew ?_ | refine blk_alloc ?_ _)); refine blk_put (cs := #[.int .i64 0, .int .i64 0, .string (⟨#[]⟩ : ByteArray), .bool false]) ?_ 0 _ rfl; (with_reducible repeat (first | refine blk_drewN ?_ _ | refine blk_drew ?_ | refine blk_alloc ?_ _)); exact BK434.out) hb); have n7_ := Aside0.mk (below_step (by repeat (first | (with_reducible first | exact HB.out | apply below_alloc | apply pw_below_drewN | apply below_drew1 | refine below_set ?_ GE396.out | refine below_set ?_ GE397.out | refine below_set ?_ GE403.out | refine below_set ?_ GE409.out | refine below_set ?_ GE419.out | refine below_set ?_ GE425.out | refine below_set ?_ GE434.out) | exact HB.out)) hb); clear BK396; clear BK397; clear BK403; clear BK409; clear BK419; clear BK425; clear BK434; clear HB; have BK396 := n0_; have BK397 := n1_; have BK403 := n2_; have BK409 := n3_; have BK419 := n4_; have BK425 := n5_; have BK434 := n6_; have HB := n7_; clear n0_ n1_ n2_ n3_ n4_ n5_ n6_ n7_; (try clear hb); (try clear hb2); (try clear hk); (try clear hi)) | (go_at_call 22; (with_reducible refine (barbicanlaw05_sure.calls kj119  t445 _ ?side1 A184.out).mono ?_); (case side1 => exact GW_below HG.out (by repeat (first | (with_reducible first | exact HB.out | apply below_alloc | apply pw_below_drewN | apply below_drew1 | refine below_set ?_ GE396.out | refine below_set ?_ GE397.out | refine below_set ?_ GE403.out | refine below_set ?_ GE409.out | refine below_set ?_ GE419.out | refine below_set ?_ GE425.out | refine below_set ?_ GE434.out) | exact HB.out))); rintro e w206 ⟨rfl, hb⟩; have n0_ := Aside0.mk (blk_below (g := gb396) (o := .cells #[.int .i64 t388, .int .i64 t389, .string t390, .bool t391] 38 (0, 0)) (by (with_reducible repeat (first | refine blk_drewN ?_ _ | refine blk_drew ?_ | refine blk_alloc ?_ _)); exact BK396.out) hb); have n1_ := Aside0.mk (blk_below (g := gb397) (o := .cells #[.int .i64 t392, .int .i64 t393, .string t394, .bool t395] 38 (0, 0)) (by (with_reducible repeat (first | refine blk_drewN ?_ _ | refine blk_drew ?_ | refine blk_alloc ?_ _)); exact BK397.out) hb); have n2_ := Aside0.mk (blk_below (g := gb403) (o := .cells #[.int .i64 t398, .int .i64 t399, .string t400, .bool t401] 38 (0, 0)) (by (with_reducible repeat (first | refine blk_drewN ?_ _ | refine blk_drew ?_ | refine blk_alloc ?_ _)); exact BK403.out) hb); have n3_ := Aside0.mk (blk_below (g := gb409) (o := .cells #[.int .i64 t404, .int .i64 t405, .string t406, .bool t407] 38 (0, 0)) (by (with_reducible repeat (first | refine blk_drewN ?_ _ | refine blk_drew ?_ | refine blk_alloc ?_ _)); exact BK409.out) hb); have n4_ := Aside0.mk (blk_below (g := gb419) (o := .cells #[.int .i64 t414, .int .i64 t415, .string t416, .bool t417] 38 (0, 0)) (by (with_reducible repeat (first | refine blk_drewN ?_ _ | refine blk_drew ?_ | refine blk_alloc ?_ _)); exact BK419.out) hb); have n5_ := Aside0.mk (blk_below (g := gb425) (o := .cells #[.int .i64 t420, .int .i64 t421, .string t422, .bool t423] 38 (0, 0)) (by (with_reducible repeat (first | refine blk_drewN ?_ _ | refine blk_drew ?_ | refine blk_alloc ?_ _)); exact BK425.out) hb); have n6_ := Aside0.mk (blk_below (g := gb434) (o := .cells #[.int .i64 t429, .int .i64 t430, .string t431, .bool t432] 38 (0, 0)) (by (with_reducible repeat (first | refine blk_drewN ?_ _ | refine blk_drew ?_ | refine blk_alloc ?_ _)); exact BK434.out) hb); have n7_ := Aside0.mk (below_step (by repeat (first | (with_reducible first | exact HB.out | apply below_alloc | apply pw_below_drewN | apply below_drew1 | refine below_set ?_ GE396.out | refine below_set ?_ GE397.out | refine below_set ?_ GE403.out | refine below_set ?_ GE409.out | refine below_set ?_ GE419.out | refine below_set ?_ GE425.out | refine below_set ?_ GE434.out) | exact HB.out)) hb); clear BK396; clear BK397; clear BK403; clear BK409; clear BK419; clear BK425; clear BK434; clear HB; have BK396 := n0_; have BK397 := n1_; have BK403 := n2_; have BK409 := n3_; have BK419 := n4_; have BK425 := n5_; have BK434 := n6_; have HB := n7_; clear n0_ n1_ n2_ n3_ n4_ n5_ n6_ n7_; (try clear hb); (try clear hb2); (try clear hk); (try clear hi)))
                          go_ret
                          exact ⟨by first | rfl | (simp [errW_none, errW_some] <;> rfl) | (simp [*, errW_none, errW_some] <;> rfl), by repeat (first | (with_reducible first | exact HB.out | apply below_alloc | apply pw_below_drewN | apply below_drew1 | refine below_set ?_ GE396.out | refine below_set ?_ GE397.out | refine below_set ?_ GE403.out | refine below_set ?_ GE409.out | refine below_set ?_ GE419.out | refine below_set ?_ GE425.out | refine below_set ?_ GE434.out) | exact HB.out)⟩
                        · rw [if_neg c183] at H
                          exact absurd H (by simp)
        · have H1 : (none) = some r := by rw [if_neg (show ¬ (some q427).isNone = true by simp)] at H; exact H
          clear H
          have H := H1
          clear H1
          try simp only [errW_none, errW_some]
          exact absurd H (by simp)
      · have H1 : (none) = some r := by rw [if_neg (show ¬ (some q426).isNone = true by simp)] at H; exact H
        clear H
        have H := H1
        clear H1
        try simp only [errW_none, errW_some]
        exact absurd H (by simp)
    · exact absurd (HE.out _ _ _ A3.out A4.out A5.out) (by simp)
end Go.Proofs.YtljadejgdbemoaaDoor.B

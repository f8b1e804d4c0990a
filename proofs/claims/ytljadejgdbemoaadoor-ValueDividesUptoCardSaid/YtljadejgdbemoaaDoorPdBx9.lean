-- Written by wip/xprint.py of this session's own repo (a patched run of the kit's printer). Not trusted: Lean checks it.
import Derived.Test.YtljadejgdbemoaaDoorPdBx8
namespace Go.Proofs.YtljadejgdbemoaaDoor.B
open Go.RowKit Go.Proofs.YtljadejgdbemoaaDoorW.PrintWords Go.Proofs.YtljadejgdbemoaaDoorW.PrintLast Go.Proofs.YtljadejgdbemoaaDoorW.PrintMore Go.Proofs.YtljadejgdbemoaaDoorX
attribute [local go_sem] max2_int min2_int max_two min_two max_three min_three max_four min_four
set_option linter.unusedVariables false
set_option linter.unusedSimpArgs false

attribute [local go_sem high] eqA38

set_option maxHeartbeats 8000000 in
set_option maxRecDepth 100000 in
theorem barbicanlaw05_ValueDivides.calls_b (k : Nat) (a0 : Int) (a1 : Int) (r : Bool) (w : World) (hG : GW w) (he : ∀ p q z, value_Int.f a0 = some p → value_Int.f a1 = some q → value_Reckon.f k 47 p.1 p.2.1 p.2.2.1 p.2.2.2 q.1 q.2.1 q.2.2.1 q.2.2.2 = some z → z.2.2.2.2 ≠ none) (h : barbicanlaw05_ValueDivides.f k a0 a1 = some r) :
    Calls Tryd.prog 8 #[.int .i64 a0, .int .i64 a1] w fun e w' => e = .returned (.bool r) ∧ Below w.heap.size w w' := by
  have hu38 := Tryd.underlying38
  have hu28 := Tryd.underlying28
  have hu72 := Tryd.underlying72
  have HB := Aside0.mk (Below.refl w.heap.size w)
  have HG := Aside0.mk hG
  clear hG
  have HE := Aside0.mk he
  clear he
  have H : ((value_Int.f a0).bind fun bt388 => ((value_Int.f a1).bind fun bt392 => ((value_Reckon.f k 47 bt388.1 bt388.2.1 bt388.2.2.1 bt388.2.2.2 bt392.1 bt392.2.1 bt392.2.2.1 bt392.2.2.2).bind fun bt398 => ((value_Reckon.f k 37 bt388.1 bt388.2.1 bt388.2.2.1 bt388.2.2.2 bt392.1 bt392.2.1 bt392.2.2.1 bt392.2.2.2).bind fun bt404 => (if a1 = 0 then ((barbicanlaw05_num.f bt398.2.2.2.2).bind fun t410 => (if t410 = 6 then ((barbicanlaw05_num.f bt404.2.2.2.2).bind fun t411 => (if t411 = 6 then ((barbicanlaw05_sure.f k).bind fun t412 => (some t412)) else (none))) else (none))) else (if bt398.2.2.2.2.isNone = true then ((value_Reckon.f k 42 bt398.1 bt398.2.1 bt398.2.2.1 bt398.2.2.2.1 bt392.1 bt392.2.1 bt392.2.2.1 bt392.2.2.2).bind fun bt414 => ((value_Reckon.f k 43 bt414.1 bt414.2.1 bt414.2.2.1 bt414.2.2.2.1 bt404.1 bt404.2.1 bt404.2.2.1 bt404.2.2.2.1).bind fun bt420 => (if bt414.2.2.2.2.isNone = true then (if bt420.2.2.2.2.isNone = true then (if (!(bt420.1 == bt388.1) || (!(bt420.2.1 == bt388.2.1) || (!(bt420.2.2.1.toList == bt388.2.2.1.toList) || (!(bt420.2.2.2.1 == bt388.2.2.2))))) = true then (none) else (if bt404.2.1 < 0 then (if a1 < 0 then (if bt404.2.1 > a1 then (barbicanlaw05_ValueDivides.j0 k a0 bt404.2.2.2.2 true bt388.1 bt388.2.1 bt388.2.2.1 bt388.2.2.2 bt392.1 bt392.2.1 bt392.2.2.1 bt392.2.2.2 bt404.1 bt404.2.1 bt404.2.2.1 bt404.2.2.2.1) else (if a1 > 0 then (none) else (if a1 = (-9223372036854775808) then (barbicanlaw05_ValueDivides.j0 k a0 bt404.2.2.2.2 true bt388.1 bt388.2.1 bt388.2.2.1 bt388.2.2.2 bt392.1 bt392.2.1 bt392.2.2.1 bt392.2.2.2 bt404.1 bt404.2.1 bt404.2.2.1 bt404.2.2.2.1) else (none)))) else (if a1 > 0 then (if bt404.2.1 > (wrap64 (-a1)) then (barbicanlaw05_ValueDivides.j0 k a0 bt404.2.2.2.2 true bt388.1 bt388.2.1 bt388.2.2.1 bt388.2.2.2 bt392.1 bt392.2.1 bt392.2.2.1 bt392.2.2.2 bt404.1 bt404.2.1 bt404.2.2.1 bt404.2.2.2.1) else (none)) else (none))) else (if bt404.2.1 ≥ 0 then (if a1 > 0 then (if bt404.2.1 < a1 then (barbicanlaw05_ValueDivides.j0 k a0 bt404.2.2.2.2 true bt388.1 bt388.2.1 bt388.2.2.1 bt388.2.2.2 bt392.1 bt392.2.1 bt392.2.2.1 bt392.2.2.2 bt404.1 bt404.2.1 bt404.2.2.1 bt404.2.2.2.1) else (none)) else (if a1 < 0 then (barbicanlaw05_ValueDivides.j0 k a0 bt404.2.2.2.2 (decide ((wrap64 (-bt404.2.1)) > a1)) bt388.1 bt388.2.1 bt388.2.2.1 bt388.2.2.2 bt392.1 bt392.2.1 bt392.2.2.1 bt392.2.2.2 bt404.1 bt404.2.1 bt404.2.2.1 bt404.2.2.2.1) else (none))) else (none)))) else (none)) else (none)))) else ((barbicanlaw05_num.f (some (bt398.2.2.2.2.getD 0))).bind fun t446 => (if t446 = 5 then (if a1 = (-1) then (if bt404.2.1 < 0 then (if a1 < 0 then (if bt404.2.1 > a1 then (barbicanlaw05_ValueDivides.j2 k a0 bt404.2.2.2.2 true bt388.1 bt388.2.1 bt388.2.2.1 bt388.2.2.2 bt392.1 bt392.2.1 bt392.2.2.1 bt392.2.2.2 bt404.1 bt404.2.1 bt404.2.2.1 bt404.2.2.2.1) else (none)) else (none)) else (if bt404.2.1 ≥ 0 then (if a1 > 0 then (none) else (if a1 < 0 then (barbicanlaw05_ValueDivides.j2 k a0 bt404.2.2.2.2 (decide ((wrap64 (-bt404.2.1)) > a1)) bt388.1 bt388.2.1 bt388.2.2.1 bt388.2.2.2 bt392.1 bt392.2.1 bt392.2.2.1 bt392.2.2.2 bt404.1 bt404.2.1 bt404.2.2.1 bt404.2.2.2.1) else (none))) else (none))) else (none)) else (none))))))))) = some r := h
  clear h
  replace H := Option.bind_eq_some_iff.mp H
  obtain ⟨⟨t388, t389, t390, t391⟩, A30, H⟩ := H
  replace H : ((value_Int.f a1).bind fun bt392 => ((value_Reckon.f k 47 t388 t389 t390 t391 bt392.1 bt392.2.1 bt392.2.2.1 bt392.2.2.2).bind fun bt398 => ((value_Reckon.f k 37 t388 t389 t390 t391 bt392.1 bt392.2.1 bt392.2.2.1 bt392.2.2.2).bind fun bt404 => (if a1 = 0 then ((barbicanlaw05_num.f bt398.2.2.2.2).bind fun t410 => (if t410 = 6 then ((barbicanlaw05_num.f bt404.2.2.2.2).bind fun t411 => (if t411 = 6 then ((barbicanlaw05_sure.f k).bind fun t412 => (some t412)) else (none))) else (none))) else (if bt398.2.2.2.2.isNone = true then ((value_Reckon.f k 42 bt398.1 bt398.2.1 bt398.2.2.1 bt398.2.2.2.1 bt392.1 bt392.2.1 bt392.2.2.1 bt392.2.2.2).bind fun bt414 => ((value_Reckon.f k 43 bt414.1 bt414.2.1 bt414.2.2.1 bt414.2.2.2.1 bt404.1 bt404.2.1 bt404.2.2.1 bt404.2.2.2.1).bind fun bt420 => (if bt414.2.2.2.2.isNone = true then (if bt420.2.2.2.2.isNone = true then (if (!(bt420.1 == t388) || (!(bt420.2.1 == t389) || (!(bt420.2.2.1.toList == t390.toList) || (!(bt420.2.2.2.1 == t391))))) = true then (none) else (if bt404.2.1 < 0 then (if a1 < 0 then (if bt404.2.1 > a1 then (barbicanlaw05_ValueDivides.j0 k a0 bt404.2.2.2.2 true t388 t389 t390 t391 bt392.1 bt392.2.1 bt392.2.2.1 bt392.2.2.2 bt404.1 bt404.2.1 bt404.2.2.1 bt404.2.2.2.1) else (if a1 > 0 then (none) else (if a1 = (-9223372036854775808) then (barbicanlaw05_ValueDivides.j0 k a0 bt404.2.2.2.2 true t388 t389 t390 t391 bt392.1 bt392.2.1 bt392.2.2.1 bt392.2.2.2 bt404.1 bt404.2.1 bt404.2.2.1 bt404.2.2.2.1) else (none)))) else (if a1 > 0 then (if bt404.2.1 > (wrap64 (-a1)) then (barbicanlaw05_ValueDivides.j0 k a0 bt404.2.2.2.2 true t388 t389 t390 t391 bt392.1 bt392.2.1 bt392.2.2.1 bt392.2.2.2 bt404.1 bt404.2.1 bt404.2.2.1 bt404.2.2.2.1) else (none)) else (none))) else (if bt404.2.1 ≥ 0 then (if a1 > 0 then (if bt404.2.1 < a1 then (barbicanlaw05_ValueDivides.j0 k a0 bt404.2.2.2.2 true t388 t389 t390 t391 bt392.1 bt392.2.1 bt392.2.2.1 bt392.2.2.2 bt404.1 bt404.2.1 bt404.2.2.1 bt404.2.2.2.1) else (none)) else (if a1 < 0 then (barbicanlaw05_ValueDivides.j0 k a0 bt404.2.2.2.2 (decide ((wrap64 (-bt404.2.1)) > a1)) t388 t389 t390 t391 bt392.1 bt392.2.1 bt392.2.2.1 bt392.2.2.2 bt404.1 bt404.2.1 bt404.2.2.1 bt404.2.2.2.1) else (none))) else (none)))) else (none)) else (none)))) else ((barbicanlaw05_num.f (some (bt398.2.2.2.2.getD 0))).bind fun t446 => (if t446 = 5 then (if a1 = (-1) then (if bt404.2.1 < 0 then (if a1 < 0 then (if bt404.2.1 > a1 then (barbicanlaw05_ValueDivides.j2 k a0 bt404.2.2.2.2 true t388 t389 t390 t391 bt392.1 bt392.2.1 bt392.2.2.1 bt392.2.2.2 bt404.1 bt404.2.1 bt404.2.2.1 bt404.2.2.2.1) else (none)) else (none)) else (if bt404.2.1 ≥ 0 then (if a1 > 0 then (none) else (if a1 < 0 then (barbicanlaw05_ValueDivides.j2 k a0 bt404.2.2.2.2 (decide ((wrap64 (-bt404.2.1)) > a1)) t388 t389 t390 t391 bt392.1 bt392.2.1 bt392.2.2.1 bt392.2.2.2 bt404.1 bt404.2.1 bt404.2.2.1 bt404.2.2.2.1) else (none))) else (none))) else (none)) else (none)))))))) = some r := H
  have A3 := Aside0.mk A30
  clear A30
  replace H := Option.bind_eq_some_iff.mp H
  obtain ⟨⟨t392, t393, t394, t395⟩, A40, H⟩ := H
  replace H : ((value_Reckon.f k 47 t388 t389 t390 t391 t392 t393 t394 t395).bind fun bt398 => ((value_Reckon.f k 37 t388 t389 t390 t391 t392 t393 t394 t395).bind fun bt404 => (if a1 = 0 then ((barbicanlaw05_num.f bt398.2.2.2.2).bind fun t410 => (if t410 = 6 then ((barbicanlaw05_num.f bt404.2.2.2.2).bind fun t411 => (if t411 = 6 then ((barbicanlaw05_sure.f k).bind fun t412 => (some t412)) else (none))) else (none))) else (if bt398.2.2.2.2.isNone = true then ((value_Reckon.f k 42 bt398.1 bt398.2.1 bt398.2.2.1 bt398.2.2.2.1 t392 t393 t394 t395).bind fun bt414 => ((value_Reckon.f k 43 bt414.1 bt414.2.1 bt414.2.2.1 bt414.2.2.2.1 bt404.1 bt404.2.1 bt404.2.2.1 bt404.2.2.2.1).bind fun bt420 => (if bt414.2.2.2.2.isNone = true then (if bt420.2.2.2.2.isNone = true then (if (!(bt420.1 == t388) || (!(bt420.2.1 == t389) || (!(bt420.2.2.1.toList == t390.toList) || (!(bt420.2.2.2.1 == t391))))) = true then (none) else (if bt404.2.1 < 0 then (if a1 < 0 then (if bt404.2.1 > a1 then (barbicanlaw05_ValueDivides.j0 k a0 bt404.2.2.2.2 true t388 t389 t390 t391 t392 t393 t394 t395 bt404.1 bt404.2.1 bt404.2.2.1 bt404.2.2.2.1) else (if a1 > 0 then (none) else (if a1 = (-9223372036854775808) then (barbicanlaw05_ValueDivides.j0 k a0 bt404.2.2.2.2 true t388 t389 t390 t391 t392 t393 t394 t395 bt404.1 bt404.2.1 bt404.2.2.1 bt404.2.2.2.1) else (none)))) else (if a1 > 0 then (if bt404.2.1 > (wrap64 (-a1)) then (barbicanlaw05_ValueDivides.j0 k a0 bt404.2.2.2.2 true t388 t389 t390 t391 t392 t393 t394 t395 bt404.1 bt404.2.1 bt404.2.2.1 bt404.2.2.2.1) else (none)) else (none))) else (if bt404.2.1 ≥ 0 then (if a1 > 0 then (if bt404.2.1 < a1 then (barbicanlaw05_ValueDivides.j0 k a0 bt404.2.2.2.2 true t388 t389 t390 t391 t392 t393 t394 t395 bt404.1 bt404.2.1 bt404.2.2.1 bt404.2.2.2.1) else (none)) else (if a1 < 0 then (barbicanlaw05_ValueDivides.j0 k a0 bt404.2.2.2.2 (decide ((wrap64 (-bt404.2.1)) > a1)) t388 t389 t390 t391 t392 t393 t394 t395 bt404.1 bt404.2.1 bt404.2.2.1 bt404.2.2.2.1) else (none))) else (none)))) else (none)) else (none)))) else ((barbicanlaw05_num.f (some (bt398.2.2.2.2.getD 0))).bind fun t446 => (if t446 = 5 then (if a1 = (-1) then (if bt404.2.1 < 0 then (if a1 < 0 then (if bt404.2.1 > a1 then (barbicanlaw05_ValueDivides.j2 k a0 bt404.2.2.2.2 true t388 t389 t390 t391 t392 t393 t394 t395 bt404.1 bt404.2.1 bt404.2.2.1 bt404.2.2.2.1) else (none)) else (none)) else (if bt404.2.1 ≥ 0 then (if a1 > 0 then (none) else (if a1 < 0 then (barbicanlaw05_ValueDivides.j2 k a0 bt404.2.2.2.2 (decide ((wrap64 (-bt404.2.1)) > a1)) t388 t389 t390 t391 t392 t393 t394 t395 bt404.1 bt404.2.1 bt404.2.2.1 bt404.2.2.2.1) else (none))) else (none))) else (none)) else (none))))))) = some r := H
  have A4 := Aside0.mk A40
  clear A40
  replace H := Option.bind_eq_some_iff.mp H
  obtain ⟨⟨t398, t399, t400, t401, t402⟩, A50, H⟩ := H
  replace H : ((value_Reckon.f k 37 t388 t389 t390 t391 t392 t393 t394 t395).bind fun bt404 => (if a1 = 0 then ((barbicanlaw05_num.f t402).bind fun t410 => (if t410 = 6 then ((barbicanlaw05_num.f bt404.2.2.2.2).bind fun t411 => (if t411 = 6 then ((barbicanlaw05_sure.f k).bind fun t412 => (some t412)) else (none))) else (none))) else (if t402.isNone = true then ((value_Reckon.f k 42 t398 t399 t400 t401 t392 t393 t394 t395).bind fun bt414 => ((value_Reckon.f k 43 bt414.1 bt414.2.1 bt414.2.2.1 bt414.2.2.2.1 bt404.1 bt404.2.1 bt404.2.2.1 bt404.2.2.2.1).bind fun bt420 => (if bt414.2.2.2.2.isNone = true then (if bt420.2.2.2.2.isNone = true then (if (!(bt420.1 == t388) || (!(bt420.2.1 == t389) || (!(bt420.2.2.1.toList == t390.toList) || (!(bt420.2.2.2.1 == t391))))) = true then (none) else (if bt404.2.1 < 0 then (if a1 < 0 then (if bt404.2.1 > a1 then (barbicanlaw05_ValueDivides.j0 k a0 bt404.2.2.2.2 true t388 t389 t390 t391 t392 t393 t394 t395 bt404.1 bt404.2.1 bt404.2.2.1 bt404.2.2.2.1) else (if a1 > 0 then (none) else (if a1 = (-9223372036854775808) then (barbicanlaw05_ValueDivides.j0 k a0 bt404.2.2.2.2 true t388 t389 t390 t391 t392 t393 t394 t395 bt404.1 bt404.2.1 bt404.2.2.1 bt404.2.2.2.1) else (none)))) else (if a1 > 0 then (if bt404.2.1 > (wrap64 (-a1)) then (barbicanlaw05_ValueDivides.j0 k a0 bt404.2.2.2.2 true t388 t389 t390 t391 t392 t393 t394 t395 bt404.1 bt404.2.1 bt404.2.2.1 bt404.2.2.2.1) else (none)) else (none))) else (if bt404.2.1 ≥ 0 then (if a1 > 0 then (if bt404.2.1 < a1 then (barbicanlaw05_ValueDivides.j0 k a0 bt404.2.2.2.2 true t388 t389 t390 t391 t392 t393 t394 t395 bt404.1 bt404.2.1 bt404.2.2.1 bt404.2.2.2.1) else (none)) else (if a1 < 0 then (barbicanlaw05_ValueDivides.j0 k a0 bt404.2.2.2.2 (decide ((wrap64 (-bt404.2.1)) > a1)) t388 t389 t390 t391 t392 t393 t394 t395 bt404.1 bt404.2.1 bt404.2.2.1 bt404.2.2.2.1) else (none))) else (none)))) else (none)) else (none)))) else ((barbicanlaw05_num.f (some (t402.getD 0))).bind fun t446 => (if t446 = 5 then (if a1 = (-1) then (if bt404.2.1 < 0 then (if a1 < 0 then (if bt404.2.1 > a1 then (barbicanlaw05_ValueDivides.j2 k a0 bt404.2.2.2.2 true t388 t389 t390 t391 t392 t393 t394 t395 bt404.1 bt404.2.1 bt404.2.2.1 bt404.2.2.2.1) else (none)) else (none)) else (if bt404.2.1 ≥ 0 then (if a1 > 0 then (none) else (if a1 < 0 then (barbicanlaw05_ValueDivides.j2 k a0 bt404.2.2.2.2 (decide ((wrap64 (-bt404.2.1)) > a1)) t388 t389 t390 t391 t392 t393 t394 t395 bt404.1 bt404.2.1 bt404.2.2.1 bt404.2.2.2.1) else (none))) else (none))) else (none)) else (none)))))) = some r := H
  have A5 := Aside0.mk A50
  clear A50
  replace H := Option.bind_eq_some_iff.mp H
  obtain ⟨⟨t404, t405, t406, t407, t408⟩, A60, H⟩ := H
  replace H : (if a1 = 0 then ((barbicanlaw05_num.f t402).bind fun t410 => (if t410 = 6 then ((barbicanlaw05_num.f t408).bind fun t411 => (if t411 = 6 then ((barbicanlaw05_sure.f k).bind fun t412 => (some t412)) else (none))) else (none))) else (if t402.isNone = true then ((value_Reckon.f k 42 t398 t399 t400 t401 t392 t393 t394 t395).bind fun bt414 => ((value_Reckon.f k 43 bt414.1 bt414.2.1 bt414.2.2.1 bt414.2.2.2.1 t404 t405 t406 t407).bind fun bt420 => (if bt414.2.2.2.2.isNone = true then (if bt420.2.2.2.2.isNone = true then (if (!(bt420.1 == t388) || (!(bt420.2.1 == t389) || (!(bt420.2.2.1.toList == t390.toList) || (!(bt420.2.2.2.1 == t391))))) = true then (none) else (if t405 < 0 then (if a1 < 0 then (if t405 > a1 then (barbicanlaw05_ValueDivides.j0 k a0 t408 true t388 t389 t390 t391 t392 t393 t394 t395 t404 t405 t406 t407) else (if a1 > 0 then (none) else (if a1 = (-9223372036854775808) then (barbicanlaw05_ValueDivides.j0 k a0 t408 true t388 t389 t390 t391 t392 t393 t394 t395 t404 t405 t406 t407) else (none)))) else (if a1 > 0 then (if t405 > (wrap64 (-a1)) then (barbicanlaw05_ValueDivides.j0 k a0 t408 true t388 t389 t390 t391 t392 t393 t394 t395 t404 t405 t406 t407) else (none)) else (none))) else (if t405 ≥ 0 then (if a1 > 0 then (if t405 < a1 then (barbicanlaw05_ValueDivides.j0 k a0 t408 true t388 t389 t390 t391 t392 t393 t394 t395 t404 t405 t406 t407) else (none)) else (if a1 < 0 then (barbicanlaw05_ValueDivides.j0 k a0 t408 (decide ((wrap64 (-t405)) > a1)) t388 t389 t390 t391 t392 t393 t394 t395 t404 t405 t406 t407) else (none))) else (none)))) else (none)) else (none)))) else ((barbicanlaw05_num.f (some (t402.getD 0))).bind fun t446 => (if t446 = 5 then (if a1 = (-1) then (if t405 < 0 then (if a1 < 0 then (if t405 > a1 then (barbicanlaw05_ValueDivides.j2 k a0 t408 true t388 t389 t390 t391 t392 t393 t394 t395 t404 t405 t406 t407) else (none)) else (none)) else (if t405 ≥ 0 then (if a1 > 0 then (none) else (if a1 < 0 then (barbicanlaw05_ValueDivides.j2 k a0 t408 (decide ((wrap64 (-t405)) > a1)) t388 t389 t390 t391 t392 t393 t394 t395 t404 t405 t406 t407) else (none))) else (none))) else (none)) else (none))))) = some r := H
  have A6 := Aside0.mk A60
  clear A60
  by_cases c7 : a1 = 0
  · rw [if_pos c7] at H
    have c7b0 : (a1 == 0) = true := beq_iff_eq.mpr c7
    have c7b1 : (a1 != 0) = false := bne_eq_false_iff_eq.mpr c7
    clear c7
    replace H := Option.bind_eq_some_iff.mp H
    obtain ⟨t410, A80, H⟩ := H
    replace H : (if t410 = 6 then ((barbicanlaw05_num.f t408).bind fun t411 => (if t411 = 6 then ((barbicanlaw05_sure.f k).bind fun t412 => (some t412)) else (none))) else (none)) = some r := H
    have A8 := Aside0.mk A80
    clear A80
    by_cases c9 : t410 = 6
    · rw [if_pos c9] at H
      have c9b0 : (t410 == 6) = true := beq_iff_eq.mpr c9
      have c9b1 : (t410 != 6) = false := bne_eq_false_iff_eq.mpr c9
      clear c9
      replace H := Option.bind_eq_some_iff.mp H
      obtain ⟨t411, A100, H⟩ := H
      replace H : (if t411 = 6 then ((barbicanlaw05_sure.f k).bind fun t412 => (some t412)) else (none)) = some r := H
      have A10 := Aside0.mk A100
      clear A100
      by_cases c11 : t411 = 6
      · rw [if_pos c11] at H
        have c11b0 : (t411 == 6) = true := beq_iff_eq.mpr c11
        have c11b1 : (t411 != 6) = false := bne_eq_false_iff_eq.mpr c11
        clear c11
        replace H := Option.bind_eq_some_iff.mp H
        obtain ⟨t412, A120, H⟩ := H
        replace H : (some t412) = some r := H
        have A12 := Aside0.mk A120
        clear A120
        obtain rfl := Option.some.inj H
        go_enter Tryd.func8, Tryd.ntmps8
        go_wp2_with (first | ((with_reducible refine gate_callee (f := 28) rfl ?_); refine goesL_ (some 21) rfl rfl Tryd.func28 (by kernel_rfl) rfl #[.int .i64 a0] rfl (by (try simp only [List.map_toArray, List.map_cons, List.map_nil]); first | done | rfl | (simp only [List.length_drop, List.length_take]; rfl)) ?_; (with_reducible refine (value_Int.calls a0 t388 t389 t390 t391 _ A3.out).mono ?_); rintro e w13 ⟨rfl, hb⟩; refine ⟨_, rfl, ?_⟩; have n0_ := Aside0.mk (below_step (by repeat (first | (with_reducible first | exact HB.out | apply below_alloc | apply pw_below_drewN | apply below_drew1) | exact HB.out)) hb); clear HB; have HB := n0_; clear n0_; (try clear hb); (try clear hb2); (try clear hk); (try clear hi)) | ((with_reducible refine gate_callee (f := 28) rfl ?_); refine goesL_ (some 23) rfl rfl Tryd.func28 (by kernel_rfl) rfl #[.int .i64 a1] rfl (by (try simp only [List.map_toArray, List.map_cons, List.map_nil]); first | done | rfl | (simp only [List.length_drop, List.length_take]; rfl)) ?_; (with_reducible refine (value_Int.calls a1 t392 t393 t394 t395 _ A4.out).mono ?_); rintro e w14 ⟨rfl, hb⟩; refine ⟨_, rfl, ?_⟩; have n0_ := Aside0.mk (below_step (by repeat (first | (with_reducible first | exact HB.out | apply below_alloc | apply pw_below_drewN | apply below_drew1) | exact HB.out)) hb); clear HB; have HB := n0_; clear n0_; (try clear hb); (try clear hb2); (try clear hk); (try clear hi)) | ((with_reducible refine gate_dst (N := 5) rfl ?_); refine box_event ?hg (N := 5) ?hd (cs := #[.int .i64 0, .int .i64 0, .string (⟨#[]⟩ : ByteArray), .bool false]) (t := 38) ?hr ?_; (case hd => rfl); (case hg => rfl); (case hr => first | (go_simp; done) | (go_simp; rfl)); intro gb396 hg w15 hbox hb; have n0_ := Aside0.mk (below_step (by repeat (first | (with_reducible first | exact HB.out | apply below_alloc | apply pw_below_drewN | apply below_drew1) | exact HB.out)) hb); have n1_ := Aside0.mk (hbox); have n2_ := Aside0.mk ((by rw [hg]; exact (below_size (by repeat (first | (with_reducible first | exact HB.out | apply below_alloc | apply pw_below_drewN | apply below_drew1) | exact HB.out))) : w.heap.size ≤ gb396)); have n3_ := Aside0.mk ((by rw [hg]; exact (below_size (by repeat (first | (with_reducible first | exact HB.out | apply below_alloc | apply pw_below_drewN | apply below_drew1) | exact HB.out))) : w.heap.size ≤ gb396)); clear HB; have HB := n0_; have BK396 := n1_; have GW396 := n2_; have GE396 := n3_; clear n0_ n1_ n2_ n3_; clear hb hbox hg) | ((with_reducible refine gate_dst (N := 6) rfl ?_); refine box_event ?hg (N := 6) ?hd (cs := #[.int .i64 0, .int .i64 0, .string (⟨#[]⟩ : ByteArray), .bool false]) (t := 38) ?hr ?_; (case hd => rfl); (case hg => rfl); (case hr => first | (go_simp; done) | (go_simp; rfl)); intro gb397 hg w16 hbox hb; have n0_ := Aside0.mk (blk_below (g := gb396) (o := .cells #[.int .i64 0, .int .i64 0, .string (⟨#[]⟩ : ByteArray), .bool false] 38 (0, 0)) (by (with_reducible repeat (first | refine blk_drewN ?_ _ | refine blk_drew ?_ | refine blk_alloc ?_ _)); exact BK396.out) hb); have n1_ := Aside0.mk (below_step (by repeat (first | (with_reducible first | exact HB.out | apply below_alloc | apply pw_below_drewN | apply below_drew1 | refine below_set ?_ GE396.out) | exact HB.out)) hb); have n2_ := Aside0.mk (hbox); have n3_ := Aside0.mk ((by rw [hg]; exact (below_size (by repeat (first | (with_reducible first | exact HB.out | apply below_alloc | apply pw_below_drewN | apply below_drew1 | refine below_set ?_ GE396.out) | exact HB.out))) : w.heap.size ≤ gb397)); have n4_ := Aside0.mk ((by rw [hg]; exact (below_size (by repeat (first | (with_reducible first | exact HB.out | apply below_alloc | apply pw_below_drewN | apply below_drew1 | refine below_set ?_ GE396.out) | exact HB.out))) : w.heap.size ≤ gb397)); have n5_ := Aside0.mk ((by rw [hg]; exact Nat.ne_of_lt (blk_lt (g := gb396) (o := .cells #[.int .i64 0, .int .i64 0, .string (⟨#[]⟩ : ByteArray), .bool false] 38 (0, 0)) (by (with_reducible repeat (first | refine blk_drewN ?_ _ | refine blk_drew ?_ | refine blk_alloc ?_ _)); exact BK396.out)) : gb396 ≠ gb397)); have n6_ := Aside0.mk ((by rw [hg]; exact Nat.ne_of_gt (blk_lt (g := gb396) (o := .cells #[.int .i64 0, .int .i64 0, .string (⟨#[]⟩ : ByteArray), .bool false] 38 (0, 0)) (by (with_reducible repeat (first | refine blk_drewN ?_ _ | refine blk_drew ?_ | refine blk_alloc ?_ _)); exact BK396.out)) : gb397 ≠ gb396)); clear BK396; clear HB; have BK396 := n0_; have HB := n1_; have BK397 := n2_; have GW397 := n3_; have GE397 := n4_; have NB396_397 := n5_; have NB397_396 := n6_; clear n0_ n1_ n2_ n3_ n4_ n5_ n6_; clear hb hbox hg; have hnb17 := NB396_397.out; have hnc17 := NB397_396.out; have hcz18_0 : w16.cell? ⟨gb396, 0, none⟩ = some (.int .i64 0) := (blk_cell BK396.out 0).trans rfl; have hcz18_1 : w16.cell? ⟨gb396, 1, none⟩ = some (.int .i64 0) := (blk_cell BK396.out 1).trans rfl; have hcz18_2 : w16.cell? ⟨gb396, 2, none⟩ = some (.string (⟨#[]⟩ : ByteArray)) := (blk_cell BK396.out 2).trans rfl; have hcz18_3 : w16.cell? ⟨gb396, 3, none⟩ = some (.bool false) := (blk_cell BK396.out 3).trans rfl; have hfz18_0 := blk_frozen BK396.out 0; have hfz18_1 := blk_frozen BK396.out 1; have hfz18_2 := blk_frozen BK396.out 2; have hfz18_3 := blk_frozen BK396.out 3; have hcz19_0 : w16.cell? ⟨gb397, 0, none⟩ = some (.int .i64 0) := (blk_cell BK397.out 0).trans rfl; have hcz19_1 : w16.cell? ⟨gb397, 1, none⟩ = some (.int .i64 0) := (blk_cell BK397.out 1).trans rfl; have hcz19_2 : w16.cell? ⟨gb397, 2, none⟩ = some (.string (⟨#[]⟩ : ByteArray)) := (blk_cell BK397.out 2).trans rfl; have hcz19_3 : w16.cell? ⟨gb397, 3, none⟩ = some (.bool false) := (blk_cell BK397.out 3).trans rfl; have hfz19_0 := blk_frozen BK397.out 0; have hfz19_1 := blk_frozen BK397.out 1; have hfz19_2 := blk_frozen BK397.out 2; have hfz19_3 := blk_frozen BK397.out 3) | ((with_reducible refine gate_callee (f := 26) rfl ?_); refine goesL_ (some 27) rfl rfl Tryd.func26 (by kernel_rfl) rfl #[.int .u8 47, .agg #[.int .i64 t388, .int .i64 t389, .string t390, .bool t391], .agg #[.int .i64 t392, .int .i64 t393, .string t394, .bool t395]] rfl (by (try simp only [List.map_toArray, List.map_cons, List.map_nil]); first | done | rfl | (simp only [List.length_drop, List.length_take]; rfl)) ?_; (with_reducible refine (value_Reckon.calls k 47 t388 t389 t390 t391 t392 t393 t394 t395 t398 t399 t400 t401 t402 _ A5.out).mono ?_); rintro e w20 ⟨rfl, hb⟩; refine ⟨_, rfl, ?_⟩; have n0_ := Aside0.mk (blk_below (g := gb396) (o := .cells #[.int .i64 t388, .int .i64 t389, .string t390, .bool t391] 38 (0, 0)) (by (with_reducible repeat (first | refine blk_drewN ?_ _ | refine blk_drew ?_ | refine blk_alloc ?_ _)); refine blk_far ?_ NB396_397.out _; (with_reducible repeat (first | refine blk_drewN ?_ _ | refine blk_drew ?_ | refine blk_alloc ?_ _)); refine blk_far ?_ NB396_397.out _; (with_reducible repeat (first | refine blk_drewN ?_ _ | refine blk_drew ?_ | refine blk_alloc ?_ _)); refine blk_far ?_ NB396_397.out _; (with_reducible repeat (first | refine blk_drewN ?_ _ | refine blk_drew ?_ | refine blk_alloc ?_ _)); refine blk_far ?_ NB396_397.out _; (with_reducible repeat (first | refine blk_drewN ?_ _ | refine blk_drew ?_ | refine blk_alloc ?_ _)); refine blk_put (cs := #[.int .i64 t388, .int .i64 t389, .string t390, .bool false]) ?_ 3 _ rfl; (with_reducible repeat (first | refine blk_drewN ?_ _ | refine blk_drew ?_ | refine blk_alloc ?_ _)); refine blk_put (cs := #[.int .i64 t388, .int .i64 t389, .string (⟨#[]⟩ : ByteArray), .bool false]) ?_ 2 _ rfl; (with_reducible repeat (first | refine blk_drewN ?_ _ | refine blk_drew ?_ | refine blk_alloc ?_ _)); refine blk_put (cs := #[.int .i64 t388, .int .i64 0, .string (⟨#[]⟩ : ByteArray), .bool false]) ?_ 1 _ rfl; (with_reducible repeat (first | refine blk_drewN ?_ _ | refine blk_drew ?_ | refine blk_alloc ?_ _)); refine blk_put (cs := #[.int .i64 0, .int .i64 0, .string (⟨#[]⟩ : ByteArray), .bool false]) ?_ 0 _ rfl; (with_reducible repeat (first | refine blk_drewN ?_ _ | refine blk_drew ?_ | refine blk_alloc ?_ _)); exact BK396.out) hb); have n1_ := Aside0.mk (blk_below (g := gb397) (o := .cells #[.int .i64 t392, .int .i64 t393, .string t394, .bool t395] 38 (0, 0)) (by (with_reducible repeat (first | refine blk_drewN ?_ _ | refine blk_drew ?_ | refine blk_alloc ?_ _)); refine blk_put (cs := #[.int .i64 t392, .int .i64 t393, .string t394, .bool false]) ?_ 3 _ rfl; (with_reducible repeat (first | refine blk_drewN ?_ _ | refine blk_drew ?_ | refine blk_alloc ?_ _)); refine blk_put (cs := #[.int .i64 t392, .int .i64 t393, .string (⟨#[]⟩ : ByteArray), .bool false]) ?_ 2 _ rfl; (with_reducible repeat (first | refine blk_drewN ?_ _ | refine blk_drew ?_ | refine blk_alloc ?_ _)); refine blk_put (cs := #[.int .i64 t392, .int .i64 0, .string (⟨#[]⟩ : ByteArray), .bool false]) ?_ 1 _ rfl; (with_reducible repeat (first | refine blk_drewN ?_ _ | refine blk_drew ?_ | refine blk_alloc ?_ _)); refine blk_put (cs := #[.int .i64 0, .int .i64 0, .string (⟨#[]⟩ : ByteArray), .bool false]) ?_ 0 _ rfl; (with_reducible repeat (first | refine blk_drewN ?_ _ | refine blk_drew ?_ | refine blk_alloc ?_ _)); refine blk_far ?_ NB397_396.out _; (with_reducible repeat (first | refine blk_drewN ?_ _ | refine blk_drew ?_ | refine blk_alloc ?_ _)); refine blk_far ?_ NB397_396.out _; (with_reducible repeat (first | refine blk_drewN ?_ _ | refine blk_drew ?_ | refine blk_alloc ?_ _)); refine blk_far ?_ NB397_396.out _; (with_reducible repeat (first | refine blk_drewN ?_ _ | refine blk_drew ?_ | refine blk_alloc ?_ _)); refine blk_far ?_ NB397_396.out _; (with_reducible repeat (first | refine blk_drewN ?_ _ | refine blk_drew ?_ | refine blk_alloc ?_ _)); exact BK397.out) hb); have n2_ := Aside0.mk (below_step (by repeat (first | (with_reducible first | exact HB.out | apply below_alloc | apply pw_below_drewN | apply below_drew1 | refine below_set ?_ GE396.out | refine below_set ?_ GE397.out) | exact HB.out)) hb); clear BK396; clear BK397; clear HB; have BK396 := n0_; have BK397 := n1_; have HB := n2_; clear n0_ n1_ n2_; (try clear hb); (try clear hb2); (try clear hk); (try clear hi); (try simp only [errW_none, errW_some])) | ((with_reducible refine gate_dst (N := 7) rfl ?_); refine box_event ?hg (N := 7) ?hd (cs := #[.int .i64 0, .int .i64 0, .string (⟨#[]⟩ : ByteArray), .bool false]) (t := 38) ?hr ?_; (case hd => rfl); (case hg => rfl); (case hr => first | (go_simp; done) | (go_simp; rfl)); intro gb403 hg w21 hbox hb; have n0_ := Aside0.mk (blk_below (g := gb396) (o := .cells #[.int .i64 t388, .int .i64 t389, .string t390, .bool t391] 38 (0, 0)) (by (with_reducible repeat (first | refine blk_drewN ?_ _ | refine blk_drew ?_ | refine blk_alloc ?_ _)); exact BK396.out) hb); have n1_ := Aside0.mk (blk_below (g := gb397) (o := .cells #[.int .i64 t392, .int .i64 t393, .string t394, .bool t395] 38 (0, 0)) (by (with_reducible repeat (first | refine blk_drewN ?_ _ | refine blk_drew ?_ | refine blk_alloc ?_ _)); exact BK397.out) hb); have n2_ := Aside0.mk (below_step (by repeat (first | (with_reducible first | exact HB.out | apply below_alloc | apply pw_below_drewN | apply below_drew1 | refine below_set ?_ GE396.out | refine below_set ?_ GE397.out) | exact HB.out)) hb); have n3_ := Aside0.mk (hbox); have n4_ := Aside0.mk ((by rw [hg]; exact (below_size (by repeat (first | (with_reducible first | exact HB.out | apply below_alloc | apply pw_below_drewN | apply below_drew1 | refine below_set ?_ GE396.out | refine below_set ?_ GE397.out) | exact HB.out))) : w.heap.size ≤ gb403)); have n5_ := Aside0.mk ((by rw [hg]; exact (below_size (by repeat (first | (with_reducible first | exact HB.out | apply below_alloc | apply pw_below_drewN | apply below_drew1 | refine below_set ?_ GE396.out | refine below_set ?_ GE397.out) | exact HB.out))) : w.heap.size ≤ gb403)); have n6_ := Aside0.mk ((by rw [hg]; exact Nat.ne_of_lt (blk_lt (g := gb396) (o := .cells #[.int .i64 t388, .int .i64 t389, .string t390, .bool t391] 38 (0, 0)) (by (with_reducible repeat (first | refine blk_drewN ?_ _ | refine blk_drew ?_ | refine blk_alloc ?_ _)); exact BK396.out)) : gb396 ≠ gb403)); have n7_ := Aside0.mk ((by rw [hg]; exact Nat.ne_of_gt (blk_lt (g := gb396) (o := .cells #[.int .i64 t388, .int .i64 t389, .string t390, .bool t391] 38 (0, 0)) (by (with_reducible repeat (first | refine blk_drewN ?_ _ | refine blk_drew ?_ | refine blk_alloc ?_ _)); exact BK396.out)) : gb403 ≠ gb396)); have n8_ := Aside0.mk ((by rw [hg]; exact Nat.ne_of_lt (blk_lt (g := gb397) (o := .cells #[.int .i64 t392, .int .i64 t393, .string t394, .bool t395] 38 (0, 0)) (by (with_reducible repeat (first | refine blk_drewN ?_ _ | refine blk_drew ?_ | refine blk_alloc ?_ _)); exact BK397.out)) : gb397 ≠ gb403)); have n9_ := Aside0.mk ((by rw [hg]; exact Nat.ne_of_gt (blk_lt (g := gb397) (o := .cells #[.int .i64 t392, .int .i64 t393, .string t394, .bool t395] 38 (0, 0)) (by (with_reducible repeat (first | refine blk_drewN ?_ _ | refine blk_drew ?_ | refine blk_alloc ?_ _)); exact BK397.out)) : gb403 ≠ gb397)); clear BK396; clear BK397; clear HB; have BK396 := n0_; have BK397 := n1_; have HB := n2_; have BK403 := n3_; have GW403 := n4_; have GE403 := n5_; have NB396_403 := n6_; have NB403_396 := n7_; have NB397_403 := n8_; have NB403_397 := n9_; clear n0_ n1_ n2_ n3_ n4_ n5_ n6_ n7_ n8_ n9_; clear hb hbox hg; have hnb22 := NB403_396.out; have hnc22 := NB396_403.out; have hnb23 := NB403_397.out; have hnc23 := NB397_403.out; have hcz24_0 : w21.cell? ⟨gb403, 0, none⟩ = some (.int .i64 0) := (blk_cell BK403.out 0).trans rfl; have hcz24_1 : w21.cell? ⟨gb403, 1, none⟩ = some (.int .i64 0) := (blk_cell BK403.out 1).trans rfl; have hcz24_2 : w21.cell? ⟨gb403, 2, none⟩ = some (.string (⟨#[]⟩ : ByteArray)) := (blk_cell BK403.out 2).trans rfl; have hcz24_3 : w21.cell? ⟨gb403, 3, none⟩ = some (.bool false) := (blk_cell BK403.out 3).trans rfl; have hfz24_0 := blk_frozen BK403.out 0; have hfz24_1 := blk_frozen BK403.out 1; have hfz24_2 := blk_frozen BK403.out 2; have hfz24_3 := blk_frozen BK403.out 3; have hcz25_0 : w21.cell? ⟨gb396, 0, none⟩ = some (.int .i64 t388) := (blk_cell BK396.out 0).trans rfl; have hcz25_1 : w21.cell? ⟨gb396, 1, none⟩ = some (.int .i64 t389) := (blk_cell BK396.out 1).trans rfl; have hcz25_2 : w21.cell? ⟨gb396, 2, none⟩ = some (.string t390) := (blk_cell BK396.out 2).trans rfl; have hcz25_3 : w21.cell? ⟨gb396, 3, none⟩ = some (.bool t391) := (blk_cell BK396.out 3).trans rfl; have hfz25_0 := blk_frozen BK396.out 0; have hfz25_1 := blk_frozen BK396.out 1; have hfz25_2 := blk_frozen BK396.out 2; have hfz25_3 := blk_frozen BK396.out 3; have hcz26_0 : w21.cell? ⟨gb397, 0, none⟩ = some (.int .i64 t392) := (blk_cell BK397.out 0).trans rfl; have hcz26_1 : w21.cell? ⟨gb397, 1, none⟩ = some (.int .i64 t393) := (blk_cell BK397.out 1).trans rfl; have hcz26_2 : w21.cell? ⟨gb397, 2, none⟩ = some (.string t394) := (blk_cell BK397.out 2).trans rfl; have hcz26_3 : w21.cell? ⟨gb397, 3, none⟩ = some (.bool t395) := (blk_cell BK397.out 3).trans rfl; have hfz26_0 := blk_frozen BK397.out 0; have hfz26_1 := blk_frozen BK397.out 1; have hfz26_2 := blk_frozen BK397.out 2; have hfz26_3 := blk_frozen BK397.out 3) | ((with_reducible refine gate_callee (f := 26) rfl ?_); refine goesL_ (some 33) rfl rfl Tryd.func26 (by kernel_rfl) rfl #[.int .u8 37, .agg #[.int .i64 t388, .int .i64 t389, .string t390, .bool t391], .agg #[.int .i64 t392, .int .i64 t393, .string t394, .bool t395]] rfl (by (try simp only [List.map_toArray, List.map_cons, List.map_nil]); first | done | rfl | (simp only [List.length_drop, List.length_take]; rfl)) ?_; (with_reducible refine (value_Reckon.calls k 37 t388 t389 t390 t391 t392 t393 t394 t395 t404 t405 t406 t407 t408 _ A6.out).mono ?_); rintro e w27 ⟨rfl, hb⟩; refine ⟨_, rfl, ?_⟩; have n0_ := Aside0.mk (blk_below (g := gb396) (o := .cells #[.int .i64 t388, .int .i64 t389, .string t390, .bool t391] 38 (0, 0)) (by (with_reducible repeat (first | refine blk_drewN ?_ _ | refine blk_drew ?_ | refine blk_alloc ?_ _)); refine blk_far ?_ NB396_403.out _; (with_reducible repeat (first | refine blk_drewN ?_ _ | refine blk_drew ?_ | refine blk_alloc ?_ _)); refine blk_far ?_ NB396_403.out _; (with_reducible repeat (first | refine blk_drewN ?_ _ | refine blk_drew ?_ | refine blk_alloc ?_ _)); refine blk_far ?_ NB396_403.out _; (with_reducible repeat (first | refine blk_drewN ?_ _ | refine blk_drew ?_ | refine blk_alloc ?_ _)); refine blk_far ?_ NB396_403.out _; (with_reducible repeat (first | refine blk_drewN ?_ _ | refine blk_drew ?_ | refine blk_alloc ?_ _)); exact BK396.out) hb); have n1_ := Aside0.mk (blk_below (g := gb397) (o := .cells #[.int .i64 t392, .int .i64 t393, .string t394, .bool t395] 38 (0, 0)) (by (with_reducible repeat (first | refine blk_drewN ?_ _ | refine blk_drew ?_ | refine blk_alloc ?_ _)); refine blk_far ?_ NB397_403.out _; (with_reducible repeat (first | refine blk_drewN ?_ _ | refine blk_drew ?_ | refine blk_alloc ?_ _)); refine blk_far ?_ NB397_403.out _; (with_reducible repeat (first | refine blk_drewN ?_ _ | refine blk_drew ?_ | refine blk_alloc ?_ _)); refine blk_far ?_ NB397_403.out _; (with_reducible repeat (first | refine blk_drewN ?_ _ | refine blk_drew ?_ | refine blk_alloc ?_ _)); refine blk_far ?_ NB397_403.out _; (with_reducible repeat (first | refine blk_drewN ?_ _ | refine blk_drew ?_ | refine blk_alloc ?_ _)); exact BK397.out) hb); have n2_ := Aside0.mk (blk_below (g := gb403) (o := .cells #[.int .i64 t398, .int .i64 t399, .string t400, .bool t401] 38 (0, 0)) (by (with_reducible repeat (first | refine blk_drewN ?_ _ | refine blk_drew ?_ | refine blk_alloc ?_ _)); refine blk_put (cs := #[.int .i64 t398, .int .i64 t399, .string t400, .bool false]) ?_ 3 _ rfl; (with_reducible repeat (first | refine blk_drewN ?_ _ | refine blk_drew ?_ | refine blk_alloc ?_ _)); refine blk_put (cs := #[.int .i64 t398, .int .i64 t399, .string (⟨#[]⟩ : ByteArray), .bool false]) ?_ 2 _ rfl; (with_reducible repeat (first | refine blk_drewN ?_ _ | refine blk_drew ?_ | refine blk_alloc ?_ _)); refine blk_put (cs := #[.int .i64 t398, .int .i64 0, .string (⟨#[]⟩ : ByteArray), .bool false]) ?_ 1 _ rfl; (with_reducible repeat (first | refine blk_drewN ?_ _ | refine blk_drew ?_ | refine blk_alloc ?_ _)); refine blk_put (cs := #[.int .i64 0, .int .i64 0, .string (⟨#[]⟩ : ByteArray), .bool false]) ?_ 0 _ rfl; (with_reducible repeat (first | refine blk_drewN ?_ _ | refine blk_drew ?_ | refine blk_alloc ?_ _)); exact BK403.out) hb); have n3_ := Aside0.mk (below_step (by repeat (first | (with_reducible first | exact HB.out | apply below_alloc | apply pw_below_drewN | apply below_drew1 | refine below_set ?_ GE396.out | refine below_set ?_ GE397.out | refine below_set ?_ GE403.out) | exact HB.out)) hb); clear BK396; clear BK397; clear BK403; clear HB; have BK396 := n0_; have BK397 := n1_; have BK403 := n2_; have HB := n3_; clear n0_ n1_ n2_ n3_; (try clear hb); (try clear hb2); (try clear hk); (try clear hi); (try simp only [errW_none, errW_some])) | ((with_reducible refine gate_dst (N := 9) rfl ?_); refine box_event ?hg (N := 9) ?hd (cs := #[.int .i64 0, .int .i64 0, .string (⟨#[]⟩ : ByteArray), .bool false]) (t := 38) ?hr ?_; (case hd => rfl); (case hg => rfl); (case hr => first | (go_simp; done) | (go_simp; rfl)); intro gb409 hg w28 hbox hb; have n0_ := Aside0.mk (blk_below (g := gb396) (o := .cells #[.int .i64 t388, .int .i64 t389, .string t390, .bool t391] 38 (0, 0)) (by (with_reducible repeat (first | refine blk_drewN ?_ _ | refine blk_drew ?_ | refine blk_alloc ?_ _)); exact BK396.out) hb); have n1_ := Aside0.mk (blk_below (g := gb397) (o := .cells #[.int .i64 t392, .int .i64 t393, .string t394, .bool t395] 38 (0, 0)) (by (with_reducible repeat (first | refine blk_drewN ?_ _ | refine blk_drew ?_ | refine blk_alloc ?_ _)); exact BK397.out) hb); have n2_ := Aside0.mk (blk_below (g := gb403) (o := .cells #[.int .i64 t398, .int .i64 t399, .string t400, .bool t401] 38 (0, 0)) (by (with_reducible repeat (first | refine blk_drewN ?_ _ | refine blk_drew ?_ | refine blk_alloc ?_ _)); exact BK403.out) hb); have n3_ := Aside0.mk (below_step (by repeat (first | (with_reducible first | exact HB.out | apply below_alloc | apply pw_below_drewN | apply below_drew1 | refine below_set ?_ GE396.out | refine below_set ?_ GE397.out | refine below_set ?_ GE403.out) | exact HB.out)) hb); have n4_ := Aside0.mk (hbox); have n5_ := Aside0.mk ((by rw [hg]; exact (below_size (by repeat (first | (with_reducible first | exact HB.out | apply below_alloc | apply pw_below_drewN | apply below_drew1 | refine below_set ?_ GE396.out | refine below_set ?_ GE397.out | refine below_set ?_ GE403.out) | exact HB.out))) : w.heap.size ≤ gb409)); have n6_ := Aside0.mk ((by rw [hg]; exact (below_size (by repeat (first | (with_reducible first | exact HB.out | apply below_alloc | apply pw_below_drewN | apply below_drew1 | refine below_set ?_ GE396.out | refine below_set ?_ GE397.out | refine below_set ?_ GE403.out) | exact HB.out))) : w.heap.size ≤ gb409)); have n7_ := Aside0.mk ((by rw [hg]; exact Nat.ne_of_lt (blk_lt (g := gb396) (o := .cells #[.int .i64 t388, .int .i64 t389, .string t390, .bool t391] 38 (0, 0)) (by (with_reducible repeat (first | refine blk_drewN ?_ _ | refine blk_drew ?_ | refine blk_alloc ?_ _)); exact BK396.out)) : gb396 ≠ gb409)); have n8_ := Aside0.mk ((by rw [hg]; exact Nat.ne_of_gt (blk_lt (g := gb396) (o := .cells #[.int .i64 t388, .int .i64 t389, .string t390, .bool t391] 38 (0, 0)) (by (with_reducible repeat (first | refine blk_drewN ?_ _ | refine blk_drew ?_ | refine blk_alloc ?_ _)); exact BK396.out)) : gb409 ≠ gb396)); have n9_ := Aside0.mk ((by rw [hg]; exact Nat.ne_of_lt (blk_lt (g := gb397) (o := .cells #[.int .i64 t392, .int .i64 t393, .string t394, .bool t395] 38 (0, 0)) (by (with_reducible repeat (first | refine blk_drewN ?_ _ | refine blk_drew ?_ | refine blk_alloc ?_ _)); exact BK397.out)) : gb397 ≠ gb409)); have n10_ := Aside0.mk ((by rw [hg]; exact Nat.ne_of_gt (blk_lt (g := gb397) (o := .cells #[.int .i64 t392, .int .i64 t393, .string t394, .bool t395] 38 (0, 0)) (by (with_reducible repeat (first | refine blk_drewN ?_ _ | refine blk_drew ?_ | refine blk_alloc ?_ _)); exact BK397.out)) : gb409 ≠ gb397)); have n11_ := Aside0.mk ((by rw [hg]; exact Nat.ne_of_lt (blk_lt (g := gb403) (o := .cells #[.int .i64 t398, .int .i64 t399, .string t400, .bool t401] 38 (0, 0)) (by (with_reducible repeat (first | refine blk_drewN ?_ _ | refine blk_drew ?_ | refine blk_alloc ?_ _)); exact BK403.out)) : gb403 ≠ gb409)); have n12_ := Aside0.mk ((by rw [hg]; exact Nat.ne_of_gt (blk_lt (g := gb403) (o := .cells #[.int .i64 t398, .int .i64 t399, .string t400, .bool t401] 38 (0, 0)) (by (with_reducible repeat (first | refine blk_drewN ?_ _ | refine blk_drew ?_ | refine blk_alloc ?_ _)); exact BK403.out)) : gb409 ≠ gb403)); clear BK396; clear BK397; clear BK403; clear HB; have BK396 := n0_; have BK397 := n1_; have BK403 := n2_; have HB := n3_; have BK409 := n4_; have GW409 := n5_; have GE409 := n6_; have NB396_409 := n7_; have NB409_396 := n8_; have NB397_409 := n9_; have NB409_397 := n10_; have NB403_409 := n11_; have NB409_403 := n12_; clear n0_ n1_ n2_ n3_ n4_ n5_ n6_ n7_ n8_ n9_ n10_ n11_ n12_; clear hb hbox hg; have hnb29 := NB409_396.out; have hnc29 := NB396_409.out; have hnb30 := NB409_397.out; have hnc30 := NB397_409.out; have hnb31 := NB409_403.out; have hnc31 := NB403_409.out; have hcz32_0 : w28.cell? ⟨gb409, 0, none⟩ = some (.int .i64 0) := (blk_cell BK409.out 0).trans rfl; have hcz32_1 : w28.cell? ⟨gb409, 1, none⟩ = some (.int .i64 0) := (blk_cell BK409.out 1).trans rfl; have hcz32_2 : w28.cell? ⟨gb409, 2, none⟩ = some (.string (⟨#[]⟩ : ByteArray)) := (blk_cell BK409.out 2).trans rfl; have hcz32_3 : w28.cell? ⟨gb409, 3, none⟩ = some (.bool false) := (blk_cell BK409.out 3).trans rfl; have hfz32_0 := blk_frozen BK409.out 0; have hfz32_1 := blk_frozen BK409.out 1; have hfz32_2 := blk_frozen BK409.out 2; have hfz32_3 := blk_frozen BK409.out 3; have CA8 := fun W (hG_ : GW W) => barbicanlaw05_num.calls t402 t410 W hG_ A8.out; try simp only [errW_none, errW_some] at CA8) | (go_at_call 29; (with_reducible refine (CA8 _ ?side1).mono ?_); (case side1 => exact GW_below HG.out (by repeat (first | (with_reducible first | exact HB.out | apply below_alloc | apply pw_below_drewN | apply below_drew1 | refine below_set ?_ GE396.out | refine below_set ?_ GE397.out | refine below_set ?_ GE403.out | refine below_set ?_ GE409.out) | exact HB.out))); rintro e w33 ⟨rfl, hb⟩; have n0_ := Aside0.mk (blk_below (g := gb396) (o := .cells #[.int .i64 t388, .int .i64 t389, .string t390, .bool t391] 38 (0, 0)) (by (with_reducible repeat (first | refine blk_drewN ?_ _ | refine blk_drew ?_ | refine blk_alloc ?_ _)); refine blk_far ?_ NB396_409.out _; (with_reducible repeat (first | refine blk_drewN ?_ _ | refine blk_drew ?_ | refine blk_alloc ?_ _)); refine blk_far ?_ NB396_409.out _; (with_reducible repeat (first | refine blk_drewN ?_ _ | refine blk_drew ?_ | refine blk_alloc ?_ _)); refine blk_far ?_ NB396_409.out _; (with_reducible repeat (first | refine blk_drewN ?_ _ | refine blk_drew ?_ | refine blk_alloc ?_ _)); refine blk_far ?_ NB396_409.out _; (with_reducible repeat (first | refine blk_drewN ?_ _ | refine blk_drew ?_ | refine blk_alloc ?_ _)); exact BK396.out) hb); have n1_ := Aside0.mk (blk_below (g := gb397) (o := .cells #[.int .i64 t392, .int .i64 t393, .string t394, .bool t395] 38 (0, 0)) (by (with_reducible repeat (first | refine blk_drewN ?_ _ | refine blk_drew ?_ | refine blk_alloc ?_ _)); refine blk_far ?_ NB397_409.out _; (with_reducible repeat (first | refine blk_drewN ?_ _ | refine blk_drew ?_ | refine blk_alloc ?_ _)); refine blk_far ?_ NB397_409.out _; (with_reducible repeat (first | refine blk_drewN ?_ _ | refine blk_drew ?_ | refine blk_alloc ?_ _)); refine blk_far ?_ NB397_409.out _; (with_reducible repeat (first | refine blk_drewN ?_ _ | refine blk_drew ?_ | refine blk_alloc ?_ _)); refine blk_far ?_ NB397_409.out _; (with_reducible repeat (first | refine blk_drewN ?_ _ | refine blk_drew ?_ | refine blk_alloc ?_ _)); exact BK397.out) hb); have n2_ := Aside0.mk (blk_below (g := gb403) (o := .cells #[.int .i64 t398, .int .i64 t399, .string t400, .bool t401] 38 (0, 0)) (by (with_reducible repeat (first | refine blk_drewN ?_ _ | refine blk_drew ?_ | refine blk_alloc ?_ _)); refine blk_far ?_ NB403_409.out _; (with_reducible repeat (first | refine blk_drewN ?_ _ | refine blk_drew ?_ | refine blk_alloc ?_ _)); refine blk_far ?_ NB403_409.out _; (with_reducible repeat (first | refine blk_drewN ?_ _ | refine blk_drew ?_ | refine blk_alloc ?_ _)); refine blk_far ?_ NB403_409.out _; (with_reducible repeat (first | refine blk_drewN ?_ _ | refine blk_drew ?_ | refine blk_alloc ?_ _)); refine blk_far ?_ NB403_409.out _; (with_reducible repeat (first | refine blk_drewN ?_ _ | refine blk_drew ?_ | refine blk_alloc ?_ _)); exact BK403.out) hb); have n3_ := Aside0.mk (blk_below (g := gb409) (o := .cells #[.int .i64 t404, .int .i64 t405, .string t406, .bool t407] 38 (0, 0)) (by (with_reducible repeat (first | refine blk_drewN ?_ _ | refine blk_drew ?_ | refine blk_alloc ?_ _)); refine blk_put (cs := #[.int .i64 t404, .int .i64 t405, .string t406, .bool false]) ?_ 3 _ rfl; (with_reducible repeat (first | refine blk_drewN ?_ _ | refine blk_drew ?_ | refine blk_alloc ?_ _)); refine blk_put (cs := #[.int .i64 t404, .int .i64 t405, .string (⟨#[]⟩ : ByteArray), .bool false]) ?_ 2 _ rfl; (with_reducible repeat (first | refine blk_drewN ?_ _ | refine blk_drew ?_ | refine blk_alloc ?_ _)); refine blk_put (cs := #[.int .i64 t404, .int .i64 0, .string (⟨#[]⟩ : ByteArray), .bool false]) ?_ 1 _ rfl; (with_reducible repeat (first | refine blk_drewN ?_ _ | refine blk_drew ?_ | refine blk_alloc ?_ _)); refine blk_put (cs := #[.int .i64 0, .int .i64 0, .string (⟨#[]⟩ : ByteArray), .bool false]) ?_ 0 _ rfl; (with_reducible repeat (first | refine blk_drewN ?_ _ | refine blk_drew ?_ | refine blk_alloc ?_ _)); exact BK409.out) hb); have n4_ := Aside0.mk (below_step (by repeat (first | (with_reducible first | exact HB.out | apply below_alloc | apply pw_below_drewN | apply below_drew1 | refine below_set ?_ GE396.out | refine below_set ?_ GE397.out | refine below_set ?_ GE403.out | refine below_set ?_ GE409.out) | exact HB.out)) hb); clear BK396; clear BK397; clear BK403; clear BK409; clear HB; have BK396 := n0_; have BK397 := n1_; have BK403 := n2_; have BK409 := n3_; have HB := n4_; clear n0_ n1_ n2_ n3_ n4_; (try clear hb); (try clear hb2); (try clear hk); (try clear hi); have CA10 := fun W (hG_ : GW W) => barbicanlaw05_num.calls t408 t411 W hG_ A10.out; try simp only [errW_none, errW_some] at CA10) | (go_at_call 29; (with_reducible refine (CA10 _ ?side1).mono ?_); (case side1 => exact GW_below HG.out (by repeat (first | (with_reducible first | exact HB.out | apply below_alloc | apply pw_below_drewN | apply below_drew1 | refine below_set ?_ GE396.out | refine below_set ?_ GE397.out | refine below_set ?_ GE403.out | refine below_set ?_ GE409.out) | exact HB.out))); rintro e w34 ⟨rfl, hb⟩; have n0_ := Aside0.mk (blk_below (g := gb396) (o := .cells #[.int .i64 t388, .int .i64 t389, .string t390, .bool t391] 38 (0, 0)) (by (with_reducible repeat (first | refine blk_drewN ?_ _ | refine blk_drew ?_ | refine blk_alloc ?_ _)); exact BK396.out) hb); have n1_ := Aside0.mk (blk_below (g := gb397) (o := .cells #[.int .i64 t392, .int .i64 t393, .string t394, .bool t395] 38 (0, 0)) (by (with_reducible repeat (first | refine blk_drewN ?_ _ | refine blk_drew ?_ | refine blk_alloc ?_ _)); exact BK397.out) hb); have n2_ := Aside0.mk (blk_below (g := gb403) (o := .cells #[.int .i64 t398, .int .i64 t399, .string t400, .bool t401] 38 (0, 0)) (by (with_reducible repeat (first | refine blk_drewN ?_ _ | refine blk_drew ?_ | refine blk_alloc ?_ _)); exact BK403.out) hb); have n3_ := Aside0.mk (blk_below (g := gb409) (o := .cells #[.int .i64 t404, .int .i64 t405, .string t406, .bool t407] 38 (0, 0)) (by (with_reducible repeat (first | refine blk_drewN ?_ _ | refine blk_drew ?_ | refine blk_alloc ?_ _)); exact BK409.out) hb); have n4_ := Aside0.mk (below_step (by repeat (first | (with_reducible first | exact HB.out | apply below_alloc | apply pw_below_drewN | apply below_drew1 | refine below_set ?_ GE396.out | refine below_set ?_ GE397.out | refine below_set ?_ GE403.out | refine below_set ?_ GE409.out) | exact HB.out)) hb); clear BK396; clear BK397; clear BK403; clear BK409; clear HB; have BK396 := n0_; have BK397 := n1_; have BK403 := n2_; have BK409 := n3_; have HB := n4_; clear n0_ n1_ n2_ n3_ n4_; (try clear hb); (try clear hb2); (try clear hk); (try clear hi)) | (go_at_call 22; (with_reducible refine (barbicanlaw05_sure.calls k  t412 _ ?side1 A12.out).mono ?_); (case side1 => exact GW_below HG.out (by repeat (first | (with_reducible first | exact HB.out | apply below_alloc | apply pw_below_drewN | apply below_drew1 | refine below_set ?_ GE396.out | refine below_set ?_ GE397.out | refine below_set ?_ GE403.out | refine below_set ?_ GE409.out) | exact HB.out))); rintro e w35 ⟨rfl, hb⟩; have n0_ := Aside0.mk (blk_below (g := gb396) (o := .cells #[.int .i64 t388, .int .i64 t389, .string t390, .bool t391] 38 (0, 0)) (by (with_reducible repeat (first | refine blk_drewN ?_ _ | refine blk_drew ?_ | refine blk_alloc ?_ _)); exact BK396.out) hb); have n1_ := Aside0.mk (blk_below (g := gb397) (o := .cells #[.int .i64 t392, .int .i64 t393, .string t394, .bool t395] 38 (0, 0)) (by (with_reducible repeat (first | refine blk_drewN ?_ _ | refine blk_drew ?_ | refine blk_alloc ?_ _)); exact BK397.out) hb); have n2_ := Aside0.mk (blk_below (g := gb403) (o := .cells #[.int .i64 t398, .int .i64 t399, .string t400, .bool t401] 38 (0, 0)) (by (with_reducible repeat (first | refine blk_drewN ?_ _ | refine blk_drew ?_ | refine blk_alloc ?_ _)); exact BK403.out) hb); have n3_ := Aside0.mk (blk_below (g := gb409) (o := .cells #[.int .i64 t404, .int .i64 t405, .string t406, .bool t407] 38 (0, 0)) (by (with_reducible repeat (first | refine blk_drewN ?_ _ | refine blk_drew ?_ | refine blk_alloc ?_ _)); exact BK409.out) hb); have n4_ := Aside0.mk (below_step (by repeat (first | (with_reducible first | exact HB.out | apply below_alloc | apply pw_below_drewN | apply below_drew1 | refine below_set ?_ GE396.out | refine below_set ?_ GE397.out | refine below_set ?_ GE403.out | refine below_set ?_ GE409.out) | exact HB.out)) hb); clear BK396; clear BK397; clear BK403; clear BK409; clear HB; have BK396 := n0_; have BK397 := n1_; have BK403 := n2_; have BK409 := n3_; have HB := n4_; clear n0_ n1_ n2_ n3_ n4_; (try clear hb); (try clear hb2); (try clear hk); (try clear hi)))
        go_ret
        exact ⟨by first | rfl | (simp [errW_none, errW_some] <;> rfl) | (simp [*, errW_none, errW_some] <;> rfl), by repeat (first | (with_reducible first | exact HB.out | apply below_alloc | apply pw_below_drewN | apply below_drew1 | refine below_set ?_ GE396.out | refine below_set ?_ GE397.out | refine below_set ?_ GE403.out | refine below_set ?_ GE409.out) | exact HB.out)⟩
      · rw [if_neg c11] at H
        exact absurd H (by simp)
    · rw [if_neg c9] at H
      exact absurd H (by simp)
  · rw [if_neg c7] at H
    have c7b0 : (a1 == 0) = false := beq_eq_false_iff_ne.mpr c7
    have c7b1 : (a1 != 0) = true := bne_iff_ne.mpr c7
    rcases t402 with _ | q413
    · exact absurd rfl (HE.out _ _ _ A3.out A4.out A5.out)
    · have H1 : ((barbicanlaw05_num.f (some q413)).bind fun t446 => (if t446 = 5 then (if a1 = (-1) then (if t405 < 0 then (if a1 < 0 then (if t405 > a1 then (barbicanlaw05_ValueDivides.j2 k a0 t408 true t388 t389 t390 t391 t392 t393 t394 t395 t404 t405 t406 t407) else (none)) else (none)) else (if t405 ≥ 0 then (if a1 > 0 then (none) else (if a1 < 0 then (barbicanlaw05_ValueDivides.j2 k a0 t408 (decide ((wrap64 (-t405)) > a1)) t388 t389 t390 t391 t392 t393 t394 t395 t404 t405 t406 t407) else (none))) else (none))) else (none)) else (none))) = some r := by rw [if_neg (show ¬ (some q413).isNone = true by simp)] at H; exact H
      clear H
      have H := H1
      clear H1
      try simp only [errW_none, errW_some]
      replace H := Option.bind_eq_some_iff.mp H
      obtain ⟨t446, A2070, H⟩ := H
      replace H : (if t446 = 5 then (if a1 = (-1) then (if t405 < 0 then (if a1 < 0 then (if t405 > a1 then (barbicanlaw05_ValueDivides.j2 k a0 t408 true t388 t389 t390 t391 t392 t393 t394 t395 t404 t405 t406 t407) else (none)) else (none)) else (if t405 ≥ 0 then (if a1 > 0 then (none) else (if a1 < 0 then (barbicanlaw05_ValueDivides.j2 k a0 t408 (decide ((wrap64 (-t405)) > a1)) t388 t389 t390 t391 t392 t393 t394 t395 t404 t405 t406 t407) else (none))) else (none))) else (none)) else (none)) = some r := H
      have A207 := Aside0.mk A2070
      clear A2070
      by_cases c208 : t446 = 5
      · rw [if_pos c208] at H
        have c208b0 : (t446 == 5) = true := beq_iff_eq.mpr c208
        have c208b1 : (t446 != 5) = false := bne_eq_false_iff_eq.mpr c208
        clear c208
        by_cases c209 : a1 = (-1)
        · rw [if_pos c209] at H
          have c209b0 : (a1 == (-1)) = true := beq_iff_eq.mpr c209
          have c209b1 : (a1 != (-1)) = false := bne_eq_false_iff_eq.mpr c209
          clear c209
          have HC210 := Aside0.mk H
          clear H
          go_enter Tryd.func8, Tryd.ntmps8
          go_upto_region 13 with (first | ((with_reducible refine gate_callee (f := 28) rfl ?_); refine goesL_ (some 21) rfl rfl Tryd.func28 (by kernel_rfl) rfl #[.int .i64 a0] rfl (by (try simp only [List.map_toArray, List.map_cons, List.map_nil]); first | done | rfl | (simp only [List.length_drop, List.length_take]; rfl)) ?_; (with_reducible refine (value_Int.calls a0 t388 t389 t390 t391 _ A3.out).mono ?_); rintro e w211 ⟨rfl, hb⟩; refine ⟨_, rfl, ?_⟩; have n0_ := Aside0.mk (below_step (by repeat (first | (with_reducible first | exact HB.out | apply below_alloc | apply pw_below_drewN | apply below_drew1) | exact HB.out)) hb); clear HB; have HB := n0_; clear n0_; (try clear hb); (try clear hb2); (try clear hk); (try clear hi)) | ((with_reducible refine gate_callee (f := 28) rfl ?_); refine goesL_ (some 23) rfl rfl Tryd.func28 (by kernel_rfl) rfl #[.int .i64 a1] rfl (by (try simp only [List.map_toArray, List.map_cons, List.map_nil]); first | done | rfl | (simp only [List.length_drop, List.length_take]; rfl)) ?_; (with_reducible refine (value_Int.calls a1 t392 t393 t394 t395 _ A4.out).mono ?_); rintro e w212 ⟨rfl, hb⟩; refine ⟨_, rfl, ?_⟩; have n0_ := Aside0.mk (below_step (by repeat (first | (with_reducible first | exact HB.out | apply below_alloc | apply pw_below_drewN | apply below_drew1) | exact HB.out)) hb); clear HB; have HB := n0_; clear n0_; (try clear hb); (try clear hb2); (try clear hk); (try clear hi)) | ((with_reducible refine gate_dst (N := 5) rfl ?_); refine box_event ?hg (N := 5) ?hd (cs := #[.int .i64 0, .int .i64 0, .string (⟨#[]⟩ : ByteArray), .bool false]) (t := 38) ?hr ?_; (case hd => rfl); (case hg => rfl); (case hr => first | (go_simp; done) | (go_simp; rfl)); intro gb396 hg w213 hbox hb; have n0_ := Aside0.mk (below_step (by repeat (first | (with_reducible first | exact HB.out | apply below_alloc | apply pw_below_drewN | apply below_drew1) | exact HB.out)) hb); have n1_ := Aside0.mk (hbox); have n2_ := Aside0.mk ((by rw [hg]; exact (below_size (by repeat (first | (with_reducible first | exact HB.out | apply below_alloc | apply pw_below_drewN | apply below_drew1) | exact HB.out))) : w.heap.size ≤ gb396)); have n3_ := Aside0.mk ((by rw [hg]; exact (below_size (by repeat (first | (with_reducible first | exact HB.out | apply below_alloc | apply pw_below_drewN | apply below_drew1) | exact HB.out))) : w.heap.size ≤ gb396)); clear HB; have HB := n0_; have BK396 := n1_; have GW396 := n2_; have GE396 := n3_; clear n0_ n1_ n2_ n3_; clear hb hbox hg) | ((with_reducible refine gate_dst (N := 6) rfl ?_); refine box_event ?hg (N := 6) ?hd (cs := #[.int .i64 0, .int .i64 0, .string (⟨#[]⟩ : ByteArray), .bool false]) (t := 38) ?hr ?_; (case hd => rfl); (case hg => rfl); (case hr => first | (go_simp; done) | (go_simp; rfl)); intro gb397 hg w214 hbox hb; have n0_ := Aside0.mk (blk_below (g := gb396) (o := .cells #[.int .i64 0, .int .i64 0, .string (⟨#[]⟩ : ByteArray), .bool false] 38 (0, 0)) (by (with_reducible repeat (first | refine blk_drewN ?_ _ | refine blk_drew ?_ | refine blk_alloc ?_ _)); exact BK396.out) hb); have n1_ := Aside0.mk (below_step (by repeat (first | (with_reducible first | exact HB.out | apply below_alloc | apply pw_below_drewN | apply below_drew1 | refine below_set ?_ GE396.out) | exact HB.out)) hb); have n2_ := Aside0.mk (hbox); have n3_ := Aside0.mk ((by rw [hg]; exact (below_size (by repeat (first | (with_reducible first | exact HB.out | apply below_alloc | apply pw_below_drewN | apply below_drew1 | refine below_set ?_ GE396.out) | exact HB.out))) : w.heap.size ≤ gb397)); have n4_ := Aside0.mk ((by rw [hg]; exact (below_size (by repeat (first | (with_reducible first | exact HB.out | apply below_alloc | apply pw_below_drewN | apply below_drew1 | refine below_set ?_ GE396.out) | exact HB.out))) : w.heap.size ≤ gb397)); have n5_ := Aside0.mk ((by rw [hg]; exact Nat.ne_of_lt (blk_lt (g := gb396) (o := .cells #[.int .i64 0, .int .i64 0, .string (⟨#[]⟩ : ByteArray), .bool false] 38 (0, 0)) (by (with_reducible repeat (first | refine blk_drewN ?_ _ | refine blk_drew ?_ | refine blk_alloc ?_ _)); exact BK396.out)) : gb396 ≠ gb397)); have n6_ := Aside0.mk ((by rw [hg]; exact Nat.ne_of_gt (blk_lt (g := gb396) (o := .cells #[.int .i64 0, .int .i64 0, .string (⟨#[]⟩ : ByteArray), .bool false] 38 (0, 0)) (by (with_reducible repeat (first | refine blk_drewN ?_ _ | refine blk_drew ?_ | refine blk_alloc ?_ _)); exact BK396.out)) : gb397 ≠ gb396)); clear BK396; clear HB; have BK396 := n0_; have HB := n1_; have BK397 := n2_; have GW397 := n3_; have GE397 := n4_; have NB396_397 := n5_; have NB397_396 := n6_; clear n0_ n1_ n2_ n3_ n4_ n5_ n6_; clear hb hbox hg; have hnb215 := NB396_397.out; have hnc215 := NB397_396.out; have hcz216_0 : w214.cell? ⟨gb396, 0, none⟩ = some (.int .i64 0) := (blk_cell BK396.out 0).trans rfl; have hcz216_1 : w214.cell? ⟨gb396, 1, none⟩ = some (.int .i64 0) := (blk_cell BK396.out 1).trans rfl; have hcz216_2 : w214.cell? ⟨gb396, 2, none⟩ = some (.string (⟨#[]⟩ : ByteArray)) := (blk_cell BK396.out 2).trans rfl; have hcz216_3 : w214.cell? ⟨gb396, 3, none⟩ = some (.bool false) := (blk_cell BK396.out 3).trans rfl; have hfz216_0 := blk_frozen BK396.out 0; have hfz216_1 := blk_frozen BK396.out 1; have hfz216_2 := blk_frozen BK396.out 2; have hfz216_3 := blk_frozen BK396.out 3; have hcz217_0 : w214.cell? ⟨gb397, 0, none⟩ = some (.int .i64 0) := (blk_cell BK397.out 0).trans rfl; have hcz217_1 : w214.cell? ⟨gb397, 1, none⟩ = some (.int .i64 0) := (blk_cell BK397.out 1).trans rfl; have hcz217_2 : w214.cell? ⟨gb397, 2, none⟩ = some (.string (⟨#[]⟩ : ByteArray)) := (blk_cell BK397.out 2).trans rfl; have hcz217_3 : w214.cell? ⟨gb397, 3, none⟩ = some (.bool false) := (blk_cell BK397.out 3).trans rfl; have hfz217_0 := blk_frozen BK397.out 0; have hfz217_1 := blk_frozen BK397.out 1; have hfz217_2 := blk_frozen BK397.out 2; have hfz217_3 := blk_frozen BK397.out 3) | ((with_reducible refine gate_callee (f := 26) rfl ?_); refine goesL_ (some 27) rfl rfl Tryd.func26 (by kernel_rfl) rfl #[.int .u8 47, .agg #[.int .i64 t388, .int .i64 t389, .string t390, .bool t391], .agg #[.int .i64 t392, .int .i64 t393, .string t394, .bool t395]] rfl (by (try simp only [List.map_toArray, List.map_cons, List.map_nil]); first | done | rfl | (simp only [List.length_drop, List.length_take]; rfl)) ?_; (with_reducible refine (value_Reckon.calls k 47 t388 t389 t390 t391 t392 t393 t394 t395 t398 t399 t400 t401 (some q413) _ A5.out).mono ?_); rintro e w218 ⟨rfl, hb⟩; refine ⟨_, rfl, ?_⟩; have n0_ := Aside0.mk (blk_below (g := gb396) (o := .cells #[.int .i64 t388, .int .i64 t389, .string t390, .bool t391] 38 (0, 0)) (by (with_reducible repeat (first | refine blk_drewN ?_ _ | refine blk_drew ?_ | refine blk_alloc ?_ _)); refine blk_far ?_ NB396_397.out _; (with_reducible repeat (first | refine blk_drewN ?_ _ | refine blk_drew ?_ | refine blk_alloc ?_ _)); refine blk_far ?_ NB396_397.out _; (with_reducible repeat (first | refine blk_drewN ?_ _ | refine blk_drew ?_ | refine blk_alloc ?_ _)); refine blk_far ?_ NB396_397.out _; (with_reducible repeat (first | refine blk_drewN ?_ _ | refine blk_drew ?_ | refine blk_alloc ?_ _)); refine blk_far ?_ NB396_397.out _; (with_reducible repeat (first | refine blk_drewN ?_ _ | refine blk_drew ?_ | refine blk_alloc ?_ _)); refine blk_put (cs := #[.int .i64 t388, .int .i64 t389, .string t390, .bool false]) ?_ 3 _ rfl; (with_reducible repeat (first | refine blk_drewN ?_ _ | refine blk_drew ?_ | refine blk_alloc ?_ _)); refine blk_put (cs := #[.int .i64 t388, .int .i64 t389, .string (⟨#[]⟩ : ByteArray), .bool false]) ?_ 2 _ rfl; (with_reducible repeat (first | refine blk_drewN ?_ _ | refine blk_drew ?_ | refine blk_alloc ?_ _)); refine blk_put (cs := #[.int .i64 t388, .int .i64 0, .string (⟨#[]⟩ : ByteArray), .bool false]) ?_ 1 _ rfl; (with_reducible repeat (first | refine blk_drewN ?_ _ | refine blk_drew ?_ | refine blk_alloc ?_ _)); refine blk_put (cs := #[.int .i64 0, .int .i64 0, .string (⟨#[]⟩ : ByteArray), .bool false]) ?_ 0 _ rfl; (with_reducible repeat (first | refine blk_drewN ?_ _ | refine blk_drew ?_ | refine blk_alloc ?_ _)); exact BK396.out) hb); have n1_ := Aside0.mk (blk_below (g := gb397) (o := .cells #[.int .i64 t392, .int .i64 t393, .string t394, .bool t395] 38 (0, 0)) (by (with_reducible repeat (first | refine blk_drewN ?_ _ | refine blk_drew ?_ | refine blk_alloc ?_ _)); refine blk_put (cs := #[.int .i64 t392, .int .i64 t393, .string t394, .bool false]) ?_ 3 _ rfl; (with_reducible repeat (first | refine blk_drewN ?_ _ | refine blk_drew ?_ | refine blk_alloc ?_ _)); refine blk_put (cs := #[.int .i64 t392, .int .i64 t393, .string (⟨#[]⟩ : ByteArray), .bool false]) ?_ 2 _ rfl; (with_reducible repeat (first | refine blk_drewN ?_ _ | refine blk_drew ?_ | refine blk_alloc ?_ _)); refine blk_put (cs := #[.int .i64 t392, .int .i64 0, .string (⟨#[]⟩ : ByteArray), .bool false]) ?_ 1 _ rfl; (with_reducible repeat (first | refine blk_drewN ?_ _ | refine blk_drew ?_ | refine blk_alloc ?_ _)); refine blk_put (cs := #[.int .i64 0, .int .i64 0, .string (⟨#[]⟩ : ByteArray), .bool false]) ?_ 0 _ rfl; (with_reducible repeat (first | refine blk_drewN ?_ _ | refine blk_drew ?_ | refine blk_alloc ?_ _)); refine blk_far ?_ NB397_396.out _; (with_reducible repeat (first | refine blk_drewN ?_ _ | refine blk_drew ?_ | refine blk_alloc ?_ _)); refine blk_far ?_ NB397_396.out _; (with_reducible repeat (first | refine blk_drewN ?_ _ | refine blk_drew ?_ | refine blk_alloc ?_ _)); refine blk_far ?_ NB397_396.out _; (with_reducible repeat (first | refine blk_drewN ?_ _ | refine blk_drew ?_ | refine blk_alloc ?_ _)); refine blk_far ?_ NB397_396.out _; (with_reducible repeat (first | refine blk_drewN ?_ _ | refine blk_drew ?_ | refine blk_alloc ?_ _)); exact BK397.out) hb); have n2_ := Aside0.mk (below_step (by repeat (first | (with_reducible first | exact HB.out | apply below_alloc | apply pw_below_drewN | apply below_drew1 | refine below_set ?_ GE396.out | refine below_set ?_ GE397.out) | exact HB.out)) hb); clear BK396; clear BK397; clear HB; have BK396 := n0_; have BK397 := n1_; have HB := n2_; clear n0_ n1_ n2_; (try clear hb); (try clear hb2); (try clear hk); (try clear hi); (try simp only [errW_none, errW_some])) | ((with_reducible refine gate_dst (N := 7) rfl ?_); refine box_event ?hg (N := 7) ?hd (cs := #[.int .i64 0, .int .i64 0, .string (⟨#[]⟩ : ByteArray), .bool false]) (t := 38) ?hr ?_; (case hd => rfl); (case hg => rfl); (case hr => first | (go_simp; done) | (go_simp; rfl)); intro gb403 hg w219 hbox hb; have n0_ := Aside0.mk (blk_below (g := gb396) (o := .cells #[.int .i64 t388, .int .i64 t389, .string t390, .bool t391] 38 (0, 0)) (by (with_reducible repeat (first | refine blk_drewN ?_ _ | refine blk_drew ?_ | refine blk_alloc ?_ _)); exact BK396.out) hb); have n1_ := Aside0.mk (blk_below (g := gb397) (o := .cells #[.int .i64 t392, .int .i64 t393, .string t394, .bool t395] 38 (0, 0)) (by (with_reducible repeat (first | refine blk_drewN ?_ _ | refine blk_drew ?_ | refine blk_alloc ?_ _)); exact BK397.out) hb); have n2_ := Aside0.mk (below_step (by repeat (first | (with_reducible first | exact HB.out | apply below_alloc | apply pw_below_drewN | apply below_drew1 | refine below_set ?_ GE396.out | refine below_set ?_ GE397.out) | exact HB.out)) hb); have n3_ := Aside0.mk (hbox); have n4_ := Aside0.mk ((by rw [hg]; exact (below_size (by repeat (first | (with_reducible first | exact HB.out | apply below_alloc | apply pw_below_drewN | apply below_drew1 | refine below_set ?_ GE396.out | refine below_set ?_ GE397.out) | exact HB.out))) : w.heap.size ≤ gb403)); have n5_ := Aside0.mk ((by rw [hg]; exact (below_size (by repeat (first | (with_reducible first | exact HB.out | apply below_alloc | apply pw_below_drewN | apply below_drew1 | refine below_set ?_ GE396.out | refine below_set ?_ GE397.out) | exact HB.out))) : w.heap.size ≤ gb403)); have n6_ := Aside0.mk ((by rw [hg]; exact Nat.ne_of_lt (blk_lt (g := gb396) (o := .cells #[.int .i64 t388, .int .i64 t389, .string t390, .bool t391] 38 (0, 0)) (by (with_reducible repeat (first | refine blk_drewN ?_ _ | refine blk_drew ?_ | refine blk_alloc ?_ _)); exact BK396.out)) : gb396 ≠ gb403)); have n7_ := Aside0.mk ((by rw [hg]; exact Nat.ne_of_gt (blk_lt (g := gb396) (o := .cells #[.int .i64 t388, .int .i64 t389, .string t390, .bool t391] 38 (0, 0)) (by (with_reducible repeat (first | refine blk_drewN ?_ _ | refine blk_drew ?_ | refine blk_alloc ?_ _)); exact BK396.out)) : gb403 ≠ gb396)); have n8_ := Aside0.mk ((by rw [hg]; exact Nat.ne_of_lt (blk_lt (g := gb397) (o := .cells #[.int .i64 t392, .int .i64 t393, .string t394, .bool t395] 38 (0, 0)) (by (with_reducible repeat (first | refine blk_drewN ?_ _ | refine blk_drew ?_ | refine blk_alloc ?_ _)); exact BK397.out)) : gb397 ≠ gb403)); have n9_ := Aside0.mk ((by rw [hg]; exact Nat.ne_of_gt (blk_lt (g := gb397) (o := .cells #[.int .i64 t392, .int .i64 t393, .string t394, .bool t395] 38 (0, 0)) (by (with_reducible repeat (first | refine blk_drewN ?_ _ | refine blk_drew ?_ | refine blk_alloc ?_ _)); exact BK397.out)) : gb403 ≠ gb397)); clear BK396; clear BK397; clear HB; have BK396 := n0_; have BK397 := n1_; have HB := n2_; have BK403 := n3_; have GW403 := n4_; have GE403 := n5_; have NB396_403 := n6_; have NB403_396 := n7_; have NB397_403 := n8_; have NB403_397 := n9_; clear n0_ n1_ n2_ n3_ n4_ n5_ n6_ n7_ n8_ n9_; clear hb hbox hg; have hnb220 := NB403_396.out; have hnc220 := NB396_403.out; have hnb221 := NB403_397.out; have hnc221 := NB397_403.out; have hcz222_0 : w219.cell? ⟨gb403, 0, none⟩ = some (.int .i64 0) := (blk_cell BK403.out 0).trans rfl; have hcz222_1 : w219.cell? ⟨gb403, 1, none⟩ = some (.int .i64 0) := (blk_cell BK403.out 1).trans rfl; have hcz222_2 : w219.cell? ⟨gb403, 2, none⟩ = some (.string (⟨#[]⟩ : ByteArray)) := (blk_cell BK403.out 2).trans rfl; have hcz222_3 : w219.cell? ⟨gb403, 3, none⟩ = some (.bool false) := (blk_cell BK403.out 3).trans rfl; have hfz222_0 := blk_frozen BK403.out 0; have hfz222_1 := blk_frozen BK403.out 1; have hfz222_2 := blk_frozen BK403.out 2; have hfz222_3 := blk_frozen BK403.out 3; have hcz223_0 : w219.cell? ⟨gb396, 0, none⟩ = some (.int .i64 t388) := (blk_cell BK396.out 0).trans rfl; have hcz223_1 : w219.cell? ⟨gb396, 1, none⟩ = some (.int .i64 t389) := (blk_cell BK396.out 1).trans rfl; have hcz223_2 : w219.cell? ⟨gb396, 2, none⟩ = some (.string t390) := (blk_cell BK396.out 2).trans rfl; have hcz223_3 : w219.cell? ⟨gb396, 3, none⟩ = some (.bool t391) := (blk_cell BK396.out 3).trans rfl; have hfz223_0 := blk_frozen BK396.out 0; have hfz223_1 := blk_frozen BK396.out 1; have hfz223_2 := blk_frozen BK396.out 2; have hfz223_3 := blk_frozen BK396.out 3; have hcz224_0 : w219.cell? ⟨gb397, 0, none⟩ = some (.int .i64 t392) := (blk_cell BK397.out 0).trans rfl; have hcz224_1 : w219.cell? ⟨gb397, 1, none⟩ = some (.int .i64 t393) := (blk_cell BK397.out 1).trans rfl; have hcz224_2 : w219.cell? ⟨gb397, 2, none⟩ = some (.string t394) := (blk_cell BK397.out 2).trans rfl; have hcz224_3 : w219.cell? ⟨gb397, 3, none⟩ = some (.bool t395) := (blk_cell BK397.out 3).trans rfl; have hfz224_0 := blk_frozen BK397.out 0; have hfz224_1 := blk_frozen BK397.out 1; have hfz224_2 := blk_frozen BK397.out 2; have hfz224_3 := blk_frozen BK397.out 3) | ((with_reducible refine gate_callee (f := 26) rfl ?_); refine goesL_ (some 33) rfl rfl Tryd.func26 (by kernel_rfl) rfl #[.int .u8 37, .agg #[.int .i64 t388, .int .i64 t389, .string t390, .bool t391], .agg #[.int .i64 t392, .int .i64 t393, .string t394, .bool t395]] rfl (by (try simp only [List.map_toArray, List.map_cons, List.map_nil]); first | done | rfl | (simp only [List.length_drop, List.length_take]; rfl)) ?_; (with_reducible refine (value_Reckon.calls k 37 t388 t389 t390 t391 t392 t393 t394 t395 t404 t405 t406 t407 t408 _ A6.out).mono ?_); rintro e w225 ⟨rfl, hb⟩; refine ⟨_, rfl, ?_⟩; have n0_ := Aside0.mk (blk_below (g := gb396) (o := .cells #[.int .i64 t388, .int .i64 t389, .string t390, .bool t391] 38 (0, 0)) (by (with_reducible repeat (first | refine blk_drewN ?_ _ | refine blk_drew ?_ | refine blk_alloc ?_ _)); refine blk_far ?_ NB396_403.out _; (with_reducible repeat (first | refine blk_drewN ?_ _ | refine blk_drew ?_ | refine blk_alloc ?_ _)); refine blk_far ?_ NB396_403.out _; (with_reducible repeat (first | refine blk_drewN ?_ _ | refine blk_drew ?_ | refine blk_alloc ?_ _)); refine blk_far ?_ NB396_403.out _; (with_reducible repeat (first | refine blk_drewN ?_ _ | refine blk_drew ?_ | refine blk_alloc ?_ _)); refine blk_far ?_ NB396_403.out _; (with_reducible repeat (first | refine blk_drewN ?_ _ | refine blk_drew ?_ | refine blk_alloc ?_ _)); exact BK396.out) hb); have n1_ := Aside0.mk (blk_below (g := gb397) (o := .cells #[.int .i64 t392, .int .i64 t393, .string t394, .bool t395] 38 (0, 0)) (by (with_reducible repeat (first | refine blk_drewN ?_ _ | refine blk_drew ?_ | refine blk_alloc ?_ _)); refine blk_far ?_ NB397_403.out _; (with_reducible repeat (first | refine blk_drewN ?_ _ | refine blk_drew ?_ | refine blk_alloc ?_ _)); refine blk_far ?_ NB397_403.out _; (with_reducible repeat (first | refine blk_drewN ?_ _ | refine blk_drew ?_ | refine blk_alloc ?_ _)); refine blk_far ?_ NB397_403.out _; (with_reducible repeat (first | refine blk_drewN ?_ _ | refine blk_drew ?_ | refine blk_alloc ?_ _)); refine blk_far ?_ NB397_403.out _; (with_reducible repeat (first | refine blk_drewN ?_ _ | refine blk_drew ?_ | refine blk_alloc ?_ _)); exact BK397.out) hb); have n2_ := Aside0.mk (blk_below (g := gb403) (o := .cells #[.int .i64 t398, .int .i64 t399, .string t400, .bool t401] 38 (0, 0)) (by (with_reducible repeat (first | refine blk_drewN ?_ _ | refine blk_drew ?_ | refine blk_alloc ?_ _)); refine blk_put (cs := #[.int .i64 t398, .int .i64 t399, .string t400, .bool false]) ?_ 3 _ rfl; (with_reducible repeat (first | refine blk_drewN ?_ _ | refine blk_drew ?_ | refine blk_alloc ?_ _)); refine blk_put (cs := #[.int .i64 t398, .int .i64 t399, .string (⟨#[]⟩ : ByteArray), .bool false]) ?_ 2 _ rfl; (with_reducible repeat (first | refine blk_drewN ?_ _ | refine blk_drew ?_ | refine blk_alloc ?_ _)); refine blk_put (cs := #[.int .i64 t398, .int .i64 0, .string (⟨#[]⟩ : ByteArray), .bool false]) ?_ 1 _ rfl; (with_reducible repeat (first | refine blk_drewN ?_ _ | refine blk_drew ?_ | refine blk_alloc ?_ _)); refine blk_put (cs := #[.int .i64 0, .int .i64 0, .string (⟨#[]⟩ : ByteArray), .bool false]) ?_ 0 _ rfl; (with_reducible repeat (first | refine blk_drewN ?_ _ | refine blk_drew ?_ | refine blk_alloc ?_ _)); exact BK403.out) hb); have n3_ := Aside0.mk (below_step (by repeat (first | (with_reducible first | exact HB.out | apply below_alloc | apply pw_below_drewN | apply below_drew1 | refine below_set ?_ GE396.out | refine below_set ?_ GE397.out | refine below_set ?_ GE403.out) | exact HB.out)) hb); clear BK396; clear BK397; clear BK403; clear HB; have BK396 := n0_; have BK397 := n1_; have BK403 := n2_; have HB := n3_; clear n0_ n1_ n2_ n3_; (try clear hb); (try clear hb2); (try clear hk); (try clear hi); (try simp only [errW_none, errW_some])) | ((with_reducible refine gate_dst (N := 9) rfl ?_); refine box_event ?hg (N := 9) ?hd (cs := #[.int .i64 0, .int .i64 0, .string (⟨#[]⟩ : ByteArray), .bool false]) (t := 38) ?hr ?_; (case hd => rfl); (case hg => rfl); (case hr => first | (go_simp; done) | (go_simp; rfl)); intro gb409 hg w226 hbox hb; have n0_ := Aside0.mk (blk_below (g := gb396) (o := .cells #[.int .i64 t388, .int .i64 t389, .string t390, .bool t391] 38 (0, 0)) (by (with_reducible repeat (first | refine blk_drewN ?_ _ | refine blk_drew ?_ | refine blk_alloc ?_ _)); exact BK396.out) hb); have n1_ := Aside0.mk (blk_below (g := gb397) (o := .cells #[.int .i64 t392, .int .i64 t393, .string t394, .bool t395] 38 (0, 0)) (by (with_reducible repeat (first | refine blk_drewN ?_ _ | refine blk_drew ?_ | refine blk_alloc ?_ _)); exact BK397.out) hb); have n2_ := Aside0.mk (blk_below (g := gb403) (o := .cells #[.int .i64 t398, .int .i64 t399, .string t400, .bool t401] 38 (0, 0)) (by (with_reducible repeat (first | refine blk_drewN ?_ _ | refine blk_drew ?_ | refine blk_alloc ?_ _)); exact BK403.out) hb); have n3_ := Aside0.mk (below_step (by repeat (first | (with_reducible first | exact HB.out | apply below_alloc | apply pw_below_drewN | apply below_drew1 | refine below_set ?_ GE396.out | refine below_set ?_ GE397.out | refine below_set ?_ GE403.out) | exact HB.out)) hb); have n4_ := Aside0.mk (hbox); have n5_ := Aside0.mk ((by rw [hg]; exact (below_size (by repeat (first | (with_reducible first | exact HB.out | apply below_alloc | apply pw_below_drewN | apply below_drew1 | refine below_set ?_ GE396.out | refine below_set ?_ GE397.out | refine below_set ?_ GE403.out) | exact HB.out))) : w.heap.size ≤ gb409)); have n6_ := Aside0.mk ((by rw [hg]; exact (below_size (by repeat (first | (with_reducible first | exact HB.out | apply below_alloc | apply pw_below_drewN | apply below_drew1 | refine below_set ?_ GE396.out | refine below_set ?_ GE397.out | refine below_set ?_ GE403.out) | exact HB.out))) : w.heap.size ≤ gb409)); have n7_ := Aside0.mk ((by rw [hg]; exact Nat.ne_of_lt (blk_lt (g := gb396) (o := .cells #[.int .i64 t388, .int .i64 t389, .string t390, .bool t391] 38 (0, 0)) (by (with_reducible repeat (first | refine blk_drewN ?_ _ | refine blk_drew ?_ | refine blk_alloc ?_ _)); exact BK396.out)) : gb396 ≠ gb409)); have n8_ := Aside0.mk ((by rw [hg]; exact Nat.ne_of_gt (blk_lt (g := gb396) (o := .cells #[.int .i64 t388, .int .i64 t389, .string t390, .bool t391] 38 (0, 0)) (by (with_reducible repeat (first | refine blk_drewN ?_ _ | refine blk_drew ?_ | refine blk_alloc ?_ _)); exact BK396.out)) : gb409 ≠ gb396)); have n9_ := Aside0.mk ((by rw [hg]; exact Nat.ne_of_lt (blk_lt (g := gb397) (o := .cells #[.int .i64 t392, .int .i64 t393, .string t394, .bool t395] 38 (0, 0)) (by (with_reducible repeat (first | refine blk_drewN ?_ _ | refine blk_drew ?_ | refine blk_alloc ?_ _)); exact BK397.out)) : gb397 ≠ gb409)); have n10_ := Aside0.mk ((by rw [hg]; exact Nat.ne_of_gt (blk_lt (g := gb397) (o := .cells #[.int .i64 t392, .int .i64 t393, .string t394, .bool t395] 38 (0, 0)) (by (with_reducible repeat (first | refine blk_drewN ?_ _ | refine blk_drew ?_ | refine blk_alloc ?_ _)); exact BK397.out)) : gb409 ≠ gb397)); have n11_ := Aside0.mk ((by rw [hg]; exact Nat.ne_of_lt (blk_lt (g := gb403) (o := .cells #[.int .i64 t398, .int .i64 t399, .string t400, .bool t401] 38 (0, 0)) (by (with_reducible repeat (first | refine blk_drewN ?_ _ | refine blk_drew ?_ | refine blk_alloc ?_ _)); exact BK403.out)) : gb403 ≠ gb409)); have n12_ := Aside0.mk ((by rw [hg]; exact Nat.ne_of_gt (blk_lt (g := gb403) (o := .cells #[.int .i64 t398, .int .i64 t399, .string t400, .bool t401] 38 (0, 0)) (by (with_reducible repeat (first | refine blk_drewN ?_ _ | refine blk_drew ?_ | refine blk_alloc ?_ _)); exact BK403.out)) : gb409 ≠ gb403)); clear BK396; clear BK397; clear BK403; clear HB; have BK396 := n0_; have BK397 := n1_; have BK403 := n2_; have HB := n3_; have BK409 := n4_; have GW409 := n5_; have GE409 := n6_; have NB396_409 := n7_; have NB409_396 := n8_; have NB397_409 := n9_; have NB409_397 := n10_; have NB403_409 := n11_; have NB409_403 := n12_; clear n0_ n1_ n2_ n3_ n4_ n5_ n6_ n7_ n8_ n9_ n10_ n11_ n12_; clear hb hbox hg; have hnb227 := NB409_396.out; have hnc227 := NB396_409.out; have hnb228 := NB409_397.out; have hnc228 := NB397_409.out; have hnb229 := NB409_403.out; have hnc229 := NB403_409.out; have hcz230_0 : w226.cell? ⟨gb409, 0, none⟩ = some (.int .i64 0) := (blk_cell BK409.out 0).trans rfl; have hcz230_1 : w226.cell? ⟨gb409, 1, none⟩ = some (.int .i64 0) := (blk_cell BK409.out 1).trans rfl; have hcz230_2 : w226.cell? ⟨gb409, 2, none⟩ = some (.string (⟨#[]⟩ : ByteArray)) := (blk_cell BK409.out 2).trans rfl; have hcz230_3 : w226.cell? ⟨gb409, 3, none⟩ = some (.bool false) := (blk_cell BK409.out 3).trans rfl; have hfz230_0 := blk_frozen BK409.out 0; have hfz230_1 := blk_frozen BK409.out 1; have hfz230_2 := blk_frozen BK409.out 2; have hfz230_3 := blk_frozen BK409.out 3; have CA207 := fun W (hG_ : GW W) => barbicanlaw05_num.calls (some q413) t446 W hG_ A207.out; try simp only [errW_none, errW_some] at CA207) | (go_at_call 29; (with_reducible refine (CA207 _ ?side1).mono ?_); (case side1 => exact GW_below HG.out (by repeat (first | (with_reducible first | exact HB.out | apply below_alloc | apply pw_below_drewN | apply below_drew1 | refine below_set ?_ GE396.out | refine below_set ?_ GE397.out | refine below_set ?_ GE403.out | refine below_set ?_ GE409.out) | exact HB.out))); rintro e w231 ⟨rfl, hb⟩; have n0_ := Aside0.mk (blk_below (g := gb396) (o := .cells #[.int .i64 t388, .int .i64 t389, .string t390, .bool t391] 38 (0, 0)) (by (with_reducible repeat (first | refine blk_drewN ?_ _ | refine blk_drew ?_ | refine blk_alloc ?_ _)); refine blk_far ?_ NB396_409.out _; (with_reducible repeat (first | refine blk_drewN ?_ _ | refine blk_drew ?_ | refine blk_alloc ?_ _)); refine blk_far ?_ NB396_409.out _; (with_reducible repeat (first | refine blk_drewN ?_ _ | refine blk_drew ?_ | refine blk_alloc ?_ _)); refine blk_far ?_ NB396_409.out _; (with_reducible repeat (first | refine blk_drewN ?_ _ | refine blk_drew ?_ | refine blk_alloc ?_ _)); refine blk_far ?_ NB396_409.out _; (with_reducible repeat (first | refine blk_drewN ?_ _ | refine blk_drew ?_ | refine blk_alloc ?_ _)); exact BK396.out) hb); have n1_ := Aside0.mk (blk_below (g := gb397) (o := .cells #[.int .i64 t392, .int .i64 t393, .string t394, .bool t395] 38 (0, 0)) (by (with_reducible repeat (first | refine blk_drewN ?_ _ | refine blk_drew ?_ | refine blk_alloc ?_ _)); refine blk_far ?_ NB397_409.out _; (with_reducible repeat (first | refine blk_drewN ?_ _ | refine blk_drew ?_ | refine blk_alloc ?_ _)); refine blk_far ?_ NB397_409.out _; (with_reducible repeat (first | refine blk_drewN ?_ _ | refine blk_drew ?_ | refine blk_alloc ?_ _)); refine blk_far ?_ NB397_409.out _; (with_reducible repeat (first | refine blk_drewN ?_ _ | refine blk_drew ?_ | refine blk_alloc ?_ _)); refine blk_far ?_ NB397_409.out _; (with_reducible repeat (first | refine blk_drewN ?_ _ | refine blk_drew ?_ | refine blk_alloc ?_ _)); exact BK397.out) hb); have n2_ := Aside0.mk (blk_below (g := gb403) (o := .cells #[.int .i64 t398, .int .i64 t399, .string t400, .bool t401] 38 (0, 0)) (by (with_reducible repeat (first | refine blk_drewN ?_ _ | refine blk_drew ?_ | refine blk_alloc ?_ _)); refine blk_far ?_ NB403_409.out _; (with_reducible repeat (first | refine blk_drewN ?_ _ | refine blk_drew ?_ | refine blk_alloc ?_ _)); refine blk_far ?_ NB403_409.out _; (with_reducible repeat (first | refine blk_drewN ?_ _ | refine blk_drew ?_ | refine blk_alloc ?_ _)); refine blk_far ?_ NB403_409.out _; (with_reducible repeat (first | refine blk_drewN ?_ _ | refine blk_drew ?_ | refine blk_alloc ?_ _)); refine blk_far ?_ NB403_409.out _; (with_reducible repeat (first | refine blk_drewN ?_ _ | refine blk_drew ?_ | refine blk_alloc ?_ _)); exact BK403.out) hb); have n3_ := Aside0.mk (blk_below (g := gb409) (o := .cells #[.int .i64 t404, .int .i64 t405, .string t406, .bool t407] 38 (0, 0)) (by (with_reducible repeat (first | refine blk_drewN ?_ _ | refine blk_drew ?_ | refine blk_alloc ?_ _)); refine blk_put (cs := #[.int .i64 t404, .int .i64 t405, .string t406, .bool false]) ?_ 3 _ rfl; (with_reducible repeat (first | refine blk_drewN ?_ _ | refine blk_drew ?_ | refine blk_alloc ?_ _)); refine blk_put (cs := #[.int .i64 t404, .int .i64 t405, .string (⟨#[]⟩ : ByteArray), .bool false]) ?_ 2 _ rfl; (with_reducible repeat (first | refine blk_drewN ?_ _ | refine blk_drew ?_ | refine blk_alloc ?_ _)); refine blk_put (cs := #[.int .i64 t404, .int .i64 0, .string (⟨#[]⟩ : ByteArray), .bool false]) ?_ 1 _ rfl; (with_reducible repeat (first | refine blk_drewN ?_ _ | refine blk_drew ?_ | refine blk_alloc ?_ _)); refine blk_put (cs := #[.int .i64 0, .int .i64 0, .string (⟨#[]⟩ : ByteArray), .bool false]) ?_ 0 _ rfl; (with_reducible repeat (first | refine blk_drewN ?_ _ | refine blk_drew ?_ | refine blk_alloc ?_ _)); exact BK409.out) hb); have n4_ := Aside0.mk (below_step (by repeat (first | (with_reducible first | exact HB.out | apply below_alloc | apply pw_below_drewN | apply below_drew1 | refine below_set ?_ GE396.out | refine below_set ?_ GE397.out | refine below_set ?_ GE403.out | refine below_set ?_ GE409.out) | exact HB.out)) hb); clear BK396; clear BK397; clear BK403; clear BK409; clear HB; have BK396 := n0_; have BK397 := n1_; have BK403 := n2_; have BK409 := n3_; have HB := n4_; clear n0_ n1_ n2_ n3_ n4_; (try clear hb); (try clear hb2); (try clear hk); (try clear hi)))
          (try simp only [Act.put, List.setIfInBounds_toArray, List.set_cons_zero, List.set_cons_succ])
          go_cut [15] (fun v15 wc => ∃ (kq : Nat) (x15_209 : Bool), v15 = .bool x15_209 ∧ Aside0 (barbicanlaw05_ValueDivides.j2 kq a0 t408 x15_209 t388 t389 t390 t391 t392 t393 t394 t395 t404 t405 t406 t407 = some r) ∧ Aside0 (kq ≤ k) ∧ Aside0 (wc.heap[gb396]? = some (.cells #[.int .i64 t388, .int .i64 t389, .string t390, .bool t391] 38 (0, 0))) ∧ Aside0 (wc.heap[gb397]? = some (.cells #[.int .i64 t392, .int .i64 t393, .string t394, .bool t395] 38 (0, 0))) ∧ Aside0 (wc.heap[gb403]? = some (.cells #[.int .i64 t398, .int .i64 t399, .string t400, .bool t401] 38 (0, 0))) ∧ Aside0 (wc.heap[gb409]? = some (.cells #[.int .i64 t404, .int .i64 t405, .string t406, .bool t407] 38 (0, 0))) ∧ Aside0 (Below w.heap.size w wc))
          case first =>
            have H := HC210.out
            clear HC210
            by_cases c232 : t405 < 0
            · rw [if_pos c232] at H
              have c232b0 : decide (t405 < 0) = true := decide_eq_true c232
              clear c232
              (first | rw [c232b0] | (simp only [i64_w, i32_w]; rw [c232b0]) | skip)
              by_cases c233 : a1 < 0
              · rw [if_pos c233] at H
                have c233b0 : decide (a1 < 0) = true := decide_eq_true c233
                clear c233
                by_cases c234 : t405 > a1
                · rw [if_pos c234] at H
                  have c234b0 : decide (a1 < t405) = true := decide_eq_true c234
                  clear c234
                  have H' := Aside0.mk H
                  clear H
                  have hnb235 := NB409_396.out
                  have hnc235 := NB396_409.out
                  have hnb236 := NB409_397.out
                  have hnc236 := NB397_409.out
                  have hnb237 := NB409_403.out
                  have hnc237 := NB403_409.out
                  have hcz238_0 : w231.cell? ⟨gb409, 0, none⟩ = some (.int .i64 t404) := (blk_cell BK409.out 0).trans rfl
                  have hcz238_1 : w231.cell? ⟨gb409, 1, none⟩ = some (.int .i64 t405) := (blk_cell BK409.out 1).trans rfl
                  have hcz238_2 : w231.cell? ⟨gb409, 2, none⟩ = some (.string t406) := (blk_cell BK409.out 2).trans rfl
                  have hcz238_3 : w231.cell? ⟨gb409, 3, none⟩ = some (.bool t407) := (blk_cell BK409.out 3).trans rfl
                  have hfz238_0 := blk_frozen BK409.out 0
                  have hfz238_1 := blk_frozen BK409.out 1
                  have hfz238_2 := blk_frozen BK409.out 2
                  have hfz238_3 := blk_frozen BK409.out 3
                  go_wp2
                  refine Met.intro ?_
                  go_step
                  (repeat apply Exists.intro)
                  refine ⟨?rel, ?frm⟩
                  case frm => first | rfl | (simp only [c7b0, c7b1, c208b0, c208b1, c209b0, c209b1, c232b0, c233b0, c234b0]; rfl) | (simp only [c7b0, c7b1, c208b0, c208b1, c209b0, c209b1, c232b0, c233b0, c234b0]; first | done | rfl)
                  case rel => exact ⟨_, (true), (by first | rfl | (simp; done) | (simp [*]; done) | (simp [bne]; done)), H', ⟨by first | omega | exact Nat.le_refl _⟩, ⟨by (with_reducible repeat (first | refine blk_drewN ?_ _ | refine blk_drew ?_ | refine blk_alloc ?_ _)); exact BK396.out⟩, ⟨by (with_reducible repeat (first | refine blk_drewN ?_ _ | refine blk_drew ?_ | refine blk_alloc ?_ _)); exact BK397.out⟩, ⟨by (with_reducible repeat (first | refine blk_drewN ?_ _ | refine blk_drew ?_ | refine blk_alloc ?_ _)); exact BK403.out⟩, ⟨by (with_reducible repeat (first | refine blk_drewN ?_ _ | refine blk_drew ?_ | refine blk_alloc ?_ _)); exact BK409.out⟩, ⟨by repeat (first | (with_reducible first | exact HB.out | apply below_alloc | apply pw_below_drewN | apply below_drew1 | refine below_set ?_ GE396.out | refine below_set ?_ GE397.out | refine below_set ?_ GE403.out | refine below_set ?_ GE409.out) | exact HB.out)⟩⟩
                · rw [if_neg c234] at H
                  exact absurd H (by simp)
              · rw [if_neg c233] at H
                exact absurd H (by simp)
            · rw [if_neg c232] at H
              have c232b0 : decide (t405 < 0) = false := decide_eq_false c232
              clear c232
              (first | rw [c232b0] | (simp only [i64_w, i32_w]; rw [c232b0]) | skip)
              by_cases c239 : t405 ≥ 0
              · rw [if_pos c239] at H
                have c239b0 : decide (0 ≤ t405) = true := decide_eq_true c239
                clear c239
                by_cases c240 : a1 > 0
                · rw [if_pos c240] at H
                  exact absurd H (by simp)
                · rw [if_neg c240] at H
                  have c240b0 : decide (0 < a1) = false := decide_eq_false c240
                  clear c240
                  by_cases c241 : a1 < 0
                  · rw [if_pos c241] at H
                    have c241b0 : decide (a1 < 0) = true := decide_eq_true c241
                    clear c241
                    have H' := Aside0.mk H
                    clear H
                    have hnb242 := NB409_396.out
                    have hnc242 := NB396_409.out
                    have hnb243 := NB409_397.out
                    have hnc243 := NB397_409.out
                    have hnb244 := NB409_403.out
                    have hnc244 := NB403_409.out
                    have hcz245_0 : w231.cell? ⟨gb409, 0, none⟩ = some (.int .i64 t404) := (blk_cell BK409.out 0).trans rfl
                    have hcz245_1 : w231.cell? ⟨gb409, 1, none⟩ = some (.int .i64 t405) := (blk_cell BK409.out 1).trans rfl
                    have hcz245_2 : w231.cell? ⟨gb409, 2, none⟩ = some (.string t406) := (blk_cell BK409.out 2).trans rfl
                    have hcz245_3 : w231.cell? ⟨gb409, 3, none⟩ = some (.bool t407) := (blk_cell BK409.out 3).trans rfl
                    have hfz245_0 := blk_frozen BK409.out 0
                    have hfz245_1 := blk_frozen BK409.out 1
                    have hfz245_2 := blk_frozen BK409.out 2
                    have hfz245_3 := blk_frozen BK409.out 3
                    go_wp2
                    refine Met.intro ?_
                    go_step
                    (repeat apply Exists.intro)
                    refine ⟨?rel, ?frm⟩
                    case frm => first | rfl | (simp only [c7b0, c7b1, c208b0, c208b1, c209b0, c209b1, c232b0, c239b0, c240b0, c241b0]; rfl) | (simp only [c7b0, c7b1, c208b0, c208b1, c209b0, c209b1, c232b0, c239b0, c240b0, c241b0]; first | done | rfl)
                    case rel => exact ⟨_, (decide ((wrap64 (-t405)) > a1)), (by first | rfl | (simp; done) | (simp [*]; done) | (simp [bne]; done)), H', ⟨by first | omega | exact Nat.le_refl _⟩, ⟨by (with_reducible repeat (first | refine blk_drewN ?_ _ | refine blk_drew ?_ | refine blk_alloc ?_ _)); exact BK396.out⟩, ⟨by (with_reducible repeat (first | refine blk_drewN ?_ _ | refine blk_drew ?_ | refine blk_alloc ?_ _)); exact BK397.out⟩, ⟨by (with_reducible repeat (first | refine blk_drewN ?_ _ | refine blk_drew ?_ | refine blk_alloc ?_ _)); exact BK403.out⟩, ⟨by (with_reducible repeat (first | refine blk_drewN ?_ _ | refine blk_drew ?_ | refine blk_alloc ?_ _)); exact BK409.out⟩, ⟨by repeat (first | (with_reducible first | exact HB.out | apply below_alloc | apply pw_below_drewN | apply below_drew1 | refine below_set ?_ GE396.out | refine below_set ?_ GE397.out | refine below_set ?_ GE403.out | refine below_set ?_ GE409.out) | exact HB.out)⟩⟩
                  · rw [if_neg c241] at H
                    exact absurd H (by simp)
              · rw [if_neg c239] at H
                exact absurd H (by simp)
          case rest =>
            clear HC210
            try clear c1
            try clear c2
            try clear p2
            try clear c3
            try clear c4
            try clear q4
            try clear c5
            try clear c6
            try clear p6
            try clear c7
            try clear c7b0
            try clear c7b1
            try clear c8
            try clear c9
            try clear c10
            try clear c11
            try clear c12
            try clear c13
            try clear c14
            try clear c15
            try clear c16
            try clear c17
            try clear c18
            try clear c19
            try clear c20
            try clear c21
            try clear c22
            try clear c23
            try clear c24
            try clear c26
            try clear c28
            try clear c38
            try clear c38b0
            try clear q41
            try clear q42
            try clear q43
            try clear c44
            try clear q44
            try clear c49
            try clear c50
            try clear c56
            try clear c57
            try clear c58
            try clear c64
            try clear p64
            try clear c65
            try clear c66
            try clear c67
            try clear c72
            try clear c73
            try clear c74
            try clear c75
            try clear c76
            try clear c79
            try clear c79b0
            try clear c80
            try clear c80b0
            try clear c81
            try clear c81b0
            try clear c82
            try clear c83
            try clear c84
            try clear c85
            try clear c86
            try clear c88
            try clear c88b0
            try clear c89
            try clear c89b0
            try clear c89b1
            try clear c90
            try clear c91
            try clear c92
            try clear c93
            try clear c94
            try clear c96
            try clear c96b0
            try clear c97
            try clear c97b0
            try clear c98
            try clear c99
            try clear c100
            try clear c101
            try clear c102
            try clear c104
            try clear c104b0
            try clear c105
            try clear c105b0
            try clear c106
            try clear c106b0
            try clear c107
            try clear c108
            try clear c109
            try clear c110
            try clear c111
            try clear c113
            try clear c113b0
            try clear c114
            try clear c115
            try clear c116
            try clear c117
            try clear c118
            try clear c121
            try clear c122
            try clear c122b0
            try clear c123
            try clear c123b0
            try clear c124
            try clear c124b0
            try clear c125
            try clear c126
            try clear c127
            try clear c128
            try clear c129
            try clear c131
            try clear c131b0
            try clear c132
            try clear c133
            try clear c134
            try clear c135
            try clear c136
            try clear c138
            try clear c139
            try clear c140
            try clear c141
            try clear c142
            try clear c144
            try clear c147
            try clear c147b0
            try clear c147b1
            try clear c147b2
            try clear c149
            try clear c150
            try clear c151
            try clear c152
            try clear c153
            try clear c155
            try clear c156
            try clear c157
            try clear c158
            try clear c162
            try clear c163
            try clear c164
            try clear c165
            try clear c166
            try clear c167
            try clear c172
            try clear c173
            try clear c174
            try clear c175
            try clear c176
            try clear c177
            try clear c178
            try clear c183
            try clear c183b0
            try clear c183b1
            try clear c185
            try clear c186
            try clear c187
            try clear c188
            try clear c189
            try clear c191
            try clear c192
            try clear c193
            try clear c194
            try clear c198
            try clear c199
            try clear c200
            try clear c201
            try clear c202
            try clear c203
            try clear c208
            try clear c208b0
            try clear c208b1
            try clear c209
            try clear c209b0
            try clear c209b1
            try clear c215
            try clear c220
            try clear c221
            try clear c227
            try clear c228
            try clear c229
            try clear c232
            try clear c232b0
            try clear c233
            try clear c233b0
            try clear c234
            try clear c234b0
            try clear c235
            try clear c236
            try clear c237
            try clear c239
            try clear c239b0
            try clear c240
            try clear c240b0
            try clear c241
            try clear c241b0
            try clear c242
            try clear c243
            try clear c244
            try clear hcz103_0
            try clear hcz103_1
            try clear hcz103_2
            try clear hcz103_3
            try clear hcz112_0
            try clear hcz112_1
            try clear hcz112_2
            try clear hcz112_3
            try clear hcz119_0
            try clear hcz119_1
            try clear hcz119_2
            try clear hcz119_3
            try clear hcz130_0
            try clear hcz130_1
            try clear hcz130_2
            try clear hcz130_3
            try clear hcz137_0
            try clear hcz137_1
            try clear hcz137_2
            try clear hcz137_3
            try clear hcz143_0
            try clear hcz143_1
            try clear hcz143_2
            try clear hcz143_3
            try clear hcz154_0
            try clear hcz154_1
            try clear hcz154_2
            try clear hcz154_3
            try clear hcz159_0
            try clear hcz159_1
            try clear hcz159_2
            try clear hcz159_3
            try clear hcz168_0
            try clear hcz168_1
            try clear hcz168_2
            try clear hcz168_3
            try clear hcz169_0
            try clear hcz169_1
            try clear hcz169_2
            try clear hcz169_3
            try clear hcz179_0
            try clear hcz179_1
            try clear hcz179_2
            try clear hcz179_3
            try clear hcz180_0
            try clear hcz180_1
            try clear hcz180_2
            try clear hcz180_3
            try clear hcz18_0
            try clear hcz18_1
            try clear hcz18_2
            try clear hcz18_3
            try clear hcz190_0
            try clear hcz190_1
            try clear hcz190_2
            try clear hcz190_3
            try clear hcz195_0
            try clear hcz195_1
            try clear hcz195_2
            try clear hcz195_3
            try clear hcz19_0
            try clear hcz19_1
            try clear hcz19_2
            try clear hcz19_3
            try clear hcz204_0
            try clear hcz204_1
            try clear hcz204_2
            try clear hcz204_3
            try clear hcz216_0
            try clear hcz216_1
            try clear hcz216_2
            try clear hcz216_3
            try clear hcz217_0
            try clear hcz217_1
            try clear hcz217_2
            try clear hcz217_3
            try clear hcz222_0
            try clear hcz222_1
            try clear hcz222_2
            try clear hcz222_3
            try clear hcz223_0
            try clear hcz223_1
            try clear hcz223_2
            try clear hcz223_3
            try clear hcz224_0
            try clear hcz224_1
            try clear hcz224_2
            try clear hcz224_3
            try clear hcz230_0
            try clear hcz230_1
            try clear hcz230_2
            try clear hcz230_3
            try clear hcz238_0
            try clear hcz238_1
            try clear hcz238_2
            try clear hcz238_3
            try clear hcz245_0
            try clear hcz245_1
            try clear hcz245_2
            try clear hcz245_3
            try clear hcz24_0
            try clear hcz24_1
            try clear hcz24_2
            try clear hcz24_3
            try clear hcz25_0
            try clear hcz25_1
            try clear hcz25_2
            try clear hcz25_3
            try clear hcz26_0
            try clear hcz26_1
            try clear hcz26_2
            try clear hcz26_3
            try clear hcz32_0
            try clear hcz32_1
            try clear hcz32_2
            try clear hcz32_3
            try clear hcz45_0
            try clear hcz45_1
            try clear hcz45_2
            try clear hcz45_3
            try clear hcz46_0
            try clear hcz46_1
            try clear hcz46_2
            try clear hcz46_3
            try clear hcz51_0
            try clear hcz51_1
            try clear hcz51_2
            try clear hcz51_3
            try clear hcz52_0
            try clear hcz52_1
            try clear hcz52_2
            try clear hcz52_3
            try clear hcz53_0
            try clear hcz53_1
            try clear hcz53_2
            try clear hcz53_3
            try clear hcz59_0
            try clear hcz59_1
            try clear hcz59_2
            try clear hcz59_3
            try clear hcz60_0
            try clear hcz60_1
            try clear hcz60_2
            try clear hcz60_3
            try clear hcz61_0
            try clear hcz61_1
            try clear hcz61_2
            try clear hcz61_3
            try clear hcz68_0
            try clear hcz68_1
            try clear hcz68_2
            try clear hcz68_3
            try clear hcz69_0
            try clear hcz69_1
            try clear hcz69_2
            try clear hcz69_3
            try clear hcz77_0
            try clear hcz77_1
            try clear hcz77_2
            try clear hcz77_3
            try clear hcz78_0
            try clear hcz78_1
            try clear hcz78_2
            try clear hcz78_3
            try clear hcz87_0
            try clear hcz87_1
            try clear hcz87_2
            try clear hcz87_3
            try clear hcz95_0
            try clear hcz95_1
            try clear hcz95_2
            try clear hcz95_3
            try clear hfz103_0
            try clear hfz103_1
            try clear hfz103_2
            try clear hfz103_3
            try clear hfz112_0
            try clear hfz112_1
            try clear hfz112_2
            try clear hfz112_3
            try clear hfz119_0
            try clear hfz119_1
            try clear hfz119_2
            try clear hfz119_3
            try clear hfz130_0
            try clear hfz130_1
            try clear hfz130_2
            try clear hfz130_3
            try clear hfz137_0
            try clear hfz137_1
            try clear hfz137_2
            try clear hfz137_3
            try clear hfz143_0
            try clear hfz143_1
            try clear hfz143_2
            try clear hfz143_3
            try clear hfz154_0
            try clear hfz154_1
            try clear hfz154_2
            try clear hfz154_3
            try clear hfz159_0
            try clear hfz159_1
            try clear hfz159_2
            try clear hfz159_3
            try clear hfz168_0
            try clear hfz168_1
            try clear hfz168_2
            try clear hfz168_3
            try clear hfz169_0
            try clear hfz169_1
            try clear hfz169_2
            try clear hfz169_3
            try clear hfz179_0
            try clear hfz179_1
            try clear hfz179_2
            try clear hfz179_3
            try clear hfz180_0
            try clear hfz180_1
            try clear hfz180_2
            try clear hfz180_3
            try clear hfz18_0
            try clear hfz18_1
            try clear hfz18_2
            try clear hfz18_3
            try clear hfz190_0
            try clear hfz190_1
            try clear hfz190_2
            try clear hfz190_3
            try clear hfz195_0
            try clear hfz195_1
            try clear hfz195_2
            try clear hfz195_3
            try clear hfz19_0
            try clear hfz19_1
            try clear hfz19_2
            try clear hfz19_3
            try clear hfz204_0
            try clear hfz204_1
            try clear hfz204_2
            try clear hfz204_3
            try clear hfz216_0
            try clear hfz216_1
            try clear hfz216_2
            try clear hfz216_3
            try clear hfz217_0
            try clear hfz217_1
            try clear hfz217_2
            try clear hfz217_3
            try clear hfz222_0
            try clear hfz222_1
            try clear hfz222_2
            try clear hfz222_3
            try clear hfz223_0
            try clear hfz223_1
            try clear hfz223_2
            try clear hfz223_3
            try clear hfz224_0
            try clear hfz224_1
            try clear hfz224_2
            try clear hfz224_3
            try clear hfz230_0
            try clear hfz230_1
            try clear hfz230_2
            try clear hfz230_3
            try clear hfz238_0
            try clear hfz238_1
            try clear hfz238_2
            try clear hfz238_3
            try clear hfz245_0
            try clear hfz245_1
            try clear hfz245_2
            try clear hfz245_3
            try clear hfz24_0
            try clear hfz24_1
            try clear hfz24_2
            try clear hfz24_3
            try clear hfz25_0
            try clear hfz25_1
            try clear hfz25_2
            try clear hfz25_3
            try clear hfz26_0
            try clear hfz26_1
            try clear hfz26_2
            try clear hfz26_3
            try clear hfz32_0
            try clear hfz32_1
            try clear hfz32_2
            try clear hfz32_3
            try clear hfz45_0
            try clear hfz45_1
            try clear hfz45_2
            try clear hfz45_3
            try clear hfz46_0
            try clear hfz46_1
            try clear hfz46_2
            try clear hfz46_3
            try clear hfz51_0
            try clear hfz51_1
            try clear hfz51_2
            try clear hfz51_3
            try clear hfz52_0
            try clear hfz52_1
            try clear hfz52_2
            try clear hfz52_3
            try clear hfz53_0
            try clear hfz53_1
            try clear hfz53_2
            try clear hfz53_3
            try clear hfz59_0
            try clear hfz59_1
            try clear hfz59_2
            try clear hfz59_3
            try clear hfz60_0
            try clear hfz60_1
            try clear hfz60_2
            try clear hfz60_3
            try clear hfz61_0
            try clear hfz61_1
            try clear hfz61_2
            try clear hfz61_3
            try clear hfz68_0
            try clear hfz68_1
            try clear hfz68_2
            try clear hfz68_3
            try clear hfz69_0
            try clear hfz69_1
            try clear hfz69_2
            try clear hfz69_3
            try clear hfz77_0
            try clear hfz77_1
            try clear hfz77_2
            try clear hfz77_3
            try clear hfz78_0
            try clear hfz78_1
            try clear hfz78_2
            try clear hfz78_3
            try clear hfz87_0
            try clear hfz87_1
            try clear hfz87_2
            try clear hfz87_3
            try clear hfz95_0
            try clear hfz95_1
            try clear hfz95_2
            try clear hfz95_3
            try clear p2
            try clear p6
            try clear p64
            try clear q4
            try clear q41
            try clear q413
            try clear q42
            try clear q426
            try clear q427
            try clear q428
            try clear q435
            try clear q442
            obtain ⟨kq, x15_209, rfl, HA, HJ209, BK396, BK397, BK403, BK409, HB⟩ := hcut
            cases kq with
            | zero => exact absurd HA.out (by simp [barbicanlaw05_ValueDivides.j2])
            | succ kj209 =>
              have H := HA.out
              clear HA
              simp only [barbicanlaw05_ValueDivides.j2] at H
              have HC246 := Aside0.mk H
              clear H
              go_upto_region 14 with (fail)
              go_cut [158] (fun v158 wc => ∃ (kq : Nat) (x158_245 : Bool), v158 = .bool x158_245 ∧ Aside0 (barbicanlaw05_ValueDivides.j3 kq x158_245 t388 t389 t390 t391 t392 t393 t394 t395 = some r) ∧ Aside0 (kq ≤ kj209) ∧ Aside0 (wc.heap[gb396]? = some (.cells #[.int .i64 t388, .int .i64 t389, .string t390, .bool t391] 38 (0, 0))) ∧ Aside0 (wc.heap[gb397]? = some (.cells #[.int .i64 t392, .int .i64 t393, .string t394, .bool t395] 38 (0, 0))) ∧ Aside0 (wc.heap[gb403]? = some (.cells #[.int .i64 t398, .int .i64 t399, .string t400, .bool t401] 38 (0, 0))) ∧ Aside0 (wc.heap[gb409]? = some (.cells #[.int .i64 t404, .int .i64 t405, .string t406, .bool t407] 38 (0, 0))) ∧ Aside0 (Below w.heap.size w wc))
              case first =>
                have H := HC246.out
                clear HC246
                rcases t408 with _ | q447
                · have H1 : (if x15_209 = true then (if t405 > 0 then (if a0 < 0 then (none) else (if t405 < 0 then (none) else (barbicanlaw05_ValueDivides.j3 kj209 false t388 t389 t390 t391 t392 t393 t394 t395))) else (if t405 < 0 then (barbicanlaw05_ValueDivides.j3 kj209 (decide (a0 > 0)) t388 t389 t390 t391 t392 t393 t394 t395) else (barbicanlaw05_ValueDivides.j3 kj209 false t388 t389 t390 t391 t392 t393 t394 t395))) else (none)) = some r := by rw [if_pos (show (none : Option Int).isNone = true by rfl)] at H; exact H
                  clear H
                  have H := H1
                  clear H1
                  try simp only [errW_none, errW_some]
                  by_cases c247 : x15_209 = true
                  · subst c247
                    have H1 : (if t405 > 0 then (if a0 < 0 then (none) else (if t405 < 0 then (none) else (barbicanlaw05_ValueDivides.j3 kj209 false t388 t389 t390 t391 t392 t393 t394 t395))) else (if t405 < 0 then (barbicanlaw05_ValueDivides.j3 kj209 (decide (a0 > 0)) t388 t389 t390 t391 t392 t393 t394 t395) else (barbicanlaw05_ValueDivides.j3 kj209 false t388 t389 t390 t391 t392 t393 t394 t395))) = some r := by rw [if_pos rfl] at H; exact H
                    clear H
                    have H := H1
                    clear H1
                    by_cases c248 : t405 > 0
                    · rw [if_pos c248] at H
                      have c248b0 : decide (0 < t405) = true := decide_eq_true c248
                      clear c248
                      (first | rw [c248b0] | (simp only [i64_w, i32_w]; rw [c248b0]) | skip)
                      by_cases c249 : a0 < 0
                      · rw [if_pos c249] at H
                        exact absurd H (by simp)
                      · rw [if_neg c249] at H
                        have c249b0 : decide (a0 < 0) = false := decide_eq_false c249
                        clear c249
                        by_cases c250 : t405 < 0
                        · rw [if_pos c250] at H
                          exact absurd H (by simp)
                        · rw [if_neg c250] at H
                          have c250b0 : decide (t405 < 0) = false := decide_eq_false c250
                          clear c250
                          have H' := Aside0.mk H
                          clear H
                          have hnb251 := NB409_396.out
                          have hnc251 := NB396_409.out
                          have hnb252 := NB409_397.out
                          have hnc252 := NB397_409.out
                          have hnb253 := NB409_403.out
                          have hnc253 := NB403_409.out
                          have hcz254_0 : wc.cell? ⟨gb409, 0, none⟩ = some (.int .i64 t404) := (blk_cell BK409.out 0).trans rfl
                          have hcz254_1 : wc.cell? ⟨gb409, 1, none⟩ = some (.int .i64 t405) := (blk_cell BK409.out 1).trans rfl
                          have hcz254_2 : wc.cell? ⟨gb409, 2, none⟩ = some (.string t406) := (blk_cell BK409.out 2).trans rfl
                          have hcz254_3 : wc.cell? ⟨gb409, 3, none⟩ = some (.bool t407) := (blk_cell BK409.out 3).trans rfl
                          have hfz254_0 := blk_frozen BK409.out 0
                          have hfz254_1 := blk_frozen BK409.out 1
                          have hfz254_2 := blk_frozen BK409.out 2
                          have hfz254_3 := blk_frozen BK409.out 3
                          go_wp2
                          refine Met.intro ?_
                          go_step
                          (repeat apply Exists.intro)
                          refine ⟨?rel, ?frm⟩
                          case frm => first | rfl | (simp only [c7b0, c7b1, c208b0, c208b1, c209b0, c209b1, c248b0, c249b0, c250b0]; rfl) | (simp only [c7b0, c7b1, c208b0, c208b1, c209b0, c209b1, c248b0, c249b0, c250b0]; first | done | rfl)
                          case rel => exact ⟨_, (false), (by first | rfl | (simp; done) | (simp [*]; done) | (simp [bne]; done)), H', ⟨by have := HJ209.out; first | omega | exact Nat.le_refl _⟩, ⟨by (with_reducible repeat (first | refine blk_drewN ?_ _ | refine blk_drew ?_ | refine blk_alloc ?_ _)); exact BK396.out⟩, ⟨by (with_reducible repeat (first | refine blk_drewN ?_ _ | refine blk_drew ?_ | refine blk_alloc ?_ _)); exact BK397.out⟩, ⟨by (with_reducible repeat (first | refine blk_drewN ?_ _ | refine blk_drew ?_ | refine blk_alloc ?_ _)); exact BK403.out⟩, ⟨by (with_reducible repeat (first | refine blk_drewN ?_ _ | refine blk_drew ?_ | refine blk_alloc ?_ _)); exact BK409.out⟩, ⟨by repeat (first | (with_reducible first | exact HB.out | apply below_alloc | apply pw_below_drewN | apply below_drew1 | refine below_set ?_ GE396.out | refine below_set ?_ GE397.out | refine below_set ?_ GE403.out | refine below_set ?_ GE409.out) | exact HB.out)⟩⟩
                    · rw [if_neg c248] at H
                      have c248b0 : decide (0 < t405) = false := decide_eq_false c248
                      clear c248
                      (first | rw [c248b0] | (simp only [i64_w, i32_w]; rw [c248b0]) | skip)
                      by_cases c255 : t405 < 0
                      · rw [if_pos c255] at H
                        have c255b0 : decide (t405 < 0) = true := decide_eq_true c255
                        clear c255
                        have H' := Aside0.mk H
                        clear H
                        have hnb256 := NB409_396.out
                        have hnc256 := NB396_409.out
                        have hnb257 := NB409_397.out
                        have hnc257 := NB397_409.out
                        have hnb258 := NB409_403.out
                        have hnc258 := NB403_409.out
                        have hcz259_0 : wc.cell? ⟨gb409, 0, none⟩ = some (.int .i64 t404) := (blk_cell BK409.out 0).trans rfl
                        have hcz259_1 : wc.cell? ⟨gb409, 1, none⟩ = some (.int .i64 t405) := (blk_cell BK409.out 1).trans rfl
                        have hcz259_2 : wc.cell? ⟨gb409, 2, none⟩ = some (.string t406) := (blk_cell BK409.out 2).trans rfl
                        have hcz259_3 : wc.cell? ⟨gb409, 3, none⟩ = some (.bool t407) := (blk_cell BK409.out 3).trans rfl
                        have hfz259_0 := blk_frozen BK409.out 0
                        have hfz259_1 := blk_frozen BK409.out 1
                        have hfz259_2 := blk_frozen BK409.out 2
                        have hfz259_3 := blk_frozen BK409.out 3
                        go_wp2
                        refine Met.intro ?_
                        go_step
                        (repeat apply Exists.intro)
                        refine ⟨?rel, ?frm⟩
                        case frm => first | rfl | (simp only [c7b0, c7b1, c208b0, c208b1, c209b0, c209b1, c248b0, c255b0]; rfl) | (simp only [c7b0, c7b1, c208b0, c208b1, c209b0, c209b1, c248b0, c255b0]; first | done | rfl)
                        case rel => exact ⟨_, (decide (a0 > 0)), (by first | rfl | (simp; done) | (simp [*]; done) | (simp [bne]; done)), H', ⟨by have := HJ209.out; first | omega | exact Nat.le_refl _⟩, ⟨by (with_reducible repeat (first | refine blk_drewN ?_ _ | refine blk_drew ?_ | refine blk_alloc ?_ _)); exact BK396.out⟩, ⟨by (with_reducible repeat (first | refine blk_drewN ?_ _ | refine blk_drew ?_ | refine blk_alloc ?_ _)); exact BK397.out⟩, ⟨by (with_reducible repeat (first | refine blk_drewN ?_ _ | refine blk_drew ?_ | refine blk_alloc ?_ _)); exact BK403.out⟩, ⟨by (with_reducible repeat (first | refine blk_drewN ?_ _ | refine blk_drew ?_ | refine blk_alloc ?_ _)); exact BK409.out⟩, ⟨by repeat (first | (with_reducible first | exact HB.out | apply below_alloc | apply pw_below_drewN | apply below_drew1 | refine below_set ?_ GE396.out | refine below_set ?_ GE397.out | refine below_set ?_ GE403.out | refine below_set ?_ GE409.out) | exact HB.out)⟩⟩
                      · rw [if_neg c255] at H
                        have c255b0 : decide (t405 < 0) = false := decide_eq_false c255
                        clear c255
                        have H' := Aside0.mk H
                        clear H
                        have hnb260 := NB409_396.out
                        have hnc260 := NB396_409.out
                        have hnb261 := NB409_397.out
                        have hnc261 := NB397_409.out
                        have hnb262 := NB409_403.out
                        have hnc262 := NB403_409.out
                        have hcz263_0 : wc.cell? ⟨gb409, 0, none⟩ = some (.int .i64 t404) := (blk_cell BK409.out 0).trans rfl
                        have hcz263_1 : wc.cell? ⟨gb409, 1, none⟩ = some (.int .i64 t405) := (blk_cell BK409.out 1).trans rfl
                        have hcz263_2 : wc.cell? ⟨gb409, 2, none⟩ = some (.string t406) := (blk_cell BK409.out 2).trans rfl
                        have hcz263_3 : wc.cell? ⟨gb409, 3, none⟩ = some (.bool t407) := (blk_cell BK409.out 3).trans rfl
                        have hfz263_0 := blk_frozen BK409.out 0
                        have hfz263_1 := blk_frozen BK409.out 1
                        have hfz263_2 := blk_frozen BK409.out 2
                        have hfz263_3 := blk_frozen BK409.out 3
                        go_wp2
                        refine Met.intro ?_
                        go_step
                        (repeat apply Exists.intro)
                        refine ⟨?rel, ?frm⟩
                        case frm => first | rfl | (simp only [c7b0, c7b1, c208b0, c208b1, c209b0, c209b1, c248b0, c255b0]; rfl) | (simp only [c7b0, c7b1, c208b0, c208b1, c209b0, c209b1, c248b0, c255b0]; first | done | rfl)
                        case rel => exact ⟨_, (false), (by first | rfl | (simp; done) | (simp [*]; done) | (simp [bne]; done)), H', ⟨by have := HJ209.out; first | omega | exact Nat.le_refl _⟩, ⟨by (with_reducible repeat (first | refine blk_drewN ?_ _ | refine blk_drew ?_ | refine blk_alloc ?_ _)); exact BK396.out⟩, ⟨by (with_reducible repeat (first | refine blk_drewN ?_ _ | refine blk_drew ?_ | refine blk_alloc ?_ _)); exact BK397.out⟩, ⟨by (with_reducible repeat (first | refine blk_drewN ?_ _ | refine blk_drew ?_ | refine blk_alloc ?_ _)); exact BK403.out⟩, ⟨by (with_reducible repeat (first | refine blk_drewN ?_ _ | refine blk_drew ?_ | refine blk_alloc ?_ _)); exact BK409.out⟩, ⟨by repeat (first | (with_reducible first | exact HB.out | apply below_alloc | apply pw_below_drewN | apply below_drew1 | refine below_set ?_ GE396.out | refine below_set ?_ GE397.out | refine below_set ?_ GE403.out | refine below_set ?_ GE409.out) | exact HB.out)⟩⟩
                  · replace c247 := Bool.eq_false_iff.mpr c247
                    subst c247
                    have H1 : (none) = some r := by rw [if_neg (show ¬ (false = true) by decide)] at H; exact H
                    clear H
                    have H := H1
                    clear H1
                    exact absurd H (by simp)
                · have H1 : (none) = some r := by rw [if_neg (show ¬ (some q447).isNone = true by simp)] at H; exact H
                  clear H
                  have H := H1
                  clear H1
                  try simp only [errW_none, errW_some]
                  exact absurd H (by simp)
              case rest =>
                clear HC246
                try clear c1
                try clear c2
                try clear p2
                try clear q4
                try clear p6
                try clear c7
                try clear c7b0
                try clear c7b1
                try clear c11
                try clear c12
                try clear c13
                try clear c14
                try clear c15
                try clear c16
                try clear c17
                try clear c18
                try clear c19
                try clear c20
                try clear c21
                try clear c22
                try clear c23
                try clear c24
                try clear c25
                try clear c26
                try clear q41
                try clear q42
                try clear q43
                try clear q44
                try clear p64
                try clear c113
                try clear c113b0
                try clear c114
                try clear c115
                try clear c116
                try clear c117
                try clear c118
                try clear c121
                try clear c122
                try clear c122b0
                try clear c123
                try clear c123b0
                try clear c124
                try clear c124b0
                try clear c125
                try clear c126
                try clear c127
                try clear c128
                try clear c129
                try clear c131
                try clear c131b0
                try clear c132
                try clear c133
                try clear c134
                try clear c135
                try clear c136
                try clear c138
                try clear c139
                try clear c140
                try clear c141
                try clear c142
                try clear c144
                try clear c147
                try clear c147b0
                try clear c147b1
                try clear c147b2
                try clear c149
                try clear c150
                try clear c151
                try clear c152
                try clear c153
                try clear c155
                try clear c156
                try clear c157
                try clear c158
                try clear c162
                try clear c163
                try clear c164
                try clear c165
                try clear c166
                try clear c167
                try clear c172
                try clear c173
                try clear c174
                try clear c175
                try clear c176
                try clear c177
                try clear c178
                try clear c183
                try clear c183b0
                try clear c183b1
                try clear c185
                try clear c186
                try clear c187
                try clear c188
                try clear c189
                try clear c191
                try clear c192
                try clear c193
                try clear c194
                try clear c198
                try clear c199
                try clear c200
                try clear c201
                try clear c202
                try clear c203
                try clear c208
                try clear c208b0
                try clear c208b1
                try clear c209
                try clear c209b0
                try clear c209b1
                try clear c215
                try clear c220
                try clear c221
                try clear c227
                try clear c228
                try clear c229
                try clear c232
                try clear c232b0
                try clear c233
                try clear c233b0
                try clear c234
                try clear c234b0
                try clear c235
                try clear c236
                try clear c237
                try clear c239
                try clear c239b0
                try clear c240
                try clear c240b0
                try clear c241
                try clear c241b0
                try clear c242
                try clear c243
                try clear c244
                try clear c247
                try clear c248
                try clear c248b0
                try clear c249
                try clear c249b0
                try clear c250
                try clear c250b0
                try clear c251
                try clear c252
                try clear c253
                try clear c255
                try clear c255b0
                try clear c256
                try clear c257
                try clear c258
                try clear c260
                try clear c261
                try clear c262
                try clear hcz103_0
                try clear hcz103_1
                try clear hcz103_2
                try clear hcz103_3
                try clear hcz112_0
                try clear hcz112_1
                try clear hcz112_2
                try clear hcz112_3
                try clear hcz119_0
                try clear hcz119_1
                try clear hcz119_2
                try clear hcz119_3
                try clear hcz130_0
                try clear hcz130_1
                try clear hcz130_2
                try clear hcz130_3
                try clear hcz137_0
                try clear hcz137_1
                try clear hcz137_2
                try clear hcz137_3
                try clear hcz143_0
                try clear hcz143_1
                try clear hcz143_2
                try clear hcz143_3
                try clear hcz154_0
                try clear hcz154_1
                try clear hcz154_2
                try clear hcz154_3
                try clear hcz159_0
                try clear hcz159_1
                try clear hcz159_2
                try clear hcz159_3
                try clear hcz168_0
                try clear hcz168_1
                try clear hcz168_2
                try clear hcz168_3
                try clear hcz169_0
                try clear hcz169_1
                try clear hcz169_2
                try clear hcz169_3
                try clear hcz179_0
                try clear hcz179_1
                try clear hcz179_2
                try clear hcz179_3
                try clear hcz180_0
                try clear hcz180_1
                try clear hcz180_2
                try clear hcz180_3
                try clear hcz18_0
                try clear hcz18_1
                try clear hcz18_2
                try clear hcz18_3
                try clear hcz190_0
                try clear hcz190_1
                try clear hcz190_2
                try clear hcz190_3
                try clear hcz195_0
                try clear hcz195_1
                try clear hcz195_2
                try clear hcz195_3
                try clear hcz19_0
                try clear hcz19_1
                try clear hcz19_2
                try clear hcz19_3
                try clear hcz204_0
                try clear hcz204_1
                try clear hcz204_2
                try clear hcz204_3
                try clear hcz216_0
                try clear hcz216_1
                try clear hcz216_2
                try clear hcz216_3
                try clear hcz217_0
                try clear hcz217_1
                try clear hcz217_2
                try clear hcz217_3
                try clear hcz222_0
                try clear hcz222_1
                try clear hcz222_2
                try clear hcz222_3
                try clear hcz223_0
                try clear hcz223_1
                try clear hcz223_2
                try clear hcz223_3
                try clear hcz224_0
                try clear hcz224_1
                try clear hcz224_2
                try clear hcz224_3
                try clear hcz230_0
                try clear hcz230_1
                try clear hcz230_2
                try clear hcz230_3
                try clear hcz238_0
                try clear hcz238_1
                try clear hcz238_2
                try clear hcz238_3
                try clear hcz245_0
                try clear hcz245_1
                try clear hcz245_2
                try clear hcz245_3
                try clear hcz24_0
                try clear hcz24_1
                try clear hcz24_2
                try clear hcz24_3
                try clear hcz254_0
                try clear hcz254_1
                try clear hcz254_2
                try clear hcz254_3
                try clear hcz259_0
                try clear hcz259_1
                try clear hcz259_2
                try clear hcz259_3
                try clear hcz25_0
                try clear hcz25_1
                try clear hcz25_2
                try clear hcz25_3
                try clear hcz263_0
                try clear hcz263_1
                try clear hcz263_2
                try clear hcz263_3
                try clear hcz26_0
                try clear hcz26_1
                try clear hcz26_2
                try clear hcz26_3
                try clear hcz32_0
                try clear hcz32_1
                try clear hcz32_2
                try clear hcz32_3
                try clear hcz45_0
                try clear hcz45_1
                try clear hcz45_2
                try clear hcz45_3
                try clear hcz46_0
                try clear hcz46_1
                try clear hcz46_2
                try clear hcz46_3
                try clear hcz51_0
                try clear hcz51_1
                try clear hcz51_2
                try clear hcz51_3
                try clear hcz52_0
                try clear hcz52_1
                try clear hcz52_2
                try clear hcz52_3
                try clear hcz53_0
                try clear hcz53_1
                try clear hcz53_2
                try clear hcz53_3
                try clear hcz59_0
                try clear hcz59_1
                try clear hcz59_2
                try clear hcz59_3
                try clear hcz60_0
                try clear hcz60_1
                try clear hcz60_2
                try clear hcz60_3
                try clear hcz61_0
                try clear hcz61_1
                try clear hcz61_2
                try clear hcz61_3
                try clear hcz68_0
                try clear hcz68_1
                try clear hcz68_2
                try clear hcz68_3
                try clear hcz69_0
                try clear hcz69_1
                try clear hcz69_2
                try clear hcz69_3
                try clear hcz77_0
                try clear hcz77_1
                try clear hcz77_2
                try clear hcz77_3
                try clear hcz78_0
                try clear hcz78_1
                try clear hcz78_2
                try clear hcz78_3
                try clear hcz87_0
                try clear hcz87_1
                try clear hcz87_2
                try clear hcz87_3
                try clear hcz95_0
                try clear hcz95_1
                try clear hcz95_2
                try clear hcz95_3
                try clear hfz103_0
                try clear hfz103_1
                try clear hfz103_2
                try clear hfz103_3
                try clear hfz112_0
                try clear hfz112_1
                try clear hfz112_2
                try clear hfz112_3
                try clear hfz119_0
                try clear hfz119_1
                try clear hfz119_2
                try clear hfz119_3
                try clear hfz130_0
                try clear hfz130_1
                try clear hfz130_2
                try clear hfz130_3
                try clear hfz137_0
                try clear hfz137_1
                try clear hfz137_2
                try clear hfz137_3
                try clear hfz143_0
                try clear hfz143_1
                try clear hfz143_2
                try clear hfz143_3
                try clear hfz154_0
                try clear hfz154_1
                try clear hfz154_2
                try clear hfz154_3
                try clear hfz159_0
                try clear hfz159_1
                try clear hfz159_2
                try clear hfz159_3
                try clear hfz168_0
                try clear hfz168_1
                try clear hfz168_2
                try clear hfz168_3
                try clear hfz169_0
                try clear hfz169_1
                try clear hfz169_2
                try clear hfz169_3
                try clear hfz179_0
                try clear hfz179_1
                try clear hfz179_2
                try clear hfz179_3
                try clear hfz180_0
                try clear hfz180_1
                try clear hfz180_2
                try clear hfz180_3
                try clear hfz18_0
                try clear hfz18_1
                try clear hfz18_2
                try clear hfz18_3
                try clear hfz190_0
                try clear hfz190_1
                try clear hfz190_2
                try clear hfz190_3
                try clear hfz195_0
                try clear hfz195_1
                try clear hfz195_2
                try clear hfz195_3
                try clear hfz19_0
                try clear hfz19_1
                try clear hfz19_2
                try clear hfz19_3
                try clear hfz204_0
                try clear hfz204_1
                try clear hfz204_2
                try clear hfz204_3
                try clear hfz216_0
                try clear hfz216_1
                try clear hfz216_2
                try clear hfz216_3
                try clear hfz217_0
                try clear hfz217_1
                try clear hfz217_2
                try clear hfz217_3
                try clear hfz222_0
                try clear hfz222_1
                try clear hfz222_2
                try clear hfz222_3
                try clear hfz223_0
                try clear hfz223_1
                try clear hfz223_2
                try clear hfz223_3
                try clear hfz224_0
                try clear hfz224_1
                try clear hfz224_2
                try clear hfz224_3
                try clear hfz230_0
                try clear hfz230_1
                try clear hfz230_2
                try clear hfz230_3
                try clear hfz238_0
                try clear hfz238_1
                try clear hfz238_2
                try clear hfz238_3
                try clear hfz245_0
                try clear hfz245_1
                try clear hfz245_2
                try clear hfz245_3
                try clear hfz24_0
                try clear hfz24_1
                try clear hfz24_2
                try clear hfz24_3
                try clear hfz254_0
                try clear hfz254_1
                try clear hfz254_2
                try clear hfz254_3
                try clear hfz259_0
                try clear hfz259_1
                try clear hfz259_2
                try clear hfz259_3
                try clear hfz25_0
                try clear hfz25_1
                try clear hfz25_2
                try clear hfz25_3
                try clear hfz263_0
                try clear hfz263_1
                try clear hfz263_2
                try clear hfz263_3
                try clear hfz26_0
                try clear hfz26_1
                try clear hfz26_2
                try clear hfz26_3
                try clear hfz32_0
                try clear hfz32_1
                try clear hfz32_2
                try clear hfz32_3
                try clear hfz45_0
                try clear hfz45_1
                try clear hfz45_2
                try clear hfz45_3
                try clear hfz46_0
                try clear hfz46_1
                try clear hfz46_2
                try clear hfz46_3
                try clear hfz51_0
                try clear hfz51_1
                try clear hfz51_2
                try clear hfz51_3
                try clear hfz52_0
                try clear hfz52_1
                try clear hfz52_2
                try clear hfz52_3
                try clear hfz53_0
                try clear hfz53_1
                try clear hfz53_2
                try clear hfz53_3
                try clear hfz59_0
                try clear hfz59_1
                try clear hfz59_2
                try clear hfz59_3
                try clear hfz60_0
                try clear hfz60_1
                try clear hfz60_2
                try clear hfz60_3
                try clear hfz61_0
                try clear hfz61_1
                try clear hfz61_2
                try clear hfz61_3
                try clear hfz68_0
                try clear hfz68_1
                try clear hfz68_2
                try clear hfz68_3
                try clear hfz69_0
                try clear hfz69_1
                try clear hfz69_2
                try clear hfz69_3
                try clear hfz77_0
                try clear hfz77_1
                try clear hfz77_2
                try clear hfz77_3
                try clear hfz78_0
                try clear hfz78_1
                try clear hfz78_2
                try clear hfz78_3
                try clear hfz87_0
                try clear hfz87_1
                try clear hfz87_2
                try clear hfz87_3
                try clear hfz95_0
                try clear hfz95_1
                try clear hfz95_2
                try clear hfz95_3
                try clear p2
                try clear p6
                try clear p64
                try clear q4
                try clear q41
                try clear q413
                try clear q42
                try clear q426
                try clear q427
                try clear q428
                try clear q435
                try clear q442
                try clear q447
                obtain ⟨kq, x158_245, rfl, HA, HJ245, BK396, BK397, BK403, BK409, HB⟩ := hcut
                cases kq with
                | zero => exact absurd HA.out (by simp [barbicanlaw05_ValueDivides.j3])
                | succ kj245 =>
                  have H := HA.out
                  clear HA
                  simp only [barbicanlaw05_ValueDivides.j3] at H
                  by_cases c264 : x158_245 = true
                  · subst c264
                    have H1 : (none) = some r := by rw [if_pos rfl] at H; exact H
                    clear H
                    have H := H1
                    clear H1
                    exact absurd H (by simp)
                  · replace c264 := Bool.eq_false_iff.mpr c264
                    subst c264
                    have H1 : ((value_Reckon.f kj245 43 t388 t389 t390 t391 t392 t393 t394 t395).bind fun bt448 => (if bt448.2.2.2.2.isNone = true then ((value_Reckon.f kj245 45 bt448.1 bt448.2.1 bt448.2.2.1 bt448.2.2.2.1 t392 t393 t394 t395).bind fun bt455 => (if bt455.2.2.2.2.isNone = true then (if (bt455.1 == t388 && (bt455.2.1 == t389 && (bt455.2.2.1.toList == t390.toList && (bt455.2.2.2.1 == t391)))) = true then ((barbicanlaw05_sure.f kj245).bind fun t462 => (some t462)) else (none)) else (none))) else ((barbicanlaw05_num.f (some (bt448.2.2.2.2.getD 0))).bind fun t463 => (if t463 = 5 then ((barbicanlaw05_sure.f kj245).bind fun t464 => (some t464)) else (none))))) = some r := by rw [if_neg (show ¬ (false = true) by decide)] at H; exact H
                    clear H
                    have H := H1
                    clear H1
                    replace H := Option.bind_eq_some_iff.mp H
                    obtain ⟨⟨t448, t449, t450, t451, t452⟩, A2650, H⟩ := H
                    replace H : (if t452.isNone = true then ((value_Reckon.f kj245 45 t448 t449 t450 t451 t392 t393 t394 t395).bind fun bt455 => (if bt455.2.2.2.2.isNone = true then (if (bt455.1 == t388 && (bt455.2.1 == t389 && (bt455.2.2.1.toList == t390.toList && (bt455.2.2.2.1 == t391)))) = true then ((barbicanlaw05_sure.f kj245).bind fun t462 => (some t462)) else (none)) else (none))) else ((barbicanlaw05_num.f (some (t452.getD 0))).bind fun t463 => (if t463 = 5 then ((barbicanlaw05_sure.f kj245).bind fun t464 => (some t464)) else (none)))) = some r := H
                    have A265 := Aside0.mk A2650
                    clear A2650
                    rcases t452 with _ | q454
                    · have H1 : ((value_Reckon.f kj245 45 t448 t449 t450 t451 t392 t393 t394 t395).bind fun bt455 => (if bt455.2.2.2.2.isNone = true then (if (bt455.1 == t388 && (bt455.2.1 == t389 && (bt455.2.2.1.toList == t390.toList && (bt455.2.2.2.1 == t391)))) = true then ((barbicanlaw05_sure.f kj245).bind fun t462 => (some t462)) else (none)) else (none))) = some r := by rw [if_pos (show (none : Option Int).isNone = true by rfl)] at H; exact H
                      clear H
                      have H := H1
                      clear H1
                      try simp only [errW_none, errW_some]
                      replace H := Option.bind_eq_some_iff.mp H
                      obtain ⟨⟨t455, t456, t457, t458, t459⟩, A2660, H⟩ := H
                      replace H : (if t459.isNone = true then (if (t455 == t388 && (t456 == t389 && (t457.toList == t390.toList && (t458 == t391)))) = true then ((barbicanlaw05_sure.f kj245).bind fun t462 => (some t462)) else (none)) else (none)) = some r := H
                      have A266 := Aside0.mk A2660
                      clear A2660
                      rcases t459 with _ | q461
                      · have H1 : (if (t455 == t388 && (t456 == t389 && (t457.toList == t390.toList && (t458 == t391)))) = true then ((barbicanlaw05_sure.f kj245).bind fun t462 => (some t462)) else (none)) = some r := by rw [if_pos (show (none : Option Int).isNone = true by rfl)] at H; exact H
                        clear H
                        have H := H1
                        clear H1
                        try simp only [errW_none, errW_some]
                        by_cases c267 : (t455 == t388 && (t456 == t389 && (t457.toList == t390.toList && (t458 == t391)))) = true
                        · rw [if_pos c267] at H
                          have c267b0 : (t455 == t388 && (t456 == t389 && (t457.toList == t390.toList && (t458 == t391)))) = true := c267
                          (try (have c267b1 : decide (t455 = t388 && (t456 == t389 && (t457.toList == t390.toList && (t458 == t391)))) = true := by simpa using c267))
                          (try (have c267b2 : (t455 == t388 && (t456 == t389 && (t457.toList == t390.toList && (t458 == t391)))) = true := by simpa using c267))
                          (try (have c267b3 : (!(t455 == t388 && (t456 == t389 && (t457.toList == t390.toList && (t458 == t391))))) = false := by first | simpa using c267 | (have h_ := c267; revert h_; cases t455 <;> cases t388 && (t456 == t389 && (t457.toList == t390.toList && (t458 == t391))) <;> simp)))
                          (try rw [c267b3])
                          (try (have c267b4 : ((!t455) == t388 && (t456 == t389 && (t457.toList == t390.toList && (t458 == t391)))) = false := by first | (have h_ := c267; revert h_; cases t455 <;> cases t388 && (t456 == t389 && (t457.toList == t390.toList && (t458 == t391))) <;> simp; done) | simpa using c267))
                          clear c267
                          replace H := Option.bind_eq_some_iff.mp H
                          obtain ⟨t462, A2680, H⟩ := H
                          replace H : (some t462) = some r := H
                          have A268 := Aside0.mk A2680
                          clear A2680
                          obtain rfl := Option.some.inj H
                          have hnb269 := NB396_397.out
                          have hnc269 := NB397_396.out
                          have hnb270 := NB396_403.out
                          have hnc270 := NB403_396.out
                          have hnb271 := NB396_409.out
                          have hnc271 := NB409_396.out
                          have hcz272_0 : wc.cell? ⟨gb396, 0, none⟩ = some (.int .i64 t388) := (blk_cell BK396.out 0).trans rfl
                          have hcz272_1 : wc.cell? ⟨gb396, 1, none⟩ = some (.int .i64 t389) := (blk_cell BK396.out 1).trans rfl
                          have hcz272_2 : wc.cell? ⟨gb396, 2, none⟩ = some (.string t390) := (blk_cell BK396.out 2).trans rfl
                          have hcz272_3 : wc.cell? ⟨gb396, 3, none⟩ = some (.bool t391) := (blk_cell BK396.out 3).trans rfl
                          have hfz272_0 := blk_frozen BK396.out 0
                          have hfz272_1 := blk_frozen BK396.out 1
                          have hfz272_2 := blk_frozen BK396.out 2
                          have hfz272_3 := blk_frozen BK396.out 3
                          have hnb273 := NB397_403.out
                          have hnc273 := NB403_397.out
                          have hnb274 := NB397_409.out
                          have hnc274 := NB409_397.out
                          have hcz275_0 : wc.cell? ⟨gb397, 0, none⟩ = some (.int .i64 t392) := (blk_cell BK397.out 0).trans rfl
                          have hcz275_1 : wc.cell? ⟨gb397, 1, none⟩ = some (.int .i64 t393) := (blk_cell BK397.out 1).trans rfl
                          have hcz275_2 : wc.cell? ⟨gb397, 2, none⟩ = some (.string t394) := (blk_cell BK397.out 2).trans rfl
                          have hcz275_3 : wc.cell? ⟨gb397, 3, none⟩ = some (.bool t395) := (blk_cell BK397.out 3).trans rfl
                          have hfz275_0 := blk_frozen BK397.out 0
                          have hfz275_1 := blk_frozen BK397.out 1
                          have hfz275_2 := blk_frozen BK397.out 2
                          have hfz275_3 := blk_frozen BK397.out 3
                          go_wp2_with (first | ((with_reducible refine gate_callee (f := 26) rfl ?_); refine goesL_ (some 162) rfl rfl Tryd.func26 (by kernel_rfl) rfl #[.int .u8 43, .agg #[.int .i64 t388, .int .i64 t389, .string t390, .bool t391], .agg #[.int .i64 t392, .int .i64 t393, .string t394, .bool t395]] rfl (by (try simp only [List.map_toArray, List.map_cons, List.map_nil]); first | done | rfl | (simp only [List.length_drop, List.length_take]; rfl)) ?_; (with_reducible refine (value_Reckon.calls kj245 43 t388 t389 t390 t391 t392 t393 t394 t395 t448 t449 t450 t451 none _ A265.out).mono ?_); rintro e w276 ⟨rfl, hb⟩; refine ⟨_, rfl, ?_⟩; have n0_ := Aside0.mk (blk_below (g := gb396) (o := .cells #[.int .i64 t388, .int .i64 t389, .string t390, .bool t391] 38 (0, 0)) (by (with_reducible repeat (first | refine blk_drewN ?_ _ | refine blk_drew ?_ | refine blk_alloc ?_ _)); exact BK396.out) hb); have n1_ := Aside0.mk (blk_below (g := gb397) (o := .cells #[.int .i64 t392, .int .i64 t393, .string t394, .bool t395] 38 (0, 0)) (by (with_reducible repeat (first | refine blk_drewN ?_ _ | refine blk_drew ?_ | refine blk_alloc ?_ _)); exact BK397.out) hb); have n2_ := Aside0.mk (blk_below (g := gb403) (o := .cells #[.int .i64 t398, .int .i64 t399, .string t400, .bool t401] 38 (0, 0)) (by (with_reducible repeat (first | refine blk_drewN ?_ _ | refine blk_drew ?_ | refine blk_alloc ?_ _)); exact BK403.out) hb); have n3_ := Aside0.mk (blk_below (g := gb409) (o := .cells #[.int .i64 t404, .int .i64 t405, .string t406, .bool t407] 38 (0, 0)) (by (with_reducible repeat (first | refine blk_drewN ?_ _ | refine blk_drew ?_ | refine blk_alloc ?_ _)); exact BK409.out) hb); have n4_ := Aside0.mk (below_step (by repeat (first | (with_reducible first | exact HB.out | apply below_alloc | apply pw_below_drewN | apply below_drew1 | refine below_set ?_ GE396.out | refine below_set ?_ GE397.out | refine below_set ?_ GE403.out | refine below_set ?_ GE409.out) | exact HB.out)) hb); clear BK396; clear BK397; clear BK403; clear BK409; clear HB; have BK396 := n0_; have BK397 := n1_; have BK403 := n2_; have BK409 := n3_; have HB := n4_; clear n0_ n1_ n2_ n3_ n4_; (try clear hb); (try clear hb2); (try clear hk); (try clear hi); (try simp only [errW_none, errW_some])) | ((with_reducible refine gate_dst (N := 16) rfl ?_); refine box_event ?hg (N := 16) ?hd (cs := #[.int .i64 0, .int .i64 0, .string (⟨#[]⟩ : ByteArray), .bool false]) (t := 38) ?hr ?_; (case hd => rfl); (case hg => rfl); (case hr => first | (go_simp; done) | (go_simp; rfl)); intro gb453 hg w277 hbox hb; have n0_ := Aside0.mk (blk_below (g := gb396) (o := .cells #[.int .i64 t388, .int .i64 t389, .string t390, .bool t391] 38 (0, 0)) (by (with_reducible repeat (first | refine blk_drewN ?_ _ | refine blk_drew ?_ | refine blk_alloc ?_ _)); exact BK396.out) hb); have n1_ := Aside0.mk (blk_below (g := gb397) (o := .cells #[.int .i64 t392, .int .i64 t393, .string t394, .bool t395] 38 (0, 0)) (by (with_reducible repeat (first | refine blk_drewN ?_ _ | refine blk_drew ?_ | refine blk_alloc ?_ _)); exact BK397.out) hb); have n2_ := Aside0.mk (blk_below (g := gb403) (o := .cells #[.int .i64 t398, .int .i64 t399, .string t400, .bool t401] 38 (0, 0)) (by (with_reducible repeat (first | refine blk_drewN ?_ _ | refine blk_drew ?_ | refine blk_alloc ?_ _)); exact BK403.out) hb); have n3_ := Aside0.mk (blk_below (g := gb409) (o := .cells #[.int .i64 t404, .int .i64 t405, .string t406, .bool t407] 38 (0, 0)) (by (with_reducible repeat (first | refine blk_drewN ?_ _ | refine blk_drew ?_ | refine blk_alloc ?_ _)); exact BK409.out) hb); have n4_ := Aside0.mk (below_step (by repeat (first | (with_reducible first | exact HB.out | apply below_alloc | apply pw_below_drewN | apply below_drew1 | refine below_set ?_ GE396.out | refine below_set ?_ GE397.out | refine below_set ?_ GE403.out | refine below_set ?_ GE409.out) | exact HB.out)) hb); have n5_ := Aside0.mk (hbox); have n6_ := Aside0.mk ((by rw [hg]; exact (below_size (by repeat (first | (with_reducible first | exact HB.out | apply below_alloc | apply pw_below_drewN | apply below_drew1 | refine below_set ?_ GE396.out | refine below_set ?_ GE397.out | refine below_set ?_ GE403.out | refine below_set ?_ GE409.out) | exact HB.out))) : w.heap.size ≤ gb453)); have n7_ := Aside0.mk ((by rw [hg]; exact (below_size (by repeat (first | (with_reducible first | exact HB.out | apply below_alloc | apply pw_below_drewN | apply below_drew1 | refine below_set ?_ GE396.out | refine below_set ?_ GE397.out | refine below_set ?_ GE403.out | refine below_set ?_ GE409.out) | exact HB.out))) : w.heap.size ≤ gb453)); have n8_ := Aside0.mk ((by rw [hg]; exact Nat.ne_of_lt (blk_lt (g := gb396) (o := .cells #[.int .i64 t388, .int .i64 t389, .string t390, .bool t391] 38 (0, 0)) (by (with_reducible repeat (first | refine blk_drewN ?_ _ | refine blk_drew ?_ | refine blk_alloc ?_ _)); exact BK396.out)) : gb396 ≠ gb453)); have n9_ := Aside0.mk ((by rw [hg]; exact Nat.ne_of_gt (blk_lt (g := gb396) (o := .cells #[.int .i64 t388, .int .i64 t389, .string t390, .bool t391] 38 (0, 0)) (by (with_reducible repeat (first | refine blk_drewN ?_ _ | refine blk_drew ?_ | refine blk_alloc ?_ _)); exact BK396.out)) : gb453 ≠ gb396)); have n10_ := Aside0.mk ((by rw [hg]; exact Nat.ne_of_lt (blk_lt (g := gb397) (o := .cells #[.int .i64 t392, .int .i64 t393, .string t394, .bool t395] 38 (0, 0)) (by (with_reducible repeat (first | refine blk_drewN ?_ _ | refine blk_drew ?_ | refine blk_alloc ?_ _)); exact BK397.out)) : gb397 ≠ gb453)); have n11_ := Aside0.mk ((by rw [hg]; exact Nat.ne_of_gt (blk_lt (g := gb397) (o := .cells #[.int .i64 t392, .int .i64 t393, .string t394, .bool t395] 38 (0, 0)) (by (with_reducible repeat (first | refine blk_drewN ?_ _ | refine blk_drew ?_ | refine blk_alloc ?_ _)); exact BK397.out)) : gb453 ≠ gb397)); have n12_ := Aside0.mk ((by rw [hg]; exact Nat.ne_of_lt (blk_lt (g := gb403) (o := .cells #[.int .i64 t398, .int .i64 t399, .string t400, .bool t401] 38 (0, 0)) (by (with_reducible repeat (first | refine blk_drewN ?_ _ | refine blk_drew ?_ | refine blk_alloc ?_ _)); exact BK403.out)) : gb403 ≠ gb453)); have n13_ := Aside0.mk ((by rw [hg]; exact Nat.ne_of_gt (blk_lt (g := gb403) (o := .cells #[.int .i64 t398, .int .i64 t399, .string t400, .bool t401] 38 (0, 0)) (by (with_reducible repeat (first | refine blk_drewN ?_ _ | refine blk_drew ?_ | refine blk_alloc ?_ _)); exact BK403.out)) : gb453 ≠ gb403)); have n14_ := Aside0.mk ((by rw [hg]; exact Nat.ne_of_lt (blk_lt (g := gb409) (o := .cells #[.int .i64 t404, .int .i64 t405, .string t406, .bool t407] 38 (0, 0)) (by (with_reducible repeat (first | refine blk_drewN ?_ _ | refine blk_drew ?_ | refine blk_alloc ?_ _)); exact BK409.out)) : gb409 ≠ gb453)); have n15_ := Aside0.mk ((by rw [hg]; exact Nat.ne_of_gt (blk_lt (g := gb409) (o := .cells #[.int .i64 t404, .int .i64 t405, .string t406, .bool t407] 38 (0, 0)) (by (with_reducible repeat (first | refine blk_drewN ?_ _ | refine blk_drew ?_ | refine blk_alloc ?_ _)); exact BK409.out)) : gb453 ≠ gb409)); clear BK396; clear BK397; clear BK403; clear BK409; clear HB; have BK396 := n0_; have BK397 := n1_; have BK403 := n2_; have BK409 := n3_; have HB := n4_; have BK453 := n5_; have GW453 := n6_; have GE453 := n7_; have NB396_453 := n8_; have NB453_396 := n9_; have NB397_453 := n10_; have NB453_397 := n11_; have NB403_453 := n12_; have NB453_403 := n13_; have NB409_453 := n14_; have NB453_409 := n15_; clear n0_ n1_ n2_ n3_ n4_ n5_ n6_ n7_ n8_ n9_ n10_ n11_ n12_ n13_ n14_ n15_; clear hb hbox hg; have hnb278 := NB453_396.out; have hnc278 := NB396_453.out; have hnb279 := NB453_397.out; have hnc279 := NB397_453.out; have hnb280 := NB453_403.out; have hnc280 := NB403_453.out; have hnb281 := NB453_409.out; have hnc281 := NB409_453.out; have hcz282_0 : w277.cell? ⟨gb453, 0, none⟩ = some (.int .i64 0) := (blk_cell BK453.out 0).trans rfl; have hcz282_1 : w277.cell? ⟨gb453, 1, none⟩ = some (.int .i64 0) := (blk_cell BK453.out 1).trans rfl; have hcz282_2 : w277.cell? ⟨gb453, 2, none⟩ = some (.string (⟨#[]⟩ : ByteArray)) := (blk_cell BK453.out 2).trans rfl; have hcz282_3 : w277.cell? ⟨gb453, 3, none⟩ = some (.bool false) := (blk_cell BK453.out 3).trans rfl; have hfz282_0 := blk_frozen BK453.out 0; have hfz282_1 := blk_frozen BK453.out 1; have hfz282_2 := blk_frozen BK453.out 2; have hfz282_3 := blk_frozen BK453.out 3; have hcz283_0 : w277.cell? ⟨gb397, 0, none⟩ = some (.int .i64 t392) := (blk_cell BK397.out 0).trans rfl; have hcz283_1 : w277.cell? ⟨gb397, 1, none⟩ = some (.int .i64 t393) := (blk_cell BK397.out 1).trans rfl; have hcz283_2 : w277.cell? ⟨gb397, 2, none⟩ = some (.string t394) := (blk_cell BK397.out 2).trans rfl; have hcz283_3 : w277.cell? ⟨gb397, 3, none⟩ = some (.bool t395) := (blk_cell BK397.out 3).trans rfl; have hfz283_0 := blk_frozen BK397.out 0; have hfz283_1 := blk_frozen BK397.out 1; have hfz283_2 := blk_frozen BK397.out 2; have hfz283_3 := blk_frozen BK397.out 3) | ((with_reducible refine gate_callee (f := 26) rfl ?_); refine goesL_ (some 176) rfl rfl Tryd.func26 (by kernel_rfl) rfl #[.int .u8 45, .agg #[.int .i64 t448, .int .i64 t449, .string t450, .bool t451], .agg #[.int .i64 t392, .int .i64 t393, .string t394, .bool t395]] rfl (by (try simp only [List.map_toArray, List.map_cons, List.map_nil]); first | done | rfl | (simp only [List.length_drop, List.length_take]; rfl)) ?_; (with_reducible refine (value_Reckon.calls kj245 45 t448 t449 t450 t451 t392 t393 t394 t395 t455 t456 t457 t458 none _ A266.out).mono ?_); rintro e w284 ⟨rfl, hb⟩; refine ⟨_, rfl, ?_⟩; have n0_ := Aside0.mk (blk_below (g := gb396) (o := .cells #[.int .i64 t388, .int .i64 t389, .string t390, .bool t391] 38 (0, 0)) (by (with_reducible repeat (first | refine blk_drewN ?_ _ | refine blk_drew ?_ | refine blk_alloc ?_ _)); refine blk_far ?_ NB396_453.out _; (with_reducible repeat (first | refine blk_drewN ?_ _ | refine blk_drew ?_ | refine blk_alloc ?_ _)); refine blk_far ?_ NB396_453.out _; (with_reducible repeat (first | refine blk_drewN ?_ _ | refine blk_drew ?_ | refine blk_alloc ?_ _)); refine blk_far ?_ NB396_453.out _; (with_reducible repeat (first | refine blk_drewN ?_ _ | refine blk_drew ?_ | refine blk_alloc ?_ _)); refine blk_far ?_ NB396_453.out _; (with_reducible repeat (first | refine blk_drewN ?_ _ | refine blk_drew ?_ | refine blk_alloc ?_ _)); exact BK396.out) hb); have n1_ := Aside0.mk (blk_below (g := gb397) (o := .cells #[.int .i64 t392, .int .i64 t393, .string t394, .bool t395] 38 (0, 0)) (by (with_reducible repeat (first | refine blk_drewN ?_ _ | refine blk_drew ?_ | refine blk_alloc ?_ _)); refine blk_far ?_ NB397_453.out _; (with_reducible repeat (first | refine blk_drewN ?_ _ | refine blk_drew ?_ | refine blk_alloc ?_ _)); refine blk_far ?_ NB397_453.out _; (with_reducible repeat (first | refine blk_drewN ?_ _ | refine blk_drew ?_ | refine blk_alloc ?_ _)); refine blk_far ?_ NB397_453.out _; (with_reducible repeat (first | refine blk_drewN ?_ _ | refine blk_drew ?_ | refine blk_alloc ?_ _)); refine blk_far ?_ NB397_453.out _; (with_reducible repeat (first | refine blk_drewN ?_ _ | refine blk_drew ?_ | refine blk_alloc ?_ _)); exact BK397.out) hb); have n2_ := Aside0.mk (blk_below (g := gb403) (o := .cells #[.int .i64 t398, .int .i64 t399, .string t400, .bool t401] 38 (0, 0)) (by (with_reducible repeat (first | refine blk_drewN ?_ _ | refine blk_drew ?_ | refine blk_alloc ?_ _)); refine blk_far ?_ NB403_453.out _; (with_reducible repeat (first | refine blk_drewN ?_ _ | refine blk_drew ?_ | refine blk_alloc ?_ _)); refine blk_far ?_ NB403_453.out _; (with_reducible repeat (first | refine blk_drewN ?_ _ | refine blk_drew ?_ | refine blk_alloc ?_ _)); refine blk_far ?_ NB403_453.out _; (with_reducible repeat (first | refine blk_drewN ?_ _ | refine blk_drew ?_ | refine blk_alloc ?_ _)); refine blk_far ?_ NB403_453.out _; (with_reducible repeat (first | refine blk_drewN ?_ _ | refine blk_drew ?_ | refine blk_alloc ?_ _)); exact BK403.out) hb); have n3_ := Aside0.mk (blk_below (g := gb409) (o := .cells #[.int .i64 t404, .int .i64 t405, .string t406, .bool t407] 38 (0, 0)) (by (with_reducible repeat (first | refine blk_drewN ?_ _ | refine blk_drew ?_ | refine blk_alloc ?_ _)); refine blk_far ?_ NB409_453.out _; (with_reducible repeat (first | refine blk_drewN ?_ _ | refine blk_drew ?_ | refine blk_alloc ?_ _)); refine blk_far ?_ NB409_453.out _; (with_reducible repeat (first | refine blk_drewN ?_ _ | refine blk_drew ?_ | refine blk_alloc ?_ _)); refine blk_far ?_ NB409_453.out _; (with_reducible repeat (first | refine blk_drewN ?_ _ | refine blk_drew ?_ | refine blk_alloc ?_ _)); refine blk_far ?_ NB409_453.out _; (with_reducible repeat (first | refine blk_drewN ?_ _ | refine blk_drew ?_ | refine blk_alloc ?_ _)); exact BK409.out) hb); have n4_ := Aside0.mk (blk_below (g := gb453) (o := .cells #[.int .i64 t448, .int .i64 t449, .string t450, .bool t451] 38 (0, 0)) (by (with_reducible repeat (first | refine blk_drewN ?_ _ | refine blk_drew ?_ | refine blk_alloc ?_ _)); refine blk_put (cs := #[.int .i64 t448, .int .i64 t449, .string t450, .bool false]) ?_ 3 _ rfl; (with_reducible repeat (first | refine blk_drewN ?_ _ | refine blk_drew ?_ | refine blk_alloc ?_ _)); refine blk_put (cs := #[.int .i64 t448, .int .i64 t449, .string (⟨#[]⟩ : ByteArray), .bool false]) ?_ 2 _ rfl; (with_reducible repeat (first | refine blk_drewN ?_ _ | refine blk_drew ?_ | refine blk_alloc ?_ _)); refine blk_put (cs := #[.int .i64 t448, .int .i64 0, .string (⟨#[]⟩ : ByteArray), .bool false]) ?_ 1 _ rfl; (with_reducible repeat (first | refine blk_drewN ?_ _ | refine blk_drew ?_ | refine blk_alloc ?_ _)); refine blk_put (cs := #[.int .i64 0, .int .i64 0, .string (⟨#[]⟩ : ByteArray), .bool false]) ?_ 0 _ rfl; (with_reducible repeat (first | refine blk_drewN ?_ _ | refine blk_drew ?_ | refine blk_alloc ?_ _)); exact BK453.out) hb); have n5_ := Aside0.mk (below_step (by repeat (first | (with_reducible first | exact HB.out | apply below_alloc | apply pw_below_drewN | apply below_drew1 | refine below_set ?_ GE396.out | refine below_set ?_ GE397.out | refine below_set ?_ GE403.out | refine below_set ?_ GE409.out | refine below_set ?_ GE453.out) | exact HB.out)) hb); clear BK396; clear BK397; clear BK403; clear BK409; clear BK453; clear HB; have BK396 := n0_; have BK397 := n1_; have BK403 := n2_; have BK409 := n3_; have BK453 := n4_; have HB := n5_; clear n0_ n1_ n2_ n3_ n4_ n5_; (try clear hb); (try clear hb2); (try clear hk); (try clear hi); (try simp only [errW_none, errW_some])) | ((with_reducible refine gate_dst (N := 18) rfl ?_); refine box_event ?hg (N := 18) ?hd (cs := #[.int .i64 0, .int .i64 0, .string (⟨#[]⟩ : ByteArray), .bool false]) (t := 38) ?hr ?_; (case hd => rfl); (case hg => rfl); (case hr => first | (go_simp; done) | (go_simp; rfl)); intro gb460 hg w285 hbox hb; have n0_ := Aside0.mk (blk_below (g := gb396) (o := .cells #[.int .i64 t388, .int .i64 t389, .string t390, .bool t391] 38 (0, 0)) (by (with_reducible repeat (first | refine blk_drewN ?_ _ | refine blk_drew ?_ | refine blk_alloc ?_ _)); exact BK396.out) hb); have n1_ := Aside0.mk (blk_below (g := gb397) (o := .cells #[.int .i64 t392, .int .i64 t393, .string t394, .bool t395] 38 (0, 0)) (by (with_reducible repeat (first | refine blk_drewN ?_ _ | refine blk_drew ?_ | refine blk_alloc ?_ _)); exact BK397.out) hb); have n2_ := Aside0.mk (blk_below (g := gb403) (o := .cells #[.int .i64 t398, .int .i64 t399, .string t400, .bool t401] 38 (0, 0)) (by (with_reducible repeat (first | refine blk_drewN ?_ _ | refine blk_drew ?_ | refine blk_alloc ?_ _)); exact BK403.out) hb); have n3_ := Aside0.mk (blk_below (g := gb409) (o := .cells #[.int .i64 t404, .int .i64 t405, .string t406, .bool t407] 38 (0, 0)) (by (with_reducible repeat (first | refine blk_drewN ?_ _ | refine blk_drew ?_ | refine blk_alloc ?_ _)); exact BK409.out) hb); have n4_ := Aside0.mk (blk_below (g := gb453) (o := .cells #[.int .i64 t448, .int .i64 t449, .string t450, .bool t451] 38 (0, 0)) (by (with_reducible repeat (first | refine blk_drewN ?_ _ | refine blk_drew ?_ | refine blk_alloc ?_ _)); exact BK453.out) hb); have n5_ := Aside0.mk (below_step (by repeat (first | (with_reducible first | exact HB.out | apply below_alloc | apply pw_below_drewN | apply below_drew1 | refine below_set ?_ GE396.out | refine below_set ?_ GE397.out | refine below_set ?_ GE403.out | refine below_set ?_ GE409.out | refine below_set ?_ GE453.out) | exact HB.out)) hb); have n6_ := Aside0.mk (hbox); have n7_ := Aside0.mk ((by rw [hg]; exact (below_size (by repeat (first | (with_reducible first | exact HB.out | apply below_alloc | apply pw_below_drewN | apply below_drew1 | refine below_set ?_ GE396.out | refine below_set ?_ GE397.out | refine below_set ?_ GE403.out | refine below_set ?_ GE409.out | refine below_set ?_ GE453.out) | exact HB.out))) : w.heap.size ≤ gb460)); have n8_ := Aside0.mk ((by rw [hg]; exact (below_size (by repeat (first | (with_reducible first | exact HB.out | apply below_alloc | apply pw_below_drewN | apply below_drew1 | refine below_set ?_ GE396.out | refine below_set ?_ GE397.out | refine below_set ?_ GE403.out | refine below_set ?_ GE409.out | refine below_set ?_ GE453.out) | exact HB.out))) : w.heap.size ≤ gb460)); have n9_ := Aside0.mk ((by rw [hg]; exact Nat.ne_of_lt (blk_lt (g := gb396) (o := .cells #[.int .i64 t388, .int .i64 t389, .string t390, .bool t391] 38 (0, 0)) (by (with_reducible repeat (first | refine blk_drewN ?_ _ | refine blk_drew ?_ | refine blk_alloc ?_ _)); exact BK396.out)) : gb396 ≠ gb460)); have n10_ := Aside0.mk ((by rw [hg]; exact Nat.ne_of_gt (blk_lt (g := gb396) (o := .cells #[.int .i64 t388, .int .i64 t389, .string t390, .bool t391] 38 (0, 0)) (by (with_reducible repeat (first | refine blk_drewN ?_ _ | refine blk_drew ?_ | refine blk_alloc ?_ _)); exact BK396.out)) : gb460 ≠ gb396)); have n11_ := Aside0.mk ((by rw [hg]; exact Nat.ne_of_lt (blk_lt (g := gb397) (o := .cells #[.int .i64 t392, .int .i64 t393, .string t394, .bool t395] 38 (0, 0)) (by (with_reducible repeat (first | refine blk_drewN ?_ _ | refine blk_drew ?_ | refine blk_alloc ?_ _)); exact BK397.out)) : gb397 ≠ gb460)); have n12_ := Aside0.mk ((by rw [hg]; exact Nat.ne_of_gt (blk_lt (g := gb397) (o := .cells #[.int .i64 t392, .int .i64 t393, .string t394, .bool t395] 38 (0, 0)) (by (with_reducible repeat (first | refine blk_drewN ?_ _ | refine blk_drew ?_ | refine blk_alloc ?_ _)); exact BK397.out)) : gb460 ≠ gb397)); have n13_ := Aside0.mk ((by rw [hg]; exact Nat.ne_of_lt (blk_lt (g := gb403) (o := .cells #[.int .i64 t398, .int .i64 t399, .string t400, .bool t401] 38 (0, 0)) (by (with_reducible repeat (first | refine blk_drewN ?_ _ | refine blk_drew ?_ | refine blk_alloc ?_ _)); exact BK403.out)) : gb403 ≠ gb460)); have n14_ := Aside0.mk ((by rw [hg]; exact Nat.ne_of_gt (blk_lt (g := gb403) (o := .cells #[.int .i64 t398, .int .i64 t399, .string t400, .bool t401] 38 (0, 0)) (by (with_reducible repeat (first | refine blk_drewN ?_ _ | refine blk_drew ?_ | refine blk_alloc ?_ _)); exact BK403.out)) : gb460 ≠ gb403)); have n15_ := Aside0.mk ((by rw [hg]; exact Nat.ne_of_lt (blk_lt (g := gb409) (o := .cells #[.int .i64 t404, .int .i64 t405, .string t406, .bool t407] 38 (0, 0)) (by (with_reducible repeat (first | refine blk_drewN ?_ _ | refine blk_drew ?_ | refine blk_alloc ?_ _)); exact BK409.out)) : gb409 ≠ gb460)); have n16_ := Aside0.mk ((by rw [hg]; exact Nat.ne_of_gt (blk_lt (g := gb409) (o := .cells #[.int .i64 t404, .int .i64 t405, .string t406, .bool t407] 38 (0, 0)) (by (with_reducible repeat (first | refine blk_drewN ?_ _ | refine blk_drew ?_ | refine blk_alloc ?_ _)); exact BK409.out)) : gb460 ≠ gb409)); have n17_ := Aside0.mk ((by rw [hg]; exact Nat.ne_of_lt (blk_lt (g := gb453) (o := .cells #[.int .i64 t448, .int .i64 t449, .string t450, .bool t451] 38 (0, 0)) (by (with_reducible repeat (first | refine blk_drewN ?_ _ | refine blk_drew ?_ | refine blk_alloc ?_ _)); exact BK453.out)) : gb453 ≠ gb460)); have n18_ := Aside0.mk ((by rw [hg]; exact Nat.ne_of_gt (blk_lt (g := gb453) (o := .cells #[.int .i64 t448, .int .i64 t449, .string t450, .bool t451] 38 (0, 0)) (by (with_reducible repeat (first | refine blk_drewN ?_ _ | refine blk_drew ?_ | refine blk_alloc ?_ _)); exact BK453.out)) : gb460 ≠ gb453)); clear BK396; clear BK397; clear BK403; clear BK409; clear BK453; clear HB; have BK396 := n0_; have BK397 := n1_; have BK403 := n2_; have BK409 := n3_; have BK453 := n4_; have HB := n5_; have BK460 := n6_; have GW460 := n7_; have GE460 := n8_; have NB396_460 := n9_; have NB460_396 := n10_; have NB397_460 := n11_; have NB460_397 := n12_; have NB403_460 := n13_; have NB460_403 := n14_; have NB409_460 := n15_; have NB460_409 := n16_; have NB453_460 := n17_; have NB460_453 := n18_; clear n0_ n1_ n2_ n3_ n4_ n5_ n6_ n7_ n8_ n9_ n10_ n11_ n12_ n13_ n14_ n15_ n16_ n17_ n18_; clear hb hbox hg; have hnb286 := NB460_396.out; have hnc286 := NB396_460.out; have hnb287 := NB460_397.out; have hnc287 := NB397_460.out; have hnb288 := NB460_403.out; have hnc288 := NB403_460.out; have hnb289 := NB460_409.out; have hnc289 := NB409_460.out; have hnb290 := NB460_453.out; have hnc290 := NB453_460.out; have hcz291_0 : w285.cell? ⟨gb460, 0, none⟩ = some (.int .i64 0) := (blk_cell BK460.out 0).trans rfl; have hcz291_1 : w285.cell? ⟨gb460, 1, none⟩ = some (.int .i64 0) := (blk_cell BK460.out 1).trans rfl; have hcz291_2 : w285.cell? ⟨gb460, 2, none⟩ = some (.string (⟨#[]⟩ : ByteArray)) := (blk_cell BK460.out 2).trans rfl; have hcz291_3 : w285.cell? ⟨gb460, 3, none⟩ = some (.bool false) := (blk_cell BK460.out 3).trans rfl; have hfz291_0 := blk_frozen BK460.out 0; have hfz291_1 := blk_frozen BK460.out 1; have hfz291_2 := blk_frozen BK460.out 2; have hfz291_3 := blk_frozen BK460.out 3; have hcz292_0 : w285.cell? ⟨gb396, 0, none⟩ = some (.int .i64 t388) := (blk_cell BK396.out 0).trans rfl; have hcz292_1 : w285.cell? ⟨gb396, 1, none⟩ = some (.int .i64 t389) := (blk_cell BK396.out 1).trans rfl; have hcz292_2 : w285.cell? ⟨gb396, 2, none⟩ = some (.string t390) := (blk_cell BK396.out 2).trans rfl; have hcz292_3 : w285.cell? ⟨gb396, 3, none⟩ = some (.bool t391) := (blk_cell BK396.out 3).trans rfl; have hfz292_0 := blk_frozen BK396.out 0; have hfz292_1 := blk_frozen BK396.out 1; have hfz292_2 := blk_frozen BK396.out 2; have hfz292_3 := blk_frozen BK396.out 3) | (go_at_call 22; (with_reducible refine (barbicanlaw05_sure.calls kj245  t462 _ ?side1 A268.out).mono ?_); (case side1 => exact GW_below HG.out (by repeat (first | (with_reducible first | exact HB.out | apply below_alloc | apply pw_below_drewN | apply below_drew1 | refine below_set ?_ GE396.out | refine below_set ?_ GE397.out | refine below_set ?_ GE403.out | refine below_set ?_ GE409.out | refine below_set ?_ GE453.out | refine below_set ?_ GE460.out) | exact HB.out))); rintro e w293 ⟨rfl, hb⟩; have n0_ := Aside0.mk (blk_below (g := gb396) (o := .cells #[.int .i64 t388, .int .i64 t389, .string t390, .bool t391] 38 (0, 0)) (by (with_reducible repeat (first | refine blk_drewN ?_ _ | refine blk_drew ?_ | refine blk_alloc ?_ _)); refine blk_far ?_ NB396_460.out _; (with_reducible repeat (first | refine blk_drewN ?_ _ | refine blk_drew ?_ | refine blk_alloc ?_ _)); refine blk_far ?_ NB396_460.out _; (with_reducible repeat (first | refine blk_drewN ?_ _ | refine blk_drew ?_ | refine blk_alloc ?_ _)); refine blk_far ?_ NB396_460.out _; (with_reducible repeat (first | refine blk_drewN ?_ _ | refine blk_drew ?_ | refine blk_alloc ?_ _)); refine blk_far ?_ NB396_460.out _; (with_reducible repeat (first | refine blk_drewN ?_ _ | refine blk_drew ?_ | refine blk_alloc ?_ _)); exact BK396.out) hb); have n1_ := Aside0.mk (blk_below (g := gb397) (o := .cells #[.int .i64 t392, .int .i64 t393, .string t394, .bool t395] 38 (0, 0)) (by (with_reducible repeat (first | refine blk_drewN ?_ _ | refine blk_drew ?_ | refine blk_alloc ?_ _)); refine blk_far ?_ NB397_460.out _; (with_reducible repeat (first | refine blk_drewN ?_ _ | refine blk_drew ?_ | refine blk_alloc ?_ _)); refine blk_far ?_ NB397_460.out _; (with_reducible repeat (first | refine blk_drewN ?_ _ | refine blk_drew ?_ | refine blk_alloc ?_ _)); refine blk_far ?_ NB397_460.out _; (with_reducible repeat (first | refine blk_drewN ?_ _ | refine blk_drew ?_ | refine blk_alloc ?_ _)); refine blk_far ?_ NB397_460.out _; (with_reducible repeat (first | refine blk_drewN ?_ _ | refine blk_drew ?_ | refine blk_alloc ?_ _)); exact BK397.out) hb); have n2_ := Aside0.mk (blk_below (g := gb403) (o := .cells #[.int .i64 t398, .int .i64 t399, .string t400, .bool t401] 38 (0, 0)) (by (with_reducible repeat (first | refine blk_drewN ?_ _ | refine blk_drew ?_ | refine blk_alloc ?_ _)); refine blk_far ?_ NB403_460.out _; (with_reducible repeat (first | refine blk_drewN ?_ _ | refine blk_drew ?_ | refine blk_alloc ?_ _)); refine blk_far ?_ NB403_460.out _; (with_reducible repeat (first | refine blk_drewN ?_ _ | refine blk_drew ?_ | refine blk_alloc ?_ _)); refine blk_far ?_ NB403_460.out _; (with_reducible repeat (first | refine blk_drewN ?_ _ | refine blk_drew ?_ | refine blk_alloc ?_ _)); refine blk_far ?_ NB403_460.out _; (with_reducible repeat (first | refine blk_drewN ?_ _ | refine blk_drew ?_ | refine blk_alloc ?_ _)); exact BK403.out) hb); have n3_ := Aside0.mk (blk_below (g := gb409) (o := .cells #[.int .i64 t404, .int .i64 t405, .string t406, .bool t407] 38 (0, 0)) (by (with_reducible repeat (first | refine blk_drewN ?_ _ | refine blk_drew ?_ | refine blk_alloc ?_ _)); refine blk_far ?_ NB409_460.out _; (with_reducible repeat (first | refine blk_drewN ?_ _ | refine blk_drew ?_ | refine blk_alloc ?_ _)); refine blk_far ?_ NB409_460.out _; (with_reducible repeat (first | refine blk_drewN ?_ _ | refine blk_drew ?_ | refine blk_alloc ?_ _)); refine blk_far ?_ NB409_460.out _; (with_reducible repeat (first | refine blk_drewN ?_ _ | refine blk_drew ?_ | refine blk_alloc ?_ _)); refine blk_far ?_ NB409_460.out _; (with_reducible repeat (first | refine blk_drewN ?_ _ | refine blk_drew ?_ | refine blk_alloc ?_ _)); exact BK409.out) hb); have n4_ := Aside0.mk (blk_below (g := gb453) (o := .cells #[.int .i64 t448, .int .i64 t449, .string t450, .bool t451] 38 (0, 0)) (by (with_reducible repeat (first | refine blk_drewN ?_ _ | refine blk_drew ?_ | refine blk_alloc ?_ _)); refine blk_far ?_ NB453_460.out _; (with_reducible repeat (first | refine blk_drewN ?_ _ | refine blk_drew ?_ | refine blk_alloc ?_ _)); refine blk_far ?_ NB453_460.out _; (with_reducible repeat (first | refine blk_drewN ?_ _ | refine blk_drew ?_ | refine blk_alloc ?_ _)); refine blk_far ?_ NB453_460.out _; (with_reducible repeat (first | refine blk_drewN ?_ _ | refine blk_drew ?_ | refine blk_alloc ?_ _)); refine blk_far ?_ NB453_460.out _; (with_reducible repeat (first | refine blk_drewN ?_ _ | refine blk_drew ?_ | refine blk_alloc ?_ _)); exact BK453.out) hb); have n5_ := Aside0.mk (blk_below (g := gb460) (o := .cells #[.int .i64 t455, .int .i64 t456, .string t457, .bool t458] 38 (0, 0)) (by (with_reducible repeat (first | refine blk_drewN ?_ _ | refine blk_drew ?_ | refine blk_alloc ?_ _)); refine blk_put (cs := #[.int .i64 t455, .int .i64 t456, .string t457, .bool false]) ?_ 3 _ rfl; (with_reducible repeat (first | refine blk_drewN ?_ _ | refine blk_drew ?_ | refine blk_alloc ?_ _)); refine blk_put (cs := #[.int .i64 t455, .int .i64 t456, .string (⟨#[]⟩ : ByteArray), .bool false]) ?_ 2 _ rfl; (with_reducible repeat (first | refine blk_drewN ?_ _ | refine blk_drew ?_ | refine blk_alloc ?_ _)); refine blk_put (cs := #[.int .i64 t455, .int .i64 0, .string (⟨#[]⟩ : ByteArray), .bool false]) ?_ 1 _ rfl; (with_reducible repeat (first | refine blk_drewN ?_ _ | refine blk_drew ?_ | refine blk_alloc ?_ _)); refine blk_put (cs := #[.int .i64 0, .int .i64 0, .string (⟨#[]⟩ : ByteArray), .bool false]) ?_ 0 _ rfl; (with_reducible repeat (first | refine blk_drewN ?_ _ | refine blk_drew ?_ | refine blk_alloc ?_ _)); exact BK460.out) hb); have n6_ := Aside0.mk (below_step (by repeat (first | (with_reducible first | exact HB.out | apply below_alloc | apply pw_below_drewN | apply below_drew1 | refine below_set ?_ GE396.out | refine below_set ?_ GE397.out | refine below_set ?_ GE403.out | refine below_set ?_ GE409.out | refine below_set ?_ GE453.out | refine below_set ?_ GE460.out) | exact HB.out)) hb); clear BK396; clear BK397; clear BK403; clear BK409; clear BK453; clear BK460; clear HB; have BK396 := n0_; have BK397 := n1_; have BK403 := n2_; have BK409 := n3_; have BK453 := n4_; have BK460 := n5_; have HB := n6_; clear n0_ n1_ n2_ n3_ n4_ n5_ n6_; (try clear hb); (try clear hb2); (try clear hk); (try clear hi)))
                          go_ret
                          exact ⟨by first | rfl | (simp [errW_none, errW_some] <;> rfl) | (simp [*, errW_none, errW_some] <;> rfl), by repeat (first | (with_reducible first | exact HB.out | apply below_alloc | apply pw_below_drewN | apply below_drew1 | refine below_set ?_ GE396.out | refine below_set ?_ GE397.out | refine below_set ?_ GE403.out | refine below_set ?_ GE409.out | refine below_set ?_ GE453.out | refine below_set ?_ GE460.out) | exact HB.out)⟩
                        · rw [if_neg c267] at H
                          exact absurd H (by simp)
                      · have H1 : (none) = some r := by rw [if_neg (show ¬ (some q461).isNone = true by simp)] at H; exact H
                        clear H
                        have H := H1
                        clear H1
                        try simp only [errW_none, errW_some]
                        exact absurd H (by simp)
                    · have H1 : ((barbicanlaw05_num.f (some q454)).bind fun t463 => (if t463 = 5 then ((barbicanlaw05_sure.f kj245).bind fun t464 => (some t464)) else (none))) = some r := by rw [if_neg (show ¬ (some q454).isNone = true by simp)] at H; exact H
                      clear H
                      have H := H1
                      clear H1
                      try simp only [errW_none, errW_some]
                      replace H := Option.bind_eq_some_iff.mp H
                      obtain ⟨t463, A2940, H⟩ := H
                      replace H : (if t463 = 5 then ((barbicanlaw05_sure.f kj245).bind fun t464 => (some t464)) else (none)) = some r := H
                      have A294 := Aside0.mk A2940
                      clear A2940
                      by_cases c295 : t463 = 5
                      · rw [if_pos c295] at H
                        have c295b0 : (t463 == 5) = true := beq_iff_eq.mpr c295
                        have c295b1 : (t463 != 5) = false := bne_eq_false_iff_eq.mpr c295
                        clear c295
                        replace H := Option.bind_eq_some_iff.mp H
                        obtain ⟨t464, A2960, H⟩ := H
                        replace H : (some t464) = some r := H
                        have A296 := Aside0.mk A2960
                        clear A2960
                        obtain rfl := Option.some.inj H
                        have hnb297 := NB396_397.out
                        have hnc297 := NB397_396.out
                        have hnb298 := NB396_403.out
                        have hnc298 := NB403_396.out
                        have hnb299 := NB396_409.out
                        have hnc299 := NB409_396.out
                        have hcz300_0 : wc.cell? ⟨gb396, 0, none⟩ = some (.int .i64 t388) := (blk_cell BK396.out 0).trans rfl
                        have hcz300_1 : wc.cell? ⟨gb396, 1, none⟩ = some (.int .i64 t389) := (blk_cell BK396.out 1).trans rfl
                        have hcz300_2 : wc.cell? ⟨gb396, 2, none⟩ = some (.string t390) := (blk_cell BK396.out 2).trans rfl
                        have hcz300_3 : wc.cell? ⟨gb396, 3, none⟩ = some (.bool t391) := (blk_cell BK396.out 3).trans rfl
                        have hfz300_0 := blk_frozen BK396.out 0
                        have hfz300_1 := blk_frozen BK396.out 1
                        have hfz300_2 := blk_frozen BK396.out 2
                        have hfz300_3 := blk_frozen BK396.out 3
                        have hnb301 := NB397_403.out
                        have hnc301 := NB403_397.out
                        have hnb302 := NB397_409.out
                        have hnc302 := NB409_397.out
                        have hcz303_0 : wc.cell? ⟨gb397, 0, none⟩ = some (.int .i64 t392) := (blk_cell BK397.out 0).trans rfl
                        have hcz303_1 : wc.cell? ⟨gb397, 1, none⟩ = some (.int .i64 t393) := (blk_cell BK397.out 1).trans rfl
                        have hcz303_2 : wc.cell? ⟨gb397, 2, none⟩ = some (.string t394) := (blk_cell BK397.out 2).trans rfl
                        have hcz303_3 : wc.cell? ⟨gb397, 3, none⟩ = some (.bool t395) := (blk_cell BK397.out 3).trans rfl
                        have hfz303_0 := blk_frozen BK397.out 0
                        have hfz303_1 := blk_frozen BK397.out 1
                        have hfz303_2 := blk_frozen BK397.out 2
                        have hfz303_3 := blk_frozen BK397.out 3
                        go_wp2_with (first | ((with_reducible refine gate_callee (f := 26) rfl ?_); refine goesL_ (some 162) rfl rfl Tryd.func26 (by kernel_rfl) rfl #[.int .u8 43, .agg #[.int .i64 t388, .int .i64 t389, .string t390, .bool t391], .agg #[.int .i64 t392, .int .i64 t393, .string t394, .bool t395]] rfl (by (try simp only [List.map_toArray, List.map_cons, List.map_nil]); first | done | rfl | (simp only [List.length_drop, List.length_take]; rfl)) ?_; (with_reducible refine (value_Reckon.calls kj245 43 t388 t389 t390 t391 t392 t393 t394 t395 t448 t449 t450 t451 (some q454) _ A265.out).mono ?_); rintro e w304 ⟨rfl, hb⟩; refine ⟨_, rfl, ?_⟩; have n0_ := Aside0.mk (blk_below (g := gb396) (o := .cells #[.int .i64 t388, .int .i64 t389, .string t390, .bool t391] 38 (0, 0)) (by (with_reducible repeat (first | refine blk_drewN ?_ _ | refine blk_drew ?_ | refine blk_alloc ?_ _)); exact BK396.out) hb); have n1_ := Aside0.mk (blk_below (g := gb397) (o := .cells #[.int .i64 t392, .int .i64 t393, .string t394, .bool t395] 38 (0, 0)) (by (with_reducible repeat (first | refine blk_drewN ?_ _ | refine blk_drew ?_ | refine blk_alloc ?_ _)); exact BK397.out) hb); have n2_ := Aside0.mk (blk_below (g := gb403) (o := .cells #[.int .i64 t398, .int .i64 t399, .string t400, .bool t401] 38 (0, 0)) (by (with_reducible repeat (first | refine blk_drewN ?_ _ | refine blk_drew ?_ | refine blk_alloc ?_ _)); exact BK403.out) hb); have n3_ := Aside0.mk (blk_below (g := gb409) (o := .cells #[.int .i64 t404, .int .i64 t405, .string t406, .bool t407] 38 (0, 0)) (by (with_reducible repeat (first | refine blk_drewN ?_ _ | refine blk_drew ?_ | refine blk_alloc ?_ _)); exact BK409.out) hb); have n4_ := Aside0.mk (below_step (by repeat (first | (with_reducible first | exact HB.out | apply below_alloc | apply pw_below_drewN | apply below_drew1 | refine below_set ?_ GE396.out | refine below_set ?_ GE397.out | refine below_set ?_ GE403.out | refine below_set ?_ GE409.out) | exact HB.out)) hb); clear BK396; clear BK397; clear BK403; clear BK409; clear HB; have BK396 := n0_; have BK397 := n1_; have BK403 := n2_; have BK409 := n3_; have HB := n4_; clear n0_ n1_ n2_ n3_ n4_; (try clear hb); (try clear hb2); (try clear hk); (try clear hi); (try simp only [errW_none, errW_some])) | ((with_reducible refine gate_dst (N := 16) rfl ?_); refine box_event ?hg (N := 16) ?hd (cs := #[.int .i64 0, .int .i64 0, .string (⟨#[]⟩ : ByteArray), .bool false]) (t := 38) ?hr ?_; (case hd => rfl); (case hg => rfl); (case hr => first | (go_simp; done) | (go_simp; rfl)); intro gb453 hg w305 hbox hb; have n0_ := Aside0.mk (blk_below (g := gb396) (o := .cells #[.int .i64 t388, .int .i64 t389, .string t390, .bool t391] 38 (0, 0)) (by (with_reducible repeat (first | refine blk_drewN ?_ _ | refine blk_drew ?_ | refine blk_alloc ?_ _)); exact BK396.out) hb); have n1_ := Aside0.mk (blk_below (g := gb397) (o := .cells #[.int .i64 t392, .int .i64 t393, .string t394, .bool t395] 38 (0, 0)) (by (with_reducible repeat (first | refine blk_drewN ?_ _ | refine blk_drew ?_ | refine blk_alloc ?_ _)); exact BK397.out) hb); have n2_ := Aside0.mk (blk_below (g := gb403) (o := .cells #[.int .i64 t398, .int .i64 t399, .string t400, .bool t401] 38 (0, 0)) (by (with_reducible repeat (first | refine blk_drewN ?_ _ | refine blk_drew ?_ | refine blk_alloc ?_ _)); exact BK403.out) hb); have n3_ := Aside0.mk (blk_below (g := gb409) (o := .cells #[.int .i64 t404, .int .i64 t405, .string t406, .bool t407] 38 (0, 0)) (by (with_reducible repeat (first | refine blk_drewN ?_ _ | refine blk_drew ?_ | refine blk_alloc ?_ _)); exact BK409.out) hb); have n4_ := Aside0.mk (below_step (by repeat (first | (with_reducible first | exact HB.out | apply below_alloc | apply pw_below_drewN | apply below_drew1 | refine below_set ?_ GE396.out | refine below_set ?_ GE397.out | refine below_set ?_ GE403.out | refine below_set ?_ GE409.out) | exact HB.out)) hb); have n5_ := Aside0.mk (hbox); have n6_ := Aside0.mk ((by rw [hg]; exact (below_size (by repeat (first | (with_reducible first | exact HB.out | apply below_alloc | apply pw_below_drewN | apply below_drew1 | refine below_set ?_ GE396.out | refine below_set ?_ GE397.out | refine below_set ?_ GE403.out | refine below_set ?_ GE409.out) | exact HB.out))) : w.heap.size ≤ gb453)); have n7_ := Aside0.mk ((by rw [hg]; exact (below_size (by repeat (first | (with_reducible first | exact HB.out | apply below_alloc | apply pw_below_drewN | apply below_drew1 | refine below_set ?_ GE396.out | refine below_set ?_ GE397.out | refine below_set ?_ GE403.out | refine below_set ?_ GE409.out) | exact HB.out))) : w.heap.size ≤ gb453)); have n8_ := Aside0.mk ((by rw [hg]; exact Nat.ne_of_lt (blk_lt (g := gb396) (o := .cells #[.int .i64 t388, .int .i64 t389, .string t390, .bool t391] 38 (0, 0)) (by (with_reducible repeat (first | refine blk_drewN ?_ _ | refine blk_drew ?_ | refine blk_alloc ?_ _)); exact BK396.out)) : gb396 ≠ gb453)); have n9_ := Aside0.mk ((by rw [hg]; exact Nat.ne_of_gt (blk_lt (g := gb396) (o := .cells #[.int .i64 t388, .int .i64 t389, .string t390, .bool t391] 38 (0, 0)) (by (with_reducible repeat (first | refine blk_drewN ?_ _ | refine blk_drew ?_ | refine blk_alloc ?_ _)); exact BK396.out)) : gb453 ≠ gb396)); have n10_ := Aside0.mk ((by rw [hg]; exact Nat.ne_of_lt (blk_lt (g := gb397) (o := .cells #[.int .i64 t392, .int .i64 t393, .string t394, .bool t395] 38 (0, 0)) (by (with_reducible repeat (first | refine blk_drewN ?_ _ | refine blk_drew ?_ | refine blk_alloc ?_ _)); exact BK397.out)) : gb397 ≠ gb453)); have n11_ := Aside0.mk ((by rw [hg]; exact Nat.ne_of_gt (blk_lt (g := gb397) (o := .cells #[.int .i64 t392, .int .i64 t393, .string t394, .bool t395] 38 (0, 0)) (by (with_reducible repeat (first | refine blk_drewN ?_ _ | refine blk_drew ?_ | refine blk_alloc ?_ _)); exact BK397.out)) : gb453 ≠ gb397)); have n12_ := Aside0.mk ((by rw [hg]; exact Nat.ne_of_lt (blk_lt (g := gb403) (o := .cells #[.int .i64 t398, .int .i64 t399, .string t400, .bool t401] 38 (0, 0)) (by (with_reducible repeat (first | refine blk_drewN ?_ _ | refine blk_drew ?_ | refine blk_alloc ?_ _)); exact BK403.out)) : gb403 ≠ gb453)); have n13_ := Aside0.mk ((by rw [hg]; exact Nat.ne_of_gt (blk_lt (g := gb403) (o := .cells #[.int .i64 t398, .int .i64 t399, .string t400, .bool t401] 38 (0, 0)) (by (with_reducible repeat (first | refine blk_drewN ?_ _ | refine blk_drew ?_ | refine blk_alloc ?_ _)); exact BK403.out)) : gb453 ≠ gb403)); have n14_ := Aside0.mk ((by rw [hg]; exact Nat.ne_of_lt (blk_lt (g := gb409) (o := .cells #[.int .i64 t404, .int .i64 t405, .string t406, .bool t407] 38 (0, 0)) (by (with_reducible repeat (first | refine blk_drewN ?_ _ | refine blk_drew ?_ | refine blk_alloc ?_ _)); exact BK409.out)) : gb409 ≠ gb453)); have n15_ := Aside0.mk ((by rw [hg]; exact Nat.ne_of_gt (blk_lt (g := gb409) (o := .cells #[.int .i64 t404, .int .i64 t405, .string t406, .bool t407] 38 (0, 0)) (by (with_reducible repeat (first | refine blk_drewN ?_ _ | refine blk_drew ?_ | refine blk_alloc ?_ _)); exact BK409.out)) : gb453 ≠ gb409)); clear BK396; clear BK397; clear BK403; clear BK409; clear HB; have BK396 := n0_; have BK397 := n1_; have BK403 := n2_; have BK409 := n3_; have HB := n4_; have BK453 := n5_; have GW453 := n6_; have GE453 := n7_; have NB396_453 := n8_; have NB453_396 := n9_; have NB397_453 := n10_; have NB453_397 := n11_; have NB403_453 := n12_; have NB453_403 := n13_; have NB409_453 := n14_; have NB453_409 := n15_; clear n0_ n1_ n2_ n3_ n4_ n5_ n6_ n7_ n8_ n9_ n10_ n11_ n12_ n13_ n14_ n15_; clear hb hbox hg; have hnb306 := NB453_396.out; have hnc306 := NB396_453.out; have hnb307 := NB453_397.out; have hnc307 := NB397_453.out; have hnb308 := NB453_403.out; have hnc308 := NB403_453.out; have hnb309 := NB453_409.out; have hnc309 := NB409_453.out; have hcz310_0 : w305.cell? ⟨gb453, 0, none⟩ = some (.int .i64 0) := (blk_cell BK453.out 0).trans rfl; have hcz310_1 : w305.cell? ⟨gb453, 1, none⟩ = some (.int .i64 0) := (blk_cell BK453.out 1).trans rfl; have hcz310_2 : w305.cell? ⟨gb453, 2, none⟩ = some (.string (⟨#[]⟩ : ByteArray)) := (blk_cell BK453.out 2).trans rfl; have hcz310_3 : w305.cell? ⟨gb453, 3, none⟩ = some (.bool false) := (blk_cell BK453.out 3).trans rfl; have hfz310_0 := blk_frozen BK453.out 0; have hfz310_1 := blk_frozen BK453.out 1; have hfz310_2 := blk_frozen BK453.out 2; have hfz310_3 := blk_frozen BK453.out 3; have CA294 := fun W (hG_ : GW W) => barbicanlaw05_num.calls (some q454) t463 W hG_ A294.out; try simp only [errW_none, errW_some] at CA294) | (go_at_call 29; (with_reducible refine (CA294 _ ?side1).mono ?_); (case side1 => exact GW_below HG.out (by repeat (first | (with_reducible first | exact HB.out | apply below_alloc | apply pw_below_drewN | apply below_drew1 | refine below_set ?_ GE396.out | refine below_set ?_ GE397.out | refine below_set ?_ GE403.out | refine below_set ?_ GE409.out | refine below_set ?_ GE453.out) | exact HB.out))); rintro e w311 ⟨rfl, hb⟩; have n0_ := Aside0.mk (blk_below (g := gb396) (o := .cells #[.int .i64 t388, .int .i64 t389, .string t390, .bool t391] 38 (0, 0)) (by (with_reducible repeat (first | refine blk_drewN ?_ _ | refine blk_drew ?_ | refine blk_alloc ?_ _)); refine blk_far ?_ NB396_453.out _; (with_reducible repeat (first | refine blk_drewN ?_ _ | refine blk_drew ?_ | refine blk_alloc ?_ _)); refine blk_far ?_ NB396_453.out _; (with_reducible repeat (first | refine blk_drewN ?_ _ | refine blk_drew ?_ | refine blk_alloc ?_ _)); refine blk_far ?_ NB396_453.out _; (with_reducible repeat (first | refine blk_drewN ?_ _ | refine blk_drew ?_ | refine blk_alloc ?_ _)); refine blk_far ?_ NB396_453.out _; (with_reducible repeat (first | refine blk_drewN ?_ _ | refine blk_drew ?_ | refine blk_alloc ?_ _)); exact BK396.out) hb); have n1_ := Aside0.mk (blk_below (g := gb397) (o := .cells #[.int .i64 t392, .int .i64 t393, .string t394, .bool t395] 38 (0, 0)) (by (with_reducible repeat (first | refine blk_drewN ?_ _ | refine blk_drew ?_ | refine blk_alloc ?_ _)); refine blk_far ?_ NB397_453.out _; (with_reducible repeat (first | refine blk_drewN ?_ _ | refine blk_drew ?_ | refine blk_alloc ?_ _)); refine blk_far ?_ NB397_453.out _; (with_reducible repeat (first | refine blk_drewN ?_ _ | refine blk_drew ?_ | refine blk_alloc ?_ _)); refine blk_far ?_ NB397_453.out _; (with_reducible repeat (first | refine blk_drewN ?_ _ | refine blk_drew ?_ | refine blk_alloc ?_ _)); refine blk_far ?_ NB397_453.out _; (with_reducible repeat (first | refine blk_drewN ?_ _ | refine blk_drew ?_ | refine blk_alloc ?_ _)); exact BK397.out) hb); have n2_ := Aside0.mk (blk_below (g := gb403) (o := .cells #[.int .i64 t398, .int .i64 t399, .string t400, .bool t401] 38 (0, 0)) (by (with_reducible repeat (first | refine blk_drewN ?_ _ | refine blk_drew ?_ | refine blk_alloc ?_ _)); refine blk_far ?_ NB403_453.out _; (with_reducible repeat (first | refine blk_drewN ?_ _ | refine blk_drew ?_ | refine blk_alloc ?_ _)); refine blk_far ?_ NB403_453.out _; (with_reducible repeat (first | refine blk_drewN ?_ _ | refine blk_drew ?_ | refine blk_alloc ?_ _)); refine blk_far ?_ NB403_453.out _; (with_reducible repeat (first | refine blk_drewN ?_ _ | refine blk_drew ?_ | refine blk_alloc ?_ _)); refine blk_far ?_ NB403_453.out _; (with_reducible repeat (first | refine blk_drewN ?_ _ | refine blk_drew ?_ | refine blk_alloc ?_ _)); exact BK403.out) hb); have n3_ := Aside0.mk (blk_below (g := gb409) (o := .cells #[.int .i64 t404, .int .i64 t405, .string t406, .bool t407] 38 (0, 0)) (by (with_reducible repeat (first | refine blk_drewN ?_ _ | refine blk_drew ?_ | refine blk_alloc ?_ _)); refine blk_far ?_ NB409_453.out _; (with_reducible repeat (first | refine blk_drewN ?_ _ | refine blk_drew ?_ | refine blk_alloc ?_ _)); refine blk_far ?_ NB409_453.out _; (with_reducible repeat (first | refine blk_drewN ?_ _ | refine blk_drew ?_ | refine blk_alloc ?_ _)); refine blk_far ?_ NB409_453.out _; (with_reducible repeat (first | refine blk_drewN ?_ _ | refine blk_drew ?_ | refine blk_alloc ?_ _)); refine blk_far ?_ NB409_453.out _; (with_reducible repeat (first | refine blk_drewN ?_ _ | refine blk_drew ?_ | refine blk_alloc ?_ _)); exact BK409.out) hb); have n4_ := Aside0.mk (blk_below (g := gb453) (o := .cells #[.int .i64 t448, .int .i64 t449, .string t450, .bool t451] 38 (0, 0)) (by (with_reducible repeat (first | refine blk_drewN ?_ _ | refine blk_drew ?_ | refine blk_alloc ?_ _)); refine blk_put (cs := #[.int .i64 t448, .int .i64 t449, .string t450, .bool false]) ?_ 3 _ rfl; (with_reducible repeat (first | refine blk_drewN ?_ _ | refine blk_drew ?_ | refine blk_alloc ?_ _)); refine blk_put (cs := #[.int .i64 t448, .int .i64 t449, .string (⟨#[]⟩ : ByteArray), .bool false]) ?_ 2 _ rfl; (with_reducible repeat (first | refine blk_drewN ?_ _ | refine blk_drew ?_ | refine blk_alloc ?_ _)); refine blk_put (cs := #[.int .i64 t448, .int .i64 0, .string (⟨#[]⟩ : ByteArray), .bool false]) ?_ 1 _ rfl; (with_reducible repeat (first | refine blk_drewN ?_ _ | refine blk_drew ?_ | refine blk_alloc ?_ _)); refine blk_put (cs := #[.int .i64 0, .int .i64 0, .string (⟨#[]⟩ : ByteArray), .bool false]) ?_ 0 _ rfl; (with_reducible repeat (first | refine blk_drewN ?_ _ | refine blk_drew ?_ | refine blk_alloc ?_ _)); exact BK453.out) hb); have n5_ := Aside0.mk (below_step (by repeat (first | (with_reducible first | exact HB.out | apply below_alloc | apply pw_below_drewN | apply below_drew1 | refine below_set ?_ GE396.out | refine below_set ?_ GE397.out | refine below_set ?_ GE403.out | refine below_set ?_ GE409.out | refine below_set ?_ GE453.out) | exact HB.out)) hb); clear BK396; clear BK397; clear BK403; clear BK409; clear BK453; clear HB; have BK396 := n0_; have BK397 := n1_; have BK403 := n2_; have BK409 := n3_; have BK453 := n4_; have HB := n5_; clear n0_ n1_ n2_ n3_ n4_ n5_; (try clear hb); (try clear hb2); (try clear hk); (try clear hi)) | (go_at_call 22; (with_reducible refine (barbicanlaw05_sure.calls kj245  t464 _ ?side1 A296.out).mono ?_); (case side1 => exact GW_below HG.out (by repeat (first | (with_reducible first | exact HB.out | apply below_alloc | apply pw_below_drewN | apply below_drew1 | refine below_set ?_ GE396.out | refine below_set ?_ GE397.out | refine below_set ?_ GE403.out | refine below_set ?_ GE409.out | refine below_set ?_ GE453.out) | exact HB.out))); rintro e w312 ⟨rfl, hb⟩; have n0_ := Aside0.mk (blk_below (g := gb396) (o := .cells #[.int .i64 t388, .int .i64 t389, .string t390, .bool t391] 38 (0, 0)) (by (with_reducible repeat (first | refine blk_drewN ?_ _ | refine blk_drew ?_ | refine blk_alloc ?_ _)); exact BK396.out) hb); have n1_ := Aside0.mk (blk_below (g := gb397) (o := .cells #[.int .i64 t392, .int .i64 t393, .string t394, .bool t395] 38 (0, 0)) (by (with_reducible repeat (first | refine blk_drewN ?_ _ | refine blk_drew ?_ | refine blk_alloc ?_ _)); exact BK397.out) hb); have n2_ := Aside0.mk (blk_below (g := gb403) (o := .cells #[.int .i64 t398, .int .i64 t399, .string t400, .bool t401] 38 (0, 0)) (by (with_reducible repeat (first | refine blk_drewN ?_ _ | refine blk_drew ?_ | refine blk_alloc ?_ _)); exact BK403.out) hb); have n3_ := Aside0.mk (blk_below (g := gb409) (o := .cells #[.int .i64 t404, .int .i64 t405, .string t406, .bool t407] 38 (0, 0)) (by (with_reducible repeat (first | refine blk_drewN ?_ _ | refine blk_drew ?_ | refine blk_alloc ?_ _)); exact BK409.out) hb); have n4_ := Aside0.mk (blk_below (g := gb453) (o := .cells #[.int .i64 t448, .int .i64 t449, .string t450, .bool t451] 38 (0, 0)) (by (with_reducible repeat (first | refine blk_drewN ?_ _ | refine blk_drew ?_ | refine blk_alloc ?_ _)); exact BK453.out) hb); have n5_ := Aside0.mk (below_step (by repeat (first | (with_reducible first | exact HB.out | apply below_alloc | apply pw_below_drewN | apply below_drew1 | refine below_set ?_ GE396.out | refine below_set ?_ GE397.out | refine below_set ?_ GE403.out | refine below_set ?_ GE409.out | refine below_set ?_ GE453.out) | exact HB.out)) hb); clear BK396; clear BK397; clear BK403; clear BK409; clear BK453; clear HB; have BK396 := n0_; have BK397 := n1_; have BK403 := n2_; have BK409 := n3_; have BK453 := n4_; have HB := n5_; clear n0_ n1_ n2_ n3_ n4_ n5_; (try clear hb); (try clear hb2); (try clear hk); (try clear hi)))
                        go_ret
                        exact ⟨by first | rfl | (simp [errW_none, errW_some] <;> rfl) | (simp [*, errW_none, errW_some] <;> rfl), by repeat (first | (with_reducible first | exact HB.out | apply below_alloc | apply pw_below_drewN | apply below_drew1 | refine below_set ?_ GE396.out | refine below_set ?_ GE397.out | refine below_set ?_ GE403.out | refine below_set ?_ GE409.out | refine below_set ?_ GE453.out) | exact HB.out)⟩
                      · rw [if_neg c295] at H
                        exact absurd H (by simp)
        · rw [if_neg c209] at H
          exact absurd H (by simp)
      · rw [if_neg c208] at H
        exact absurd H (by simp)

theorem barbicanlaw05_ValueDivides.calls (k : Nat) (a0 : Int) (a1 : Int) (r : Bool) (w : World) (hG : GW w) (h : barbicanlaw05_ValueDivides.f k a0 a1 = some r) :
    Calls Tryd.prog 8 #[.int .i64 a0, .int .i64 a1] w fun e w' => e = .returned (.bool r) ∧ Below w.heap.size w w' := by
  have hh := h
  unfold barbicanlaw05_ValueDivides.f at hh
  obtain ⟨p, hp, h1⟩ := Option.bind_eq_some_iff.mp hh
  obtain ⟨q, hq, h2⟩ := Option.bind_eq_some_iff.mp h1
  obtain ⟨z, hz, h3⟩ := Option.bind_eq_some_iff.mp h2
  by_cases he : z.2.2.2.2 = none
  · exact barbicanlaw05_ValueDivides.calls_a k a0 a1 r w hG (fun p' q' z' e1 e2 e3 => by obtain rfl := Option.some.inj (hp.symm.trans e1); obtain rfl := Option.some.inj (hq.symm.trans e2); obtain rfl := Option.some.inj (hz.symm.trans e3); exact he) h
  · exact barbicanlaw05_ValueDivides.calls_b k a0 a1 r w hG (fun p' q' z' e1 e2 e3 => by obtain rfl := Option.some.inj (hp.symm.trans e1); obtain rfl := Option.some.inj (hq.symm.trans e2); obtain rfl := Option.some.inj (hz.symm.trans e3); exact he) h
end Go.Proofs.YtljadejgdbemoaaDoor.B

/-
  DERIVED. GIVEN WITH THE SEED: THE PROGRAM's TIES (one call each: nine closed facts by the kernel) AND EACH ROW's TIE, after the 31st guide's Derived/Test/Toyas{Tie, Card}.lean. No idea stands in it: it is a product of the set-up. Laid BY PROGRAM, IN A SANDBOX (cutbox-door.mjs). By AI agents, Wed Nov 11 2026. No macro, syntax, notation, axiom, sorry.
-/
import Derived.Test.YtfhodefiknfccaaDoorRows
import Derived.LaidByTextLater
import Derived.SevenTiedAt
import Derived.LaidSub
import Derived.LaidOnce
namespace Go.Proofs.YtfhodefiknfccaaDoor
open Go
set_option maxRecDepth 100000
theorem seatTie1 : Tryd.prog.laidByTextLater [("glideslope/area.sides", Rows.laid_glideslope_area_sides), ("glideslope/monitor.steps", Rows.laid_glideslope_monitor_steps), ("glideslope/tone.silent", Rows.laid_glideslope_tone_silent)] [.funcs, .funcs, .data] true :=
  Program.laidByTextLater_by_one 33 8 3 (by kernel_rfl) (by kernel_rfl) (by kernel_rfl) (by kernel_rfl) (by kernel_rfl) (by kernel_rfl) (fun _ _ => by kernel_rfl)
theorem noOwnUnsafe : Tryd.pinned.checked.prog.headLifts.contains "ownunsafe" = false := by kernel_rfl
theorem tie : Tryd.prog.laidByTextLater [("glideslope/monitor.steps", Rows.laid_glideslope_monitor_steps), ("glideslope/tone.silent", Rows.laid_glideslope_tone_silent)] [.funcs, .data] true :=
  Program.laidByTextLater.sub seatTie1 ["glideslope/monitor.steps", "glideslope/tone.silent"] (by kernel_rfl) (by kernel_rfl)
theorem topStopbarLying_row_tie : Rows.topStopbarLyingRow.laidByTextAt .later Tryd.pinned [.funcs, .data] true :=
  OpenClaim.laidByTextAt_later rfl rfl tie noOwnUnsafe
theorem topStopbarOff_row_tie : Rows.topStopbarOffRow.laidByTextAt .later Tryd.pinned [.funcs, .data] true :=
  OpenClaim.laidByTextAt_later rfl rfl tie noOwnUnsafe
theorem tie2 : Tryd.prog.laidByTextLater [("glideslope/area.sides", Rows.laid_glideslope_area_sides)] [.funcs] true :=
  Program.laidByTextLater.sub seatTie1 ["glideslope/area.sides"] (by kernel_rfl) (by kernel_rfl)
theorem topWindsockHeld_row_tie : Rows.topWindsockHeldRow.laidByTextAt .later Tryd.pinned [.funcs] true :=
  OpenClaim.laidByTextAt_later rfl rfl tie2 noOwnUnsafe
theorem topStopbarLyingUpto_row_tie : Rows.topStopbarLyingUptoRow.laidByTextAt .later Tryd.pinned [.funcs, .data] true :=
  OpenClaim.laidByTextAt_later rfl rfl tie noOwnUnsafe
theorem topWindsockHeldUpto_row_tie : Rows.topWindsockHeldUptoRow.laidByTextAt .later Tryd.pinned [.funcs] true :=
  OpenClaim.laidByTextAt_later rfl rfl tie2 noOwnUnsafe
theorem topStopbarOffUpto_row_tie : Rows.topStopbarOffUptoRow.laidByTextAt .later Tryd.pinned [.funcs, .data] true :=
  OpenClaim.laidByTextAt_later rfl rfl tie noOwnUnsafe
end Go.Proofs.YtfhodefiknfccaaDoor

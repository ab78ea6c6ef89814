-- Made by drive.py (a program of this session) over the kit's print; not written line by line by a hand.
/- What every row of this seat asks of the program, once. -/
import Derived.Test.YtdlhidjphaaklaaRows
import Derived.JoinedOf
import Derived.KernelRfl
namespace Go.Proofs.Ytdlhidjphaaklaa.Facts
theorem f_laid : laidOutB Try.prog = true := by kernel_rfl
theorem f_maps : mapsRowed Try.prog = true := by kernel_rfl
theorem f_knobs : (Try.prog.stopKnobs == []) = true := by kernel_rfl
theorem f_heard : Try.prog.stopsHeard = true := by kernel_rfl
theorem f_may : Try.prog.mayEnter = true := by kernel_rfl
theorem f_lifts : Try.prog.liftsFinal = false := by kernel_rfl
theorem f_make : Try.prog.make = some Rows.fnExactNotesOfRow.make := by kernel_rfl
end Go.Proofs.Ytdlhidjphaaklaa.Facts

/- Small laws beside the print's words: a store over a store into one cell, read back; what holds from some number of rounds on (Ev), over tests and binds. No condition. -/
import Derived.Test.YtdnpbpgnehaebaaWWords
namespace Go.Proofs.Ytdnpbpgnehaebaa.Aid
open Go.RowKit Go.Proofs.YtdnpbpgnehaebaaW.PrintWords
theorem cell_twice (w : World) (a : Addr) (v v' : Value) (h : (w.cell? a).isSome = true) : ((w.setCell a v).setCell a v').cell? a = some v' :=
  World.cell?_setCell_same' _ a v' (by rw [World.cell?_setCell_same' w a v h]; rfl)
end Go.Proofs.Ytdnpbpgnehaebaa.Aid

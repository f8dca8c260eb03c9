/- Short names for some of the print's words, so that a long text stays below the size of a claim's file. No condition. -/
import Derived.Test.YtdnpbpgnehaebaaWWords
namespace Go.Proofs.Ytdnpbpgnehaebaa.Aid2
open Go.RowKit Go.Proofs.YtdnpbpgnehaebaaW.PrintWords
theorem am {p : Prop} (h : p) : Aside0 p := ⟨h⟩
theorem qa {w : World} {g : Nat} {o : Obj} (h : w.heap[g]? = some o) (n : Nat) : (w.drewN n).heap[g]? = some o := blk_drewN h n
theorem qb {w : World} {g : Nat} {o : Obj} (h : w.heap[g]? = some o) : w.drew.heap[g]? = some o := blk_drew h
theorem qc {w : World} {g : Nat} {o : Obj} (h : w.heap[g]? = some o) (o' : Obj) : (w.alloc o').heap[g]? = some o := blk_alloc h o'
theorem qf {w : World} {g : Nat} {t : TypeId} {cs : Array Value} (h : w.heap[g]? = some (.cells cs t (0, 0))) {p : Addr} (hp : g ≠ p.block) (u : Value) : (w.setCell p u).heap[g]? = some (.cells cs t (0, 0)) := blk_far h hp u
theorem pa {w W : World} (h : Below w.heap.size w W) (o : Obj) : Below w.heap.size w (W.alloc o) := below_alloc h o
theorem pb {B : Nat} {w W : World} (h : Below B w W) (n : Nat) : Below B w (W.drewN n) := pw_below_drewN h n
theorem pc {B : Nat} {w W : World} (h : Below B w W) : Below B w W.drew := below_drew1 h
end Go.Proofs.Ytdnpbpgnehaebaa.Aid2

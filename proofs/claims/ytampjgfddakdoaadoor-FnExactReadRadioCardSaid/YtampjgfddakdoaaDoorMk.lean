/-
  A struct's new block, kept behind a callee: whether the block was made ahead of the draw or behind it. No condition beyond the hypotheses.
-/
import Derived.Test.YtampjgfddakdoaaDoorLib
import Derived.Test.YtampjgfddakdoaaDoorField
namespace Go.Proofs.YtampjgfddakdoaaDoor
open Go.RowKit
theorem mk_fresh {w w3 : World} {cs : Array Value} {e : TypeId} (hb : Below (w.alloc (.cells cs e)).heap.size (w.alloc (.cells cs e)) w3) : SInv w3 w.heap.size cs.toList := (SInv.fresh w cs e).later hb
theorem mk_fresh1 {w w3 : World} {cs : Array Value} {e : TypeId} (hb : Below (w.alloc (.cells cs e)).drew.heap.size (w.alloc (.cells cs e)).drew w3) : SInv w3 w.heap.size cs.toList :=
  SInv.later (wr := (w.alloc (.cells cs e)).drew) ⟨(SInv.fresh w cs e).cell, (SInv.fresh w cs e).free, (SInv.fresh w cs e).lt⟩ hb
theorem mk_fresh2 {w w3 : World} {cs : Array Value} {e : TypeId} (hb : Below (w.drew.alloc (.cells cs e)).heap.size (w.drew.alloc (.cells cs e)) w3) : SInv w3 w.heap.size cs.toList := (SInv.fresh w.drew cs e).later hb
end Go.Proofs.YtampjgfddakdoaaDoor

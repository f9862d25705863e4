/- Small words of this session: arrays by value. -/
import Derived.WalkKit
import Derived.Lib.SlBytesConst
import Derived.Below
import Derived.Laws.OwnMore
import Derived.Deep.Draws
import Derived.Laws.Rows
import Derived.KernelRfl
import Derived.Test.YtcbknemdidehlaaGreatDoorWMore
namespace Go.Proofs.YtcbknemdidehlaaGreatDoor.X
open Go.RowKit Go.Proofs.YtcbknemdidehlaaGreatDoorW.PrintWords
theorem run_index_array {P : Program} {w : World} (t e : TypeId) (n : Nat) (cs : Array Value) (k : IntKind) (i : Int) (v : Value)
  (h : P.underlying t = some (.array n e)) (hs : (sizeOf e).run P w = .ok 1 w) (ha : (isAgg e).run P w = .ok false w)
  (h0 : 0 ≤ i) (hn : i < (n : Int)) (hv : cs[i.toNat]? = some v) :
  (Instr.index t (.agg cs) (.int k i)).run P w = .ok v w := by
 simp [Instr.index, run_underlying h, asIntOf, h0, hn, hs, ha, part, hv]
theorem at_bools (l : List Bool) (i : Int) (h : i < (l.length : Int)) (h0 : 0 ≤ i) : ((l.map Value.bool).toArray)[i.toNat]? = some (.bool (rdOf false l i)) := by
 have : i.toNat < l.length := by omega
 simp [rdOf, this]
def Blk (w : World) (g : Nat) (t : TypeId) (cs : Array Value) : Prop := w.heap[g]? = some (.cells cs t (0, 0))
section
variable {w w' : World} {g : Nat} {t : TypeId} {cs : Array Value}
theorem Blk.lt (h : Blk w g t cs) : g < w.heap.size := by
 rcases Nat.lt_or_ge g w.heap.size with hlt | hge
 ·exact hlt
 ·unfold Blk at h; rw [Array.getElem?_eq_none hge] at h; cases h
theorem Blk.cell (h : Blk w g t cs) (i : Nat) : w.cell? ⟨g, i, none⟩ = cs[i]? := cell_of_row w g i cs t (0, 0) h
theorem Blk.frozen (h : Blk w g t cs) (i : Nat) : w.frozen? ⟨g, i, none⟩ = false := by
 unfold Blk at h
 simp [World.frozen?, h]
theorem Blk.new (w : World) (t : TypeId) (cs : Array Value) : Blk (w.alloc (.cells cs t)) w.heap.size t cs := heap_alloc_new w _
theorem Blk.drew (h : Blk w g t cs) : Blk w.drew g t cs := h
theorem Blk.drewN (h : Blk w g t cs) (n : Nat) : Blk (w.drewN n) g t cs := h
theorem Blk.alloc (h : Blk w g t cs) (o : Obj) : Blk (w.alloc o) g t cs := (Below.heap_alloc w o g h.lt).trans h
theorem Blk.set_ (h : Blk w g t cs) (i : Nat) (u : Value) : Blk (w.setCell ⟨g, i, none⟩ u) g t (cs.setIfInBounds i u) := by
 unfold Blk at h ⊢
 simp [World.setCell, Array.getElem?_modify, h]
theorem Blk.far (h : Blk w g t cs) {p : Addr} (hp : g ≠ p.block) (u : Value) : Blk (w.setCell p u) g t cs := (Below.heap_setCell w p u g hp).trans h
theorem Blk.below {B : Nat} (h : Blk w g t cs) (hb : Below B w w') (hg : g < B) : Blk w' g t cs := (hb.block g hg).trans h
theorem Blk.grown {row : Option Nat} (h : Blk w g t cs) (hb : w.grownBy w' row) (hg : some g ≠ row) : Blk w' g t cs := (hb.block g h.lt hg).trans h
end
def BlkM (w : World) (g : Nat) (t : TypeId) (fr : Nat × Nat) (cs : Array Value) : Prop := w.heap[g]? = some (.cells cs t fr)
section
variable {w w' : World} {g : Nat} {t : TypeId} {fr : Nat × Nat} {cs : Array Value}
theorem BlkM.cell (h : BlkM w g t fr cs) (i : Nat) : w.cell? ⟨g, i, none⟩ = cs[i]? := cell_of_row w g i cs t fr h
theorem BlkM.frozen (h : BlkM w g t fr cs) (i : Nat) (hi : i < fr.1) : w.frozen? ⟨g, i, none⟩ = false := by
 unfold BlkM at h
 have : ¬ fr.1 ≤ i := by omega
 simp [World.frozen?, h, this]
theorem BlkM.new (w : World) (t : TypeId) (fr : Nat × Nat) (cs : Array Value) : BlkM (w.alloc (.cells cs t fr)) w.heap.size t fr cs := heap_alloc_new w _
theorem BlkM.set_ (h : BlkM w g t fr cs) (i : Nat) (u : Value) : BlkM (w.setCell ⟨g, i, none⟩ u) g t fr (cs.setIfInBounds i u) := by
 unfold BlkM at h ⊢
 simp [World.setCell, Array.getElem?_modify, h]
end
end Go.Proofs.YtcbknemdidehlaaGreatDoor.X

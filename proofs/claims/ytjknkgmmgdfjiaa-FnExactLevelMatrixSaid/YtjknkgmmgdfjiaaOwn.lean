/-
  The call's own cells, known ahead of a callee, known behind it: many at a time.
-/
import Derived.Test.YtjknkgmmgdfjiaaWorld
import Derived.Test.YtjknkgmmgdfjiaaRule
namespace Go.Proofs.Ytjknkgmmgdfjiaa
open Go.RowKit
def CellsIs (w : World) : List Addr → List Value → Prop
  | a :: A, v :: V => w.cell? a = some v ∧ CellsIs w A V
  | _, _ => True
def FreesIs (w : World) : List Addr → Prop
  | a :: A => w.frozen? a = false ∧ FreesIs w A
  | [] => True
def BlocksIs (w : World) : List Nat → Prop
  | b :: B => b < w.heap.size ∧ BlocksIs w B
  | [] => True
theorem cells_calls {w w' : World} (hb : Below w.heap.size w w') : ∀ (A : List Addr) (V : List Value), CellsIs w A V → CellsIs w' A V
  | _ :: A, _ :: V, h => ⟨cell_call hb h.1, cells_calls hb A V h.2⟩
  | [], _, _ => trivial
  | _ :: _, [], _ => trivial
theorem frees_calls {w w' : World} (hb : Below w.heap.size w w') : ∀ (A : List Addr), BlocksIs w (A.map (·.block)) → FreesIs w A → FreesIs w' A
  | _ :: A, h1, h2 => ⟨frz_call hb h1.1 h2.1, frees_calls hb A h1.2 h2.2⟩
  | [], _, _ => trivial
theorem blocks_calls {w w' : World} (hb : Below w.heap.size w w') : ∀ (B : List Nat), BlocksIs w B → BlocksIs w' B
  | _ :: B, h => ⟨lt_keep hb _ h.1, blocks_calls hb B h.2⟩
  | [], _ => trivial
/- What the walks ask again and again, shown by one and the same road. -/
theorem byCT {p : Prop} (h : p := by ((first | with_reducible assumption | ((repeat' first | with_reducible (first | assumption | refine cell_al _ ?_ | refine cell_eq _ ?_ | refine cell_ne _ ?_ ?_ | refine ex_set _ ?_ | refine ex_al _ ?_ | exact ⟨_, by assumption⟩) | (intro hh; injection hh with hh1 hh2; omega)); done) | go_simp); done)) : p := h
theorem byFT {p : Prop} (h : p := by ((first | with_reducible assumption | ((repeat' first | with_reducible (first | assumption | refine frz_al _ ?_ ?_ | refine frz_set _ ?_) | omega | (simp; omega)); done) | go_simp); done)) : p := h
theorem byGG {p : Prop} (h : p := by ((repeat' first | with_reducible (first | exact Below.refl _ _ | assumption | refine gr_alloc ?_ _ | refine below_drewN ?_ _ | refine below_drew ?_ | refine gr_call ?_ (by assumption) | refine Below.setCell ?_ ?_ _) | go_size | omega | (simp; omega)); done)) : p := h
end Go.Proofs.Ytjknkgmmgdfjiaa

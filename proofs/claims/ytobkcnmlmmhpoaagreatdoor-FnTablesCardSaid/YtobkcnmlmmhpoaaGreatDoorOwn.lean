/- The call's own cells, known ahead of a callee, known behind it: many at a time. -/
import Derived.Test.YtobkcnmlmmhpoaaGreatDoorNum
import Derived.Test.YtobkcnmlmmhpoaaGreatDoorRule
namespace Go.Proofs.YtobkcnmlmmhpoaaGreatDoor
open Go.RowKit
def CellsIs (w:World):List Addr→List Value→Prop
 |a :: A,v :: V=>w.cell? a=some v∧CellsIs w A V
 |_,_=>True
def FreesIs (w:World):List Addr→Prop
 |a :: A=>w.frozen? a=false∧FreesIs w A
 | []=>True
def BlocksIs (w:World):List Nat→Prop
 |b :: B=>b<w.heap.size∧BlocksIs w B
 | []=>True
theorem cells_calls {w w':World} (hb:Below w.heap.size w w'): ∀(A:List Addr) (V:List Value),CellsIs w A V→CellsIs w' A V
 |_ :: A,_ :: V,h=>⟨cell_call hb h.1,cells_calls hb A V h.2⟩
 | [],_,_=>trivial
 |_ :: _,[],_=>trivial
theorem frees_calls {w w':World} (hb:Below w.heap.size w w'): ∀(A:List Addr),BlocksIs w (A.map (·.block))→FreesIs w A→FreesIs w' A
 |_ :: A,h1,h2=>⟨frz_call hb h1.1 h2.1,frees_calls hb A h1.2 h2.2⟩
 | [],_,_=>trivial
theorem blocks_calls {w w':World} (hb:Below w.heap.size w w'): ∀(B:List Nat),BlocksIs w B→BlocksIs w' B
 |_ :: B,h=>⟨lt_keep hb _ h.1,blocks_calls hb B h.2⟩
 | [],_=>trivial
/- What the walks ask again and again, shown by one and the same road. -/
theorem byCT {p:Prop} (h:p:=by ((first|with_reducible assumption|((repeat' first|with_reducible (first|assumption|refine cell_al _ ?_|refine cell_eq _ ?_|refine cell_ne _ ?_ ?_|refine ex_set _ ?_|refine ex_al _ ?_|exact ⟨_,VV⟩)|(intro hh;injection hh with hh1 hh2;omega));done)|go_simp);done)):p:=h
theorem byFT {p:Prop} (h:p:=by ((first|with_reducible assumption|((repeat' first|with_reducible (first|assumption|refine frz_al _ ?_ ?_|refine frz_set _ ?_)|omega|(simp;omega));done)|go_simp);done)):p:=h
theorem byGG {p:Prop} (h:p:=by ((repeat' first|with_reducible (first|exact Below.refl _ _|assumption|refine gr_alloc ?_ _|refine below_drewN ?_ _|refine below_drew ?_|refine gr_call ?_ VV|refine Below.setCell ?_ ?_ _)|go_size|omega|(simp;omega));done)):p:=h
/- Blocks of the call's own, as one. -/
structure Ri1 (w:World) (b:Nat) (x0:Int):Prop where
 c0:w.cell? ⟨b,0,none⟩=some (.int .i64 x0)
 z:b<w.heap.size
theorem Ri1.m {w:World} {b:Nat} {x0:Int} (c0:w.cell? ⟨b,0,none⟩=some (.int .i64 x0)):Ri1 w b x0:=⟨c0,World.block_lt_of_cell? _ _ c0⟩
theorem Ri1.c {w w':World} (hb:Below w.heap.size w w') (b:Nat) (x0:Int) (h:Ri1 w b x0:=by exact ⟨by (first|with_reducible assumption|((repeat' first|with_reducible (first|assumption|refine cell_al _ ?_|refine cell_eq _ ?_|refine cell_ne _ ?_ ?_|refine ex_set _ ?_|refine ex_al _ ?_|exact ⟨_,VV⟩)|(intro hh;injection hh with hh1 hh2;omega));done)|go_simp),by first|with_reducible assumption|omega|(simp;omega)|(simp;done)⟩):Ri1 w' b x0:=⟨cell_call hb h.c0,lt_keep hb _ h.z⟩
structure Ri2 (w:World) (b:Nat) (x0 x1:Int):Prop where
 c0:w.cell? ⟨b,0,none⟩=some (.int .i64 x0)
 c1:w.cell? ⟨b,1,none⟩=some (.int .i64 x1)
 z:b<w.heap.size
theorem Ri2.m {w:World} {b:Nat} {x0 x1:Int} (c0:w.cell? ⟨b,0,none⟩=some (.int .i64 x0)) (c1:w.cell? ⟨b,1,none⟩=some (.int .i64 x1)):Ri2 w b x0 x1:=⟨c0,c1,World.block_lt_of_cell? _ _ c0⟩
theorem Ri2.c {w w':World} (hb:Below w.heap.size w w') (b:Nat) (x0 x1:Int) (h:Ri2 w b x0 x1:=by exact ⟨by (first|with_reducible assumption|((repeat' first|with_reducible (first|assumption|refine cell_al _ ?_|refine cell_eq _ ?_|refine cell_ne _ ?_ ?_|refine ex_set _ ?_|refine ex_al _ ?_|exact ⟨_,VV⟩)|(intro hh;injection hh with hh1 hh2;omega));done)|go_simp),by (first|with_reducible assumption|((repeat' first|with_reducible (first|assumption|refine cell_al _ ?_|refine cell_eq _ ?_|refine cell_ne _ ?_ ?_|refine ex_set _ ?_|refine ex_al _ ?_|exact ⟨_,VV⟩)|(intro hh;injection hh with hh1 hh2;omega));done)|go_simp),by first|with_reducible assumption|omega|(simp;omega)|(simp;done)⟩):Ri2 w' b x0 x1:=⟨cell_call hb h.c0,cell_call hb h.c1,lt_keep hb _ h.z⟩
structure Ri3 (w:World) (b:Nat) (x0 x1 x2:Int):Prop where
 c0:w.cell? ⟨b,0,none⟩=some (.int .i64 x0)
 c1:w.cell? ⟨b,1,none⟩=some (.int .i64 x1)
 c2:w.cell? ⟨b,2,none⟩=some (.int .i64 x2)
 z:b<w.heap.size
theorem Ri3.m {w:World} {b:Nat} {x0 x1 x2:Int} (c0:w.cell? ⟨b,0,none⟩=some (.int .i64 x0)) (c1:w.cell? ⟨b,1,none⟩=some (.int .i64 x1)) (c2:w.cell? ⟨b,2,none⟩=some (.int .i64 x2)):Ri3 w b x0 x1 x2:=⟨c0,c1,c2,World.block_lt_of_cell? _ _ c0⟩
theorem Ri3.c {w w':World} (hb:Below w.heap.size w w') (b:Nat) (x0 x1 x2:Int) (h:Ri3 w b x0 x1 x2:=by exact ⟨by (first|with_reducible assumption|((repeat' first|with_reducible (first|assumption|refine cell_al _ ?_|refine cell_eq _ ?_|refine cell_ne _ ?_ ?_|refine ex_set _ ?_|refine ex_al _ ?_|exact ⟨_,VV⟩)|(intro hh;injection hh with hh1 hh2;omega));done)|go_simp),by (first|with_reducible assumption|((repeat' first|with_reducible (first|assumption|refine cell_al _ ?_|refine cell_eq _ ?_|refine cell_ne _ ?_ ?_|refine ex_set _ ?_|refine ex_al _ ?_|exact ⟨_,VV⟩)|(intro hh;injection hh with hh1 hh2;omega));done)|go_simp),by (first|with_reducible assumption|((repeat' first|with_reducible (first|assumption|refine cell_al _ ?_|refine cell_eq _ ?_|refine cell_ne _ ?_ ?_|refine ex_set _ ?_|refine ex_al _ ?_|exact ⟨_,VV⟩)|(intro hh;injection hh with hh1 hh2;omega));done)|go_simp),by first|with_reducible assumption|omega|(simp;omega)|(simp;done)⟩):Ri3 w' b x0 x1 x2:=⟨cell_call hb h.c0,cell_call hb h.c1,cell_call hb h.c2,lt_keep hb _ h.z⟩
structure Ri4 (w:World) (b:Nat) (x0 x1 x2 x3:Int):Prop where
 c0:w.cell? ⟨b,0,none⟩=some (.int .i64 x0)
 c1:w.cell? ⟨b,1,none⟩=some (.int .i64 x1)
 c2:w.cell? ⟨b,2,none⟩=some (.int .i64 x2)
 c3:w.cell? ⟨b,3,none⟩=some (.int .i64 x3)
 z:b<w.heap.size
theorem Ri4.m {w:World} {b:Nat} {x0 x1 x2 x3:Int} (c0:w.cell? ⟨b,0,none⟩=some (.int .i64 x0)) (c1:w.cell? ⟨b,1,none⟩=some (.int .i64 x1)) (c2:w.cell? ⟨b,2,none⟩=some (.int .i64 x2)) (c3:w.cell? ⟨b,3,none⟩=some (.int .i64 x3)):Ri4 w b x0 x1 x2 x3:=⟨c0,c1,c2,c3,World.block_lt_of_cell? _ _ c0⟩
theorem Ri4.c {w w':World} (hb:Below w.heap.size w w') (b:Nat) (x0 x1 x2 x3:Int) (h:Ri4 w b x0 x1 x2 x3:=by exact ⟨by (first|with_reducible assumption|((repeat' first|with_reducible (first|assumption|refine cell_al _ ?_|refine cell_eq _ ?_|refine cell_ne _ ?_ ?_|refine ex_set _ ?_|refine ex_al _ ?_|exact ⟨_,VV⟩)|(intro hh;injection hh with hh1 hh2;omega));done)|go_simp),by (first|with_reducible assumption|((repeat' first|with_reducible (first|assumption|refine cell_al _ ?_|refine cell_eq _ ?_|refine cell_ne _ ?_ ?_|refine ex_set _ ?_|refine ex_al _ ?_|exact ⟨_,VV⟩)|(intro hh;injection hh with hh1 hh2;omega));done)|go_simp),by (first|with_reducible assumption|((repeat' first|with_reducible (first|assumption|refine cell_al _ ?_|refine cell_eq _ ?_|refine cell_ne _ ?_ ?_|refine ex_set _ ?_|refine ex_al _ ?_|exact ⟨_,VV⟩)|(intro hh;injection hh with hh1 hh2;omega));done)|go_simp),by (first|with_reducible assumption|((repeat' first|with_reducible (first|assumption|refine cell_al _ ?_|refine cell_eq _ ?_|refine cell_ne _ ?_ ?_|refine ex_set _ ?_|refine ex_al _ ?_|exact ⟨_,VV⟩)|(intro hh;injection hh with hh1 hh2;omega));done)|go_simp),by first|with_reducible assumption|omega|(simp;omega)|(simp;done)⟩):Ri4 w' b x0 x1 x2 x3:=⟨cell_call hb h.c0,cell_call hb h.c1,cell_call hb h.c2,cell_call hb h.c3,lt_keep hb _ h.z⟩
structure Wi1 (w:World) (b:Nat) (x0:Int):Prop where
 c0:w.cell? ⟨b,0,none⟩=some (.int .i64 x0)
 f0:w.frozen? ⟨b,0,none⟩=false
 z:b<w.heap.size
theorem Wi1.m {w:World} {b:Nat} {x0:Int} (c0:w.cell? ⟨b,0,none⟩=some (.int .i64 x0)) (f0:w.frozen? ⟨b,0,none⟩=false):Wi1 w b x0:=⟨c0,f0,World.block_lt_of_cell? _ _ c0⟩
theorem Wi1.c {w w':World} (hb:Below w.heap.size w w') (b:Nat) (x0:Int) (h:Wi1 w b x0:=by exact ⟨by (first|with_reducible assumption|((repeat' first|with_reducible (first|assumption|refine cell_al _ ?_|refine cell_eq _ ?_|refine cell_ne _ ?_ ?_|refine ex_set _ ?_|refine ex_al _ ?_|exact ⟨_,VV⟩)|(intro hh;injection hh with hh1 hh2;omega));done)|go_simp),by (first|with_reducible assumption|((repeat' first|with_reducible (first|assumption|refine frz_al _ ?_ ?_|refine frz_set _ ?_)|omega|(simp;omega));done)|go_simp),by first|with_reducible assumption|omega|(simp;omega)|(simp;done)⟩):Wi1 w' b x0:=⟨cell_call hb h.c0,frz_call hb h.z h.f0,lt_keep hb _ h.z⟩
structure Wi2 (w:World) (b:Nat) (x0 x1:Int):Prop where
 c0:w.cell? ⟨b,0,none⟩=some (.int .i64 x0)
 c1:w.cell? ⟨b,1,none⟩=some (.int .i64 x1)
 f0:w.frozen? ⟨b,0,none⟩=false
 f1:w.frozen? ⟨b,1,none⟩=false
 z:b<w.heap.size
theorem Wi2.m {w:World} {b:Nat} {x0 x1:Int} (c0:w.cell? ⟨b,0,none⟩=some (.int .i64 x0)) (c1:w.cell? ⟨b,1,none⟩=some (.int .i64 x1)) (f0:w.frozen? ⟨b,0,none⟩=false) (f1:w.frozen? ⟨b,1,none⟩=false):Wi2 w b x0 x1:=⟨c0,c1,f0,f1,World.block_lt_of_cell? _ _ c0⟩
theorem Wi2.c {w w':World} (hb:Below w.heap.size w w') (b:Nat) (x0 x1:Int) (h:Wi2 w b x0 x1:=by exact ⟨by (first|with_reducible assumption|((repeat' first|with_reducible (first|assumption|refine cell_al _ ?_|refine cell_eq _ ?_|refine cell_ne _ ?_ ?_|refine ex_set _ ?_|refine ex_al _ ?_|exact ⟨_,VV⟩)|(intro hh;injection hh with hh1 hh2;omega));done)|go_simp),by (first|with_reducible assumption|((repeat' first|with_reducible (first|assumption|refine cell_al _ ?_|refine cell_eq _ ?_|refine cell_ne _ ?_ ?_|refine ex_set _ ?_|refine ex_al _ ?_|exact ⟨_,VV⟩)|(intro hh;injection hh with hh1 hh2;omega));done)|go_simp),by (first|with_reducible assumption|((repeat' first|with_reducible (first|assumption|refine frz_al _ ?_ ?_|refine frz_set _ ?_)|omega|(simp;omega));done)|go_simp),by (first|with_reducible assumption|((repeat' first|with_reducible (first|assumption|refine frz_al _ ?_ ?_|refine frz_set _ ?_)|omega|(simp;omega));done)|go_simp),by first|with_reducible assumption|omega|(simp;omega)|(simp;done)⟩):Wi2 w' b x0 x1:=⟨cell_call hb h.c0,cell_call hb h.c1,frz_call hb h.z h.f0,frz_call hb h.z h.f1,lt_keep hb _ h.z⟩
structure Wi3 (w:World) (b:Nat) (x0 x1 x2:Int):Prop where
 c0:w.cell? ⟨b,0,none⟩=some (.int .i64 x0)
 c1:w.cell? ⟨b,1,none⟩=some (.int .i64 x1)
 c2:w.cell? ⟨b,2,none⟩=some (.int .i64 x2)
 f0:w.frozen? ⟨b,0,none⟩=false
 f1:w.frozen? ⟨b,1,none⟩=false
 f2:w.frozen? ⟨b,2,none⟩=false
 z:b<w.heap.size
theorem Wi3.m {w:World} {b:Nat} {x0 x1 x2:Int} (c0:w.cell? ⟨b,0,none⟩=some (.int .i64 x0)) (c1:w.cell? ⟨b,1,none⟩=some (.int .i64 x1)) (c2:w.cell? ⟨b,2,none⟩=some (.int .i64 x2)) (f0:w.frozen? ⟨b,0,none⟩=false) (f1:w.frozen? ⟨b,1,none⟩=false) (f2:w.frozen? ⟨b,2,none⟩=false):Wi3 w b x0 x1 x2:=⟨c0,c1,c2,f0,f1,f2,World.block_lt_of_cell? _ _ c0⟩
theorem Wi3.c {w w':World} (hb:Below w.heap.size w w') (b:Nat) (x0 x1 x2:Int) (h:Wi3 w b x0 x1 x2:=by exact ⟨by (first|with_reducible assumption|((repeat' first|with_reducible (first|assumption|refine cell_al _ ?_|refine cell_eq _ ?_|refine cell_ne _ ?_ ?_|refine ex_set _ ?_|refine ex_al _ ?_|exact ⟨_,VV⟩)|(intro hh;injection hh with hh1 hh2;omega));done)|go_simp),by (first|with_reducible assumption|((repeat' first|with_reducible (first|assumption|refine cell_al _ ?_|refine cell_eq _ ?_|refine cell_ne _ ?_ ?_|refine ex_set _ ?_|refine ex_al _ ?_|exact ⟨_,VV⟩)|(intro hh;injection hh with hh1 hh2;omega));done)|go_simp),by (first|with_reducible assumption|((repeat' first|with_reducible (first|assumption|refine cell_al _ ?_|refine cell_eq _ ?_|refine cell_ne _ ?_ ?_|refine ex_set _ ?_|refine ex_al _ ?_|exact ⟨_,VV⟩)|(intro hh;injection hh with hh1 hh2;omega));done)|go_simp),by (first|with_reducible assumption|((repeat' first|with_reducible (first|assumption|refine frz_al _ ?_ ?_|refine frz_set _ ?_)|omega|(simp;omega));done)|go_simp),by (first|with_reducible assumption|((repeat' first|with_reducible (first|assumption|refine frz_al _ ?_ ?_|refine frz_set _ ?_)|omega|(simp;omega));done)|go_simp),by (first|with_reducible assumption|((repeat' first|with_reducible (first|assumption|refine frz_al _ ?_ ?_|refine frz_set _ ?_)|omega|(simp;omega));done)|go_simp),by first|with_reducible assumption|omega|(simp;omega)|(simp;done)⟩):Wi3 w' b x0 x1 x2:=⟨cell_call hb h.c0,cell_call hb h.c1,cell_call hb h.c2,frz_call hb h.z h.f0,frz_call hb h.z h.f1,frz_call hb h.z h.f2,lt_keep hb _ h.z⟩
structure Wi4 (w:World) (b:Nat) (x0 x1 x2 x3:Int):Prop where
 c0:w.cell? ⟨b,0,none⟩=some (.int .i64 x0)
 c1:w.cell? ⟨b,1,none⟩=some (.int .i64 x1)
 c2:w.cell? ⟨b,2,none⟩=some (.int .i64 x2)
 c3:w.cell? ⟨b,3,none⟩=some (.int .i64 x3)
 f0:w.frozen? ⟨b,0,none⟩=false
 f1:w.frozen? ⟨b,1,none⟩=false
 f2:w.frozen? ⟨b,2,none⟩=false
 f3:w.frozen? ⟨b,3,none⟩=false
 z:b<w.heap.size
theorem Wi4.m {w:World} {b:Nat} {x0 x1 x2 x3:Int} (c0:w.cell? ⟨b,0,none⟩=some (.int .i64 x0)) (c1:w.cell? ⟨b,1,none⟩=some (.int .i64 x1)) (c2:w.cell? ⟨b,2,none⟩=some (.int .i64 x2)) (c3:w.cell? ⟨b,3,none⟩=some (.int .i64 x3)) (f0:w.frozen? ⟨b,0,none⟩=false) (f1:w.frozen? ⟨b,1,none⟩=false) (f2:w.frozen? ⟨b,2,none⟩=false) (f3:w.frozen? ⟨b,3,none⟩=false):Wi4 w b x0 x1 x2 x3:=⟨c0,c1,c2,c3,f0,f1,f2,f3,World.block_lt_of_cell? _ _ c0⟩
theorem Wi4.c {w w':World} (hb:Below w.heap.size w w') (b:Nat) (x0 x1 x2 x3:Int) (h:Wi4 w b x0 x1 x2 x3:=by exact ⟨by (first|with_reducible assumption|((repeat' first|with_reducible (first|assumption|refine cell_al _ ?_|refine cell_eq _ ?_|refine cell_ne _ ?_ ?_|refine ex_set _ ?_|refine ex_al _ ?_|exact ⟨_,VV⟩)|(intro hh;injection hh with hh1 hh2;omega));done)|go_simp),by (first|with_reducible assumption|((repeat' first|with_reducible (first|assumption|refine cell_al _ ?_|refine cell_eq _ ?_|refine cell_ne _ ?_ ?_|refine ex_set _ ?_|refine ex_al _ ?_|exact ⟨_,VV⟩)|(intro hh;injection hh with hh1 hh2;omega));done)|go_simp),by (first|with_reducible assumption|((repeat' first|with_reducible (first|assumption|refine cell_al _ ?_|refine cell_eq _ ?_|refine cell_ne _ ?_ ?_|refine ex_set _ ?_|refine ex_al _ ?_|exact ⟨_,VV⟩)|(intro hh;injection hh with hh1 hh2;omega));done)|go_simp),by (first|with_reducible assumption|((repeat' first|with_reducible (first|assumption|refine cell_al _ ?_|refine cell_eq _ ?_|refine cell_ne _ ?_ ?_|refine ex_set _ ?_|refine ex_al _ ?_|exact ⟨_,VV⟩)|(intro hh;injection hh with hh1 hh2;omega));done)|go_simp),by (first|with_reducible assumption|((repeat' first|with_reducible (first|assumption|refine frz_al _ ?_ ?_|refine frz_set _ ?_)|omega|(simp;omega));done)|go_simp),by (first|with_reducible assumption|((repeat' first|with_reducible (first|assumption|refine frz_al _ ?_ ?_|refine frz_set _ ?_)|omega|(simp;omega));done)|go_simp),by (first|with_reducible assumption|((repeat' first|with_reducible (first|assumption|refine frz_al _ ?_ ?_|refine frz_set _ ?_)|omega|(simp;omega));done)|go_simp),by (first|with_reducible assumption|((repeat' first|with_reducible (first|assumption|refine frz_al _ ?_ ?_|refine frz_set _ ?_)|omega|(simp;omega));done)|go_simp),by first|with_reducible assumption|omega|(simp;omega)|(simp;done)⟩):Wi4 w' b x0 x1 x2 x3:=⟨cell_call hb h.c0,cell_call hb h.c1,cell_call hb h.c2,cell_call hb h.c3,frz_call hb h.z h.f0,frz_call hb h.z h.f1,frz_call hb h.z h.f2,frz_call hb h.z h.f3,lt_keep hb _ h.z⟩
structure Rv1 (w:World) (b:Nat) (x0:Value):Prop where
 c0:w.cell? ⟨b,0,none⟩=some (x0)
 z:b<w.heap.size
theorem Rv1.m {w:World} {b:Nat} {x0:Value} (c0:w.cell? ⟨b,0,none⟩=some (x0)):Rv1 w b x0:=⟨c0,World.block_lt_of_cell? _ _ c0⟩
theorem Rv1.c {w w':World} (hb:Below w.heap.size w w') (b:Nat) (x0:Value) (h:Rv1 w b x0:=by exact ⟨by (first|with_reducible assumption|((repeat' first|with_reducible (first|assumption|refine cell_al _ ?_|refine cell_eq _ ?_|refine cell_ne _ ?_ ?_|refine ex_set _ ?_|refine ex_al _ ?_|exact ⟨_,VV⟩)|(intro hh;injection hh with hh1 hh2;omega));done)|go_simp),by first|with_reducible assumption|omega|(simp;omega)|(simp;done)⟩):Rv1 w' b x0:=⟨cell_call hb h.c0,lt_keep hb _ h.z⟩
structure Rv2 (w:World) (b:Nat) (x0 x1:Value):Prop where
 c0:w.cell? ⟨b,0,none⟩=some (x0)
 c1:w.cell? ⟨b,1,none⟩=some (x1)
 z:b<w.heap.size
theorem Rv2.m {w:World} {b:Nat} {x0 x1:Value} (c0:w.cell? ⟨b,0,none⟩=some (x0)) (c1:w.cell? ⟨b,1,none⟩=some (x1)):Rv2 w b x0 x1:=⟨c0,c1,World.block_lt_of_cell? _ _ c0⟩
theorem Rv2.c {w w':World} (hb:Below w.heap.size w w') (b:Nat) (x0 x1:Value) (h:Rv2 w b x0 x1:=by exact ⟨by (first|with_reducible assumption|((repeat' first|with_reducible (first|assumption|refine cell_al _ ?_|refine cell_eq _ ?_|refine cell_ne _ ?_ ?_|refine ex_set _ ?_|refine ex_al _ ?_|exact ⟨_,VV⟩)|(intro hh;injection hh with hh1 hh2;omega));done)|go_simp),by (first|with_reducible assumption|((repeat' first|with_reducible (first|assumption|refine cell_al _ ?_|refine cell_eq _ ?_|refine cell_ne _ ?_ ?_|refine ex_set _ ?_|refine ex_al _ ?_|exact ⟨_,VV⟩)|(intro hh;injection hh with hh1 hh2;omega));done)|go_simp),by first|with_reducible assumption|omega|(simp;omega)|(simp;done)⟩):Rv2 w' b x0 x1:=⟨cell_call hb h.c0,cell_call hb h.c1,lt_keep hb _ h.z⟩
structure Rv3 (w:World) (b:Nat) (x0 x1 x2:Value):Prop where
 c0:w.cell? ⟨b,0,none⟩=some (x0)
 c1:w.cell? ⟨b,1,none⟩=some (x1)
 c2:w.cell? ⟨b,2,none⟩=some (x2)
 z:b<w.heap.size
theorem Rv3.m {w:World} {b:Nat} {x0 x1 x2:Value} (c0:w.cell? ⟨b,0,none⟩=some (x0)) (c1:w.cell? ⟨b,1,none⟩=some (x1)) (c2:w.cell? ⟨b,2,none⟩=some (x2)):Rv3 w b x0 x1 x2:=⟨c0,c1,c2,World.block_lt_of_cell? _ _ c0⟩
theorem Rv3.c {w w':World} (hb:Below w.heap.size w w') (b:Nat) (x0 x1 x2:Value) (h:Rv3 w b x0 x1 x2:=by exact ⟨by (first|with_reducible assumption|((repeat' first|with_reducible (first|assumption|refine cell_al _ ?_|refine cell_eq _ ?_|refine cell_ne _ ?_ ?_|refine ex_set _ ?_|refine ex_al _ ?_|exact ⟨_,VV⟩)|(intro hh;injection hh with hh1 hh2;omega));done)|go_simp),by (first|with_reducible assumption|((repeat' first|with_reducible (first|assumption|refine cell_al _ ?_|refine cell_eq _ ?_|refine cell_ne _ ?_ ?_|refine ex_set _ ?_|refine ex_al _ ?_|exact ⟨_,VV⟩)|(intro hh;injection hh with hh1 hh2;omega));done)|go_simp),by (first|with_reducible assumption|((repeat' first|with_reducible (first|assumption|refine cell_al _ ?_|refine cell_eq _ ?_|refine cell_ne _ ?_ ?_|refine ex_set _ ?_|refine ex_al _ ?_|exact ⟨_,VV⟩)|(intro hh;injection hh with hh1 hh2;omega));done)|go_simp),by first|with_reducible assumption|omega|(simp;omega)|(simp;done)⟩):Rv3 w' b x0 x1 x2:=⟨cell_call hb h.c0,cell_call hb h.c1,cell_call hb h.c2,lt_keep hb _ h.z⟩
structure Rv4 (w:World) (b:Nat) (x0 x1 x2 x3:Value):Prop where
 c0:w.cell? ⟨b,0,none⟩=some (x0)
 c1:w.cell? ⟨b,1,none⟩=some (x1)
 c2:w.cell? ⟨b,2,none⟩=some (x2)
 c3:w.cell? ⟨b,3,none⟩=some (x3)
 z:b<w.heap.size
theorem Rv4.m {w:World} {b:Nat} {x0 x1 x2 x3:Value} (c0:w.cell? ⟨b,0,none⟩=some (x0)) (c1:w.cell? ⟨b,1,none⟩=some (x1)) (c2:w.cell? ⟨b,2,none⟩=some (x2)) (c3:w.cell? ⟨b,3,none⟩=some (x3)):Rv4 w b x0 x1 x2 x3:=⟨c0,c1,c2,c3,World.block_lt_of_cell? _ _ c0⟩
theorem Rv4.c {w w':World} (hb:Below w.heap.size w w') (b:Nat) (x0 x1 x2 x3:Value) (h:Rv4 w b x0 x1 x2 x3:=by exact ⟨by (first|with_reducible assumption|((repeat' first|with_reducible (first|assumption|refine cell_al _ ?_|refine cell_eq _ ?_|refine cell_ne _ ?_ ?_|refine ex_set _ ?_|refine ex_al _ ?_|exact ⟨_,VV⟩)|(intro hh;injection hh with hh1 hh2;omega));done)|go_simp),by (first|with_reducible assumption|((repeat' first|with_reducible (first|assumption|refine cell_al _ ?_|refine cell_eq _ ?_|refine cell_ne _ ?_ ?_|refine ex_set _ ?_|refine ex_al _ ?_|exact ⟨_,VV⟩)|(intro hh;injection hh with hh1 hh2;omega));done)|go_simp),by (first|with_reducible assumption|((repeat' first|with_reducible (first|assumption|refine cell_al _ ?_|refine cell_eq _ ?_|refine cell_ne _ ?_ ?_|refine ex_set _ ?_|refine ex_al _ ?_|exact ⟨_,VV⟩)|(intro hh;injection hh with hh1 hh2;omega));done)|go_simp),by (first|with_reducible assumption|((repeat' first|with_reducible (first|assumption|refine cell_al _ ?_|refine cell_eq _ ?_|refine cell_ne _ ?_ ?_|refine ex_set _ ?_|refine ex_al _ ?_|exact ⟨_,VV⟩)|(intro hh;injection hh with hh1 hh2;omega));done)|go_simp),by first|with_reducible assumption|omega|(simp;omega)|(simp;done)⟩):Rv4 w' b x0 x1 x2 x3:=⟨cell_call hb h.c0,cell_call hb h.c1,cell_call hb h.c2,cell_call hb h.c3,lt_keep hb _ h.z⟩
structure Wv1 (w:World) (b:Nat) (x0:Value):Prop where
 c0:w.cell? ⟨b,0,none⟩=some (x0)
 f0:w.frozen? ⟨b,0,none⟩=false
 z:b<w.heap.size
theorem Wv1.m {w:World} {b:Nat} {x0:Value} (c0:w.cell? ⟨b,0,none⟩=some (x0)) (f0:w.frozen? ⟨b,0,none⟩=false):Wv1 w b x0:=⟨c0,f0,World.block_lt_of_cell? _ _ c0⟩
theorem Wv1.c {w w':World} (hb:Below w.heap.size w w') (b:Nat) (x0:Value) (h:Wv1 w b x0:=by exact ⟨by (first|with_reducible assumption|((repeat' first|with_reducible (first|assumption|refine cell_al _ ?_|refine cell_eq _ ?_|refine cell_ne _ ?_ ?_|refine ex_set _ ?_|refine ex_al _ ?_|exact ⟨_,VV⟩)|(intro hh;injection hh with hh1 hh2;omega));done)|go_simp),by (first|with_reducible assumption|((repeat' first|with_reducible (first|assumption|refine frz_al _ ?_ ?_|refine frz_set _ ?_)|omega|(simp;omega));done)|go_simp),by first|with_reducible assumption|omega|(simp;omega)|(simp;done)⟩):Wv1 w' b x0:=⟨cell_call hb h.c0,frz_call hb h.z h.f0,lt_keep hb _ h.z⟩
structure Wv2 (w:World) (b:Nat) (x0 x1:Value):Prop where
 c0:w.cell? ⟨b,0,none⟩=some (x0)
 c1:w.cell? ⟨b,1,none⟩=some (x1)
 f0:w.frozen? ⟨b,0,none⟩=false
 f1:w.frozen? ⟨b,1,none⟩=false
 z:b<w.heap.size
theorem Wv2.m {w:World} {b:Nat} {x0 x1:Value} (c0:w.cell? ⟨b,0,none⟩=some (x0)) (c1:w.cell? ⟨b,1,none⟩=some (x1)) (f0:w.frozen? ⟨b,0,none⟩=false) (f1:w.frozen? ⟨b,1,none⟩=false):Wv2 w b x0 x1:=⟨c0,c1,f0,f1,World.block_lt_of_cell? _ _ c0⟩
theorem Wv2.c {w w':World} (hb:Below w.heap.size w w') (b:Nat) (x0 x1:Value) (h:Wv2 w b x0 x1:=by exact ⟨by (first|with_reducible assumption|((repeat' first|with_reducible (first|assumption|refine cell_al _ ?_|refine cell_eq _ ?_|refine cell_ne _ ?_ ?_|refine ex_set _ ?_|refine ex_al _ ?_|exact ⟨_,VV⟩)|(intro hh;injection hh with hh1 hh2;omega));done)|go_simp),by (first|with_reducible assumption|((repeat' first|with_reducible (first|assumption|refine cell_al _ ?_|refine cell_eq _ ?_|refine cell_ne _ ?_ ?_|refine ex_set _ ?_|refine ex_al _ ?_|exact ⟨_,VV⟩)|(intro hh;injection hh with hh1 hh2;omega));done)|go_simp),by (first|with_reducible assumption|((repeat' first|with_reducible (first|assumption|refine frz_al _ ?_ ?_|refine frz_set _ ?_)|omega|(simp;omega));done)|go_simp),by (first|with_reducible assumption|((repeat' first|with_reducible (first|assumption|refine frz_al _ ?_ ?_|refine frz_set _ ?_)|omega|(simp;omega));done)|go_simp),by first|with_reducible assumption|omega|(simp;omega)|(simp;done)⟩):Wv2 w' b x0 x1:=⟨cell_call hb h.c0,cell_call hb h.c1,frz_call hb h.z h.f0,frz_call hb h.z h.f1,lt_keep hb _ h.z⟩
structure Wv3 (w:World) (b:Nat) (x0 x1 x2:Value):Prop where
 c0:w.cell? ⟨b,0,none⟩=some (x0)
 c1:w.cell? ⟨b,1,none⟩=some (x1)
 c2:w.cell? ⟨b,2,none⟩=some (x2)
 f0:w.frozen? ⟨b,0,none⟩=false
 f1:w.frozen? ⟨b,1,none⟩=false
 f2:w.frozen? ⟨b,2,none⟩=false
 z:b<w.heap.size
theorem Wv3.m {w:World} {b:Nat} {x0 x1 x2:Value} (c0:w.cell? ⟨b,0,none⟩=some (x0)) (c1:w.cell? ⟨b,1,none⟩=some (x1)) (c2:w.cell? ⟨b,2,none⟩=some (x2)) (f0:w.frozen? ⟨b,0,none⟩=false) (f1:w.frozen? ⟨b,1,none⟩=false) (f2:w.frozen? ⟨b,2,none⟩=false):Wv3 w b x0 x1 x2:=⟨c0,c1,c2,f0,f1,f2,World.block_lt_of_cell? _ _ c0⟩
theorem Wv3.c {w w':World} (hb:Below w.heap.size w w') (b:Nat) (x0 x1 x2:Value) (h:Wv3 w b x0 x1 x2:=by exact ⟨by (first|with_reducible assumption|((repeat' first|with_reducible (first|assumption|refine cell_al _ ?_|refine cell_eq _ ?_|refine cell_ne _ ?_ ?_|refine ex_set _ ?_|refine ex_al _ ?_|exact ⟨_,VV⟩)|(intro hh;injection hh with hh1 hh2;omega));done)|go_simp),by (first|with_reducible assumption|((repeat' first|with_reducible (first|assumption|refine cell_al _ ?_|refine cell_eq _ ?_|refine cell_ne _ ?_ ?_|refine ex_set _ ?_|refine ex_al _ ?_|exact ⟨_,VV⟩)|(intro hh;injection hh with hh1 hh2;omega));done)|go_simp),by (first|with_reducible assumption|((repeat' first|with_reducible (first|assumption|refine cell_al _ ?_|refine cell_eq _ ?_|refine cell_ne _ ?_ ?_|refine ex_set _ ?_|refine ex_al _ ?_|exact ⟨_,VV⟩)|(intro hh;injection hh with hh1 hh2;omega));done)|go_simp),by (first|with_reducible assumption|((repeat' first|with_reducible (first|assumption|refine frz_al _ ?_ ?_|refine frz_set _ ?_)|omega|(simp;omega));done)|go_simp),by (first|with_reducible assumption|((repeat' first|with_reducible (first|assumption|refine frz_al _ ?_ ?_|refine frz_set _ ?_)|omega|(simp;omega));done)|go_simp),by (first|with_reducible assumption|((repeat' first|with_reducible (first|assumption|refine frz_al _ ?_ ?_|refine frz_set _ ?_)|omega|(simp;omega));done)|go_simp),by first|with_reducible assumption|omega|(simp;omega)|(simp;done)⟩):Wv3 w' b x0 x1 x2:=⟨cell_call hb h.c0,cell_call hb h.c1,cell_call hb h.c2,frz_call hb h.z h.f0,frz_call hb h.z h.f1,frz_call hb h.z h.f2,lt_keep hb _ h.z⟩
structure Wv4 (w:World) (b:Nat) (x0 x1 x2 x3:Value):Prop where
 c0:w.cell? ⟨b,0,none⟩=some (x0)
 c1:w.cell? ⟨b,1,none⟩=some (x1)
 c2:w.cell? ⟨b,2,none⟩=some (x2)
 c3:w.cell? ⟨b,3,none⟩=some (x3)
 f0:w.frozen? ⟨b,0,none⟩=false
 f1:w.frozen? ⟨b,1,none⟩=false
 f2:w.frozen? ⟨b,2,none⟩=false
 f3:w.frozen? ⟨b,3,none⟩=false
 z:b<w.heap.size
theorem Wv4.m {w:World} {b:Nat} {x0 x1 x2 x3:Value} (c0:w.cell? ⟨b,0,none⟩=some (x0)) (c1:w.cell? ⟨b,1,none⟩=some (x1)) (c2:w.cell? ⟨b,2,none⟩=some (x2)) (c3:w.cell? ⟨b,3,none⟩=some (x3)) (f0:w.frozen? ⟨b,0,none⟩=false) (f1:w.frozen? ⟨b,1,none⟩=false) (f2:w.frozen? ⟨b,2,none⟩=false) (f3:w.frozen? ⟨b,3,none⟩=false):Wv4 w b x0 x1 x2 x3:=⟨c0,c1,c2,c3,f0,f1,f2,f3,World.block_lt_of_cell? _ _ c0⟩
theorem Wv4.c {w w':World} (hb:Below w.heap.size w w') (b:Nat) (x0 x1 x2 x3:Value) (h:Wv4 w b x0 x1 x2 x3:=by exact ⟨by (first|with_reducible assumption|((repeat' first|with_reducible (first|assumption|refine cell_al _ ?_|refine cell_eq _ ?_|refine cell_ne _ ?_ ?_|refine ex_set _ ?_|refine ex_al _ ?_|exact ⟨_,VV⟩)|(intro hh;injection hh with hh1 hh2;omega));done)|go_simp),by (first|with_reducible assumption|((repeat' first|with_reducible (first|assumption|refine cell_al _ ?_|refine cell_eq _ ?_|refine cell_ne _ ?_ ?_|refine ex_set _ ?_|refine ex_al _ ?_|exact ⟨_,VV⟩)|(intro hh;injection hh with hh1 hh2;omega));done)|go_simp),by (first|with_reducible assumption|((repeat' first|with_reducible (first|assumption|refine cell_al _ ?_|refine cell_eq _ ?_|refine cell_ne _ ?_ ?_|refine ex_set _ ?_|refine ex_al _ ?_|exact ⟨_,VV⟩)|(intro hh;injection hh with hh1 hh2;omega));done)|go_simp),by (first|with_reducible assumption|((repeat' first|with_reducible (first|assumption|refine cell_al _ ?_|refine cell_eq _ ?_|refine cell_ne _ ?_ ?_|refine ex_set _ ?_|refine ex_al _ ?_|exact ⟨_,VV⟩)|(intro hh;injection hh with hh1 hh2;omega));done)|go_simp),by (first|with_reducible assumption|((repeat' first|with_reducible (first|assumption|refine frz_al _ ?_ ?_|refine frz_set _ ?_)|omega|(simp;omega));done)|go_simp),by (first|with_reducible assumption|((repeat' first|with_reducible (first|assumption|refine frz_al _ ?_ ?_|refine frz_set _ ?_)|omega|(simp;omega));done)|go_simp),by (first|with_reducible assumption|((repeat' first|with_reducible (first|assumption|refine frz_al _ ?_ ?_|refine frz_set _ ?_)|omega|(simp;omega));done)|go_simp),by (first|with_reducible assumption|((repeat' first|with_reducible (first|assumption|refine frz_al _ ?_ ?_|refine frz_set _ ?_)|omega|(simp;omega));done)|go_simp),by first|with_reducible assumption|omega|(simp;omega)|(simp;done)⟩):Wv4 w' b x0 x1 x2 x3:=⟨cell_call hb h.c0,cell_call hb h.c1,cell_call hb h.c2,cell_call hb h.c3,frz_call hb h.z h.f0,frz_call hb h.z h.f1,frz_call hb h.z h.f2,frz_call hb h.z h.f3,lt_keep hb _ h.z⟩
theorem lt_c {w w':World} (hb:Below w.heap.size w w') (b:Nat) (h:b<w.heap.size:=by first|with_reducible assumption|omega|(simp;omega)|(simp;done)):b<w'.heap.size:=lt_keep hb _ h
end Go.Proofs.YtobkcnmlmmhpoaaGreatDoor

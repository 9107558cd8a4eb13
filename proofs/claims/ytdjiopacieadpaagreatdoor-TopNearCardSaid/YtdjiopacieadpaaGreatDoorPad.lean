/- TopNear: part Pad: Kit3 Sets MapKit Disk DiskR DiskRd. -/
import Derived.Test.YtdjiopacieadpaaGreatDoorPac
import Derived.Maps.OwnSet
import Derived.Maps.Views
import Derived.WideKeyEntry
set_option linter.unusedVariables false
set_option linter.unusedSimpArgs false
set_option maxRecDepth 8000
set_option maxHeartbeats 8000000
namespace Go.Proofs.YtdjiopacieadpaaGreatDoor
section
open Go.RowKit
theorem heap_lt {w:World}{p:Nat}{o:Obj}(h:w.heap[p]?=some o):p<w.heap.size:=(Array.getElem?_eq_some_iff.1 h).1
theorem Bl.blk {w w':World}{p:Nat}{o:Obj}(hb:Below w.heap.size w w')(h:w.heap[p]?=some o):w'.heap[p]?=some o:=by
 rw [hb.block p (heap_lt h)];exact h
theorem Kp.blk {F:Nat→Prop}{w w':World}{p:Nat}{o:Obj}(hk:Kp F w w')(h:w.heap[p]?=some o)(hF:¬F p):w'.heap[p]?=some o:=
 (hk.block p (heap_lt h) hF).trans h
theorem Kp.of_new {F:Nat→Prop}{w w':World}(h:Below w.heap.size w w'):Kp F w w':=Kp.of_below h (Nat.le_refl _)
theorem Bl.trans {w w1 w2:World}(h1:Below w.heap.size w w1)(h2:Below w1.heap.size w1 w2):Below w.heap.size w w2:=h1.trans (h2.mono h1.size)
theorem new1 (w:World)(o:Obj):(w.alloc o).heap[w.heap.size]?=some o∧(w.alloc o).heap.size = w.heap.size+1∧Below w.heap.size w (w.alloc o):=
 ⟨heap_alloc_new w o,by simp,(Below.refl _ _).alloc (Nat.le_refl _) o⟩
theorem new2 (w:World)(o p:Obj):((w.alloc o).alloc p).heap[w.heap.size]?=some o∧((w.alloc o).alloc p).heap[w.heap.size+1]?=some p∧((w.alloc o).alloc p).heap.size = w.heap.size+2∧Below w.heap.size w ((w.alloc o).alloc p):=by
 have a:=new1 w o;have b:=new1 (w.alloc o) p;rw [a.2.1] at b;exact ⟨by rw [b.2.2.block _ (by omega)];exact a.1,b.1,b.2.1,a.2.2.trans (b.2.2.mono (by omega))⟩
theorem new3 (w:World)(o p q:Obj):(((w.alloc o).alloc p).alloc q).heap[w.heap.size]?=some o∧(((w.alloc o).alloc p).alloc q).heap[w.heap.size+1]?=some p∧(((w.alloc o).alloc p).alloc q).heap[w.heap.size+2]?=some q∧(((w.alloc o).alloc p).alloc q).heap.size = w.heap.size+3∧Below w.heap.size w (((w.alloc o).alloc p).alloc q):=by
 have a:=new2 w o p;have b:=new1 ((w.alloc o).alloc p) q;rw [a.2.2.1] at b;exact ⟨by rw [b.2.2.block _ (by omega)];exact a.1,by rw [b.2.2.block _ (by omega)];exact a.2.1,b.1,b.2.1,a.2.2.2.trans (b.2.2.mono (by omega))⟩
theorem at_new1 {P:Program}{f:FuncId}{args:Array Value}{w:World}{o:Obj}{Q:Ending→World→Prop}(h:∀w0,w0.heap[w.heap.size]?=some o→w0.heap.size=w.heap.size+1→Below w.heap.size w w0→Calls P f args w0 Q):Calls P f args (w.alloc o) Q:=
 h _ (new1 w o).1 (new1 w o).2.1 (new1 w o).2.2
theorem at_new2 {P:Program}{f:FuncId}{args:Array Value}{w:World}{o p:Obj}{Q:Ending→World→Prop}(h:∀w0,w0.heap[w.heap.size]?=some o→w0.heap[w.heap.size+1]?=some p→w0.heap.size=w.heap.size+2→Below w.heap.size w w0→Calls P f args w0 Q):Calls P f args ((w.alloc o).alloc p) Q:=
 h _ (new2 w o p).1 (new2 w o p).2.1 (new2 w o p).2.2.1 (new2 w o p).2.2.2
theorem ret1_i {k:IntKind}{a b:Int}(h:a=b):Ending.returned (.int k a) = .returned (.int k b):=by rw [h]
theorem ret2_i {k:IntKind}{a b:Int}{v:Value}(h:a=b):Ending.returned (.tuple #[.int k a,v]) = .returned (.tuple #[.int k b,v]):=by rw [h]
theorem ret1_b {a b:Bool}(h:a=b):Ending.returned (.bool a) = .returned (.bool b):=by rw [h]
def setVals (w:World)(R:Nat):Nat→List Value→World
 | _,[]=>w
 | i,v::vs=>setVals (w.setCell ⟨R,i,none⟩ v) R (i+1) vs
def setArr (C:Array Value):Nat→List Value→Array Value
 | _,[]=>C
 | i,v::vs=>setArr (C.setIfInBounds i v) (i+1) vs
theorem setVals_heap {t:TypeId}{R:Nat}:∀(vs:List Value) (w:World) (i:Nat) (C:Array Value),w.heap[R]?=some (.cells C t (0,0))→(setVals w R i vs).heap[R]?=some (.cells (setArr C i vs) t (0,0))
 | [],_,_,_,h=>h
 | v::vs,w,i,C,h=>setVals_heap vs _ _ _ (heap_setCell_same w R i C t v h)
theorem setArr_list:∀(vs:List Value) (C:Array Value) (i:Nat),i+vs.length=C.size→(setArr C i vs).toList = C.toList.take i++vs
 | [],C,i,h=>by
  rw [List.append_nil,List.take_of_length_le (by simp at h;simp;omega)];rfl
 | v::vs,C,i,h=>by
  have hi:i<C.toList.length:=by simp at h ⊢;omega
  show (setArr (C.setIfInBounds i v) (i+1) vs).toList = _
  rw [setArr_list vs _ (i+1) (by simp at h ⊢;omega),Array.toList_setIfInBounds,List.take_succ_eq_append_getElem (by simpa using hi),List.getElem_set_self,List.take_set_of_le (Nat.le_refl _),List.append_assoc];rfl
theorem setVals_full {w:World}{t:TypeId}{R:Nat}{C:Array Value}{vs:List Value}(h:w.heap[R]?=some (.cells C t (0,0)))(hl:vs.length=C.size):(setVals w R 0 vs).heap[R]?=some (.cells vs.toArray t (0,0)):=by
 have h1:=setVals_heap vs w 0 C h;have h2:=setArr_list vs C 0 (by omega);rw [h1];congr 2
 apply Array.toList_inj.1;rw [h2];simp
theorem setVals_kp {F:Nat→Prop}{R:Nat}(hR:F R):∀(vs:List Value) (a b:World) (i:Nat),Kp F a b→Kp F a (setVals b R i vs)
 | [],_,_,_,h=>h
 | v::vs,a,b,i,h=>setVals_kp hR vs a _ _ (h.setCell (p:=⟨R,i,none⟩) hR v)
theorem setVals_below {B R:Nat}(hR:B≤R):∀(vs:List Value) (a b:World) (i:Nat),Below B a b→Below B a (setVals b R i vs)
 | [],_,_,_,h=>h
 | v::vs,a,b,i,h=>setVals_below hR vs a _ _ (h.setCell (p:=⟨R,i,none⟩) hR v)
theorem rset1 {w:World}{R:Nat}{a0 x0:Value}{t:TypeId}(h:w.heap[R]?=some (.cells #[a0] t (0,0))):(w.setCell ⟨R,0,none⟩ x0).heap[R]?=some (.cells #[x0] t (0,0)):=setVals_full (vs:=[x0]) h rfl
theorem rset1_kp {F:Nat→Prop}{w0 w:World}{R:Nat}(h:Kp F w0 w)(hR:F R)(x0:Value):Kp F w0 (w.setCell ⟨R,0,none⟩ x0):=setVals_kp hR [x0] _ _ 0 h
theorem rset2 {w:World}{R:Nat}{a0 a1 x0 x1:Value}{t:TypeId}(h:w.heap[R]?=some (.cells #[a0,a1] t (0,0))):((w.setCell ⟨R,0,none⟩ x0).setCell ⟨R,1,none⟩ x1).heap[R]?=some (.cells #[x0,x1] t (0,0)):=setVals_full (vs:=[x0,x1]) h rfl
theorem rset2_kp {F:Nat→Prop}{w0 w:World}{R:Nat}(h:Kp F w0 w)(hR:F R)(x0 x1:Value):Kp F w0 ((w.setCell ⟨R,0,none⟩ x0).setCell ⟨R,1,none⟩ x1):=setVals_kp hR [x0,x1] _ _ 0 h
theorem rset2_below {B:Nat}{w0 w:World}{R:Nat}(h:Below B w0 w)(hR:B≤R)(x0 x1:Value):Below B w0 ((w.setCell ⟨R,0,none⟩ x0).setCell ⟨R,1,none⟩ x1):=setVals_below hR [x0,x1] _ _ 0 h
theorem rset3 {w:World}{R:Nat}{a0 a1 a2 x0 x1 x2:Value}{t:TypeId}(h:w.heap[R]?=some (.cells #[a0,a1,a2] t (0,0))):(((w.setCell ⟨R,0,none⟩ x0).setCell ⟨R,1,none⟩ x1).setCell ⟨R,2,none⟩ x2).heap[R]?=some (.cells #[x0,x1,x2] t (0,0)):=setVals_full (vs:=[x0,x1,x2]) h rfl
theorem rset3_kp {F:Nat→Prop}{w0 w:World}{R:Nat}(h:Kp F w0 w)(hR:F R)(x0 x1 x2:Value):Kp F w0 (((w.setCell ⟨R,0,none⟩ x0).setCell ⟨R,1,none⟩ x1).setCell ⟨R,2,none⟩ x2):=setVals_kp hR [x0,x1,x2] _ _ 0 h
theorem rset3_below {B:Nat}{w0 w:World}{R:Nat}(h:Below B w0 w)(hR:B≤R)(x0 x1 x2:Value):Below B w0 (((w.setCell ⟨R,0,none⟩ x0).setCell ⟨R,1,none⟩ x1).setCell ⟨R,2,none⟩ x2):=setVals_below hR [x0,x1,x2] _ _ 0 h
theorem rset4 {w:World}{R:Nat}{a0 a1 a2 a3 x0 x1 x2 x3:Value}{t:TypeId}(h:w.heap[R]?=some (.cells #[a0,a1,a2,a3] t (0,0))):((((w.setCell ⟨R,0,none⟩ x0).setCell ⟨R,1,none⟩ x1).setCell ⟨R,2,none⟩ x2).setCell ⟨R,3,none⟩ x3).heap[R]?=some (.cells #[x0,x1,x2,x3] t (0,0)):=setVals_full (vs:=[x0,x1,x2,x3]) h rfl
theorem rset4_kp {F:Nat→Prop}{w0 w:World}{R:Nat}(h:Kp F w0 w)(hR:F R)(x0 x1 x2 x3:Value):Kp F w0 ((((w.setCell ⟨R,0,none⟩ x0).setCell ⟨R,1,none⟩ x1).setCell ⟨R,2,none⟩ x2).setCell ⟨R,3,none⟩ x3):=setVals_kp hR [x0,x1,x2,x3] _ _ 0 h
theorem rset4_below {B:Nat}{w0 w:World}{R:Nat}(h:Below B w0 w)(hR:B≤R)(x0 x1 x2 x3:Value):Below B w0 ((((w.setCell ⟨R,0,none⟩ x0).setCell ⟨R,1,none⟩ x1).setCell ⟨R,2,none⟩ x2).setCell ⟨R,3,none⟩ x3):=setVals_below hR [x0,x1,x2,x3] _ _ 0 h
theorem rset5 {w:World}{R:Nat}{a0 a1 a2 a3 a4 x0 x1 x2 x3 x4:Value}{t:TypeId}(h:w.heap[R]?=some (.cells #[a0,a1,a2,a3,a4] t (0,0))):(((((w.setCell ⟨R,0,none⟩ x0).setCell ⟨R,1,none⟩ x1).setCell ⟨R,2,none⟩ x2).setCell ⟨R,3,none⟩ x3).setCell ⟨R,4,none⟩ x4).heap[R]?=some (.cells #[x0,x1,x2,x3,x4] t (0,0)):=setVals_full (vs:=[x0,x1,x2,x3,x4]) h rfl
theorem rset5_kp {F:Nat→Prop}{w0 w:World}{R:Nat}(h:Kp F w0 w)(hR:F R)(x0 x1 x2 x3 x4:Value):Kp F w0 (((((w.setCell ⟨R,0,none⟩ x0).setCell ⟨R,1,none⟩ x1).setCell ⟨R,2,none⟩ x2).setCell ⟨R,3,none⟩ x3).setCell ⟨R,4,none⟩ x4):=setVals_kp hR [x0,x1,x2,x3,x4] _ _ 0 h
theorem rset5_below {B:Nat}{w0 w:World}{R:Nat}(h:Below B w0 w)(hR:B≤R)(x0 x1 x2 x3 x4:Value):Below B w0 (((((w.setCell ⟨R,0,none⟩ x0).setCell ⟨R,1,none⟩ x1).setCell ⟨R,2,none⟩ x2).setCell ⟨R,3,none⟩ x3).setCell ⟨R,4,none⟩ x4):=setVals_below hR [x0,x1,x2,x3,x4] _ _ 0 h
theorem rset6 {w:World}{R:Nat}{a0 a1 a2 a3 a4 a5 x0 x1 x2 x3 x4 x5:Value}{t:TypeId}(h:w.heap[R]?=some (.cells #[a0,a1,a2,a3,a4,a5] t (0,0))):((((((w.setCell ⟨R,0,none⟩ x0).setCell ⟨R,1,none⟩ x1).setCell ⟨R,2,none⟩ x2).setCell ⟨R,3,none⟩ x3).setCell ⟨R,4,none⟩ x4).setCell ⟨R,5,none⟩ x5).heap[R]?=some (.cells #[x0,x1,x2,x3,x4,x5] t (0,0)):=setVals_full (vs:=[x0,x1,x2,x3,x4,x5]) h rfl
theorem rset6_kp {F:Nat→Prop}{w0 w:World}{R:Nat}(h:Kp F w0 w)(hR:F R)(x0 x1 x2 x3 x4 x5:Value):Kp F w0 ((((((w.setCell ⟨R,0,none⟩ x0).setCell ⟨R,1,none⟩ x1).setCell ⟨R,2,none⟩ x2).setCell ⟨R,3,none⟩ x3).setCell ⟨R,4,none⟩ x4).setCell ⟨R,5,none⟩ x5):=setVals_kp hR [x0,x1,x2,x3,x4,x5] _ _ 0 h
theorem rset6_below {B:Nat}{w0 w:World}{R:Nat}(h:Below B w0 w)(hR:B≤R)(x0 x1 x2 x3 x4 x5:Value):Below B w0 ((((((w.setCell ⟨R,0,none⟩ x0).setCell ⟨R,1,none⟩ x1).setCell ⟨R,2,none⟩ x2).setCell ⟨R,3,none⟩ x3).setCell ⟨R,4,none⟩ x4).setCell ⟨R,5,none⟩ x5):=setVals_below hR [x0,x1,x2,x3,x4,x5] _ _ 0 h
theorem rset7 {w:World}{R:Nat}{a0 a1 a2 a3 a4 a5 a6 x0 x1 x2 x3 x4 x5 x6:Value}{t:TypeId}(h:w.heap[R]?=some (.cells #[a0,a1,a2,a3,a4,a5,a6] t (0,0))):(((((((w.setCell ⟨R,0,none⟩ x0).setCell ⟨R,1,none⟩ x1).setCell ⟨R,2,none⟩ x2).setCell ⟨R,3,none⟩ x3).setCell ⟨R,4,none⟩ x4).setCell ⟨R,5,none⟩ x5).setCell ⟨R,6,none⟩ x6).heap[R]?=some (.cells #[x0,x1,x2,x3,x4,x5,x6] t (0,0)):=setVals_full (vs:=[x0,x1,x2,x3,x4,x5,x6]) h rfl
theorem rset7_kp {F:Nat→Prop}{w0 w:World}{R:Nat}(h:Kp F w0 w)(hR:F R)(x0 x1 x2 x3 x4 x5 x6:Value):Kp F w0 (((((((w.setCell ⟨R,0,none⟩ x0).setCell ⟨R,1,none⟩ x1).setCell ⟨R,2,none⟩ x2).setCell ⟨R,3,none⟩ x3).setCell ⟨R,4,none⟩ x4).setCell ⟨R,5,none⟩ x5).setCell ⟨R,6,none⟩ x6):=setVals_kp hR [x0,x1,x2,x3,x4,x5,x6] _ _ 0 h
theorem rset7_below {B:Nat}{w0 w:World}{R:Nat}(h:Below B w0 w)(hR:B≤R)(x0 x1 x2 x3 x4 x5 x6:Value):Below B w0 (((((((w.setCell ⟨R,0,none⟩ x0).setCell ⟨R,1,none⟩ x1).setCell ⟨R,2,none⟩ x2).setCell ⟨R,3,none⟩ x3).setCell ⟨R,4,none⟩ x4).setCell ⟨R,5,none⟩ x5).setCell ⟨R,6,none⟩ x6):=setVals_below hR [x0,x1,x2,x3,x4,x5,x6] _ _ 0 h
theorem cells1 {w:World}{R:Nat}{a0:Value}{t:TypeId}(h:w.heap[R]?=some (.cells #[a0] t (0,0))):w.cell? ⟨R,0,none⟩=some a0∧w.frozen? ⟨R,0,none⟩=false:=⟨(blk h).1 0,(blk h).2.1 0⟩
theorem cells2 {w:World}{R:Nat}{a0 a1:Value}{t:TypeId}(h:w.heap[R]?=some (.cells #[a0,a1] t (0,0))):w.cell? ⟨R,0,none⟩=some a0∧w.frozen? ⟨R,0,none⟩=false∧w.cell? ⟨R,1,none⟩=some a1∧w.frozen? ⟨R,1,none⟩=false:=⟨(blk h).1 0,(blk h).2.1 0,(blk h).1 1,(blk h).2.1 1⟩
theorem cells3 {w:World}{R:Nat}{a0 a1 a2:Value}{t:TypeId}(h:w.heap[R]?=some (.cells #[a0,a1,a2] t (0,0))):w.cell? ⟨R,0,none⟩=some a0∧w.frozen? ⟨R,0,none⟩=false∧w.cell? ⟨R,1,none⟩=some a1∧w.frozen? ⟨R,1,none⟩=false∧w.cell? ⟨R,2,none⟩=some a2∧w.frozen? ⟨R,2,none⟩=false:=⟨(blk h).1 0,(blk h).2.1 0,(blk h).1 1,(blk h).2.1 1,(blk h).1 2,(blk h).2.1 2⟩
theorem cells4 {w:World}{R:Nat}{a0 a1 a2 a3:Value}{t:TypeId}(h:w.heap[R]?=some (.cells #[a0,a1,a2,a3] t (0,0))):w.cell? ⟨R,0,none⟩=some a0∧w.frozen? ⟨R,0,none⟩=false∧w.cell? ⟨R,1,none⟩=some a1∧w.frozen? ⟨R,1,none⟩=false∧w.cell? ⟨R,2,none⟩=some a2∧w.frozen? ⟨R,2,none⟩=false∧w.cell? ⟨R,3,none⟩=some a3∧w.frozen? ⟨R,3,none⟩=false:=⟨(blk h).1 0,(blk h).2.1 0,(blk h).1 1,(blk h).2.1 1,(blk h).1 2,(blk h).2.1 2,(blk h).1 3,(blk h).2.1 3⟩
theorem cells5 {w:World}{R:Nat}{a0 a1 a2 a3 a4:Value}{t:TypeId}(h:w.heap[R]?=some (.cells #[a0,a1,a2,a3,a4] t (0,0))):w.cell? ⟨R,0,none⟩=some a0∧w.frozen? ⟨R,0,none⟩=false∧w.cell? ⟨R,1,none⟩=some a1∧w.frozen? ⟨R,1,none⟩=false∧w.cell? ⟨R,2,none⟩=some a2∧w.frozen? ⟨R,2,none⟩=false∧w.cell? ⟨R,3,none⟩=some a3∧w.frozen? ⟨R,3,none⟩=false∧w.cell? ⟨R,4,none⟩=some a4∧w.frozen? ⟨R,4,none⟩=false:=⟨(blk h).1 0,(blk h).2.1 0,(blk h).1 1,(blk h).2.1 1,(blk h).1 2,(blk h).2.1 2,(blk h).1 3,(blk h).2.1 3,(blk h).1 4,(blk h).2.1 4⟩
theorem cells6 {w:World}{R:Nat}{a0 a1 a2 a3 a4 a5:Value}{t:TypeId}(h:w.heap[R]?=some (.cells #[a0,a1,a2,a3,a4,a5] t (0,0))):w.cell? ⟨R,0,none⟩=some a0∧w.frozen? ⟨R,0,none⟩=false∧w.cell? ⟨R,1,none⟩=some a1∧w.frozen? ⟨R,1,none⟩=false∧w.cell? ⟨R,2,none⟩=some a2∧w.frozen? ⟨R,2,none⟩=false∧w.cell? ⟨R,3,none⟩=some a3∧w.frozen? ⟨R,3,none⟩=false∧w.cell? ⟨R,4,none⟩=some a4∧w.frozen? ⟨R,4,none⟩=false∧w.cell? ⟨R,5,none⟩=some a5∧w.frozen? ⟨R,5,none⟩=false:=⟨(blk h).1 0,(blk h).2.1 0,(blk h).1 1,(blk h).2.1 1,(blk h).1 2,(blk h).2.1 2,(blk h).1 3,(blk h).2.1 3,(blk h).1 4,(blk h).2.1 4,(blk h).1 5,(blk h).2.1 5⟩
theorem cells7 {w:World}{R:Nat}{a0 a1 a2 a3 a4 a5 a6:Value}{t:TypeId}(h:w.heap[R]?=some (.cells #[a0,a1,a2,a3,a4,a5,a6] t (0,0))):w.cell? ⟨R,0,none⟩=some a0∧w.frozen? ⟨R,0,none⟩=false∧w.cell? ⟨R,1,none⟩=some a1∧w.frozen? ⟨R,1,none⟩=false∧w.cell? ⟨R,2,none⟩=some a2∧w.frozen? ⟨R,2,none⟩=false∧w.cell? ⟨R,3,none⟩=some a3∧w.frozen? ⟨R,3,none⟩=false∧w.cell? ⟨R,4,none⟩=some a4∧w.frozen? ⟨R,4,none⟩=false∧w.cell? ⟨R,5,none⟩=some a5∧w.frozen? ⟨R,5,none⟩=false∧w.cell? ⟨R,6,none⟩=some a6∧w.frozen? ⟨R,6,none⟩=false:=⟨(blk h).1 0,(blk h).2.1 0,(blk h).1 1,(blk h).2.1 1,(blk h).1 2,(blk h).2.1 2,(blk h).1 3,(blk h).2.1 3,(blk h).1 4,(blk h).2.1 4,(blk h).1 5,(blk h).2.1 5,(blk h).1 6,(blk h).2.1 6⟩
theorem cells12 {w:World}{R:Nat}{a0 a1 a2 a3 a4 a5 a6 a7 a8 a9 a10 a11:Value}{t:TypeId}(h:w.heap[R]?=some (.cells #[a0,a1,a2,a3,a4,a5,a6,a7,a8,a9,a10,a11] t (0,0))):w.cell? ⟨R,0,none⟩=some a0∧w.frozen? ⟨R,0,none⟩=false∧w.cell? ⟨R,1,none⟩=some a1∧w.frozen? ⟨R,1,none⟩=false∧w.cell? ⟨R,2,none⟩=some a2∧w.frozen? ⟨R,2,none⟩=false∧w.cell? ⟨R,3,none⟩=some a3∧w.frozen? ⟨R,3,none⟩=false∧w.cell? ⟨R,4,none⟩=some a4∧w.frozen? ⟨R,4,none⟩=false∧w.cell? ⟨R,5,none⟩=some a5∧w.frozen? ⟨R,5,none⟩=false∧w.cell? ⟨R,6,none⟩=some a6∧w.frozen? ⟨R,6,none⟩=false∧w.cell? ⟨R,7,none⟩=some a7∧w.frozen? ⟨R,7,none⟩=false∧w.cell? ⟨R,8,none⟩=some a8∧w.frozen? ⟨R,8,none⟩=false∧w.cell? ⟨R,9,none⟩=some a9∧w.frozen? ⟨R,9,none⟩=false∧w.cell? ⟨R,10,none⟩=some a10∧w.frozen? ⟨R,10,none⟩=false∧w.cell? ⟨R,11,none⟩=some a11∧w.frozen? ⟨R,11,none⟩=false:=⟨(blk h).1 0,(blk h).2.1 0,(blk h).1 1,(blk h).2.1 1,(blk h).1 2,(blk h).2.1 2,(blk h).1 3,(blk h).2.1 3,(blk h).1 4,(blk h).2.1 4,(blk h).1 5,(blk h).2.1 5,(blk h).1 6,(blk h).2.1 6,(blk h).1 7,(blk h).2.1 7,(blk h).1 8,(blk h).2.1 8,(blk h).1 9,(blk h).2.1 9,(blk h).1 10,(blk h).2.1 10,(blk h).1 11,(blk h).2.1 11⟩
end
section
open Go.RowKit Go.Maps Go.ChangeMaps Go.MapKept
def hR (v:Value):Option (DataW Value×List MemPlace):=some (.held v,[])
def Mf (w:World)(q:IntKind)(k:TypeId)(b n:Nat)(f:Int→Option Value):Prop:=
 ∃D:DataW Value,w.ownsMap Tryz.prog k hR b n D∧ ∀i,(Lit.int q i).wf = true→has D (.int q i)=(f i).isSome ∧ ∀z,D.atKey (.int q i) (.held z) = .held ((f i).getD z)
theorem Mf.lt {w:World}{q:IntKind}{k:TypeId}{b n:Nat}{f:Int→Option Value}(h:Mf w q k b n f):b<w.heap.size:=by
 obtain ⟨D,h1,_⟩:=h;exact h1.lt
theorem Mf.isMap {w:World}{q:IntKind}{k:TypeId}{b n:Nat}{f:Int→Option Value}(h:Mf w q k b n f):∃es c,w.heap[b]?=some (.map es c):=by
 obtain ⟨D,⟨es,c,h1,_⟩,_⟩:=h;exact ⟨es,c,h1⟩
theorem Mf.stay {w w':World}{q:IntKind}{k:TypeId}{b n:Nat}{f:Int→Option Value}(h:Mf w q k b n f)(hb:w'.heap[b]?=w.heap[b]?):Mf w' q k b n f:=by
 obtain ⟨D,⟨es,c,h1,h2⟩,h3⟩:=h;exact ⟨D,⟨es,c,hb.trans h1,h2⟩,h3⟩
theorem Mf.kp {w w':World}{q:IntKind}{k:TypeId}{b n:Nat}{f:Int→Option Value}{F:Nat→Prop}(h:Mf w q k b n f)(hk:Kp F w w')(hF:¬F b):Mf w' q k b n f:=h.stay (hk.block b h.lt hF)
theorem Mf.below {w w':World}{q:IntKind}{k:TypeId}{b n:Nat}{f:Int→Option Value}{B:Nat}(h:Mf w q k b n f)(hk:Below B w w')(hB:w.heap.size≤B):Mf w' q k b n f:=h.stay (hk.block b (by have:=h.lt;omega))
theorem Mf.set {w:World}{q:IntKind}{k:TypeId}{b n:Nat}{f:Int→Option Value}(h:Mf w q k b n f){p:Addr}(hne:b≠p.block)(v:Value):Mf (w.setCell p v) q k b n f:=h.stay (heap_setCell_other w p b v hne)
theorem Mf.congr {w:World}{q:IntKind}{k:TypeId}{b n:Nat}{f g:Int→Option Value}(h:Mf w q k b n f)(he:∀i,(Lit.int q i).wf = true→f i=g i):Mf w q k b n g:=by
 obtain ⟨D,h1,h2⟩:=h;exact ⟨D,h1,fun i hi=>by rw [←he i hi];exact h2 i hi⟩
theorem Mf.of_block {w:World}{q:IntKind}{k:TypeId}{b c:Nat}(h:w.heap[b]?=some (.map #[] c)):Mf w q k b 0 (fun _=>none):=
 ⟨.map [],⟨#[],c,h,⟨by simp,stamped_empty c,by simp⟩,Nat.le_refl _,rfl⟩,fun i hi=>⟨rfl,fun z=>rfl⟩⟩
theorem isKeyLit_int (q:IntKind)(i:Int):WideAt.IsKeyLit (.int q i):=by
 unfold WideAt.IsKeyLit;trivial
def upd (f:Int→Option Value)(i:Int)(v:Value):Int→Option Value:=fun k=>if k=i then some v else f k
def ers (f:Int→Option Value)(i:Int):Int→Option Value:=fun k=>if k=i then none else f k
theorem Mf.look {w:World}{q:IntKind}{k t e:TypeId}{b n:Nat}{f:Int→Option Value}(h:Mf w q k b n f)(hk:Tryz.prog.underlying k=some (.int q))(ht:Tryz.prog.underlying t=some (.map k e)){z:Value}(hz:∀u:World,(zeroValue e).run Tryz.prog u = .ok z u){i:Int}(hi:(Lit.int q i).wf = true):
 (Instr.lookup t (.map (some b)) (.int q i) true).run Tryz.prog w = .ok (.tuple #[(f i).getD z,.bool (f i).isSome]) w∧(Instr.lookup t (.map (some b)) (.int q i) false).run Tryz.prog w = .ok ((f i).getD z) w:=by
 obtain ⟨D,h1,h2⟩:=h;obtain ⟨e1,e2⟩:=h2 i hi;obtain ⟨v,ps,hrun,hv⟩:=h1.look_ok (int_keyed hk) ht (hz w) (zd:= .held z) (zp:=[]) rfl (keyOf_int_mk hk hi);obtain ⟨v',ps',hrun',hv'⟩:=h1.lookup (int_keyed hk) ht (hz w) (zd:= .held z) (zp:=[]) rfl (keyOf_int_mk hk hi);rw [e2] at hv hv';have h3:v=(f i).getD z:=by simp [hR] at hv;exact hv.1
 have h4:v'=(f i).getD z:=by simp [hR] at hv';exact hv'.1
 rw [hrun,hrun',e1,h3,h4];exact ⟨rfl,rfl⟩
theorem Mf.put_of {D:DataW Value}{q:IntKind}{f:Int→Option Value}{k:TypeId}{w':World}{b n:Nat}(h2:∀i,(Lit.int q i).wf = true→has D (.int q i)=(f i).isSome ∧ ∀z,D.atKey (.int q i) (.held z) = .held ((f i).getD z))(hm:IsMap D){i:Int}(v:Value)(h:w'.ownsMap Tryz.prog k hR b n (D.put (.int q i) (.held v))):Mf w' q k b n (upd f i v):=by
 refine ⟨_,h,fun j hj=>?_⟩;unfold upd;by_cases e:j=i
 ·subst e;rw [if_pos rfl];exact ⟨has_put_same hm (isKeyLit_int q j) _,fun z=>atKey_put_same hm (isKeyLit_int q j) _ _⟩
 ·rw [if_neg e];have hne:(Lit.int q j)≠ .int q i:=fun e9=>e (by injection e9)
  exact ⟨by rw [has_put_other hne];exact (h2 j hj).1,fun z=>by rw [atKey_put_other hne];exact (h2 j hj).2 z⟩
theorem Mf.update {w:World}{q:IntKind}{k t e:TypeId}{b n:Nat}{f:Int→Option Value}(h:Mf w q k b n f)(hk:Tryz.prog.underlying k=some (.int q))(ht:Tryz.prog.underlying t=some (.map k e))(hn:n<maxLen){i:Int}(hi:(Lit.int q i).wf = true)(v:Value):
 ∃w',(Instr.mapUpdate t (.map (some b)) (.int q i) v).run Tryz.prog w = .ok () w'∧Mf w' q k b (n+1) (upd f i v)∧w.mapTurned w' b:=by
 obtain ⟨D,h1,h2⟩:=h;obtain ⟨w',r1,r2,r3⟩:=h1.store (int_keyed hk) ht hn (val:=v) (d:= .held v) (ps:=[]) (keyOf_int_mk hk hi) rfl;exact ⟨w',r1,Mf.put_of h2 h1.isMap v r2,r3⟩
theorem Mf.delete {w:World}{q:IntKind}{k t e:TypeId}{b n:Nat}{f:Int→Option Value}(h:Mf w q k b n f)(hk:Tryz.prog.underlying k=some (.int q))(ht:Tryz.prog.underlying t=some (.map k e)){i:Int}(hi:(Lit.int q i).wf = true)(ty:TypeId):
 ∃w',(Builtin.delete_ #[t,k] ty #[.map (some b),.int q i]).run Tryz.prog w = .ok (.tuple #[]) w'∧Mf w' q k b n (ers f i)∧w.mapTurned w' b:=by
 obtain ⟨D,h1,h2⟩:=h;obtain ⟨w',r1,r2,r3⟩:=h1.drop (int_keyed hk) ht (keyOf_int_mk hk hi) ty;refine ⟨w',r1,⟨_,r2,fun j hj=>?_⟩,r3⟩;unfold ers;by_cases e:j=i
 ·subst e;rw [if_pos rfl];exact ⟨has_del_same,fun z=>atKey_del_same _⟩
 ·rw [if_neg e];have hne:(Lit.int q j)≠ .int q i:=fun e9=>e (by injection e9)
  exact ⟨by rw [has_del_other hne];exact (h2 j hj).1,fun z=>by rw [atKey_del_other hne];exact (h2 j hj).2 z⟩
theorem turned_kp {w w':World}{b:Nat}(h:w.mapTurned w' b):Kp (· = b) w w':=by
 have hg:=h.grown;exact ⟨hg.os,hg.tape,hg.output,hg.size,fun i hi hn=>hg.block i hi (fun e=>hn (by injection e))⟩
theorem setBlock_kp {w:World}{b:Nat}{es:Array MapEntry}{c:Nat}(o':Obj)(hb:w.heap[b]?=some (.map es c)):Kp (· = b) w (setBlock w b o'):=
 ⟨rfl,rfl,rfl,by simp [setBlock],fun i _ hn=>heap_setBlock_other hb _ (fun e=>hn (by rw [e]))⟩
theorem Mf.clear {w:World}{q:IntKind}{k t e:TypeId}{b n:Nat}{f:Int→Option Value}(h:Mf w q k b n f)(ht:Tryz.prog.underlying t=some (.map k e))(ty:TypeId):
 ∃w',(Builtin.clear_ #[t] ty #[.map (some b)]).run Tryz.prog w = .ok (.tuple #[]) w'∧Mf w' q k b 0 (fun _=>none)∧Kp (· = b) w w':=by
 obtain ⟨es,c,h1⟩:=h.isMap;refine ⟨setBlock w b (.map #[] c),?_,Mf.of_block (heap_setBlock_same h1 _),setBlock_kp _ h1⟩;simp [Builtin.clear_,run_underlying ht,MapKept.run_getObj_map h1,MapKept.run_setObj_map _ h1,Result.andThen,setBlock]
end
section
open Go.RowKit
theorem may_ok (n z:Nat)(w:World)(h0:1≤n)(h1:n≤96)(hz:sizedB z=true):Calls Tryz.prog 87 #[.int .i64 n,.int .i64 z] w fun e w'=>e = .returned (.bool true)∧w=w':=by
 have hz2:=sizedB_le hz;have hb:bits .and .i64 (z:Int) ((z:Int)-1)=0:=by simp only [sizedB,Bool.and_eq_true,beq_iff_eq] at hz;exact hz.2.2
 have hnz:n*z≤96*4096:=Nat.mul_le_mul h1 (by omega);have hnz2:(n:Int)*(z:Int)=((n*z:Nat):Int):=by simp
 obtain ⟨m,hm⟩:∃m,n*z=m:=⟨_,rfl⟩;rw [hm] at hnz hnz2;have hmw:IntKind.i64.wrap ((n:Int)*(z:Int))=(m:Int):=by rw [hnz2,IntKind.wrap_i64];omega
 have hm2:(m:Int)≤67108864:=by omega
 have hd:decide ((m:Int)≤67108864)=true:=by simpa using hm2
 clear hz hnz2 hm;go_enter Tryz.func87,Tryz.ntmps87;go_wp2;go_ret;exact ⟨rfl,rfl⟩
theorem may_no (n z:Int)(w:World)(h:n<1∨(1≤n∧n≤96∧sizedB z=false)):Calls Tryz.prog 87 #[.int .i64 n,.int .i64 z] w fun e w'=>e = .returned (.bool false)∧w=w':=by
 rcases h with h | ⟨h1,h2,hz⟩
 ·have h':¬1≤n:=by omega
  go_enter Tryz.func87,Tryz.ntmps87;go_wp2;go_ret;exact ⟨rfl,rfl⟩
 ·by_cases a:64≤z
  ·by_cases b:z≤4096
   ·have hb:(bits .and .i64 z (z-1) == 0)=false:=by simpa [sizedB,a,b] using hz
    have hb2:¬bits .and .i64 z (z-1)=0:=by simpa using hb
    clear hz;go_enter Tryz.func87,Tryz.ntmps87;go_wp2;go_ret;exact ⟨rfl,rfl⟩
   ·clear hz;go_enter Tryz.func87,Tryz.ntmps87;go_wp2;go_ret;exact ⟨rfl,rfl⟩
  ·clear hz;go_enter Tryz.func87,Tryz.ntmps87;go_wp2;go_ret;exact ⟨rfl,rfl⟩
structure Dst where
 dur:List (List Nat)
 row:List (Nat×List Nat)
def cur (s:Dst):List (List Nat):=s.row.foldl (fun l e=>l.set e.1 e.2) s.dur
def secV (z b:Nat):Value:= .slice (some ⟨b,0,none⟩) z z
def lastV (ents:List (Nat×Value×List Nat)):Int→Option Value:=ents.foldl (fun f e=>upd f (e.1:Int) e.2.1) (fun _=>none)
theorem lastV_snoc (l:List (Nat×Value×List Nat))(e:Nat×Value×List Nat):lastV (l++[e])=upd (lastV l) (e.1:Int) e.2.1:=by unfold lastV;rw [List.foldl_append];rfl
def entC (e:Nat×Value×List Nat):List Value:=[.int .i64 e.1,e.2.1]
structure DkP (w:World)(d z:Nat)(s:Dst)(F:Nat→Prop)(secs:List Nat)(dv rv:Value)(m:Nat)(ents:List (Nat×Value×List Nat)):Prop where
 hd:w.heap[d]?=some (Obj.cells #[.int .i64 z,dv,rv,.map (some m)] 140 (0,0))
 hdv:w.ownsRow 0 34 1 dv secs.length (secs.map (secV z))
 hlen:secs.length=s.dur.length
 hsec:∀(i b:Nat) (l:List Nat),secs[i]?=some b→s.dur[i]?=some l→w.heap[b]?=some (Obj.cells (Lb l).toArray 5 (0,0))∧l.length=z∧Bs l
 hnd:secs.Nodup
 hrow:s.row=ents.map (fun e=>(e.1,e.2.2))
 hrv:w.ownsRow 0 190 2 rv ents.length (ents.flatMap entC)
 hent:∀e∈ents,w.ownsRow 0 5 1 e.2.1 z (Lb e.2.2)∧e.2.2.length=z∧Bs e.2.2∧e.1<secs.length∧(∃b,e.2.1.ownBlock=some b∧b ∉ secs∧F b)
 hmp:Mf w .i64 3 m ents.length (lastV ents)
 hF:F d∧F m∧(∀b∈secs,F b)∧(∀b,dv.ownBlock=some b→F b)∧(∀b,rv.ownBlock=some b→F b)
 hz:64≤z∧z≤4096
 hlt:∀b,F b→b<w.heap.size
def Dk (w:World)(d z:Nat)(s:Dst)(F:Nat→Prop):Prop:= ∃secs dv rv m ents,DkP w d z s F secs dv rv m ents
theorem own_ty {w:World}{base n size:Nat}{e:TypeId}{v:Value}{xs:List Value}(h:w.ownsRow base e size v n xs){b:Nat}(hb:v.ownBlock=some b):∃C,w.heap[b]?=some (Obj.cells C e (0,0)):=by
 rcases h.2 with ⟨e1,_⟩ | ⟨g,cap,cur,rfl,hg0,hg,_⟩
 ·subst e1;cases hb
 ·injection hb with hb;subst hb;exact ⟨_,hg⟩
theorem ty_ne {w:World}{a b:Nat}{C D:Array Value}{t u:TypeId}(ha:w.heap[a]?=some (Obj.cells C t (0,0)))(hb:w.heap[b]?=some (Obj.cells D u (0,0)))(h:t≠u):a≠b:=by
 intro e;subst e;rw [ha] at hb;injection hb with hb;injection hb with _ h2;exact h h2
theorem map_ne {w:World}{a b:Nat}{C:Array Value}{t:TypeId}{es:Array MapEntry}{c:Nat}(ha:w.heap[a]?=some (Obj.cells C t (0,0)))(hb:w.heap[b]?=some (.map es c)):a≠b:=by
 intro e;subst e;rw [ha] at hb;injection hb with hb;cases hb
theorem DkP.stay {w w':World}{d z:Nat}{s:Dst}{F:Nat→Prop}{secs:List Nat}{dv rv:Value}{m:Nat}{ents:List (Nat×Value×List Nat)}(h:DkP w d z s F secs dv rv m ents){G:Nat→Prop}(hk:Kp G w w')(hG:∀b,F b→ ¬G b):DkP w' d z s F secs dv rv m ents:=by
 obtain ⟨f1,f2,f3,f4,f5⟩:=h.hF;refine ⟨hk.blk h.hd (hG d f1),own_kp h.hdv hk (fun b hb=>hG b (f4 b hb)),h.hlen,?_,h.hnd,h.hrow,own_kp h.hrv hk (fun b hb=>hG b (f5 b hb)),?_,h.hmp.kp hk (hG m f2),h.hF,h.hz,fun b hb=>Nat.lt_of_lt_of_le (h.hlt b hb) hk.size⟩
 ·intro i b l hi hl;obtain ⟨a1,a2⟩:=h.hsec i b l hi hl;exact ⟨hk.blk a1 (hG b (f3 b (List.mem_of_getElem? hi))),a2⟩
 ·intro e he;obtain ⟨a1,a2,a3,a4,b,a5,a6,a7⟩:=h.hent e he;exact ⟨own_kp a1 hk (fun b' hb'=>by rw [a5] at hb';injection hb' with hb';subst hb';exact hG _ a7),a2,a3,a4,b,a5,a6,a7⟩
theorem Dk.stay {w w':World}{d z:Nat}{s:Dst}{F:Nat→Prop}(h:Dk w d z s F){G:Nat→Prop}(hk:Kp G w w')(hG:∀b,F b→ ¬G b):Dk w' d z s F:=by
 obtain ⟨secs,dv,rv,m,ents,h⟩:=h;exact ⟨secs,dv,rv,m,ents,h.stay hk hG⟩
theorem Dk.new {w w':World}{d z:Nat}{s:Dst}{F:Nat→Prop}(h:Dk w d z s F)(hb:Below w.heap.size w w'):Dk w' d z s F:=h.stay (G:=nob) (Kp.of_new hb) (fun _ _ h=>h)
theorem Dk.mono {w:World}{d z:Nat}{s:Dst}{F G:Nat→Prop}(h:Dk w d z s F)(hG:∀b,F b→G b)(hl:∀b,G b→b<w.heap.size):Dk w d z s G:=by
 obtain ⟨secs,dv,rv,m,ents,h⟩:=h;obtain ⟨f1,f2,f3,f4,f5⟩:=h.hF;refine ⟨secs,dv,rv,m,ents,h.hd,h.hdv,h.hlen,h.hsec,h.hnd,h.hrow,h.hrv,fun e he=>?_,h.hmp,⟨hG _ f1,hG _ f2,fun b hb=>hG _ (f3 b hb),fun b hb=>hG _ (f4 b hb),fun b hb=>hG _ (f5 b hb)⟩,h.hz,hl⟩;obtain ⟨a1,a2,a3,a4,b,a5,a6,a7⟩:=h.hent e he;exact ⟨a1,a2,a3,a4,b,a5,a6,hG _ a7⟩
theorem Dk.flt {w:World}{d z:Nat}{s:Dst}{F:Nat→Prop}(h:Dk w d z s F):∀b,F b→b<w.heap.size:=by obtain ⟨secs,dv,rv,m,ents,h⟩:=h;exact h.hlt
theorem DkP.sec {w:World}{d z:Nat}{s:Dst}{F:Nat→Prop}{secs:List Nat}{dv rv:Value}{m:Nat}{ents:List (Nat×Value×List Nat)}(h:DkP w d z s F secs dv rv m ents){b:Nat}(hb:b∈secs):∃C,w.heap[b]?=some (Obj.cells C 5 (0,0)):=by
 obtain ⟨i,hi⟩:=List.getElem?_of_mem hb;have hil:i<s.dur.length:=by rw [←h.hlen];exact (List.getElem?_eq_some_iff.1 hi).1
 exact ⟨_,(h.hsec i b _ hi (List.getElem?_eq_getElem hil)).1⟩
theorem Dk.hz {w:World}{d z:Nat}{s:Dst}{F:Nat→Prop}(h:Dk w d z s F):64≤z∧z≤4096:=by obtain ⟨secs,dv,rv,m,ents,h⟩:=h;exact h.hz
theorem Dk.at01 {w:World}{d z:Nat}{s:Dst}{F:Nat→Prop}(h:Dk w d z s F):∃(a:Option Addr) (c:Nat),w.cell? ⟨d,0,none⟩=some (.int .i64 z)∧w.cell? ⟨d,1,none⟩=some (.slice a s.dur.length c):=by
 obtain ⟨secs,dv,rv,m,ents,h⟩:=h;obtain ⟨oa,c,e1,_,_⟩:=own_form h.hdv;have hd:=h.hd;rw [e1,h.hlen] at hd;exact ⟨oa,c,(blk hd).1 0,(blk hd).1 1⟩
theorem dthere_any (d z:Nat)(s:Dst)(F:Nat→Prop)(w:World)(h:Dk w d z s F):Calls Tryz.prog 99 #[.pointer (some ⟨d,0,none⟩)] w fun e w'=>e = .returned (.bool true)∧w=w':=by
 obtain ⟨a,c,h0,_⟩:=h.at01;have hz:=h.hz;have hp:decide (0<z)=true:=by simp;omega
 clear h;go_enter Tryz.func99,Tryz.ntmps99;go_wp2;go_ret;exact ⟨rfl,rfl⟩
theorem dsectors_any (d z:Nat)(s:Dst)(F:Nat→Prop)(w:World)(h:Dk w d z s F):Calls Tryz.prog 88 #[.pointer (some ⟨d,0,none⟩)] w fun e w'=>e = .returned (.int .i64 s.dur.length)∧w=w':=by
 have H:=hid h;obtain ⟨a,c,h0,h1⟩:=h.at01;clear h;go_enter Tryz.func88,Tryz.ntmps88;go_wp2_with fail;refine (dthere_any d z s F _ H.out).mono ?_;rintro e w' ⟨rfl,rfl⟩;go_wp2_with fail;go_ret;exact ⟨rfl,rfl⟩
theorem dsize_any (d z:Nat)(s:Dst)(F:Nat→Prop)(w:World)(h:Dk w d z s F):Calls Tryz.prog 148 #[.pointer (some ⟨d,0,none⟩)] w fun e w'=>e = .returned (.int .i64 z)∧w=w':=by
 have H:=hid h;obtain ⟨a,c,h0,h1⟩:=h.at01;clear h;go_enter Tryz.func148,Tryz.ntmps148;go_wp2_with fail;refine (dthere_any d z s F _ H.out).mono ?_;rintro e w' ⟨rfl,rfl⟩;go_wp2_with fail;go_ret;exact ⟨rfl,rfl⟩
theorem dnone_ok (d z:Nat)(s:Dst)(F:Nat→Prop)(i:Nat)(w:World)(h:Dk w d z s F)(hi:i<s.dur.length):Calls Tryz.prog 198 #[.pointer (some ⟨d,0,none⟩),.int .i64 i] w fun e w'=>e = .returned (.int .i64 0)∧w=w':=by
 have H:=hid h;obtain ⟨a,c,h0,h1⟩:=h.at01;have hlt:¬(s.dur.length:Int)≤(i:Int):=by omega
 clear h;go_enter Tryz.func198,Tryz.ntmps198;go_wp2_with fail;refine (dthere_any d z s F _ H.out).mono ?_;rintro e w' ⟨rfl,rfl⟩;go_wp2_with fail;go_ret;exact ⟨rfl,rfl⟩
theorem bclone_any (v:Value)(l:List Nat)(w:World)(hv:Sl w v (Lb l))(h0:0<l.length)(hl:l.length≤10000000):
 Calls Tryz.prog 186 #[v] w fun e w'=> ∃v',e = .returned v'∧w'.ownsRow w.heap.size 5 1 v' l.length (Lb l)∧Below w.heap.size w w':=by
 obtain ⟨a,c,rfl,hc,hcm⟩:=Sl_partsB hv;obtain ⟨i0,hi,hz0,hz1,hz2⟩:=info_parts info5;have HI:=hid hi;have HZ:=hid hz2;have HV:=hid hv;clear hi hz2 hv;have hnil:=fun w=>eql_nil34 a l.length c w
 cases a with
 | none=>
  obtain ⟨e1,e2,e3⟩:=Sl_none HV.out;omega
 | some a=>
  have HNW:=hid (Sl_news (Sl_alloc HV.out (.cells #[] 5)));have HLL:=hid (Lb_len l);go_enter Tryz.func186,Tryz.ntmps186;go_wp2_with (at_builtin;refine wpList_append_own _ rfl _ _ 34 rfl w.heap.size 5 i0 (.int .u8 0) 1 1 Tryz.underlying34 HI.out hz0 hz1 HZ.out rfl (by decide) _ 0 [] rfl (World.ownsRow_made _ _ _ (Nat.le_refl _) (by unfold maxLen;omega) rfl) a l.length c (Lb l) rfl (by rw [HLL.out];omega) HNW.out (Lb_one l) (by unfold maxLen;omega) (by omega) (by simp) ?_;intro v4 w4 hown hgrow _);go_ret;refine ⟨_,rfl,?_,((Below.refl w.heap.size w).alloc (Nat.le_refl _) _).grown hgrow (by simp) (fun k hk=>by cases hk;exact Nat.le_refl _)⟩;rw [Nat.zero_add] at hown;simpa using hown
theorem lastV_at (i:Nat):∀(ents:List (Nat×Value×List Nat)) (f:Int→Option Value) (l:List (List Nat)),i<l.length→
 (∃e∈ents,e.1=i∧(ents.foldl (fun f e=>upd f (e.1:Int) e.2.1) f) (i:Int)=some e.2.1∧((ents.map fun e=>(e.1,e.2.2)).foldl (fun l (e:Nat×List Nat)=>l.set e.1 e.2) l)[i]?=some e.2.2)∨
 ((ents.foldl (fun f e=>upd f (e.1:Int) e.2.1) f) (i:Int)=f (i:Int)∧((ents.map fun e=>(e.1,e.2.2)).foldl (fun l (e:Nat×List Nat)=>l.set e.1 e.2) l)[i]?=l[i]?)
 | [],f,l,_=>Or.inr ⟨rfl,rfl⟩
 | e::r,f,l,hi=>by
  rcases lastV_at i r (upd f (e.1:Int) e.2.1) (l.set e.1 e.2.2) (by simpa using hi) with ⟨e',h1,h2,h3,h4⟩ | ⟨h3,h4⟩
  ·exact Or.inl ⟨e',List.mem_cons_of_mem _ h1,h2,h3,h4⟩
  ·by_cases he:e.1=i
   ·refine Or.inl ⟨e,List.mem_cons_self ..,he,?_,?_⟩
    ·rw [List.foldl_cons,h3];unfold upd;rw [if_pos (by rw [he])]
    ·rw [List.map_cons,List.foldl_cons,h4,he,List.getElem?_set,if_pos rfl,if_pos hi]
   ·refine Or.inr ⟨?_,?_⟩
    ·rw [List.foldl_cons,h3];unfold upd;rw [if_neg (by omega)]
    ·rw [List.map_cons,List.foldl_cons,h4,List.getElem?_set,if_neg he]
theorem cur_len (s:Dst):(cur s).length = s.dur.length:=by
 unfold cur;generalize s.dur=l;induction s.row generalizing l with
 | nil=>rfl
 | cons e r ih=>rw [List.foldl_cons,ih,List.length_set]
theorem zero34 (u:World):(zeroValue 34).run Tryz.prog u = .ok (.slice none 0 0) u:=by kernel_rfl
theorem wf_nat {i:Nat}(h:i≤1000000):(Lit.int .i64 i).wf = true:=WalkArith.wf_i64 (by omega)
theorem own_cell {w:World}{base n c:Nat}{e:TypeId}{a:Option Addr}{xs:List Value}(h:w.ownsRow base e 1 (.slice a n c) n xs){i:Nat}{u:Value}(hi:xs[i]?=some u):∃g,a=some ⟨g,0,none⟩∧w.cell? ⟨g,i,none⟩=some u∧w.frozen? ⟨g,i,none⟩=false∧g<w.heap.size:=by
 have hl:xs.length=n:=by have:=h.1;omega
 have hin:=(List.getElem?_eq_some_iff.1 hi).1;rcases h.2 with ⟨_,h0⟩ | ⟨g,cap,cur,e1,_,hg,_⟩
 ·omega
 ·injection e1 with e1;subst e1;have:=h.cells (g:=g) rfl i u hi;rw [addr_add,Nat.zero_add] at this;exact ⟨g,rfl,this,frozen_of_row w g i cur e hg,heap_lt hg⟩
theorem dread_any (d z:Nat)(s:Dst)(F:Nat→Prop)(i:Nat)(w:World)(h:Dk w d z s F)(hi:i<s.dur.length)(hn:s.dur.length≤96):
 Calls Tryz.prog 168 #[.pointer (some ⟨d,0,none⟩),.int .i64 i] w fun e w'=> ∃v' l,e = .returned (.tuple #[v',.int .i64 0])∧(cur s)[i]?=some l∧l.length=z∧Bs l∧w'.ownsRow w.heap.size 5 1 v' z (Lb l)∧Below w.heap.size w w':=by
 have H:=hid h;have hz:=h.hz;obtain ⟨secs,dv,rv,m,ents,hP⟩:=h;have HP:=hid hP;obtain ⟨oa,c,e1,_,_⟩:=own_form hP.hdv;subst e1;have hil:i<secs.length:=by rw [hP.hlen];exact hi
 have hca:=cells4 hP.hd;obtain ⟨hl1,_⟩:=hP.hmp.look (t:=138) (e:=34) Tryz.underlying3 Tryz.underlying138 zero34 (wf_nat (i:=i) (by omega));have hcase:=lastV_at i ents (fun _=>none) s.dur hi;have hsl:(secs.map (secV z))[i]?=some (secV z secs[i]):=by rw [List.getElem?_map,List.getElem?_eq_getElem hil];rfl
 obtain ⟨g,rfl,hgc,_,_⟩:=own_cell hP.hdv hsl;have hiI:(i:Int)<(secs.length:Int):=by omega
 have hdl:s.dur[i]?=some s.dur[i]:=List.getElem?_eq_getElem hi;obtain ⟨hbk,hlz,hbs⟩:=hP.hsec i secs[i] _ (List.getElem?_eq_getElem hil) hdl;have hcur:cur s=(ents.map fun e=>(e.1,e.2.2)).foldl (fun l (e:Nat×List Nat)=>l.set e.1 e.2) s.dur:=by unfold cur;rw [hP.hrow]
 rw [←hcur] at hcase;have hlv:ents.foldl (fun f e=>upd f (e.1:Int) e.2.1) (fun _=>none)=lastV ents:=rfl;rw [hlv] at hcase;have hent:=hP.hent;have HENT:=hid hent;have HCUR:=hid hcur;obtain ⟨B,hB⟩:∃B,secs[i]=B:=⟨_,rfl⟩;rw [hB] at hgc hbk;unfold secV at hgc;obtain ⟨L,hL⟩:∃L,s.dur[i]=L:=⟨_,rfl⟩;rw [hL] at hdl hbk hlz hbs;have hslD:Sl w (.slice (some ⟨B,0,none⟩) z z) (Lb L):=by
  refine ⟨some ⟨B,0,none⟩,z,by rw [Lb_len,hlz],by rw [Lb_len,hlz];exact Nat.le_refl _,by unfold maxLen;omega,Or.inr ⟨B,0,rfl,heap_lt hbk,fun j u hj=>?_⟩⟩;rw [cell_of_row w B (0+j) _ _ _ hbk,Nat.zero_add];simpa using hj
 have HSD:=hid hslD;have HBS:=hid hbs;have HLZ:=hid hlz;have HDL:=hid hdl;have HL1:=hid hl1;have HHI:=hid hi;have hgc':=hid hgc;clear hP hcur hent hlv hB hL hsl hdl hbk hbs hlz hslD hl1 hgc;rcases hcase with ⟨e,hm,hat,hv,hc9⟩ | ⟨hv,hc9⟩
 ·obtain ⟨s1,s2,s3,s4,b,s5,s6,s7⟩:=HENT.out e hm;have s1:=Sl_of_own s1;have HS1:=hid s1;have HS2:=hid s2;have HS3:=hid s3;have HC9:=hid hc9;have hl1:=HL1.out;rw [hv] at hl1;simp only [Option.getD_some,Option.isSome_some] at hl1;obtain ⟨a0,c0,e9,_,_⟩:=Sl_partsB s1;rw [e9] at hl1;have HE9:=hid e9;have HL:=hid hl1;clear hm hat hv hc9 s1 s2 s3 s4 s5 s6 s7 e9 hl1;go_enter Tryz.func168,Tryz.ntmps168;go_wp2_with fail;refine (dnone_ok d z s F i _ H.out HHI.out).mono ?_;rintro o w' ⟨rfl,rfl⟩;have hl1:=HL.out;go_wp2_with fail;refine (bclone_any _ e.2.2 _ (by rw [←HE9.out];exact HS1.out) (by rw [HS2.out];omega) (by rw [HS2.out];omega)).mono ?_;rintro o w1 ⟨v1,rfl,ho,hb⟩;rw [HS2.out] at ho;have HO:=hid ho;have HB:=hid hb;clear ho hb;go_wp2_with fail;go_ret2;exact ⟨_,e.2.2,rfl,HC9.out,HS2.out,HS3.out,HO.out,HB.out⟩
 ·have hl1:=HL1.out;rw [hv] at hl1;simp only [Option.getD_none,Option.isSome_none] at hl1;have HC9:=hid hc9;have HL:=hid hl1;clear hv hc9 hl1;go_enter Tryz.func168,Tryz.ntmps168;go_wp2_with fail;refine (dnone_ok d z s F i _ H.out HHI.out).mono ?_;rintro o w' ⟨rfl,rfl⟩;have hl1:=HL.out;have hgc:=hgc'.out;go_wp2_with fail;refine (bclone_any _ L _ HSD.out (by rw [HLZ.out];omega) (by rw [HLZ.out];omega)).mono ?_;rintro o w1 ⟨v1,rfl,ho,hb⟩;rw [HLZ.out] at ho;have HO:=hid ho;have HB:=hid hb;clear ho hb;go_wp2_with fail;go_ret2;exact ⟨_,L,rfl,by rw [HC9.out];exact HDL.out,HLZ.out,HBS.out,HO.out,HB.out⟩
end
end Go.Proofs.YtdjiopacieadpaaGreatDoor

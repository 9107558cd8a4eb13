/- TopNear: part Pam: BkA BkB BkC BkD BkE BkF BkG. -/
import Derived.Test.YtdjiopacieadpaaGreatDoorPak
import Derived.Test.YtdjiopacieadpaaGreatDoorPal
import Derived.StillTailTactics
set_option linter.unusedVariables false
set_option linter.unusedSimpArgs false
set_option maxRecDepth 8000
set_option maxHeartbeats 8000000
namespace Go.Proofs.YtdjiopacieadpaaGreatDoor
section
open Go.RowKit BookPlain
def boC (x:Bo):List Value:=[.int .u32 x.1,.int .i64 x.2.1,.int .i64 x.2.2]
theorem boC_len (L:List Bo):(L.flatMap boC).length = L.length*3:=by
 induction L with
 | nil=>rfl
 | cons s L ih=>simp only [List.flatMap_cons,List.length_append,List.length_cons,ih];simp [boC];omega
theorem boC_get:∀(L:List Bo) (i j:Nat),j<3→(L.flatMap boC)[i*3+j]?=(L[i]?).bind (fun s=>(boC s)[j]?)
 | [],i,j,hj=>by simp
 | s::L,0,j,hj=>by
  simp only [List.flatMap_cons,Nat.zero_mul,Nat.zero_add,List.getElem?_cons_zero,Option.bind_some];rw [List.getElem?_append_left (by simp [boC];omega)]
 | s::L,i+1,j,hj=>by
  simp only [List.flatMap_cons,List.getElem?_cons_succ];rw [List.getElem?_append_right (by simp [boC];omega),show (i+1)*3+j-(boC s).length = i*3+j by simp [boC];omega];exact boC_get L i j hj
theorem boC_set:∀(L:List Bo) (i:Nat) (x:Bo),i<L.length→((L.set i x).flatMap boC)=(((L.flatMap boC).set (i*3) (.int .u32 x.1)).set (i*3+1) (.int .i64 x.2.1)).set (i*3+2) (.int .i64 x.2.2)
 | [],i,x,h=>by simp at h
 | s::L,0,x,h=>by
  simp only [List.set_cons_zero,List.flatMap_cons,Nat.zero_mul,Nat.zero_add];simp [boC]
 | s::L,i+1,x,h=>by
  simp only [List.set_cons_succ,List.flatMap_cons];have hs:(boC s).length = 3:=rfl;rw [boC_set L i x (by simpa using h)];rw [List.set_append,if_neg (by rw [hs];omega),List.set_append,if_neg (by rw [hs];omega),List.set_append,if_neg (by rw [hs];omega),hs];rw [show (i+1)*3-3=i*3 by omega,show (i+1)*3+1-3=i*3+1 by omega,show (i+1)*3+2-3=i*3+2 by omega]
def hdF (H:Nat→Option Nat):Int→Option Value:=fun i=>if 0≤i then (H i.toNat).map (fun k:Nat=>Value.int .i64 k) else none
def updH (H:Nat→Option Nat)(a h:Nat):Nat→Option Nat:=fun k=>if k=a then some h else H k
def delH (H:Nat→Option Nat)(a:Nat):Nat→Option Nat:=fun k=>if k=a then none else H k
theorem hdF_upd (H:Nat→Option Nat)(h i:Nat):∀k,hdF (updH H h i) k=upd (hdF H) (h:Int) (.int .i64 i) k:=by
 intro k;unfold hdF updH upd;dsimp only;by_cases e:k=(h:Int)
 ·subst e;simp
 ·rw [if_neg e];by_cases hk:0≤k
  ·rw [if_pos hk,if_pos hk,if_neg (by omega)]
  ·rw [if_neg hk,if_neg hk]
theorem hdF_del (H:Nat→Option Nat)(h:Nat):∀k,hdF (delH H h) k=ers (hdF H) (h:Int) k:=by
 intro k;unfold hdF delH ers;dsimp only;by_cases e:k=(h:Int)
 ·subst e;simp
 ·rw [if_neg e];by_cases hk:0≤k
  ·rw [if_pos hk,if_pos hk,if_neg (by omega)]
  ·rw [if_neg hk,if_neg hk]
structure Bm where
 p:Nat
 tk:Nat
 tg:Nat
 ix:Nat
 sb:Nat
 hq:Nat
 mh:Nat
 Fi:Nat→Prop
 Fh:Nat→Prop
 s:Nat
 c:Nat
 g:Nat
 q:Nat
 nx:Nat
 W:Nat
 l:List Bo
 M:Nat→Option Nat
 ln:Nat
 T:Nat
 L:List HeapPlain.It
 H:Nat→Option Nat
def Bm.F (m:Bm):Nat→Prop:=fun b=>b=m.p∨b=m.tk∨b=m.tg∨b=m.sb∨b=m.mh∨m.Fi b∨m.Fh b
def Bm.C (m:Bm):Array Value:=#[.int .i64 m.s,.int .i64 m.c,.int .i64 m.g,.bool true,.int .i64 m.q,.int .u32 m.nx,.pointer (some ⟨m.tk,0,none⟩),.pointer (some ⟨m.ix,0,none⟩),.slice (some ⟨m.sb,0,none⟩) m.s m.s,.pointer (some ⟨m.hq,0,none⟩),.map (some m.mh)]
structure Dj (m:Bm):Prop where
 p:m.p≠m.tk∧m.p≠m.tg∧m.p≠m.sb∧m.p≠m.mh
 t:m.tk≠m.sb∧m.tk≠m.mh∧m.tg≠m.sb∧m.tg≠m.mh∧m.sb≠m.mh
 i:¬m.Fi m.p∧ ¬m.Fi m.tk∧ ¬m.Fi m.tg∧ ¬m.Fi m.sb∧ ¬m.Fi m.mh
 h:¬m.Fh m.p∧ ¬m.Fh m.tk∧ ¬m.Fh m.tg∧ ¬m.Fh m.sb∧ ¬m.Fh m.mh
 ih:∀b,m.Fi b→ ¬m.Fh b
structure Bw (w:World)(m:Bm):Prop where
 hd:w.heap[m.p]?=some (Obj.cells m.C 207 (0,0))
 row:w.heap[m.sb]?=some (Obj.cells (m.l.flatMap boC).toArray 160 (0,0))
 len:m.l.length=m.s
 tkn:Bt w m.tk m.tg m.s m.W
 ids:Id w m.ix m.Fi m.M m.c m.ln
 due:Hq w m.hq m.Fh m.T m.L
 hld:∃n,Mf w .u32 46 m.mh n (hdF m.H)∧n≤m.T
 dj:Dj m
theorem Bw.flt {w:World}{m:Bm}(h:Bw w m):∀b,m.F b→b<w.heap.size:=by
 obtain ⟨n,hm,_⟩:=h.hld;rintro b (rfl | rfl | rfl | rfl | rfl | e | e)
 ·exact heap_lt h.hd
 ·exact heap_lt h.tkn.hd
 ·exact heap_lt h.tkn.wd
 ·exact heap_lt h.row
 ·exact hm.lt
 ·exact h.ids.flt b e
 ·exact h.due.flt b e
theorem Bw.stay {w w':World}{m:Bm}(h:Bw w m){G:Nat→Prop}(hk:Kp G w w')(hG:∀b,m.F b→ ¬G b):Bw w' m:=by
 obtain ⟨n,hm,hn⟩:=h.hld;exact ⟨hk.blk h.hd (hG _ (Or.inl rfl)),hk.blk h.row (hG _ (Or.inr (Or.inr (Or.inr (Or.inl rfl))))),h.len,
  h.tkn.kp hk (hG _ (Or.inr (Or.inl rfl))) (hG _ (Or.inr (Or.inr (Or.inl rfl)))),h.ids.stay hk (fun b e=>hG b (Or.inr (Or.inr (Or.inr (Or.inr (Or.inr (Or.inl e))))))),
  h.due.stay hk (fun b e=>hG b (Or.inr (Or.inr (Or.inr (Or.inr (Or.inr (Or.inr e))))))),⟨n,hm.kp hk (hG _ (Or.inr (Or.inr (Or.inr (Or.inr (Or.inl rfl)))))),hn⟩,h.dj⟩
theorem Bw.new {w w':World}{m:Bm}(h:Bw w m)(hb:Below w.heap.size w w'):Bw w' m:=h.stay (G:=nob) (Kp.of_new hb) (fun _ _ h=>h)
theorem Bw.idsTo {w w':World}{m:Bm}(h:Bw w m)(hk:Kp m.Fi w w'){M':Nat→Option Nat}{ln':Nat}(hi:Id w' m.ix m.Fi M' m.c ln'):Bw w' {m with M:=M',ln:=ln'}:=by
 obtain ⟨n,hm,hn⟩:=h.hld;obtain ⟨i1,i2,i3,i4,i5⟩:=h.dj.i;exact ⟨hk.blk h.hd i1,hk.blk h.row i4,h.len,h.tkn.kp hk i2 i3,hi,h.due.stay hk (fun b e e2=>h.dj.ih b e2 e),⟨n,hm.kp hk i5,hn⟩,⟨h.dj.p,h.dj.t,h.dj.i,h.dj.h,h.dj.ih⟩⟩
theorem Bw.tknTo {w w':World}{m:Bm}(h:Bw w m)(hk:Kp (· = m.tg) w w'){W':Nat}(ht:Bt w' m.tk m.tg m.s W'):Bw w' {m with W:=W'}:=by
 obtain ⟨n,hm,hn⟩:=h.hld;obtain ⟨i1,i2,i3,i4,i5⟩:=h.dj.i;obtain ⟨j1,j2,j3,j4,j5⟩:=h.dj.h;obtain ⟨p1,p2,p3,p4⟩:=h.dj.p;obtain ⟨t1,t2,t3,t4,t5⟩:=h.dj.t;exact ⟨hk.blk h.hd p2,hk.blk h.row (fun e=>t3 e.symm),h.len,ht,h.ids.stay hk (fun b e e2=>i3 (e2▸e)),h.due.stay hk (fun b e e2=>j3 (e2▸e)),⟨n,hm.kp hk (fun e=>t4 e.symm),hn⟩,⟨h.dj.p,h.dj.t,h.dj.i,h.dj.h,h.dj.ih⟩⟩
theorem Bw.hldTo {w w':World}{m:Bm}(h:Bw w m)(hk:Kp (· = m.mh) w w'){H':Nat→Option Nat}{n':Nat}(hm:Mf w' .u32 46 m.mh n' (hdF H'))(hn:n'≤m.T):Bw w' {m with H:=H'}:=by
 obtain ⟨i1,i2,i3,i4,i5⟩:=h.dj.i;obtain ⟨j1,j2,j3,j4,j5⟩:=h.dj.h;obtain ⟨p1,p2,p3,p4⟩:=h.dj.p;obtain ⟨t1,t2,t3,t4,t5⟩:=h.dj.t;exact ⟨hk.blk h.hd p4,hk.blk h.row t5,h.len,h.tkn.kp hk t2 t4,h.ids.stay hk (fun b e e2=>i5 (e2▸e)),h.due.stay hk (fun b e e2=>j5 (e2▸e)),⟨n',hm,hn⟩,⟨h.dj.p,h.dj.t,h.dj.i,h.dj.h,h.dj.ih⟩⟩
theorem Bw.dueTo {w w':World}{m:Bm}(h:Bw w m){Fh':Nat→Prop}(hs:Step m.Fh Fh' w w'){T':Nat}{L':List HeapPlain.It}(hd:Hq w' m.hq Fh' T' L')(hT:m.T≤T'):Bw w' {m with Fh:=Fh',T:=T',L:=L'}:=by
 obtain ⟨n,hm,hn⟩:=h.hld;obtain ⟨j1,j2,j3,j4,j5⟩:=h.dj.h;have hk:=hs.kp;have hnew:∀b,m.F b→ ¬m.Fh b→ ¬Fh' b:=fun b hb h1 h2=>by
  rcases hs.sub b h2 with e | e
  ·exact h1 e
  ·have:=h.flt b hb;omega
 refine ⟨hk.blk h.hd j1,hk.blk h.row j4,h.len,h.tkn.kp hk j2 j3,h.ids.stay hk h.dj.ih,hd,⟨n,hm.kp hk j5,Nat.le_trans hn hT⟩,⟨h.dj.p,h.dj.t,h.dj.i,?_,?_⟩⟩
 ·exact ⟨hnew _ (Or.inl rfl) j1,hnew _ (Or.inr (Or.inl rfl)) j2,hnew _ (Or.inr (Or.inr (Or.inl rfl))) j3,hnew _ (Or.inr (Or.inr (Or.inr (Or.inl rfl)))) j4,hnew _ (Or.inr (Or.inr (Or.inr (Or.inr (Or.inl rfl))))) j5⟩
 ·exact fun b e=>hnew b (Or.inr (Or.inr (Or.inr (Or.inr (Or.inr (Or.inl e)))))) (h.dj.ih b e)
theorem Bw.own {w w':World}{m:Bm}(h:Bw w m)(hk:Kp (· = m.p) w w'){q' nx':Nat}(hh:w'.heap[m.p]?=some (Obj.cells {m with q:=q',nx:=nx'}.C 207 (0,0))):Bw w' {m with q:=q',nx:=nx'}:=by
 obtain ⟨n,hm,hn⟩:=h.hld;obtain ⟨i1,i2,i3,i4,i5⟩:=h.dj.i;obtain ⟨j1,j2,j3,j4,j5⟩:=h.dj.h;obtain ⟨p1,p2,p3,p4⟩:=h.dj.p;exact ⟨hh,hk.blk h.row (fun e=>p3 e.symm),h.len,h.tkn.kp hk (fun e=>p1 e.symm) (fun e=>p2 e.symm),h.ids.stay hk (fun b e e2=>i1 (e2▸e)),h.due.stay hk (fun b e e2=>j1 (e2▸e)),⟨n,hm.kp hk (fun e=>p4 e.symm),hn⟩,⟨h.dj.p,h.dj.t,h.dj.i,h.dj.h,h.dj.ih⟩⟩
theorem Bw.clkTo {w:World}{m:Bm}(h:Bw w m)(q':Nat):Bw (w.setCell ⟨m.p,4,none⟩ (.int .i64 q')) {m with q:=q'}∧Kp (· = m.p) w (w.setCell ⟨m.p,4,none⟩ (.int .i64 q')):=by
 have hk:=(Kp.refl (· = m.p) w).setCell (p:=⟨m.p,4,none⟩) rfl (.int .i64 q');have h1:=heap_setCell_same w m.p 4 _ 207 (.int .i64 q') h.hd;exact ⟨h.own (q':=q') (nx':=m.nx) hk (by rw [h1];rfl),hk⟩
theorem Bw.nxtTo {w:World}{m:Bm}(h:Bw w m)(n':Nat):Bw (w.setCell ⟨m.p,5,none⟩ (.int .u32 n')) {m with nx:=n'}∧Kp (· = m.p) w (w.setCell ⟨m.p,5,none⟩ (.int .u32 n')):=by
 have hk:=(Kp.refl (· = m.p) w).setCell (p:=⟨m.p,5,none⟩) rfl (.int .u32 n');have h1:=heap_setCell_same w m.p 5 _ 207 (.int .u32 n') h.hd;exact ⟨h.own (q':=m.q) (nx':=n') hk (by rw [h1];rfl),hk⟩
theorem Bw.rowTo {w w':World}{m:Bm}(h:Bw w m)(hk:Kp (· = m.sb) w w'){l':List Bo}(hl:l'.length=m.s)(hr:w'.heap[m.sb]?=some (Obj.cells (l'.flatMap boC).toArray 160 (0,0))):Bw w' {m with l:=l'}:=by
 obtain ⟨n,hm,hn⟩:=h.hld;obtain ⟨i1,i2,i3,i4,i5⟩:=h.dj.i;obtain ⟨j1,j2,j3,j4,j5⟩:=h.dj.h;obtain ⟨p1,p2,p3,p4⟩:=h.dj.p;obtain ⟨t1,t2,t3,t4,t5⟩:=h.dj.t;exact ⟨hk.blk h.hd p3,hr,hl,h.tkn.kp hk t1 t3,h.ids.stay hk (fun b e e2=>i4 (e2▸e)),h.due.stay hk (fun b e e2=>j4 (e2▸e)),⟨n,hm.kp hk (fun e=>t5 e.symm),hn⟩,⟨h.dj.p,h.dj.t,h.dj.i,h.dj.h,h.dj.ih⟩⟩
def seatW (w:World)(sb i:Nat)(x:Bo):World:=((w.setCell ⟨sb,i*3,none⟩ (.int .u32 x.1)).setCell ⟨sb,i*3+1,none⟩ (.int .i64 x.2.1)).setCell ⟨sb,i*3+2,none⟩ (.int .i64 x.2.2)
theorem seatW_kp (w:World)(sb i:Nat)(x:Bo):Kp (· = sb) w (seatW w sb i x):=
 (((Kp.refl (· = sb) w).setCell (p:=⟨sb,_,none⟩) rfl _).setCell (p:=⟨sb,_,none⟩) rfl _).setCell (p:=⟨sb,_,none⟩) rfl _
theorem Bw.seatTo {w:World}{m:Bm}(h:Bw w m){i:Nat}(hi:i<m.s)(x:Bo):Bw (seatW w m.sb i x) {m with l:=m.l.set i x}:=by
 refine h.rowTo (seatW_kp w m.sb i x) (by rw [List.length_set];exact h.len) ?_;have h1:=heap_setCell_same w m.sb (i*3) _ 160 (.int .u32 x.1) h.row;have h2:=heap_setCell_same _ m.sb (i*3+1) _ 160 (.int .i64 x.2.1) h1;have h3:=heap_setCell_same _ m.sb (i*3+2) _ 160 (.int .i64 x.2.2) h2;unfold seatW;rw [h3,boC_set m.l i x (by rw [h.len];exact hi)];simp
theorem Bw.cells {w:World}{m:Bm}(h:Bw w m){i:Nat}{x:Bo}(hi:m.l[i]?=some x):
 w.cell? ⟨m.sb,i*3,none⟩=some (.int .u32 x.1)∧w.cell? ⟨m.sb,i*3+1,none⟩=some (.int .i64 x.2.1)∧w.cell? ⟨m.sb,i*3+2,none⟩=some (.int .i64 x.2.2):=by
 have hb:=(blk h.row).1;have get:∀j,j<3→w.cell? ⟨m.sb,i*3+j,none⟩=(boC x)[j]? :=by
  intro j hj;rw [hb (i*3+j),List.getElem?_toArray,boC_get m.l i j hj,hi];rfl
 exact ⟨get 0 (by omega),get 1 (by omega),get 2 (by omega)⟩
theorem Bw.froz {w:World}{m:Bm}(h:Bw w m)(i:Nat):w.frozen? ⟨m.sb,i,none⟩=false:=(blk h.row).2.1 i
structure Hc (w:World)(m:Bm):Prop where
 c0:w.cell? ⟨m.p,0,none⟩=some (.int .i64 m.s)
 c1:w.cell? ⟨m.p,1,none⟩=some (.int .i64 m.c)
 c2:w.cell? ⟨m.p,2,none⟩=some (.int .i64 m.g)
 c3:w.cell? ⟨m.p,3,none⟩=some (.bool true)
 c4:w.cell? ⟨m.p,4,none⟩=some (.int .i64 m.q)
 c5:w.cell? ⟨m.p,5,none⟩=some (.int .u32 m.nx)
 c6:w.cell? ⟨m.p,6,none⟩=some (.pointer (some ⟨m.tk,0,none⟩))
 c7:w.cell? ⟨m.p,7,none⟩=some (.pointer (some ⟨m.ix,0,none⟩))
 c8:w.cell? ⟨m.p,8,none⟩=some (.slice (some ⟨m.sb,0,none⟩) m.s m.s)
 c9:w.cell? ⟨m.p,9,none⟩=some (.pointer (some ⟨m.hq,0,none⟩))
 c10:w.cell? ⟨m.p,10,none⟩=some (.map (some m.mh))
 f4:w.frozen? ⟨m.p,4,none⟩=false
 f5:w.frozen? ⟨m.p,5,none⟩=false
theorem Bw.hc {w:World}{m:Bm}(h:Bw w m):Hc w m:=
 have b:=(blk h.hd).1;have f:=(blk h.hd).2.1;⟨b 0,b 1,b 2,b 3,b 4,b 5,b 6,b 7,b 8,b 9,b 10,f 4,f 5⟩
theorem there_any (m:Bm)(w:World)(h:Hc w m):Calls Tryz.prog 115 #[.pointer (some ⟨m.p,0,none⟩)] w fun e w'=>e = .returned (.bool true)∧w=w':=by
 have c3:=h.c3;clear h;generalize m.p=p at *;go_enter Tryz.func115,Tryz.ntmps115;go_wp2_with fail;go_ret;exact ⟨rfl,rfl⟩
theorem next_any (m:Bm)(w:World)(h:Bw w m):Calls Tryz.prog 61 #[.pointer (some ⟨m.p,0,none⟩)] w fun e w'=>e = .returned (.int .u32 m.nx)∧w=w':=by
 have c5:=h.hc.c5;have HT:=hid (there_any m w h.hc);clear h;generalize m.p=p at *;go_enter Tryz.func61,Tryz.ntmps61;go_wp2_with fail;refine HT.out.mono ?_;rintro e w' ⟨rfl,rfl⟩;go_wp2_with fail;go_ret;exact ⟨rfl,rfl⟩
theorem clock_any (m:Bm)(w:World)(h:Bw w m):Calls Tryz.prog 62 #[.pointer (some ⟨m.p,0,none⟩)] w fun e w'=>e = .returned (.int .i64 m.q)∧w=w':=by
 have c5:=h.hc.c4;have HT:=hid (there_any m w h.hc);clear h;generalize m.p=p at *;go_enter Tryz.func62,Tryz.ntmps62;go_wp2_with fail;refine HT.out.mono ?_;rintro e w' ⟨rfl,rfl⟩;go_wp2_with fail;go_ret;exact ⟨rfl,rfl⟩
theorem len_any (m:Bm)(w:World)(h:Bw w m):Calls Tryz.prog 63 #[.pointer (some ⟨m.p,0,none⟩)] w fun e w'=>e = .returned (.int .i64 m.ln)∧w=w':=by
 have c5:=h.hc.c7;have HT:=hid (there_any m w h.hc);have HL:=hid (ilen_any m.ix m.Fi m.M m.c m.ln w h.ids);clear h;generalize m.p=p at *;go_enter Tryz.func63,Tryz.ntmps63;go_wp2_with fail;refine HT.out.mono ?_;rintro e w' ⟨rfl,rfl⟩;go_wp2_with fail;refine HL.out.mono ?_;rintro e w' ⟨rfl,rfl⟩;go_wp2_with fail;go_ret;exact ⟨rfl,rfl⟩
theorem told_any (p:Nat)(a b c:Int)(w:World)(c0:w.cell? ⟨p,0,none⟩=some (.int .i64 a))(c1:w.cell? ⟨p,1,none⟩=some (.int .i64 b))(c2:w.cell? ⟨p,2,none⟩=some (.int .i64 c))(hl:p<w.heap.size):Calls Tryz.prog 117 #[.pointer (some ⟨p,0,none⟩)] w fun e w'=>e = .returned (.agg #[.int .i64 a,.int .i64 b,.int .i64 c])∧Below w.heap.size w w':=by
 have N:=new1 w (.cells #[.int .i64 a,.int .i64 b,.int .i64 c] 23);have HN:=hid N;clear N;go_enter Tryz.func117,Tryz.ntmps117;go_wp2_with fail;exact bodyPost_ret (results_cell_row rfl _ _ _ _ _ _ _ rfl HN.out.1 Tryz.underlying23 rfl (by kernel_rfl)) rfl ⟨rfl,HN.out.2.2⟩
theorem shape_any (m:Bm)(w:World)(h:Bw w m):Calls Tryz.prog 60 #[.pointer (some ⟨m.p,0,none⟩)] w fun e w'=>e = .returned (.agg #[.int .i64 m.s,.int .i64 m.c,.int .i64 m.g])∧Below w.heap.size w w':=by
 have N:=new1 w (.cells #[.int .i64 0,.int .i64 0,.int .i64 0] 23);have hA:=h.new N.2.2;have HT:=hid (there_any m _ hA.hc);have hpl:=heap_lt hA.hd;have hpl0:=heap_lt h.hd;have HTO:=hid (told_any m.p _ _ _ _ hA.hc.c0 hA.hc.c1 hA.hc.c2 hpl);have HN:=hid N;clear h hA N;generalize m.p=p at *;go_enter Tryz.func60,Tryz.ntmps60;go_wp2_with fail;refine HT.out.mono ?_;rintro e w' ⟨rfl,rfl⟩;go_wp2_with fail;refine HTO.out.mono ?_;rintro e w2 ⟨rfl,hb⟩;have hX:=Bl.blk hb HN.out.1;obtain ⟨x0,g0,x1,g1,x2,g2⟩:=cells3 hX;have hb2:=HN.out.2.2.trans (hb.mono (by rw [HN.out.2.1];omega));have HB2:=hid hb2;have HX:=hid hX;clear hb hX hb2;go_wp2_with fail;exact bodyPost_ret (results_cell_row rfl _ _ _ _ _ _ _ rfl (rset3 HX.out) Tryz.underlying23 rfl (by kernel_rfl)) rfl ⟨rfl,rset3_below HB2.out (Nat.le_refl _) _ _ _⟩
def boV (x:Bo):Value:= .agg #[.int .u32 x.1,.int .i64 x.2.1,.int .i64 x.2.2]
theorem Fsub {m:Bm}:∀b,m.Fi b→m.F b:=fun b h=>Or.inr (Or.inr (Or.inr (Or.inr (Or.inr (Or.inl h)))))
theorem bget_no (m:Bm)(id:Nat)(w:World)(h:Bw w m)(hid9:id<4294967296)(hM:m.M id=none):Calls Tryz.prog 160 #[.pointer (some ⟨m.p,0,none⟩),.int .u32 id] w fun e w'=>e = .returned (.tuple #[.agg #[.int .u32 0,.int .i64 0,.int .i64 0],.int .i64 171])∧Bw w' m∧Kp m.F w w':=by
 have N:=new1 w (.cells #[.int .u32 0,.int .i64 0,.int .i64 0] 160);have hA:=h.new N.2.2;have hg:=iget_any m.ix m.Fi m.M m.c m.ln id _ hA.ids hid9;rw [hM] at hg;have HT:=hid (there_any m _ hA.hc);have c7:=hA.hc.c7;have d7:=h.hc.c7;have hpl:=heap_lt hA.hd;have hpl0:=heap_lt h.hd;have HG:=hid hg;have HA:=hid hA;have HN:=hid N;have HFL:=hid h.flt;clear h hA N hM hg;generalize hp:m.p=p at *;have HP:=hid hp;clear hp;go_enter Tryz.func160,Tryz.ntmps160;go_wp2_with fail;refine HT.out.mono ?_;rintro e w' ⟨rfl,rfl⟩;go_wp2_with fail;refine HG.out.mono ?_;rintro e w2 ⟨rfl,hi,hk⟩;have hB:=HA.out.idsTo hk hi;have hX:=hk.blk HN.out.1 (fun e=>by have:=HFL.out _ (Fsub _ e);omega);obtain ⟨x0,g0,x1,g1,x2,g2⟩:=cells3 hX;have HX:=hid hX;have HB:=hid hB;have HK:=hid hk;clear hX hB hk hi;simp only [Option.getD_none,Option.isSome_none];go_wp2_with fail;have k3:Kp (· = w.heap.size) w2 (((w2.setCell ⟨w.heap.size,0,none⟩ (.int .u32 0)).setCell ⟨w.heap.size,1,none⟩ (.int .i64 0)).setCell ⟨w.heap.size,2,none⟩ (.int .i64 0)):=rset3_kp (F:=(· = w.heap.size)) (Kp.refl _ _) rfl _ _ _;refine bodyPost_ret (results_row2 rfl _ _ _ _ _ _ _ rfl (rset3 HX.out) Tryz.underlying160 rfl (by kernel_rfl)) rfl ⟨rfl,HB.out.stay k3 (fun b hb e=>by have:=HFL.out b hb;omega),((Kp.of_below HN.out.2.2 (Nat.le_refl _)).trans (HK.out.mono Fsub)).then k3 (fun i hi=>Or.inr (by omega))⟩
theorem bget_yes (m:Bm)(id i:Nat)(x:Bo)(w:World)(h:Bw w m)(hid9:id<4294967296)(hM:m.M id=some i)(hx:m.l[i]?=some x):Calls Tryz.prog 160 #[.pointer (some ⟨m.p,0,none⟩),.int .u32 id] w fun e w'=>e = .returned (.tuple #[.agg #[.int .u32 x.1,.int .i64 x.2.1,.int .i64 x.2.2],.int .i64 0])∧Bw w' m∧Kp m.F w w':=by
 have N:=new1 w (.cells #[.int .u32 0,.int .i64 0,.int .i64 0] 160);have hA:=h.new N.2.2;have hg:=iget_any m.ix m.Fi m.M m.c m.ln id _ hA.ids hid9;rw [hM] at hg;have HT:=hid (there_any m _ hA.hc);have c7:=hA.hc.c7;have d7:=h.hc.c7;have d8:=h.hc.c8;have hpl:=heap_lt hA.hd;have hpl0:=heap_lt h.hd;have hil:i<m.s:=by rw [←h.len];exact (List.getElem?_eq_some_iff.1 hx).1
 have hiI:(i:Int)<(m.s:Int):=by omega
 have HG:=hid hg;have HA:=hid hA;have HN:=hid N;have HFL:=hid h.flt;have HX0:=hid hx;have hsb:m.sb<w.heap.size:=heap_lt h.row;clear h hA N hM hg hx;obtain ⟨xi,xs,xu⟩:=x;generalize hp:m.p=p at *;have HP:=hid hp;clear hp;go_enter Tryz.func160,Tryz.ntmps160;go_wp2_with fail;refine HT.out.mono ?_;rintro e w' ⟨rfl,rfl⟩;go_wp2_with fail;refine HG.out.mono ?_;rintro e w2 ⟨rfl,hi,hk⟩;have hB:=HA.out.idsTo hk hi;have hX:=hk.blk HN.out.1 (fun e=>by have:=HFL.out _ (Fsub _ e);omega);obtain ⟨x0,g0,x1,g1,x2,g2⟩:=cells3 hX;have e8:=hB.hc.c8;obtain ⟨y0,y1,y2⟩:=hB.cells HX0.out;dsimp only at y0 y1 y2 e8;rw [HP.out] at e8;have HX:=hid hX;have HB:=hid hB;have HK:=hid hk;clear hX hB hk hi;simp only [Option.getD_some,Option.isSome_some];go_wp2_with fail;have k3:Kp (· = w.heap.size) w2 (((w2.setCell ⟨w.heap.size,0,none⟩ (.int .u32 xi)).setCell ⟨w.heap.size,1,none⟩ (.int .i64 xs)).setCell ⟨w.heap.size,2,none⟩ (.int .i64 xu)):=rset3_kp (F:=(· = w.heap.size)) (Kp.refl _ _) rfl _ _ _;refine bodyPost_ret (results_row2 rfl _ _ _ _ _ _ _ rfl (rset3 HX.out) Tryz.underlying160 rfl (by kernel_rfl)) rfl ⟨rfl,HB.out.stay k3 (fun b hb e=>by have:=HFL.out b hb;omega),((Kp.of_below HN.out.2.2 (Nat.le_refl _)).trans (HK.out.mono Fsub)).then k3 (fun i hi=>Or.inr (by omega))⟩
theorem bat_high (m:Bm)(i:Nat)(w:World)(h:Bw w m)(hi:m.s≤i):Calls Tryz.prog 172 #[.pointer (some ⟨m.p,0,none⟩),.int .i64 i] w fun e w'=>e = .returned (.tuple #[.agg #[.int .u32 0,.int .i64 0,.int .i64 0],.int .i64 140])∧Below w.heap.size w w':=by
 have N:=new1 w (.cells #[.int .u32 0,.int .i64 0,.int .i64 0] 160);have hA:=h.new N.2.2;have HT:=hid (there_any m _ hA.hc);have c0:=hA.hc.c0;have d0:=h.hc.c0;have hpl:=heap_lt hA.hd;have hpl0:=heap_lt h.hd;obtain ⟨x0,g0,x1,g1,x2,g2⟩:=cells3 N.1;have HN:=hid N;have hiI:(m.s:Int)≤(i:Int):=by omega
 clear h hA N;generalize hp:m.p=p at *;have HP:=hid hp;clear hp;go_enter Tryz.func172,Tryz.ntmps172;go_wp2_with fail;refine HT.out.mono ?_;rintro e w' ⟨rfl,rfl⟩;go_wp2_with fail;refine bodyPost_ret (results_row2 rfl _ _ _ _ _ _ _ rfl HN.out.1 Tryz.underlying160 rfl (by kernel_rfl)) rfl ⟨rfl,HN.out.2.2⟩
theorem bat_no (m:Bm)(i:Nat)(w:World)(h:Bw w m)(hi:i<m.s)(hW:m.W.testBit i=false):Calls Tryz.prog 172 #[.pointer (some ⟨m.p,0,none⟩),.int .i64 i] w fun e w'=>e = .returned (.tuple #[.agg #[.int .u32 0,.int .i64 0,.int .i64 0],.int .i64 171])∧Below w.heap.size w w':=by
 have N:=new1 w (.cells #[.int .u32 0,.int .i64 0,.int .i64 0] 160);have hA:=h.new N.2.2;have HT:=hid (there_any m _ hA.hc);have c0:=hA.hc.c0;have d0:=h.hc.c0;have c6:=hA.hc.c6;have d6:=h.hc.c6;have hh:=bhas_in m.tk m.tg m.s m.W i _ hA.tkn hi;rw [hW] at hh;have HH:=hid hh;have hpl:=heap_lt hA.hd;have hpl0:=heap_lt h.hd;obtain ⟨x0,g0,x1,g1,x2,g2⟩:=cells3 N.1;have HN:=hid N;have hiI:(i:Int)<(m.s:Int):=by omega
 clear h hA N hh hW;generalize hp:m.p=p at *;have HP:=hid hp;clear hp;go_enter Tryz.func172,Tryz.ntmps172;go_wp2_with fail;refine HT.out.mono ?_;rintro e w' ⟨rfl,rfl⟩;go_wp2_with fail;refine HH.out.mono ?_;rintro e w' ⟨rfl,rfl⟩;go_wp2_with fail;refine bodyPost_ret (results_row2 rfl _ _ _ _ _ _ _ rfl HN.out.1 Tryz.underlying160 rfl (by kernel_rfl)) rfl ⟨rfl,HN.out.2.2⟩
theorem bat_yes (m:Bm)(i:Nat)(x:Bo)(w:World)(h:Bw w m)(hx:m.l[i]?=some x)(hW:m.W.testBit i=true):Calls Tryz.prog 172 #[.pointer (some ⟨m.p,0,none⟩),.int .i64 i] w fun e w'=>e = .returned (.tuple #[.agg #[.int .u32 x.1,.int .i64 x.2.1,.int .i64 x.2.2],.int .i64 0])∧Below w.heap.size w w':=by
 have N:=new1 w (.cells #[.int .u32 0,.int .i64 0,.int .i64 0] 160);have hA:=h.new N.2.2;have hi:i<m.s:=by rw [←h.len];exact (List.getElem?_eq_some_iff.1 hx).1
 have HT:=hid (there_any m _ hA.hc);have c0:=hA.hc.c0;have d0:=h.hc.c0;have c6:=hA.hc.c6;have d6:=h.hc.c6;have c8:=hA.hc.c8;have d8:=h.hc.c8;obtain ⟨y0,y1,y2⟩:=hA.cells hx;obtain ⟨v0,v1,v2⟩:=h.cells hx;have hsb:m.sb<w.heap.size:=heap_lt h.row;have hh:=bhas_in m.tk m.tg m.s m.W i _ hA.tkn hi;rw [hW] at hh;have HH:=hid hh;have hpl:=heap_lt hA.hd;have hpl0:=heap_lt h.hd;obtain ⟨x0,g0,x1,g1,x2,g2⟩:=cells3 N.1;have HN:=hid N;have hiI:(i:Int)<(m.s:Int):=by omega
 clear h hA N hh hW hx;obtain ⟨xi,xs,xu⟩:=x;dsimp only at y0 y1 y2 v0 v1 v2;generalize hp:m.p=p at *;have HP:=hid hp;clear hp;go_enter Tryz.func172,Tryz.ntmps172;go_wp2_with fail;refine HT.out.mono ?_;rintro e w' ⟨rfl,rfl⟩;go_wp2_with fail;refine HH.out.mono ?_;rintro e w' ⟨rfl,rfl⟩;go_wp2_with fail;have N3:=new1 w (.cells #[.int .u32 xi,.int .i64 xs,.int .i64 xu] 160);refine bodyPost_ret (results_row2 rfl _ _ _ _ _ _ _ rfl N3.1 Tryz.underlying160 rfl (by kernel_rfl)) rfl ⟨rfl,N3.2.2⟩
theorem wf_u32 {a:Nat}(h:a<4294967296):(Lit.int .u32 a).wf = true:=by simp [Lit.wf,IntKind.min,IntKind.max,IntKind.bits,IntKind.signed];omega
theorem Bw.look {w:World}{m:Bm}(h:Bw w m){a:Nat}(ha:a<4294967296):
 (Instr.lookup 202 (.map (some m.mh)) (.int .u32 a) true).run Tryz.prog w = .ok (.tuple #[.int .i64 ((m.H a).getD 0:Nat),.bool (m.H a).isSome]) w:=by
 obtain ⟨n,hm,_⟩:=h.hld;have hz:∀u:World,(zeroValue 3).run Tryz.prog u = .ok (.int .i64 0) u:=fun u=>by kernel_rfl
 have h1:=(hm.look Tryz.underlying46 Tryz.underlying202 hz (i:=(a:Int)) (wf_u32 ha)).1;rw [h1];unfold hdF;cases e:m.H a<;>simp [e]
theorem Bw.forgot {w:World}{m:Bm}(h:Bw w m){a:Nat}(ha:a<4294967296)(ty:TypeId):
 ∃w',(Builtin.delete_ #[202,46] ty #[.map (some m.mh),.int .u32 a]).run Tryz.prog w = .ok (.tuple #[]) w'∧Kp (· = m.mh) w w'∧Bw w' {m with H:=delH m.H a}:=by
 obtain ⟨n,hm,hn⟩:=h.hld;obtain ⟨w',h1,h2,h3⟩:=hm.delete Tryz.underlying46 Tryz.underlying202 (i:=(a:Int)) (wf_u32 ha) ty;have hk:=turned_kp h3;exact ⟨w',h1,hk,h.hldTo hk (h2.congr (fun k _=>(hdF_del m.H a k).symm)) hn⟩
theorem bfirm_no (m:Bm)(id:Nat)(w:World)(h:Bw w m)(hid9:id<4294967296)(hH:m.H id=none):Calls Tryz.prog 161 #[.pointer (some ⟨m.p,0,none⟩),.int .u32 id] w fun e w'=>e = .returned (.tuple #[])∧w'=w:=by
 have hl:=h.look hid9;rw [hH] at hl;have c10:=h.hc.c10;clear h hH;generalize m.p=p at *;generalize m.mh=mh at *;go_enter Tryz.func161,Tryz.ntmps161;go_wp2_with fail;go_end0
 exact ⟨rfl,rfl⟩
def BFirm (w w':World)(m:Bm)(id u h:Nat):Prop:= ∃L',Bw w' {m with L:=L',T:=m.T+1,H:=delH m.H id}∧Kp m.F w w'∧ ∀x,x∈L'↔x∈m.L∧x≠(u,id,h)
theorem Fsubh {m:Bm}:∀b,m.Fh b→m.F b:=fun b h=>Or.inr (Or.inr (Or.inr (Or.inr (Or.inr (Or.inr h)))))
theorem bfirm_yes (m:Bm)(id u h:Nat)(w:World)(hw:Bw w m)(hid9:id<4294967296)(hH:m.H id=some h)(hL:(u,id,h)∈m.L)(hT:m.T≤5000):Calls Tryz.prog 161 #[.pointer (some ⟨m.p,0,none⟩),.int .u32 id] w fun e w'=>e = .returned (.tuple #[])∧BFirm w w' m id u h:=by
 have hl:=hw.look hid9;rw [hH] at hl;have HQ:=hid (hqdrop_any m.hq m.Fh m.T m.L (u,id,h) w hw.due hT hL);have c10:=hw.hc.c10;have c9:=hw.hc.c9;have HW:=hid hw;clear hw hH hL hT;generalize hp:m.p=p at *;generalize hmh:m.mh=mh at *;have HP:=hid hp;have HMH:=hid hmh;clear hp hmh;dsimp only [Option.getD_some,Option.isSome_some] at hl;go_enter Tryz.func161,Tryz.ntmps161;go_wp2_with fail;refine HQ.out.mono ?_;rintro e w2 ⟨rfl,L',hs,hq,hmem⟩;have hB:=HW.out.dueTo hs hq (Nat.le_succ _);obtain ⟨w3,r3,k3,hC⟩:=hB.forgot hid9 0;have e10:=hB.hc.c10;dsimp only at e10 r3;rw [HP.out] at e10;rw [HMH.out] at e10 r3;have HE:Hid (BFirm w w3 m id u h):=hid ⟨L',hC,(hs.kp.mono Fsubh).trans (k3.mono (fun b e=>Or.inr (Or.inr (Or.inr (Or.inr (Or.inl e)))))),hmem⟩;clear hs hq hmem hB k3 hC;go_wp2_with fail;go_end0
 exact ⟨rfl,HE.out⟩
structure Lk (L:List HeapPlain.It)(H:Nat→Option Nat)(U:Nat→Nat):Prop where
 is:∀u i h,(u,i,h)∈L↔H i=some h∧U i=u
 has:∀i,(H i).isSome = true↔0<U i
def setU (U:Nat→Nat)(i u:Nat):Nat→Nat:=fun k=>if k=i then u else U k
theorem Lk.nil {L:List HeapPlain.It}{H:Nat→Option Nat}{U:Nat→Nat}(h:Lk L H U){i:Nat}(hi:H i=none):Lk L H (setU U i 0)∧U i=0:=by
 have h0:U i=0:=by
  have:=h.has i;rw [hi] at this;simp at this;omega
 have e:setU U i 0=U:=by
  funext k;unfold setU;split
  ·rename_i e;rw [e,h0]
  ·rfl
 rw [e];exact ⟨h,h0⟩
theorem Lk.drop {L L':List HeapPlain.It}{H:Nat→Option Nat}{U:Nat→Nat}(h:Lk L H U){i a:Nat}(hi:H i=some a)(hm:∀x,x∈L'↔x∈L∧x≠(U i,i,a)):Lk L' (delH H i) (setU U i 0):=by
 refine ⟨fun u k b=>?_,fun k=>?_⟩
 ·rw [hm,h.is];unfold delH setU;by_cases e:k=i
  ·subst e;simp;intro h1 h2;rw [hi] at h1;injection h1 with h1;exact ⟨h2.symm,h1.symm⟩
  ·simp [e]
 ·unfold delH setU;by_cases e:k=i
  ·simp [e]
  ·simp [e];exact h.has k
theorem Lk.push {L L':List HeapPlain.It}{H:Nat→Option Nat}{U:Nat→Nat}(h:Lk L H U){i a u:Nat}(hi:U i=0)(hu:0<u)(hm:∀x,x∈L'↔x∈L∨x=(u,i,a)):Lk L' (updH H i a) (setU U i u):=by
 have hHi:H i=none:=by
  cases e:H i with
  | none=>rfl
  | some b=>have:=(h.has i).1 (by rw [e];rfl);omega
 refine ⟨fun v k b=>?_,fun k=>?_⟩
 ·rw [hm,h.is];unfold updH setU;by_cases e:k=i
  ·subst e;simp [hHi];constructor
   ·rintro ⟨rfl,rfl⟩;exact ⟨rfl,rfl⟩
   ·rintro ⟨rfl,rfl⟩;exact ⟨rfl,rfl⟩
  ·simp [e]
 ·unfold updH setU;by_cases e:k=i
  ·simp [e,hu]
  ·simp [e];exact h.has k
def BFirmU (w w':World)(m:Bm)(U:Nat→Nat)(id:Nat):Prop:= ∃L' T' H',Bw w' {m with L:=L',T:=T',H:=H'}∧Lk L' H' (setU U id 0)∧T'≤m.T+1∧m.T≤T'∧Kp m.F w w'
theorem bfirm_any (m:Bm)(U:Nat→Nat)(id:Nat)(w:World)(hw:Bw w m)(hl:Lk m.L m.H U)(hid9:id<4294967296)(hT:m.T≤5000):Calls Tryz.prog 161 #[.pointer (some ⟨m.p,0,none⟩),.int .u32 id] w fun e w'=>e = .returned (.tuple #[])∧BFirmU w w' m U id:=by
 cases hH:m.H id with
 | none=>
  refine (bfirm_no m id w hw hid9 hH).mono ?_;rintro e w' ⟨rfl,rfl⟩;exact ⟨rfl,m.L,m.T,m.H,hw,(hl.nil hH).1,Nat.le_succ _,Nat.le_refl _,Kp.refl _ _⟩
 | some h=>
  refine (bfirm_yes m id (U id) h w hw hid9 hH ((hl.is _ _ _).2 ⟨hH,rfl⟩) hT).mono ?_;rintro e w' ⟨rfl,L',h1,h2,h3⟩;exact ⟨rfl,L',m.T+1,_,h1,hl.drop hH h3,Nat.le_refl _,Nat.le_succ _,h2⟩
theorem Fsubt {m:Bm}:∀b,b=m.tg→m.F b:=fun b h=>Or.inr (Or.inr (Or.inl h))
theorem Fsubs {m:Bm}:∀b,b=m.sb→m.F b:=fun b h=>Or.inr (Or.inr (Or.inr (Or.inl h)))
def BDrop (w w':World)(m:Bm)(U:Nat→Nat)(id seat:Nat):Prop:= ∃L' T' H',Bw w' {m with L:=L',T:=T',H:=H',M:=IdxPlain.del m.M id,ln:=m.ln-1,W:=offW m.W seat,l:=m.l.set seat z}∧Lk L' H' (setU U id 0)∧T'≤m.T+1∧m.T≤T'∧0<m.ln∧Kp m.F w w'
theorem bdropx_any (m:Bm)(U:Nat→Nat)(id seat u:Nat)(w:World)(hw:Bw w m)(hl:Lk m.L m.H U)(hid9:id<4294967296)(hT:m.T≤5000)(hM:m.M id=some seat)(hs:seat<m.s):Calls Tryz.prog 162 #[.pointer (some ⟨m.p,0,none⟩),.agg #[.int .u32 id,.int .i64 seat,.int .i64 u]] w fun e w'=>e = .returned (.tuple #[])∧BDrop w w' m U id seat:=by
 have N:=new1 w (.cells #[.int .u32 id,.int .i64 seat,.int .i64 u] 160);have hA:=hw.new N.2.2;have HF:=hid (bfirm_any m U id _ hA hl hid9 hT);have HN:=hid N;have HA:=hid hA;have HFL:=hid hw.flt;have HM:=hid hM;have HS:=hid hs;have hsI:(seat:Int)<(m.s:Int):=by omega
 have hpl:=heap_lt hA.hd;have HT:=hid hT;clear hw hl hM hs hA N hT;generalize hAe:w.heap.size=A at *;have HAE:=hid hAe;clear hAe;go_enter Tryz.func162,Tryz.ntmps162;go_wp2_with fail;rw [HAE.out];refine HF.out.mono ?_;rintro e w2 ⟨rfl,L',T',H',hB,hLk,hT',hT2,hk⟩;have hX:w2.heap[A]?=_:=hk.blk HN.out.1 (fun e=>by have:=HFL.out _ e;omega);obtain ⟨x0,_,x1,_,x2,_⟩:=cells3 hX;have c7:=hB.hc.c7;dsimp only at c7;have HID:=hid (idrop_any m.ix m.Fi m.M m.c m.ln id seat w2.drew (hB.new (Below.refl _ _).drew).ids hid9 HM.out);have HB:=hid hB;have HX:=hid hX;have HK:=hid hk;have HL:=hid hLk;have HTT:=hid (And.intro hT' hT2);clear hB hX hk hLk hT' hT2;go_wp2_with fail;go_still_tail 6,(by kernel_rfl)
 change wpList _ _ _ _ _ w2.drew
 have HB2:=hid (HB.out.new (Below.refl _ _).drew);have HX2:=hid (show w2.drew.heap[A]?=_ from HX.out);have HK2:=hid HK.out.drew;clear x0 x1 x2 c7;generalize w2.drew=W2 at HID HB2 HX2 HK2 ⊢;go_wp2_with fail;refine HID.out.mono ?_;rintro e w3 ⟨rfl,hi3,hln,hk3⟩;have hB:=HB2.out.idsTo hk3 hi3;have hX:w3.heap[A]?=_:=hk3.blk HX2.out (fun e=>by have:=HFL.out _ (Fsub _ e);omega);obtain ⟨x0,_,x1,_,x2,_⟩:=cells3 hX;have c6:=hB.hc.c6;dsimp only at c6;have HTD:=hid (bdrop_any m.tk m.tg m.s m.W seat w3.drew (hB.new (Below.refl _ _).drew).tkn HS.out);have HB3:=hid (hB.new (Below.refl _ _).drew);have HX3:=hid (show w3.drew.heap[A]?=_ from hX);have HK3:=hid ((HK2.out.trans (hk3.mono Fsub)).drew);have HLN:=hid hln;clear hB hX hi3 hln hk3 HB HX HK HB2 HX2 HK2 HID;go_wp2_with fail;go_still_tail 6,(by kernel_rfl)
 change wpList _ _ _ _ _ w3.drew
 clear x0 x1 x2 c6;generalize w3.drew=W3 at HTD HB3 HX3 HK3 ⊢;go_wp2_with fail;refine HTD.out.mono ?_;rintro e w4 ⟨rfl,ht4,hk4⟩;have hB:=HB3.out.tknTo hk4 ht4;have hX:w4.heap[A]?=_:=hk4.blk HX3.out (fun e=>by have:=HFL.out _ (Fsubt _ e);omega);obtain ⟨x0,_,x1,_,x2,_⟩:=cells3 hX;have c8:=hB.hc.c8;dsimp only at c8;have f0:=hB.froz (seat*3);have f1:=hB.froz (seat*3+1);have f2:=hB.froz (seat*3+2);obtain ⟨y,hy⟩:∃y,m.l[seat]?=some y:=⟨_,List.getElem?_eq_getElem (by have:=hB.len;have:=HS.out;dsimp only at *;omega)⟩;obtain ⟨y0,y1,y2⟩:=hB.cells hy;dsimp only at f0 f1 f2 y0 y1 y2;have HE:Hid (BDrop w (seatW w4 m.sb seat z).drew m U id seat):=hid ⟨L',T',H',(hB.seatTo (i:=seat) HS.out z).new (Below.refl _ _).drew,HL.out,HTT.out.1,HTT.out.2,HLN.out,(((Kp.of_below HN.out.2.2 (Nat.le_of_eq HAE.out)).trans ((HK3.out.trans (hk4.mono Fsubt)))).trans ((seatW_kp w4 m.sb seat z).mono Fsubs)).drew⟩;clear hB hX ht4 hk4 HB3 HX3 HK3 HTD hy;go_wp2_with fail;go_region
 all_goals
  go_wp2_with fail;go_end0
  exact ⟨rfl,HE.out⟩
def BPut (w w':World)(m:Bm)(U:Nat→Nat)(id seat u:Nat):Prop:= ∃Fh' L' T' H' F',Bw w' {m with Fh:=Fh',L:=L',T:=T',H:=H',M:=IdxPlain.put m.M id seat,ln:=m.ln+1,W:=onW m.W seat,l:=m.l.set seat (id,seat,u)}∧Lk L' H' (setU U id u)∧T'≤m.T+1∧m.T≤T'∧(∀b,F' b↔(b=m.p∨b=m.tk∨b=m.tg∨b=m.sb∨b=m.mh∨m.Fi b∨Fh' b))∧Step m.F F' w w'
theorem setU_zero {U:Nat→Nat}{i:Nat}(h:U i=0):setU U i 0=U:=by
 funext k;unfold setU;split
 ·rename_i e;rw [e,h]
 ·rfl
theorem Bw.dueTold {w w5:World}{m:Bm}(h:Bw w m){Fh':Nat→Prop}(hs:Step m.Fh Fh' w w5){L':List HeapPlain.It}(hd:Hq w5 m.hq Fh' (m.T+1) L'){a i:Nat}(ha:a<4294967296)(hT:m.T≤5000):
 ∃w6,(Instr.mapUpdate 202 (.map (some m.mh)) (.int .u32 a) (.int .i64 i)).run Tryz.prog w5 = .ok () w6∧Kp (· = m.mh) w5 w6∧Bw w6 {m with Fh:=Fh',L:=L',T:=m.T+1,H:=updH m.H a i}:=by
 obtain ⟨n,hm,hn⟩:=h.hld;have hm5:=hm.kp hs.kp h.dj.h.2.2.2.2;obtain ⟨w',h1,h2,h3⟩:=hm5.update Tryz.underlying46 Tryz.underlying202 (by unfold maxLen;omega) (i:=(a:Int)) (wf_u32 ha) (.int .i64 i);have hk:=turned_kp h3;exact ⟨w',h1,hk,(h.dueTo hs hd (Nat.le_succ _)).hldTo hk (h2.congr (fun k _=>(hdF_upd m.H a i k).symm)) (Nat.succ_le_succ hn)⟩
theorem bputx_any (m:Bm)(U:Nat→Nat)(id seat u:Nat)(w:World)(hw:Bw w m)(hl:Lk m.L m.H U)(hid9:id<4294967296)(hT:m.T≤5000)(hM:m.M id=none)(hs:seat<m.s)(hln:m.ln<m.c)(hU:U id=0):Calls Tryz.prog 152 #[.pointer (some ⟨m.p,0,none⟩),.agg #[.int .u32 id,.int .i64 seat,.int .i64 u]] w fun e w'=>e = .returned (.tuple #[])∧BPut w w' m U id seat u:=by
 have N:=new1 w (.cells #[.int .u32 id,.int .i64 seat,.int .i64 u] 160);have hA:=hw.new N.2.2;have HN:=hid N;have HA:=hid hA;have HFL:=hid hw.flt;have HS:=hid hs;have hsI:(seat:Int)<(m.s:Int):=by omega
 have hs24:=hw.tkn.hn.2;have hpl:=heap_lt hA.hd;have HT:=hid hT;have HL:=hid hl;have HU:=hid hU;have HID:=hid (iput_new m.ix m.Fi m.M m.c m.ln id seat (w.alloc (.cells #[.int .u32 id,.int .i64 seat,.int .i64 u] 160)).drew (hA.new (Below.refl _ _).drew).ids hid9 hM (by omega) hln);have c7:=hA.hc.c7;have d7:=hw.hc.c7;have hp0:=heap_lt hw.hd;clear hw hl hM hs hA N hT hU;generalize hAe:w.heap.size=A at *;have HAE:=hid hAe;clear hAe;go_enter Tryz.func152,Tryz.ntmps152;go_wp2_with fail;rw [HAE.out];have HB1:=hid (HA.out.new (Below.refl _ _).drew);have HX1:=hid (show (w.alloc (.cells #[.int .u32 id,.int .i64 seat,.int .i64 u] 160)).drew.heap[A]?=_ from HN.out.1);have HK1:Hid (Kp m.F w (w.alloc (.cells #[.int .u32 id,.int .i64 seat,.int .i64 u] 160)).drew):=hid ((Kp.of_below HN.out.2.2 (Nat.le_of_eq HAE.out)).drew);obtain ⟨x0,_,x1,_,x2,_⟩:=cells3 HN.out.1;clear d7 HA HN;generalize w.alloc (.cells #[.int .u32 id,.int .i64 seat,.int .i64 u] 160)=W0 at *;go_still_tail 8,(by kernel_rfl)
 change wpList _ _ _ _ _ W0.drew
 clear c7 x0 x1 x2;generalize W0.drew=W1 at HID HB1 HX1 HK1 ⊢;go_wp2_with fail;refine HID.out.mono ?_;rintro e w3 ⟨rfl,hi3,hk3⟩;have hB:=HB1.out.idsTo hk3 hi3;have hX:w3.heap[A]?=_:=hk3.blk HX1.out (fun e=>by have:=HFL.out _ (Fsub _ e);omega);obtain ⟨x0,_,x1,_,x2,_⟩:=cells3 hX;have c6:=hB.hc.c6;dsimp only at c6;have HTD:=hid (bput_any m.tk m.tg m.s m.W seat w3.drew (hB.new (Below.refl _ _).drew).tkn HS.out);have HB3:=hid (hB.new (Below.refl _ _).drew);have HX3:=hid (show w3.drew.heap[A]?=_ from hX);have HK3:=hid ((HK1.out.trans (hk3.mono Fsub)).drew);clear hB hX hi3 hk3 HB1 HX1 HK1 HID;go_wp2_with fail;go_still_tail 6,(by kernel_rfl)
 change wpList _ _ _ _ _ w3.drew
 clear x0 x1 x2 c6;generalize w3.drew=W3 at HTD HB3 HX3 HK3 ⊢;go_wp2_with fail;refine HTD.out.mono ?_;rintro e w4 ⟨rfl,ht4,hk4⟩;have hB:=HB3.out.tknTo hk4 ht4;have hX:w4.heap[A]?=_:=hk4.blk HX3.out (fun e=>by have:=HFL.out _ (Fsubt _ e);omega);obtain ⟨x0,_,x1,_,x2,_⟩:=cells3 hX;have c8:=hB.hc.c8;dsimp only at c8;have f0:=hB.froz (seat*3);have f1:=hB.froz (seat*3+1);have f2:=hB.froz (seat*3+2);obtain ⟨y,hy⟩:∃y,m.l[seat]?=some y:=⟨_,List.getElem?_eq_getElem (by have:=hB.len;have:=HS.out;dsimp only at *;omega)⟩;obtain ⟨y0,y1,y2⟩:=hB.cells hy;dsimp only at f0 f1 f2 y0 y1 y2;have hB5:=(hB.seatTo (i:=seat) HS.out (id,seat,u)).new (Below.refl _ _).drew;have hsA:¬A=m.sb:=fun e=>by have:=HFL.out _ (Fsubs _ e);omega
 have hX5:(seatW w4 m.sb seat (id,seat,u)).drew.heap[A]?=_:=(seatW_kp w4 m.sb seat (id,seat,u)).drew.blk hX hsA;have HK5:=hid ((((HK3.out.trans (hk4.mono Fsubt))).trans ((seatW_kp w4 m.sb seat (id,seat,u)).mono Fsubs)).drew);have HB5:=hid hB5;have HX5:=hid hX5;clear hB hX ht4 hk4 HB3 HX3 HK3 HTD hy hB5 hX5 hsA;go_wp2_with fail;go_cut [] (fun wc=>Bw wc {m with M:=IdxPlain.put m.M id seat,ln:=m.ln+1,W:=onW m.W seat,l:=m.l.set seat (id,seat,u)}∧wc.heap[A]?=some (Obj.cells #[.int .u32 id,.int .i64 seat,.int .i64 u] 160 (0,0))∧Kp m.F w wc)
 case first=>
  go_region
  all_goals
   go_wp2_with fail;go_meet
   exact ⟨HB5.out,HX5.out,HK5.out⟩
 case rest=>
  obtain ⟨hB,hX,hK⟩:=hcut;clear x0 x1 x2 c8 f0 f1 f2 y0 y1 y2;obtain ⟨x0,_,x1,_,x2,_⟩:=cells3 hX;have c9:=hB.hc.c9;have c10:=hB.hc.c10;dsimp only at c9 c10;have hlt:∀b,m.F b→b<wc.heap.size:=hB.flt;by_cases hu0:u=0
  ·have huI:¬(u:Int)>0:=by omega
   have HE:Hid (BPut w wc m U id seat u):=hid ⟨m.Fh,m.L,m.T,m.H,m.F,hB,by rw [hu0,setU_zero HU.out];exact HL.out,Nat.le_succ _,Nat.le_refl _,fun b=>Iff.rfl,⟨hK,fun b hb=>Or.inl hb,hlt⟩⟩;clear hB hX hK hu0 hlt;go_wp2_with fail;go_end0
   exact ⟨rfl,HE.out⟩
  ·have huI:(u:Int)>0:=by omega
   have HPU:=hid (hqpush_any m.hq u id m.Fh m.T m.L wc.drew (hB.new (Below.refl _ _).drew).due HT.out);have HB:=hid (hB.new (Below.refl _ _).drew);have HX:=hid (show wc.drew.heap[A]?=_ from hX);have HK:=hid hK.drew;have HU0:=hid (Nat.pos_of_ne_zero hu0);clear hB hX hK hu0 hlt;go_wp2_with fail;go_region_held_law (fun w'=>w'.cell? ⟨m.p,10,none⟩=some (.map (some m.mh))∧w'.cell? ⟨m.p,9,none⟩=some (.pointer (some ⟨m.hq,0,none⟩))∧w'.cell? ⟨A,0,none⟩=some (.int .u32 id)∧w'.cell? ⟨A,2,none⟩=some (.int .i64 u)) (first | assumption | go_keep)
    ((
     go_at_call 185;refine HPU.out.mono ?_
     rintro e w5 ⟨nx,Fh',L',rfl,hnx,hnew,hst,hq,hmem⟩;obtain ⟨w6,r6,k6,hB6⟩:=HB.out.dueTold hst hq (a:=id) (i:=nx) hid9 HT.out;dsimp only at r6 k6;have hA5:=hst.kp.blk HX.out (fun e=>by have:=HFL.out _ (Fsubh _ e);omega);have hA6:=k6.blk hA5 (fun e=>by have:=HFL.out _ (Or.inr (Or.inr (Or.inr (Or.inr (Or.inl e)))));omega);obtain ⟨y0,_,y1,_,y2,_⟩:=cells3 hA5;obtain ⟨z0,_,z1,_,z2,_⟩:=cells3 hA6;have v9:=hB6.hc.c9;have v10:=hB6.hc.c10;have t9:=((HB.out.dueTo hst hq (Nat.le_succ _)).hc).c9;have t10:=((HB.out.dueTo hst hq (Nat.le_succ _)).hc).c10;dsimp only at v9 v10 t9 t10;have HE:Hid (BPut w w6 m U id seat u):=hid ⟨Fh',L',m.T+1,updH m.H id nx,fun b=>b=m.p∨b=m.tk∨b=m.tg∨b=m.sb∨b=m.mh∨m.Fi b∨Fh' b,hB6,HL.out.push HU.out HU0.out hmem,Nat.le_refl _,Nat.le_succ _,fun b=>Iff.rfl,⟨HK.out.trans ((hst.kp.mono Fsubh).trans (k6.mono (fun b e=>Or.inr (Or.inr (Or.inr (Or.inr (Or.inl e))))))),fun b hb=>by
      rcases hb with e | e | e | e | e | e | e
      ·exact Or.inl (Or.inl e)
      ·exact Or.inl (Or.inr (Or.inl e))
      ·exact Or.inl (Or.inr (Or.inr (Or.inl e)))
      ·exact Or.inl (Or.inr (Or.inr (Or.inr (Or.inl e))))
      ·exact Or.inl (Or.inr (Or.inr (Or.inr (Or.inr (Or.inl e)))))
      ·exact Or.inl (Or.inr (Or.inr (Or.inr (Or.inr (Or.inr (Or.inl e))))))
      ·rcases hst.sub b e with e | e
       ·exact Or.inl (Fsubh b e)
       ·exact Or.inr (Nat.le_trans HK.out.size e),hB6.flt⟩⟩
     clear hnx hnew hst hq hmem k6 hB6 hA5 hA6))
   all_goals
    go_wp2_with fail;go_end0
    exact ⟨rfl,HE.out⟩
end
end Go.Proofs.YtdjiopacieadpaaGreatDoor

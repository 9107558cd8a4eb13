/- TopNear: part Pan: BkH BkI BookGet BkJ BkK. -/
import Derived.Test.YtdjiopacieadpaaGreatDoorPam
set_option linter.unusedVariables false
set_option linter.unusedSimpArgs false
set_option maxRecDepth 8000
set_option maxHeartbeats 8000000
namespace Go.Proofs.YtdjiopacieadpaaGreatDoor
section
open Go.RowKit BookPlain
def BSame (w w':World)(m:Bm):Prop:=Bw w' m∧Kp m.F w w'
def BHold (w w':World)(m:Bm)(U:Nat→Nat)(id seat u:Nat)(e:Ending):Prop:=
 if id≠m.nx then e = .returned (.int .i64 2)∧BSame w w' m
 else if m.s≤seat then e = .returned (.int .i64 140)∧BSame w w' m
 else if u≤m.q then e = .returned (.int .i64 173)∧BSame w w' m
 else if m.W.testBit seat=true then e = .returned (.int .i64 170)∧BSame w w' m
 else if m.c≤m.ln∨m.nx=4294967295 then e = .returned (.int .i64 6)∧BSame w w' m
 else e = .returned (.int .i64 0)∧ ∃w1,BPut w w1 m U id seat u∧w'=w1.setCell ⟨m.p,5,none⟩ (.int .u32 ((m.nx:Int)+1))
theorem BPut.pre {w0 w w':World}{m:Bm}{U:Nat→Nat}{id seat u:Nat}(h:BPut w w' m U id seat u)(hk:Kp m.F w0 w):BPut w0 w' m U id seat u:=by
 obtain ⟨Fh,L,T,H,F,h1,h2,h3,h4,h5,h6⟩:=h;exact ⟨Fh,L,T,H,F,h1,h2,h3,h4,h5,⟨hk.trans h6.kp,fun b hb=>(h6.sub b hb).imp (fun e=>e) (fun e=>Nat.le_trans hk.size e),h6.lt⟩⟩
theorem bhold_any (m:Bm)(U:Nat→Nat)(k id seat u q:Nat)(w:World)(hw:Bw w m)(hl:Lk m.L m.H U)(hid9:id<4294967296)(hT:m.T≤5000)(hM:m.M m.nx=none)(hU:U m.nx=0)(hnx:m.nx<4294967296)(hseat:seat<100000):Calls Tryz.prog 158 #[.pointer (some ⟨m.p,0,none⟩),.agg #[.int .i64 k,.int .u32 id,.int .i64 seat,.int .i64 u,.int .i64 q]] w fun e w'=>BHold w w' m U id seat u e:=by
 have N:=new1 w (.cells #[.int .i64 k,.int .u32 id,.int .i64 seat,.int .i64 u,.int .i64 q] 223);have hA:=hw.new N.2.2;have HN:=hid N;have HFL:=hid hw.flt;have HK1:Hid (Kp m.F w (w.alloc (.cells #[.int .i64 k,.int .u32 id,.int .i64 seat,.int .i64 u,.int .i64 q] 223))):=hid (Kp.of_new N.2.2);have HX:=hid N.1;have HB:=hid hA;have HT:=hid hT;have HL:=hid hl;have HU:=hid (And.intro hU (And.intro hM (And.intro hnx hseat)));clear hw hl hA N hT hU hM hnx hseat;generalize hAe:w.heap.size=A at *;have HAE:=hid hAe;clear hAe;go_enter Tryz.func158,Tryz.ntmps158;go_wp2_with fail;rw [HAE.out];generalize w.alloc (.cells #[.int .i64 k,.int .u32 id,.int .i64 seat,.int .i64 u,.int .i64 q] 223)=W at *;obtain ⟨x0,_,x1,_,x2,_,x3,_,x4,_⟩:=cells5 HX.out;have c0:=HB.out.hc.c0;have c4:=HB.out.hc.c4;have c5:=HB.out.hc.c5;have c6:=HB.out.hc.c6;have c7:=HB.out.hc.c7;have c1:=HB.out.hc.c1;go_quiet (fail)
 have HS:Hid (∀W2,Below W.heap.size W W2→BSame w W2 m):=hid (fun W2 hb=>⟨HB.out.new hb,HK1.out.trans (Kp.of_new hb)⟩);have hbq:Below W.heap.size W (W.drewN nq):=below_drewN (Below.refl _ _) _;have HQ1:=hid hbq;clear hbq;generalize hWe:W.drewN nq=W1 at *;clear hWe c0 c1 c4 c5 c6 c7 x0 x1 x2 x3 x4;obtain ⟨x0,_,x1,_,x2,_,x3,_,x4,_⟩:=cells5 (Bl.blk HQ1.out HX.out);have HB1:=hid (HB.out.new HQ1.out);have c0:=HB1.out.hc.c0;by_cases h1:id=m.nx
 case neg=>
  have h1I:((id:Int) == (m.nx:Int))=false:=by simp;omega
  have HH:=hid h1;clear h1;go_wp2_with fail;go_ret;unfold BHold;rw [if_pos HH.out];exact ⟨rfl,HS.out _ HQ1.out⟩
 have h1I:((id:Int) == (m.nx:Int))=true:=by simp;omega
 have H1:=hid h1;clear h1;go_wp2_with fail;go_quiet (fail)
 have hbq:Below W.heap.size W (W1.drewN nq):=below_drewN HQ1.out _;have HQ2:=hid hbq;clear hbq;generalize hWe:W1.drewN nq=W2 at *;clear hWe c0 x0 x1 x2 x3 x4;obtain ⟨x0,_,x1,_,x2,_,x3,_,x4,_⟩:=cells5 (Bl.blk HQ2.out HX.out);have HB2:=hid (HB.out.new HQ2.out);have c4:=HB2.out.hc.c4;by_cases h2:seat<m.s
 case neg=>
  have h2I:m.s≤seat:=by omega
  have HH:=hid h2;clear h2;go_wp2_with fail;go_ret;unfold BHold;rw [if_neg (fun h=>h H1.out),if_pos (by have:=HH.out;omega)];exact ⟨rfl,HS.out _ HQ2.out⟩
 have h2I:¬m.s≤seat:=by omega
 have H2:=hid h2;clear h2;go_wp2_with fail;go_quiet (fail)
 have hbq:Below W.heap.size W (W2.drewN nq):=below_drewN HQ2.out _;have HQ3:=hid hbq;clear hbq;generalize hWe:W2.drewN nq=W3 at *;clear hWe c4 x0 x1 x2 x3 x4;obtain ⟨x0,_,x1,_,x2,_,x3,_,x4,_⟩:=cells5 (Bl.blk HQ3.out HX.out);have HB3:=hid (HB.out.new HQ3.out);have c6:=HB3.out.hc.c6;by_cases h3:m.q<u
 case neg=>
  have h3I:u≤m.q:=by omega
  have HH:=hid h3;clear h3;go_wp2_with fail;go_ret;unfold BHold;rw [if_neg (fun h=>h H1.out),if_neg (by have:=H2.out;omega),if_pos (by have:=HH.out;omega)];exact ⟨rfl,HS.out _ HQ3.out⟩
 have h3I:¬u≤m.q:=by omega
 have H3:=hid h3;clear h3;go_wp2_with fail;have hC:∀W9,Below W3.heap.size W3 W9→Calls Tryz.prog 182 #[.pointer (some ⟨m.tk,0,none⟩),.int .i64 seat] W9 fun e w'=>e = .returned (.bool (m.W.testBit seat))∧W9=w':=fun W9 hb=>bhas_in m.tk m.tg m.s m.W seat _ (HB3.out.new hb).tkn H2.out
 cases h4:m.W.testBit seat
 case true=>
  rw [h4] at hC;have HH:=hid h4;have HC:=hid hC;clear h4 hC;go_quiet ((go_at_call 182;exact Calls.quiet_of_same ((HC.out _ (below_drewN (Below.refl _ _) _)).mono (fun _ _ h=>⟨h.1,h.2.symm⟩))))
  have hbq:Below W.heap.size W (W3.drewN nq):=below_drewN HQ3.out _;have HQ4:=hid hbq;clear hbq;go_wp2_with fail;go_ret;unfold BHold;rw [if_neg (fun h=>h H1.out),if_neg (by have:=H2.out;omega),if_neg (by have:=H3.out;omega),if_pos HH.out];exact ⟨rfl,HS.out _ HQ4.out⟩
 rw [h4] at hC;have H4:=hid h4;have HC:=hid hC;clear h4 hC;go_quiet ((go_at_call 182;exact Calls.quiet_of_same ((HC.out _ (below_drewN (Below.refl _ _) _)).mono (fun _ _ h=>⟨h.1,h.2.symm⟩))))
 have hbq:Below W.heap.size W (W3.drewN nq):=below_drewN HQ3.out _;have HQ4:=hid hbq;clear hbq;generalize hWe:W3.drewN nq=W4 at *;clear hWe c6 x0 x1 x2 x3 x4;obtain ⟨x0,_,x1,_,x2,_,x3,_,x4,_⟩:=cells5 (Bl.blk HQ4.out HX.out);have HB4:=hid (HB.out.new HQ4.out);have c0:=HB4.out.hc.c0;have c1:=HB4.out.hc.c1;have c5:=HB4.out.hc.c5;have c7:=HB4.out.hc.c7;go_wp2_with fail;go_quiet ((go_at_call 118;exact Calls.quiet_of_same ((ilen_any m.ix m.Fi m.M m.c m.ln _ (HB4.out.new (below_drewN (Below.refl _ _) _)).ids).mono (fun _ _ h=>⟨h.1,h.2.symm⟩))))
 have hbq:Below W.heap.size W (W4.drewN nq):=below_drewN HQ4.out _;have HQ5:=hid hbq;clear hbq;generalize hWe:W4.drewN nq=W5 at *;clear hWe c0 c1 c5 c7 x0 x1 x2 x3 x4;obtain ⟨x0,_,x1,_,x2,_,x3,_,x4,_⟩:=cells5 (Bl.blk HQ5.out HX.out);have HB5:=hid (HB.out.new HQ5.out);have c5:=HB5.out.hc.c5;have HR:Hid (¬(id≠m.nx)∧ ¬m.s≤seat∧ ¬u≤m.q∧ ¬m.W.testBit seat=true):=hid ⟨fun h=>h H1.out,by have:=H2.out;omega,by have:=H3.out;omega,by have:=H4.out;simp [this]⟩;by_cases h5:m.ln<m.c
 case neg=>
  have h5I:m.c≤m.ln:=by omega
  have HH:=hid h5I;clear h5;go_wp2_with fail;go_ret;unfold BHold;rw [if_neg HR.out.1,if_neg HR.out.2.1,if_neg HR.out.2.2.1,if_neg HR.out.2.2.2,if_pos (Or.inl HH.out)];exact ⟨rfl,HS.out _ HQ5.out⟩
 have h5I:¬m.c≤m.ln:=by omega
 have H5:=hid h5;clear h5;by_cases h6:m.nx=4294967295
 case pos=>
  have h6I:((m.nx:Int) == 4294967295)=true:=by simp;omega
  have HH:=hid h6;clear h6;go_wp2_with fail;go_ret;unfold BHold;rw [if_neg HR.out.1,if_neg HR.out.2.1,if_neg HR.out.2.2.1,if_neg HR.out.2.2.2,if_pos (Or.inr HH.out)];exact ⟨rfl,HS.out _ HQ5.out⟩
 have h6I:((m.nx:Int) == 4294967295)=false:=by simp;omega
 have H6:=hid h6;clear h6;go_wp2_with fail;have HKW:Hid (Kp m.F w W5):=hid (HK1.out.trans (Kp.of_new HQ5.out));have hcl:=bputx_any m U id seat u W5 HB5.out HL.out hid9 HT.out (by rw [H1.out];exact HU.out.2.1) H2.out H5.out (by rw [H1.out];exact HU.out.1);have HCL:=hid hcl;clear hcl c5 x0 x1 x2 x3 x4;refine HCL.out.mono ?_;rintro e w6 ⟨rfl,hput⟩;have hput2:BPut w w6 m U id seat u:=hput.pre HKW.out;have HPU:=hid hput2;obtain ⟨Fh',L',T',H',F',hB6,_⟩:=hput;have c5:=hB6.hc.c5;have f5:=hB6.hc.f5;dsimp only at c5 f5;have hn9:(m.nx:Int)+1<4294967296:=by have:=H6.out;have:=HU.out.2.2.1;omega
 have hn8:(0:Int)≤(m.nx:Int):=by omega
 have hw9:IntKind.u32.wrap ((m.nx:Int)+1)=(m.nx:Int)+1:=by rw [IntKind.wrap_u32];omega
 clear hB6 hn9 hn8;go_wp2_with fail;go_ret;unfold BHold;rw [if_neg HR.out.1,if_neg HR.out.2.1,if_neg HR.out.2.2.1,if_neg HR.out.2.2.2,if_neg (by have:=H5.out;have:=H6.out;omega)];exact ⟨rfl,w6,HPU.out,rfl⟩
def BMove (w w':World)(m:Bm)(id seat u s2:Nat)(e:Ending):Prop:=
 if m.s≤s2 then e = .returned (.int .i64 140)∧BSame w w' m
 else if s2=seat then e = .returned (.int .i64 0)∧BSame w w' m
 else if m.W.testBit s2=true then e = .returned (.int .i64 170)∧BSame w w' m
 else e = .returned (.int .i64 0)∧Bw w' {m with W:=onW (offW m.W seat) s2,l:=(m.l.set seat z).set s2 (id,s2,u),M:=IdxPlain.put m.M id s2}∧Kp m.F w w'
theorem bmove_any (m:Bm)(id seat u s2:Nat)(w:World)(hw:Bw w m)(hid9:id<4294967296)(hM:m.M id=some seat)(hs:seat<m.s):Calls Tryz.prog 163 #[.pointer (some ⟨m.p,0,none⟩),.agg #[.int .u32 id,.int .i64 seat,.int .i64 u],.int .i64 s2] w fun e w'=>BMove w w' m id seat u s2 e:=by
 have N:=new1 w (.cells #[.int .u32 id,.int .i64 seat,.int .i64 u] 160);have hA:=hw.new N.2.2;have HFL:=hid hw.flt;have HK1:Hid (Kp m.F w (w.alloc (.cells #[.int .u32 id,.int .i64 seat,.int .i64 u] 160))):=hid (Kp.of_new N.2.2);have HX:=hid N.1;have HB:=hid hA;have HM:=hid hM;have HS:=hid hs;have hs24:=hw.tkn.hn.2;have c0:=hA.hc.c0;have d0:=hw.hc.c0;have c6:=hA.hc.c6;have d6:=hw.hc.c6;have hpl:=heap_lt hA.hd;have hpl0:=heap_lt hw.hd;have HSA:Hid (BSame w (w.alloc (.cells #[.int .u32 id,.int .i64 seat,.int .i64 u] 160)) m):=hid ⟨HB.out,HK1.out⟩;clear hw hA N hM hs;by_cases h1:m.s≤s2
 ·have HH:=hid h1;go_enter Tryz.func163,Tryz.ntmps163;go_wp2_with fail;go_ret;unfold BMove;rw [if_pos HH.out];exact ⟨rfl,HSA.out⟩
 have H1:=hid h1;by_cases h2:s2=seat
 ·subst h2;go_enter Tryz.func163,Tryz.ntmps163;go_wp2_with fail;go_ret;unfold BMove;rw [if_neg H1.out,if_pos rfl];exact ⟨rfl,HSA.out⟩
 have h2I:((s2:Int) == (seat:Int))=false:=by simp;omega
 have H2:=hid h2;clear h2;have hcl:=bhas_in m.tk m.tg m.s m.W s2 _ HB.out.tkn (by omega);cases h3:m.W.testBit s2 with
 | true=>
  rw [h3] at hcl;have HCL:=hid hcl;have HH:=hid h3;clear h3 hcl;go_enter Tryz.func163,Tryz.ntmps163;go_wp2_with fail;refine HCL.out.mono ?_;rintro e w' ⟨rfl,rfl⟩;go_wp2_with fail;go_ret;unfold BMove;rw [if_neg H1.out,if_neg H2.out,if_pos HH.out];exact ⟨rfl,HSA.out⟩
 | false=>
  rw [h3] at hcl;have HCL:=hid hcl;have HH:=hid h3;clear h3 hcl;generalize hAe:w.heap.size=A at *;have HAE:=hid hAe;clear hAe;go_enter Tryz.func163,Tryz.ntmps163;go_wp2_with fail;rw [HAE.out];refine HCL.out.mono ?_;rintro e w' ⟨rfl,rfl⟩;clear d0 d6 hpl;generalize w.alloc (.cells #[.int .u32 id,.int .i64 seat,.int .i64 u] 160)=W at *;obtain ⟨x0,_,x1,_,x2,_⟩:=cells3 HX.out;have hs2I:(s2:Int)<(m.s:Int):=by have:=H1.out;omega
  have hsI:(seat:Int)<(m.s:Int):=by have:=HS.out;omega
  have HTD:=hid (bdrop_any m.tk m.tg m.s m.W seat W.drew (HB.out.new (Below.refl _ _).drew).tkn HS.out);have HB1:=hid (HB.out.new (Below.refl _ _).drew);have HX1:=hid (show W.drew.heap[A]?=_ from HX.out);have HK2:=hid HK1.out.drew;go_wp2_with fail;go_still_tail 6,(by kernel_rfl)
  change wpList _ _ _ _ _ W.drew
  clear x0 x1 x2 c0 c6;generalize W.drew=W1 at HTD HB1 HX1 HK2 ⊢;go_wp2_with fail;refine HTD.out.mono ?_;rintro e w4 ⟨rfl,ht4,hk4⟩;have hB:=HB1.out.tknTo hk4 ht4;have hX:w4.heap[A]?=_:=hk4.blk HX1.out (fun e=>by have:=HFL.out _ (Fsubt _ e);omega);obtain ⟨x0,_,x1,_,x2,_⟩:=cells3 hX;have c8:=hB.hc.c8;dsimp only at c8;have f0:=hB.froz (seat*3);have f1:=hB.froz (seat*3+1);have f2:=hB.froz (seat*3+2);obtain ⟨y,hy⟩:∃y,m.l[seat]?=some y:=⟨_,List.getElem?_eq_getElem (by have:=hB.len;have:=HS.out;dsimp only at *;omega)⟩;obtain ⟨y0,y1,y2⟩:=hB.cells hy;dsimp only at f0 f1 f2 y0 y1 y2;have hsA:¬A=m.sb:=fun e=>by have:=HFL.out _ (Fsubs _ e);omega
  have HB5:=hid ((hB.seatTo (i:=seat) HS.out z).new (Below.refl _ _).drew);have HX5:=hid (show (seatW w4 m.sb seat z).drew.heap[A]?=_ from (seatW_kp w4 m.sb seat z).drew.blk hX hsA);have HK5:=hid ((((HK2.out.trans (hk4.mono Fsubt))).trans ((seatW_kp w4 m.sb seat z).mono Fsubs)).drew);clear hB hX ht4 hk4 HB1 HX1 HK2 HTD hy hsA;go_wp2_with fail;go_cut [] (fun wc=>Bw wc {m with W:=offW m.W seat,l:=m.l.set seat z}∧wc.heap[A]?=some (Obj.cells #[.int .u32 id,.int .i64 seat,.int .i64 u] 160 (0,0))∧Kp m.F w wc)
  case first=>
   go_region
   all_goals
    go_wp2_with fail;go_meet
    exact ⟨HB5.out,HX5.out,HK5.out⟩
  case rest=>
   obtain ⟨hB,hX,hK⟩:=hcut;clear x0 x1 x2 c8 f0 f1 f2 y0 y1 y2;obtain ⟨x0,g0,x1,g1,x2,g2⟩:=cells3 hX;have hkA:Kp (· = A) wc (wc.setCell ⟨A,1,none⟩ (.int .i64 s2)):=(Kp.refl (· = A) wc).setCell (p:=⟨A,1,none⟩) rfl _;have hdA:∀b,m.F b→ ¬b=A:=fun b hb e=>by have:=HFL.out b hb;omega
   have hB2:=hB.stay hkA hdA;have hX2:=heap_setCell_same wc A 1 _ 160 (.int .i64 s2) hX;have hK2:Kp m.F w (wc.setCell ⟨A,1,none⟩ (.int .i64 s2)):=hK.then hkA (fun i hi=>Or.inr (by have:=HAE.out;omega));have c6:=hB.hc.c6;have d6:=hB2.hc.c6;dsimp only at c6 d6;have HPU:=hid (bput_any m.tk m.tg m.s (offW m.W seat) s2 _ hB2.tkn (by have:=H1.out;omega));have HB:=hid hB2;have HX9:=hid (show (wc.setCell ⟨A,1,none⟩ (.int .i64 s2)).heap[A]?=some (Obj.cells #[.int .u32 id,.int .i64 s2,.int .i64 u] 160 (0,0)) from by rw [hX2];rfl);have HK9:=hid hK2;have hne:¬m.p=A:=hdA m.p (Or.inl rfl);clear hB hX hK hkA hdA hB2 hX2 hK2 HB5 HX5 HK5;go_wp2_with fail;refine HPU.out.mono ?_;rintro e w5 ⟨rfl,ht5,hk5⟩;have hB:=HB.out.tknTo hk5 ht5;have hX:w5.heap[A]?=_:=hk5.blk HX9.out (fun e=>by have:=HFL.out _ (Fsubt _ e);omega);clear x0 x1 x2 g0 g1 g2 c6 d6;obtain ⟨x0,_,x1,_,x2,_⟩:=cells3 hX;have c8:=hB.hc.c8;dsimp only at c8;have f0:=hB.froz (s2*3);have f1:=hB.froz (s2*3+1);have f2:=hB.froz (s2*3+2);obtain ⟨y,hy⟩:∃y,(m.l.set seat z)[s2]?=some y:=⟨_,List.getElem?_eq_getElem (by have:=hB.len;have:=H1.out;dsimp only at *;omega)⟩;obtain ⟨y0,y1,y2⟩:=hB.cells hy;dsimp only at f0 f1 f2 y0 y1 y2;have hsA:¬A=m.sb:=fun e=>by have:=HFL.out _ (Fsubs _ e);omega
   have HB5:=hid ((hB.seatTo (i:=s2) (by have:=H1.out;dsimp only;omega) (id,s2,u)).new (Below.refl _ _).drew);have HX5:=hid (show (seatW w5 m.sb s2 (id,s2,u)).drew.heap[A]?=_ from (seatW_kp w5 m.sb s2 (id,s2,u)).drew.blk hX hsA);have HK5:=hid ((((HK9.out.trans (hk5.mono Fsubt))).trans ((seatW_kp w5 m.sb s2 (id,s2,u)).mono Fsubs)).drew);clear hB hX ht5 hk5 HB HX9 HK9 HPU hy hsA;go_wp2_with fail;go_cut [] (fun wd=>Bw wd {m with W:=onW (offW m.W seat) s2,l:=(m.l.set seat z).set s2 (id,s2,u)}∧wd.heap[A]?=some (Obj.cells #[.int .u32 id,.int .i64 s2,.int .i64 u] 160 (0,0))∧Kp m.F w wd)
   case first=>
    go_region
    all_goals
     go_wp2_with fail;go_meet
     exact ⟨HB5.out,HX5.out,HK5.out⟩
   case rest=>
    obtain ⟨hB,hX,hK⟩:=hcut;clear x0 x1 x2 c8 f0 f1 f2 y0 y1 y2;obtain ⟨x0,_,x1,_,x2,_⟩:=cells3 hX;have c7:=hB.hc.c7;dsimp only at c7;have HIS:=hid (iset_any m.ix m.Fi m.M m.c m.ln id seat s2 wc.drew (hB.new (Below.refl _ _).drew).ids hid9 HM.out (by have:=H1.out;omega));have HB7:=hid (hB.new (Below.refl _ _).drew);have HK7:=hid hK.drew;clear hB hX hK;go_wp2_with fail;go_still_tail 7,(by kernel_rfl)
    change wpList _ _ _ _ _ wc.drew
    clear x0 x1 x2 c7;generalize wc.drew=W9 at HIS HB7 HK7 ⊢;go_wp2_with fail;refine HIS.out.mono ?_;rintro e w8 ⟨rfl,hi8,hk8⟩;have HB8:=hid (HB7.out.idsTo hk8 hi8);have HK8:=hid (HK7.out.trans (hk8.mono Fsub));clear hi8 hk8;go_wp2_with fail;go_ret;unfold BMove;rw [if_neg H1.out,if_neg H2.out,if_neg (by rw [HH.out];decide)];exact ⟨rfl,HB8.out,HK8.out⟩
end
end Go.Proofs.YtdjiopacieadpaaGreatDoor
namespace BookPlain
section
theorem get_iff {b:Bk}(h:Fine b)(k:Nat)(y:Bo):get b k=some y↔k≠0∧y.1=k∧b.l[y.2.1]?=some y:=by
 constructor
 ·intro hg;obtain ⟨a,c,d,_⟩:=get_some h hg;exact ⟨a,c,d⟩
 ·rintro ⟨a,rfl,d⟩;exact get_of h d a
theorem opt_ext {α:Type}{a b:Option α}(h:∀y,a=some y↔b=some y):a=b:=by
 cases a with
 | none=>cases b with
  | none=>rfl
  | some y=>exact (h y).2 rfl
 | some x=>exact ((h x).1 rfl).symm
theorem lies {b:Bk}(h:Fine b){i:Nat}{x:Bo}(hi:b.l[i]?=some x)(h0:x.1≠0):x.2.1=i:=by
 rcases h.ok i x hi with e | ⟨_,_,e,_⟩
 ·exact absurd (by rw [e];rfl) h0
 ·exact e
theorem get_set1 {b:Bk}{i:Nat}{x:Bo}{b':Bk}(h:Fine b)(h':Fine b')(hl:b'.l=b.l.set i x)(hi:i<b.s)(y:Bo)(hy:b.l[i]?=some y)(k:Nat)(hk:y.1=0∨k≠y.1∨x.1=y.1):
 get b' k=if k≠0∧x.1=k then some x else get b k:=by
 have hil:i<b.l.length:=by rw [h.len];exact hi
 apply opt_ext;intro v;rw [get_iff h'];by_cases hx:k≠0∧x.1=k
 ·rw [if_pos hx];have hxl:b'.l[i]?=some x:=by rw [hl,List.getElem?_set,if_pos rfl,if_pos hil]
  have hx0:x.1≠0:=by rw [hx.2];exact hx.1
  have hxi:=lies h' hxl hx0;constructor
  ·rintro ⟨a,c,d⟩;have:=h'.one _ i v x d hxl (by rw [c,hx.2]) (by rw [c];exact a);rw [this,hxl] at d;exact d
  ·intro e;injection e with e;subst e;exact ⟨hx.1,hx.2,by rw [hxi];exact hxl⟩
 ·rw [if_neg hx,get_iff h];constructor
  ·rintro ⟨a,c,d⟩;refine ⟨a,c,?_⟩;rw [hl,List.getElem?_set] at d;split at d
   ·have d:some x=some v:=by first | exact d | (rw [if_pos hil] at d;exact d)
    injection d with d;subst d;exact absurd ⟨a,c⟩ hx
   ·exact d
  ·rintro ⟨a,c,d⟩;refine ⟨a,c,?_⟩;rw [hl,List.getElem?_set,if_neg]
   ·exact d
   ·intro e;subst e;rw [hy] at d;injection d with d;subst d;rcases hk with hk | hk | hk
    ·exact a (by rw [←c];exact hk)
    ·exact hk c.symm
    ·exact hx ⟨a,by rw [hk];exact c⟩
theorem get_drop {b:Bk}(h:Fine b){i:Nat}{x:Bo}(hi:b.l[i]?=some x)(h0:x.1≠0)(k:Nat):get (dropB b i) k=if k=x.1 then none else get b k:=by
 have hs:i<b.s:=by rw [←h.len];exact (List.getElem?_eq_some_iff.1 hi).1
 have h':=dropB_fine h hi;by_cases e:k=x.1
 ·rw [if_pos e];cases hg:get (dropB b i) k with
  | none=>rfl
  | some v=>
   obtain ⟨a,c,d⟩:=(get_iff h' k v).1 hg;have d':(b.l.set i z)[v.2.1]?=some v:=d;rw [List.getElem?_set] at d';split at d'
   ·have d':some z=some v:=by first | exact d' | (rw [if_pos (List.getElem?_eq_some_iff.1 hi).1] at d';exact d')
    injection d' with d';subst d';exact absurd c.symm a
   ·rename_i e2;exact absurd (h.one _ i v x d' hi (by rw [c,e]) (by rw [c];exact a)).symm e2
 ·rw [if_neg e,get_set1 (i:=i) (x:=z) h h' rfl hs x hi k (Or.inr (Or.inl e)),if_neg (fun ⟨a,c⟩=>a c.symm)]
theorem get_firm {b:Bk}{x:Bo}(h:Fine b)(h':Fine (firmB b x)){id:Nat}(hg:get b id=some x)(k:Nat):get (firmB b x) k=if k=id then some (x.1,x.2.1,0) else get b k:=by
 obtain ⟨h0,h1,h2,h3⟩:=get_some h hg;rw [get_set1 (i:=x.2.1) (x:=(x.1,x.2.1,0)) h h' rfl h3 x h2 k (Or.inr (Or.inr rfl))];by_cases e:k=id
 ·subst e;rw [if_pos ⟨h0,h1⟩,if_pos rfl]
 ·rw [if_neg e,if_neg (fun ⟨_,c⟩=>e (by rw [←c];exact h1))]
theorem get_put {b:Bk}(h:Fine b){x:Bo}(h':Fine (putB b x))(hs:x.2.1<b.s)(hz:b.l[x.2.1]?=some z)(hx:x.1≠0)(k:Nat):get (putB b x) k=if k=x.1 then some x else get b k:=by
 rw [get_set1 (i:=x.2.1) (x:=x) h h' rfl hs z hz k (Or.inl rfl)];by_cases e:k=x.1
 ·subst e;rw [if_pos ⟨hx,rfl⟩,if_pos rfl]
 ·rw [if_neg e,if_neg (fun ⟨_,c⟩=>e c.symm)]
theorem held_false {b:Bk}(h:Fine b){i:Nat}(hi:i<b.s)(hh:held b i=false):b.l[i]?=some z:=by
 have hil:i<b.l.length:=by rw [h.len];exact hi
 have e:=List.getElem?_eq_getElem hil;generalize b.l[i]=x at e;unfold held at hh;rw [e] at hh;simp at hh;rcases h.ok i x e with e2 | ⟨a,_⟩
 ·rw [e,e2]
 ·omega
theorem get_seat {b:Bk}(h:Fine b){id:Nat}{x:Bo}(hg:get b id=some x){s:Nat}(hs:s<b.s)(hz:b.l[s]?=some z)(k:Nat):get (seatB b x s) k=if k=id then some (x.1,s,x.2.2) else get b k:=by
 obtain ⟨h0,h1,h2,h3⟩:=get_some h hg;have hx0:x.1≠0:=by rw [h1];exact h0
 have hd:=dropB_fine h h2;have hsf:=seatB_fine h hg hs;have hne:x.2.1≠s:=fun e=>by rw [e,hz] at h2;injection h2 with h2;rw [←h2] at hx0;exact hx0 rfl
 have hz2:(dropB b x.2.1).l[s]?=some z:=by
  show (b.l.set x.2.1 z)[s]?=_
  rw [List.getElem?_set,if_neg hne];exact hz
 rw [get_set1 (b:=dropB b x.2.1) (i:=s) (x:=(x.1,s,x.2.2)) hd hsf rfl hs z hz2 k (Or.inl rfl),get_drop h h2 hx0];by_cases e:k=id
 ·subst e;rw [if_pos ⟨h0,h1⟩,if_pos rfl]
 ·rw [if_neg e,if_neg (fun ⟨_,c⟩=>e (by rw [←c];exact h1)),if_neg (fun c=>e (by rw [c];exact h1))]
def uB (b:Bk)(id:Nat):Nat:=match get b id with | some x=>x.2.2 | none=>0
theorem held_set {b:Bk}(h:Fine b){i:Nat}(hi:i<b.s)(x:Bo)(b':Bk)(hl:b'.l=b.l.set i x)(j:Nat):held b' j=if i=j then (x.1 != 0) else held b j:=by
 unfold held;rw [hl,List.getElem?_set];by_cases e:i=j
 ·rw [if_pos e,if_pos e,if_pos (by rw [h.len];exact hi)];rfl
 ·rw [if_neg e,if_neg e]
structure Ticked (b0 b:Bk)(q:Nat):Prop where
 fine:Fine b
 sh:b.s=b0.s∧b.c=b0.c∧b.g=b0.g∧b.next=b0.next∧b.clock=q
 at':∀(i:Nat) (x:Bo),b0.l[i]?=some x→b.l[i]?=some x∨(b.l[i]?=some z∧over q x=true)
theorem Ticked.start {b:Bk}(h:Fine b)(q:Nat):Ticked b {b with clock:=q} q:=
 ⟨⟨h.len,h.hs,h.hc,h.hg,h.ok,h.one,h.few⟩,⟨rfl,rfl,rfl,rfl,rfl⟩,fun i x hx=>Or.inl hx⟩
theorem Ticked.drop {b0 b:Bk}{q:Nat}(h:Ticked b0 b q)(hf:Fine b0){i:Nat}{x:Bo}(hx:b.l[i]?=some x)(ho:over q x=true):Ticked b0 (dropB b i) q:=by
 refine ⟨dropB_fine h.fine hx,h.sh,fun k y hy=>?_⟩;show (b.l.set i z)[k]?=_∨_
 by_cases e:i=k
 ·subst e;refine Or.inr ⟨?_,?_⟩
  ·show (b.l.set i z)[i]?=_
   rw [List.getElem?_set,if_pos rfl,if_pos (List.getElem?_eq_some_iff.1 hx).1]
  ·rcases h.at' i y hy with e | ⟨e,e2⟩
   ·rw [hx] at e;injection e with e;rw [←e];exact ho
   ·exact e2
 ·rcases h.at' k y hy with e2 | ⟨e2,e3⟩
  ·exact Or.inl (by rw [List.getElem?_set,if_neg e];exact e2)
  ·exact Or.inr ⟨by show (b.l.set i z)[k]?=_;rw [List.getElem?_set,if_neg e];exact e2,e3⟩
theorem Ticked.done {b0 b:Bk}{q:Nat}(h:Ticked b0 b q)(hf:Fine b0)(hall:∀(i:Nat) (x:Bo),b.l[i]?=some x→over q x=false):b=tickB b0 q:=by
 have hl:b.l=b0.l.map (fun x=>if over q x then z else x):=by
  apply List.ext_getElem?;intro i;rw [List.getElem?_map];by_cases hi:i<b0.s
  ·have hil:i<b0.l.length:=by rw [hf.len];exact hi
   have e:=List.getElem?_eq_getElem hil;generalize b0.l[i]=x at e;rw [e];rcases h.at' i x e with e2 | ⟨e2,e3⟩
   ·rw [e2,Option.map_some,if_neg (by rw [hall i x e2];decide)]
   ·rw [e2,Option.map_some,if_pos e3]
  ·rw [List.getElem?_eq_none (by rw [h.fine.len,h.sh.1];omega),List.getElem?_eq_none (by rw [hf.len];omega)];rfl
 obtain ⟨s,c,g,cl,n,l⟩:=b;obtain ⟨h1,h2,h3,h4,h5⟩:=h.sh;dsimp only at hl h1 h2 h3 h4 h5;unfold tickB;rw [h1,h2,h3,h4,h5,hl]
end
end BookPlain
namespace Go.Proofs.YtdjiopacieadpaaGreatDoor
section
open Go.RowKit BookPlain
structure Rl (m:Bm)(b:Bk):Prop where
 s:m.s=b.s
 c:m.c=b.c
 g:m.g=b.g
 q:m.q=b.clock
 nx:m.nx=b.next
 l:m.l=b.l
 M:∀k,m.M k=(get b k).map (fun x=>x.2.1)
 ln:m.ln=nT b.l
 W:∀i,i<b.s→m.W.testBit i=held b i
 lk:Lk m.L m.H (uB b)
 fine:Fine b
theorem uB_eq (b:Bk)(k:Nat):uB b k=((get b k).map (fun x:Bo=>x.2.2)).getD 0:=by
 unfold uB;cases get b k<;>rfl
theorem uB_of {b b':Bk}{id u:Nat}(h:∀k,(get b' k).map (fun x:Bo=>x.2.2)=if k=id then some u else (get b k).map (fun x:Bo=>x.2.2)):uB b'=setU (uB b) id u:=by
 funext k
 unfold setU;rw [uB_eq,uB_eq,h k];by_cases e:k=id
 ·rw [if_pos e,if_pos e];rfl
 ·rw [if_neg e,if_neg e]
theorem uB_zero {b b':Bk}{id:Nat}(h:∀k,get b' k=if k=id then none else get b k):uB b'=setU (uB b) id 0:=by
 funext k
 unfold uB setU;rw [h k];by_cases e:k=id
 ·rw [if_pos e,if_pos e]
 ·rw [if_neg e,if_neg e]
theorem nT_drop {b:Bk}{i:Nat}{x:Bo}(hi:b.l[i]?=some x)(h0:x.1≠0):nT (b.l.set i z)+1=nT b.l:=by
 have:=nT_set b.l i x z hi;have hz:z.1=0:=rfl;rw [if_pos hz,if_neg h0] at this;exact this
theorem nT_lay {b:Bk}{i:Nat}{x:Bo}(hi:b.l[i]?=some z)(h0:x.1≠0):nT (b.l.set i x)=nT b.l+1:=by
 have:=nT_set b.l i z x hi;have hz:z.1=0:=rfl;rw [if_pos hz,if_neg h0] at this;omega
theorem nT_same {b:Bk}{i:Nat}{x y:Bo}(hi:b.l[i]?=some x)(h0:x.1≠0)(h1:y.1≠0):nT (b.l.set i y)=nT b.l:=by
 have:=nT_set b.l i x y hi;rw [if_neg h1,if_neg h0] at this;omega
theorem Rl.drop {m:Bm}{b:Bk}(h:Rl m b){id:Nat}{x:Bo}(hg:get b id=some x){L':List HeapPlain.It}{T':Nat}{H':Nat→Option Nat}(hl:Lk L' H' (setU (uB b) id 0)):
 Rl {m with L:=L',T:=T',H:=H',M:=IdxPlain.del m.M id,ln:=m.ln-1,W:=offW m.W x.2.1,l:=m.l.set x.2.1 z} (dropB b x.2.1):=by
 obtain ⟨h0,h1,h2,h3⟩:=get_some h.fine hg;have hx0:x.1≠0:=by rw [h1];exact h0
 have hd:=get_drop h.fine h2 hx0;rw [h1] at hd;refine ⟨h.s,h.c,h.g,h.q,h.nx,by rw [h.l];rfl,fun k=>?_,?_,fun i hi=>?_,by rw [uB_zero hd];exact hl,dropB_fine h.fine h2⟩
 ·show IdxPlain.del m.M id k=_
  unfold IdxPlain.del;rw [hd k,h.M k];by_cases e:k=id
  ·rw [if_pos e,if_pos e];rfl
  ·rw [if_neg e,if_neg e]
 ·show m.ln-1=nT (b.l.set x.2.1 z)
  have:=nT_drop h2 hx0;rw [h.ln];omega
 ·have hs:=h.fine.hs;have hi':i<b.s:=hi;show (offW m.W x.2.1).testBit i=_
  rw [off_bit (by omega) i (by omega),h.W i hi',held_set h.fine h3 z (dropB b x.2.1) rfl];by_cases e:x.2.1=i
  ·simp [e,z]
  ·simp [e]
theorem Rl.put {m:Bm}{b:Bk}(h:Rl m b){x:Bo}(hs:x.2.1<b.s)(hz:b.l[x.2.1]?=some z)(hx:x.1≠0)(hf:Fine (putB b x)){Fh':Nat→Prop}{L':List HeapPlain.It}{T':Nat}{H':Nat→Option Nat}(hl:Lk L' H' (setU (uB b) x.1 x.2.2)):
 Rl {m with Fh:=Fh',L:=L',T:=T',H:=H',M:=IdxPlain.put m.M x.1 x.2.1,ln:=m.ln+1,W:=onW m.W x.2.1,l:=m.l.set x.2.1 (x.1,x.2.1,x.2.2)} (putB b x):=by
 have hg:=get_put h.fine hf hs hz hx;refine ⟨h.s,h.c,h.g,h.q,h.nx,by rw [h.l];rfl,fun k=>?_,?_,fun i hi=>?_,?_,hf⟩
 ·show IdxPlain.put m.M x.1 x.2.1 k=_
  unfold IdxPlain.put;rw [hg k,h.M k];by_cases e:k=x.1
  ·rw [if_pos e,if_pos e];rfl
  ·rw [if_neg e,if_neg e]
 ·show m.ln+1=nT (b.l.set x.2.1 x)
  rw [nT_lay hz hx,h.ln]
 ·have hi':i<b.s:=hi;show (onW m.W x.2.1).testBit i=_
  rw [on_bit,h.W i hi',held_set h.fine hs x (putB b x) rfl];by_cases e:x.2.1=i
  ·simp [e,hx]
  ·simp [e]
 ·rw [uB_of (b:=b) (id:=x.1) (u:=x.2.2) (fun k=>by rw [hg k];split<;>rfl)];exact hl
theorem Rl.firm {m:Bm}{b:Bk}(h:Rl m b){id:Nat}{x:Bo}(hg:get b id=some x)(hf:Fine (firmB b x)){L':List HeapPlain.It}{T':Nat}{H':Nat→Option Nat}(hl:Lk L' H' (setU (uB b) id 0)):
 Rl {m with L:=L',T:=T',H:=H',l:=m.l.set x.2.1 (x.1,x.2.1,0)} (firmB b x)∧nT (firmB b x).l = nT b.l:=by
 obtain ⟨h0,h1,h2,h3⟩:=get_some h.fine hg;have hx0:x.1≠0:=by rw [h1];exact h0
 have hgf:=get_firm h.fine hf hg;refine ⟨⟨h.s,h.c,h.g,h.q,h.nx,by rw [h.l];rfl,fun k=>?_,?_,fun i hi=>?_,?_,hf⟩,nT_same h2 hx0 hx0⟩
 ·show m.M k=_
  rw [hgf k,h.M k];by_cases e:k=id
  ·rw [if_pos e,e,hg];rfl
  ·rw [if_neg e]
 ·show m.ln=nT (b.l.set x.2.1 (x.1,x.2.1,0))
  rw [nT_same (y:=(x.1,x.2.1,0)) h2 hx0 hx0,h.ln]
 ·have hi':i<b.s:=hi;show m.W.testBit i=_
  rw [h.W i hi',held_set h.fine h3 (x.1,x.2.1,0) (firmB b x) rfl];by_cases e:x.2.1=i
  ·rw [if_pos e,←e,(held_iff h2).2 hx0];simp [hx0]
  ·rw [if_neg e]
 ·rw [uB_of (b:=b) (id:=id) (u:=0) (fun k=>by rw [hgf k];split<;>rfl)];exact hl
theorem Rl.seat {m:Bm}{b:Bk}(h:Rl m b){id:Nat}{x:Bo}(hg:get b id=some x){s:Nat}(hs:s<b.s)(hz:b.l[s]?=some z):
 Rl {m with W:=onW (offW m.W x.2.1) s,l:=(m.l.set x.2.1 z).set s (id,s,x.2.2),M:=IdxPlain.put m.M id s} (seatB b x s)∧nT (seatB b x s).l = nT b.l:=by
 obtain ⟨h0,h1,h2,h3⟩:=get_some h.fine hg;have hx0:x.1≠0:=by rw [h1];exact h0
 have hgs:=get_seat h.fine hg hs hz;have hf:=seatB_fine h.fine hg hs;have hne:x.2.1≠s:=fun e=>by rw [e,hz] at h2;injection h2 with h2;rw [←h2] at hx0;exact hx0 rfl
 have hd:=dropB_fine h.fine h2;have hz2:(dropB b x.2.1).l[s]?=some z:=by
  show (b.l.set x.2.1 z)[s]?=_
  rw [List.getElem?_set,if_neg hne];exact hz
 have hn:nT (seatB b x s).l = nT b.l:=by
  show nT ((dropB b x.2.1).l.set s (x.1,s,x.2.2))=_
  have:=nT_lay (b:=dropB b x.2.1) (x:=(x.1,s,x.2.2)) hz2 hx0;have h5:=nT_drop h2 hx0;rw [this];exact h5
 refine ⟨⟨h.s,h.c,h.g,h.q,h.nx,by rw [h.l,←h1];rfl,fun k=>?_,by rw [hn];exact h.ln,fun i hi=>?_,?_,hf⟩,hn⟩
 ·show IdxPlain.put m.M id s k=_
  unfold IdxPlain.put;rw [hgs k,h.M k];by_cases e:k=id
  ·rw [if_pos e,if_pos e];rfl
  ·rw [if_neg e,if_neg e]
 ·have hs24:=h.fine.hs;have hi':i<b.s:=hi;show (onW (offW m.W x.2.1) s).testBit i=_
  rw [on_bit,off_bit (by omega) i (by omega),h.W i hi',held_set hd (b':=seatB b x s) hs (x.1,s,x.2.2) rfl,held_set h.fine h3 z (dropB b x.2.1) rfl];by_cases e:s=i
  ·simp [e,hx0]
  ·by_cases e2:x.2.1=i
   ·simp [e,e2,z]
   ·simp [e,e2]
 ·rw [uB_of (b:=b) (id:=id) (u:=x.2.2) (fun k=>by rw [hgs k];split<;>rfl)];have e:setU (uB b) id x.2.2=uB b:=by
   funext k;unfold setU;split
   ·rename_i e;rw [e];unfold uB;rw [hg]
   ·rfl
  rw [e];exact h.lk
theorem Rl.clock {m:Bm}{b:Bk}(h:Rl m b)(q:Nat):Rl {m with q:=q} {b with clock:=q}:=
 ⟨h.s,h.c,h.g,rfl,h.nx,h.l,h.M,h.ln,h.W,h.lk,⟨h.fine.len,h.fine.hs,h.fine.hc,h.fine.hg,h.fine.ok,h.fine.one,h.fine.few⟩⟩
theorem Rl.next {m:Bm}{b:Bk}(h:Rl m b)(n:Nat):Rl {m with nx:=n} {b with next:=n}:=
 ⟨h.s,h.c,h.g,h.q,rfl,h.l,h.M,h.ln,h.W,h.lk,⟨h.fine.len,h.fine.hs,h.fine.hc,h.fine.hg,h.fine.ok,h.fine.one,h.fine.few⟩⟩
theorem Rl.seatOf {m:Bm}{b:Bk}(h:Rl m b){id:Nat}{x:Bo}(hg:get b id=some x):m.M id=some x.2.1∧m.l[x.2.1]?=some x∧x.2.1<m.s∧x.1=id:=by
 obtain ⟨h0,h1,h2,h3⟩:=get_some h.fine hg;exact ⟨by rw [h.M,hg];rfl,by rw [h.l];exact h2,by rw [h.s];exact h3,h1⟩
theorem Rl.noOf {m:Bm}{b:Bk}(h:Rl m b){id:Nat}(hg:get b id=none):m.M id=none∧uB b id=0:=by
 refine ⟨by rw [h.M,hg];rfl,?_⟩;unfold uB;rw [hg]
def Bkk (w:World)(p:Nat)(F:Nat→Prop)(K:Nat)(b:Bk):Prop:= ∃m,Bw w m∧Rl m b∧m.p=p∧m.F=F∧m.T+nT b.l≤K
theorem Bkk.flt {w:World}{p:Nat}{F:Nat→Prop}{K:Nat}{b:Bk}(h:Bkk w p F K b):∀x,F x→x<w.heap.size:=by
 obtain ⟨m,h1,h2,h3,h4,h5⟩:=h;rw [←h4];exact h1.flt
theorem Bkk.own {w:World}{p:Nat}{F:Nat→Prop}{K:Nat}{b:Bk}(h:Bkk w p F K b):F p:=by
 obtain ⟨m,h1,h2,h3,h4,h5⟩:=h;rw [←h4,←h3];exact Or.inl rfl
theorem Bkk.stay {w w':World}{p:Nat}{F:Nat→Prop}{K:Nat}{b:Bk}(h:Bkk w p F K b){G:Nat→Prop}(hk:Kp G w w')(hG:∀x,F x→ ¬G x):Bkk w' p F K b:=by
 obtain ⟨m,h1,h2,h3,h4,h5⟩:=h;exact ⟨m,h1.stay hk (by rw [h4];exact hG),h2,h3,h4,h5⟩
theorem Bkk.new {w w':World}{p:Nat}{F:Nat→Prop}{K:Nat}{b:Bk}(h:Bkk w p F K b)(hb:Below w.heap.size w w'):Bkk w' p F K b:=h.stay (G:=nob) (Kp.of_new hb) (fun _ _ h=>h)
theorem Bkk.more {w:World}{p:Nat}{F:Nat→Prop}{K K':Nat}{b:Bk}(h:Bkk w p F K b)(hK:K≤K'):Bkk w p F K' b:=by
 obtain ⟨m,h1,h2,h3,h4,h5⟩:=h;exact ⟨m,h1,h2,h3,h4,by omega⟩
theorem due_of {m:Bm}{b:Bk}(h:Rl m b){x:HeapPlain.It}(hx:x∈m.L):∃y,get b x.2.1=some y∧y.2.2=x.1∧0<x.1:=by
 obtain ⟨u,i,a⟩:=x;obtain ⟨h1,h2⟩:=(h.lk.is u i a).1 hx;have h3:=(h.lk.has i).1 (by rw [h1];rfl);unfold uB at h2 h3;cases hg:get b i with
 | none=>rw [hg] at h3;exact absurd h3 (Nat.lt_irrefl 0)
 | some y=>
  rw [hg] at h2 h3;exact ⟨y,rfl,h2,by dsimp only at h2 h3 ⊢;omega⟩
theorem due_all {m:Bm}{b:Bk}(h:Rl m b){q:Nat}(hq:∀x∈m.L,q<x.1)(i:Nat)(y:Bo)(hy:b.l[i]?=some y):over q y=false:=by
 cases ho:over q y with
 | false=>rfl
 | true=>
  have ho':0<y.2.2∧y.2.2≤q:=of_decide_eq_true ho;have h0:y.1≠0:=by
   rcases h.fine.ok i y hy with e | ⟨a,_⟩
   ·rw [e] at ho';have:z.2.2=0:=rfl;omega
   ·omega
  have hg:=get_of h.fine hy h0;have hu:uB b y.1=y.2.2:=by unfold uB;rw [hg]
  have h1:=(h.lk.has y.1).2 (by omega);obtain ⟨a,ha⟩:=Option.isSome_iff_exists.1 h1;have:=hq _ ((h.lk.is y.2.2 y.1 a).2 ⟨ha,hu⟩);omega
def BTick (w w':World)(p:Nat)(F:Nat→Prop)(K:Nat)(b:Bk)(q:Nat)(e:Ending):Prop:=
 if q≤b.clock then e = .returned (.int .i64 173)∧Bkk w' p F K b∧Kp F w w' else e = .returned (.int .i64 0)∧Bkk w' p F K (tickB b q)∧Kp F w w'
theorem btick_any (p:Nat)(F:Nat→Prop)(K:Nat)(b:Bk)(q:Nat)(w:World)(h:Bkk w p F K b)(hK:K≤5000):Calls Tryz.prog 159 #[.pointer (some ⟨p,0,none⟩),.int .i64 q] w fun e w'=>BTick w w' p F K b q e:=by
 have hflt:=h.flt;obtain ⟨m,hw,hr,rfl,rfl,hT⟩:=h;have c4:=hw.hc.c4;have f4:=hw.hc.f4;rw [hr.q] at c4;have HFL:=hid hflt;by_cases h1:q≤b.clock
 ·have hE:BTick w w m.p m.F K b q (.returned (.int .i64 173)):=by
   unfold BTick;rw [if_pos h1];exact ⟨rfl,⟨m,hw,hr,rfl,rfl,hT⟩,Kp.refl _ _⟩
  have HE:=hid hE;clear hw hr hT hflt hE;generalize m.p=p at *;generalize m.F=F at *;go_enter Tryz.func159,Tryz.ntmps159;go_wp2_with fail;go_ret;exact HE.out
 ·have hq:=hw.clkTo q;have hst:Bkk (w.setCell ⟨m.p,4,none⟩ (.int .i64 q)) m.p m.F K {b with clock:=q}:=⟨_,hq.1,hr.clock q,rfl,rfl,hT⟩;have htk:=Ticked.start hr.fine q;have HST:=hid hst;have HTK:=hid htk;have HKP:Hid (Kp m.F w (w.setCell ⟨m.p,4,none⟩ (.int .i64 q))):=hid (hq.2.mono (fun x e=>Or.inl e));have HN:=hid h1;have HFI:=hid hr.fine;have HK:=hid hK;have h1':¬q≤b.clock:=h1;clear hw hr hT hflt hq hst htk h1;generalize m.p=p at *;generalize m.F=F at *;clear m;go_enter Tryz.func159,Tryz.ntmps159;go_wp2_with fail;generalize w.setCell ⟨p,4,none⟩ (.int .i64 q)=W at *;clear c4 f4 h1';go_loopg [] (nT b.l) (fun k wr=> ∃b',k=nT b'.l∧Ticked b b' q∧Bkk wr p F K b'∧Kp F w wr)
  case atStart=>exact ⟨{b with clock:=q},rfl,HTK.out,HST.out,HKP.out⟩
  case round=>
   obtain ⟨b',hk,htk,⟨m,hw,hr,rfl,rfl,hT⟩,hkp⟩:=hrel;have c9:=hw.hc.c9;have HW:=hid hw;have HR:=hid hr;have HTK2:=hid htk;have HKP2:=hid hkp;have HT:=hid hT;have HGK:=hid hk;have hpl:=heap_lt hw.hd;by_cases hL:m.L=[]
   ·have hdue:=hw.due;rw [hL] at hdue;have HLE:=hid (hqleast_none m.hq m.Fh m.T wr hdue);have hfin:b'=tickB b q:=htk.done HFI.out (due_all hr (by rw [hL];intro x hx;cases hx));have HFIN:=hid hfin;clear hw hr htk hkp hT hk hL hdue hfin;go_wp2_with fail;refine HLE.out.mono ?_;rintro e w2 ⟨rfl,hb2⟩;have HB2:=hid hb2;clear hb2;go_wp2_with fail;go_ret;unfold BTick;rw [if_neg HN.out,←HFIN.out];have hb3:=HB2.out.trans ((new1 w2 (.cells #[.int .i64 0,.int .u32 0] 214)).2.2.mono HB2.out.size);exact ⟨rfl,⟨m,HW.out.new hb3,HR.out,rfl,rfl,HT.out⟩,HKP2.out.trans (Kp.of_new hb3)⟩
   ·have HLE:=hid (hqleast_some m.hq m.Fh m.T m.L wr hw.due hL);clear hw hr htk hkp hT hk hL;go_wp2_with fail;refine HLE.out.mono ?_;rintro e w2 ⟨⟨u,i,a⟩,hxL,hmin,rfl,hb2⟩;obtain ⟨⟨yi,ys,yu⟩,hg,hyu,hu0⟩:=due_of HR.out hxL;dsimp only at hg hyu hu0;obtain ⟨s1,s2,s3,s4⟩:=HR.out.seatOf hg;dsimp only at s1 s2 s3 s4;subst hyu s4;have HMIN:=hid hmin;have N:=new1 w2 (.cells #[.int .i64 yu,.int .u32 yi] 214);have hb3:=hb2.trans (N.2.2.mono hb2.size);by_cases hle:q<yu
    ·have hfin:b'=tickB b q:=HTK2.out.done HFI.out (due_all HR.out (fun x hx=>by
      have:=HMIN.out x hx;unfold HeapPlain.le HeapPlain.lt at this;dsimp only at this;omega))
     have HFIN:=hid hfin;have HB3:=hid hb3;clear hfin hb3 N hmin hg hu0 hxL hb2 s1 s2 s3;go_wp2_with fail;go_ret;unfold BTick;rw [if_neg HN.out,←HFIN.out];exact ⟨rfl,⟨m,HW.out.new HB3.out,HR.out,rfl,rfl,HT.out⟩,HKP2.out.trans (Kp.of_new HB3.out)⟩
    ·have hle':¬q<yu:=hle;have hi9:yi<4294967296:=by
      obtain ⟨g0,g1,g2,g3⟩:=get_some HR.out.fine hg;rcases HR.out.fine.ok _ (yi,ys,yu) g2 with e | ⟨_,e,_⟩
      ·injection e with e1 e2;exact absurd e1 g0
      ·exact e
     have HY:=hid (And.intro hg (And.intro hu0 (And.intro s1 (And.intro s2 s3))));have hW3:=HW.out.new hb3;have HG:=hid (bget_yes m yi ys (yi,ys,yu) _ hW3 hi9 s1 s2);have HB3:=hid hb3;obtain ⟨g0,_,g1,_⟩:=cells2 N.1;clear hb3 N hmin hg hu0 hxL hb2 s1 s2 s3 hle hW3;go_wp2_with fail;refine HG.out.mono ?_;rintro e w4 ⟨rfl,hB4,hK4⟩;have N4:=new1 w4 (.cells #[.int .u32 yi,.int .i64 ys,.int .i64 yu] 160);have hB5:=hB4.new N4.2.2;obtain ⟨v0,_,v1,_,v2,_⟩:=cells3 N4.1;have HDR:=hid (bdropx_any m (uB b') yi ys yu _ hB5 HR.out.lk hi9 (by have:=HK.out;have:=HT.out;omega) HY.out.2.2.1 HY.out.2.2.2.2);have HK5:Hid (Kp m.F w (w4.alloc (.cells #[.int .u32 yi,.int .i64 ys,.int .i64 yu] 160))):=hid (((HKP2.out.trans (Kp.of_new HB3.out)).trans hK4).trans (Kp.of_new N4.2.2));clear N4 hB5 hB4 hK4;go_wp2_with fail;refine HDR.out.mono ?_;rintro e w6 ⟨rfl,L',T',H',hB6,hL6,hT6,hT7,hln,hK6⟩;have hr6:=HR.out.drop (T':=T') HY.out.1 hL6;have hnd:nT (dropB b' ys).l + 1=nT b'.l:=by
      obtain ⟨g0,g1,g2,g3⟩:=get_some HR.out.fine HY.out.1;exact nT_drop g2 (by rw [g1];exact g0)
     have htk6:Ticked b (dropB b' ys) q:=by
      obtain ⟨g0,g1,g2,g3⟩:=get_some HR.out.fine HY.out.1;refine HTK2.out.drop HFI.out g2 (decide_eq_true ⟨HY.out.2.1,by dsimp only;omega⟩)
     have HREL:Hid (∃b'',nT (dropB b' ys).l = nT b''.l∧Ticked b b'' q∧Bkk w6 m.p m.F K b''∧Kp m.F w w6):=hid ⟨_,rfl,htk6,⟨_,hB6,hr6,rfl,rfl,by have:=HT.out;dsimp only;omega⟩,HK5.out.trans hK6⟩;have HND:=hid hnd;clear hB6 hL6 hT6 hT7 hln hK6 hr6 hnd htk6;go_wp2_with fail;go_roundg (nT (dropB b' ys).l)
     case measure=>have:=HND.out;have:=HGK.out;omega
     case rel=>exact HREL.out
end
end Go.Proofs.YtdjiopacieadpaaGreatDoor

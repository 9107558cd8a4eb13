/- TopNear: part Pbg: WlA WlB WlC WlD WlE. -/
import Derived.Test.YtdjiopacieadpaaGreatDoorPba
set_option linter.unusedVariables false
set_option linter.unusedSimpArgs false
set_option maxRecDepth 8000
set_option maxHeartbeats 8000000
namespace Go.Proofs.YtdjiopacieadpaaGreatDoor
section
open Go.RowKit FlatPlain
structure Lg where
 beg:Nat
 dur:Nat
 last:Nat
 ep:Nat
 B:List Nat
def MX:Nat:=18446744073709551616
structure Wl (w:World)(l r p z f k:Nat)(L:Lg)(v:Value):Prop where
 hd:w.heap[l]?=some (.cells #[v,.int .i64 L.beg,.int .u64 L.dur,.int .u64 L.last,.pointer (some ⟨r,0,none⟩),.int .u64 L.ep] 175 (0,0))
 rg:Rg w r p z f k
 own:w.ownsRow 0 5 1 v L.B.length (Lb L.B)
 bs:Bs L.B
 fit:L.beg+L.B.length≤k*z
 big:k*z≤1000000
 hl:L.last<MX
 he:L.ep<MX
 hdl:L.dur≤L.last
 pend:L.dur<L.last↔0<L.B.length
def Wf (l:Nat)(v:Value):Nat→Prop:=fun x=>x=l∨v.ownBlock=some x
theorem Wl.lt {w:World}{l r p z f k:Nat}{L:Lg}{v:Value}(h:Wl w l r p z f k L v):∀x,Wf l v x→x<w.heap.size:=by
 rintro x (rfl | e)
 ·exact heap_lt h.hd
 ·rcases h.own.2 with ⟨h2,_⟩ | ⟨g,cap,cur,h2,_,hg,_⟩
  ·rw [h2] at e;cases e
  ·rw [h2] at e;injection e with e;subst e;exact heap_lt hg
theorem Wl.stay {w w':World}{l r p z f k:Nat}{L:Lg}{v:Value}{G:Nat→Prop}(h:Wl w l r p z f k L v)(hk:Kp G w w')(hG:∀x,Wf l v x→ ¬G x)(hr:¬G r):Wl w' l r p z f k L v:=
 ⟨hk.blk h.hd (hG l (Or.inl rfl)),h.rg.kp hk hr,own_kp h.own hk (fun b e=>hG b (Or.inr e)),h.bs,h.fit,h.big,h.hl,h.he,h.hdl,h.pend⟩
theorem Wl.new {w w':World}{l r p z f k:Nat}{L:Lg}{v:Value}(h:Wl w l r p z f k L v)(hb:Below w.heap.size w w'):Wl w' l r p z f k L v:=h.stay (G:=nob) (Kp.of_new hb) (fun _ _ h=>h) (fun h=>h)
theorem Wl.drewN {w:World}{l r p z f k:Nat}{L:Lg}{v:Value}(h:Wl w l r p z f k L v)(q:Nat):Wl (w.drewN q) l r p z f k L v:=⟨h.hd,h.rg,h.own,h.bs,h.fit,h.big,h.hl,h.he,h.hdl,h.pend⟩
theorem lmade_any (l r p z f k:Nat)(L:Lg)(v:Value)(w:World)(h:Wl w l r p z f k L v):Calls Tryz.prog 132 #[.pointer (some ⟨l,0,none⟩)] w fun e w'=>e = .returned (.bool true)∧w=w':=by
 obtain ⟨c0,_,c1,_,c2,_,c3,_,c4,_,c5,_⟩:=cells6 h.hd;clear h;go_enter Tryz.func132,Tryz.ntmps132;go_wp2;go_ret;exact ⟨rfl,rfl⟩
theorem tused_any (l r p z f k:Nat)(L:Lg)(v:Value)(w:World)(h:Wl w l r p z f k L v):Calls Tryz.prog 133 #[.pointer (some ⟨l,0,none⟩)] w fun e w'=> ∃q,e = .returned (.int .i64 ((L.beg+L.B.length:Nat):Int))∧w'=w.drewN q:=by
 obtain ⟨oa,rn,rfl,_,_⟩:=own_form h.own;obtain ⟨c0,_,c1,_,c2,_,c3,_,c4,_,c5,_⟩:=cells6 h.hd;obtain ⟨n,hn⟩:∃n,L.B.length=n:=⟨_,rfl⟩;have hf:=h.fit;have hb:=h.big;rw [hn] at hf c0 ⊢;have h1:L.beg≤1000000:=by omega
 have h2:n≤1000000:=by omega
 clear h hf hb hn;go_enter Tryz.func133,Tryz.ntmps133;go_wp2;go_quiet (fail)
 go_wp2;go_ret;exact ⟨_,by go_num,rfl⟩
theorem lused_any (l r p z f k:Nat)(L:Lg)(v:Value)(w:World)(h:Wl w l r p z f k L v):Calls Tryz.prog 74 #[.pointer (some ⟨l,0,none⟩)] w fun e w'=> ∃q,e = .returned (.int .i64 ((L.beg+L.B.length:Nat):Int))∧w'=w.drewN q:=by
 have H:=hid h;have HM:=hid (lmade_any l r p z f k L v w h);have HU:=hid (tused_any l r p z f k L v w h);obtain ⟨c0,_,c1,_,c2,_,c3,_,c4,_,c5,_⟩:=cells6 h.hd;clear h;go_enter Tryz.func74,Tryz.ntmps74;go_wp2_with fail;refine HM.out.mono ?_;rintro e w' ⟨rfl,rfl⟩;go_wp2_with fail;refine HU.out.mono ?_;rintro e w' ⟨q,rfl,rfl⟩;go_wp2_with fail;go_ret;exact ⟨_,rfl,rfl⟩
theorem lroom_any (l r p z f k:Nat)(L:Lg)(v:Value)(w:World)(h:Wl w l r p z f k L v):Calls Tryz.prog 73 #[.pointer (some ⟨l,0,none⟩)] w fun e w'=> ∃q,e = .returned (.int .i64 ((k*z-(L.beg+L.B.length):Nat):Int))∧w'=w.drewN q:=by
 have HM:=hid (lmade_any l r p z f k L v w h);have HU:=hid (fun w' (hb:Below w.heap.size w w')=>tused_any l r p z f k L v w' (h.new hb));have HB:=hid (fun w' (hb:Below w.heap.size w w')=>rbytes_any r p z f k (k*z) w' (h.rg.new hb) rfl (by have:=h.big;omega));obtain ⟨c0,_,c1,_,c2,_,c3,_,c4,_,c5,_⟩:=cells6 h.hd;have hf:=h.fit;have hb:=h.big;have H:=hid h;obtain ⟨m,hm⟩:∃m,k*z=m:=⟨_,rfl⟩;obtain ⟨u,hu⟩:∃u,L.beg+L.B.length=u:=⟨_,rfl⟩;rw [hm] at hf hb;rw [hu] at hf;have hw1:IntKind.i64.wrap ((m:Int)-(u:Int))=((m-u:Nat):Int):=by rw [IntKind.wrap_i64];omega
 rw [hm] at HB ⊢;rw [hu] at HU ⊢;clear h hm hu;go_enter Tryz.func73,Tryz.ntmps73;go_wp2_with fail;refine HM.out.mono ?_;rintro e w' ⟨rfl,rfl⟩;go_wp2_with fail;go_quiet (first | (go_at_call 72;exact Calls.quiet_of ((HB.out _ (below_drewN (Below.refl _ _) _)).mono (fun _ _ ⟨m,h1,h2⟩=>⟨h1,m,h2⟩))) | (go_at_call 133;exact Calls.quiet_of ((HU.out _ (below_drewN (Below.refl _ _) _)).mono (fun _ _ ⟨m,h1,h2⟩=>⟨h1,m,h2⟩))))
 go_wp2_with fail;go_ret;exact ⟨_,rfl,rfl⟩
theorem llast_any (l r p z f k:Nat)(L:Lg)(v:Value)(w:World)(h:Wl w l r p z f k L v):Calls Tryz.prog 138 #[.pointer (some ⟨l,0,none⟩)] w fun e w'=>e = .returned (.int .u64 L.last)∧w=w':=by
 have HM:=hid (lmade_any l r p z f k L v w h);obtain ⟨c0,_,c1,_,c2,_,c3,_,c4,_,c5,_⟩:=cells6 h.hd;clear h;go_enter Tryz.func138,Tryz.ntmps138;go_wp2_with fail;refine HM.out.mono ?_;rintro e w' ⟨rfl,rfl⟩;go_wp2_with fail;go_ret;exact ⟨rfl,rfl⟩
theorem lnext_any (l r p z f k:Nat)(L:Lg)(v:Value)(w:World)(h:Wl w l r p z f k L v):Calls Tryz.prog 177 #[.pointer (some ⟨l,0,none⟩)] w fun e w'=>e = .returned (if L.last+1=MX then .tuple #[.int .u64 0,.bool false] else .tuple #[.int .u64 ((L.last+1:Nat):Int),.bool true])∧w=w':=by
 obtain ⟨c0,_,c1,_,c2,_,c3,_,c4,_,c5,_⟩:=cells6 h.hd;have hl:=h.hl;unfold MX at hl ⊢;clear h;by_cases e:L.last+1=18446744073709551616
 ·have eI:(L.last:Int)=18446744073709551615:=by omega
  rw [if_pos e];go_enter Tryz.func177,Tryz.ntmps177;go_wp2;go_ret2;exact ⟨rfl,rfl⟩
 ·have eI:¬((L.last:Int)=18446744073709551615):=by omega
  have hw:IntKind.u64.wrap ((L.last:Int)+1)=((L.last+1:Nat):Int):=by rw [IntKind.wrap_u64];omega
  rw [if_neg e];go_enter Tryz.func177,Tryz.ntmps177;go_wp2;go_ret2;exact ⟨rfl,rfl⟩
def room (k z:Nat)(L:Lg):Nat:=k*z-(L.beg+L.B.length)
def fitsB (k z:Nat)(L:Lg)(n:Nat):Prop:=L.last+1≠MX∧22+n≤room k z L
theorem lfits_any (l r p z f k n:Nat)(L:Lg)(v:Value)(w:World)(h:Wl w l r p z f k L v)(hn:n≤32):Calls Tryz.prog 176 #[.pointer (some ⟨l,0,none⟩),.int .i64 n] w fun e w'=> ∃q b,e = .returned (.bool b)∧(b=true↔fitsB k z L n)∧w'=w.drewN q:=by
 have HM:=hid (lmade_any l r p z f k L v w h);have HN:=hid (lnext_any l r p z f k L v w h);have HS:=hid (fsize_any n w hn);have HR:=hid (lroom_any l r p z f k L v w h);obtain ⟨c0,_,c1,_,c2,_,c3,_,c4,_,c5,_⟩:=cells6 h.hd;have hl:=h.hl;have hbig:=h.big;obtain ⟨R,hR⟩:∃R,k*z-(L.beg+L.B.length)=R:=⟨_,rfl⟩;have hfe:fitsB k z L n↔(L.last+1≠MX∧22+n≤R):=by unfold fitsB room;rw [hR]
 have HF:=hid hfe;have hRb:R≤1000000:=by omega
 rw [hR] at HR;clear h hR hfe hbig;go_enter Tryz.func176,Tryz.ntmps176;go_wp2_with fail;refine HM.out.mono ?_;rintro e w' ⟨rfl,rfl⟩;have hnx:=HN.out;clear HN;by_cases e:L.last+1=MX
 ·rw [if_pos e] at hnx;have HN:=hid hnx;clear hnx;go_wp2_with fail;refine HN.out.mono ?_;rintro e2 w' ⟨rfl,rfl⟩;go_wp2_with fail;go_ret;exact ⟨0,_,rfl,by rw [HF.out];simp [e],rfl⟩
 ·rw [if_neg e] at hnx;have HN:=hid hnx;clear hnx;go_wp2_with fail;refine HN.out.mono ?_;rintro e2 w' ⟨rfl,rfl⟩;go_wp2_with fail;refine HS.out.mono ?_;rintro e2 w' ⟨rfl,rfl⟩;go_wp2_with fail;refine HR.out.mono ?_;rintro e2 w' ⟨q,rfl,rfl⟩;go_wp2_with fail;go_ret;exact ⟨q,_,rfl,by rw [HF.out];simp [e];omega,rfl⟩
def settled (L:Lg):Lg:=⟨L.beg+L.B.length,L.last,L.last,L.ep,[]⟩
theorem Wl.set {w:World}{l r p z f k:Nat}{L L':Lg}{v v':Value}{w':World}(h:Wl w l r p z f k L v)(hd:w'.heap[l]?=some (.cells #[v',.int .i64 L'.beg,.int .u64 L'.dur,.int .u64 L'.last,.pointer (some ⟨r,0,none⟩),.int .u64 L'.ep] 175 (0,0)))(hk:Kp (Wf l v) w w')(hrv:v.ownBlock≠some r)(hrl:r≠l)(own:w'.ownsRow 0 5 1 v' L'.B.length (Lb L'.B))(bs:Bs L'.B)(fit:L'.beg+L'.B.length≤k*z)(hl:L'.last<MX)(he:L'.ep<MX)(hdl:L'.dur≤L'.last)(pend:L'.dur<L'.last↔0<L'.B.length):Wl w' l r p z f k L' v':=
 ⟨hd,h.rg.kp hk (fun e=>by rcases e with e | e;exact hrl e;exact hrv e),own,bs,fit,h.big,hl,he,hdl,pend⟩
theorem Wl.apart {w:World}{l r p z f k:Nat}{L:Lg}{v:Value}(h:Wl w l r p z f k L v):v.ownBlock≠some r∧r≠l∧v.ownBlock≠some l:=by
 have key:∀g,v.ownBlock=some g→ ∃cur,w.heap[g]?=some (.cells cur 5 (0,0)):=by
  intro g e;rcases h.own.2 with ⟨h2,_⟩ | ⟨g',cap,cur,h2,_,hg,_⟩
  ·rw [h2] at e;cases e
  ·rw [h2] at e;injection e with e;subst e;exact ⟨cur,hg⟩
 refine ⟨fun e=>?_,fun e=>?_,fun e=>?_⟩
 ·obtain ⟨cur,hc⟩:=key _ e;rw [show w.heap[r]?=_ from h.rg] at hc;injection hc with hc;injection hc with _ hc _;cases hc
 ·have:=h.rg.symm.trans ((congrArg (fun x=>w.heap[x]?) e).trans h.hd);injection this with this;injection this with _ this _;cases this
 ·obtain ⟨cur,hc⟩:=key _ e;rw [h.hd] at hc;injection hc with hc;injection hc with _ hc _;cases hc
theorem lsettle_any (l r p z f k:Nat)(L:Lg)(v:Value)(w:World)(h:Wl w l r p z f k L v):Calls Tryz.prog 173 #[.pointer (some ⟨l,0,none⟩)] w fun e w'=>(∃x,e = .returned x)∧Wl w' l r p z f k (settled L) (.slice none 0 0)∧Kp (fun x=>x=l) w w':=by
 obtain ⟨oa,rn,rfl,_,_⟩:=own_form h.own;obtain ⟨c0,y0,c1,y1,c2,y2,c3,y3,c4,y4,c5,y5⟩:=cells6 h.hd;obtain ⟨n,hn⟩:∃n,L.B.length=n:=⟨_,rfl⟩;have hf:=h.fit;have hb:=h.big;have H:=hid h;rw [hn] at hf c0;have h1:L.beg≤1000000:=by omega
 have h2:n≤1000000:=by omega
 have HN:=hid hn;clear h hf hb hn;go_enter Tryz.func173,Tryz.ntmps173;go_wp2_with fail;go_region
 have hW:Wl ((((w.setCell ⟨l,1,none⟩ (.int .i64 ((L.beg:Int)+(n:Int)))).drew).setCell ⟨l,0,none⟩ (.slice none 0 0)).setCell ⟨l,2,none⟩ (.int .u64 L.last)) l r p z f k (settled L) (.slice none 0 0)∧Kp (fun x=>x=l) w ((((w.setCell ⟨l,1,none⟩ (.int .i64 ((L.beg:Int)+(n:Int)))).drew).setCell ⟨l,0,none⟩ (.slice none 0 0)).setCell ⟨l,2,none⟩ (.int .u64 L.last)):=by
  have e:((L.beg:Int)+(n:Int))=(((settled L).beg : Nat):Int):=by show _=((L.beg+L.B.length:Nat):Int);rw [HN.out];omega
  rw [e];obtain ⟨a1,a2,a3⟩:=H.out.apart;have hd:=heap_setCell_same _ l 2 _ 175 (.int .u64 L.last) (heap_setCell_same _ l 0 _ 175 (.slice none 0 0) (heap_setCell_same w l 1 _ 175 (.int .i64 ((settled L).beg : Int)) H.out.hd));have hk:Kp (fun x=>x=l) w ((((w.setCell ⟨l,1,none⟩ (.int .i64 ((settled L).beg : Int))).drew).setCell ⟨l,0,none⟩ (.slice none 0 0)).setCell ⟨l,2,none⟩ (.int .u64 L.last)):=(((((Kp.refl (fun x=>x=l) w).setCell (p:=⟨l,1,none⟩) rfl _).drew).setCell (p:=⟨l,0,none⟩) rfl _).setCell (p:=⟨l,2,none⟩) rfl _);exact ⟨H.out.set hd (hk.mono (fun x e=>Or.inl e)) a1 a2 ⟨rfl,Or.inl ⟨rfl,rfl⟩⟩ (fun y hy=>by cases hy) (by show L.beg+L.B.length+0≤_;exact H.out.fit) H.out.hl H.out.he (Nat.le_refl _) ⟨fun e=>absurd e (Nat.lt_irrefl _),fun e=>absurd e (Nat.lt_irrefl 0)⟩,hk⟩
 have HW:=hid hW;clear hW;go_wp2_with fail;go_end0
 exact ⟨⟨_,rfl⟩,HW.out.1,HW.out.2⟩
theorem lreset_any (l r p z f k ep:Nat)(L:Lg)(v:Value)(w:World)(h:Wl w l r p z f k L v)(hep:ep<MX):Calls Tryz.prog 139 #[.pointer (some ⟨l,0,none⟩),.int .u64 ep] w fun e w'=>e = .returned (.int .i64 0)∧Wl w' l r p z f k ⟨0,L.last,L.last,ep,[]⟩ (.slice none 0 0)∧Kp (fun x=>x=l) w w':=by
 have H:=hid h;have HM:=hid (lmade_any l r p z f k L v w h);have HS:=hid (lsettle_any l r p z f k L v w h);have HE:=hid hep;clear h hep;go_enter Tryz.func139,Tryz.ntmps139;go_wp2_with fail;refine HM.out.mono ?_;rintro e w' ⟨rfl,rfl⟩;go_wp2_with fail;refine HS.out.mono ?_;rintro e w1 ⟨⟨x,rfl⟩,h1,hk1⟩;obtain ⟨c0,y0,c1,y1,c2,y2,c3,y3,c4,y4,c5,y5⟩:=cells6 h1.hd;have hW:Wl ((w1.setCell ⟨l,1,none⟩ (.int .i64 0)).setCell ⟨l,5,none⟩ (.int .u64 ep)) l r p z f k ⟨0,L.last,L.last,ep,[]⟩ (.slice none 0 0)∧Kp (fun x=>x=l) w ((w1.setCell ⟨l,1,none⟩ (.int .i64 0)).setCell ⟨l,5,none⟩ (.int .u64 ep)):=by
  obtain ⟨a1,a2,a3⟩:=h1.apart;have hd:=heap_setCell_same _ l 5 _ 175 (.int .u64 ep) (heap_setCell_same w1 l 1 _ 175 (.int .i64 0) h1.hd);have hk:Kp (fun x=>x=l) w1 ((w1.setCell ⟨l,1,none⟩ (.int .i64 0)).setCell ⟨l,5,none⟩ (.int .u64 ep)):=((Kp.refl (fun x=>x=l) w1).setCell (p:=⟨l,1,none⟩) rfl _).setCell (p:=⟨l,5,none⟩) rfl _;exact ⟨h1.set hd (hk.mono (fun x e=>Or.inl e)) a1 a2 ⟨rfl,Or.inl ⟨rfl,rfl⟩⟩ (fun y hy=>by cases hy) (Nat.zero_le _) H.out.hl HE.out (Nat.le_refl _) ⟨fun e=>absurd e (Nat.lt_irrefl _),fun e=>absurd e (Nat.lt_irrefl 0)⟩,hk1.trans hk⟩
 have HW:=hid hW;clear hW h1 hk1;go_wp2_with fail;go_ret;exact ⟨rfl,HW.out.1,HW.out.2⟩
theorem lnew_any (r p z f k ep seq:Nat)(w:World)(h:Rg w r p z f k)(hk:0<k*z)(hb:k*z≤1000000)(hep:ep<MX)(hseq:seq<MX):Calls Tryz.prog 27 #[.pointer (some ⟨r,0,none⟩),.int .u64 ep,.int .u64 seq] w fun e w'=> ∃l,e = .returned (.tuple #[.pointer (some ⟨l,0,none⟩),.int .i64 0])∧Wl w' l r p z f k ⟨0,seq,seq,ep,[]⟩ (.slice none 0 0)∧w.heap.size≤l∧Below w.heap.size w w':=by
 have H:=hid h;have HB:=hid (rbytes_any r p z f k (k*z) w h rfl (by omega));have HK:=hid (And.intro hk (And.intro hb (And.intro hep hseq)));obtain ⟨m,hm⟩:∃m,k*z=m:=⟨_,rfl⟩;rw [hm] at HB hk hb;have hne:¬((m:Int)=0):=by omega
 clear h hm;go_enter Tryz.func27,Tryz.ntmps27;go_wp2_with fail;refine HB.out.mono ?_;rintro e w' ⟨q,rfl,rfl⟩;have hW:Wl ((w.drewN q).alloc (.cells #[.slice none 0 0,.int .i64 0,.int .u64 seq,.int .u64 seq,.pointer (some ⟨r,0,none⟩),.int .u64 ep] 175)) w.heap.size r p z f k ⟨0,seq,seq,ep,[]⟩ (.slice none 0 0)∧Below w.heap.size w ((w.drewN q).alloc (.cells #[.slice none 0 0,.int .i64 0,.int .u64 seq,.int .u64 seq,.pointer (some ⟨r,0,none⟩),.int .u64 ep] 175)):=by
  have N:=new1 (w.drewN q) (.cells #[.slice none 0 0,.int .i64 0,.int .u64 seq,.int .u64 seq,.pointer (some ⟨r,0,none⟩),.int .u64 ep] 175);have hb:Below w.heap.size w ((w.drewN q).alloc (.cells #[.slice none 0 0,.int .i64 0,.int .u64 seq,.int .u64 seq,.pointer (some ⟨r,0,none⟩),.int .u64 ep] 175)):=(below_drewN (Below.refl _ _) q).trans N.2.2;exact ⟨⟨N.1,H.out.new hb,⟨rfl,Or.inl ⟨rfl,rfl⟩⟩,(fun y hy=>by cases hy),Nat.zero_le _,HK.out.2.1,HK.out.2.2.2,HK.out.2.2.1,Nat.le_refl _,⟨fun e=>absurd e (Nat.lt_irrefl _),fun e=>absurd e (Nat.lt_irrefl 0)⟩⟩,hb⟩
 have HW:=hid hW;clear hW;go_wp2_with fail;go_ret2;exact ⟨_,rfl,HW.out.1,Nat.le_refl _,HW.out.2⟩
def appended (L:Lg)(b:List Nat):Lg:=⟨L.beg,L.dur,L.last+1,L.ep,L.B++frameF L.ep (L.last+1) b⟩
def LApp (w:World)(l r p z f k:Nat)(L:Lg)(v:Value)(b:List Nat)(e:Ending)(w':World):Prop:=
 (¬fitsB k z L b.length∧e = .returned (.tuple #[.int .u64 0,.int .i64 6])∧Below w.heap.size w w')∨
 (fitsB k z L b.length∧e = .returned (.tuple #[.int .u64 ((L.last+1:Nat):Int),.int .i64 0])∧ ∃v',Wl w' l r p z f k (appended L b) v'∧Step (Wf l v) (Wf l v') w w')
theorem lappend_any (l r p z f k:Nat)(L:Lg)(v bv:Value)(b:List Nat)(w:World)(h:Wl w l r p z f k L v)(hb:Sl w bv (Lb b))(hbs:Bs b)(h0:0<b.length)(h32:b.length≤32)(hT:Tab w):Calls Tryz.prog 142 #[.pointer (some ⟨l,0,none⟩),bv] w (LApp w l r p z f k L v b):=by
 obtain ⟨ba,bc,rfl,_,_⟩:=Sl_partsB hb;obtain ⟨oa,rn,rfl,_,_⟩:=own_form h.own;have H:=hid h;have HM:=hid (lmade_any l r p z f k L _ w h);have HF:=hid (lfits_any l r p z f k b.length L _ w h h32);have HB:=hid hb;have HBS:=hid hbs;have HT:=hid hT;obtain ⟨n,hn⟩:∃n,b.length=n:=⟨_,rfl⟩;have HN:=hid hn;rw [hn] at HF h32 h0;have hnI:¬((n:Int)>32):=by omega
 clear h hb hbs hT;unfold LApp;rw [hn];go_enter Tryz.func142,Tryz.ntmps142;go_wp2_with fail;refine HM.out.mono ?_;rintro e w' ⟨rfl,rfl⟩;go_wp2_with fail;refine HF.out.mono ?_;rintro e w' ⟨q,ok,rfl,hok,rfl⟩;by_cases hfit:fitsB k z L n
 ·obtain rfl:ok=true:=hok.2 hfit;clear hok;obtain ⟨c0,y0,c1,y1,c2,y2,c3,y3,c4,y4,c5,y5⟩:=cells6 (H.out.drewN q).hd;have hnx:=lnext_any l r p z f k L _ (w.drewN q) (H.out.drewN q);rw [if_neg hfit.1] at hnx;have HX:=hid hnx;have hl1:L.last+1<18446744073709551616:=by have:=H.out.hl;have:=hfit.1;unfold MX at *;omega
  have hP:=fput_any L.ep (L.last+1) b (.slice ba n bc) (w.drewN q) (by rw [←HN.out];exact HB.out) HBS.out (by omega) (by omega) H.out.he hl1 HT.out;obtain ⟨l1,hl1e⟩:∃l1,L.last+1=l1:=⟨_,rfl⟩;rw [hl1e] at hP;have HP:=hid hP;rw [hl1e] at HX;have HL1:=hid hl1e;have HFIT:=hid hfit;have HL1B:=hid hl1;clear hnx hP hfit hl1;go_wp2_with fail;refine HX.out.mono ?_;rintro e w' ⟨rfl,rfl⟩;go_wp2_with fail;refine HP.out.mono ?_;rintro e w2 ⟨v2,rfl,ho2,hb2⟩;have hW2:=(H.out.drewN q).new hb2;have hfl:(frameF L.ep l1 b).length = 22+n:=by rw [frameF_len,HN.out]
  rw [hfl] at ho2;obtain ⟨g2,cap2,rfl,hg2,hg2l⟩:=ho2.form (by omega);have hs2:Sl w2 (.slice (some ⟨g2,0,none⟩) (22+n) cap2) (Lb (frameF L.ep l1 b)):=Sl_of_own ho2;have hnews:∀j u,(Lb (frameF L.ep l1 b))[j]?=some u→w2.cell? ((⟨g2,0,none⟩:Addr).add j)=some u:=by
   intro j u hu;have hadd:(⟨g2,0,none⟩:Addr).add j=⟨g2,j,none⟩:=by unfold Addr.add;split<;>simp_all
   rw [hadd];obtain ⟨x,c9,e1,_,_,h3⟩:=hs2;rcases h3 with ⟨h3,_⟩ | ⟨b3,off,e,_,h4⟩
   ·have:=congrArg List.length h3;rw [Lb_len,hfl] at this;simp only [List.length_nil] at this;omega
   ·subst e;injection e1 with e1 _ _;injection e1 with e1;injection e1 with e1 e2 _;subst e1;subst e2;have:=h4 j u hu;rw [Nat.zero_add] at this;exact this
  obtain ⟨m,hm⟩:∃m,L.B.length=m:=⟨_,rfl⟩;have hmb:m≤1000000:=by have:=H.out.fit;have:=H.out.big;omega
  have HW2:=hid hW2;have HAP:=hid (show some l≠(Value.slice oa m rn).ownBlock from by rw [←hm];exact fun e=>hW2.apart.2.2 e.symm);have HB2:=hid hb2;have HFL:=hid hfl;have HNEWS:=hid hnews;have HM2:=hid hm;have HSZ:=hid hb2.size;have hown0:=hW2.own;rw [hm] at hown0;have HOWN0:=hid hown0;obtain ⟨i0,hi0,hz0,hz1,hz3⟩:=info_parts info5;have HI0:=hid hi0;have HZ3:=hid hz3;rw [hm] at c0;clear c0 y0 c1 y1 c2 y2 c3 y3 c4 y4 c5 y5 hi0 hz3;obtain ⟨c0,y0,c1,y1,c2,y2,c3,y3,c4,y4,c5,y5⟩:=cells6 hW2.hd;rw [hm] at c0;clear hW2 hb2 hnews hm ho2 hs2 hfl hown0;go_wp2_with (at_builtin;refine wpList_append_lies _ rfl _ _ 34 rfl 0 5 i0 (.int .u8 0) 1 1 Tryz.underlying34 HI0.out hz0 hz1 HZ3.out rfl (by decide) (.slice oa m rn) m (Lb L.B) rfl HOWN0.out ⟨g2,0,none⟩ (22+n) cap2 (Lb (frameF L.ep l1 b)) rfl (by rw [Lb_len,HFL.out];omega) HNEWS.out (Lb_one _) (by omega) (by unfold maxLen;omega) (by omega) (Nat.zero_le _) w2.heap.size rfl ?_;intro g4 cap4 w4 hown4 hgrow4 hat4 hlt4;have hl4:=(hgrow4.block l (heap_lt HW2.out.hd) HAP.out).trans HW2.out.hd;have HO4:=hid hown4;have HG4:=hid hgrow4;have HA4:=hid hat4;have HL4:=hid hl4;clear hown4 hgrow4 hat4 c0 y0 c1 y1 c2 y2 c3 y3 c4 y4 c5 y5;obtain ⟨c0,y0,c1,y1,c2,y2,c3,y3,c4,y4,c5,y5⟩:=cells6 hl4;clear hl4);go_ret2;have hw9:=heap_setCell_same _ l 3 _ 175 (.int .u64 l1) (heap_setCell_same w4 l 0 _ 175 (.slice (some ⟨g4,0,none⟩) (m+(22+n)) cap4) HL4.out);obtain ⟨a1,a2,a3⟩:=HW2.out.apart;have hk4:Kp (Wf l (.slice oa m rn)) w2 w4:=(Kp.refl _ w2).grown HG4.out (fun x e=>Or.inl (Or.inr e));have hk9:Kp (Wf l (.slice oa m rn)) w2 ((w4.setCell ⟨l,0,none⟩ (.slice (some ⟨g4,0,none⟩) (m+(22+n)) cap4)).setCell ⟨l,3,none⟩ (.int .u64 l1)):=(hk4.setCell (p:=⟨l,0,none⟩) (Or.inl rfl) _).setCell (p:=⟨l,3,none⟩) (Or.inl rfl) _;have hkw:Kp (Wf l (.slice oa m rn)) w ((w4.setCell ⟨l,0,none⟩ (.slice (some ⟨g4,0,none⟩) (m+(22+n)) cap4)).setCell ⟨l,3,none⟩ (.int .u64 l1)):=(((Kp.refl _ w).drewN q).trans (Kp.of_new HB2.out)).trans hk9;have hgl:g4≠l:=by
   rintro rfl;rcases HA4.out with e | e
   ·rw [HM2.out] at a3;exact a3 e
   ·have:=heap_lt HW2.out.hd;omega
  refine Or.inr ⟨HFIT.out,by rw [HL1.out];rfl,.slice (some ⟨g4,0,none⟩) (m+(22+n)) cap4,?_,?_⟩
  ·have hlen:(appended L b).B.length = m+(22+n):=by show (L.B++frameF L.ep (L.last+1) b).length = _;rw [HL1.out,List.length_append,HM2.out,HFL.out]
   have hroom:=HFIT.out.2;unfold room at hroom;rw [HM2.out] at hroom;rw [HM2.out] at a1;have hWs:=HW2.out;rw [HM2.out] at hWs;refine hWs.set (L':=appended L b) (v':= .slice (some ⟨g4,0,none⟩) (m+(22+n)) cap4) ?_ hk9 a1 a2 ?_ ?_ ?_ ?_ H.out.he ?_ ?_
   ·show _=some (Obj.cells #[_,.int .i64 L.beg,.int .u64 L.dur,.int .u64 ((L.last+1:Nat):Int),_,.int .u64 L.ep] 175 (0,0))
    rw [HL1.out];exact hw9
   ·rw [hlen];show World.ownsRow _ 0 5 1 _ _ (Lb (L.B++frameF L.ep (L.last+1) b))
    rw [HL1.out,Lb_app];exact own_other (own_other HO4.out (p:=⟨l,0,none⟩) (by intro e;injection e with e;exact hgl e) _) (p:=⟨l,3,none⟩) (by intro e;injection e with e;exact hgl e) _
   ·show Bs (L.B++frameF L.ep (L.last+1) b)
    refine Bs_app H.out.bs ?_;unfold frameF;exact Bs_app (headF_bytes HBS.out) (le_bytes _ _)
   ·rw [hlen];show L.beg+_≤_;have:=H.out.fit;rw [HM2.out] at this;omega
   ·show L.last+1<MX;exact HL1B.out
   ·show L.dur≤L.last+1;have:=H.out.hdl;omega
   ·rw [hlen];show L.dur<L.last+1↔_;have:=H.out.hdl;omega
  ·refine ⟨by rw [HM2.out];exact hkw,?_,?_⟩
   ·rw [HM2.out];rintro x (rfl | e)
    ·exact Or.inl (Or.inl rfl)
    ·injection e with e;subst e;rcases HA4.out with e | e
     ·exact Or.inl (Or.inr e)
     ·have:=HB2.out.size;exact Or.inr (by rw [e];exact this)
   ·rintro x (rfl | e)
    ·rw [World.size_setCell,World.size_setCell];exact heap_lt HL4.out
    ·injection e with e;subst e;rw [World.size_setCell,World.size_setCell];exact hlt4
 ·obtain rfl:ok=false:=by cases ok with | false=>rfl | true=>exact absurd (hok.1 rfl) hfit
  clear hok;have HFIT:=hid hfit;clear hfit;go_wp2_with fail;go_ret2;exact Or.inl ⟨HFIT.out,rfl,below_drewN (Below.refl _ _) q⟩
theorem patch_nil (D:List Nat)(p:Nat):patch D p []=D:=by unfold patch;simp
def Aw (F:Nat→Prop)(l r:Nat)(v:Value):Prop:= ∀x,F x→ ¬Wf l v x∧x≠r
def LFl (w:World)(l r p z f k n:Nat)(D:List Nat)(F:Nat→Prop)(c:Nat)(L:Lg)(v:Value)(e:Ending)(w':World):Prop:=
 e = .returned (.int .i64 0)∧ ∃F' c' v',Wl w' l r p z f k (settled L) v'∧Pw w' p z n (patch D (f*z+L.beg) L.B) F' c' 0∧c'≤c+40000∧Aw F' l r v'∧Step (fun x=>F x∨Wf l v x) (fun x=>F' x∨Wf l v' x) w w'
theorem settled_self {L:Lg}(h1:L.dur=L.last)(h2:L.B=[]):settled L=L:=by
 unfold settled;rw [h2];cases L;simp_all
theorem lflush_any (l r p z f k n:Nat)(D:List Nat)(F:Nat→Prop)(c:Nat)(L:Lg)(v:Value)(w:World)(h:Wl w l r p z f k L v)(hp:Pw w p z n D F c 0)(ha:Aw F l r v)(hc:c+20000000<1000000000)(hfk:f+k≤n):Calls Tryz.prog 135 #[.pointer (some ⟨l,0,none⟩)] w (LFl w l r p z f k n D F c L v):=by
 obtain ⟨oa,rn,rfl,_,_⟩:=own_form h.own;have H:=hid h;have HM:=hid (lmade_any l r p z f k L _ w h);obtain ⟨c0,y0,c1,y1,c2,y2,c3,y3,c4,y4,c5,y5⟩:=cells6 h.hd;obtain ⟨m,hm⟩:∃m,L.B.length=m:=⟨_,rfl⟩;have hbeg:L.beg≤1000000:=by have:=h.fit;have:=h.big;omega
 by_cases hd:L.dur=L.last
 ·have hB:L.B=[]:=by
   have h1:=h.pend;rw [hd] at h1;exact List.eq_nil_of_length_eq_zero (by omega)
  have hdI:(L.dur:Int)=(L.last:Int):=by omega
  have hE:LFl w l r p z f k n D F c L (.slice oa L.B.length rn) (.returned (.int .i64 0)) w:=⟨rfl,F,c,_,by rw [settled_self hd hB];exact h,by rw [hB,patch_nil];exact hp,by omega,ha,Step.refl (fun b hb=>by rcases hb with e | e;exact hp.flt b e;exact h.lt b e)⟩;have HE:=hid (fun q=>(⟨hE.1,by obtain ⟨_,F',c',v',k1,k2,k3,k4,k5⟩:=hE;exact ⟨F',c',v',k1.drewN q,k2.new (below_drewN (Below.refl _ _) q),k3,k4,k5.below (below_drewN (Below.refl _ _) q)⟩⟩:LFl w l r p z f k n D F c L (.slice oa L.B.length rn) (.returned (.int .i64 0)) (w.drewN q)));clear h hp hE hB ha hm;go_enter Tryz.func135,Tryz.ntmps135;go_wp2_with fail;refine HM.out.mono ?_;rintro e w' ⟨rfl,rfl⟩;go_wp2_with fail;go_quiet (fail)
  go_wp2_with fail;go_ret;exact ⟨rfl,(HE.out _).2⟩
 ·have hdI:¬((L.dur:Int)=(L.last:Int)):=by omega
  have hB0:0<L.B.length:=h.pend.1 (by have:=h.hdl;omega);have hlt:=h.lt;have hrl:r<w.heap.size:=heap_lt h.rg;have HA:=hid ha;have HP:=hid hp;have HB0:=hid hB0;have HW:=hid (fun w' (hb:Below w.heap.size w w')=>rwrite_any r p z f k n D F c 0 L.beg (.slice oa L.B.length rn) L.B w' (h.rg.new hb) (hp.new hb) (fun e=>(ha r e).2 rfl) (by omega) (by omega) hfk h.fit (Sl_of_own (h.new hb).own) (fun b e k9=>(ha b k9).1 (Or.inr e)) hB0 h.bs);have hjb:∀j c',c'≤c+2*j→j≤L.B.length / z+2→j<100000∧c'+1≤c+40000:=by
   intro j c' h1 h2;have hz:=hp.hz.1;have h3:L.B.length / z≤L.B.length / 64:=Nat.div_le_div_left hz (by omega);have h4:L.B.length≤1000000:=by have:=h.fit;have:=h.big;omega
   omega
  have HJ:=hid hjb;have HC:=hid hc;have HRL:=hid hrl;clear h hp ha hm hlt hB0 hjb hc hrl;go_enter Tryz.func135,Tryz.ntmps135;go_wp2_with fail;refine HM.out.mono ?_;rintro e w' ⟨rfl,rfl⟩;go_wp2_with fail;go_quiet (fail)
  go_wp2_with fail;have hb1:Below w.heap.size w (w.drewN nq):=below_drewN (Below.refl _ _) nq;have HB1:=hid hb1;have h1:=H.out.new hb1;clear c0 y0 c1 y1 c2 y2 c3 y3 c4 y4 c5 y5 hb1;generalize w.drewN nq=W1 at *;obtain ⟨c0,y0,c1,y1,c2,y2,c3,y3,c4,y4,c5,y5⟩:=cells6 h1.hd;clear h1;go_still_tail 14,(by kernel_rfl)
  change wpList _ _ _ _ _ W1.drew
  have hb2:Below w.heap.size w W1.drew:=HB1.out.drew;have HW2:=hid (HW.out _ hb2);have HB2:=hid hb2;clear hb2 HW;generalize W1.drew=W2 at HW2 HB2 ⊢;go_wp2_with fail;refine HW2.out.mono ?_;rintro e w3 ⟨rfl,F1,j,c1',hst,hp3,hc3,hj3⟩;obtain ⟨hjl,hcl⟩:=HJ.out j c1' hc3 hj3;have hk3:Kp F w w3:=(Kp.of_new HB2.out).trans hst.kp;have hr3:Rg w3 r p z f k:=H.out.rg.kp hk3 (fun e=>(HA.out r e).2 rfl);have hl3:=hk3.blk H.out.hd (fun e=>(HA.out l e).1 (Or.inl rfl));have HSY:=hid (rsync_any r p z f k n _ F1 c1' (0+j) w3 hr3 hp3 (by have:=HC.out;omega) (by omega));have hF1:∀x,F1 x→F x∨w.heap.size≤x:=fun x e=>(hst.sub x e).imp id (fun h=>Nat.le_trans HB2.out.size h)
  have hA1:Aw F1 l r (.slice oa L.B.length rn):=by
   intro x e;rcases hF1 x e with e | e
   ·exact HA.out x e
   ·refine ⟨fun e2=>?_,fun e2=>?_⟩
    ·have:=H.out.lt x e2;omega
    ·have:=HRL.out;omega
  have HK3:=hid hk3;have HF1:=hid hF1;have HA1:=hid hA1;have HL3:=hid hl3;have HCL:=hid hcl;have HSL:=hid hst.lt;clear HW2 HJ c0 y0 c1 y1 c2 y2 c3 y3 c4 y4 c5 y5 hk3 hF1 hA1 hst hp3 hr3;obtain ⟨c0,y0,c1,y1,c2,y2,c3,y3,c4,y4,c5,y5⟩:=cells6 hl3;clear hl3;go_wp2_with fail;refine HSY.out.mono ?_;rintro e w4 ⟨rfl,hk4,hp4⟩;have hkw4:Kp F w w4:=HK3.out.then hk4 HF1.out;have hW4:=H.out.stay hkw4 (fun x e e2=>(HA.out x e2).1 e) (fun e=>(HA.out r e).2 rfl);have HST:=hid (lsettle_any l r p z f k L _ w4 hW4);have HKW:=hid hkw4;have HP4:=hid hp4;have hl4:=hW4.hd;clear c0 y0 c1 y1 c2 y2 c3 y3 c4 y4 c5 y5 hkw4 hk4 hp4 hW4 HSY;obtain ⟨c0,y0,c1,y1,c2,y2,c3,y3,c4,y4,c5,y5⟩:=cells6 hl4;have HL4:=hid hl4;clear hl4;go_wp2_with fail;refine HST.out.mono ?_;rintro e w5 ⟨⟨x,rfl⟩,hW5,hk5⟩;have hE:LFl w l r p z f k n D F c L (.slice oa L.B.length rn) (.returned (.int .i64 0)) w5:=by
   have hnl:∀x,F1 x→x≠l:=fun x e e2=>(HA1.out x e).1 (Or.inl e2)
   refine ⟨rfl,F1,c1'+1,_,hW5,HP4.out.stay hk5 (fun b e=>hnl b e),HCL.out,fun x e=>⟨fun e2=>?_,(HA1.out x e).2⟩,?_,?_,?_⟩
   ·rcases e2 with e2 | e2
    ·exact hnl x e e2
    ·cases e2
   ·exact (HKW.out.mono (fun x e=>Or.inl e)).trans (hk5.mono (fun x e=>Or.inr (Or.inl e)))
   ·rintro x (e | e | e)
    ·exact (HF1.out x e).imp Or.inl id
    ·exact Or.inl (Or.inr (Or.inl e))
    ·cases e
   ·rintro x (e | e | e)
    ·have h4:F1 x→x<w4.heap.size:=HP4.out.flt x;exact Nat.lt_of_lt_of_le (h4 e) hk5.size
    ·rw [e];exact heap_lt hW5.hd
    ·cases e
  have HE:=hid hE;clear hE hW5 hk5;go_wp2_with fail;go_ret;exact HE.out
theorem results_tmp3 {fn:Func}{t u x:Tmp}(h:fn.results=#[.tmp t,.tmp u,.tmp x])(tmps:Array Value)(P:Program)(w:World):(results fn tmps).run P w = .ok (.tuple #[tmps.getD t undef,tmps.getD u undef,tmps.getD x undef]) w:=by
 simp [results,h]
theorem results_tmp4 {fn:Func}{t u x y:Tmp}(h:fn.results=#[.tmp t,.tmp u,.tmp x,.tmp y])(tmps:Array Value)(P:Program)(w:World):(results fn tmps).run P w = .ok (.tuple #[tmps.getD t undef,tmps.getD u undef,tmps.getD x undef,tmps.getD y undef]) w:=by
 simp [results,h]
def WScan (w:World)(p z n f k ep seq:Nat)(D:List Nat)(F:Nat→Prop)(c q:Nat)(e:Ending)(w':World):Prop:=
 ∃v xs,∃m:Int,∃j,e = .returned (.tuple #[v,.int .i64 m,.int .i64 0])∧xs.map frP=scanF ep (k*z+1) (cut D (f*z) (k*z)) 0 seq∧Frs w.heap.size ep v xs w'∧Pw w' p z n D F (c+j) q∧j≤k+2∧Kp F w w'
theorem wscan_any (r p z f k n ep seq:Nat)(D:List Nat)(F:Nat→Prop)(c q:Nat)(w:World)(h:Rg w r p z f k)(hp:Pw w p z n D F c q)(hr:¬F r)(h1:¬F 1)(hT:Tab w)(hc:c+10000000<1000000000)(hfk:f+k≤n)(hk:0<k)(hb:k*z≤100000)(hep:ep<18446744073709551616)(hseq:seq<18446744073709551616):
 Calls Tryz.prog 57 #[.pointer (some ⟨r,0,none⟩),.int .u64 ep,.int .u64 seq] w (WScan w p z n f k ep seq D F c q):=by
 have hz:=hp.hz;have hkz:(k*z) / z=k:=Nat.mul_div_cancel _ (by omega);have hm0:0<k*z:=Nat.mul_pos hk (by omega);obtain ⟨m,hm⟩:∃m,k*z=m:=⟨_,rfl⟩;have HB:=hid (fun w' (hb':Below w.heap.size w w')=>rbytes_any r p z f k m w' (h.new hb') hm (by omega));have HR:=hid (fun w' (hb':Below w.heap.size w w')=>rread_any r p z f k n D F c q 0 m w' (h.new hb') (hp.new hb') hr hc hfk (by omega));have hlc:(cut D (f*z+0) m).length = m:=by
  unfold cut;rw [List.length_take,List.length_drop,hp.len];have:f*z+k*z≤n*z:=by rw [←Nat.add_mul];exact Nat.mul_le_mul_right _ hfk
  omega
 have hbsD:Bs (cut D (f*z+0) m):=fun y hy=>hp.bs y (List.mem_of_mem_drop (List.mem_of_mem_take hy))
 have HLC:=hid hlc;have HBS:=hid hbsD;have HT:=hid hT;have HK:=hid (And.intro h1 (And.intro hep hseq));have HKZ:=hid hkz;have HM:=hid hm;rw [hm] at hm0 hb;have hmI:¬((m:Int)=0):=by omega
 unfold WScan;rw [hm];clear h hp hm hkz hbsD hlc hT hr h1;go_enter Tryz.func57,Tryz.ntmps57;go_wp2_with fail;refine (HB.out _ (Below.refl _ _)).mono ?_;rintro e w' ⟨q1,rfl,rfl⟩;go_wp2_with fail;refine (HB.out _ (below_drewN (Below.refl _ _) q1)).mono ?_;rintro e w' ⟨q2,rfl,rfl⟩;go_wp2_with fail;have hbb:Below w.heap.size w (w.drewN (q1+q2)):=below_drewN (Below.refl _ _) (q1+q2);refine Calls.mono (show Calls Tryz.prog 105 #[.pointer (some ⟨r,0,none⟩),.int .i64 0,.int .i64 m] (w.drewN (q1+q2)) _ from HR.out _ hbb) ?_;rintro e w1 ⟨v1,j,rfl,ho,hp1,hj,hk1⟩;rw [HM.out.symm,HKZ.out] at hj;obtain ⟨oa,rn,rfl,_,_⟩:=own_form ho;have hkw:Kp F w w1:=(Kp.of_new hbb).trans hk1;have hT1:Tab w1:=HT.out.stay (hkw.block 1 HT.out.size HK.out.1);have HS:=hid (fscan_any ep seq (.slice oa m rn) _ w1 (Sl_of_own ho) (by rw [HLC.out];exact hm0) (by rw [HLC.out];exact hb) HBS.out hT1 HK.out.2.1 HK.out.2.2);have HKW:=hid hkw;have HP1:=hid hp1;have HJ:=hid hj;clear hkw hp1 hj ho hT1 hbb hk1;go_wp2_with fail;refine HS.out.mono ?_;rintro e w2 ⟨v2,xs,m2,rfl,hxs,hfr,hb2⟩;obtain ⟨ob,rb,rfl,_,_⟩:=own_form hfr.1;have hE:WScan w p z n f k ep seq D F c q (.returned (.tuple #[.slice ob xs.length rb,.int .i64 m2,.int .i64 0])) w2:=by
  have hle:=HKW.out.size;refine ⟨_,xs,m2,j,rfl,?_,⟨own_mono hfr.1 hle,fun x hx=>⟨own_mono (hfr.2 x hx).1 hle,(hfr.2 x hx).2⟩⟩,HP1.out.new hb2,HJ.out,HKW.out.trans (Kp.of_new hb2)⟩;rw [HM.out];rw [HLC.out,Nat.add_zero] at hxs;exact hxs
 have HE:=hid hE;clear hE hxs hfr hb2;go_wp2_with fail;refine bodyPost_ret (results_tmp3 rfl _ _ _) rfl ?_;have:=HE.out;unfold WScan at this;rw [HM.out] at this;exact this
end
end Go.Proofs.YtdjiopacieadpaaGreatDoor

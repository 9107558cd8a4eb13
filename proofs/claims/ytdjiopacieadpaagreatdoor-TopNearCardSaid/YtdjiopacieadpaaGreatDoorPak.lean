/- TopNear: part Pak: HpO HpP HpQ. -/
import Derived.Test.YtdjiopacieadpaaGreatDoorPaj
set_option linter.unusedVariables false
set_option linter.unusedSimpArgs false
set_option maxRecDepth 8000
set_option maxHeartbeats 8000000
namespace Go.Proofs.YtdjiopacieadpaaGreatDoor
section
open Go.RowKit
theorem info321:(Tryz.prog.info? 321).map (fun i=>(i.zero,i.size,i.bytes))=some (some (.agg #[.int .i64 0,.int .u32 0,.int .i64 0]),3,24):=by kernel_rfl
theorem hnone_c (p:Nat)(w:World)(c0:w.cell? ⟨p,0,none⟩=some (.func (.func 109) #[] #[]))(hl:p<w.heap.size):Calls Tryz.prog 211 #[.pointer (some ⟨p,0,none⟩)] w fun e w'=>e = .returned (.bool false)∧w'=w:=by
 have hq:=func_nil;go_enter Tryz.func211,Tryz.ntmps211;go_wp2_with fail;go_ret;exact ⟨rfl,rfl⟩
structure Hr (w:World)(p mb nx n:Nat)(v:Value)(L:List HeapPlain.It)(pl:Nat→Option Nat):Prop where
 hd:w.heap[p]?=some (Obj.cells #[.func (.func 109) #[] #[],v,.map (some mb),.int .i64 nx] 260 (0,0))
 row:w.ownsRow 0 321 3 v L.length (L.flatMap itC)
 mp:Mf w .i64 3 mb n (plF pl)
theorem Hr.new {w w':World}{p mb nx n:Nat}{v:Value}{L:List HeapPlain.It}{pl:Nat→Option Nat}(h:Hr w p mb nx n v L pl)(hb:Below w.heap.size w w'):Hr w' p mb nx n v L pl:=⟨Bl.blk hb h.hd,own_below h.row hb (Nat.le_refl _),h.mp.below hb (Nat.le_refl _)⟩
theorem HpN.hr {w:World}{p mb nx n:Nat}(h:HpN w p mb nx n):Hr w p mb nx n (.slice none 0 0) [] (fun _=>none):=⟨h.hd,⟨rfl,Or.inl ⟨rfl,rfl⟩⟩,h.mp⟩
theorem Hp.hr {w:World}{p q mb cap nx n:Nat}{L:List HeapPlain.It}{pl:Nat→Option Nat}(h:Hp w p q mb cap nx n L pl):Hr w p mb nx n (.slice (some ⟨q,0,none⟩) L.length cap) L pl:=by
 obtain ⟨X,hX,hl⟩:=h.row;refine ⟨h.hd,⟨itC_len L,Or.inr ⟨q,cap,_,rfl,Nat.zero_le _,hX,h.cp.1,h.cp.2,by simpa using hl,?_⟩⟩,h.mp⟩;rw [←itC_len];simp
theorem Hr.hp {w:World}{p q mb cap nx n:Nat}{L:List HeapPlain.It}{pl:Nat→Option Nat}(h:Hr w p mb nx n (.slice (some ⟨q,0,none⟩) L.length cap) L pl):Hp w p q mb cap nx n L pl:=by
 rcases h.row.2 with ⟨e,_⟩ | ⟨g,cap',cur,e,_,hg,h1,h2,h3,h4⟩
 ·injection e with e;cases e
 ·injection e with e1 _ e3;injection e1 with e1;injection e1 with e1;subst e1 e3;refine ⟨h.hd,⟨cur.toList.drop (L.flatMap itC).length,?_,?_⟩,⟨h1,h2⟩,h.mp⟩
  ·rw [hg];congr 2;apply Array.toList_inj.1;rw [itC_len];simp only;rw [←h4,List.take_append_drop]
  ·rw [itC_len];have h5:(L.flatMap itC).length = L.length*3:=itC_len L;simp [h5];omega
theorem Hr.next {w:World}{p mb nx n:Nat}{v:Value}{L:List HeapPlain.It}{pl:Nat→Option Nat}(h:Hr w p mb nx n v L pl){y:Int}{x:Nat}(hy:y=(x:Int)):Hr (w.setCell ⟨p,3,none⟩ (.int .i64 y)) p mb x n v L pl∧Kp (· = p) w (w.setCell ⟨p,3,none⟩ (.int .i64 y)):=by
 subst hy;refine ⟨?_,(Kp.refl (· = p) w).setCell (p:=⟨p,3,none⟩) rfl _⟩;have h1:=heap_setCell_same w p 3 _ 260 (.int .i64 x) h.hd;obtain ⟨es,c,hmb⟩:=h.mp.isMap;have hmp:mb≠p:=fun e=>by have h9:=h.hd;rw [←e,hmb] at h9;cases h9
 refine ⟨by simpa using h1,own_other h.row (p:=⟨p,3,none⟩) (fun e=>?_) _,h.mp.set (p:=⟨p,3,none⟩) hmp _⟩;obtain ⟨C,hC⟩:=own_ty h.row e;exact ty_ne hC h.hd (by decide) rfl
theorem Hr.grew {w w4:World}{p mb nx n:Nat}{v:Value}{L:List HeapPlain.It}{pl:Nat→Option Nat}(h:Hr w p mb nx n v L pl){g cap:Nat}{x:HeapPlain.It}(hown:w4.ownsRow 0 321 3 (.slice (some ⟨g,0,none⟩) (L.length+1) cap) (L.length+1) (L.flatMap itC++itC x))(hg:w.grownBy w4 v.ownBlock)(hat:v.ownBlock=some g∨w.heap.size≤g):
 w4.heap[p]?=w.heap[p]? ∧Hp (w4.setCell ⟨p,1,none⟩ (.slice (some ⟨g,0,none⟩) (L.length+1) cap)) p g mb cap nx n (L++[x]) pl:=by
 obtain ⟨es,c,hmb⟩:=h.mp.isMap;have hvp:v.ownBlock≠some p:=fun e=>by obtain ⟨C,hC⟩:=own_ty h.row e;exact ty_ne hC h.hd (by decide) rfl
 have hvm:v.ownBlock≠some mb:=fun e=>by obtain ⟨C,hC⟩:=own_ty h.row e;exact map_ne hC hmb rfl
 have hmp:mb≠p:=fun e=>by have h9:=h.hd;rw [←e,hmb] at h9;cases h9
 have hp:=hg.block p (heap_lt h.hd) (fun e=>hvp e.symm);have hm:=hg.block mb (heap_lt hmb) (fun e=>hvm e.symm);have hd4:=hp.trans h.hd;have h1:=heap_setCell_same w4 p 1 _ 260 (.slice (some ⟨g,0,none⟩) (L.length+1) cap) hd4;refine ⟨hp,Hr.hp ⟨?_,?_,(h.mp.stay hm).set (p:=⟨p,1,none⟩) hmp _⟩⟩
 ·rw [List.length_append];simpa using h1
 ·rw [List.length_append,List.flatMap_append];have e:[x].flatMap itC=itC x:=by simp
  rw [e];refine own_other hown (p:=⟨p,1,none⟩) (fun e=>?_) _;obtain ⟨C,hC⟩:=own_ty hown e;exact ty_ne hC hd4 (by decide) rfl
def Fph (p mb:Nat)(v:Value):Nat→Prop:=fun b=>b=p∨v.ownBlock=some b∨b=mb
def HPush (w:World)(p mb nx n u i:Nat)(v:Value)(L:List HeapPlain.It)(e:Ending)(w':World):Prop:=
 e = .returned (.tuple #[.int .i64 nx,.int .i64 0])∧ ∃q cap n' L' pl',Hp w' p q mb cap (nx+1) n' L' pl'∧HeapPlain.Pl L' pl'∧HeapPlain.Ord L'∧(∀x,x∈L'↔x∈L∨x=(u,i,nx))∧L'.length=L.length+1∧n'≤n+1+4*(L.length+1)∧(v.ownBlock=some q∨w.heap.size≤q)∧Kp (Fph p mb v) w w'
theorem hpush_any (p mb nx n u i:Nat)(v:Value)(L:List HeapPlain.It)(pl:Nat→Option Nat)(w:World)(h:Hr w p mb nx n v L pl)(hps:HeapPlain.Pl L pl)(hord:HeapPlain.Ord L)(hbd:∀x∈L,x.2.2<nx)(hnx:nx<10000)(hn:n<900000000)(hlen:L.length≤10000):
 Calls Tryz.prog 185 #[.pointer (some ⟨p,0,none⟩),.agg #[.int .i64 u,.int .u32 i]] w (HPush w p mb nx n u i v L):=by
 obtain ⟨oa,rn,erv,_,_⟩:=own_form h.row;subst erv;have N:=new1 w (.cells #[.int .i64 u,.int .u32 i] 214);have hA:=h.new N.2.2;obtain ⟨c0,f0,c1,f1,c2,f2,c3,f3⟩:=cells4 hA.hd;obtain ⟨d0,_,d1,_,d2,_,d3,_⟩:=cells4 h.hd;have HNO:=hid (hnone_c p _ c0 (heap_lt hA.hd));have HA:=hid hA;have HN:=hid N;have HPS:=hid hps;have HORD:=hid hord;have HBD:=hid hbd;have HRW:=hid h;have hpl:=heap_lt h.hd;have hk9:decide ((65536:Int)≤(L.length:Int))=false:=by simp;omega
 have HNB:=hid (And.intro hn hlen);clear hA N hps hord hbd h hn hlen;generalize hk:L.length=k at *;have HK:=hid hk;clear hk;go_enter Tryz.func185,Tryz.ntmps185;go_wp2_with fail;refine HNO.out.mono ?_;rintro e w' ⟨rfl,rfl⟩;go_wp2_with fail;obtain ⟨hW1,kW1⟩:=HRW.out.next (y:=(nx:Int)+1) (x:=nx+1) (by omega);have N1:=new1 (w.setCell ⟨p,3,none⟩ (.int .i64 ((nx:Int)+1))) (.cells #[.int .i64 u,.int .u32 i] 214);have hW2:=hW1.new N1.2.2;have hA2:=N1.1;have hz2:=N1.2.1;have kW2:Kp (· = p) w ((w.setCell ⟨p,3,none⟩ (.int .i64 ((nx:Int)+1))).alloc (.cells #[.int .i64 u,.int .u32 i] 214)):=kW1.trans (Kp.of_new N1.2.2);clear c0 f0 c1 f1 c2 f2 c3 f3 d0 d1 d2 d3 hW1 kW1 N1 HNO HA HN;revert hW2 hA2 hz2 kW2
 rw [cell_size];generalize (w.setCell ⟨p,3,none⟩ (.int .i64 ((nx:Int)+1))).alloc (.cells #[.int .i64 u,.int .u32 i] 214)=W;intro hW2 hA2 hz2 kW2;generalize hAe:w.heap.size=A at *;obtain ⟨c0,f0,c1,f1,c2,f2,c3,f3⟩:=cells4 hW2.hd;obtain ⟨a0,_,a1,_⟩:=cells2 hA2;have hX:(W.alloc (Obj.cells #[.int .i64 u,.int .u32 i,.int .i64 nx] 321)).drew.heap[W.heap.size]?=some (Obj.cells #[.int .i64 u,.int .u32 i,.int .i64 nx] 321):=heap_alloc_new W _;have hXB:Below W.heap.size W (W.alloc (Obj.cells #[.int .i64 u,.int .u32 i,.int .i64 nx] 321)).drew :=((Below.refl _ _).alloc (Nat.le_refl _) _).trans ⟨rfl,rfl,rfl,Nat.le_refl _,fun _ _=>rfl⟩;have HX:=hid hX;have HXB:=hid hXB;have HR2:=hid (hW2.new hXB);have HRW2:=hid hW2;have KW2:=hid kW2;have HA2:=hid hA2;have HPL:=hid hpl;obtain ⟨i0,hi0,hz0,hz1,hz3⟩:=info_parts info321;have HI0:=hid hi0;have HZ3:=hid hz3;have HZ2:=hid hz2;have HXS:=hid (show (W.alloc (Obj.cells #[.int .i64 u,.int .u32 i,.int .i64 nx] 321)).drew.heap.size = W.heap.size+1 by show (W.alloc _).heap.size = _;simp);have hrow:=HR2.out.row;rw [HK.out] at hrow;have HROW:=hid hrow;have hAp:A≠p:=by omega
 have HAP:=hid (And.intro hAp (fun e:p=A=>hAp e.symm));have k2':=(blk HR2.out.hd).1 1;have k2'':(W.alloc (Obj.cells #[.int .i64 u,.int .u32 i,.int .i64 nx] 321)).cell? ⟨p,1,none⟩=some (.slice oa k rn):=k2';simp only [List.getElem?_toArray,List.getElem?_cons_succ,List.getElem?_cons_zero] at k2';clear hX hXB hW2 kW2 hA2 hi0 hz3 hz2 hpl hrow hAp;go_cut [] (fun wc=> ∃g cap,Hp wc p g mb cap (nx+1) n (L++[(u,i,nx)]) pl∧((Value.slice oa k rn).ownBlock = some g∨A≤g)∧Kp (Fph p mb (Value.slice oa k rn)) w wc)
 case first=>
  refine wp_region_held_drew (S:=fun w'=>w'.cell? ⟨A,0,none⟩=some (.int .i64 u)∧w'.cell? ⟨A,1,none⟩=some (.int .u32 i)) (by kernel_rfl) (by (try dsimp only);first | assumption | go_keep) (fun hHeld=>?_);refine tkm 7 [(0,26),(1,27),(2,28),(3,29),(5,31),(6,32),(7,33)] (by kernel_rfl) (fun _ _ _ _ _ h=>h) (by assumption) ?_;iterate 7
   refine ysC (v:=?_) rfl rfl (fun w9 hS9=>?_) ?_;rotate_left
   ·try dsimp only at hS9
    go_split_ands;go_simp;try with_reducible rfl
   simp only [Act.put,List.setIfInBounds_toArray,List.set_cons_zero,List.set_cons_succ]
  refine ysN ?_;refine rd2 4 8 (by kernel_rfl) rfl rfl (fun K9 hK9=>?_) (fun K9 hK9=>?_);go_simp;refine hK9.out _ _ (by (try dsimp only);first | assumption | go_keep) (fun hHeld=>?_);clear hK9 K9;refine rd1 8 (by kernel_rfl) rfl (fun K9 hK9=>?_);go_simp;refine hK9.out _ _ (by (try dsimp only);first | assumption | go_keep) (fun hHeld=>?_);clear hK9 K9;rotate_left;go_simp;refine hK9.out _ _ (by (try dsimp only);first | assumption | go_keep) (fun hHeld=>?_);clear hK9 K9;refine rd1 4 (by kernel_rfl) rfl (fun K9 hK9=>?_);go_simp;refine hK9.out _ _ (by (try dsimp only);first | assumption | go_keep) (fun hHeld=>?_);clear hK9 K9;rotate_left;all_goals
   refine rd1 9 (by kernel_rfl) rfl (fun K9 hK9=>?_);(
    first | assumption |
    (
     refine step_append_lies _ (by rfl) _ _ 258 (by rfl) 0 321 i0 (.agg #[.int .i64 0,.int .u32 0,.int .i64 0]) 3 24 Tryz.underlying258 HI0.out hz0 hz1 HZ3.out (by rfl) (by decide) (.slice oa k rn) k (L.flatMap itC) (by rfl) HROW.out ⟨W.heap.size,0,none⟩ 1 1 [.int .i64 u,.int .u32 i,.int .i64 nx] (by rfl) (by rfl) (World.news_of_block HX.out) (by simp [Value.oneCell']) (by decide) (by have:=HNB.out;unfold maxLen;omega) (by have:=HNB.out;omega) (Nat.zero_le _) (W.heap.size+1) HXS.out ?_;intro g cap w4 hown hgrow hat hlt;have hat':(Value.slice oa k rn).ownBlock = some g∨W.heap.size≤g:=by
      rcases hat with e | e
      ·exact Or.inl e
      ·exact Or.inr (by omega)
     have hat2:(Value.slice oa k rn).ownBlock = some g∨(W.alloc (Obj.cells #[.int .i64 u,.int .u32 i,.int .i64 nx] 321)).drew.heap.size ≤g:=by
      rcases hat with e | e
      ·exact Or.inl e
      ·exact Or.inr (by rw [HXS.out];omega)
     have hown':w4.ownsRow 0 321 3 (.slice (some ⟨g,0,none⟩) (L.length+1) cap) (L.length+1) (L.flatMap itC++itC (u,i,nx)):=by rw [HK.out];exact hown
     obtain ⟨hp4,hH4⟩:=HR2.out.grew hown' hgrow hat2;rw [HK.out] at hH4;have hA4:w4.heap[A]?=some (Obj.cells #[.int .i64 u,.int .u32 i] 214 (0,0)):=(hgrow.block A (by rw [HXS.out];have:=HZ2.out;omega) (fun e=>by obtain ⟨C,hC⟩:=own_ty HRW2.out.row e.symm;exact ty_ne hC HA2.out (by decide) rfl)).trans (Bl.blk HXB.out HA2.out);obtain ⟨c40,f40,c41,f41,_⟩:=cells4 (hp4.trans HR2.out.hd);obtain ⟨a40,_,a41,_⟩:=cells2 hA4;have k4:Kp (Fph p mb (Value.slice oa k rn)) W w4:=(Kp.of_new HXB.out).grown hgrow (fun b e=>Or.inl (Or.inr (Or.inl e)));have HH4:=hid hH4;have K4:=hid k4;have HAT:=hid hat';have hkeep:(w4.setCell ⟨p,1,none⟩ (.slice (some ⟨g,0,none⟩) (k+1) cap)).cell? ⟨A,0,none⟩=some (.int .i64 u)∧(w4.setCell ⟨p,1,none⟩ (.slice (some ⟨g,0,none⟩) (k+1) cap)).cell? ⟨A,1,none⟩=some (.int .u32 i):=⟨by rw [World.cell?_setCell_other _ _ _ _ (by simp;try exact HAP.out.2)];exact a40,by rw [World.cell?_setCell_other _ _ _ _ (by simp;try exact HAP.out.2)];exact a41⟩;clear hown hgrow hat hat' hat2 hlt hown' hp4 hH4 hA4 k4))
   refine hK9.out _ _ (by (try dsimp only);first | assumption | go_keep) (fun hHeld=>?_);clear hK9 K9;refine tkm 2 [(10,36),(11,37)] (by kernel_rfl) (fun _ _ _ _ _ h=>h) (by assumption) ?_;iterate 2
    refine ysC (v:=?_) rfl rfl (fun w9 hS9=>?_) ?_;rotate_left
    ·try dsimp only at hS9
     go_split_ands;go_simp;try with_reducible rfl
    simp only [Act.put,List.setIfInBounds_toArray,List.set_cons_zero,List.set_cons_succ]
   refine ysN ?_;refine rd1 12 (by kernel_rfl) rfl (fun K9 hK9=>?_);go_simp;refine hK9.out _ _ (by (try dsimp only);first | assumption | go_keep) (fun hHeld=>?_);clear hK9 K9;refine wpAnyH_done (by kernel_rfl) ?_ _
  all_goals
   go_wp2_with fail;go_meet
   refine ⟨g,cap,HH4.out,?_,?_⟩
   ·rcases HAT.out with e | e
    ·exact Or.inl e
    ·exact Or.inr (by have:=HZ2.out;omega)
   ·exact ((KW2.out.mono (fun b hb=>Or.inl hb)).trans K4.out).setCell (p:=⟨p,1,none⟩) (Or.inl rfl) _
 case rest=>
  obtain ⟨g,cap,h3,hat3,k3⟩:=hcut;obtain ⟨w4,r4,h4,k4⟩:=h3.drew.told (by have:=HNB.out;omega) (a:=nx) (i:=k) (by omega);have hl1:(L++[(u,i,nx)]).length = k+1:=by rw [List.length_append,HK.out];rfl
  clear c0 f0 c1 f1 c2 f2 c3 f3 a0 a1 k2' k2'';obtain ⟨c0,f0,c1,f1,c2,f2,c3,f3⟩:=cells4 h3.hd;obtain ⟨e0,_,e1,_,e2,_,e3,_⟩:=cells4 h4.hd;rw [hl1] at c1 e1;have hpu:HeapPlain.Pl (L++[(u,i,nx)]) (HeapPlain.upd pl nx L.length):=by
   refine HPS.out.push (x:=(u,i,nx)) ?_;cases e:pl nx with
   | none=>rfl
   | some j=>
    obtain ⟨x,hx,hxh⟩:=(HPS.out nx j).1 e;have:=HBD.out x (List.mem_of_getElem? hx);omega
  rw [HK.out] at hpu;have hob:=HORD.out.push (u,i,nx);rw [HK.out] at hob;have hbd2:∀x∈L++[(u,i,nx)],x.2.2<1000000000000:=fun x hx=>by
   rcases List.mem_append.1 hx with hx | hx
   ·have:=HBD.out x hx;omega
   ·simp at hx;subst hx;show nx<_;omega
  have HST:=hid (hsettle_any p g mb cap (nx+1) (n+1) k (L++[(u,i,nx)]) _ w4 h4 (by omega) hob hpu (by have:=HNB.out;omega) hbd2 (by have:=HNB.out;omega));have K3:=hid k3;have K4:=hid k4;have HAT:=hid hat3;have HL1:=hid hl1;clear h3 h4 hat3 k3 k4 hl1 hpu hob hbd2;have hk10:k≤10000:=HNB.out.2;go_wp2_with fail;go_cut [] (fun wc=>wc=w4)
  case first=>
   go_region
   all_goals
    go_wp2_with fail;go_meet
    rfl
  case rest=>
   subst hcut;go_wp2_with fail;(with_reducible refine HST.out.mono ?_)
   rintro e w5 ⟨rfl,n5,L5,pl5,hs5,ho5,hn5⟩;have HS5:=hid hs5;have HO5:=hid ho5;rw [HL1.out] at hn5;clear hs5 ho5;go_wp2_with fail;go_ret2;refine ⟨rfl,g,cap,n5,L5,pl5,HS5.out.hp,HS5.out.ps,HO5.out,fun x=>by rw [HS5.out.mem x];simp,by rw [HS5.out.len,HL1.out,HK.out],by rw [HK.out];omega,by rw [hAe];exact HAT.out,?_⟩;refine (K3.out.drew.trans (K4.out.mono (fun b hb=>Or.inr (Or.inr hb)))).then HS5.out.kp (fun i hi=>?_);rcases hi with e | e
   ·rcases HAT.out with e2 | e2
    ·exact Or.inl (Or.inr (Or.inl (by rw [e];exact e2)))
    ·exact Or.inr (by omega)
   ·exact Or.inl (Or.inr (Or.inr e))
theorem hleast_none (p mb nx n:Nat)(v:Value)(pl:Nat→Option Nat)(w:World)(h:Hr w p mb nx n v [] pl):Calls Tryz.prog 190 #[.pointer (some ⟨p,0,none⟩)] w fun e w'=>e = .returned (.tuple #[.agg #[.int .i64 0,.int .u32 0],.int .i64 0,.bool false])∧Below w.heap.size w w':=by
 obtain ⟨oa,rn,erv,_,_⟩:=own_form h.row;subst erv;have N:=new2 w (.cells #[.int .i64 0,.int .u32 0] 214) (.cells #[.int .i64 0,.int .u32 0] 214);have hA:=h.new (new1 w (.cells #[.int .i64 0,.int .u32 0] 214)).2.2;have hB:=h.new N.2.2.2;obtain ⟨c0,f0,c1,f1,_⟩:=cells4 hA.hd;obtain ⟨e0,g0,e1,g1,_⟩:=cells4 hB.hd;obtain ⟨d0,_,d1,_⟩:=cells4 h.hd;have HNO:=hid (hnone_c p _ c0 (heap_lt hA.hd));have HN:=hid N;have hpl:=heap_lt h.hd;have hpA:=heap_lt hA.hd;have hpB:=heap_lt hB.hd;clear hA hB h N;go_enter Tryz.func190,Tryz.ntmps190;go_wp2_with fail;refine HNO.out.mono ?_;rintro e w' ⟨rfl,rfl⟩;go_wp2_with fail;exact bodyPost_ret (results_row3 rfl _ _ _ _ _ _ _ rfl HN.out.1 Tryz.underlying214 rfl (by kernel_rfl)) rfl ⟨rfl,HN.out.2.2.2⟩
theorem set_mem_iff {L:List HeapPlain.It}{x y:HeapPlain.It}{pl:Nat→Option Nat}(h:HeapPlain.Pl (L++[x]) pl){i:Nat}(hi:L[i]?=some y)(z:HeapPlain.It):z∈L.set i x↔z∈L++[x]∧z≠y:=by
 have hil:i<L.length:=(List.getElem?_eq_some_iff.1 hi).1;have hy:(L++[x])[i]?=some y:=by rw [List.getElem?_append_left hil];exact hi
 have hx:(L++[x])[L.length]?=some x:=by simp
 have inj:∀j k u,(L++[x])[j]?=some u→(L++[x])[k]?=some u→j=k:=fun j k u hj hk=>by
  have h1:=(h u.2.2 j).2 ⟨u,hj,rfl⟩;have h2:=(h u.2.2 k).2 ⟨u,hk,rfl⟩;rw [h1] at h2;injection h2
 constructor
 ·intro hz;obtain ⟨j,hj⟩:=List.getElem?_of_mem hz;rw [List.getElem?_set] at hj;split at hj
  ·rename_i e;subst e;have hj:some x=some z:=by first | exact hj | (rw [if_pos hil] at hj;exact hj)
   injection hj with hj;subst hj;refine ⟨by simp,fun e=>?_⟩;subst e;have:=inj _ _ _ hy hx;omega
  ·rename_i e;have hj2:(L++[x])[j]?=some z:=by rw [List.getElem?_append_left (List.getElem?_eq_some_iff.1 hj).1];exact hj
   refine ⟨List.mem_of_getElem? hj2,fun e2=>?_⟩;subst e2;exact e (inj _ _ _ hy hj2)
 ·rintro ⟨hz,hne⟩;rcases List.mem_append.1 hz with hz | hz
  ·obtain ⟨j,hj⟩:=List.getElem?_of_mem hz;refine List.mem_of_getElem? (i:=j) ?_;rw [List.getElem?_set,if_neg (fun e=>?_)]
   ·exact hj
   ·subst e;rw [hi] at hj;injection hj with hj;exact hne hj.symm
  ·simp at hz;subst hz;refine List.mem_of_getElem? (i:=i) ?_;rw [List.getElem?_set,if_pos rfl,if_pos hil]
theorem last_mem_iff {L:List HeapPlain.It}{x:HeapPlain.It}{pl:Nat→Option Nat}(h:HeapPlain.Pl (L++[x]) pl)(z:HeapPlain.It):z∈L↔z∈L++[x]∧z≠x:=by
 have hx:(L++[x])[L.length]?=some x:=by simp
 constructor
 ·intro hz;refine ⟨List.mem_append_left _ hz,fun e=>?_⟩;subst e;obtain ⟨j,hj⟩:=List.getElem?_of_mem hz;have hl:=(List.getElem?_eq_some_iff.1 hj).1;have hj2:(L++[z])[j]?=some z:=by rw [List.getElem?_append_left hl];exact hj
  have h1:=(h z.2.2 j).2 ⟨z,hj2,rfl⟩;have h2:=(h z.2.2 L.length).2 ⟨z,hx,rfl⟩;rw [h1] at h2;injection h2 with h2;omega
 ·rintro ⟨hz,hne⟩;rcases List.mem_append.1 hz with hz | hz
  ·exact hz
  ·simp at hz;exact absurd hz hne
theorem ord_front {L:List HeapPlain.It}{x:HeapPlain.It}(h:HeapPlain.Ord (L++[x])):HeapPlain.Ord L:=by
 intro i h0 hi;have hg:∀i,i<L.length→HeapPlain.ge (L++[x]) i=HeapPlain.ge L i:=by
  intro i hi;unfold HeapPlain.ge;rw [List.getD_eq_getElem?_getD,List.getD_eq_getElem?_getD,List.getElem?_append_left hi]
 have:=h i h0 (by rw [List.length_append];simp;omega);rw [hg _ (by omega),hg i hi] at this;exact this
structure HqP (w:World)(p mb nx n:Nat)(v:Value)(F:Nat→Prop)(T:Nat)(L:List HeapPlain.It)(pl:Nat→Option Nat):Prop where
 hr:Hr w p mb nx n v L pl
 ps:HeapPlain.Pl L pl
 ord:HeapPlain.Ord L
 bd:∀x∈L,x.2.2<nx
 fr:∀b,F b↔(b=p∨v.ownBlock=some b∨b=mb)
 t:nx≤T∧n≤8*(T*T)∧L.length≤T
def Hq (w:World)(p:Nat)(F:Nat→Prop)(T:Nat)(L:List HeapPlain.It):Prop:= ∃mb nx n v pl,HqP w p mb nx n v F T L pl
theorem Hr.flt {w:World}{p mb nx n:Nat}{v:Value}{L:List HeapPlain.It}{pl:Nat→Option Nat}(h:Hr w p mb nx n v L pl):∀b,(b=p∨v.ownBlock=some b∨b=mb)→b<w.heap.size:=by
 rintro b (rfl | e | rfl)
 ·exact heap_lt h.hd
 ·obtain ⟨C,hC⟩:=own_ty h.row e;exact heap_lt hC
 ·exact h.mp.lt
theorem Hq.flt {w:World}{p:Nat}{F:Nat→Prop}{T:Nat}{L:List HeapPlain.It}(h:Hq w p F T L):∀b,F b→b<w.heap.size:=by
 obtain ⟨mb,nx,n,v,pl,h⟩:=h;exact fun b hb=>h.hr.flt b ((h.fr b).1 hb)
theorem Hq.stay {w w':World}{p:Nat}{F:Nat→Prop}{T:Nat}{L:List HeapPlain.It}(h:Hq w p F T L){G:Nat→Prop}(hk:Kp G w w')(hG:∀b,F b→ ¬G b):Hq w' p F T L:=by
 obtain ⟨mb,nx,n,v,pl,h⟩:=h;refine ⟨mb,nx,n,v,pl,⟨hk.blk h.hr.hd (hG _ ((h.fr p).2 (Or.inl rfl))),own_kp h.hr.row hk (fun b e=>hG _ ((h.fr b).2 (Or.inr (Or.inl e)))),h.hr.mp.kp hk (hG _ ((h.fr mb).2 (Or.inr (Or.inr rfl))))⟩,h.ps,h.ord,h.bd,h.fr,h.t⟩
theorem sq_le {a b:Nat}(h:a≤b):a*a≤b*b:=Nat.mul_le_mul h h
theorem HqP.big {w:World}{p mb nx n:Nat}{v:Value}{F:Nat→Prop}{T:Nat}{L:List HeapPlain.It}{pl:Nat→Option Nat}(h:HqP w p mb nx n v F T L pl)(hT:T≤5000):nx≤5000∧n≤200000000∧L.length≤5000:=by
 have h1:T*T≤5000*5000:=sq_le hT;have h2:=h.t;omega
theorem sq_next (T:Nat):(T+1)*(T+1)=T*T+2*T+1:=by rw [Nat.mul_add,Nat.add_mul];omega
theorem hqnew_any (w:World):Calls Tryz.prog 108 #[.func (.func 109) #[] #[]] w fun e w'=> ∃p F,e = .returned (.pointer (some ⟨p,0,none⟩))∧Hq w' p F 0 []∧F p∧(∀b,F b→w.heap.size≤b)∧Below w.heap.size w w':=by
 refine (hnew_any w).mono ?_;rintro e w' ⟨p,mb,rfl,h,h1,h2,h3⟩;refine ⟨p,fun b=>b=p∨(Value.slice none 0 0).ownBlock = some b∨b=mb,rfl,⟨mb,0,0,_,_,h.hr,fun a b=>?_,fun i _ hi=>?_,fun x hx=>?_,fun b=>Iff.rfl,by simp⟩,Or.inl rfl,?_,h3⟩
 ·simp
 ·simp at hi
 ·simp at hx
 ·rintro b (rfl | e | rfl)
  ·exact h1
  ·cases e
  ·exact h2
def HqPush (w:World)(p u i:Nat)(F:Nat→Prop)(T:Nat)(L:List HeapPlain.It)(e:Ending)(w':World):Prop:=
 ∃nx:Nat,∃F' L',e = .returned (.tuple #[.int .i64 nx,.int .i64 0])∧nx≤T∧(∀x∈L,x.2.2≠nx)∧Step F F' w w'∧Hq w' p F' (T+1) L'∧ ∀x,x∈L'↔x∈L∨x=(u,i,nx)
theorem hqpush_any (p u i:Nat)(F:Nat→Prop)(T:Nat)(L:List HeapPlain.It)(w:World)(h:Hq w p F T L)(hT:T≤5000):Calls Tryz.prog 185 #[.pointer (some ⟨p,0,none⟩),.agg #[.int .i64 u,.int .u32 i]] w (HqPush w p u i F T L):=by
 have hlt:=h.flt;obtain ⟨mb,nx,n,v,pl,h⟩:=h;have hB:=h.big hT;refine (hpush_any p mb nx n u i v L pl w h.hr h.ps h.ord h.bd (by omega) (by omega) (by omega)).mono ?_;rintro e w' ⟨rfl,q,cap,n',L',pl',h1,h2,h3,h4,h5,h6,h7,h8⟩;have hfl:=h1.hr.flt;refine ⟨nx,fun b=>b=p∨(Value.slice (some ⟨q,0,none⟩) L'.length cap).ownBlock = some b∨b=mb,L',rfl,h.t.1,fun x hx=>Nat.ne_of_lt (h.bd x hx),⟨h8.mono (fun b hb=>(h.fr b).2 hb),fun b hb=>?_,fun b hb=>hfl b hb⟩,⟨mb,nx+1,n',_,pl',h1.hr,h2,h3,fun x hx=>?_,fun b=>Iff.rfl,?_⟩,h4⟩
 ·rcases hb with e | e | e
  ·exact Or.inl ((h.fr b).2 (Or.inl e))
  ·have e':q=b:=by injection e
   subst e';rcases h7 with e2 | e2
   ·exact Or.inl ((h.fr q).2 (Or.inr (Or.inl e2)))
   ·exact Or.inr e2
  ·exact Or.inl ((h.fr b).2 (Or.inr (Or.inr e)))
 ·rcases (h4 x).1 hx with e | e
  ·have:=h.bd x e;omega
  ·rw [e];exact Nat.lt_succ_self _
 ·have:=h.t;have:=sq_next T;exact ⟨by omega,by omega,by omega⟩
theorem hqleast_none (p:Nat)(F:Nat→Prop)(T:Nat)(w:World)(h:Hq w p F T []):Calls Tryz.prog 190 #[.pointer (some ⟨p,0,none⟩)] w fun e w'=>e = .returned (.tuple #[.agg #[.int .i64 0,.int .u32 0],.int .i64 0,.bool false])∧Below w.heap.size w w':=by
 obtain ⟨mb,nx,n,v,pl,h⟩:=h;exact hleast_none p mb nx n v pl w h.hr
theorem Hr.hp' {w:World}{p mb nx n:Nat}{v:Value}{L:List HeapPlain.It}{pl:Nat→Option Nat}(h:Hr w p mb nx n v L pl)(h0:0<L.length):∃q cap,v = .slice (some ⟨q,0,none⟩) L.length cap∧Hp w p q mb cap nx n L pl:=by
 rcases h.row.2 with ⟨_,e⟩ | ⟨g,cap,cur,rfl,_⟩
 ·omega
 ·exact ⟨g,cap,rfl,Hr.hp h⟩
theorem hqleast_some (p:Nat)(F:Nat→Prop)(T:Nat)(L:List HeapPlain.It)(w:World)(h:Hq w p F T L)(h0:L≠[]):Calls Tryz.prog 190 #[.pointer (some ⟨p,0,none⟩)] w fun e w'=> ∃x,x∈L∧(∀y∈L,HeapPlain.le x y)∧e = .returned (.tuple #[.agg #[.int .i64 x.1,.int .u32 x.2.1],.int .i64 x.2.2,.bool true])∧Below w.heap.size w w':=by
 obtain ⟨mb,nx,n,v,pl,h⟩:=h;have hl:0<L.length:=List.length_pos_iff.2 h0;obtain ⟨q,cap,rfl,hp⟩:=h.hr.hp' hl;refine (hleast_any p q mb cap nx n L pl w hp hl).mono ?_;rintro e w' ⟨rfl,hb⟩;refine ⟨HeapPlain.ge L 0,List.mem_of_getElem? (HeapPlain.of_ge hl),fun y hy=>?_,rfl,hb⟩;obtain ⟨i,hi⟩:=List.getElem?_of_mem hy;have:=h.ord.least i (List.getElem?_eq_some_iff.1 hi).1;rw [HeapPlain.ge_of hi] at this;exact this
def HqDrop (w:World)(p:Nat)(F:Nat→Prop)(T:Nat)(L:List HeapPlain.It)(y:HeapPlain.It)(w':World):Prop:= ∃L',Step F F w w'∧Hq w' p F (T+1) L'∧ ∀x,x∈L'↔x∈L∧x≠y
theorem hqdrop_any (p:Nat)(F:Nat→Prop)(T:Nat)(L:List HeapPlain.It)(y:HeapPlain.It)(w:World)(h:Hq w p F T L)(hT:T≤5000)(hy:y∈L):Calls Tryz.prog 192 #[.pointer (some ⟨p,0,none⟩),.int .i64 y.2.2] w fun e w'=>e = .returned (.bool true)∧HqDrop w p F T L y w':=by
 have hlt:=h.flt;obtain ⟨mb,nx,n,v,pl,h⟩:=h;have hB:=h.big hT;have hl:0<L.length:=List.length_pos_of_mem hy;obtain ⟨q,cap,rfl,hp⟩:=h.hr.hp' hl;have hyb:=h.bd y hy;obtain ⟨i,hi⟩:=List.getElem?_of_mem hy;have hpl:=(h.ps y.2.2 i).2 ⟨y,hi,rfl⟩;have hne:L≠[]:=List.ne_nil_of_mem hy;obtain ⟨L0,x,rfl⟩:∃L0 x,L=L0++[x]:=⟨L.dropLast,L.getLast hne,(List.dropLast_concat_getLast hne).symm⟩;have hll:(L0++[x]).length = L0.length+1:=by simp
 have hbd:∀z∈L0++[x],z.2.2<1000000000000:=fun z hz=>by have:=h.bd z hz;omega
 have hF:∀b,Fpqm p q mb b→F b:=fun b hb=>(h.fr b).2 (by
  rcases hb with e | e | e
  ·exact Or.inl e
  ·exact Or.inr (Or.inl (by rw [e];rfl))
  ·exact Or.inr (Or.inr e))
 refine hdrop_yes p q mb cap nx n y.2.2 i (L0++[x]) pl w hp (hbd y hy) hpl (v:=itA y) (Q:=HqDrop w p F T (L0++[x]) y) ?_;have hsq:=sq_next T;have ht:=h.t;by_cases hlast:i=L0.length
 ·subst hlast;have e:x=y:=by simpa using hi
  subst e;refine (htake_last p q mb cap nx n L0 x pl w hp (hbd x hy)).mono ?_;rintro e w' ⟨rfl,h1,h2⟩;refine ⟨rfl,L0,⟨h2.mono hF,fun b hb=>Or.inl hb,fun b hb=>Nat.lt_of_lt_of_le (hlt b hb) h2.size⟩,⟨mb,nx,n,_,_,h1.hr,h.ps.pop,ord_front h.ord,fun z hz=>h.bd z (List.mem_append_left _ hz),fun b=>?_,by omega⟩,last_mem_iff h.ps⟩;rw [h.fr b];exact Iff.rfl
 ·have hil:i<L0.length:=by have:=(List.getElem?_eq_some_iff.1 hi).1;omega
  have hi0:L0[i]?=some y:=by rw [List.getElem?_append_left hil] at hi;exact hi
  refine (htake_mid p q mb cap nx n i L0 x y pl w hp hi0 h.ps h.ord (by omega) hbd (by omega)).mono ?_;rintro e w' ⟨rfl,⟨n',L',pl',h1,h2,h3,h4,h5,h6⟩,h7⟩;refine ⟨rfl,L',⟨h7.mono hF,fun b hb=>Or.inl hb,fun b hb=>Nat.lt_of_lt_of_le (hlt b hb) h7.size⟩,⟨mb,nx,n',_,pl',h1.hr,h3,h4,fun z hz=>?_,fun b=>?_,by omega⟩,fun z=>by rw [h5 z,set_mem_iff h.ps hi0]⟩
  ·exact h.bd z ((set_mem_iff h.ps hi0 z).1 ((h5 z).1 hz)).1
  ·rw [h.fr b];exact Iff.rfl
end
end Go.Proofs.YtdjiopacieadpaaGreatDoor

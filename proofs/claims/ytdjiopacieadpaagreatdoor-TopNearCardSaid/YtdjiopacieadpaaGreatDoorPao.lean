/- TopNear: part Pao: Rec RecC BkL BkM BkN BkO. -/
import Derived.Test.YtdjiopacieadpaaGreatDoorPan
set_option linter.unusedVariables false
set_option linter.unusedSimpArgs false
set_option maxRecDepth 8000
set_option maxHeartbeats 8000000
namespace Go.Proofs.YtdjiopacieadpaaGreatDoor
section
open Go.RowKit
structure Rec where
 k:Int
 id:Int
 s:Int
 u:Int
 q:Int
def Rec.cells (r:Rec):Array Value:=#[.int .i64 r.k,.int .u32 r.id,.int .i64 r.s,.int .i64 r.u,.int .i64 r.q]
def hasI (k:Int):Bool:=decide (1≤k∧k≤4)
def hasS (k:Int):Bool:=decide (k=1∨k=4)
def hasU (k:Int):Bool:=decide (k=1)
def hasC (k:Int):Bool:=decide (k=5)
def isK (k:Int):Bool:=decide (1≤k∧k≤5)
def shC (k:Int):Array Value:=#[.bool (hasI k),.bool (hasS k),.bool (hasU k),.bool (hasC k)]
def withinB (t:Bool)(n a b:Int):Bool:=if t then decide (a≤n∧n≤b) else decide (n=0)
theorem within_any (t:Bool)(n a b:Int)(w:World):Calls Tryz.prog 189 #[.bool t,.int .i64 n,.int .i64 a,.int .i64 b] w fun e w'=>e = .returned (.bool (withinB t n a b))∧w=w':=by
 cases t with
 | true=>
  by_cases h1:a≤n
  ·by_cases h2:n≤b
   ·have hd:withinB true n a b=true:=by unfold withinB;rw [if_pos rfl,decide_eq_true_iff];exact ⟨h1,h2⟩
    rw [hd];clear hd;go_enter Tryz.func189,Tryz.ntmps189;go_wp2;go_ret;exact ⟨rfl,rfl⟩
   ·have hd:withinB true n a b=false:=by unfold withinB;rw [if_pos rfl,decide_eq_false_iff_not];omega
    rw [hd];clear hd;go_enter Tryz.func189,Tryz.ntmps189;go_wp2;go_ret;exact ⟨rfl,rfl⟩
  ·have hd:withinB true n a b=false:=by unfold withinB;rw [if_pos rfl,decide_eq_false_iff_not];omega
   rw [hd];clear hd;go_enter Tryz.func189,Tryz.ntmps189;go_wp2;go_ret;exact ⟨rfl,rfl⟩
 | false=>
  have hd:withinB false n a b=(n == 0):=by unfold withinB;rw [if_neg (by decide)];rfl
  rw [hd];clear hd;go_enter Tryz.func189,Tryz.ntmps189;go_wp2;go_ret;exact ⟨rfl,rfl⟩
theorem blk_all {w:World}{b:Nat}{C:Array Value}{t:TypeId}(h:w.heap[b]?=some (.cells C t (0,0))):∀(i:Nat) (v:Value),C[i]?=some v→w.cell? ⟨b,i,none⟩=some v:=fun i v hv=>by rw [(blk h).1 i];exact hv
theorem no_k {k:Int}(h:¬(1≤k∧k≤5)):isK k=false∧shC k=#[.bool false,.bool false,.bool false,.bool false]:=by
 have h1:hasI k=false:=by unfold hasI;rw [decide_eq_false_iff_not];omega
 have h2:hasS k=false:=by unfold hasS;rw [decide_eq_false_iff_not];omega
 have h3:hasU k=false:=by unfold hasU;rw [decide_eq_false_iff_not];omega
 have h4:hasC k=false:=by unfold hasC;rw [decide_eq_false_iff_not];omega
 unfold isK shC;rw [h1,h2,h3,h4,decide_eq_false_iff_not];exact ⟨h,rfl⟩
theorem recof_any (k:Int)(w:World):Calls Tryz.prog 155 #[.int .i64 k] w fun e w'=>e = .returned (.tuple #[.agg (shC k),.bool (isK k)])∧Below w.heap.size w w':=by
 have HK:Hid (k=1∨k=2∨k=3∨k=4∨k=5∨(¬(1≤k∧k≤5)∧k<1)∨(¬(1≤k∧k≤5)∧ ¬k<1∧6≤k)):=hid (by omega);go_enter Tryz.func155,Tryz.ntmps155;go_wp2_with (refine wpList_store_all rfl 304 _ _ rfl (w.heap.size+1) 304 _ _ rfl rfl (new2 _ _ _).2.1 rfl (by kernel_rfl) (by simp [Value.oneCell']) ?_;intro w1 hb1 hs1 hk1;have h0:=hk1.blk (new2 _ _ _).1 (by omega);have hB:=(new2 _ _ _).2.2.2.trans (hk1.below (B:=w.heap.size) (by simp;omega) (fun i hi=>by omega));obtain ⟨a0,f0,a1,f1,a2,f2,a3,f3⟩:=cells4 h0;clear hs1 hk1;have HB:=hid hb1;have H0:=hid h0;have HBB:=hid hB;clear hb1 h0 hB;rcases HK.out with h | h | h | h | h | h | h;all_goals (first | (obtain ⟨hn,hk0,hk6⟩:=h;clear HK;have HN:=hid hn;clear hn) | (obtain ⟨hn,hk0⟩:=h;clear HK;have HN:=hid hn;clear hn) | (have h':k=1:=h;clear h';subst h;clear HK;have c0:=blk_all HB.out 4 (.bool true) rfl;have c1:=blk_all HB.out 5 (.bool true) rfl;have c2:=blk_all HB.out 6 (.bool true) rfl;have c3:=blk_all HB.out 7 (.bool false) rfl) | (have h':k=2:=h;clear h';subst h;clear HK;have c0:=blk_all HB.out 8 (.bool true) rfl;have c1:=blk_all HB.out 9 (.bool false) rfl;have c2:=blk_all HB.out 10 (.bool false) rfl;have c3:=blk_all HB.out 11 (.bool false) rfl) | (have h':k=3:=h;clear h';subst h;clear HK;have c0:=blk_all HB.out 12 (.bool true) rfl;have c1:=blk_all HB.out 13 (.bool false) rfl;have c2:=blk_all HB.out 14 (.bool false) rfl;have c3:=blk_all HB.out 15 (.bool false) rfl) | (have h':k=4:=h;clear h';subst h;clear HK;have c0:=blk_all HB.out 16 (.bool true) rfl;have c1:=blk_all HB.out 17 (.bool true) rfl;have c2:=blk_all HB.out 18 (.bool false) rfl;have c3:=blk_all HB.out 19 (.bool false) rfl) | (have h':k=5:=h;clear h';subst h;clear HK;have c0:=blk_all HB.out 20 (.bool false) rfl;have c1:=blk_all HB.out 21 (.bool false) rfl;have c2:=blk_all HB.out 22 (.bool false) rfl;have c3:=blk_all HB.out 23 (.bool true) rfl)));all_goals first
  | exact bodyPost_ret (results_row2 rfl _ _ _ _ _ _ _ rfl (set4 H0.out) Tryz.underlying267 rfl (by kernel_rfl)) rfl ⟨rfl,(below_set3 HBB.out (Nat.le_refl _) _ _ _).setCell (p:=⟨w.heap.size,3,none⟩) (Nat.le_refl _) _⟩
  | (rw [(no_k HN.out).1,(no_k HN.out).2];exact bodyPost_ret (results_row2 rfl _ _ _ _ _ _ _ rfl (set4 H0.out) Tryz.underlying267 rfl (by kernel_rfl)) rfl ⟨rfl,(below_set3 HBB.out (Nat.le_refl _) _ _ _).setCell (p:=⟨w.heap.size,3,none⟩) (Nat.le_refl _) _⟩)
def okB (r:Rec):Bool:=isK r.k && (withinB (hasI r.k) r.id 1 4294967295 && (withinB (hasS r.k) r.s 0 1023 && (withinB (hasU r.k) r.u 1 1099511627776 && withinB (hasC r.k) r.q 1 1099511627776)))
theorem reccheck_any (r:Rec)(w:World)(hr:0≤r.id∧r.id≤4294967295):Calls Tryz.prog 157 #[.agg r.cells] w fun e w'=>e = .returned (.int .i64 (if okB r then 0 else 160))∧Below w.heap.size w w':=by
 obtain ⟨k,id,s,u,q⟩:=r;unfold Rec.cells okB;dsimp only at hr ⊢;have hwr:IntKind.i64.wrap id=id:=by rw [IntKind.wrap_i64];omega
 clear hr;have HO:=hid (recof_any k);unfold shC at HO;obtain ⟨ok,hok⟩:∃x,isK k=x:=⟨_,rfl⟩;obtain ⟨i,hi⟩:∃x,hasI k=x:=⟨_,rfl⟩;obtain ⟨c,hc⟩:∃x,hasS k=x:=⟨_,rfl⟩;obtain ⟨t,ht⟩:∃x,hasU k=x:=⟨_,rfl⟩;obtain ⟨y,hy⟩:∃x,hasC k=x:=⟨_,rfl⟩;rw [hok,hi,hc,ht,hy] at HO;rw [hok,hi,hc,ht,hy];obtain ⟨v1,h1⟩:∃x,withinB i id 1 4294967295=x:=⟨_,rfl⟩;obtain ⟨v2,h2⟩:∃x,withinB c s 0 1023=x:=⟨_,rfl⟩;obtain ⟨v3,h3⟩:∃x,withinB t u 1 1099511627776=x:=⟨_,rfl⟩;obtain ⟨v4,h4⟩:∃x,withinB y q 1 1099511627776=x:=⟨_,rfl⟩;rw [h1,h2,h3,h4];have W1:=hid h1;have W2:=hid h2;have W3:=hid h3;have W4:=hid h4;clear hok hi hc ht hy h1 h2 h3 h4;go_enter Tryz.func157,Tryz.ntmps157;go_wp2_with fail;refine at_new1 ?_;intro w0 p0 ns nb;refine (HO.out _).mono ?_;rintro e w1 ⟨rfl,hb⟩;have p1:=Bl.blk hb p0;have HB:=hid (Bl.trans nb hb);obtain ⟨cp,fp,_⟩:=blk p1;have c0:=cp 0;have c1:=cp 1;have c2:=cp 2;have c3:=cp 3;have c4:=cp 4;clear p0 ns nb hb cp fp p1 HO;cases ok
 ·go_wp2_with (go_at_call 189;refine (within_any _ _ _ _ _).mono ?_;rintro e w' ⟨rfl,rfl⟩;first | rw [W1.out] | rw [W2.out] | rw [W3.out] | rw [W4.out]);go_ret;exact ⟨rfl,HB.out.trans (((Below.refl _ _).alloc (Nat.le_refl _) _).mono HB.out.size)⟩
 cases v1
 ·go_wp2_with (go_at_call 189;refine (within_any _ _ _ _ _).mono ?_;rintro e w' ⟨rfl,rfl⟩;first | rw [W1.out] | rw [W2.out] | rw [W3.out] | rw [W4.out]);go_ret;exact ⟨rfl,HB.out.trans (((Below.refl _ _).alloc (Nat.le_refl _) _).mono HB.out.size)⟩
 cases v2
 ·go_wp2_with (go_at_call 189;refine (within_any _ _ _ _ _).mono ?_;rintro e w' ⟨rfl,rfl⟩;first | rw [W1.out] | rw [W2.out] | rw [W3.out] | rw [W4.out]);go_ret;exact ⟨rfl,HB.out.trans (((Below.refl _ _).alloc (Nat.le_refl _) _).mono HB.out.size)⟩
 cases v3
 ·go_wp2_with (go_at_call 189;refine (within_any _ _ _ _ _).mono ?_;rintro e w' ⟨rfl,rfl⟩;first | rw [W1.out] | rw [W2.out] | rw [W3.out] | rw [W4.out]);go_ret;exact ⟨rfl,HB.out.trans (((Below.refl _ _).alloc (Nat.le_refl _) _).mono HB.out.size)⟩
 cases v4
 ·go_wp2_with (go_at_call 189;refine (within_any _ _ _ _ _).mono ?_;rintro e w' ⟨rfl,rfl⟩;first | rw [W1.out] | rw [W2.out] | rw [W3.out] | rw [W4.out]);go_ret;exact ⟨rfl,HB.out.trans (((Below.refl _ _).alloc (Nat.le_refl _) _).mono HB.out.size)⟩
 ·go_wp2_with (go_at_call 189;refine (within_any _ _ _ _ _).mono ?_;rintro e w' ⟨rfl,rfl⟩;first | rw [W1.out] | rw [W2.out] | rw [W3.out] | rw [W4.out]);go_ret;exact ⟨rfl,HB.out.trans (((Below.refl _ _).alloc (Nat.le_refl _) _).mono HB.out.size)⟩
end
section
open Go.RowKit BookPlain
def BApply (w w':World)(p:Nat)(F:Nat→Prop)(K:Nat)(b:Bk)(k id s u q:Nat)(e:Ending):Prop:=
 ∃F',e = .returned (.int .i64 ((applyN b k id s u q).2:Int))∧Bkk w' p F' (K+2) (applyN b k id s u q).1∧Step F F' w w'
theorem step_same {F:Nat→Prop}{w w':World}(h:Kp F w w')(hl:∀x,F x→x<w.heap.size):Step F F w w':=⟨h,fun b hb=>Or.inl hb,fun b hb=>Nat.lt_of_lt_of_le (hl b hb) h.size⟩
theorem next_free {b:Bk}(h:Sound b):get b b.next=none:=by
 cases hg:get b b.next with
 | none=>rfl
 | some x=>
  obtain ⟨h0,h1,h2,h3⟩:=get_some h.toFine hg;have:=h.all _ x h2 (by omega);omega
theorem apply_hold {w0 w w':World}{m:Bm}{K:Nat}{b:Bk}{id s u:Nat}{e:Ending}(q:Nat)(hw:Bw w m)(hr:Rl m b)(hs:Sound b)(hK:m.T+nT b.l≤K)(hu:u≤M)(hk:Kp m.F w0 w)(hl:∀x,m.F x→x<w0.heap.size)(h:BHold w w' m (uB b) id s u e):BApply w0 w' m.p m.F K b 1 id s u q e:=by
 unfold BHold at h;unfold BApply applyN;rw [if_pos rfl];have same:∀(c:Nat),e = .returned (.int .i64 c)→BSame w w' m→ ∃F',e = .returned (.int .i64 ((b,c).2:Int))∧Bkk w' m.p F' (K+2) (b,c).1∧Step m.F F' w0 w':=by
  intro c he hsm;exact ⟨m.F,he,⟨m,hsm.1,hr,rfl,rfl,by dsimp only;omega⟩,step_same (hk.trans hsm.2) hl⟩
 rw [hr.nx] at h;by_cases h1:id≠b.next
 ·rw [if_pos h1] at h ⊢;exact same 2 h.1 h.2
 rw [if_neg h1] at h ⊢;rw [hr.s] at h;by_cases h2:b.s≤s
 ·rw [if_pos h2] at h ⊢;exact same 140 h.1 h.2
 rw [if_neg h2] at h ⊢;rw [hr.q] at h;by_cases h3:u≤b.clock
 ·rw [if_pos h3] at h ⊢;exact same 173 h.1 h.2
 rw [if_neg h3] at h ⊢;rw [hr.W s (by omega)] at h;by_cases h4:held b s=true
 ·rw [if_pos h4] at h ⊢;exact same 170 h.1 h.2
 rw [if_neg h4] at h ⊢;rw [hr.c,hr.ln] at h;by_cases h5:b.c≤nT b.l∨b.next=4294967295
 ·rw [if_pos h5] at h ⊢;exact same 6 h.1 h.2
 rw [if_neg h5] at h ⊢;obtain ⟨he,w1,⟨Fh',L',T',H',F',hB,hL,hT,hT2,hF',hst⟩,rfl⟩:=h;obtain rfl:id=b.next:=by omega
 have hz:=held_false hs.toFine (i:=s) (by omega) (by simpa using h4);have hn:=hs.hn;have hx0:b.next≠0:=by omega
 have hf:Fine (putB b (b.next,s,u)):=putB_fine (x:=(b.next,s,u)) hs.toFine (by dsimp only;omega) (Or.inr ⟨hn.1,by dsimp only;omega,rfl,hu⟩) hx0 (next_free hs) (by omega);have hr1:=hr.put (x:=(b.next,s,u)) (by dsimp only;omega) hz hx0 hf hL (Fh':=Fh') (T':=T');have hr2:=hr1.next (b.next+1);have hB2:=hB.nxtTo (b.next+1);have hFp:F' m.p:=(hF' _).2 (Or.inl rfl);have hst2:Step F' F' w1 (w1.setCell ⟨m.p,5,none⟩ (.int .u32 ((b.next+1:Nat):Int))):=step_same (hB2.2.mono (fun x e=>by rw [e];exact hFp)) hst.lt;have hst0:Step m.F m.F w0 w:=step_same hk hl;refine ⟨F',he,⟨_,hB2.1,hr2,rfl,?_,?_⟩,hst0.trans (hst.trans hst2)⟩
 ·funext x
  exact propext (hF' x).symm
 ·have e1:nT (b.l.set s (b.next,s,u))=nT b.l+1:=nT_lay (b:=b) hz hx0;have:nT (holdB b s u).l = nT b.l+1:=e1;dsimp only at *;omega
theorem apply_pre {w:World}{m:Bm}{b:Bk}(k id s u q:Nat)(hw:Bw w m)(hr:Rl m b)(hok:okB ⟨k,id,s,u,q⟩=true)(hid9:id<4294967296):
 let W:=w.alloc (.cells #[.int .i64 k,.int .u32 id,.int .i64 s,.int .i64 u,.int .i64 q] 223)
 Bw W m∧W.heap[w.heap.size]?=some (Obj.cells #[.int .i64 k,.int .u32 id,.int .i64 s,.int .i64 u,.int .i64 q] 223 (0,0))∧Below w.heap.size w W∧
  Calls Tryz.prog 157 #[.agg #[.int .i64 k,.int .u32 id,.int .i64 s,.int .i64 u,.int .i64 q]] W fun e w'=>e = .returned (.int .i64 0)∧Below W.heap.size W w':=by
 intro W;have N:=new1 w (.cells #[.int .i64 k,.int .u32 id,.int .i64 s,.int .i64 u,.int .i64 q] 223);refine ⟨hw.new N.2.2,N.1,N.2.2,?_⟩;have h:=reccheck_any ⟨k,id,s,u,q⟩ W (by dsimp only;omega);rw [if_pos hok] at h;exact h
theorem bapply_1 (p:Nat)(F:Nat→Prop)(K:Nat)(b:Bk)(id s u q:Nat)(w:World)(h:Bkk w p F K b)(hs:Sound b)(hK:K≤5000)(hok:okB ⟨(1:Nat),id,s,u,q⟩=true)(hid9:id<4294967296)(hsb:s<100000)(hu:u≤M):Calls Tryz.prog 114 #[.pointer (some ⟨p,0,none⟩),.agg #[.int .i64 1,.int .u32 id,.int .i64 s,.int .i64 u,.int .i64 q]] w fun e w'=>BApply w w' p F K b 1 id s u q e:=by
 obtain ⟨m,hw,hr,rfl,rfl,hT⟩:=h;obtain ⟨p1,p2,p3,p4⟩:=apply_pre 1 id s u q hw hr hok hid9;have HT:=hid (there_any m _ p1.hc);have HFL:=hid hw.flt;have HB:=hid p1;have HX:=hid p2;have HBL:=hid p3;have HC:=hid p4;have HR:=hid (And.intro hr (And.intro hs (And.intro hT (And.intro hok hu))));have HKK:=hid hK;have HSB:=hid hsb;obtain ⟨x0,_,x1,_,x2,_,x3,_,x4,_⟩:=cells5 p2;have hone:((1:Nat):Int)=1:=rfl;clear hw hr hs p1 p2 p3 p4 hT hok hK hu hsb;rw [hone] at HT HB HX HBL HC x0 x1 x2 x3 x4;clear hone;generalize hAe:w.heap.size=A at *;have HAE:=hid hAe;clear hAe;go_enter Tryz.func114,Tryz.ntmps114;go_wp2_with fail;rw [HAE.out];generalize w.alloc (.cells #[.int .i64 1,.int .u32 id,.int .i64 s,.int .i64 u,.int .i64 q] 223)=W at *;refine HT.out.mono ?_;rintro e w' ⟨rfl,rfl⟩;go_wp2_with fail;refine HC.out.mono ?_;rintro e w2 ⟨rfl,hb2⟩;have hX2:=Bl.blk hb2 HX.out;have hB2:=HB.out.new hb2;have hk2:Kp m.F w w2:=(Kp.of_below HBL.out (Nat.le_of_eq HAE.out)).trans (Kp.of_new hb2);clear x0 x1 x2 x3 x4;obtain ⟨x0,_,x1,_,x2,_,x3,_,x4,_⟩:=cells5 hX2;have HH:=hid (bhold_any m (uB b) 1 id s u q w2 hB2 HR.out.1.lk hid9 (by have:=HR.out.2.2.1;have:=HKK.out;omega) (by rw [HR.out.1.nx];exact (HR.out.1.noOf (next_free HR.out.2.1)).1) (by rw [HR.out.1.nx];exact (HR.out.1.noOf (next_free HR.out.2.1)).2) (by rw [HR.out.1.nx];have:=HR.out.2.1.hn;omega) HSB.out);have HB2:=hid hB2;have HK2:=hid hk2;clear hb2 hX2 hB2 hk2;go_wp2_with fail;refine HH.out.mono ?_;intro e w3 hh;have hap:=apply_hold q HB2.out HR.out.1 HR.out.2.1 HR.out.2.2.1 HR.out.2.2.2.2 HK2.out (by rw [HAE.out];exact HFL.out) hh;obtain ⟨F',rfl,h2,h3⟩:=hap;have HE:Hid (BApply w w3 m.p m.F K b 1 id s u q (.returned (.int .i64 ((applyN b 1 id s u q).2:Int)))):=hid ⟨F',rfl,h2,h3⟩;clear h2 h3 hh;generalize ((applyN b 1 id s u q).2:Int)=E at *;go_wp2_with fail;go_ret;exact HE.out
theorem bapply_5 (p:Nat)(F:Nat→Prop)(K:Nat)(b:Bk)(id s u q:Nat)(w:World)(h:Bkk w p F K b)(hK:K≤5000)(hok:okB ⟨(5:Nat),id,s,u,q⟩=true)(hid9:id<4294967296):Calls Tryz.prog 114 #[.pointer (some ⟨p,0,none⟩),.agg #[.int .i64 5,.int .u32 id,.int .i64 s,.int .i64 u,.int .i64 q]] w fun e w'=>BApply w w' p F K b 5 id s u q e:=by
 obtain ⟨m,hw,hr,rfl,rfl,hT⟩:=h;obtain ⟨p1,p2,p3,p4⟩:=apply_pre 5 id s u q hw hr hok hid9;have HT:=hid (there_any m _ p1.hc);have HFL:=hid hw.flt;have HB:=hid p1;have HX:=hid p2;have HBL:=hid p3;have HC:=hid p4;have HR:=hid (And.intro hr hT);have HKK:=hid hK;obtain ⟨x0,_,x1,_,x2,_,x3,_,x4,_⟩:=cells5 p2;have hone:((5:Nat):Int)=5:=rfl;clear hw hr p1 p2 p3 p4 hT hok hK;rw [hone] at HT HB HX HBL HC x0 x1 x2 x3 x4;clear hone;generalize hAe:w.heap.size=A at *;have HAE:=hid hAe;clear hAe;go_enter Tryz.func114,Tryz.ntmps114;go_wp2_with fail;rw [HAE.out];generalize w.alloc (.cells #[.int .i64 5,.int .u32 id,.int .i64 s,.int .i64 u,.int .i64 q] 223)=W at *;refine HT.out.mono ?_;rintro e w' ⟨rfl,rfl⟩;go_wp2_with fail;refine HC.out.mono ?_;rintro e w2 ⟨rfl,hb2⟩;have hX2:=Bl.blk hb2 HX.out;have hB2:=HB.out.new hb2;have hk2:Kp m.F w w2:=(Kp.of_below HBL.out (Nat.le_of_eq HAE.out)).trans (Kp.of_new hb2);clear x0 x1 x2 x3 x4;obtain ⟨x0,_,x1,_,x2,_,x3,_,x4,_⟩:=cells5 hX2;have HH:=hid (btick_any m.p m.F K b q w2 ⟨m,hB2,HR.out.1,rfl,rfl,HR.out.2⟩ HKK.out);have HK2:=hid hk2;clear hb2 hX2 hB2 hk2;go_wp2_with fail;refine HH.out.mono ?_;intro e w3 hh;have hap:BApply w w3 m.p m.F K b 5 id s u q e:=by
  unfold BTick at hh;unfold BApply applyN;rw [if_neg (by decide),if_pos rfl];by_cases h1:q≤b.clock
  ·rw [if_pos h1] at hh ⊢;exact ⟨m.F,hh.1,hh.2.1.more (by omega),step_same (HK2.out.trans hh.2.2) (by rw [HAE.out];exact HFL.out)⟩
  ·rw [if_neg h1] at hh ⊢;exact ⟨m.F,hh.1,hh.2.1.more (by omega),step_same (HK2.out.trans hh.2.2) (by rw [HAE.out];exact HFL.out)⟩
 obtain ⟨F',rfl,h2,h3⟩:=hap;have HE:Hid (BApply w w3 m.p m.F K b 5 id s u q (.returned (.int .i64 ((applyN b 5 id s u q).2:Int)))):=hid ⟨F',rfl,h2,h3⟩;clear h2 h3 hh;generalize ((applyN b 5 id s u q).2:Int)=E at *;go_wp2_with fail;go_ret;exact HE.out
theorem Bw.untilTo {w:World}{m:Bm}(h:Bw w m){i:Nat}{x:Bo}(hx:m.l[i]?=some x)(v:Nat):Bw (w.setCell ⟨m.sb,i*3+2,none⟩ (.int .i64 v)) {m with l:=m.l.set i (x.1,x.2.1,v)}∧Kp (· = m.sb) w (w.setCell ⟨m.sb,i*3+2,none⟩ (.int .i64 v)):=by
 have hk:=(Kp.refl (· = m.sb) w).setCell (p:=⟨m.sb,i*3+2,none⟩) rfl (.int .i64 v);refine ⟨h.rowTo hk (by rw [List.length_set];exact h.len) ?_,hk⟩;have hil:i<m.l.length:=(List.getElem?_eq_some_iff.1 hx).1;have h3:=heap_setCell_same w m.sb (i*3+2) _ 160 (.int .i64 v) h.row;rw [h3,boC_set m.l i (x.1,x.2.1,v) hil];have e0:=boC_get m.l i 0 (by omega);have e1:=boC_get m.l i 1 (by omega);rw [hx] at e0 e1;have s0:(m.l.flatMap boC).set (i*3) (.int .u32 x.1)=m.l.flatMap boC:=by
  apply List.ext_getElem?;intro j;rw [List.getElem?_set];split
  ·rename_i hj;subst hj;split
   ·exact e0.symm
   ·rename_i hh;exact absurd (by rw [boC_len];omega) hh
  ·rfl
 have s1:(m.l.flatMap boC).set (i*3+1) (.int .i64 x.2.1)=m.l.flatMap boC:=by
  apply List.ext_getElem?;intro j;rw [List.getElem?_set];split
  ·rename_i hj;subst hj;split
   ·exact e1.symm
   ·rename_i hh;exact absurd (by rw [boC_len];omega) hh
  ·rfl
 rw [s0,s1];simp
theorem bapply_3 (p:Nat)(F:Nat→Prop)(K:Nat)(b:Bk)(id s u q:Nat)(w:World)(h:Bkk w p F K b)(hs:Sound b)(hK:K≤5000)(hok:okB ⟨(3:Nat),id,s,u,q⟩=true)(hid9:id<4294967296):Calls Tryz.prog 114 #[.pointer (some ⟨p,0,none⟩),.agg #[.int .i64 3,.int .u32 id,.int .i64 s,.int .i64 u,.int .i64 q]] w fun e w'=>BApply w w' p F K b 3 id s u q e:=by
 obtain ⟨m,hw,hr,rfl,rfl,hT⟩:=h;obtain ⟨p1,p2,p3,p4⟩:=apply_pre 3 id s u q hw hr hok hid9;have HT:=hid (there_any m _ p1.hc);have HFL:=hid hw.flt;have HB:=hid p1;have HX:=hid p2;have HBL:=hid p3;have HC:=hid p4;have HR:=hid (And.intro hr (And.intro hs hT));have HKK:=hid hK;obtain ⟨x0,_,x1,_,x2,_,x3,_,x4,_⟩:=cells5 p2;have hone:((3:Nat):Int)=3:=rfl;clear hw hr hs p1 p2 p3 p4 hT hok hK;rw [hone] at HT HB HX HBL HC x0 x1 x2 x3 x4;clear hone;generalize hAe:w.heap.size=A at *;have HAE:=hid hAe;clear hAe;go_enter Tryz.func114,Tryz.ntmps114;go_wp2_with fail;rw [HAE.out];generalize w.alloc (.cells #[.int .i64 3,.int .u32 id,.int .i64 s,.int .i64 u,.int .i64 q] 223)=W at *;refine HT.out.mono ?_;rintro e w' ⟨rfl,rfl⟩;go_wp2_with fail;refine HC.out.mono ?_;rintro e w2 ⟨rfl,hb2⟩;have hX2:=Bl.blk hb2 HX.out;have hB2:=HB.out.new hb2;have hk2:Kp m.F w w2:=(Kp.of_below HBL.out (Nat.le_of_eq HAE.out)).trans (Kp.of_new hb2);have HA2:Hid (A<w2.heap.size):=hid (heap_lt hX2);clear x0 x1 x2 x3 x4;obtain ⟨x0,_,x1,_,x2,_,x3,_,x4,_⟩:=cells5 hX2;cases hg:BookPlain.get b id with
 | none=>
  have HG:=hid (bget_no m id w2 hB2 hid9 (HR.out.1.noOf hg).1);have HK2:=hid hk2;have HGG:=hid hg;clear hb2 hB2 hk2 hg hX2;go_wp2_with fail;refine HG.out.mono ?_;rintro e w3 ⟨rfl,hB3,hK3⟩;have N4:=new1 w3 (.cells #[.int .u32 0,.int .i64 0,.int .i64 0] 160);have hap:BApply w (w3.alloc (.cells #[.int .u32 0,.int .i64 0,.int .i64 0] 160)) m.p m.F K b 3 id s u q (.returned (.int .i64 171)):=by
   unfold BApply applyN;rw [if_neg (by decide),if_neg (by decide),HGG.out];exact ⟨m.F,rfl,⟨m,hB3.new N4.2.2,HR.out.1,rfl,rfl,by have:=HR.out.2.2;dsimp only;omega⟩,step_same ((HK2.out.trans hK3).trans (Kp.of_new N4.2.2)) (by rw [HAE.out];exact HFL.out)⟩
  have HE:=hid hap;clear hB3 hK3 N4 hap;go_wp2_with fail;go_ret;exact HE.out
 | some x=>
  obtain ⟨yi,ys,yu⟩:=x;obtain ⟨s1,s2,s3,s4⟩:=HR.out.1.seatOf hg;dsimp only at s1 s2 s3 s4;subst s4;have HG:=hid (bget_yes m yi ys (yi,ys,yu) w2 hB2 hid9 s1 s2);have HK2:=hid hk2;have HGG:=hid hg;have HS:=hid (And.intro s1 (And.intro s2 s3));have HX2:=hid hX2;clear hb2 hB2 hk2 hg s1 s2 s3 hX2;go_wp2_with fail;refine HG.out.mono ?_;rintro e w3 ⟨rfl,hB3,hK3⟩;have hX3:=hK3.blk HX2.out (fun e=>by have:=HFL.out A e;omega);have N4:=new1 w3 (.cells #[.int .u32 yi,.int .i64 ys,.int .i64 yu] 160);have hX4:=Bl.blk N4.2.2 hX3;clear x0 x1 x2 x3 x4;obtain ⟨x0,_,x1,_,x2,_,x3,_,x4,_⟩:=cells5 hX4;obtain ⟨t0,_,t1,_,t2,_,t3,_,t4,_⟩:=cells5 hX3;obtain ⟨y0,_,y1,_,y2,_⟩:=cells3 N4.1;have hB4:=hB3.new N4.2.2;have HK4:Hid (Kp m.F w (w3.alloc (.cells #[.int .u32 yi,.int .i64 ys,.int .i64 yu] 160))):=hid ((HK2.out.trans hK3).trans (Kp.of_new N4.2.2));have hA3:=heap_lt hX3;have HTB:Hid (m.T≤5000):=hid (by have:=HR.out.2.2;have:=HKK.out;omega);have HD:=hid (bdropx_any m (uB b) yi ys yu _ hB4 HR.out.1.lk hid9 HTB.out HS.out.1 HS.out.2.2);clear hX3 N4 hX4 hB3 hK3 hB4;go_wp2_with fail;refine HD.out.mono ?_;rintro e w6 ⟨rfl,L',T',H',hB6,hL6,hT6,hT7,hln,hK6⟩;have hr6:=HR.out.1.drop (T':=T') HGG.out hL6;have hnd:nT (dropB b ys).l + 1=nT b.l:=by
   obtain ⟨g0,g1,g2,g3⟩:=get_some HR.out.1.fine HGG.out;exact nT_drop g2 (by rw [g1];exact g0)
  have hap:BApply w w6 m.p m.F K b 3 yi s u q (.returned (.int .i64 0)):=by
   unfold BApply applyN;rw [if_neg (by decide),if_neg (by decide),HGG.out];exact ⟨m.F,rfl,⟨_,hB6,hr6,rfl,rfl,by have:=HR.out.2.2;dsimp only at *;simp only [if_neg (show ¬(3:Nat)=2 by decide),if_pos];omega⟩,step_same (HK4.out.trans hK6) (by rw [HAE.out];exact HFL.out)⟩
  have HE:=hid hap;clear hB6 hL6 hT6 hT7 hln hK6 hr6 hnd hap;go_wp2_with fail;go_ret;exact HE.out
theorem bapply_2 (p:Nat)(F:Nat→Prop)(K:Nat)(b:Bk)(id s u q:Nat)(w:World)(h:Bkk w p F K b)(hs:Sound b)(hK:K≤5000)(hok:okB ⟨(2:Nat),id,s,u,q⟩=true)(hid9:id<4294967296):Calls Tryz.prog 114 #[.pointer (some ⟨p,0,none⟩),.agg #[.int .i64 2,.int .u32 id,.int .i64 s,.int .i64 u,.int .i64 q]] w fun e w'=>BApply w w' p F K b 2 id s u q e:=by
 obtain ⟨m,hw,hr,rfl,rfl,hT⟩:=h;obtain ⟨p1,p2,p3,p4⟩:=apply_pre 2 id s u q hw hr hok hid9;have HT:=hid (there_any m _ p1.hc);have HFL:=hid hw.flt;have HB:=hid p1;have HX:=hid p2;have HBL:=hid p3;have HC:=hid p4;have HR:=hid (And.intro hr (And.intro hs hT));have HKK:=hid hK;obtain ⟨x0,_,x1,_,x2,_,x3,_,x4,_⟩:=cells5 p2;have hone:((2:Nat):Int)=2:=rfl;clear hw hr hs p1 p2 p3 p4 hT hok hK;rw [hone] at HT HB HX HBL HC x0 x1 x2 x3 x4;clear hone;generalize hAe:w.heap.size=A at *;have HAE:=hid hAe;clear hAe;go_enter Tryz.func114,Tryz.ntmps114;go_wp2_with fail;rw [HAE.out];generalize w.alloc (.cells #[.int .i64 2,.int .u32 id,.int .i64 s,.int .i64 u,.int .i64 q] 223)=W at *;refine HT.out.mono ?_;rintro e w' ⟨rfl,rfl⟩;go_wp2_with fail;refine HC.out.mono ?_;rintro e w2 ⟨rfl,hb2⟩;have hX2:=Bl.blk hb2 HX.out;have hB2:=HB.out.new hb2;have hk2:Kp m.F w w2:=(Kp.of_below HBL.out (Nat.le_of_eq HAE.out)).trans (Kp.of_new hb2);have HA2:Hid (A<w2.heap.size):=hid (heap_lt hX2);clear x0 x1 x2 x3 x4;obtain ⟨x0,_,x1,_,x2,_,x3,_,x4,_⟩:=cells5 hX2;cases hg:BookPlain.get b id with
 | none=>
  have HG:=hid (bget_no m id w2 hB2 hid9 (HR.out.1.noOf hg).1);have HK2:=hid hk2;have HGG:=hid hg;clear hb2 hB2 hk2 hg hX2;go_wp2_with fail;refine HG.out.mono ?_;rintro e w3 ⟨rfl,hB3,hK3⟩;have N4:=new1 w3 (.cells #[.int .u32 0,.int .i64 0,.int .i64 0] 160);have hap:BApply w (w3.alloc (.cells #[.int .u32 0,.int .i64 0,.int .i64 0] 160)) m.p m.F K b 2 id s u q (.returned (.int .i64 171)):=by
   unfold BApply applyN;rw [if_neg (by decide),if_neg (by decide),HGG.out];exact ⟨m.F,rfl,⟨m,hB3.new N4.2.2,HR.out.1,rfl,rfl,by have:=HR.out.2.2;dsimp only;omega⟩,step_same ((HK2.out.trans hK3).trans (Kp.of_new N4.2.2)) (by rw [HAE.out];exact HFL.out)⟩
  have HE:=hid hap;clear hB3 hK3 N4 hap;go_wp2_with fail;go_ret;exact HE.out
 | some x=>
  obtain ⟨yi,ys,yu⟩:=x;obtain ⟨s1,s2,s3,s4⟩:=HR.out.1.seatOf hg;dsimp only at s1 s2 s3 s4;subst s4;have HG:=hid (bget_yes m yi ys (yi,ys,yu) w2 hB2 hid9 s1 s2);have HK2:=hid hk2;have HGG:=hid hg;have HS:=hid (And.intro s1 (And.intro s2 s3));have HX2:=hid hX2;clear hb2 hB2 hk2 hg s1 s2 s3 hX2;go_wp2_with fail;refine HG.out.mono ?_;rintro e w3 ⟨rfl,hB3,hK3⟩;have hX3:=hK3.blk HX2.out (fun e=>by have:=HFL.out A e;omega);have N4:=new1 w3 (.cells #[.int .u32 yi,.int .i64 ys,.int .i64 yu] 160);have hX4:=Bl.blk N4.2.2 hX3;clear x0 x1 x2 x3 x4;obtain ⟨x0,_,x1,_,x2,_,x3,_,x4,_⟩:=cells5 hX4;obtain ⟨t0,_,t1,_,t2,_,t3,_,t4,_⟩:=cells5 hX3;obtain ⟨y0,_,y1,_,y2,_⟩:=cells3 N4.1;have hB4:=hB3.new N4.2.2;have HK4:Hid (Kp m.F w (w3.alloc (.cells #[.int .u32 yi,.int .i64 ys,.int .i64 yu] 160))):=hid ((HK2.out.trans hK3).trans (Kp.of_new N4.2.2));have hA3:=heap_lt hX3;have HTB:Hid (m.T≤5000):=hid (by have:=HR.out.2.2;have:=HKK.out;omega);have HF:=hid (bfirm_any m (uB b) yi _ hB4 HR.out.1.lk hid9 HTB.out);have HN4:=hid N4;clear hX3 hX4 hB3 hK3 hB4 N4;go_wp2_with fail;refine HF.out.mono ?_;rintro e w6 ⟨rfl,L',T',H',hB6,hL6,hT6,hT7,hK6⟩;have hY6:=hK6.blk HN4.out.1 (fun e=>by have:=HFL.out _ e;omega);clear y0 y1 y2;obtain ⟨y0,_,y1,_,y2,_⟩:=cells3 hY6;obtain ⟨hB7,hK7⟩:=hB6.untilTo HS.out.2.1 0;have c8:=hB6.hc.c8;have f2:=hB6.froz (ys*3+2);obtain ⟨v0,v1,v2⟩:=hB6.cells HS.out.2.1;dsimp only at c8 f2 v0 v1 v2 hB7 hK7;have hf:Fine (firmB b (yi,ys,yu)):=(firmB_sound HR.out.2.1 HGG.out).toFine;obtain ⟨hr7,hn7⟩:=HR.out.1.firm HGG.out hf hL6 (T':=T');have hap:BApply w (w6.setCell ⟨m.sb,ys*3+2,none⟩ (.int .i64 ((0:Nat):Int))).drew m.p m.F K b 2 yi s u q (.returned (.int .i64 0)):=by
   unfold BApply applyN;rw [if_neg (by decide),if_neg (by decide),HGG.out];refine ⟨m.F,rfl,⟨_,hB7.new (Below.refl _ _).drew,hr7,rfl,rfl,by have:=HR.out.2.2;show T'+nT (firmB b (yi,ys,yu)).l ≤K+2;dsimp only at *;omega⟩,step_same (((HK4.out.trans hK6).trans (hK7.mono Fsubs)).drew) (by rw [HAE.out];exact HFL.out)⟩
  have HE:=hid hap;have hsI:(ys:Int)<(m.s:Int):=by have:=HS.out.2.2;omega
  clear hB6 hL6 hT6 hT7 hK6 hr7 hn7 hap hY6 hB7 hK7 hf;go_wp2_with fail;go_region
  all_goals
   go_wp2_with fail;go_ret;exact HE.out
theorem bapply_4 (p:Nat)(F:Nat→Prop)(K:Nat)(b:Bk)(id s u q:Nat)(w:World)(h:Bkk w p F K b)(hs:Sound b)(hK:K≤5000)(hok:okB ⟨(4:Nat),id,s,u,q⟩=true)(hid9:id<4294967296):Calls Tryz.prog 114 #[.pointer (some ⟨p,0,none⟩),.agg #[.int .i64 4,.int .u32 id,.int .i64 s,.int .i64 u,.int .i64 q]] w fun e w'=>BApply w w' p F K b 4 id s u q e:=by
 obtain ⟨m,hw,hr,rfl,rfl,hT⟩:=h;obtain ⟨p1,p2,p3,p4⟩:=apply_pre 4 id s u q hw hr hok hid9;have HT:=hid (there_any m _ p1.hc);have HFL:=hid hw.flt;have HB:=hid p1;have HX:=hid p2;have HBL:=hid p3;have HC:=hid p4;have HR:=hid (And.intro hr (And.intro hs hT));have HKK:=hid hK;obtain ⟨x0,_,x1,_,x2,_,x3,_,x4,_⟩:=cells5 p2;have hone:((4:Nat):Int)=4:=rfl;clear hw hr hs p1 p2 p3 p4 hT hok hK;rw [hone] at HT HB HX HBL HC x0 x1 x2 x3 x4;clear hone;generalize hAe:w.heap.size=A at *;have HAE:=hid hAe;clear hAe;go_enter Tryz.func114,Tryz.ntmps114;go_wp2_with fail;rw [HAE.out];generalize w.alloc (.cells #[.int .i64 4,.int .u32 id,.int .i64 s,.int .i64 u,.int .i64 q] 223)=W at *;refine HT.out.mono ?_;rintro e w' ⟨rfl,rfl⟩;go_wp2_with fail;refine HC.out.mono ?_;rintro e w2 ⟨rfl,hb2⟩;have hX2:=Bl.blk hb2 HX.out;have hB2:=HB.out.new hb2;have hk2:Kp m.F w w2:=(Kp.of_below HBL.out (Nat.le_of_eq HAE.out)).trans (Kp.of_new hb2);have HA2:Hid (A<w2.heap.size):=hid (heap_lt hX2);clear x0 x1 x2 x3 x4;obtain ⟨x0,_,x1,_,x2,_,x3,_,x4,_⟩:=cells5 hX2;cases hg:BookPlain.get b id with
 | none=>
  have HG:=hid (bget_no m id w2 hB2 hid9 (HR.out.1.noOf hg).1);have HK2:=hid hk2;have HGG:=hid hg;clear hb2 hB2 hk2 hg hX2;go_wp2_with fail;refine HG.out.mono ?_;rintro e w3 ⟨rfl,hB3,hK3⟩;have N4:=new1 w3 (.cells #[.int .u32 0,.int .i64 0,.int .i64 0] 160);have hap:BApply w (w3.alloc (.cells #[.int .u32 0,.int .i64 0,.int .i64 0] 160)) m.p m.F K b 4 id s u q (.returned (.int .i64 171)):=by
   unfold BApply applyN;rw [if_neg (by decide),if_neg (by decide),HGG.out];exact ⟨m.F,rfl,⟨m,hB3.new N4.2.2,HR.out.1,rfl,rfl,by have:=HR.out.2.2;dsimp only;omega⟩,step_same ((HK2.out.trans hK3).trans (Kp.of_new N4.2.2)) (by rw [HAE.out];exact HFL.out)⟩
  have HE:=hid hap;clear hB3 hK3 N4 hap;go_wp2_with fail;go_ret;exact HE.out
 | some x=>
  obtain ⟨yi,ys,yu⟩:=x;obtain ⟨s1,s2,s3,s4⟩:=HR.out.1.seatOf hg;dsimp only at s1 s2 s3 s4;subst s4;have HG:=hid (bget_yes m yi ys (yi,ys,yu) w2 hB2 hid9 s1 s2);have HK2:=hid hk2;have HGG:=hid hg;have HS:=hid (And.intro s1 (And.intro s2 s3));have HX2:=hid hX2;clear hb2 hB2 hk2 hg s1 s2 s3 hX2;go_wp2_with fail;refine HG.out.mono ?_;rintro e w3 ⟨rfl,hB3,hK3⟩;have hX3:=hK3.blk HX2.out (fun e=>by have:=HFL.out A e;omega);have N4:=new1 w3 (.cells #[.int .u32 yi,.int .i64 ys,.int .i64 yu] 160);have hX4:=Bl.blk N4.2.2 hX3;clear x0 x1 x2 x3 x4;obtain ⟨x0,_,x1,_,x2,_,x3,_,x4,_⟩:=cells5 hX4;obtain ⟨t0,_,t1,_,t2,_,t3,_,t4,_⟩:=cells5 hX3;obtain ⟨y0,_,y1,_,y2,_⟩:=cells3 N4.1;have hB4:=hB3.new N4.2.2;have HK4:Hid (Kp m.F w (w3.alloc (.cells #[.int .u32 yi,.int .i64 ys,.int .i64 yu] 160))):=hid ((HK2.out.trans hK3).trans (Kp.of_new N4.2.2));have hA3:=heap_lt hX3;have HTB:Hid (m.T≤5000):=hid (by have:=HR.out.2.2;have:=HKK.out;omega);have HD:=hid (bmove_any m yi ys yu s _ hB4 hid9 HS.out.1 HS.out.2.2);clear hX3 N4 hX4 hB3 hK3 hB4;go_wp2_with fail;refine HD.out.mono ?_;intro e w6 hmv;have hap:BApply w w6 m.p m.F K b 4 yi s u q e:=by
   unfold BMove at hmv;unfold BApply applyN;rw [if_neg (by decide),if_neg (by decide),HGG.out];simp only [if_neg (show ¬(4:Nat)=2 by decide),if_neg (show ¬(4:Nat)=3 by decide)];have hsame:∀c:Nat,e = .returned (.int .i64 c)→BSame (w3.alloc (.cells #[.int .u32 yi,.int .i64 ys,.int .i64 yu] 160)) w6 m→ ∃F',e = .returned (.int .i64 ((b,c).2:Int))∧Bkk w6 m.p F' (K+2) (b,c).1∧Step m.F F' w w6:=fun c he h=>
    ⟨m.F,he,⟨m,h.1,HR.out.1,rfl,rfl,by have:=HR.out.2.2;dsimp only;omega⟩,step_same (HK4.out.trans h.2) (by rw [HAE.out];exact HFL.out)⟩
   have es:=HR.out.1.s;by_cases h1:b.s≤s
   ·rw [if_pos (by omega)] at hmv;rw [if_pos h1];exact hsame 140 hmv.1 hmv.2
   rw [if_neg (by omega)] at hmv;rw [if_neg h1];by_cases h2:s=ys
   ·rw [if_pos h2] at hmv ⊢;exact hsame 0 hmv.1 hmv.2
   rw [if_neg h2] at hmv ⊢;have ew:=HR.out.1.W s (by omega);by_cases h3:held b s=true
   ·rw [if_pos (by rw [ew];exact h3)] at hmv;rw [if_pos h3];exact hsame 170 hmv.1 hmv.2
   rw [if_neg (by rw [ew];exact h3)] at hmv;rw [if_neg h3];obtain ⟨he,hB6,hK6⟩:=hmv;have hz:=held_false HR.out.1.fine (i:=s) (by omega) (by simpa using h3);obtain ⟨hr6,hn6⟩:=HR.out.1.seat HGG.out (s:=s) (by omega) hz;exact ⟨m.F,he,⟨_,hB6,hr6,rfl,rfl,by have:=HR.out.2.2;dsimp only at *;omega⟩,step_same (HK4.out.trans hK6) (by rw [HAE.out];exact HFL.out)⟩
  obtain ⟨F',rfl,h2,h3⟩:=hap;have HE:Hid (BApply w w6 m.p m.F K b 4 yi s u q (.returned (.int .i64 ((applyN b 4 yi s u q).2:Int)))):=hid ⟨F',rfl,h2,h3⟩;clear h2 h3 hmv;generalize ((applyN b 4 yi s u q).2:Int)=E at *;go_wp2_with fail;go_ret;exact HE.out
theorem bapply_any (p:Nat)(F:Nat→Prop)(K:Nat)(b:Bk)(k id s u q:Nat)(w:World)(h:Bkk w p F K b)(hs:Sound b)(hK:K≤5000)(hok:okB ⟨k,id,s,u,q⟩=true):Calls Tryz.prog 114 #[.pointer (some ⟨p,0,none⟩),.agg #[.int .i64 k,.int .u32 id,.int .i64 s,.int .i64 u,.int .i64 q]] w fun e w'=>BApply w w' p F K b k id s u q e:=by
 have ho:=hok;unfold okB at ho;simp only [Bool.and_eq_true] at ho;obtain ⟨h1,h2,h3,h4,h5⟩:=ho;have hk:1≤(k:Int)∧(k:Int)≤5:=of_decide_eq_true h1;have hin:∀(t:Bool) (n:Nat) (a c:Int),withinB t n a c=true→(n:Int)≤c∨n=0:=by
  intro t n a c hh;unfold withinB at hh;cases t with
  | true=>rw [if_pos rfl] at hh;exact Or.inl (of_decide_eq_true hh).2
  | false=>rw [if_neg (by decide)] at hh;have:=of_decide_eq_true hh;exact Or.inr (by omega)
 have b2:=hin _ _ _ _ h2;have b3:=hin _ _ _ _ h3;have b4:=hin _ _ _ _ h4;have hM:M=1099511627776:=rfl;have hk5:k=1∨k=2∨k=3∨k=4∨k=5:=by omega
 rcases hk5 with rfl | rfl | rfl | rfl | rfl
 ·exact bapply_1 p F K b id s u q w h hs hK hok (by omega) (by omega) (by omega)
 ·exact bapply_2 p F K b id s u q w h hs hK hok (by omega)
 ·exact bapply_3 p F K b id s u q w h hs hK hok (by omega)
 ·exact bapply_4 p F K b id s u q w h hs hK hok (by omega)
 ·exact bapply_5 p F K b id s u q w h hK hok (by omega)
end
end Go.Proofs.YtdjiopacieadpaaGreatDoor

/- TopNear: part Paf: Rf Tk DiskW DiskS DiskY. -/
import Derived.Test.YtdjiopacieadpaaGreatDoorPae
import Derived.RangeFuncWrites
import Derived.RangeFuncBox
import Derived.RangeFuncCalls
import Derived.OrdersIn
import Derived.OrdersHeld
import Derived.Deep.RegionHeld
import Derived.Deep.RegionHeldLaw
import Derived.Deep.AppendLies
import Derived.Laws.CopyOwn
set_option linter.unusedVariables false
set_option linter.unusedSimpArgs false
set_option maxRecDepth 8000
set_option maxHeartbeats 8000000
namespace Go.Proofs.YtdjiopacieadpaaGreatDoor
section
open Go.RowKit
theorem op_in {l n:Nat}{P:Program}{o:Oper}{a:Act}{w:World}{K K':Act→World→Prop}{Q:Exit→Act→World→Prop}(hd:∀c,o.op≠ .defer c)(hQ:¬LetsOut Q)(hK:∀a w,K a w→K' a w)(h:o.wp P a w K Q):o.wpIn (Fence.wide.inRound l) n P a w K' Q:=by
 unfold Oper.wpIn;refine ⟨fun _ _=>trivial,?_⟩;rw [Oper.semAt_eq _ _ _ hd];unfold Oper.wp at h;generalize (execOp a.eval o).run P w=r at h;cases r with
 | ok x w'=>
  cases x with
  | value v=>exact hK _ _ h
  | skip=>exact hK _ _ h
  | defer d=>exact hK _ _ h
  | enter f args=>
   refine ⟨fun e=>by simp [Fence.inRound,Fence.wide] at e,CallsIn.inRound l (callsIn_wide.2 (Calls.mono h ?_))⟩;intro e w'' he;cases e with
   | returned v=>exact hK _ _ he
   | panicked c=>exact he
   | outgrown=>exact he
  | row r args=>
   refine ⟨fun e=>by simp [Fence.inRound,Fence.wide] at e,fun c cs _=>?_⟩;obtain ⟨v,w'',h1,h2⟩:=h c cs;exact ⟨v,w'',hK _ _ h1,stepsIn_wide.2 h2⟩
  | round=>exact h.elim
  | _=>exact h.elim
 | halt x w'=>
  cases x<;>first | exact h | exact h.elim
theorem opAt_in {l n:Nat}{P:Program}{ops:Array Oper}{i:Nat}{a:Act}{w:World}{K K':Act→World→Prop}{Q:Exit→Act→World→Prop}(hd:∀(i:Nat) (o:Oper),ops[i]?=some o→ ∀c,o.op≠ .defer c)(hQ:¬LetsOut Q)(hK:∀a w,K a w→K' a w)(h:wpOp P ops Q i K a w):wpOpIn (Fence.wide.inRound l) n P ops Q i K' a w:=by
 unfold wpOp at h;unfold wpOpIn;cases ho:ops[i]? with
 | none=>rw [ho] at h;exact hK _ _ h
 | some o=>
  rw [ho] at h;dsimp only at h ⊢;split
  ·rename_i hw;rw [if_pos hw] at h;rcases h with h | ⟨_,h⟩
   ·exact op_in (hd i o ho) hQ hK h
   ·exact absurd h hQ
  ·rename_i hw;rw [if_neg hw] at h;exact ⟨fun _ _=>trivial,hK _ _ h⟩
theorem any_in {l n:Nat}{P:Program}{md:Region.Mode}{ops:Array Oper}{Q:Exit→Act→World→Prop}(hd:∀(i:Nat) (o:Oper),ops[i]?=some o→ ∀c,o.op≠ .defer c)(hQ:¬LetsOut Q):∀(fuel:Nat) (listed:Array Bool) (a:Act) (w:World),wpAny P md ops Q fuel listed a w→wpAnyIn (Fence.wide.inRound l) n P md ops Q fuel listed a w
 | 0,listed,a,w,h=>h
 | fuel+1,listed,a,w,h=>⟨h.1,fun i hi=>opAt_in hd hQ (fun a w=>any_in hd hQ fuel _ a w) (h.2 i hi)⟩
theorem region_in {l n id:Nat}{P:Program}{ops:Array Oper}{Q:Exit→Act→World→Prop}{a:Act}{w:World}(hm:P.follows .mixedOrders = true)(hd:∀(i:Nat) (o:Oper),ops[i]?=some o→ ∀c,o.op≠ .defer c)(hQ:¬LetsOut Q)(h:wpAny P .any ops Q ops.size (Array.replicate ops.size false) a w.drew):(Code.region id ops true).wpIn (Fence.wide.inRound l) n P Q a w:=
 wpIn_region_any hm (any_in hd hQ _ _ _ _ h)
theorem no_defer {ops:Array Oper}(h:(ops.all fun o=>match o.op with | .defer _=>false | _=>true)=true):∀(i:Nat) (o:Oper),ops[i]?=some o→ ∀c,o.op≠ .defer c:=by
 intro i o ho c e;have h1:=Array.all_eq_true.1 h i (Array.getElem?_eq_some_iff.1 ho).1;have h2:=(Array.getElem?_eq_some_iff.1 ho).2;rw [h2,e] at h1;cases h1
theorem takeRH {P:Program}{md:Region.Mode}{ops:Array Oper}{Q:Exit→Act→World→Prop}{S:World→Prop}{i:Nat}{oi:Oper}{d:Option Tmp}{v:Value}{fuel:Nat}{listed:Array Bool}{a:Act}{w:World}(hi:ops[i]?=some oi)(hd:oi.dst=d)(hs:Region.noSelect ops=true)(hf:Region.free md ops listed i=true)(hr:(Region.ready md ops listed).contains i=true)(hQ:∀c a w,Q (.panic c) (a.put oi.dst v) w→Q (.panic c) a w)(hy:YieldsIf P ops S oi v a)(hS:S w)(h:wpAnyH P md ops Q S fuel (listed.setIfInBounds i true) (a.put d v) w):wpAnyH P md ops Q S (fuel+1) listed a w:=by
 subst hd;exact wpAnyH_take hi hs hf hr hQ hy hS h
theorem region_in_held {l n id:Nat}{P:Program}{ops:Array Oper}{Q:Exit→Act→World→Prop}{a:Act}{w:World}(S:World→Prop)(hm:P.follows .mixedOrders = true)(hd:∀(i:Nat) (o:Oper),ops[i]?=some o→ ∀c,o.op≠ .defer c)(hQ:¬LetsOut Q)(hS:S w.drew)(h:S w.drew→wpAnyH P .any ops Q S ops.size (Array.replicate ops.size false) a w.drew):(Code.region id ops true).wpIn (Fence.wide.inRound l) n P Q a w:=
 region_in hm hd hQ (wpAny_of_held _ _ _ _ (h hS))
theorem wide_in {n:Nat}{P:Program}{f:FuncId}{args:Array Value}{w:World}{R:Ending→World→Prop}(h:Calls P f args w R):CallsIn Fence.wide n P f args w R:=callsIn_wide.2 h
def chkL (md:Region.Mode)(ops:Array Oper):List (Nat×Nat)→Array Bool→Bool
 | [],_=>true
 | x::L,l=>((match ops[x.1]? with | some o=>o.dst == some x.2 | none=>false) && Region.free md ops l x.1) && ((Region.ready md ops l).contains x.1 && chkL md ops L (l.setIfInBounds x.1 true))
def setL:List (Nat×Nat)→Array Bool→Array Bool
 | [],l=>l
 | x::L,l=>setL L (l.setIfInBounds x.1 true)
def ysL (P:Program)(ops:Array Oper)(S:World→Prop)(K:Act→Prop):List (Nat×Nat)→Act→Prop
 | [],a=>K a
 | x::L,a=> ∃o v,ops[x.1]?=some o∧YieldsIf P ops S o v a∧ysL P ops S K L (a.put (some x.2) v)
section
variable {P:Program} {md:Region.Mode} {ops:Array Oper} {Q:Exit→Act→World→Prop} {S:World→Prop} {o:Oper} {v:Value} {fuel i d:Nat} {listed:Array Bool} {a:Act} {w:World} {K:Act→Prop} {L:List (Nat×Nat)}
theorem ysN (h:K a):ysL P ops S K [] a:=h
theorem ysC (ho:ops[i]?=some o)(hw:Region.wanted o (yielded ops a.tmps)=true)(hy:∀w,S w→(execOp a.eval o).run P w = .ok (.value v) w)(h:ysL P ops S K L (a.put (some d) v)):ysL P ops S K ((i,d)::L) a:=⟨o,v,ho,Or.inl ⟨hw,hy⟩,h⟩
theorem tkm_all (hs:Region.noSelect ops=true)(hQ:∀c a d v w,Q (.panic c) (a.put (some d) v) w→Q (.panic c) a w)(hS:S w):∀(L:List (Nat×Nat)) (listed:Array Bool) (a:Act),chkL md ops L listed=true→ysL P ops S (fun a'=>wpAnyH P md ops Q S fuel (setL L listed) a' w) L a→wpAnyH P md ops Q S (fuel+L.length) listed a w
 | [],_,_,_,h=>h
 | x::L,l,a,hc,h=>by
  obtain ⟨o,v,ho,hy,h⟩:=h;unfold chkL at hc;rw [ho] at hc;simp only [Bool.and_eq_true,beq_iff_eq] at hc;obtain ⟨⟨h1,h2⟩,h3,h4⟩:=hc;exact takeRH ho h1 hs h2 h3 (fun c a w hq=>hQ c a x.2 v w (by rw [h1] at hq;exact hq)) hy hS (tkm_all hs hQ hS L _ _ h4 h)
theorem tkm (n:Nat)(L:List (Nat×Nat))(hc:(Region.noSelect ops && (L.length == n && chkL md ops L listed))=true)(hQ:∀c a d v w,Q (.panic c) (a.put (some d) v) w→Q (.panic c) a w)(hS:S w)(h:ysL P ops S (fun a'=>wpAnyH P md ops Q S fuel (setL L listed) a' w) L a):wpAnyH P md ops Q S (fuel+n) listed a w:=by
 simp only [Bool.and_eq_true,beq_iff_eq] at hc;obtain ⟨h1,rfl,h2⟩:=hc;exact tkm_all h1 hQ hS L listed a h2 h
theorem rd1 (i:Nat)(hr:Region.ready md ops listed=[i])(ho:ops[i]?=some o)(h:∀K':Act→World→Prop,Shut (∀a w,S w→(S w→wpAnyH P md ops Q S fuel (listed.setIfInBounds i true) a w)→K' a w)→if Region.wanted o (yielded ops a.tmps)=true then Oper.wp P o a w K' Q else K' (a.put o.dst undef) w):wpAnyH P md ops Q S (fuel+1) listed a w:=
 wpAnyH_ready hr (by simp) (AllReadyH.cons ho h AllReadyH.nil)
theorem rd2 {o2:Oper}(i j:Nat)(hr:Region.ready md ops listed=[i,j])(ho:ops[i]?=some o)(ho2:ops[j]?=some o2)(h:∀K':Act→World→Prop,Shut (∀a w,S w→(S w→wpAnyH P md ops Q S fuel (listed.setIfInBounds i true) a w)→K' a w)→if Region.wanted o (yielded ops a.tmps)=true then Oper.wp P o a w K' Q else K' (a.put o.dst undef) w)(h2:∀K':Act→World→Prop,Shut (∀a w,S w→(S w→wpAnyH P md ops Q S fuel (listed.setIfInBounds j true) a w)→K' a w)→if Region.wanted o2 (yielded ops a.tmps)=true then Oper.wp P o2 a w K' Q else K' (a.put o2.dst undef) w):wpAnyH P md ops Q S (fuel+1) listed a w:=
 wpAnyH_ready hr (by simp) (AllReadyH.cons ho h (AllReadyH.cons ho2 h2 AllReadyH.nil))
end
end
section
open Go.RowKit Go.ChangeMaps Go.MapKept
theorem keep3 {w w':World}{d T:Nat}{x y v:Value}(hd:w'.heap[d]?=w.heap[d]?)(hT:w'.heap[T]?=w.heap[T]?)(h:w.cell? ⟨d,3,none⟩=some x∧w.cell? ⟨T,0,none⟩=some y∧w.cell? ⟨T,1,none⟩=some v):
 w'.cell? ⟨d,3,none⟩=some x∧w'.cell? ⟨T,0,none⟩=some y∧w'.cell? ⟨T,1,none⟩=some v:=by
 rw [World.cell?_of_block (w:=w) (w':=w') (a:=⟨d,3,none⟩) hd,World.cell?_of_block (w:=w) (w':=w') (a:=⟨T,0,none⟩) hT,World.cell?_of_block (w:=w) (w':=w') (a:=⟨T,1,none⟩) hT];exact h
theorem keep3s {w:World}{d T:Nat}{x y v:Value}(V:Value)(hT:T≠d)(h:w.cell? ⟨d,3,none⟩=some x∧w.cell? ⟨T,0,none⟩=some y∧w.cell? ⟨T,1,none⟩=some v):
 (w.setCell ⟨d,2,none⟩ V).cell? ⟨d,3,none⟩=some x∧(w.setCell ⟨d,2,none⟩ V).cell? ⟨T,0,none⟩=some y∧(w.setCell ⟨d,2,none⟩ V).cell? ⟨T,1,none⟩=some v:=by
 obtain ⟨a,b,c⟩:=h;refine ⟨?_,?_,?_⟩
 ·rw [World.cell?_setCell_other _ _ _ _ (by simp)];exact a
 ·rw [World.cell?_setCell_other _ _ _ _ (by simp [hT])];exact b
 ·rw [World.cell?_setCell_other _ _ _ _ (by simp [hT])];exact c
theorem dwrite_any (d z:Nat)(s:Dst)(F:Nat→Prop)(i:Nat)(v:Value)(l:List Nat)(w:World)(h:Dk w d z s F)(hi:i<s.dur.length)(hn:s.dur.length≤96)(hr:s.row.length<100000)(hv:Sl w v (Lb l))(hl:l.length=z)(hb:Bs l):
 Calls Tryz.prog 170 #[.pointer (some ⟨d,0,none⟩),.int .i64 i,v] w fun e w'=>e = .returned (.int .i64 0)∧ ∃F',Step F F' w w'∧Dk w' d z {s with row:=s.row++[(i,l)]} F':=by
 have H:=hid h;have hz:=h.hz;obtain ⟨a,c,hc0,_⟩:=h.at01;obtain ⟨av,cv,e1,_,_⟩:=Sl_partsB hv;rw [hl] at e1;subst e1;have HV:=hid hv;have HI:=hid hi;have HN:=hid hn;have HR:=hid hr;have HL:=hid hl;have HB:=hid hb;have hne:(z != z)=false:=by simp
 clear h hv hl hb hi hn hr;go_enter Tryz.func170,Tryz.ntmps170;go_wp2_with fail;refine (dnone_ok d z s F i _ H.out HI.out).mono ?_;rintro e w' ⟨rfl,rfl⟩;go_wp2_with fail;refine (bclone_any _ l _ HV.out (by rw [HL.out];omega) (by rw [HL.out];omega)).mono ?_;rintro e w1 ⟨v1,rfl,ho,hbel⟩;rw [HL.out] at ho;obtain ⟨g1,cg1,rfl,hgc,hgb⟩:=own_some ho (by omega);have HO:=hid ho;have HBL:=hid hbel;clear ho hbel hgc hgb;go_wp2_with fail;have hN:=new1 w1 (Obj.cells #[.int .i64 i,.slice (some ⟨g1,0,none⟩) z cg1] 190);have hs1:=HBL.out.size;revert hN hs1
 generalize hT:w1.heap.size=T;generalize w1.alloc (Obj.cells #[.int .i64 i,.slice (some ⟨g1,0,none⟩) z cg1] 190)=W;rintro ⟨hnT,hnS,hnB⟩ hs1;have hBW:Below w.heap.size w W:=by
  have:=HBL.out;exact this.trans (hnB.mono hs1)
 have HD1:Dk W d z s F:=H.out.new hBW;have hflt:=H.out.flt;obtain ⟨secs,dv,rv,m,ents,hP⟩:=HD1;obtain ⟨oa,rn,erv,_,_⟩:=own_form hP.hrv;subst erv;have HPX:=hid hP;have HV1:=hid (own_below HO.out hnB (by omega));have cD:=blk hP.hd;have cT:=blk hnT;have k3:W.cell? ⟨d,3,none⟩=some (.map (some m)):=cD.1 3;have k2:W.cell? ⟨d,2,none⟩=some (.slice oa ents.length rn):=cD.1 2;have kT0:W.cell? ⟨T,0,none⟩=some (.int .i64 i):=cT.1 0;have kT1:W.cell? ⟨T,1,none⟩=some (.slice (some ⟨g1,0,none⟩) z cg1):=cT.1 1;have f2:W.frozen? ⟨d,2,none⟩=false:=cD.2.1 2;obtain ⟨i0,hi0,hz0,hz1,hz2⟩:=info_parts info190;have HI0:=hid hi0;have HZ2:=hid hz2;have HBW:=hid hBW;have HNT:=hid hnT;have HNS:=hid hnS;have HNB:=hid hnB;have HFL:=hid hflt;clear hP cD cT hi0 hz2 hBW hnT hnS hnB hflt;have hX:(W.alloc (Obj.cells #[.int .i64 i,.slice (some ⟨g1,0,none⟩) z cg1] 190)).drew.heap[W.heap.size]?=some (Obj.cells #[.int .i64 i,.slice (some ⟨g1,0,none⟩) z cg1] 190):=heap_alloc_new W _;have hXB:Below W.heap.size W (W.alloc (Obj.cells #[.int .i64 i,.slice (some ⟨g1,0,none⟩) z cg1] 190)).drew :=((Below.refl _ _).alloc (Nat.le_refl _) _).trans ⟨rfl,rfl,rfl,Nat.le_refl _,fun _ _=>rfl⟩;have hXS:(W.alloc (Obj.cells #[.int .i64 i,.slice (some ⟨g1,0,none⟩) z cg1] 190)).drew.heap.size = W.heap.size+1:=by show (W.alloc _).heap.size = _;simp
 have HP2:=hid (HPX.out.stay (G:=nob) (Kp.of_new hXB) (fun _ _ h=>h));have HV2:=hid (own_below HV1.out hXB (Nat.le_refl _));have HX:=hid hX;have HXB:=hid hXB;have HXS:=hid hXS;have HEN:Hid (ents.length<100000):=hid (by have:=HR.out;rw [HPX.out.hrow,List.length_map] at this;exact this);have HCD:=hid (blk HP2.out.hd);have HCT:=hid (blk (Bl.blk HXB.out HNT.out));have HTD:Hid (T≠d):=hid (by have:=HFL.out d HP2.out.hF.1;have:=HBL.out.size;omega);have HBF:=HFL;have HBw:Hid (w.heap.size≤(W.alloc (Obj.cells #[.int .i64 i,.slice (some ⟨g1,0,none⟩) z cg1] 190)).drew.heap.size):=hid (by rw [HXS.out];have:=HBW.out.size;omega);have HIS:Hid (i<secs.length):=hid (by rw [HPX.out.hlen];exact HI.out);have HS96:Hid (secs.length≤96):=hid (by rw [HPX.out.hlen];exact HN.out);have k2':=(blk HP2.out.hd).1 2;have k2'':(W.alloc (Obj.cells #[.int .i64 i,.slice (some ⟨g1,0,none⟩) z cg1] 190)).cell? ⟨d,2,none⟩=some (.slice oa ents.length rn):=k2';simp only [List.getElem?_toArray,List.getElem?_cons_succ,List.getElem?_cons_zero] at k2';clear hX hXB hXS;refine wp_region_held_drew (S:=fun w'=>w'.cell? ⟨d,3,none⟩=some (.map (some m))∧w'.cell? ⟨T,0,none⟩=some (.int .i64 i)∧w'.cell? ⟨T,1,none⟩=some (.slice (some ⟨g1,0,none⟩) z cg1)) (by kernel_rfl) (by (try dsimp only);first | assumption | go_keep) (fun hHeld=>?_);refine tkm 12 [(0,26),(1,27),(2,28),(3,29),(4,30),(5,31),(6,32),(7,33),(8,34),(10,36),(13,39),(14,40)] (by kernel_rfl) (fun _ _ _ _ _ h=>h) (by assumption) ?_;iterate 12
  refine ysC (v:=?_) rfl rfl (fun w9 hS9=>?_) ?_;rotate_left
  ·try dsimp only at hS9
   go_split_ands;go_simp;try with_reducible rfl
  simp only [Act.put,List.setIfInBounds_toArray,List.set_cons_zero,List.set_cons_succ]
 refine ysN ?_;refine rd2 9 11 (by kernel_rfl) rfl rfl (fun K9 hK9=>?_) (fun K9 hK9=>?_);go_simp;refine hK9.out _ _ (by (try dsimp only);first | assumption | go_keep) (fun hHeld=>?_);clear hK9 K9;refine rd1 11 (by kernel_rfl) rfl (fun K9 hK9=>?_);go_simp;refine hK9.out _ _ (by (try dsimp only);first | assumption | go_keep) (fun hHeld=>?_);clear hK9 K9;rotate_left;go_simp;refine hK9.out _ _ (by (try dsimp only);first | assumption | go_keep) (fun hHeld=>?_);clear hK9 K9;refine rd1 9 (by kernel_rfl) rfl (fun K9 hK9=>?_);go_simp;refine hK9.out _ _ (by (try dsimp only);first | assumption | go_keep) (fun hHeld=>?_);clear hK9 K9;rotate_left;all_goals
  refine rd1 12 (by kernel_rfl) rfl (fun K9 hK9=>?_);(
   first | assumption |
   (
    refine step_append_lies _ (by rfl) _ _ 137 (by rfl) 0 190 i0 (.agg #[.int .i64 0,.slice none 0 0]) 2 32 Tryz.underlying137 HI0.out hz0 hz1 HZ2.out (by rfl) (by decide) (.slice oa ents.length rn) ents.length (ents.flatMap entC) (by rfl) HP2.out.hrv ⟨W.heap.size,0,none⟩ 1 1 [.int .i64 i,.slice (some ⟨g1,0,none⟩) z cg1] (by rfl) (by rfl) (World.news_of_block HX.out) (by simp [Value.oneCell']) (by decide) (by have:=HEN.out;unfold maxLen;omega) (by have:=HEN.out;omega) (Nat.zero_le _) (W.heap.size+1) HXS.out ?_;intro g cap w4 hown hgrow hat hlt;have hat':(Value.slice oa ents.length rn).ownBlock = some g∨w.heap.size≤g:=by
     rcases hat with e | e
     ·exact Or.inl e
     ·have:=HBw.out;rw [HXS.out] at this;exact Or.inr (by omega)
    obtain ⟨v0,st,o1,o2,HW⟩:=HP2.out.written HIS.out HS96.out HEN.out HL.out HB.out HV2.out HBF.out HBw.out hown hgrow hat' hlt;have hTr:(Value.slice oa ents.length rn).ownBlock ≠some T:=fun e=>by have:=HFL.out T (HP2.out.hF.2.2.2.2 T e);have:=HBL.out.size;omega
    have hTm:T≠m:=fun e=>by have:=HFL.out m HP2.out.hF.2.1;have:=HBL.out.size;omega
    have hdm:d≠m:=by obtain ⟨es,c9,hm9⟩:=HP2.out.hmp.isMap;exact map_ne HP2.out.hd hm9
    have k4:=keep3 (d:=d) (T:=T) HW.blk (hgrow.block T (by rw [HXS.out];have:=HNS.out;omega) (fun e=>hTr e.symm)) ⟨HCD.out.1 3,HCT.out.1 0,HCT.out.1 1⟩;have k5:=keep3s (.slice (some ⟨g,0,none⟩) (ents.length+1) cap) HTD.out k4;have k6:=keep3 (setB_other hdm o1) (setB_other hTm o1) k5;have k7:=keep3 (w':=wrote w4 d m (.slice (some ⟨g,0,none⟩) (ents.length+1) cap) o1 o2) (setB_other hdm o2) (setB_other hTm o2) k6;have hHW:=hid HW;have hgr:=hid hgrow;have c2:=HW.c2;have f4:=HW.f2;have r1:=HW.r1;have r2:=HW.r2;clear HW hown hgrow hat hat' hlt hTr hTm hdm))
  refine hK9.out _ _ (by (try dsimp only);first | assumption | go_keep) (fun hHeld=>?_);clear hK9 K9;refine tkm 2 [(15,41),(16,42)] (by kernel_rfl) (fun _ _ _ _ _ h=>h) (by assumption) ?_;iterate 2
   refine ysC (v:=?_) rfl rfl (fun w9 hS9=>?_) ?_;rotate_left
   ·try dsimp only at hS9
    go_split_ands;go_simp;try with_reducible rfl
   simp only [Act.put,List.setIfInBounds_toArray,List.set_cons_zero,List.set_cons_succ]
  refine ysN ?_;refine rd1 17 (by kernel_rfl) rfl (fun K9 hK9=>?_);go_simp;refine hK9.out _ _ (by (try dsimp only);first | assumption | go_keep) (fun hHeld=>?_);clear hK9 K9;refine rd1 18 (by kernel_rfl) rfl (fun K9 hK9=>?_);go_simp;refine hK9.out _ _ (by (try dsimp only);first | assumption | go_keep) (fun hHeld=>?_);clear hK9 K9;refine tkm 1 [(19,44)] (by kernel_rfl) (fun _ _ _ _ _ h=>h) (by assumption) ?_;refine ysC (v:=?_) rfl rfl (fun w9 hS9=>?_) ?_;rotate_left
  ·try dsimp only at hS9
   go_split_ands;go_simp;try with_reducible rfl
  simp only [Act.put,List.setIfInBounds_toArray,List.set_cons_zero,List.set_cons_succ];refine ysN ?_;refine rd1 20 (by kernel_rfl) rfl (fun K9 hK9=>?_);go_simp;refine hK9.out _ _ (by (try dsimp only);first | assumption | go_keep) (fun hHeld=>?_);clear hK9 K9;refine wpAnyH_done (by kernel_rfl) ?_ _
 all_goals
  go_wp2;go_ret;have HW:=hHW.out;have hb2:Below w.heap.size w (W.alloc (Obj.cells #[.int .i64 i,.slice (some ⟨g1,0,none⟩) z cg1] 190)).drew :=HBW.out.trans (HXB.out.mono HBW.out.size);refine ⟨rfl,_,⟨(Kp.of_new (F:=F) hb2).then HW.kp (fun k hk=>hk),fun b hb=>?_,HW.dk.hlt⟩,_,_,_,_,_,HW.dk⟩;rcases hb with hb | hb
  ·exact Or.inl hb
  ·exact Or.inr hb.1
theorem setRow_size (w:World)(g:Nat)(cs:Array Value):(w.setRow g cs).heap.size = w.heap.size:=by simp [World.setRow]
theorem run_copy_full {w:World}(dT sT ty elem:TypeId)(hu:Tryz.prog.underlying dT=some (.slice elem))(hsz:(Tryz.prog.info? elem).map (·.size)=some 1)(g n c1 c2:Nat)(ad:Addr)(cur:Array Value)(t:TypeId)(hg:w.heap[g]?=some (.cells cur t (0,0)))(hcur:cur.size=n)(cs:List Value)(hn:cs.length=n)(hsrc:∀j v,cs[j]?=some v→w.cell? (ad.add j)=some v)(h1:∀v∈cs,v.oneCell'=true):
 ∃w',(Builtin.copy_ #[dT,sT] ty #[.slice (some ⟨g,0,none⟩) n c1,.slice (some ad) n c2]).run Tryz.prog w = .ok (goInt n) w'∧w'.heap[g]?=some (.cells cs.toArray t (0,0))∧w'.heap.size=w.heap.size∧Kp (· = g) w w':=by
 have hrun:=run_copy_row (P:=Tryz.prog) w dT sT ty elem g 0 n c1 ad n c2 cur t cs hu hsz hg (by rw [hn];simp) hsrc (by omega) h1;have e:(cur.toList.take 0++cs++cur.toList.drop (0+cs.length)).toArray = cs.toArray:=by
  rw [List.take_zero,List.nil_append,Nat.zero_add,List.drop_eq_nil_of_le (by simp;omega),List.append_nil]
 rw [e,hn] at hrun;exact ⟨_,hrun,setRow_heap w g _ _ t _ hg,setRow_size _ _ _,⟨rfl,rfl,rfl,by rw [setRow_size];exact Nat.le_refl _,fun k _ hk=>setRow_other w g k _ hk⟩⟩
theorem step_copy_full {ops:Array Oper}{o:Oper}{a:Act}{w:World}{K:Act→World→Prop}{Q:Exit→Act→World→Prop}{E:Prop}(hgd:o.guard=none)(d s:Operand)(dT sT:TypeId)(ho:o.op = .call {callee:= .builtin .copy,args:=#[d,s],argTypes:=#[dT,sT]})(elem:TypeId)(hu:Tryz.prog.underlying dT=some (.slice elem))(hsz:(Tryz.prog.info? elem).map (·.size)=some 1)(g n c1 c2:Nat)(ad:Addr)(hd:a.eval d = .slice (some ⟨g,0,none⟩) n c1)(hs:a.eval s = .slice (some ad) n c2)(cur:Array Value)(t:TypeId)(hg:w.heap[g]?=some (.cells cur t (0,0)))(hcur:cur.size=n)(cs:List Value)(hn:cs.length=n)(hsrc:∀j v,cs[j]?=some v→w.cell? (ad.add j)=some v)(h1:∀v∈cs,v.oneCell'=true)(h:∀w',w'.heap[g]?=some (.cells cs.toArray t (0,0))→w'.heap.size=w.heap.size→Kp (· = g) w w'→K (a.put o.dst (goInt n)) w'):
 if Region.wanted o (yielded ops a.tmps)=true then Oper.wp Tryz.prog o a w K Q else E:=by
 have hw:Region.wanted o (yielded ops a.tmps)=true:=by simp [Region.wanted,hgd]
 rw [if_pos hw];obtain ⟨w',hrun,x1,x2,x3⟩:=run_copy_full (w:=w) dT sT o.type elem hu hsz g n c1 c2 ad cur t hg hcur cs hn hsrc h1;unfold Oper.wp;simp [execOp,ho,resolve,invoke,builtin,hd,hs,hrun,Result.andThen];exact h w' x1 x2 x3
theorem DkP.copied {w w':World}{d z:Nat}{s:Dst}{F:Nat→Prop}{secs:List Nat}{dv rv:Value}{m:Nat}{ents:List (Nat×Value×List Nat)}(h:DkP w d z s F secs dv rv m ents){i b:Nat}{v:Value}{l:List Nat}(he:(i,v,l)∈ents)(hb:secs[i]?=some b)(hw:w'.heap[b]?=some (.cells (Lb l).toArray 5 (0,0)))(hk:Kp (· = b) w w'):DkP w' d z {s with dur:=s.dur.set i l} F secs dv rv m ents:=by
 have hbm:=List.mem_of_getElem? hb;obtain ⟨Cb,hCb⟩:=h.sec hbm;obtain ⟨ms,mc,hm⟩:=h.hmp.isMap;obtain ⟨_,e2,e3,e4,_⟩:=h.hent _ he;refine ⟨hk.blk h.hd (fun e=>ty_ne h.hd hCb (by decide) e),own_kp h.hdv hk (fun b' hb' e=>by obtain ⟨D,hD⟩:=own_ty h.hdv hb';exact ty_ne hD hCb (by decide) e),by rw [h.hlen];simp,?_,h.hnd,h.hrow,
  own_kp h.hrv hk (fun b' hb' e=>by obtain ⟨D,hD⟩:=own_ty h.hrv hb';exact ty_ne hD hCb (by decide) e),?_,h.hmp.kp hk (fun e=>map_ne hCb hm e.symm),h.hF,h.hz,fun b hb=>Nat.lt_of_lt_of_le (h.hlt b hb) hk.size⟩
 ·intro k b' lb hkb hl;have hl':(s.dur.set i l)[k]?=some lb:=hl;rw [List.getElem?_set] at hl';split at hl'
  ·rename_i ek;subst ek;rw [hb] at hkb;injection hkb with hkb;subst hkb;rw [if_pos (by rw [←h.hlen];exact e4)] at hl';injection hl' with hl';subst hl';exact ⟨hw,e2,e3⟩
  ·rename_i ek;obtain ⟨a1,a2⟩:=h.hsec k b' lb hkb hl';refine ⟨hk.blk a1 (fun e=>ek ?_),a2⟩;subst e;have h1:=(List.getElem?_eq_some_iff.1 hb);have h2:=(List.getElem?_eq_some_iff.1 hkb);obtain ⟨p1,q1⟩:=h1;obtain ⟨p2,q2⟩:=h2;exact (List.getElem?_inj p1 h.hnd).1 (by rw [hb,hkb])
 ·intro e he';obtain ⟨a1,a2,a3,a4,b',a5,a6,a7⟩:=h.hent e he';exact ⟨own_kp a1 hk (fun b'' hb'' e9=>by rw [a5] at hb'';injection hb'' with hb'';subst hb'';subst e9;exact a6 hbm),a2,a3,a4,b',a5,a6,a7⟩
theorem DkP.cleared {w w' w2:World}{d z:Nat}{s:Dst}{F:Nat→Prop}{secs:List Nat}{dv rv:Value}{m:Nat}{ents:List (Nat×Value×List Nat)}(h:DkP w d z s F secs dv rv m ents)(hw:w'=w.setCell ⟨d,2,none⟩ (.slice none 0 0))(hM:Mf w2 .i64 3 m 0 (fun _=>none))(hk:Kp (· = m) w' w2):DkP w2 d z {dur:=s.dur,row:=[]} F secs dv (.slice none 0 0) m []∧Kp F w w2:=by
 obtain ⟨ms,mc,hm⟩:=h.hmp.isMap;obtain ⟨f1,f2,f3,f4,f5⟩:=h.hF;have hdm:d≠m:=map_ne h.hd hm;have hd':w'.heap[d]?=some (Obj.cells #[.int .i64 z,dv,.slice none 0 0,.map (some m)] 140 (0,0)):=by rw [hw];exact heap_setCell_same _ d 2 _ 140 _ h.hd
 have hk1:Kp (· = d) w w':=by rw [hw];exact (Kp.refl (· = d) w).setCell (p:=⟨d,2,none⟩) rfl _
 have hs:w'.heap.size=w.heap.size:=by rw [hw];simp
 refine ⟨⟨hk.blk hd' hdm,?_,h.hlen,?_,h.hnd,rfl,⟨by simp,Or.inl ⟨rfl,rfl⟩⟩,(by intro e he;cases he),hM,⟨f1,f2,f3,f4,by intro b hb;cases hb⟩,h.hz,fun b hb=>by have:=h.hlt b hb;have:=hk.size;omega⟩,?_⟩
 ·refine own_kp (own_kp h.hdv hk1 (fun b' hb' e=>?_)) hk (fun b' hb' e=>?_)
  ·obtain ⟨D,hD⟩:=own_ty h.hdv hb';exact ty_ne hD h.hd (by decide) e
  ·obtain ⟨D,hD⟩:=own_ty h.hdv hb';exact map_ne hD hm e
 ·intro i b l hi hl;obtain ⟨a1,a2⟩:=h.hsec i b l hi hl;exact ⟨hk.blk (hk1.blk a1 (fun e=>ty_ne a1 h.hd (by decide) e)) (fun e=>map_ne a1 hm e),a2⟩
 ·exact (hk1.mono (fun i hi=>by rw [hi];exact f1)).trans (hk.mono (fun i hi=>by rw [hi];exact f2))
theorem sync1_any (d z:Nat)(s:Dst)(F:Nat→Prop)(B:Nat)(x:Int)(w:World)(h:Dk w d z s F)(hB:w.cell? ⟨B,0,none⟩=some (.pointer (some ⟨d,0,none⟩))):
 Calls Tryz.prog 199 #[.int .i64 x,.pointer (some ⟨B,0,none⟩)] w fun e w'=>e = .returned (.int .i64 z)∧w=w':=by
 obtain ⟨a,c,h0,h1⟩:=h.at01;clear h;go_enter Tryz.func199,Tryz.ntmps199;go_wp2_with fail;go_ret;exact ⟨rfl,rfl⟩
theorem foldl_take {α β:Type}(f:β→α→β)(b:β)(l:List α)(k:Nat)(x:α)(h:l[k]?=some x):(l.take (k+1)).foldl f b=f ((l.take k).foldl f b) x:=by
 have hk:=(List.getElem?_eq_some_iff.1 h).1;rw [List.take_succ_eq_append_getElem hk,List.foldl_append];rw [(List.getElem?_eq_some_iff.1 h).2];rfl
def durK (s:Dst)(k:Nat):List (List Nat):=(s.row.take k).foldl (fun l e=>l.set e.1 e.2) s.dur
theorem durK_next {s:Dst}{ents:List (Nat×Value×List Nat)}(hr:s.row=ents.map (fun e=>(e.1,e.2.2))){k i:Nat}{v:Value}{l:List Nat}(h:ents[k]?=some (i,v,l)):durK s (k+1)=(durK s k).set i l:=by
 unfold durK;rw [foldl_take _ _ _ k (i,l) (by rw [hr,List.getElem?_map,h];rfl)]
theorem own_some2 {w:World}{base n size:Nat}{e:TypeId}{v:Value}{xs:List Value}(h:w.ownsRow base e size v n xs)(hn:0<n):∃g cap,v = .slice (some ⟨g,0,none⟩) n cap∧n≤cap∧base≤g:=by
 rcases h.2 with ⟨_,h0⟩ | ⟨g,cap,cur,rfl,hb,hg,hnc,_⟩
 ·omega
 ·exact ⟨g,cap,rfl,hnc,hb⟩
theorem own_cell2 {w:World}{base n c g:Nat}{e:TypeId}{xs:List Value}(h:w.ownsRow base e 2 (.slice (some ⟨g,0,none⟩) n c) n xs){i:Nat}{u:Value}(hi:xs[i]?=some u):w.cell? ⟨g,i,none⟩=some u:=by
 have:=h.cells (g:=g) rfl i u hi;rwa [addr_add,Nat.zero_add] at this
theorem ent_at (ents:List (Nat×Value×List Nat))(k:Nat)(e:Nat×Value×List Nat)(h:ents[k]?=some e):(ents.flatMap entC)[k*2]?=some (.int .i64 e.1)∧(ents.flatMap entC)[k*2+1]?=some e.2.1:=by
 induction ents generalizing k with
 | nil=>cases h
 | cons x r ih=>
  cases k with
  | zero=>simp at h;subst h;simp [entC]
  | succ k=>
   have:=ih k (by simpa using h);have e1:(k+1)*2=(k*2+1)+1:=by omega
   rw [e1];simpa [entC] using this
theorem settle_any (d z:Nat)(s:Dst)(F:Nat→Prop)(fv:Value)(w:World)(h:Dk w d z s F)(hn:s.row.length<100000)(hf:s.row≠[]→ ∃B,fv = .func (.func 199) #[] #[.pointer (some ⟨B,0,none⟩)]∧w.cell? ⟨B,0,none⟩=some (.pointer (some ⟨d,0,none⟩))∧B<w.heap.size∧ ¬F B):
 Calls Tryz.prog 51 #[.pointer (some ⟨d,0,none⟩),fv] w fun e w'=>e = .returned (.int .i64 0)∧Kp F w w'∧Dk w' d z {dur:=cur s,row:=[]} F:=by
 have H:=hid h;have HFV:=hid hf;clear hf;obtain ⟨secs,dv,rv,m,ents,hP⟩:=h;obtain ⟨oa,rn,erv,_,_⟩:=own_form hP.hrv;subst erv;obtain ⟨oad,cad,edv,_,_⟩:=own_form hP.hdv;subst edv;have HPX:=hid hP;have HRW:=hid hP.hrow;have hel:ents.length=s.row.length:=by rw [hP.hrow,List.length_map]
 have HEL:=hid hel;have hc2:w.cell? ⟨d,2,none⟩=some (.slice oa ents.length rn):=(blk hP.hd).1 2;clear hP hel;go_enter Tryz.func51,Tryz.ntmps51;go_wp2_with fail;refine (dthere_any d z s F _ H.out).mono ?_;rintro e w' ⟨rfl,rfl⟩;go_wp2_with fail;go_loopw [15] (fun i wi=> ∃(k:Nat) (K:Int),k≤ents.length∧K=(k:Int)∧i = .int .i64 K∧DkP wi d z {dur:=durK s k,row:=s.row} F secs (.slice oad secs.length cad) (.slice oa ents.length rn) m ents∧Kp F w wi) (fun i _=>ents.length-(intOf i).toNat)
 case atStart=>exact ⟨0,0,by omega,rfl,rfl,HPX.out,Kp.refl _ _⟩
 case round=>
  obtain ⟨k,K,hk,hK,rfl,hD,hKp⟩:=hrel;have HD:=hid hD;have HKp:=hid hKp;clear hD hKp;by_cases hlt:k<ents.length
  ·have hKlt:K<(ents.length:Int):=by omega
   have hkb:k<100000:=by have:=HEL.out;omega
   obtain ⟨g,cg,e9,_,_⟩:=own_some2 HD.out.hrv (by omega);injection e9 with e9 _ e10;subst e9;subst e10;obtain ⟨ie,hek⟩:∃ie,ents[k]?=some ie:=⟨ents[k],List.getElem?_eq_getElem hlt⟩;obtain ⟨i,v,l⟩:=ie;have hem:=List.mem_of_getElem? hek;obtain ⟨hx0,hx1⟩:=ent_at ents k _ hek;have q0:=own_cell2 HD.out.hrv hx0;have q1:=own_cell2 HD.out.hrv hx1;obtain ⟨e1,e2,e3,e4,bv,e5,e6,e7⟩:=HD.out.hent _ hem;obtain ⟨gv,cv,rfl,hzc,_⟩:=own_some e1 (by have:=HD.out.hz;omega);have HE1:=hid e1;have HE2:=hid e2;have HE4:=hid e4;have HEM:=hid hem;have HEK:=hid hek;have hfv:=HFV.out (by intro e0;have:=HEL.out;rw [e0,List.length_nil] at this;omega);obtain ⟨B,rfl,hBc,hBlt,hBF⟩:=hfv;have HBc:=hid (HKp.out.cell (p:=⟨B,0,none⟩) hBlt hBF |>.trans hBc);have HBl:=hid (Nat.lt_of_lt_of_le hBlt HKp.out.size);clear e1 e2 e3 e4 e5 e6 e7 hx0 hx1 hem hek hBc hBlt hBF;go_wp2_with fail;have hN:=new1 wr (Obj.cells #[.int .i64 i,.slice (some ⟨gv,0,none⟩) z cv] 190);generalize hT:wr.heap.size=T at hN ⊢;revert hN
   generalize wr.alloc (Obj.cells #[.int .i64 i,.slice (some ⟨gv,0,none⟩) z cv] 190)=W;rintro ⟨hnT,hnS,hnB⟩;have hBW:Below wr.heap.size wr W.drew:=by rw [hT];exact hnB.trans ⟨rfl,rfl,rfl,Nat.le_refl _,fun _ _=>rfl⟩
   have HD2:=HD.out.stay (G:=nob) (Kp.of_new hBW) (fun _ _ h=>h);obtain ⟨b,hb⟩:∃b,secs[i]?=some b:=⟨_,List.getElem?_eq_getElem HE4.out⟩;have hidl:i<(durK s k).length :=by have:=HD2.hlen;have:=HE4.out;simp at *;omega
   obtain ⟨hbk,hbz,_⟩:=HD2.hsec i b _ hb (List.getElem?_eq_getElem hidl);have hsl:(secs.map (secV z))[i]?=some (secV z b):=by rw [List.getElem?_map,hb];rfl
   obtain ⟨gd,rfl,hgc,_,_⟩:=own_cell HD2.hdv hsl;unfold secV at hgc;have cD:=blk HD2.hd;have k1:W.drew.cell? ⟨d,1,none⟩=some (.slice (some ⟨gd,0,none⟩) secs.length cad):=cD.1 1;have k0:W.drew.cell? ⟨d,0,none⟩=some (.int .i64 z):=cD.1 0;have kT0:W.drew.cell? ⟨T,0,none⟩=some (.int .i64 i):=(blk (w:=W.drew) hnT).1 0;have kT1:W.drew.cell? ⟨T,1,none⟩=some (.slice (some ⟨gv,0,none⟩) z cv):=(blk (w:=W.drew) hnT).1 1;have hil:(i:Int)<(secs.length:Int):=by have:=HE4.out;omega
   have hzz:(z:Int)≤(cv:Int):=by omega
   have HDK:Hid (Dk W.drew d z {dur:=durK s k,row:=s.row} F):=hid ⟨_,_,_,_,_,HD2⟩;have HBK:Hid (W.drew.cell? ⟨B,0,none⟩=some (.pointer (some ⟨d,0,none⟩))):=hid ((hBW.cell (p:=⟨B,0,none⟩) HBl.out).trans HBc.out);have HNW:=hid (Sl_news (Sl_of_own (own_kp HE1.out (Kp.of_new (F:=nob) hBW) (fun _ _ h=>h))));have HBK2:=hid hbk;have HBZ:=hid hbz;have HD3:=hid HD2;have HBW:=hid hBW;have HSB:=hid hb;have HLL:=hid (Lb_len l);have HDL:=hid (Lb_len (durK s k)[i]);have HI5:Hid ((Tryz.prog.info? 5).map (·.size)=some 1):=hid (by obtain ⟨i0,hi,_,hz1,_⟩:=info_parts info5;rw [hi];simp [hz1]);have hdb:d≠b:=ty_ne HD2.hd hbk (by decide);have hTb:T≠b:=ty_ne (w:=W.drew) hnT hbk (by decide);have hgb:gd≠b:=by obtain ⟨D9,hD9⟩:=own_ty HD2.hdv rfl;exact ty_ne hD9 hbk (by decide)
   have hTs:T<W.drew.heap.size:=heap_lt (w:=W.drew) hnT;have hds:d<W.drew.heap.size:=heap_lt HD2.hd;have hgs:gd<W.drew.heap.size:=World.block_lt_of_cell? _ ⟨gd,i,none⟩ hgc;have HSK:=hid (fun (w7:World) (u3:Kp (· = b) W.drew w7)=>And.intro ((u3.cell (p:=⟨d,1,none⟩) hds hdb).trans k1) (And.intro ((u3.cell (p:=⟨d,0,none⟩) hds hdb).trans k0) (And.intro ((u3.cell (p:=⟨T,0,none⟩) hTs hTb).trans kT0) (And.intro ((u3.cell (p:=⟨T,1,none⟩) hTs hTb).trans kT1) ((u3.cell (p:=⟨gd,i,none⟩) hgs hgb).trans hgc)))));clear hdb hTb hgb hTs hds hgs;clear hsl cD hBW hbk hbz hb HD2 hnT hnS hnB hT;go_region_held_law (fun w'=>w'.cell? ⟨d,1,none⟩=some (.slice (some ⟨gd,0,none⟩) secs.length cad)∧w'.cell? ⟨d,0,none⟩=some (.int .i64 z)∧w'.cell? ⟨T,0,none⟩=some (.int .i64 i)∧w'.cell? ⟨T,1,none⟩=some (.slice (some ⟨gv,0,none⟩) z cv)∧w'.cell? ⟨gd,i,none⟩=some (.slice (some ⟨b,0,none⟩) z z)) (first | assumption | go_keep)
    (first | (refine step_copy_full (by rfl) _ _ 34 34 (by rfl) 5 Tryz.underlying34 HI5.out b z z cv ⟨gv,0,none⟩ (by rfl) (by rfl) _ 5 HBK2.out (by rw [List.size_toArray,HDL.out];exact HBZ.out) (Lb l) (by rw [HLL.out];exact HE2.out) HNW.out (Lb_one l) ?_;intro w7 u1 u2 u3;have hS7:=HSK.out w7 u3) | (go_at_call 199;refine (sync1_any d z _ F B _ _ HDK.out HBK.out).mono ?_;rintro e w' ⟨rfl,rfl⟩))
   all_goals
    have HU1:=hid u1;have HU2:=hid u2;have HU3:=hid u3;clear u1 u2 u3 hS7;go_wp2;go_roundw;case rel=>
     have hD9:=HD3.out.copied HEM.out HSB.out HU1.out HU3.out;rw [←durK_next (HRW.out) HEK.out] at hD9;exact ⟨k+1,((k+1:Nat):Int),by omega,rfl,by simp,hD9,(HKp.out.trans (Kp.of_new HBW.out)).trans (HU3.out.mono (fun x hx=>by rw [hx];exact HD3.out.hF.2.2.1 b (List.mem_of_getElem? HSB.out)))⟩
    case measure=>simp [intOf];omega
  ·have hKlt:¬K<(ents.length:Int):=by omega
   have hke:k=ents.length:=by omega
   have hmd:m≠d:=by obtain ⟨es,c9,hm9⟩:=HD.out.hmp.isMap;exact fun e=>map_ne HD.out.hd hm9 e.symm
   obtain ⟨w9,hr9,hm9,hk9⟩:=(HD.out.hmp.set (p:=⟨d,2,none⟩) hmd (.slice none 0 0)).clear (t:=138) Tryz.underlying138 0;obtain ⟨hE1,hE2⟩:=HD.out.cleared rfl hm9 hk9;have HE1:=hid hE1;have HE2:=hid hE2;have cD:=blk HD.out.hd;have q2:wr.cell? ⟨d,2,none⟩=some (.slice oa ents.length rn):=cD.1 2;have q3:wr.cell? ⟨d,3,none⟩=some (.map (some m)):=cD.1 3;have p2:wr.frozen? ⟨d,2,none⟩=false:=cD.2.1 2;clear hE1 hE2 cD hm9 hk9 hmd;go_wp2_with fail;go_ret;have hdk:durK s k=cur s:=by
    unfold durK cur;rw [List.take_of_length_le (by rw [hke,←HEL.out];exact Nat.le_refl _)]
   have hE:=HE1.out;rw [hdk] at hE;exact ⟨rfl,HKp.out.trans HE2.out,_,_,_,_,_,hE⟩
theorem dsync_any (d z:Nat)(s:Dst)(F:Nat→Prop)(w:World)(h:Dk w d z s F)(hn:s.row.length<100000):
 Calls Tryz.prog 171 #[.pointer (some ⟨d,0,none⟩)] w fun e w'=>e = .returned (.int .i64 0)∧Kp F w w'∧Dk w' d z {dur:=cur s,row:=[]} F:=by
 have hmf:∀(fn:Fn) (first cap:Array Value) (w:World),(Instr.makeFunc fn first cap).run Tryz.prog w = .ok (.func fn first cap) w:=fun _ _ _ _=>rfl
 have N:=new1 w (Obj.cells #[.pointer (some ⟨d,0,none⟩)] 75);have HN:=hid N;have H:=hid h;have hc:(w.alloc (Obj.cells #[.pointer (some ⟨d,0,none⟩)] 75)).cell? ⟨w.heap.size,0,none⟩=some (.pointer (some ⟨d,0,none⟩)):=(blk N.1).1 0;have HC:=hid hc;have hFw:¬F w.heap.size:=fun e=>absurd (h.flt _ e) (Nat.lt_irrefl _)
 have HF:=hid hFw;have HR:=hid hn;clear h N hc hFw hn;go_enter Tryz.func171,Tryz.ntmps171;go_wp2_with fail;refine (settle_any d z s F _ _ (H.out.new HN.out.2.2) HR.out (fun _=>⟨w.heap.size,rfl,HC.out,by rw [HN.out.2.1];omega,HF.out⟩)).mono ?_;rintro e w' ⟨rfl,hk,hd⟩;have HK:=hid hk;have HD:=hid hd;clear hk hd;go_wp2_with fail;go_ret;exact ⟨rfl,(Kp.of_new HN.out.2.2).trans HK.out,HD.out⟩
theorem dcrash_any (d z:Nat)(s:Dst)(F:Nat→Prop)(w:World)(h:Dk w d z s F)(hn:s.row=[]):
 Calls Tryz.prog 21 #[.pointer (some ⟨d,0,none⟩),.slice none 0 0] w fun e w'=>e = .returned (.int .i64 0)∧Kp F w w'∧Dk w' d z s F:=by
 have hmf:∀(fn:Fn) (first cap:Array Value) (w:World),(Instr.makeFunc fn first cap).run Tryz.prog w = .ok (.func fn first cap) w:=fun _ _ _ _=>rfl
 have hcs:({dur:=cur s,row:=[]}:Dst)=s:=by cases s;simp at hn;subst hn;rfl
 have HCS:=hid hcs;have N:=new2 w (Obj.cells #[.pointer (some ⟨d,0,none⟩)] 75) (Obj.cells #[.slice none 0 0] 74);have HN:=hid N;have H:=hid h;have hc:((w.alloc (Obj.cells #[.pointer (some ⟨d,0,none⟩)] 75)).alloc (Obj.cells #[.slice none 0 0] 74)).cell? ⟨w.heap.size,0,none⟩=some (.pointer (some ⟨d,0,none⟩)):=(blk N.1).1 0;have HR:=hid hn;clear h N hn hcs;go_enter Tryz.func21,Tryz.ntmps21;go_wp2_with fail;refine (settle_any d z s F _ _ (H.out.new HN.out.2.2.2) (by rw [HR.out];decide) (fun e=>absurd HR.out e)).mono ?_;rintro e w' ⟨rfl,hk,hd⟩;have HK:=hid hk;have HD:=hid hd;clear hk hd;go_wp2_with fail;go_ret;exact ⟨rfl,(Kp.of_new HN.out.2.2.2).trans HK.out,HCS.out▸HD.out⟩
end
end Go.Proofs.YtdjiopacieadpaaGreatDoor

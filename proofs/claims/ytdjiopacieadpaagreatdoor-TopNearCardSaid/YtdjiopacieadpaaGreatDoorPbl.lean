/- TopNear: part Pbl: EgI EgJ EgK. -/
import Derived.Test.YtdjiopacieadpaaGreatDoorPbk
import Derived.Deep.CutBlock
set_option linter.unusedVariables false
set_option linter.unusedSimpArgs false
set_option maxRecDepth 8000
set_option maxHeartbeats 8000000
namespace Go.Proofs.YtdjiopacieadpaaGreatDoor
section
open Go.RowKit BookPlain FlatPlain
theorem tk_lt {l:List Nat}(h:Bs l)(e n:Nat):ofLe (tkB l e n)<256 ^ n:=by
 obtain ⟨h1,_,h2⟩:=tk_bytes h e n;exact Nat.lt_of_lt_of_le (ofLe_lt h1) (Nat.pow_le_pow_right (by omega) h2)
structure StOk (x:St5):Prop where
 l:Bs x.l
 i:x.i<4294967296
 s:x.s≤65535
 u:x.u<9223372036854775808
theorem rdF_ok {x:St5}(h:StOk x)(f:Nat):StOk (rdF f x):=by
 have hb:=rdF_bytes (f:=f) h.l;unfold rdF at hb ⊢;split
 ·rename_i e;rw [if_pos e] at hb;exact ⟨hb,tk_lt h.l _ 4,h.s,h.u⟩
 split
 ·rename_i e e2;rw [if_neg e,if_pos e2] at hb;exact ⟨hb,h.i,Nat.le_of_lt_succ (tk_lt h.l _ 2),h.u⟩
 ·rename_i e e2;rw [if_neg e,if_neg e2] at hb;refine ⟨hb,h.i,h.s,?_⟩;have:=tk_lt h.l x.e 8;show sg _<_
  unfold sg;rw [IntKind.wrap_i64];omega
theorem rdF_keeps (f:Nat)(x:St5):(f≠0→(rdF f x).i = x.i)∧(f≠1→(rdF f x).s = x.s)∧(f=0∨f=1→(rdF f x).u = x.u):=by
 unfold rdF;refine ⟨fun h=>?_,fun h=>?_,fun h=>?_⟩
 ·rw [if_neg h];split<;>rfl
 ·split
  ·rfl
  ·rfl
 ·rcases h with h | h
  ·rw [if_pos h]
  ·rw [if_neg (by omega),if_pos h]
theorem st_fold:∀(l:List Nat) (x:St5),StOk x→StOk (l.foldl (fun x f=>rdF f x) x)∧(0 ∉ l→(l.foldl (fun x f=>rdF f x) x).i = x.i)∧(1 ∉ l→(l.foldl (fun x f=>rdF f x) x).s = x.s)∧((∀f∈l,f=0∨f=1)→(l.foldl (fun x f=>rdF f x) x).u = x.u)
 | [],x,h=>⟨h,fun _=>rfl,fun _=>rfl,fun _=>rfl⟩
 | f::l,x,h=>by
  obtain ⟨a,b,c,d⟩:=st_fold l (rdF f x) (rdF_ok h f);obtain ⟨k1,k2,k3⟩:=rdF_keeps f x;refine ⟨a,fun hn=>?_,fun hn=>?_,fun hn=>?_⟩
  ·exact (b (fun e=>hn (List.mem_cons_of_mem _ e))).trans (k1 (fun e=>hn (by rw [e];exact List.mem_cons_self ..)))
  ·exact (c (fun e=>hn (List.mem_cons_of_mem _ e))).trans (k2 (fun e=>hn (by rw [e];exact List.mem_cons_self ..)))
  ·exact (d (fun y hy=>hn y (List.mem_cons_of_mem _ hy))).trans (k3 (hn f (List.mem_cons_self ..)))
theorem fs_two {k:Nat}(h:2 ∉ fsF k):∀f∈fsF k,f=0∨f=1:=by
 intro f hf;have:=fsF_le k f hf;have h2:f≠2:=fun e=>h (e▸hf)
 omega
theorem reqG_ok {b:List Nat}{q:Rq}(hb:Bs b)(h:reqG b=some q):OkRq q:=by
 unfold reqG at h;split at h
 ·rename_i hc;injection h with h;obtain ⟨h1,h2,h3⟩:=hc;have hk:1≤rqK b∧rqK b≤10:=of_decide_eq_true h1;have h0:StOk (st0 b):=⟨(tk_bytes (tk_bytes hb _ _).2.1 _ _).2.1,by show 0<_;omega,by show 0≤_;omega,by show (0:Int)<_;omega⟩;have hf:=st_fold (fsF (rqK b)) (st0 b) h0;have he:stE b=(fsF (rqK b)).foldl (fun x f=>rdF f x) (st0 b):=by unfold stE stN;rw [List.take_length]
  rw [←he] at hf;obtain ⟨f1,f2,f3,f4⟩:=hf;subst h;refine ⟨hk,tk_lt (tk_bytes hb _ _).2.1 _ 4,f1.i,f1.s,?_,fun hn=>?_,fun hn=>?_,fun hn=>?_⟩
  ·have:=f1.u;show (stE b).u.toNat < _;omega
  ·exact Decidable.byContradiction fun e=>hn (f2 e)
  ·exact Decidable.byContradiction fun e=>hn (f3 e)
  ·refine Decidable.byContradiction fun e=>hn ?_
   show (stE b).u.toNat = 0
   rw [f4 (fs_two e)];rfl
 ·cases h
theorem doE_ok {P:Ep}{S:Egs}{c t:Nat}(h:EgP P S c t){x:List Nat}(hx:Bs x):(∀r∈(doE P.z P.k P.n S x).2,OkRp r)∧(doE P.z P.k P.n S x).2.length ≤t+1:=by
 unfold doE;cases hq:reqG x with
 | none=>exact ⟨fun r hr=>by rw [List.mem_singleton.1 hr];exact noP_ok,by show 1≤_;omega⟩
 | some q=>
  have hok:=reqG_ok hx hq;have hlw:=h.lw;have htb:=h.tb;dsimp only;unfold doQ;split
  ·rename_i hk;exact ⟨fun r hr=>by rw [List.mem_singleton.1 hr];exact answerQ_ok h.so hok hk,by show 1≤_;omega⟩
  split
  ·rename_i hk;refine ⟨fun r hr=>?_,by show (S.ws++[_]).length ≤_;rw [List.length_append];simp;exact hlw⟩;rcases List.mem_append.1 hr with e | e
   ·exact h.ok r e
   ·rw [List.mem_singleton.1 e];exact cntP_ok hok (Or.inl hk) (by omega)
  split
  ·rename_i hk;refine ⟨fun r hr=>?_,by show (S.ws++[_]).length ≤_;rw [List.length_append];simp;exact hlw⟩;rcases List.mem_append.1 hr with e | e
   ·exact h.ok r e
   ·rw [List.mem_singleton.1 e];exact cntP_ok hok (Or.inr hk) (by omega)
  ·rename_i h1 h2 h3;have hk:isChg q.k:=by have:=hok.k;unfold isChg;omega
   unfold chgE;split
   ·rename_i h0;have ha:=acc_of h.so hok hk h0;split
    ·exact ⟨fun r hr=>(by cases hr),Nat.zero_le _⟩
    ·refine ⟨fun r hr=>?_,by show (S.ws++[_]).length ≤_;rw [List.length_append];simp;exact hlw⟩;rcases List.mem_append.1 hr with e | e
     ·exact h.ok r e
     ·rw [List.mem_singleton.1 e];exact ha.okp
   ·rename_i h0;have hle:BookPlain.refusal S.b q (rmE P.z P.k P.n S)≤65535:=Nat.le_trans (refuse_le S.b q (rmE P.z P.k P.n S) (rulesF q.k)) (by decide);exact ⟨fun r hr=>by rw [List.mem_singleton.1 hr];exact errP_ok hok h0 hle,by show 1≤_;omega⟩
theorem rpL_get:∀(L:List Rp) (i j:Nat),j<7→(L.flatMap rpL)[i*7+j]?=(L[i]?).bind (fun s=>(rpL s)[j]?)
 | [],i,j,hj=>by simp
 | s::L,0,j,hj=>by
  simp only [List.flatMap_cons,Nat.zero_mul,Nat.zero_add,List.getElem?_cons_zero,Option.bind_some];rw [List.getElem?_append_left (by simp [rpL];omega)]
 | s::L,i+1,j,hj=>by
  simp only [List.flatMap_cons,List.getElem?_cons_succ];rw [List.getElem?_append_right (by simp [rpL];omega),show (i+1)*7+j-(rpL s).length = i*7+j by simp [rpL];omega];exact rpL_get L i j hj
theorem own_rp {w:World}{v:Value}{rs:List Rp}{i:Nat}{r:Rp}(h:w.ownsRow 0 50 7 v rs.length (rs.flatMap rpL))(hi:rs[i]?=some r):∃g cap,v = .slice (some ⟨g,0,none⟩) rs.length cap∧rs.length≤cap∧g<w.heap.size∧ ∀j u,(rpL r)[j]?=some u→w.cell? ⟨g,i*7+j,none⟩=some u:=by
 have hlt:i<rs.length:=(List.getElem?_eq_some_iff.1 hi).1;rcases h.2 with ⟨_,h0⟩ | ⟨g,cap,cur,hv,_,hg,hc,hm,hs,ht⟩
 ·omega
 ·refine ⟨g,cap,hv,hc,heap_lt hg,fun j u hu=>?_⟩;have hj:j<7:=(List.getElem?_eq_some_iff.1 hu).1;rw [cell_of_row w g _ cur 50 _ hg];have h1:(rs.flatMap rpL)[i*7+j]?=some u:=by rw [rpL_get rs i j hj,hi];exact hu
  rw [←ht,List.getElem?_take] at h1;split at h1
  ·simpa using h1
  ·cases h1
def Outs (w:World)(B:Nat)(v:Value)(rs:List Rp):Prop:= ∃us:List Value,w.ownsRow B 34 1 v rs.length us∧ ∀(i:Nat) (r:Rp),rs[i]?=some r→ ∃u,us[i]?=some u∧w.ownsRow B 5 1 u (rpF r).length (Lb (rpF r))
theorem Outs.kp {w w':World}{B:Nat}{v:Value}{rs:List Rp}{F:Nat→Prop}(h:Outs w B v rs)(hk:Kp F w w')(hF:∀x,F x→x<B):Outs w' B v rs:=by
 obtain ⟨us,h1,h2⟩:=h;refine ⟨us,own_kp h1 hk (fun x hx e=>by have:=(h1.lt x hx).1;have:=hF x e;omega),fun i r hi=>?_⟩;obtain ⟨u,a,b⟩:=h2 i r hi;exact ⟨u,a,own_kp b hk (fun x hx e=>by have:=(b.lt x hx).1;have:=hF x e;omega)⟩
theorem own_not {w:World}{B B' s s' n n':Nat}{e e':TypeId}{u v:Value}{xs ys:List Value}(h:w.ownsRow B e s u n xs)(k:w.ownsRow B' e' s' v n' ys)(he:e≠e')(x:Nat)(hx:u.ownBlock=some x):v.ownBlock≠some x:=by
 intro hy;obtain ⟨C,hC⟩:=own_ty h hx;obtain ⟨C',hC'⟩:=own_ty k hy;rw [hC] at hC';injection hC' with hC';injection hC' with _ h3 _;exact he h3
theorem Outs.snoc {w w1 w':World}{B:Nat}{v v':Value}{rs:List Rp}{us:List Value}{u:Value}{r:Rp}(h1:w.ownsRow B 34 1 v rs.length us)(h2:∀(i:Nat) (r:Rp),rs[i]?=some r→ ∃u,us[i]?=some u∧w.ownsRow B 5 1 u (rpF r).length (Lb (rpF r)))(hb:Below w.heap.size w w1)(hu:w1.ownsRow B 5 1 u (rpF r).length (Lb (rpF r)))(hg:w1.grownBy w' v.ownBlock)(ho:w'.ownsRow B 34 1 v' (rs.length+1) (us++[u])):Outs w' B v' (rs++[r]):=by
 have hk:Kp (fun x=>v.ownBlock=some x) w1 w':=(Kp.refl _ w1).grown hg (fun k e=>Or.inl e);have h1':=own_below h1 hb (Nat.le_refl _);have hl:us.length=rs.length:=by have:=h1.1;omega
 refine ⟨us++[u],by simpa using ho,fun i q hi=>?_⟩;by_cases hlt:i<rs.length
 ·rw [List.getElem?_append_left hlt] at hi;obtain ⟨x,a,b⟩:=h2 i q hi;have b':=own_below b hb (Nat.le_refl _);exact ⟨x,by rw [List.getElem?_append_left (by omega)];exact a,own_kp b' hk (fun y hy e=>own_not b' h1' (by decide) y hy e)⟩
 ·rw [List.getElem?_append_right (by omega)] at hi;have hi0:i-rs.length=0:=by
   have:=(List.getElem?_eq_some_iff.1 hi).1;simp at this;omega
  rw [hi0] at hi;have hq:r=q:=by simpa using hi
  subst hq;refine ⟨u,by rw [List.getElem?_append_right (by omega),show i-us.length=0 by omega];rfl,own_kp hu hk (fun y hy e=>own_not hu h1' (by decide) y hy e)⟩
def EOut (w:World)(P:Ep)(m:Em)(t:Nat)(R:Egs×List Rp)(e:Ending)(w':World):Prop:=
 ∃v,e = .returned v∧ ∃m' B,(∀x,EF P m' x→x<B)∧Outs w' B v R.2∧Eg w' P R.1 m' t∧Step (EF P m) (EF P m') w w'
theorem does_ask {e:Nat}{k:Nat}(h:k=5∨k=6∨k=10):doesF e (k:Int)=some (fnV 75 e):=by unfold doesF;rw [if_pos (by omega)]
theorem does_flush {e:Nat}{k:Nat}(h:k=8):doesF e (k:Int)=some (fnV 76 e):=by unfold doesF;rw [if_neg (by omega),if_pos (by omega)]
theorem does_save {e:Nat}{k:Nat}(h:k=9):doesF e (k:Int)=some (fnV 77 e):=by unfold doesF;rw [if_neg (by omega),if_neg (by omega),if_pos (by omega)]
theorem does_chg {e:Nat}{k:Nat}(h:isChg k):doesF e (k:Int)=some (fnV 78 e):=by unfold isChg at h;unfold doesF;rw [if_neg (by omega),if_neg (by omega),if_neg (by omega),if_pos (by omega)]
theorem edo_any (P:Ep)(S:Egs)(m:Em)(t:Nat)(v:Value)(x:List Nat)(w:World)(h:Eg w P S m t)(ht:t+3≤400)(hv:Sl w v (Lb x))(hx:Bs x)(hl:x.length≤10000):Calls Tryz.prog 7 #[.pointer (some ⟨P.e,0,none⟩),v] w (EOut w P m (t+3) (doE P.z P.k P.n S x)):=by
 obtain ⟨a,c,rfl,hc,hcm⟩:=Sl_partsB hv;have HRG:=hid (reqget_any _ x w hv hx (by omega));have HE:=hid h;have HX:=hid hx;have HOK:=hid (doE_ok h.pl hx);obtain ⟨a0,_,a1,_,a2,_,a3,_,a4,_,a5,_,a6,_⟩:=cells7 h.en.hd;clear hv hx h;go_enter Tryz.func7,Tryz.ntmps7;go_wp2_with fail;refine HRG.out.mono ?_;rintro e w1 ⟨cq,f,rfl,hcase,hb1⟩;have hE1:=HE.out.new hb1;have HE1:=hid hE1;have HS1:=hid (Step.new hb1 HE.out.elt);clear a0 a1 a2 a3 a4 a5 a6;obtain ⟨a0,_,a1,_,a2,_,a3,_,a4,_,a5,_,a6,_⟩:=cells7 hE1.en.hd;have hcq:∃k tag id seat:Nat,∃ttl:Int,cq=rqC k tag id seat ttl:=by
  rcases hcase with ⟨_,q,_,e⟩ | ⟨_,_,e⟩
  ·exact ⟨_,_,_,_,_,e⟩
  ·exact ⟨_,_,_,_,_,e⟩
 obtain ⟨k,tag,id,seat,ttl,rfl⟩:=hcq;have HC:=hid hcase;unfold rqC;have N2:=new1 w1 (.cells #[.int .i64 k,.int .u32 tag,.int .u32 id,.int .i64 seat,.int .i64 ttl] 48);obtain ⟨W2,hW2⟩:∃W,w1.alloc (.cells #[.int .i64 k,.int .u32 tag,.int .u32 id,.int .i64 seat,.int .i64 ttl] 48)=W:=⟨_,rfl⟩;rw [hW2] at N2;have HR0:Hid (∀W',Calls Tryz.prog 18 #[.agg #[.int .i64 0,.int .u32 0,.int .u32 0,.int .i64 0,.int .i64 0],.int .i64 200] W' fun o w'=> ∃v,o = .returned v∧w'.ownsRow W'.heap.size 50 7 v 1 (rpL noP)∧Below W'.heap.size W' w'):=hid (fun W'=>erefusal_any ⟨0,0,0,0,0⟩ 200 W');clear hcase hE1 hb1;go_upto_block 0 with fail
 go_cut [7] (fun s7 wc=> ∃m',Eg wc P (doE P.z P.k P.n S x).1 m' (t+3)∧wc.ownsRow 0 50 7 s7 (doE P.z P.k P.n S x).2.length ((doE P.z P.k P.n S x).2.flatMap rpL)∧Step (EF P m) (EF P m') w wc)
 case first=>
  rcases HC.out with ⟨rfl,q,hq,hcq⟩ | ⟨hf,hq,hcq⟩
  ·have hcq2:=congrArg Array.toList hcq;simp [rqC] at hcq2;obtain ⟨e1,e2,e3,e4,e5⟩:=hcq2;obtain rfl:k=q.k:=by omega
   obtain rfl:tag=q.tag:=by omega
   obtain rfl:id=q.id:=by omega
   obtain rfl:seat=q.seat:=by omega
   subst e5;clear e1 e2 e3 e4;have HQ:=hid hq;have HOQ:=hid (reqG_ok HX.out hq);have HQR:=hid N2.1;have HE2:=hid (HE1.out.new (N2.2.2.drew));have HS2:=hid (HS1.out.below N2.2.2.drew);have HC6:Hid (W2.cell? ⟨P.e,6,none⟩=some (.map (some P.m))):=hid ((blk (Bl.blk N2.2.2 HE1.out.en.hd)).1 6);have HMP:=hid HE2.out.en.mp;have HWF:Hid ((Lit.int .i64 q.k).wf = true):=hid (wf_nat (by have:=HOQ.out.k;omega));obtain ⟨b0,_,b1,_,b2,_,b3,_,b4,_,b5,_,b6,_⟩:=cells7 (Bl.blk N2.2.2 HE1.out.en.hd);clear hcq hq a0 a1 a2 a3 a4 a5 a6;have hk4:isAsk q.k∨q.k=8∨q.k=9∨isChg q.k:=by have:=HOQ.out.k;unfold isAsk isChg;omega
   rcases hk4 with hk | hk | hk | hk
   ·have HK:=hid hk;clear hk;have HDO:Hid (doesF P.e (q.k:Int)=some (fnV 75 P.e)):=hid (does_ask HK.out);go_wp2_with fail;refine wp_region_held_drew (S:=fun w'=>w'.cell? ⟨P.e,6,none⟩=some (.map (some P.m))∧w'.heap[w1.heap.size]?=some (.cells #[.int .i64 q.k,.int .u32 q.tag,.int .u32 q.id,.int .i64 q.seat,.int .i64 q.ttl] 48 (0,0))∧Mf w' .i64 45 P.m 10 (doesF P.e)) (by kernel_rfl) (⟨HC6.out,HQR.out,HMP.out⟩) (fun hHeld=>?_);refine tkm 6 [(0,27),(1,28),(2,29),(3,30),(4,31),(5,32)] (by kernel_rfl) (fun _ _ _ _ _ h=>h) (by assumption) ?_;iterate 6
     refine ysC (v:=?_) rfl rfl (fun w9 hS9=>?_) ?_;rotate_left
     ·obtain ⟨q0,_,q1,_,q2,_,q3,_,q4,_⟩:=cells5 hS9.2.1;have hm6:=hS9.1;go_simp;try with_reducible rfl
     simp only [Act.put,List.setIfInBounds_toArray,List.set_cons_zero,List.set_cons_succ]
    refine ysN ?_;refine takeRH (i:=6) (d:=some 33) (v:=?_) rfl rfl (by kernel_rfl) (by kernel_rfl) (by kernel_rfl) (fun _ _ _ h=>h) (Or.inl ⟨rfl,fun w9 hS9=>?_⟩) (by assumption) ?_;rotate_left
    ·obtain ⟨q0,_,q1,_,q2,_,q3,_,q4,_⟩:=cells5 hS9.2.1;have hm6:=hS9.1;have hlk:(Instr.lookup 65 (.map (some P.m)) (.int .i64 q.k) false).run Tryz.prog w9 = .ok (.func (.func 75) #[.pointer (some ⟨P.e,0,none⟩)] #[]) w9:=by
      rw [(hS9.2.2.look Tryz.underlying45 Tryz.underlying65 (z:= .nilFunc) (fun _=>rfl) (HWF.out)).2,HDO.out];rfl
     go_simp;try with_reducible rfl
    simp only [Act.put,List.setIfInBounds_toArray,List.set_cons_zero,List.set_cons_succ];refine tkm 1 [(7,34)] (by kernel_rfl) (fun _ _ _ _ _ h=>h) (by assumption) ?_;refine ysC (v:=?_) rfl rfl (fun w9 hS9=>?_) ?_;rotate_left
    ·obtain ⟨q0,_,q1,_,q2,_,q3,_,q4,_⟩:=cells5 hS9.2.1;have hm6:=hS9.1;go_simp;try with_reducible rfl
    simp only [Act.put,List.setIfInBounds_toArray,List.set_cons_zero,List.set_cons_succ];refine ysN ?_;refine rd1 8 (by kernel_rfl) rfl (fun K9 hK9=>?_);go_simp;refine (eask_any P S m t q _ HE2.out HOQ.out HK.out).mono ?_;rintro e w3 ⟨v3,rfl,m3,ho3,hE3,hs3⟩;have hs1:w3.cell? ⟨P.e,6,none⟩=some (.map (some P.m)):=(blk hE3.en.hd).1 6;have hs2:=hs3.kp.blk hHeld.2.1 (fun e=>by have:=HE.out.elt _ e;have:=HS1.out.kp.size;omega);have HREL:=hid (show Eg w3 P (doQ P.z P.k P.n S q).1 m3 (t+3)∧w3.ownsRow 0 50 7 v3 (doQ P.z P.k P.n S q).2.length ((doQ P.z P.k P.n S q).2.flatMap rpL)∧Step (EF P m) (EF P m3) w w3 from by
     have hR:doQ P.z P.k P.n S q=(S,[answerQ S.b q]):=by unfold doQ;have hk:=HK.out;unfold isAsk at hk;rw [if_pos (by omega)]
     rw [hR];exact ⟨hE3.up (by omega) ht,ho3,HS2.out.trans hs3⟩)
    go_simp;refine hK9.out _ _ (⟨hs1,hs2,hE3.en.mp⟩) (fun hHeld=>?_);clear hK9 K9;clear hs1 hs2 ho3 hE3 hs3;refine tkm 1 [(9,7)] (by kernel_rfl) (fun _ _ _ _ _ h=>h) (by assumption) ?_;refine ysC (v:=?_) rfl rfl (fun w9 hS9=>?_) ?_;rotate_left
    ·obtain ⟨q0,_,q1,_,q2,_,q3,_,q4,_⟩:=cells5 hS9.2.1;have hm6:=hS9.1;go_simp;try with_reducible rfl
    simp only [Act.put,List.setIfInBounds_toArray,List.set_cons_zero,List.set_cons_succ];refine ysN ?_;refine wpAnyH_done (by kernel_rfl) ?_ _;go_wp2_with fail;go_meet
    refine ⟨m3,?_⟩;unfold doE;rw [HQ.out];exact HREL.out
   ·have HK:=hid hk;clear hk;have HDO:Hid (doesF P.e (q.k:Int)=some (fnV 76 P.e)):=hid (does_flush HK.out);go_wp2_with fail;refine wp_region_held_drew (S:=fun w'=>w'.cell? ⟨P.e,6,none⟩=some (.map (some P.m))∧w'.heap[w1.heap.size]?=some (.cells #[.int .i64 q.k,.int .u32 q.tag,.int .u32 q.id,.int .i64 q.seat,.int .i64 q.ttl] 48 (0,0))∧Mf w' .i64 45 P.m 10 (doesF P.e)) (by kernel_rfl) (⟨HC6.out,HQR.out,HMP.out⟩) (fun hHeld=>?_);refine tkm 6 [(0,27),(1,28),(2,29),(3,30),(4,31),(5,32)] (by kernel_rfl) (fun _ _ _ _ _ h=>h) (by assumption) ?_;iterate 6
     refine ysC (v:=?_) rfl rfl (fun w9 hS9=>?_) ?_;rotate_left
     ·obtain ⟨q0,_,q1,_,q2,_,q3,_,q4,_⟩:=cells5 hS9.2.1;have hm6:=hS9.1;go_simp;try with_reducible rfl
     simp only [Act.put,List.setIfInBounds_toArray,List.set_cons_zero,List.set_cons_succ]
    refine ysN ?_;refine takeRH (i:=6) (d:=some 33) (v:=?_) rfl rfl (by kernel_rfl) (by kernel_rfl) (by kernel_rfl) (fun _ _ _ h=>h) (Or.inl ⟨rfl,fun w9 hS9=>?_⟩) (by assumption) ?_;rotate_left
    ·obtain ⟨q0,_,q1,_,q2,_,q3,_,q4,_⟩:=cells5 hS9.2.1;have hm6:=hS9.1;have hlk:(Instr.lookup 65 (.map (some P.m)) (.int .i64 q.k) false).run Tryz.prog w9 = .ok (.func (.func 76) #[.pointer (some ⟨P.e,0,none⟩)] #[]) w9:=by
      rw [(hS9.2.2.look Tryz.underlying45 Tryz.underlying65 (z:= .nilFunc) (fun _=>rfl) (HWF.out)).2,HDO.out];rfl
     go_simp;try with_reducible rfl
    simp only [Act.put,List.setIfInBounds_toArray,List.set_cons_zero,List.set_cons_succ];refine tkm 1 [(7,34)] (by kernel_rfl) (fun _ _ _ _ _ h=>h) (by assumption) ?_;refine ysC (v:=?_) rfl rfl (fun w9 hS9=>?_) ?_;rotate_left
    ·obtain ⟨q0,_,q1,_,q2,_,q3,_,q4,_⟩:=cells5 hS9.2.1;have hm6:=hS9.1;go_simp;try with_reducible rfl
    simp only [Act.put,List.setIfInBounds_toArray,List.set_cons_zero,List.set_cons_succ];refine ysN ?_;refine rd1 8 (by kernel_rfl) rfl (fun K9 hK9=>?_);go_simp;refine (eflush_any P S m t q _ HE2.out (by omega)).mono ?_;rintro e w3 ⟨v3,rfl,m3,ho3,hE3,hs3⟩;have hs1:w3.cell? ⟨P.e,6,none⟩=some (.map (some P.m)):=(blk hE3.en.hd).1 6;have hs2:=hs3.kp.blk hHeld.2.1 (fun e=>by have:=HE.out.elt _ e;have:=HS1.out.kp.size;omega);have HREL:=hid (show Eg w3 P (doQ P.z P.k P.n S q).1 m3 (t+3)∧w3.ownsRow 0 50 7 v3 (doQ P.z P.k P.n S q).2.length ((doQ P.z P.k P.n S q).2.flatMap rpL)∧Step (EF P m) (EF P m3) w w3 from by
     have hR:doQ P.z P.k P.n S q=(noWs (flushE P.z P.k S),S.ws++[cntP q S.ws.length]):=by unfold doQ;have hk:=HK.out;rw [if_neg (by omega),if_pos hk]
     rw [hR];exact ⟨hE3.up (by omega) ht,ho3,HS2.out.trans hs3⟩)
    go_simp;refine hK9.out _ _ (⟨hs1,hs2,hE3.en.mp⟩) (fun hHeld=>?_);clear hK9 K9;clear hs1 hs2 ho3 hE3 hs3;refine tkm 1 [(9,7)] (by kernel_rfl) (fun _ _ _ _ _ h=>h) (by assumption) ?_;refine ysC (v:=?_) rfl rfl (fun w9 hS9=>?_) ?_;rotate_left
    ·obtain ⟨q0,_,q1,_,q2,_,q3,_,q4,_⟩:=cells5 hS9.2.1;have hm6:=hS9.1;go_simp;try with_reducible rfl
    simp only [Act.put,List.setIfInBounds_toArray,List.set_cons_zero,List.set_cons_succ];refine ysN ?_;refine wpAnyH_done (by kernel_rfl) ?_ _;go_wp2_with fail;go_meet
    refine ⟨m3,?_⟩;unfold doE;rw [HQ.out];exact HREL.out
   ·have HK:=hid hk;clear hk;have HDO:Hid (doesF P.e (q.k:Int)=some (fnV 77 P.e)):=hid (does_save HK.out);go_wp2_with fail;refine wp_region_held_drew (S:=fun w'=>w'.cell? ⟨P.e,6,none⟩=some (.map (some P.m))∧w'.heap[w1.heap.size]?=some (.cells #[.int .i64 q.k,.int .u32 q.tag,.int .u32 q.id,.int .i64 q.seat,.int .i64 q.ttl] 48 (0,0))∧Mf w' .i64 45 P.m 10 (doesF P.e)) (by kernel_rfl) (⟨HC6.out,HQR.out,HMP.out⟩) (fun hHeld=>?_);refine tkm 6 [(0,27),(1,28),(2,29),(3,30),(4,31),(5,32)] (by kernel_rfl) (fun _ _ _ _ _ h=>h) (by assumption) ?_;iterate 6
     refine ysC (v:=?_) rfl rfl (fun w9 hS9=>?_) ?_;rotate_left
     ·obtain ⟨q0,_,q1,_,q2,_,q3,_,q4,_⟩:=cells5 hS9.2.1;have hm6:=hS9.1;go_simp;try with_reducible rfl
     simp only [Act.put,List.setIfInBounds_toArray,List.set_cons_zero,List.set_cons_succ]
    refine ysN ?_;refine takeRH (i:=6) (d:=some 33) (v:=?_) rfl rfl (by kernel_rfl) (by kernel_rfl) (by kernel_rfl) (fun _ _ _ h=>h) (Or.inl ⟨rfl,fun w9 hS9=>?_⟩) (by assumption) ?_;rotate_left
    ·obtain ⟨q0,_,q1,_,q2,_,q3,_,q4,_⟩:=cells5 hS9.2.1;have hm6:=hS9.1;have hlk:(Instr.lookup 65 (.map (some P.m)) (.int .i64 q.k) false).run Tryz.prog w9 = .ok (.func (.func 77) #[.pointer (some ⟨P.e,0,none⟩)] #[]) w9:=by
      rw [(hS9.2.2.look Tryz.underlying45 Tryz.underlying65 (z:= .nilFunc) (fun _=>rfl) (HWF.out)).2,HDO.out];rfl
     go_simp;try with_reducible rfl
    simp only [Act.put,List.setIfInBounds_toArray,List.set_cons_zero,List.set_cons_succ];refine tkm 1 [(7,34)] (by kernel_rfl) (fun _ _ _ _ _ h=>h) (by assumption) ?_;refine ysC (v:=?_) rfl rfl (fun w9 hS9=>?_) ?_;rotate_left
    ·obtain ⟨q0,_,q1,_,q2,_,q3,_,q4,_⟩:=cells5 hS9.2.1;have hm6:=hS9.1;go_simp;try with_reducible rfl
    simp only [Act.put,List.setIfInBounds_toArray,List.set_cons_zero,List.set_cons_succ];refine ysN ?_;refine rd1 8 (by kernel_rfl) rfl (fun K9 hK9=>?_);go_simp;refine (esave_any P S m t q _ HE2.out (by omega)).mono ?_;rintro e w3 ⟨v3,rfl,m3,ho3,hE3,hs3⟩;have hs1:w3.cell? ⟨P.e,6,none⟩=some (.map (some P.m)):=(blk hE3.en.hd).1 6;have hs2:=hs3.kp.blk hHeld.2.1 (fun e=>by have:=HE.out.elt _ e;have:=HS1.out.kp.size;omega);have HREL:=hid (show Eg w3 P (doQ P.z P.k P.n S q).1 m3 (t+3)∧w3.ownsRow 0 50 7 v3 (doQ P.z P.k P.n S q).2.length ((doQ P.z P.k P.n S q).2.flatMap rpL)∧Step (EF P m) (EF P m3) w w3 from by
     have hR:doQ P.z P.k P.n S q=(noWs (saveE P.z P.k S),S.ws++[cntP q S.ws.length]):=by unfold doQ;have hk:=HK.out;rw [if_neg (by omega),if_neg (by omega),if_pos hk]
     rw [hR];exact ⟨hE3.up (by omega) ht,ho3,HS2.out.trans hs3⟩)
    go_simp;refine hK9.out _ _ (⟨hs1,hs2,hE3.en.mp⟩) (fun hHeld=>?_);clear hK9 K9;clear hs1 hs2 ho3 hE3 hs3;refine tkm 1 [(9,7)] (by kernel_rfl) (fun _ _ _ _ _ h=>h) (by assumption) ?_;refine ysC (v:=?_) rfl rfl (fun w9 hS9=>?_) ?_;rotate_left
    ·obtain ⟨q0,_,q1,_,q2,_,q3,_,q4,_⟩:=cells5 hS9.2.1;have hm6:=hS9.1;go_simp;try with_reducible rfl
    simp only [Act.put,List.setIfInBounds_toArray,List.set_cons_zero,List.set_cons_succ];refine ysN ?_;refine wpAnyH_done (by kernel_rfl) ?_ _;go_wp2_with fail;go_meet
    refine ⟨m3,?_⟩;unfold doE;rw [HQ.out];exact HREL.out
   ·have HK:=hid hk;clear hk;have HDO:Hid (doesF P.e (q.k:Int)=some (fnV 78 P.e)):=hid (does_chg HK.out);go_wp2_with fail;refine wp_region_held_drew (S:=fun w'=>w'.cell? ⟨P.e,6,none⟩=some (.map (some P.m))∧w'.heap[w1.heap.size]?=some (.cells #[.int .i64 q.k,.int .u32 q.tag,.int .u32 q.id,.int .i64 q.seat,.int .i64 q.ttl] 48 (0,0))∧Mf w' .i64 45 P.m 10 (doesF P.e)) (by kernel_rfl) (⟨HC6.out,HQR.out,HMP.out⟩) (fun hHeld=>?_);refine tkm 6 [(0,27),(1,28),(2,29),(3,30),(4,31),(5,32)] (by kernel_rfl) (fun _ _ _ _ _ h=>h) (by assumption) ?_;iterate 6
     refine ysC (v:=?_) rfl rfl (fun w9 hS9=>?_) ?_;rotate_left
     ·obtain ⟨q0,_,q1,_,q2,_,q3,_,q4,_⟩:=cells5 hS9.2.1;have hm6:=hS9.1;go_simp;try with_reducible rfl
     simp only [Act.put,List.setIfInBounds_toArray,List.set_cons_zero,List.set_cons_succ]
    refine ysN ?_;refine takeRH (i:=6) (d:=some 33) (v:=?_) rfl rfl (by kernel_rfl) (by kernel_rfl) (by kernel_rfl) (fun _ _ _ h=>h) (Or.inl ⟨rfl,fun w9 hS9=>?_⟩) (by assumption) ?_;rotate_left
    ·obtain ⟨q0,_,q1,_,q2,_,q3,_,q4,_⟩:=cells5 hS9.2.1;have hm6:=hS9.1;have hlk:(Instr.lookup 65 (.map (some P.m)) (.int .i64 q.k) false).run Tryz.prog w9 = .ok (.func (.func 78) #[.pointer (some ⟨P.e,0,none⟩)] #[]) w9:=by
      rw [(hS9.2.2.look Tryz.underlying45 Tryz.underlying65 (z:= .nilFunc) (fun _=>rfl) (HWF.out)).2,HDO.out];rfl
     go_simp;try with_reducible rfl
    simp only [Act.put,List.setIfInBounds_toArray,List.set_cons_zero,List.set_cons_succ];refine tkm 1 [(7,34)] (by kernel_rfl) (fun _ _ _ _ _ h=>h) (by assumption) ?_;refine ysC (v:=?_) rfl rfl (fun w9 hS9=>?_) ?_;rotate_left
    ·obtain ⟨q0,_,q1,_,q2,_,q3,_,q4,_⟩:=cells5 hS9.2.1;have hm6:=hS9.1;go_simp;try with_reducible rfl
    simp only [Act.put,List.setIfInBounds_toArray,List.set_cons_zero,List.set_cons_succ];refine ysN ?_;refine rd1 8 (by kernel_rfl) rfl (fun K9 hK9=>?_);go_simp;refine (echange_any P S m t q _ HE2.out (by omega) HOQ.out HK.out).mono ?_;rintro e w3 ⟨v3,rfl,m3,ho3,hE3,hs3⟩;have hs1:w3.cell? ⟨P.e,6,none⟩=some (.map (some P.m)):=(blk hE3.en.hd).1 6;have hs2:=hs3.kp.blk hHeld.2.1 (fun e=>by have:=HE.out.elt _ e;have:=HS1.out.kp.size;omega);have HREL:=hid (show Eg w3 P (doQ P.z P.k P.n S q).1 m3 (t+3)∧w3.ownsRow 0 50 7 v3 (doQ P.z P.k P.n S q).2.length ((doQ P.z P.k P.n S q).2.flatMap rpL)∧Step (EF P m) (EF P m3) w w3 from by
     have hR:doQ P.z P.k P.n S q=chgE P.z P.k P.n S q:=by unfold doQ;have hk:=HK.out;unfold isChg at hk;rw [if_neg (by omega),if_neg (by omega),if_neg (by omega)]
     rw [hR];exact ⟨hE3,ho3,HS2.out.trans hs3⟩)
    go_simp;refine hK9.out _ _ (⟨hs1,hs2,hE3.en.mp⟩) (fun hHeld=>?_);clear hK9 K9;clear hs1 hs2 ho3 hE3 hs3;refine tkm 1 [(9,7)] (by kernel_rfl) (fun _ _ _ _ _ h=>h) (by assumption) ?_;refine ysC (v:=?_) rfl rfl (fun w9 hS9=>?_) ?_;rotate_left
    ·obtain ⟨q0,_,q1,_,q2,_,q3,_,q4,_⟩:=cells5 hS9.2.1;have hm6:=hS9.1;go_simp;try with_reducible rfl
    simp only [Act.put,List.setIfInBounds_toArray,List.set_cons_zero,List.set_cons_succ];refine ysN ?_;refine wpAnyH_done (by kernel_rfl) ?_ _;go_wp2_with fail;go_meet
    refine ⟨m3,?_⟩;unfold doE;rw [HQ.out];exact HREL.out
  ·have hfb:(f != 0)=true:=by simp [hf]
   have HQ:=hid hq;have HE2:=hid (HE1.out.new N2.2.2);have HS2:=hid (HS1.out.below N2.2.2);clear hcq hq hf a0 a1 a2 a3 a4 a5 a6;go_wp2_with fail;refine (HR0.out _).mono ?_;rintro e w3 ⟨v3,rfl,ho3,hb3⟩;have HREL:=hid (show Eg w3 P (doE P.z P.k P.n S x).1 m (t+3)∧w3.ownsRow 0 50 7 v3 (doE P.z P.k P.n S x).2.length ((doE P.z P.k P.n S x).2.flatMap rpL)∧Step (EF P m) (EF P m) w w3 from by
    unfold doE;rw [HQ.out];exact ⟨(HE2.out.new hb3).up (by omega) ht,own_one (own_mono ho3 (Nat.zero_le _)),HS2.out.below hb3⟩)
   clear ho3 hb3;go_wp2_with fail;go_meet
   exact ⟨m,HREL.out⟩
 case rest=>
  obtain ⟨m1,hE9,ho9,hs9⟩:=hcut;have hokR:=HOK.out;obtain ⟨R,hR⟩:∃R,doE P.z P.k P.n S x=R:=⟨_,rfl⟩;rw [hR] at hE9 ho9 hokR;have HRR:=hid hR;obtain ⟨oa,rn,rfl,_,_⟩:=own_form ho9;have HE9:=hid hE9;have HO9:=hid ho9;have HS9:=hid hs9;have HKR:=hid hokR;have HTT:=hid ht;clear hE9 ho9 hs9 hokR hR a0 a1 a2 a3 a4 a5 a6 HC HOK;obtain ⟨i0,hi0,hz0,hz1,hz2⟩:=info_parts info34;have HI0:=hid hi0;have HZ2:=hid hz2;clear hi0 hz2;go_wp2_with fail;go_loopw [8,51] (fun o i wr=> ∃n:Nat,i = .int .i64 n∧n≤R.2.length∧Below wc.heap.size wc wr∧Outs wr wc.heap.size o (R.2.take n)) (fun o i wr=>R.2.length-(intOf i).toNat)
  case atStart=>exact ⟨0,rfl,Nat.zero_le _,Below.refl _ _,⟨[],World.ownsRow_nil _ _ _ _,fun i r h=>by simp at h⟩⟩
  case round=>
   obtain ⟨n,rfl,hn,hb,ho⟩:=hrel;by_cases hlt:n<R.2.length
   ·have hnI:(n:Int)<(R.2.length:Int):=by omega
    have hnb:R.2.length≤1000:=by have:=HKR.out.2;have:=HTT.out;omega
    obtain ⟨r,hr⟩:∃r,R.2[n]?=some r:=⟨_,List.getElem?_eq_getElem hlt⟩;obtain ⟨g,cap,eg,hcap,hg,hc⟩:=own_rp HO9.out hr;injection eg with eg1 eg2 eg3;subst eg1 eg3;have cc:∀j u,(rpL r)[j]?=some u→wr.cell? ⟨g,n*7+j,none⟩=some u:=fun j u h9=>(hb.cell (p:=⟨g,n*7+j,none⟩) hg).trans (hc j u h9)
    have c0:wr.cell? ⟨g,n*7,none⟩=some (.int .u32 r.tag):=cc 0 _ rfl;have c1:wr.cell? ⟨g,n*7+1,none⟩=some (.int .i64 r.k):=cc 1 _ rfl;have c2:wr.cell? ⟨g,n*7+2,none⟩=some (.int .i64 r.err):=cc 2 _ rfl;have c3:wr.cell? ⟨g,n*7+3,none⟩=some (.int .u32 r.id):=cc 3 _ rfl;have c4:wr.cell? ⟨g,n*7+4,none⟩=some (.int .i64 r.seat):=cc 4 _ rfl;have c5:wr.cell? ⟨g,n*7+5,none⟩=some (.int .i64 r.til):=cc 5 _ rfl;have c6:wr.cell? ⟨g,n*7+6,none⟩=some (.int .i64 r.cnt):=cc 6 _ rfl;obtain ⟨us,hu1,hu2⟩:=ho;have htl:(R.2.take n).length = n:=by rw [List.length_take];omega
    have htk:R.2.take (n+1)=R.2.take n++[r]:=by rw [List.take_add_one,hr];rfl
    obtain ⟨oo,on,rfl,_,_⟩:=own_form hu1;rw [htl] at hu1 ⊢;have HU1:=hid hu1;have HU2:=hid hu2;have HTK:=hid htk;have HTL:=hid htl;have HBW:=hid hb;have HPT:=hid (fun W' (hT:Glb W')=>repput_any r (HKR.out.1 r (List.mem_of_getElem? hr)) W' hT);unfold rpC at HPT;have N1:=new1 wr (.cells #[.int .u32 r.tag,.int .i64 r.k,.int .i64 r.err,.int .u32 r.id,.int .i64 r.seat,.int .i64 r.til,.int .i64 r.cnt] 50);obtain ⟨X1,hX1⟩:∃W,wr.alloc (.cells #[.int .u32 r.tag,.int .i64 r.k,.int .i64 r.err,.int .u32 r.id,.int .i64 r.seat,.int .i64 r.til,.int .i64 r.cnt] 50)=W:=⟨_,rfl⟩;rw [hX1] at N1;have HN1:=hid N1;have hgl:Glb X1:=(HE9.out.gl.new hb).new N1.2.2;have HGL:=hid hgl;obtain ⟨d0,_,d1,_,d2,_,d3,_,d4,_,d5,_,d6,_⟩:=cells7 N1.1;clear hu1 hu2 htl htk hb hc cc hr N1 hgl;go_wp2_with fail;refine (HPT.out _ HGL.out).mono ?_;rintro e w4 ⟨v4,rfl,ho4,hb4⟩;obtain ⟨oa4,rn4,rfl,_,_⟩:=own_form ho4;have N5:=new1 w4 (.cells #[.slice oa4 (rpF r).length rn4] 34);have hb15:Below wr.heap.size wr (w4.alloc (.cells #[.slice oa4 (rpF r).length rn4] 34)):=(HN1.out.2.2.trans (hb4.mono HN1.out.2.2.size)).trans (N5.2.2.mono (Nat.le_trans HN1.out.2.2.size hb4.size));have HB15:=hid hb15;have HN5:=hid N5;have HO4:=hid (own_below ho4 N5.2.2 (Nat.le_refl _));clear hb15 N5 ho4 hb4 c0 c1 c2 c3 c4 c5 c6 d0 d1 d2 d3 d4 d5 d6;go_wp2_with (at_builtin;go_loud (refine wpList_append_own_at _ rfl _ _ 24 rfl wc.heap.size 34 i0 (.slice none 0 0) 1 24 Tryz.underlying24 HI0.out hz0 hz1 HZ2.out (by rfl) (by decide) (.slice oo n on) n us rfl (own_below HU1.out HB15.out (Nat.le_refl _)) ⟨w4.heap.size,0,none⟩ 1 1 [.slice oa4 (rpF r).length rn4] rfl rfl (World.news_of_block HN5.out.1) (by simp [Value.oneCell']) (by have:=HKR.out.2;have:=HTT.out;unfold maxLen;omega) (by have:=HKR.out.2;have:=HTT.out;omega) (by have:=HBW.out.size;have:=HB15.out.size;omega) ?_;intro v5 w5 hown hgrow _ hat));have hsn:Outs w5 wc.heap.size v5 (R.2.take (n+1)):=by
     rw [HTK.out];have hu:=HU1.out;have e9:=HTL.out;exact Outs.snoc (us:=us) (by rw [e9];exact hu) HU2.out HB15.out (own_mono HO4.out (by have:=HBW.out.size;have:=HN1.out.2.2.size;omega)) hgrow (by rw [e9];exact hown)
    have hbl:Below wc.heap.size wc w5:=(HBW.out.trans (HB15.out.mono HBW.out.size)).grown hgrow (by have:=HBW.out.size;have:=HB15.out.size;omega) (fun k e=>(HU1.out.lt k e).1);have HSN:=hid hsn;have HBL:=hid hbl;clear hsn hbl hown hgrow hat;go_wp2_with fail;go_roundw;case rel=>exact ⟨n+1,by go_num,by omega,HBL.out,HSN.out⟩
    case measure=>simp [intOf];omega
   ·obtain rfl:n=R.2.length:=by omega
    have HB:=hid hb;have HO:=hid ho;clear hb ho;go_wp2_with fail;go_ret;have h9:=HO.out;rw [List.take_length] at h9;rw [HRR.out];exact ⟨_,rfl,m1,wc.heap.size,HE9.out.elt,h9,HE9.out.new HB.out,HS9.out.below HB.out⟩
theorem does_made (en:Nat):∀i:Int,(upd (upd (upd (upd (upd (upd (upd (upd (upd (upd (fun _=>none) 5 (.func (.func 75) #[.pointer (some ⟨en,0,none⟩)] #[])) 6 (.func (.func 75) #[.pointer (some ⟨en,0,none⟩)] #[])) 10 (.func (.func 75) #[.pointer (some ⟨en,0,none⟩)] #[])) 8 (.func (.func 76) #[.pointer (some ⟨en,0,none⟩)] #[])) 9 (.func (.func 77) #[.pointer (some ⟨en,0,none⟩)] #[])) 1 (.func (.func 78) #[.pointer (some ⟨en,0,none⟩)] #[])) 2 (.func (.func 78) #[.pointer (some ⟨en,0,none⟩)] #[])) 3 (.func (.func 78) #[.pointer (some ⟨en,0,none⟩)] #[])) 4 (.func (.func 78) #[.pointer (some ⟨en,0,none⟩)] #[])) 7 (.func (.func 78) #[.pointer (some ⟨en,0,none⟩)] #[])) i=doesF en i:=by
 intro i;unfold upd doesF fnV;repeat' split
 all_goals first | rfl | omega
def EMk (w:World)(l s pb:Nat)(e:Ending)(w':World):Prop:= ∃en mb,e = .returned (.tuple #[.pointer (some ⟨en,0,none⟩),.int .i64 0])∧w'.heap[en]?=some (.cells #[.bool true,.bool true,.pointer (some ⟨l,0,none⟩),.pointer (some ⟨s,0,none⟩),.pointer (some ⟨pb,0,none⟩),.slice none 0 0,.map (some mb)] 67 (0,0))∧Mf w' .i64 45 mb 10 (doesF en)∧w.heap.size≤en∧w.heap.size≤mb∧en≠mb∧Below w.heap.size w w'
theorem emake_any (l r p z f k s a b pb K0 k2:Nat)(L:Lg)(v:Value)(Fb:Nat→Prop)(K:Nat)(bk:Bk)(w:World)(hwl:Wl w l r p z f k L v)(hkz:0<k*z)(hss:Ss w s a b)(hra:Rg w a p z 0 k2)(hk2:k2*z=K0)(hK0:2*z≤K0∧64≤z∧K0<1000000000)(hb:Bkk w pb Fb K bk)(hs:Sound bk):
 Calls Tryz.prog 28 #[.pointer (some ⟨l,0,none⟩),.pointer (some ⟨s,0,none⟩),.pointer (some ⟨pb,0,none⟩)] w (EMk w l s pb):=by
 have HRM:=hid (fun W' (h:Below w.heap.size w W')=>lroom_any l r p z f k L v W' (hwl.new h));have HUS:=hid (fun W' (h:Below w.heap.size w W')=>lused_any l r p z f k L v W' (hwl.new h));have HSB:=hid (fun W' (h:Below w.heap.size w W')=>sbytes_any s a b p z k2 K0 W' (Bl.blk h hss) (hra.new h) hk2 (by omega) (by omega));have HSH:=hid (fun W' (h:Below w.heap.size w W')=>kshape pb Fb K bk W' (hb.new h));have hfit:=hwl.fit;obtain ⟨U,hU⟩:∃U,L.beg+L.B.length=U:=⟨_,rfl⟩;obtain ⟨R,hR⟩:∃R,k*z-U=R:=⟨_,rfl⟩;rw [hU] at HRM HUS hfit;rw [hR] at HRM;have h1:¬((R:Int)+(U:Int)=0):=by omega
 have hb9:=hwl.big;have hr9:R≤1000000:=by omega
 have hu9:U≤1000000:=by omega
 have h2:¬(((K0-z:Nat):Int)=0):=by omega
 have h3:¬((bk.s:Int)=0):=by have:=hs.hs;omega
 have g1:((R:Int)+(U:Int) == 0)=false:=by simp;omega
 have g2:(((K0-z:Nat):Int) == 0)=false:=by simp;omega
 have g3:((bk.s:Int) == 0)=false:=by simp;omega
 have hf0:=fld0 bk.s bk.c bk.g;clear hwl hss hra hb hs hfit hU hR hkz hk2 hb9 h1 h2 h3;go_enter Tryz.func28,Tryz.ntmps28;go_wp2_with fail;refine (HRM.out _ (Below.refl _ _)).mono ?_;rintro e w1 ⟨q1,rfl,hw1⟩;have HB1:=hid (below_of_drewN hw1);clear hw1;go_wp2_with fail;refine (HUS.out _ HB1.out).mono ?_;rintro e w2 ⟨q2,rfl,hw2⟩;have HB2:=hid (HB1.out.trans ((below_of_drewN hw2).mono HB1.out.size));clear hw2;go_wp2_with fail;refine (HSB.out _ HB2.out).mono ?_;rintro e w3 ⟨q3,rfl,hw3⟩;have HB3:=hid (HB2.out.trans ((below_of_drewN hw3).mono HB2.out.size));clear hw3;go_wp2_with fail;refine (HSH.out _ HB3.out).mono ?_;rintro e w4 ⟨rfl,hb4⟩;have HB4:=hid (HB3.out.trans (hb4.mono HB3.out.size));clear hb4;have N:=new2 w4 (.cells #[.bool true,.bool true,.pointer (some ⟨l,0,none⟩),.pointer (some ⟨s,0,none⟩),.pointer (some ⟨pb,0,none⟩),.slice none 0 0,.map none] 67) (.map #[] 0);obtain ⟨W0,hW0⟩:∃W,(w4.alloc (.cells #[.bool true,.bool true,.pointer (some ⟨l,0,none⟩),.pointer (some ⟨s,0,none⟩),.pointer (some ⟨pb,0,none⟩),.slice none 0 0,.map none] 67)).alloc (.map #[] 0)=W:=⟨_,rfl⟩;rw [hW0] at N;obtain ⟨en,hen⟩:∃en,w4.heap.size=en:=⟨_,rfl⟩;have hb0:=N.2.2.2;have HB0:=hid (HB4.out.trans (hb0.mono HB4.out.size));rw [hen] at N;have HEN:=hid (show w.heap.size≤en by have:=HB4.out.size;omega);have m0:Mf W0 .i64 45 (en+1) 0 (fun _=>none):=Mf.of_block N.2.1;have hE0:=N.1;clear N hb0;obtain ⟨W1,r0,m1,t0⟩:=m0.update (t:=65) Tryz.underlying45 Tryz.underlying65 (by unfold maxLen;decide) (i:=(5:Int)) (by decide) (.func (.func 75) #[.pointer (some ⟨en,0,none⟩)] #[]);obtain ⟨W2,r1,m2,t1⟩:=m1.update (t:=65) Tryz.underlying45 Tryz.underlying65 (by unfold maxLen;decide) (i:=(6:Int)) (by decide) (.func (.func 75) #[.pointer (some ⟨en,0,none⟩)] #[]);obtain ⟨W3,r2,m3,t2⟩:=m2.update (t:=65) Tryz.underlying45 Tryz.underlying65 (by unfold maxLen;decide) (i:=(10:Int)) (by decide) (.func (.func 75) #[.pointer (some ⟨en,0,none⟩)] #[]);obtain ⟨W4,r3,m4,t3⟩:=m3.update (t:=65) Tryz.underlying45 Tryz.underlying65 (by unfold maxLen;decide) (i:=(8:Int)) (by decide) (.func (.func 76) #[.pointer (some ⟨en,0,none⟩)] #[]);obtain ⟨W5,r4,m5,t4⟩:=m4.update (t:=65) Tryz.underlying45 Tryz.underlying65 (by unfold maxLen;decide) (i:=(9:Int)) (by decide) (.func (.func 77) #[.pointer (some ⟨en,0,none⟩)] #[]);obtain ⟨W6,r5,m6,t5⟩:=m5.update (t:=65) Tryz.underlying45 Tryz.underlying65 (by unfold maxLen;decide) (i:=(1:Int)) (by decide) (.func (.func 78) #[.pointer (some ⟨en,0,none⟩)] #[]);obtain ⟨W7,r6,m7,t6⟩:=m6.update (t:=65) Tryz.underlying45 Tryz.underlying65 (by unfold maxLen;decide) (i:=(2:Int)) (by decide) (.func (.func 78) #[.pointer (some ⟨en,0,none⟩)] #[]);obtain ⟨W8,r7,m8,t7⟩:=m7.update (t:=65) Tryz.underlying45 Tryz.underlying65 (by unfold maxLen;decide) (i:=(3:Int)) (by decide) (.func (.func 78) #[.pointer (some ⟨en,0,none⟩)] #[]);obtain ⟨W9,r8,m9,t8⟩:=m8.update (t:=65) Tryz.underlying45 Tryz.underlying65 (by unfold maxLen;decide) (i:=(4:Int)) (by decide) (.func (.func 78) #[.pointer (some ⟨en,0,none⟩)] #[]);obtain ⟨W10,r9,m10,t9⟩:=m9.update (t:=65) Tryz.underlying45 Tryz.underlying65 (by unfold maxLen;decide) (i:=(7:Int)) (by decide) (.func (.func 78) #[.pointer (some ⟨en,0,none⟩)] #[]);have hkk:Kp (· = en+1) W0 W10:=(((((((((turned_kp t0).trans (turned_kp t1)).trans (turned_kp t2)).trans (turned_kp t3)).trans (turned_kp t4)).trans (turned_kp t5)).trans (turned_kp t6)).trans (turned_kp t7)).trans (turned_kp t8)).trans (turned_kp t9);have hE:=hkk.blk hE0 (by omega);have HE:=hid hE;have hbw:Below w.heap.size w W10:=HB0.out.trans (hkk.below HB0.out.size (fun i e=>by have:=HEN.out;omega));have HBW:=hid hbw;have HM:=hid (m10.congr (fun i _=>does_made en i));obtain ⟨e0,g0,e1,g1,e2,g2,e3,g3,e4,g4,e5,g5,e6,g6⟩:=cells7 hE;clear hE0 hE hkk hbw m0 m1 m2 m3 m4 m5 m6 m7 m8 m9 m10 t0 t1 t2 t3 t4 t5 t6 t7 t8 t9;have hmm:∀w:World,(Instr.makeMap 65 none).run Tryz.prog w = .ok (.map (some w.heap.size)) (w.alloc (.map #[] 0)):=fun w=>by simp [Instr.makeMap]
 go_wp2_with fail;go_ret2;refine ⟨en,en+1,rfl,heap_setCell_same W10 en 6 _ 67 _ HE.out,HM.out.set (by show en+1≠en;omega) _,HEN.out,by have:=HEN.out;omega,by omega,HBW.out.setCell (p:=⟨en,6,none⟩) HEN.out _⟩
end
end Go.Proofs.YtdjiopacieadpaaGreatDoor

/- TopNear: part Pba: RegW SlH. -/
import Derived.Test.YtdjiopacieadpaaGreatDoorPaz
import Derived.Laws.BytesArg
import Derived.Lib.SlBytesConst
set_option linter.unusedVariables false
set_option linter.unusedSimpArgs false
set_option maxRecDepth 8000
set_option maxHeartbeats 8000000
namespace Go.Proofs.YtdjiopacieadpaaGreatDoor
section
open Go.RowKit FlatPlain
theorem patch_cut {B b:List Nat}{p q n:Nat}(h:q≤p)(h1:p+b.length≤q+n)(h2:q+n≤B.length):patch B q (cut (patch B p b) q n)=patch B p b:=by
 have hl:(cut (patch B p b) q n).length = n:=cut_len (by rw [patch_len (by omega)];exact h2);apply List.ext_getElem?;intro i;rw [patch_get (by rw [hl];exact h2),hl];split
 ·rename_i hi;rw [cut_get (by omega),show q+(i-q)=i by omega]
 ·rename_i hi;rw [patch_get (by omega),if_neg (by omega)]
theorem patch_sector {B b:List Nat}{q a n:Nat}(h1:a+b.length≤n)(h2:q+n≤B.length):patch B q ((cut B q n).take a++(b++(cut B q n).drop (a+b.length)))=patch B (q+a) b:=by
 have h:=cut_patch_in (B:=B) (b:=b) (p:=q+a) (q:=q) (n:=n) (by omega) (by omega) (by omega) h2;rw [show q+a-q=a by omega] at h;rw [←List.append_assoc];show patch B q (patch (cut B q n) a b)=_
 rw [←h];exact patch_cut (by omega) (by omega) h2
theorem take_more (l:List Nat)(p m:Nat):l.take (p+m)=l.take p++(l.drop p).take m:=by rw [List.take_add]
theorem sl34_to (bb o R cap M:Nat)(h:M≤cap)(W:World):(Instr.slice 34 (.slice (some ⟨bb,o,none⟩) R cap) none (some (.int .i64 M)) none).run Tryz.prog W = .ok (.slice (some ⟨bb,o,none⟩) M cap) W:=by
 rw [run_slice_h (P:=Tryz.prog) W 34 (some ⟨bb,o,none⟩) R cap rfl .i64 (M:Int) (by omega) (by omega)];have e:(Sem.run Tryz.prog (sizeOf (Tryz.prog.elem 34)) W) = .ok 1 W:=by kernel_rfl
 rw [e];simp [Result.andThen,sliced,addr_add]
theorem sl34_from (bb o R cap M:Nat)(h:M≤R)(hc:R≤cap):∃no,(∀W,(Instr.slice 34 (.slice (some ⟨bb,o,none⟩) R cap) (some (.int .i64 M)) none none).run Tryz.prog W = .ok (.slice (some ⟨bb,no,none⟩) (R-M) (cap-M)) W)∧(M<R→no=o+M):=by
 refine ⟨if cap=M then o else o+M,fun W=>?_,fun hlt=>?_⟩
 ·rw [run_slice_l (P:=Tryz.prog) W 34 (some ⟨bb,o,none⟩) R cap rfl .i64 (M:Int) (by omega) (by omega)];have e:(Sem.run Tryz.prog (sizeOf (Tryz.prog.elem 34)) W) = .ok 1 W:=by kernel_rfl
  rw [e];by_cases e:cap=M<;>simp [Result.andThen,sliced,addr_add,e]
 ·rw [if_neg (by omega)]
theorem concat3_any (W:World)(v1 v2 v3:Value)(l1 l2 l3:List Nat)(a1 a2 a3:Addr)(c1 c2 c3:Nat)(e1:v1 = .slice (some a1) l1.length c1)(e2:v2 = .slice (some a2) l2.length c2)(e3:v3 = .slice (some a3) l3.length c3)(s1:Sl W v1 (Lb l1))(s2:Sl W v2 (Lb l2))(s3:Sl W v3 (Lb l3))(h0:0<l2.length)(hn:l1.length+l2.length+l3.length≤1000000)(m:Nat)(t:TypeId):
 Calls Tryz.prog 128 #[.slice (some ⟨W.heap.size,0,none⟩) 3 3] ((W.drewN m).alloc (Obj.cells #[v1,v2,v3] t)) fun e w'=> ∃v',e = .returned v'∧w'.ownsRow W.heap.size 5 1 v' (l1.length+l2.length+l3.length) (Lb (l1++(l2++l3)))∧Below W.heap.size W w':=by
 have N:=new1 (W.drewN m) (Obj.cells #[v1,v2,v3] t);have hb:Below W.heap.size W ((W.drewN m).alloc (Obj.cells #[v1,v2,v3] t)):=(below_drewN (Below.refl _ _) m).trans N.2.2;have el:∀{v:Value} {l:List Nat} {a:Addr} {c:Nat},v = .slice (some a) l.length c→Sl W v (Lb l)→Sl ((W.drewN m).alloc (Obj.cells #[v1,v2,v3] t)) v (Lb l)∧ ∃a c,v = .slice (some a) l.length c∧l.length≤c:=by
  intro v l a c e s;refine ⟨Sl_below s hb (Nat.le_refl _),a,c,e,?_⟩;obtain ⟨a',c',e',hc,_⟩:=Sl_partsB s;rw [e] at e';injection e' with _ _ e';omega
 have hl3:lens [(v1,l1),(v2,l2),(v3,l3)]=l1.length+l2.length+l3.length:=by simp [lens];omega
 refine (concat_any W.heap.size [(v1,l1),(v2,l2),(v3,l3)] _ ?_ ?_ (by rw [hl3];omega) (by rw [hl3];exact hn) (by simp)).mono ?_
 ·intro j e he;have hc:∀i,((W.drewN m).alloc (Obj.cells #[v1,v2,v3] t)).cell? ⟨W.heap.size,i,none⟩=(#[v1,v2,v3]:Array Value)[i]? :=(blk N.1).1;rw [hc j];match j,he with
  | 0,he=>injection he with he;subst he;rfl
  | 1,he=>injection he with he;subst he;rfl
  | 2,he=>injection he with he;subst he;rfl
  | j+3,he=>cases he
 ·intro e he;simp only [List.mem_cons,List.not_mem_nil,or_false] at he;rcases he with rfl | rfl | rfl
  ·exact el e1 s1
  ·exact el e2 s2
  ·exact el e3 s3
 ·rintro e w' ⟨v',rfl,ho,hb2⟩;rw [hl3] at ho;have e9:[(v1,l1),(v2,l2),(v3,l3)].flatMap (fun e=>e.2)=l1++(l2++l3):=by simp
  rw [e9] at ho;exact ⟨v',rfl,own_mono ho hb.size,hb.trans (hb2.mono hb.size)⟩
structure WrI (w0:World)(r p z f k n:Nat)(D:List Nat)(F:Nat→Prop)(c q at0:Nat)(l:List Nat)(bb bo pos:Nat)(w:World):Prop where
 ex:∃F' v j c',Pw w p z n (patch D (f*z+at0) (l.take (pos-at0))) F' c' (q+j)∧c'≤c+2*j∧Steps z at0 (at0+l.length) pos j∧w.heap[w0.heap.size+1]?=some (Obj.cells #[v] 34 (0,0))∧
  (pos<at0+l.length→ ∃R cap,v = .slice (some ⟨bb,bo+(pos-at0),none⟩) R cap∧R=l.length-(pos-at0)∧R≤cap∧cap≤maxLen)∧(∀x,F' x→F x∨w0.heap.size+2≤x)∧(∀x,F' x→x<w.heap.size)
 bx:w.heap[w0.heap.size]?=some (Obj.cells #[.pointer (some ⟨r,0,none⟩)] 78 (0,0))
 rg:Rg w r p z f k
 kp:Kp F w0 w
theorem write1_any (w0:World)(r p z f k n:Nat)(D:List Nat)(F:Nat→Prop)(c q at0:Nat)(l:List Nat)(bb bo pos:Nat)(w:World)(h:WrI w0 r p z f k n D F c q at0 l bb bo pos w)(hD:D.length=n*z)(hc:c+10000000<1000000000)(hq:q+10001<100000)(hfk:f+k≤n)(hin:at0+l.length≤k*z)(hFl:∀b,F b→b<w0.heap.size)(hr:¬F r)(hrl:r<w0.heap.size)(hbb:bb<w0.heap.size)(hbF:¬F bb)(hlb:Bs l)(hdata:∀j u,(Lb l)[j]?=some u→w0.cell? ⟨bb,bo+j,none⟩=some u)(hp0:at0≤pos)(hp:pos<at0+l.length)(i a b:Nat)(hi:i=f+pos / z)(ha:a=pos % z)(hb:b=a+piece z pos (at0+l.length)):
 Calls Tryz.prog 126 #[.int .i64 i,.int .i64 a,.int .i64 b,.pointer (some ⟨w0.heap.size+1,0,none⟩),.pointer (some ⟨w0.heap.size,0,none⟩)] w fun e w''=>e = .returned (.int .i64 0)∧WrI w0 r p z f k n D F c q at0 l bb bo (pos+piece z pos (at0+l.length)) w'':=by
 obtain ⟨⟨F',v,j,c',h1,h2,h3,h4,h5,h6,h7⟩,h8,h9,h10⟩:=h;obtain ⟨R,cap,rfl,hR,hRc,hcm⟩:=h5 hp;have hz:=h1.hz;have hz0:0<z:=by omega
 obtain ⟨g1,g2,g3⟩:=piece_pos (pos:=pos) hz0 hp;obtain ⟨M,hM⟩:∃M,piece z pos (at0+l.length)=M:=⟨_,rfl⟩;rw [hM] at g1 g2 g3 hb ⊢;have hpk:pos / z<k:=(Nat.div_lt_iff_lt_mul hz0).2 (by omega);have hn96:=h1.n96;have hkz:k*z≤96*4096:=Nat.mul_le_mul (by omega) hz.2;have hj:j≤10000:=by
  have hx:=Nat.div_le_self pos z;rcases h3 with ⟨_,e⟩ | ⟨_,e⟩ | ⟨_,e⟩
  ·omega
  ·have:=Nat.zero_le (at0 / z);revert e;generalize at0 / z=A;generalize hpz:pos / z=B;intro e;omega
  ·have:=Nat.zero_le (at0 / z);revert e;generalize at0 / z=A;generalize hpz:pos / z=B;intro e;omega
 have hkF:Kp (fun x=>F' x) w w:=Kp.refl _ _;have hin':i<n:=by omega
 have hMR:M≤R:=by omega
 have hba:(b:Int)-(a:Int)=(M:Int):=by omega
 have hMz:M≤z:=by omega
 have haz:a≤z:=by omega
 have hbz:b≤z:=by omega
 have hMc:M≤cap:=by omega
 have hslt:=sl34_to bb (bo+(pos-at0)) R cap M hMc;obtain ⟨no,hNV,hNV2⟩:=sl34_from bb (bo+(pos-at0)) R cap M hMR hRc;have HNV2:=hid hNV2;have HP:=hid h1;have HX:=hid (And.intro h2 (And.intro h3 (And.intro h6 h7)));have H4:=hid h4;have H8:=hid h8;have H9:=hid h9;have H10:=hid h10;have HD:=hid hD;have HLB:=hid hlb;have HDA:=hid hdata;have HFL:=hid hFl;have HI:=hid (And.intro hi (And.intro ha (And.intro hb hin')));have HN:=hid (And.intro hR (And.intro hRc (And.intro hz (And.intro hn96 (And.intro hkz hj)))));have HG:=hid (And.intro g1 (And.intro g2 (And.intro g3 hM)));have HJ:=hid (And.intro hc (And.intro hq (And.intro hfk (And.intro hin (And.intro hp0 hp)))));have c1:w.cell? ⟨w0.heap.size,0,none⟩=some (.pointer (some ⟨r,0,none⟩)):=(blk h8).1 0;have c2:w.cell? ⟨w0.heap.size+1,0,none⟩=some (.slice (some ⟨bb,bo+(pos-at0),none⟩) R cap):=(blk h4).1 0;have c3:w.frozen? ⟨w0.heap.size+1,0,none⟩=false:=(blk h4).2.1 0;obtain ⟨d0,_,d1,_,d2,_,d3,_⟩:=cells4 h9;have hab:(a:Int)≤(b:Int):=by omega
 have hM4:M≤4096:=by omega
 clear h1 h2 h3 h4 h5 h6 h7 h8 h9 h10 hD hlb hdata hFl hi ha hb hin' hR hz hn96 hkz hj g1 g2 g3 hM hc hq hfk hin hp0 hp hz0 hpk hkF hNV2;have hkW:Kp (· = w0.heap.size+1) w (w.setCell ⟨w0.heap.size+1,0,none⟩ (.slice (some ⟨bb,no,none⟩) (R-M) (cap-M))):=(Kp.refl (· = w0.heap.size+1) w).setCell (p:=⟨w0.heap.size+1,0,none⟩) rfl _;have HKW:=hid hkW;have hB2F:¬F' (w0.heap.size+1):=fun e=>by rcases HX.out.2.2.1 _ e with e | e;exact absurd (HFL.out _ e) (by omega);omega
 have hB1F:¬F' w0.heap.size:=fun e=>by rcases HX.out.2.2.1 _ e with e | e;exact absurd (HFL.out _ e) (by omega);omega
 have HPW:=hid (HP.out.stay hkW (fun x hx e=>hB2F (by rw [←e];exact hx)));have hbF':¬F' bb:=fun e=>by rcases HX.out.2.2.1 _ e with e | e;exact hbF e;omega
 have hdl:(cut l (pos-at0) M).length = M:=cut_len (by have:=HN.out;have:=HG.out;omega);have HDL:=hid hdl;have HSL:Hid (Sl (w.setCell ⟨w0.heap.size+1,0,none⟩ (.slice (some ⟨bb,no,none⟩) (R-M) (cap-M))) (.slice (some ⟨bb,bo+(pos-at0),none⟩) M cap) (Lb (cut l (pos-at0) M))):=hid (by
  refine ⟨_,cap,by rw [Lb_len,hdl],by rw [Lb_len,hdl];exact hMc,hcm,Or.inr ⟨bb,bo+(pos-at0),rfl,?_,fun j u hj=>?_⟩⟩
  ·have:=H10.out.size;simp;omega
  ·rw [hkW.cell (p:=⟨bb,_,none⟩) (by have:=H10.out.size;show bb<_;omega) (by show ¬bb=_;omega),H10.out.cell (p:=⟨bb,_,none⟩) hbb hbF,Nat.add_assoc];refine HDA.out (pos-at0+j) u ?_;have hj2:j<M:=by have:=(List.getElem?_eq_some_iff.1 hj).1;rw [Lb_len,hdl] at this;exact this
   rw [show cut l (pos-at0) M=(l.drop (pos-at0)).take M from rfl,←Lb_take,←Lb_drop,List.getElem?_take,if_pos hj2,List.getElem?_drop] at hj;exact hj)
 have HBD:Hid (Bs (cut l (pos-at0) M)):=hid (fun x hx=>HLB.out x (List.mem_of_mem_drop (List.mem_of_mem_take hx)));have hcc:c'+2<1000000000:=by have:=HX.out.1;have:=HN.out;have:=HJ.out;omega
 have hqq:q+j+1<100000:=by have:=HN.out;have:=HJ.out;omega
 have HQQ:=hid (And.intro hcc hqq);have HB:=hid (And.intro hbF' (And.intro hB1F hB2F));have HCM:=hid hcm;have HEND:Hid (∀(w2:World) (F2:Nat→Prop) (c2:Nat),Step F' F2 (w.setCell ⟨w0.heap.size+1,0,none⟩ (.slice (some ⟨bb,no,none⟩) (R-M) (cap-M))) w2→c2≤c'+2→Pw w2 p z n (patch (patch D (f*z+at0) (l.take (pos-at0))) (i*z+a) (cut l (pos-at0) M)) F2 c2 (q+j+1)→WrI w0 r p z f k n D F c q at0 l bb bo (pos+M) w2):=hid (by
  intro w2 F2 c2 hs hc2 hd;obtain ⟨x1,x2,x3,x4⟩:=HX.out;obtain ⟨n1,n2,n3,n4,n5,n6⟩:=HN.out;obtain ⟨j1,j2,j3,j4,j5,j6⟩:=HJ.out;obtain ⟨i1,i2,i3,i4⟩:=HI.out;obtain ⟨g1,g2,g3,g4⟩:=HG.out;have hk2:Kp (fun x=>F x∨w0.heap.size+1≤x) w w2:=(hkW.mono (G:=fun x=>F x∨w0.heap.size+1≤x) (fun x hx=>Or.inr (by rw [hx];exact Nat.le_refl _))).trans (hs.kp.mono (fun x hx=>by rcases x3 x hx with e | e;exact Or.inl e;exact Or.inr (by omega)));refine ⟨⟨F2,.slice (some ⟨bb,no,none⟩) (R-M) (cap-M),j+1,c2,?_,by omega,by rw [←g4];exact steps_next (by omega) x2 j5 j6,?_,?_,?_,hs.lt⟩,hk2.blk H8.out (by rintro (e | e);exact absurd (HFL.out _ e) (by omega);omega),H9.out.kp hk2 (by rintro (e | e);exact hr e;omega),H10.out.then hk2 (fun x hx=>by rcases hx with e | e;exact Or.inl e;exact Or.inr (by omega))⟩
  ·have e1:i*z+a=f*z+at0+(l.take (pos-at0)).length :=by
    rw [i1,i2,Nat.add_mul,List.length_take];have:=Nat.div_add_mod pos z;rw [Nat.mul_comm (pos / z) z];omega
   rw [e1,patch_patch (by rw [hdl,List.length_take,HD.out];have:(f+k)*z≤n*z:=Nat.mul_le_mul_right _ j3;rw [Nat.add_mul] at this;omega)] at hd;rw [show pos+M-at0=(pos-at0)+M by omega,take_more];exact hd
  ·exact hs.kp.blk (heap_setCell_same w (w0.heap.size+1) 0 _ 34 _ H4.out) hB2F
  ·intro hlt;exact ⟨R-M,cap-M,by rw [HNV2.out (by omega),show bo+(pos+M-at0)=bo+(pos-at0)+M by omega],by omega,by omega,by omega⟩
  ·intro x hx;rcases hs.sub x hx with e | e
   ·exact x3 x e
   ·refine Or.inr ?_;rw [cell_size] at e;have:=heap_lt H4.out;omega)
 have HBZ:=hid hbz;clear hkW hcc hqq hbF' hB1F hB2F hdl hcm;by_cases hMz:M=z
 ·subst hMz;go_enter Tryz.func126,Tryz.ntmps126;go_wp2_with fail;refine (pwwrite_any p M n _ F' c' (q+j) i _ _ _ HPW.out (by have:=HQQ.out;omega) HI.out.2.2.2 (by have:=HQQ.out;omega) HSL.out (fun x hx=>by injection hx with hx;rw [←hx];exact HB.out.1) HDL.out HBD.out).mono ?_;rintro e w2 ⟨rfl,F2,hs,hd⟩;have HST:=hid hs;have HD2:=hid hd;clear hs hd;go_wp2_with fail;go_ret;have ha0:a=0:=by have:=HI.out;have:=HG.out;omega
  exact ⟨rfl,HEND.out w2 F2 (c'+1) HST.out (by omega) (by rw [ha0];exact HD2.out)⟩
 ·have hMl:(M:Int)<(z:Int):=by omega
  have hzc:∀c:Nat,z≤c→a≤c∧b≤c:=fun c hc=>by omega
  have HZC:=hid hzc;clear hzc;go_enter Tryz.func126,Tryz.ntmps126;go_wp2_with fail;refine (pwread_any p z n _ F' c' (q+j) i _ HPW.out (by have:=HQQ.out;omega) HI.out.2.2.2).mono ?_;rintro e w1 ⟨v1,rfl,ho,hd,hk⟩;obtain ⟨gb,cb,rfl,hzc,hgb⟩:=own_some ho (by have:=HN.out;omega);obtain ⟨hac,hbc⟩:=HZC.out cb hzc;have hkb:Kp (fun x=>x=p) _ w1:=hk;have hpF:=HPW.out.own;have hB1:w1.heap[w0.heap.size]?=some (Obj.cells #[.pointer (some ⟨r,0,none⟩)] 78 (0,0)):=hk.blk (HKW.out.blk H8.out (by omega)) (fun e=>HB.out.2.1 (by rw [e];exact hpF));have hRg:Rg w1 r p z f k:=(H9.out.kp HKW.out (by omega)).kp hk (fun e=>by rcases HX.out.2.2.1 _ hpF with e2 | e2;exact hr (by rw [e];exact e2);omega);have C1:w1.cell? ⟨w0.heap.size,0,none⟩=some (.pointer (some ⟨r,0,none⟩)):=(blk hB1).1 0;obtain ⟨D0,_,_,_,_,_,_,_⟩:=cells4 hRg;have HO:=hid ho;have HD1:=hid hd;have HK:=hid hk;have HGB:=hid hgb;have HB1:=hid hB1;have HRG:=hid hRg;clear ho hd hk hkb hpF hB1 hRg hgb;go_wp2_with fail;obtain ⟨nw,hnw,hnw2⟩:=sl34_from gb 0 z cb b HBZ.out hzc;obtain ⟨X,hX⟩:∃X,cut (patch D (f*z+at0) (l.take (pos-at0))) (i*z) z=X:=⟨_,rfl⟩;have HXX:=hid hX;have hO:=HO.out;rw [hX] at hO;have hXl:X.length=z:=by have:=hO.1;rw [Lb_len] at this;omega
  have hcbm:cb≤maxLen:=by obtain ⟨_,_,e,_,e2⟩:=own_form hO;injection e with _ _ e;omega
  have hso:=Sl_of_own hO;have hgl:gb<w1.heap.size:=by
   rcases hO.2 with ⟨e,_⟩ | ⟨g,_,_,e,_,hg,_⟩
   ·cases e
   ·injection e with e _ _;injection e with e;injection e with e;rw [e];exact heap_lt hg
  have hs1:Sl w1 (.slice (some ⟨gb,0,none⟩) a cb) (Lb (X.take a)):=by
   rw [←Lb_take];exact Sl_pre hso (by rw [Lb_len,hXl];have:=HN.out;omega)
  have hs2:Sl w1 (.slice (some ⟨bb,bo+(pos-at0),none⟩) M cap) (Lb (cut l (pos-at0) M)):=
   Sl_kp HSL.out HK.out (fun x hx e=>by injection hx with hx;subst hx;exact HB.out.1 (by show F' bb;have e:bb=p:=e;rw [e];exact HPW.out.own))
  have hs3:Sl w1 (.slice (some ⟨gb,nw,none⟩) (z-b) (cb-b)) (Lb (X.drop b)):=by
   by_cases hbz:b<z
   ·rw [hnw2 hbz];have:=Sl_cut hso (lo:=b) (hi:=z) (by omega) (Nat.le_refl _);rw [Lb_take,Lb_drop,show X.take z=X by rw [←hXl];exact List.take_length] at this;exact this
   ·have e1:X.drop b=[]:=List.drop_eq_nil_of_le (by omega);have e2:z-b=0:=by omega
    rw [e1,e2];exact Sl_zero w1 gb nw (cb-b) hgl (by omega)
  have HC3:Hid (∀m t,Calls Tryz.prog 128 #[.slice (some ⟨w1.heap.size,0,none⟩) 3 3] ((w1.drewN m).alloc (Obj.cells #[.slice (some ⟨gb,0,none⟩) a cb,.slice (some ⟨bb,bo+(pos-at0),none⟩) M cap,.slice (some ⟨gb,nw,none⟩) (z-b) (cb-b)] t)) fun e w'=> ∃g c,e = .returned (.slice (some ⟨g,0,none⟩) z c)∧w1.heap.size≤g∧Sl w' (.slice (some ⟨g,0,none⟩) z c) (Lb (X.take a++(cut l (pos-at0) M++X.drop (a+M))))∧Below w1.heap.size w1 w'):=hid (by
   intro m t;have hab2:b=a+M:=HI.out.2.2.1;have g1:=HG.out.1;have hzz:=HN.out.2.2.1;have hbz:=HBZ.out;have la:(X.take a).length = a:=by rw [List.length_take];omega
   have lc:(X.drop b).length = z-b:=by rw [List.length_drop];omega
   have lb:=HDL.out;refine (concat3_any w1 _ _ _ (X.take a) (cut l (pos-at0) M) (X.drop b) ⟨gb,0,none⟩ ⟨bb,bo+(pos-at0),none⟩ ⟨gb,nw,none⟩ cb cap (cb-b) (by rw [la]) (by rw [lb]) (by rw [lc]) hs1 hs2 hs3 (by omega) (by omega) m t).mono ?_;rintro e w' ⟨v',rfl,ho,hb⟩;rw [la,lb,lc,show a+M+(z-b)=z by omega] at ho;obtain ⟨g,c,rfl,_,hg⟩:=own_some ho (by omega);rw [←hab2];exact ⟨g,c,rfl,hg,Sl_of_own ho,hb⟩)
  have hBX:Bs (X.take a++(cut l (pos-at0) M++X.drop (a+M))):=by
   have hbx:Bs X:=fun x hx=>by rw [←hX] at hx;exact HD1.out.bs x (List.mem_of_mem_drop (List.mem_of_mem_take hx))
   intro x hx;rcases List.mem_append.1 hx with h | h
   ·exact hbx x (List.mem_of_mem_take h)
   ·rcases List.mem_append.1 h with h | h
    ·exact HBD.out x h
    ·exact hbx x (List.mem_of_mem_drop h)
  have HBX:=hid hBX;have HXL:=hid hXl;clear hs1 hs2 hs3 hX hO hso hBX hXl hcbm hnw2 hgl;go_region_held_law (fun w'=>True∧True) (exact ⟨trivial,trivial⟩) ((go_at_call 128;refine (HC3.out 1 _).mono ?_;rintro e w3 ⟨g3,c3,rfl,q1,q2,q3⟩;have Q1:=hid q1;have Q2:=hid q2;have Q3:=hid q3;clear q1 q2 q3))
  all_goals
   have HPW3:=hid (HD1.out.new Q3.out);have hB3:w3.heap[w0.heap.size]?=some (Obj.cells #[.pointer (some ⟨r,0,none⟩)] 78 (0,0)):=Bl.blk Q3.out HB1.out;have hR3:Rg w3 r p z f k:=HRG.out.new Q3.out;have C3:w3.cell? ⟨w0.heap.size,0,none⟩=some (.pointer (some ⟨r,0,none⟩)):=(blk hB3).1 0;obtain ⟨E0,_,_,_,_,_,_,_⟩:=cells4 hR3;clear hB3 hR3;go_wp2_with fail;refine (pwwrite_any p z n _ F' (c'+1) (q+j) i _ _ _ HPW3.out (by have:=HQQ.out;omega) HI.out.2.2.2 (by have:=HQQ.out;omega) Q2.out (fun x hx e=>?_) ?_ HBX.out).mono ?_
   ·injection hx with hx;subst hx;have:=HD1.out.flt g3 e;have:=Q1.out;omega
   ·rw [List.length_append,List.length_append,List.length_take,List.length_drop,HDL.out,HXL.out];have:=HI.out;have:=HBZ.out;omega
   rintro e w4 ⟨rfl,F2,hs,hd⟩;have HST:=hid hs;have HD2:=hid hd;clear hs hd;go_wp2_with fail;go_ret;refine ⟨rfl,HEND.out w4 F2 (c'+1+1) ?_ (by omega) ?_⟩
   ·have e1:Step F' F' (w.setCell ⟨w0.heap.size+1,0,none⟩ (.slice (some ⟨bb,no,none⟩) (R-M) (cap-M))) w1:=⟨HK.out.mono (fun x hx=>by rw [hx];exact HPW.out.own),fun x hx=>Or.inl hx,HD1.out.flt⟩;exact (e1.below Q3.out).trans HST.out
   ·have hd:=HD2.out;have hab2:b=a+M:=HI.out.2.2.1;have hbz:=HBZ.out;have hpl:=HD1.out.len;have hin:i<n:=HI.out.2.2.2;rw [←HXX.out] at hd;have e9:=patch_sector (B:=patch D (f*z+at0) (l.take (pos-at0))) (b:=cut l (pos-at0) M) (q:=i*z) (a:=a) (n:=z) (by rw [HDL.out];omega) (by rw [hpl];have:(i+1)*z≤n*z:=Nat.mul_le_mul_right _ hin;rw [Nat.add_mul] at this;omega);rw [HDL.out] at e9;rw [e9] at hd;exact hd
theorem rwrite_any (r p z f k n:Nat)(D:List Nat)(F:Nat→Prop)(c q at0:Nat)(v:Value)(l:List Nat)(w:World)(h:Rg w r p z f k)(hp:Pw w p z n D F c q)(hr:¬F r)(hc:c+10000000<1000000000)(hq:q+10001<100000)(hfk:f+k≤n)(hin:at0+l.length≤k*z)(hv:Sl w v (Lb l))(hvF:∀b,v.ownBlock=some b→ ¬F b)(h0:0<l.length)(hlb:Bs l):
 Calls Tryz.prog 70 #[.pointer (some ⟨r,0,none⟩),.int .i64 at0,v] w fun e w'=>e = .returned (.int .i64 0)∧ ∃F' j c',Step F F' w w'∧Pw w' p z n (patch D (f*z+at0) l) F' c' (q+j)∧c'≤c+2*j∧j≤l.length / z+2:=by
 have hmf:∀(fn:Fn) (first cap:Array Value) (w:World),(Instr.makeFunc fn first cap).run Tryz.prog w = .ok (.func fn first cap) w:=fun _ _ _ _=>rfl
 have hz:=hp.hz;have hn96:=hp.n96;have hkz:k*z≤96*4096:=Nat.mul_le_mul (by omega) hz.2;obtain ⟨K,hK⟩:∃K,k*z=K:=⟨_,rfl⟩;obtain ⟨va,vc,rfl,hvc⟩:=Sl_form hv h0;have hvm:vc≤maxLen:=by obtain ⟨_,_,e,_,e2⟩:=Sl_partsB hv;injection e with _ _ e;omega
 obtain ⟨bb,bo,hva,hbb,_⟩:=Sl_cellB (k:=0) hv h0;injection hva with hva;subst hva;have hbF:¬F bb:=hvF bb rfl;have hnews:∀j u,(Lb l)[j]?=some u→w.cell? ⟨bb,bo+j,none⟩=some u:=fun j u hj=>by have:=Sl_news hv j u hj;rw [addr_add] at this;exact this
 have N:=new2 w (Obj.cells #[.pointer (some ⟨r,0,none⟩)] 78) (Obj.cells #[.slice (some ⟨bb,bo,none⟩) l.length vc] 34);have HN:=hid N;have HR:=hid h;have HR1:=hid (h.new N.2.2.2);have HP:=hid hp;have HZ:=hid hz;have HI:=hid hin;have HK:=hid hK;have HKB:Hid (K<1000000000):=hid (by omega);have HB:Hid (at0≤1000000∧l.length≤1000000∧f≤1000):=hid (by omega);have HC:=hid (And.intro hc (And.intro hq (And.intro hvc (And.intro hvm hbb))));have HFK:=hid hfk;have HNW:=hid hnews;have HLB:=hid hlb;have HRL:=hid (heap_lt h);clear h hp hz hn96 hkz hin hK N hc hfk hq hvc hvm hnews hlb hv hbb;go_enter Tryz.func70,Tryz.ntmps70;go_wp2_with fail;refine (rmade_any r p z f k _ HR1.out).mono ?_;rintro e w' ⟨rfl,rfl⟩;go_wp2_with fail;go_quiet ((go_at_call 124;exact Calls.quiet_of ((holds_any r p z f k K at0 l.length _ (HR1.out.new (below_drewN (Below.refl _ _) _)) HK.out HKB.out (by rw [←HK.out];exact HI.out)).mono (fun _ _ ⟨m,h1,h2⟩=>⟨h1,m,h2⟩))))
 go_wp2_with fail;have hb2:Below w.heap.size w (((w.alloc (Obj.cells #[.pointer (some ⟨r,0,none⟩)] 78)).alloc (Obj.cells #[.slice (some ⟨bb,bo,none⟩) l.length vc] 34)).drewN nq):=below_drewN HN.out.2.2.2 nq;have hA:(((w.alloc (Obj.cells #[.pointer (some ⟨r,0,none⟩)] 78)).alloc (Obj.cells #[.slice (some ⟨bb,bo,none⟩) l.length vc] 34)).drewN nq).heap[w.heap.size]?=some (Obj.cells #[.pointer (some ⟨r,0,none⟩)] 78 (0,0)):=HN.out.1;have hB:(((w.alloc (Obj.cells #[.pointer (some ⟨r,0,none⟩)] 78)).alloc (Obj.cells #[.slice (some ⟨bb,bo,none⟩) l.length vc] 34)).drewN nq).heap[w.heap.size+1]?=some (Obj.cells #[.slice (some ⟨bb,bo,none⟩) l.length vc] 34 (0,0)):=HN.out.2.1;revert hb2 hA hB
 generalize (((w.alloc (Obj.cells #[.pointer (some ⟨r,0,none⟩)] 78)).alloc (Obj.cells #[.slice (some ⟨bb,bo,none⟩) l.length vc] 34)).drewN nq)=W;intro hb2 hA hB;have HW:=hid hb2;have HA:=hid hA;have HB9:=hid hB;have k1:W.cell? ⟨w.heap.size,0,none⟩=some (.pointer (some ⟨r,0,none⟩)):=(blk hA).1 0;have k2:W.cell? ⟨w.heap.size+1,0,none⟩=some (.slice (some ⟨bb,bo,none⟩) l.length vc):=(blk hB).1 0;have HCALL:Hid (∀m,Calls Tryz.prog 125 #[.pointer (some ⟨r,0,none⟩),.int .i64 at0,.int .i64 l.length,.func (.func 126) #[] #[.pointer (some ⟨w.heap.size+1,0,none⟩),.pointer (some ⟨w.heap.size,0,none⟩)]] (W.drewN m) fun e w'=>e = .returned (.int .i64 0)∧WrI w r p z f k n D F c q at0 l bb bo (at0+l.length) w'):=hid (by
  intro m;refine each_any r f z at0 l.length 126 (w.heap.size+1) w.heap.size _ (fun pos w'=>WrI w r p z f k n D F c q at0 l bb bo pos w') HZ.out HB.out.2.2 HB.out.1 HB.out.2.1 (Or.inr rfl) ?_ ?_ ?_
  ·intro pos w' hI;obtain ⟨c0,_,c1,_,c2,_,c3,_⟩:=cells4 hI.rg;exact ⟨c3,c1⟩
  ·intro pos w' hI g0 g1 i a b hi ha hb;exact write1_any w r p z f k n D F c q at0 l bb bo pos w' hI HP.out.len HC.out.1 HC.out.2.1 HFK.out HI.out HP.out.flt hr HRL.out HC.out.2.2.2.2 hbF HLB.out HNW.out g0 g1 i a b hi ha hb
  ·have hb3:=below_drewN HW.out m;refine ⟨⟨F,.slice (some ⟨bb,bo,none⟩) l.length vc,0,c,?_,by omega,Or.inl ⟨rfl,rfl⟩,HB9.out,fun _=>⟨l.length,vc,?_,?_,HC.out.2.2.1,HC.out.2.2.2.1⟩,fun x hx=>Or.inl hx,fun x hx=>Nat.lt_of_lt_of_le (HP.out.flt x hx) hb3.size⟩,HA.out,HR.out.new hb3,Kp.of_new hb3⟩
   ·rw [Nat.sub_self,List.take_zero,patch_nil];exact HP.out.new hb3
   ·rw [Nat.sub_self,Nat.add_zero]
   ·rw [Nat.sub_self,Nat.sub_zero])
 clear hb2 hA hB hmf;have hmf2:∀(w':World),(Instr.makeFunc (Fn.func 126) #[] #[.pointer (some ⟨w.heap.size+1,0,none⟩),.pointer (some ⟨w.heap.size,0,none⟩)]).run Tryz.prog w' = .ok (.func (.func 126) #[] #[.pointer (some ⟨w.heap.size+1,0,none⟩),.pointer (some ⟨w.heap.size,0,none⟩)]) w':=fun _=>rfl
 go_still_tail 7,(by kernel_rfl)
 have hc1:Calls Tryz.prog 125 #[.pointer (some ⟨r,0,none⟩),.int .i64 at0,.int .i64 l.length,.func (.func 126) #[] #[.pointer (some ⟨w.heap.size+1,0,none⟩),.pointer (some ⟨w.heap.size,0,none⟩)]] W.drew fun e w'=>e = .returned (.int .i64 0)∧WrI w r p z f k n D F c q at0 l bb bo (at0+l.length) w':=HCALL.out 1
 have HC1:=hid hc1;clear hc1;change wpList _ _ _ _ _ W.drew
 generalize W.drew=W2 at HC1 ⊢;go_wp2_with fail;refine HC1.out.mono ?_;rintro e w2 ⟨rfl,hI⟩;have HI2:=hid hI;clear hI;go_wp2_with fail;go_ret;obtain ⟨⟨F',v,j,c',y1,y2,y3,y4,y5,y6,y7⟩,y8,y9,y10⟩:=HI2.out;rw [Nat.add_sub_cancel_left,List.take_length] at y1;refine ⟨rfl,F',j,c',⟨y10,fun x hx=>?_,y7⟩,y1,y2,steps_end (by have:=HZ.out;omega) y3⟩;rcases y6 x hx with e | e
 ·exact Or.inl e
 ·exact Or.inr (by omega)
def markL:List Nat:=[71,65,78,71]
def hd28 (g c n s:Nat):List Nat:=markL++le g 8++le c 8++le n 4++le s 4
def hd32 (g c n s:Nat):List Nat:=hd28 g c n s++le (crcF (hd28 g c n s)) 4
theorem hd28_len (g c n s:Nat):(hd28 g c n s).length = 28:=by unfold hd28;simp [le_len,markL]
theorem hd32_len (g c n s:Nat):(hd32 g c n s).length = 32:=by unfold hd32;rw [List.length_append,hd28_len,le_len]
theorem mark_bytes:Bs markL:=by intro x hx;simp [markL] at hx;omega
theorem hd28_bytes (g c n s:Nat):Bs (hd28 g c n s):=Bs_app (Bs_app (Bs_app (Bs_app mark_bytes (le_bytes _ _)) (le_bytes _ _)) (le_bytes _ _)) (le_bytes _ _)
theorem hd32_bytes (g c n s:Nat):Bs (hd32 g c n s):=Bs_app (hd28_bytes _ _ _ _) (le_bytes _ _)
def hdV (g c n s:Nat):Array Value:=#[.int .u64 g,.int .u64 c,.int .i64 n,.int .u32 s]
theorem hmay_any (g c n s:Nat)(w:World):Calls Tryz.prog 121 #[.agg (hdV g c n s)] w fun e w'=>e = .returned (.bool (decide (0<g) && decide (n≤67108864)))∧Below w.heap.size w w':=by
 unfold hdV;have hb:=(new1 w (.cells #[.int .u64 g,.int .u64 c,.int .i64 n,.int .u32 s] 88)).2.2;by_cases hg:0<g
 ·have d1:decide ((g:Int)>0)=true:=by simp;omega
  have d1':decide ((0:Int)<(g:Int))=true:=by simp;omega
  by_cases hn:n≤67108864
  ·have d2:decide ((n:Int)≤67108864)=true:=by simp;omega
   have hr:(decide (0<g) && decide (n≤67108864))=true:=by simp [hg,hn]
   rw [hr];clear hr;go_enter Tryz.func121,Tryz.ntmps121;go_wp2;go_ret;exact ⟨rfl,hb⟩
  ·have d2:decide ((n:Int)≤67108864)=false:=by simp;omega
   have hr:(decide (0<g) && decide (n≤67108864))=false:=by simp [hn]
   rw [hr];clear hr;go_enter Tryz.func121,Tryz.ntmps121;go_wp2;go_ret;exact ⟨rfl,hb⟩
 ·obtain rfl:g=0:=by omega
  have hr:(decide (0<0) && decide (n≤67108864))=false:=by simp
  rw [hr];clear hr;go_enter Tryz.func121,Tryz.ntmps121;go_wp2;go_ret;exact ⟨rfl,hb⟩
theorem conv34 (w:World)(C:Array Value)(n c b:Nat)(hb:b=w.heap.size):(convert 34 34 (.slice (some ⟨b,0,none⟩) n c)).run Tryz.prog (w.alloc (.cells C 5)) = .ok (.slice (some ⟨b,0,none⟩) n c) (w.alloc (.cells C 5 (C.size,C.size+1))):=by
 subst hb;exact Go.Lib.run_convert_bytes_const (P:=Tryz.prog) w 34 5 C n c Tryz.underlying34 Tryz.underlying5
theorem Sl_marked {w:World}{b n:Nat}{C:Array Value}{t:TypeId}{fr:Nat×Nat}{xs:List Value}(h:w.heap[b]?=some (.cells C t fr))(hx:C.toList=xs)(hn:n=xs.length)(hm:n≤maxLen):Sl w (.slice (some ⟨b,0,none⟩) n n) xs:=by
 subst hn;refine ⟨_,_,rfl,Nat.le_refl _,hm,Or.inr ⟨b,0,rfl,heap_lt h,fun j u hj=>?_⟩⟩;rw [Nat.zero_add,cell_of_row w b j C t _ h,←hj,←hx];simp
theorem header_any (g c n s:Nat)(w:World)(hg0:0<g)(hg:g<18446744073709551616)(hc:c<18446744073709551616)(hn:n≤67108864)(hs:s<4294967296)(hT:Tab w):
 Calls Tryz.prog 68 #[.agg (hdV g c n s)] w fun e w'=> ∃v',e = .returned (.tuple #[v',.int .i64 0])∧w'.ownsRow w.heap.size 5 1 v' 32 (Lb (hd32 g c n s))∧Below w.heap.size w w':=by
 have hm:=hmay_any g c n s (w.alloc (.cells #[.int .u64 g,.int .u64 c,.int .i64 n,.int .u32 s] 88));rw [show (decide (0<g) && decide (n≤67108864))=true by simp [hg0,hn]] at hm;unfold hdV at hm ⊢;have HM:=hid hm;have HG:=hid hg;have HC:=hid hc;have HS:=hid hs;have HT:=hid hT;have N:=new1 w (.cells #[.int .u64 g,.int .u64 c,.int .i64 n,.int .u32 s] 88);have HN:=hid N;have hw2:IntKind.u32.wrap (n:Int)=(n:Int):=by rw [IntKind.wrap_u32];omega
 clear hm hg hc hs hT N;have hcv:=conv34;go_enter Tryz.func68,Tryz.ntmps68;go_wp2_with fail;refine HM.out.mono ?_;rintro e w1 ⟨rfl,hb⟩;have hP:=Bl.blk hb HN.out.1;have HB:=hid (HN.out.2.2.trans (hb.mono HN.out.2.2.size));have HL:=hid (show w.heap.size<w1.heap.size by have:=hb.size;have:=HN.out.2.1;omega);have HP:=hid hP;clear hb hP;go_wp2_with fail;have hW:=Wr.new w1;have hP0:(w1.alloc (.cells #[.slice none 0 0] 127)).heap[w.heap.size]?=some (.cells #[.int .u64 g,.int .u64 c,.int .i64 n,.int .u32 s] 88 (0,0)):=by
  rw [heap_alloc_old (h:=HL.out)];exact HP.out
 have N2:=new1 w1 (.cells #[.slice none 0 0] 127);have N3:=new1 (w1.alloc (.cells #[.slice none 0 0] 127)) (.cells #[.int .u8 71,.int .u8 65,.int .u8 78,.int .u8 71] 5 (4,5));obtain ⟨w0,hw0⟩:∃w0,(w1.alloc (.cells #[.slice none 0 0] 127)).alloc (.cells #[.int .u8 71,.int .u8 65,.int .u8 78,.int .u8 71] 5 (4,5))=w0:=⟨_,rfl⟩;rw [hw0] at N3 ⊢;rw [N2.2.1] at N3;have hP1:=Bl.blk (N3.2.2.mono (by omega) |>.mono (Nat.le_refl _) |> fun h=>(show Below (w1.alloc (.cells #[.slice none 0 0] 127)).heap.size _ w0 by rw [N2.2.1];exact h)) hP0;have hW0:=hW.below N3.2.2 (by rw [N2.2.1];exact Nat.le_refl _);have hB0:Below w1.heap.size w1 w0:=N2.2.2.trans (N3.2.2.mono (by omega));have hbs:Sl w0 (.slice (some ⟨w1.heap.size+1,0,none⟩) 4 4) (Lb markL):=
  Sl_marked N3.1 rfl rfl (by unfold maxLen;omega)
 have HW0:=hid hW0;have HP1:=hid hP1;have HB0:=hid hB0;have HBS:=hid hbs;have HSZ:=hid (show w0.heap.size=w1.heap.size+2 by rw [N3.2.1]);have HTW:=hid ((HT.out.below HB.out HT.out.size).below hB0 (by have:=HT.out.size;have:=HL.out;omega));have cell0:∀w2:World,Kp (· = w1.heap.size) w0 w2→w2.cell? ⟨w.heap.size,0,none⟩=some (.int .u64 g)∧w2.cell? ⟨w.heap.size,1,none⟩=some (.int .u64 c)∧w2.cell? ⟨w.heap.size,2,none⟩=some (.int .i64 n)∧w2.cell? ⟨w.heap.size,3,none⟩=some (.int .u32 s):=by
  intro w2 hk;have h1:=hk.blk HP1.out (by have:=HL.out;omega);exact ⟨(blk h1).1 0,(blk h1).1 1,(blk h1).1 2,(blk h1).1 3⟩
 have CELL:=hid cell0;clear cell0 hW hP0 N2 N3 hw0 hP1 hW0 hB0 hbs;go_wp2_with fail;refine (put_any _ [] markL _ _ HW0.out HBS.out (by decide) (by decide)).mono ?_;rintro o w2 ⟨rfl,h1,h2⟩;have HW2:=hid h1;have HK2:=hid h2;obtain ⟨k0,k1,k2,k3⟩:=CELL.out _ HK2.out;clear h1 h2;go_wp2_with fail;refine (eight_any _ _ g _ HW2.out HG.out (by decide)).mono ?_;rintro o w3 ⟨rfl,h1,h2⟩;have HW3:=hid h1;have HK3:=hid (HK2.out.trans h2);clear h1 h2 k0 k1 k2 k3;obtain ⟨k0,k1,k2,k3⟩:=CELL.out _ HK3.out;go_wp2_with fail;refine (eight_any _ _ c _ HW3.out HC.out (by simp [le_len,markL])).mono ?_;rintro o w4 ⟨rfl,h1,h2⟩;have HW4:=hid h1;have HK4:=hid (HK3.out.trans h2);clear h1 h2 k0 k1 k2 k3;obtain ⟨k0,k1,k2,k3⟩:=CELL.out _ HK4.out;go_wp2_with fail;refine (four_any _ _ n _ HW4.out (by omega) (by simp [le_len,markL])).mono ?_;rintro o w5 ⟨rfl,h1,h2⟩;have HW5:=hid h1;have HK5:=hid (HK4.out.trans h2);clear h1 h2 k0 k1 k2 k3;obtain ⟨k0,k1,k2,k3⟩:=CELL.out _ HK5.out;go_wp2_with fail;refine (four_any _ _ s _ HW5.out HS.out (by simp [le_len,markL])).mono ?_;rintro o w6 ⟨rfl,h1,h2⟩;have HW6:=hid (show Wr w6 w1.heap.size (hd28 g c n s) from h1);have HK6:=hid (HK5.out.trans h2);clear h1 h2 k0 k1 k2 k3;go_wp2_with fail;refine (out_any _ _ _ HW6.out (by rw [hd28_len];omega)).mono ?_;rintro o w7 ⟨v7,rfl,h1,h2⟩;have HO7:=hid h1;have HB7:=hid h2;clear h1 h2;have HK7:=hid (HK6.out.trans (Kp.of_below HB7.out (Nat.le_refl _)));go_wp2_with fail;refine (sum_any _ (hd28 g c n s) _ (Sl_of_own HO7.out) (hd28_bytes _ _ _ _) (HTW.out.kp HK7.out (by have:=HT.out.size;have:=HL.out;omega))).mono ?_;rintro o w8 ⟨rfl,hw⟩;obtain rfl:=hw;go_wp2_with fail;refine (four_any _ _ (crcF (hd28 g c n s)) _ (HW6.out.below HB7.out (Nat.le_refl _)) (crcF_lt _) (by rw [hd28_len];omega)).mono ?_;rintro o w9 ⟨rfl,h1,h2⟩;have HW9:=hid (show Wr w9 w1.heap.size (hd32 g c n s) from h1);have HK9:=hid (HK7.out.trans h2);clear h1 h2;go_wp2_with fail;refine (out_any _ _ _ HW9.out (by rw [hd32_len];omega)).mono ?_;rintro o wa ⟨va,rfl,h1,h2⟩;have HOa:=hid h1;have HBa:=hid h2;clear h1 h2;go_wp2_with fail;go_ret2;have hk:Below w.heap.size w w9:=(HB.out.trans (HB0.out.mono HB.out.size)).trans ((HK9.out.below (B:=w.heap.size) (by have:=HSZ.out;have:=HL.out;omega) (fun i hi=>by have:=HL.out;omega)));have ho:=HOa.out;rw [hd32_len] at ho;exact ⟨_,rfl,own_mono ho hk.size,hk.trans (HBa.out.mono hk.size)⟩
end
end Go.Proofs.YtdjiopacieadpaaGreatDoor

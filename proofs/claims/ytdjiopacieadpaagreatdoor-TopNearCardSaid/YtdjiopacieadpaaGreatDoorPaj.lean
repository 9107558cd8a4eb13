/- TopNear: part Paj: HpE HpF HpG HpH HpI HpJ HpK HpL HpM. -/
import Derived.Test.YtdjiopacieadpaaGreatDoorPai
set_option linter.unusedVariables false
set_option linter.unusedSimpArgs false
set_option maxRecDepth 8000
set_option maxHeartbeats 8000000
namespace Go.Proofs.YtdjiopacieadpaaGreatDoor
section
open Go.RowKit
def Fqm (q mb:Nat):Nat→Prop:=fun b=>b=q∨b=mb
theorem swap_any (p q mb cap nx n i j:Nat)(L:List HeapPlain.It)(pl:Nat→Option Nat)(w:World)(h:Hp w p q mb cap nx n L pl)(hi:i<L.length)(hj:j<L.length)(hij:i≠j)(hn:n+2<1000000000)(hbd:∀x∈L,x.2.2<1000000000000):
 Calls Tryz.prog 224 #[.pointer (some ⟨p,0,none⟩),.int .i64 i,.int .i64 j] w fun e w'=>e = .returned (.tuple #[])∧Hp w' p q mb cap nx (n+2) (HeapPlain.sw L i j) (HeapPlain.upd (HeapPlain.upd pl (HeapPlain.ge L j).2.2 i) (HeapPlain.ge L i).2.2 j)∧Kp (Fqm q mb) w w':=by
 have hgi:(HeapPlain.ge L i).2.2<1000000000000:=hbd _ (List.mem_of_getElem? (HeapPlain.of_ge hi));have hgj:(HeapPlain.ge L j).2.2<1000000000000:=hbd _ (List.mem_of_getElem? (HeapPlain.of_ge hj));obtain ⟨c0,f0,c1,f1,c2,f2,_⟩:=cells4 h.hd;obtain ⟨a0,a1,a2⟩:=h.cells hi;obtain ⟨b0,b1,b2⟩:=h.cells hj;obtain ⟨X,hX,hl⟩:=h.row;have fz:∀z,w.frozen? ⟨q,z,none⟩=false:=(blk hX).2.1;have e0:=fz (i*3);have e1:=fz (i*3+1);have e2:=fz (i*3+2);have g0:=fz (j*3);have g1:=fz (j*3+1);have g2:=fz (j*3+2);have hpq:p≠q:=ty_ne h.hd hX (by decide);have hqp:q≠p:=fun e=>hpq e.symm
 have hsw:Hp ((((((w.setCell ⟨q,i*3,none⟩ (.int .i64 ((HeapPlain.ge L j).1:Int))).setCell ⟨q,i*3+1,none⟩ (.int .u32 ((HeapPlain.ge L j).2.1:Int))).setCell ⟨q,i*3+2,none⟩ (.int .i64 ((HeapPlain.ge L j).2.2:Int))).setCell ⟨q,j*3,none⟩ (.int .i64 ((HeapPlain.ge L i).1:Int))).setCell ⟨q,j*3+1,none⟩ (.int .u32 ((HeapPlain.ge L i).2.1:Int))).setCell ⟨q,j*3+2,none⟩ (.int .i64 ((HeapPlain.ge L i).2.2:Int))).drew p q mb cap nx n (HeapPlain.sw L i j) pl:=
  ((h.put hi (HeapPlain.ge L j)).put (i:=j) (by rw [List.length_set];exact hj) (HeapPlain.ge L i)).drew
 have hkp:Kp (Fqm q mb) w ((((((w.setCell ⟨q,i*3,none⟩ (.int .i64 ((HeapPlain.ge L j).1:Int))).setCell ⟨q,i*3+1,none⟩ (.int .u32 ((HeapPlain.ge L j).2.1:Int))).setCell ⟨q,i*3+2,none⟩ (.int .i64 ((HeapPlain.ge L j).2.2:Int))).setCell ⟨q,j*3,none⟩ (.int .i64 ((HeapPlain.ge L i).1:Int))).setCell ⟨q,j*3+1,none⟩ (.int .u32 ((HeapPlain.ge L i).2.1:Int))).setCell ⟨q,j*3+2,none⟩ (.int .i64 ((HeapPlain.ge L i).2.2:Int))).drew :=
  (((((((Kp.refl (Fqm q mb) w).setCell (p:=⟨q,_,none⟩) (Or.inl rfl) _).setCell (p:=⟨q,_,none⟩) (Or.inl rfl) _).setCell (p:=⟨q,_,none⟩) (Or.inl rfl) _).setCell (p:=⟨q,_,none⟩) (Or.inl rfl) _).setCell (p:=⟨q,_,none⟩) (Or.inl rfl) _).setCell (p:=⟨q,_,none⟩) (Or.inl rfl) _).drew
 have hLsw:(HeapPlain.sw L i j).length = L.length:=HeapPlain.sw_len L i j;have hswi:HeapPlain.ge (HeapPlain.sw L i j) i=HeapPlain.ge L j:=by rw [HeapPlain.sw_ge hi hj,if_neg hij,if_pos rfl]
 have hswj:HeapPlain.ge (HeapPlain.sw L i j) j=HeapPlain.ge L i:=by rw [HeapPlain.sw_ge hi hj,if_pos rfl]
 have HSW:=hid hsw;have HKP:=hid hkp;have HLS:=hid hLsw;have HSI:=hid hswi;have HSJ:=hid hswj;have hiI:(i:Int)<(L.length:Int):=by omega
 have hjI:(j:Int)<(L.length:Int):=by omega
 have hcp:=h.cp;clear h hX hl hsw hkp hLsw hswi hswj hbd fz;generalize HeapPlain.sw L i j=L2 at *;generalize HeapPlain.ge L i=x at *;generalize HeapPlain.ge L j=y at *;obtain ⟨xu,xi,xh⟩:=x;obtain ⟨yu,yi,yh⟩:=y;generalize hk:L.length=k at *;go_enter Tryz.func224,Tryz.ntmps224;go_wp2_with fail;go_cut [] (fun wc=>Hp wc p q mb cap nx n L2 pl∧Kp (Fqm q mb) w wc)
 case first=>
  go_region
  all_goals
   go_wp2_with fail;go_meet
   exact ⟨HSW.out,HKP.out⟩
 case rest=>
  obtain ⟨h2,k2⟩:=hcut;obtain ⟨w3,r3,h3,k3⟩:=h2.drew.told (by omega) (a:=yh) (i:=i) hgj;obtain ⟨m0,_,m1,_,m2,_⟩:=cells4 h2.hd;obtain ⟨_,_,n2⟩:=h2.cells (i:=i) (by rw [HLS.out];exact hi);rw [HSI.out] at n2;rw [HLS.out] at m1;have H3:=hid h3;have K3:=hid k3;have K2:=hid k2;clear h2 k2 h3 k3 a0 a1 a2 b0 b1 b2 c0 c1 c2 f0 f1 f2 e0 e1 e2 g0 g1 g2;go_wp2_with fail;go_cut [] (fun wd=>Hp wd p q mb cap nx (n+1) L2 (HeapPlain.upd pl yh i)∧Kp (Fqm q mb) w wd)
  case first=>
   go_region
   all_goals
    go_wp2_with fail;go_meet
    exact ⟨H3.out,K2.out.drew.trans (K3.out.mono (fun b hb=>Or.inr hb))⟩
  case rest=>
   obtain ⟨h2,k2⟩:=hcut;obtain ⟨w4,r4,h4,k4⟩:=h2.drew.told (by omega) (a:=xh) (i:=j) hgi;obtain ⟨m0,_,m1,_,m2,_⟩:=cells4 h2.hd;obtain ⟨_,_,n2⟩:=h2.cells (i:=j) (by rw [HLS.out];exact hj);rw [HSJ.out] at n2;rw [HLS.out] at m1;have H4:=hid h4;have K4:=hid k4;have K2':=hid k2;clear h2 k2 h4 k4;go_wp2_with fail;go_region
   all_goals
    go_wp2_with fail;go_end0
    exact ⟨rfl,H4.out,K2'.out.drew.trans (K4.out.mono (fun b hb=>Or.inr hb))⟩
structure Sd (w wr:World)(p q mb cap nx:Nat)(L0:List HeapPlain.It)(n:Nat)(L:List HeapPlain.It)(pl:Nat→Option Nat):Prop where
 hp:Hp wr p q mb cap nx n L pl
 ps:HeapPlain.Pl L pl
 mem:∀x,x∈L↔x∈L0
 len:L.length=L0.length
 kp:Kp (Fqm q mb) w wr
theorem Sd.new {w wr w':World}{p q mb cap nx n:Nat}{L0 L:List HeapPlain.It}{pl:Nat→Option Nat}(h:Sd w wr p q mb cap nx L0 n L pl)(hb:Below wr.heap.size wr w'):Sd w w' p q mb cap nx L0 n L pl:=
 ⟨h.hp.new hb,h.ps,h.mem,h.len,h.kp.trans (Kp.of_new hb)⟩
theorem Sd.swap {w wr:World}{p q mb cap nx n:Nat}{L0 L:List HeapPlain.It}{pl:Nat→Option Nat}(h:Sd w wr p q mb cap nx L0 n L pl){i j:Nat}(hi:i<L0.length)(hj:j<L0.length)(hij:i≠j)(hn:n+2<1000000000)(hbd:∀x∈L0,x.2.2<1000000000000):
 Calls Tryz.prog 224 #[.pointer (some ⟨p,0,none⟩),.int .i64 i,.int .i64 j] wr fun e w'=>e = .returned (.tuple #[])∧ ∃pl',Sd w w' p q mb cap nx L0 (n+2) (HeapPlain.sw L i j) pl':=by
 have hi':i<L.length:=by rw [h.len];exact hi
 have hj':j<L.length:=by rw [h.len];exact hj
 refine (swap_any p q mb cap nx n i j L pl wr h.hp hi' hj' hij hn (fun x hx=>hbd x ((h.mem x).1 hx))).mono ?_;rintro e w' ⟨rfl,h2,k2⟩;exact ⟨rfl,_,⟨h2,h.ps.sw hi' hj',fun x=>by rw [HeapPlain.sw_mem hi' hj',h.mem],by rw [HeapPlain.sw_len,h.len],h.kp.trans k2⟩⟩
theorem Sd.ahead {w wr:World}{p q mb cap nx n:Nat}{L0 L:List HeapPlain.It}{pl:Nat→Option Nat}(h:Sd w wr p q mb cap nx L0 n L pl){i j:Nat}(hi:i<L0.length)(hj:j<L0.length):
 Calls Tryz.prog 223 #[.pointer (some ⟨p,0,none⟩),.int .i64 i,.int .i64 j] wr fun e w'=>e = .returned (.bool (ltB (HeapPlain.ge L i) (HeapPlain.ge L j)))∧Sd w w' p q mb cap nx L0 n L pl:=by
 refine (ahead_any p q mb cap nx n i j L pl wr h.hp (by rw [h.len];exact hi) (by rw [h.len];exact hj)).mono ?_;rintro e w' ⟨rfl,hb⟩;exact ⟨rfl,h.new hb⟩
def Up1 (w wr:World)(p q mb cap nx n0 a0:Nat)(L0:List HeapPlain.It)(a:Nat):Prop:= ∃n L pl,Sd w wr p q mb cap nx L0 n L pl∧HeapPlain.Hb L a∧n+2*a≤n0+2*a0
def Dn1 (w wr:World)(p q mb cap nx n0:Nat)(L0:List HeapPlain.It)(a:Nat):Prop:= ∃n L pl,Sd w wr p q mb cap nx L0 n L pl∧HeapPlain.Hd L a∧n≤n0+2*L0.length+2*a
def Settled (w w':World)(p q mb cap nx n0:Nat)(L0:List HeapPlain.It):Prop:= ∃n L pl,Sd w w' p q mb cap nx L0 n L pl∧HeapPlain.Ord L∧n≤n0+4*L0.length
theorem hsettle_any (p q mb cap nx n a:Nat)(L:List HeapPlain.It)(pl:Nat→Option Nat)(w:World)(h:Hp w p q mb cap nx n L pl)(ha:a<L.length)(hb:HeapPlain.Hb L a)(hp:HeapPlain.Pl L pl)(hn:n+4*L.length+2<1000000000)(hbd:∀x∈L,x.2.2<1000000000000)(hlen:L.length≤100000):
 Calls Tryz.prog 212 #[.pointer (some ⟨p,0,none⟩),.int .i64 a] w fun e w'=>e = .returned (.tuple #[])∧Settled w w' p q mb cap nx n L:=by
 have HBD:=hid hbd;have HST:Hid (Up1 w w p q mb cap nx n a L a):=hid ⟨n,L,pl,⟨h,hp,fun _=>Iff.rfl,rfl,Kp.refl _ _⟩,hb,Nat.le_refl _⟩;clear h hb hp hbd;generalize hk:L.length=k at *;have HK:=hid hk;clear hk;go_enter Tryz.func212,Tryz.ntmps212;refine wp_seq_k ?_;intro K hK;go_cut [1] (fun s1 wx=> ∃b:Nat,s1 = .int .i64 b∧b<k∧Dn1 w wx p q mb cap nx n L b)
 case first=>
  go_wp2_with fail;go_loopw [1] (fun s1 wr=> ∃b:Nat,b≤a∧s1 = .int .i64 b∧Up1 w wr p q mb cap nx n a L b) (fun s1 _=>(intOf s1).toNat)
  case atStart=>exact ⟨a,Nat.le_refl _,rfl,HST.out⟩
  case round=>
   obtain ⟨b,hba,rfl,n1,L1,pl1,hs,hb1,hn1⟩:=hrel;have HS:=hid hs;have HB1:=hid hb1;clear hs hb1;by_cases hb0:b=0
   ·have hbI:¬(b:Int)>0:=by omega
    have HDN:Hid (Dn1 w wr p q mb cap nx n L b):=hid ⟨n1,L1,pl1,HS.out,HB1.out.done (Or.inl hb0),by rw [HK.out];omega⟩;have HB0:=hid hb0;clear hb0;go_wp2_with fail;go_meet
    exact ⟨b,rfl,by omega,HDN.out⟩
   ·have hbI:(b:Int)>0:=by omega
    have e3:(((b-1) / 2:Nat):Int)=((b:Int)-1) / 2:=by omega
    have hbk:b<L.length:=by rw [HK.out];omega
    have hck:(b-1) / 2<L.length:=by rw [HK.out];omega
    have hah:=HS.out.ahead (i:=b) (j:=(b-1) / 2) hbk hck;have hsw:=fun (w2:World) (h2:Sd w w2 p q mb cap nx L n1 L1 pl1)=>h2.swap (i:=b) (j:=(b-1) / 2) hbk hck (by omega) (by omega) HBD.out
    rw [e3] at hah hsw;have HAH:=hid hah;have HSW:=hid hsw;clear hah hsw e3;cases hlt:ltB (HeapPlain.ge L1 b) (HeapPlain.ge L1 ((b-1) / 2)) with
    | true=>
     rw [hlt] at HAH;have HLT:=hid hlt;clear hlt;go_wp2_with fail;refine HAH.out.mono ?_;rintro e w2 ⟨rfl,hs2⟩;have HC:=hid (HSW.out w2 hs2);clear hs2;go_wp2_with fail;refine HC.out.mono ?_;rintro e w3 ⟨rfl,pl3,hs3⟩;have HS3:=hid hs3;clear hs3;go_wp2_with fail;go_roundw;case rel=>
      refine ⟨(b-1) / 2,by omega,by congr 1;omega,n1+2,_,pl3,HS3.out,HB1.out.up (by omega) ?_ (of_decide_eq_true HLT.out),by omega⟩;rw [HS.out.len];exact hbk
     case measure=>simp [intOf];omega
    | false=>
     rw [hlt] at HAH;have HLT:=hid hlt;clear hlt;go_wp2_with fail;refine HAH.out.mono ?_;rintro e w2 ⟨rfl,hs2⟩;have HS2:=hid hs2;have HDN:Hid (Dn1 w w2 p q mb cap nx n L b):=hid ⟨n1,L1,pl1,hs2,HB1.out.done (Or.inr (of_decide_eq_false HLT.out)),by rw [HK.out];omega⟩;clear hs2;go_wp2_with fail;go_meet
     exact ⟨b,rfl,by omega,HDN.out⟩
 case rest=>
  obtain ⟨b0,rfl,hb0,hdn⟩:=hcut;have HDN:=hid hdn;clear hdn;go_wp2_with fail;go_loopw [1] (fun s1 wr=> ∃b:Nat,s1 = .int .i64 b∧b<k∧Dn1 w wr p q mb cap nx n L b) (fun s1 _=>k-(intOf s1).toNat)
  case atStart=>exact ⟨b0,rfl,hb0,HDN.out⟩
  case round=>
   obtain ⟨b,rfl,hbk,n1,L1,pl1,hs,hd1,hn1⟩:=hrel;have HS:=hid hs;have HD1:=hid hd1;clear hs hd1;obtain ⟨wo,rfl⟩:∃wo,wo=wr:=⟨_,rfl⟩;go_wp2_with fail;go_loopw [4,5] (fun s4 s5 wr=> ∃m c:Nat,s4 = .int .i64 m∧s5 = .int .i64 c∧2*b+1≤c∧c≤2*b+3∧Sd w wr p q mb cap nx L n1 L1 pl1∧(m=b∨((m-1) / 2=b∧0<m∧b<m))∧m<k∧HeapPlain.le (HeapPlain.ge L1 m) (HeapPlain.ge L1 b)∧ ∀c',2*b+1≤c'→c'<c→c'<k→HeapPlain.le (HeapPlain.ge L1 m) (HeapPlain.ge L1 c')) (fun _ s5 _=>2*b+3-(intOf s5).toNat)
   case atStart=>exact ⟨b,2*b+1,rfl,by congr 1,Nat.le_refl _,by omega,HS.out,Or.inl rfl,hbk,HeapPlain.le_refl _,fun c' h1 h2=>by omega⟩
   case round=>
    obtain ⟨m,c,rfl,rfl,hc1,hc2,hs2,hmb,hmk,hle,hall⟩:=hrel;obtain ⟨_,_,d1,f1,_⟩:=cells4 hs2.hp.hd;rw [hs2.len,HK.out] at d1;have HS2:=hid hs2;have HLE:=hid hle;have HALL:=hid hall;have HMB:=hid hmb;clear hs2 hle hall hmb;by_cases hin:c≤2*b+2∧c<k
    ·obtain ⟨hi1,hi2⟩:=hin;have hi1I:(c:Int)≤2*(b:Int)+2:=by omega
     have hi2I:(c:Int)<(k:Int):=by omega
     have HAH:=hid (HS2.out.ahead (i:=c) (j:=m) (by rw [HK.out];omega) (by rw [HK.out];omega));cases hlt:ltB (HeapPlain.ge L1 c) (HeapPlain.ge L1 m) with
     | true=>
      rw [hlt] at HAH;have HLT:=hid (of_decide_eq_true hlt);clear hlt;go_wp2_with fail;refine HAH.out.mono ?_;rintro e w2 ⟨rfl,hs3⟩;have HS3:=hid hs3;clear hs3;go_wp2_with fail;go_roundw;case rel=>
       have hcm:=HeapPlain.lt_le HLT.out;refine ⟨c,c+1,rfl,by go_num,by omega,by omega,HS3.out,Or.inr ⟨by omega,by omega,by omega⟩,by omega,HeapPlain.le_trans hcm HLE.out,fun c' h1 h2 h3=>?_⟩;by_cases e:c'=c
       ·subst e;exact HeapPlain.le_refl _
       ·exact HeapPlain.le_trans hcm (HALL.out c' h1 (by omega) h3)
      case measure=>simp [intOf];omega
     | false=>
      rw [hlt] at HAH;have HLT:=hid (of_decide_eq_false hlt);clear hlt;go_wp2_with fail;refine HAH.out.mono ?_;rintro e w2 ⟨rfl,hs3⟩;have HS3:=hid hs3;clear hs3;go_wp2_with fail;go_roundw;case rel=>
       refine ⟨m,c+1,rfl,by go_num,by omega,by omega,HS3.out,HMB.out,hmk,HLE.out,fun c' h1 h2 h3=>?_⟩;by_cases e:c'=c
       ·subst e;exact HLT.out
       ·exact HALL.out c' h1 (by omega) h3
      case measure=>simp [intOf];omega
    ·have hleast:HeapPlain.Least L1 b m:=⟨HLE.out,fun c' h1 h2 h3=>HALL.out c' (by omega) (by rw [HS2.out.len,HK.out] at h2;omega) (by rw [HS2.out.len,HK.out] at h2;exact h2)⟩;have HLS:=hid hleast;clear hleast;by_cases h1:c≤2*b+2
     ·have h1I:(c:Int)≤2*(b:Int)+2:=by omega
      have h2I:¬(c:Int)<(k:Int):=by omega
      clear hin h1;rcases HMB.out with hm | ⟨hm1,hm2,hm3⟩
      ·subst hm;have HE:Hid (Settled w wr p q mb cap nx n L):=hid ⟨n1,L1,pl1,HS2.out,HD1.out.done HLS.out,by rw [HK.out] at *;omega⟩;go_wp2_with fail;refine bodyPost_ret (results_none rfl _ _ _) rfl ?_;exact ⟨rfl,HE.out⟩
      ·have hne:((m:Int) == (b:Int))=false:=by simp;omega
       have HSW:=hid (HS2.out.swap (i:=b) (j:=m) (by rw [HK.out];exact hbk) (by rw [HK.out];exact hmk) (by omega) (by rw [HK.out] at hn1;omega) HBD.out);have HM:=hid (And.intro hm1 hm2);clear hm1 hm2;go_wp2_with fail;refine HSW.out.mono ?_;rintro e w2 ⟨rfl,pl3,hs3⟩;have HS3:=hid hs3;clear hs3;go_wp2_with fail;go_roundw;case rel=>
        refine ⟨m,rfl,hmk,n1+2,_,pl3,HS3.out,HD1.out.down HLS.out HM.out.2 (by rw [HS2.out.len,HK.out];exact hmk) HM.out.1,?_⟩;rw [HK.out] at hn1 ⊢;omega
       case measure=>simp [intOf];omega
     ·have h1I:¬(c:Int)≤2*(b:Int)+2:=by omega
      clear hin h1;rcases HMB.out with hm | ⟨hm1,hm2,hm3⟩
      ·subst hm;have HE:Hid (Settled w wr p q mb cap nx n L):=hid ⟨n1,L1,pl1,HS2.out,HD1.out.done HLS.out,by rw [HK.out] at *;omega⟩;go_wp2_with fail;refine bodyPost_ret (results_none rfl _ _ _) rfl ?_;exact ⟨rfl,HE.out⟩
      ·have hne:((m:Int) == (b:Int))=false:=by simp;omega
       have HSW:=hid (HS2.out.swap (i:=b) (j:=m) (by rw [HK.out];exact hbk) (by rw [HK.out];exact hmk) (by omega) (by rw [HK.out] at hn1;omega) HBD.out);have HM:=hid (And.intro hm1 hm2);clear hm1 hm2;go_wp2_with fail;refine HSW.out.mono ?_;rintro e w2 ⟨rfl,pl3,hs3⟩;have HS3:=hid hs3;clear hs3;go_wp2_with fail;go_roundw;case rel=>
        refine ⟨m,rfl,hmk,n1+2,_,pl3,HS3.out,HD1.out.down HLS.out HM.out.2 (by rw [HS2.out.len,HK.out];exact hmk) HM.out.1,?_⟩;rw [HK.out] at hn1 ⊢;omega
       case measure=>simp [intOf];omega
theorem hleast_any (p q mb cap nx n:Nat)(L:List HeapPlain.It)(pl:Nat→Option Nat)(w:World)(h:Hp w p q mb cap nx n L pl)(h0:0<L.length):Calls Tryz.prog 190 #[.pointer (some ⟨p,0,none⟩)] w fun e w'=>e = .returned (.tuple #[.agg #[.int .i64 ((HeapPlain.ge L 0).1:Int),.int .u32 ((HeapPlain.ge L 0).2.1:Int)],.int .i64 ((HeapPlain.ge L 0).2.2:Int),.bool true])∧Below w.heap.size w w':=by
 have N:=new1 w (.cells #[.int .i64 0,.int .u32 0] 214);have hA:=h.new N.2.2;have H:=hid h;have HA:=hid hA;have HN:=hid N;obtain ⟨c0,f0,c1,f1,_⟩:=cells4 hA.hd;obtain ⟨a0,a1,a2⟩:=hA.cells h0;obtain ⟨z0,z1,z2⟩:=h.cells h0;obtain ⟨y0,_,y1,_⟩:=cells4 h.hd;rw [Nat.zero_mul] at a0 z0;rw [Nat.zero_mul,Nat.zero_add] at a1 a2 z1 z2;have HNO:=hid (hnone_any p q mb cap nx n L pl _ hA);have hcp:=h.cp;have hk0:((L.length:Int) == 0)=false:=by simp;intro e;rw [e] at h0;simp at h0
 have hk1:(0:Int)<(L.length:Int):=by omega
 have hpl:=heap_lt h.hd;have hql:q<w.heap.size:=by obtain ⟨X,hX,_⟩:=h.row;exact heap_lt hX
 have b0:=(blk N.1).1 0;have b1:=(blk N.1).1 1;have g0:=(blk N.1).2.1 0;have g1:=(blk N.1).2.1 1;have hbs:=N.2.2;clear h hA N;generalize HeapPlain.ge L 0=x at *;obtain ⟨xu,xi,xh⟩:=x;generalize L.length=k at *;go_enter Tryz.func190,Tryz.ntmps190;go_wp2_with fail;refine HNO.out.mono ?_;rintro e w' ⟨rfl,rfl⟩;go_wp2_with fail;go_region
 all_goals
  go_wp2_with fail;have hb1:(w.alloc (Obj.cells #[.int .i64 xu,.int .u32 xi] 214)).drew.heap[w.heap.size]?=some (Obj.cells #[.int .i64 xu,.int .u32 xi] 214 (0,0)):=(new1 w (.cells #[.int .i64 xu,.int .u32 xi] 214)).1;refine bodyPost_ret (results_row3 rfl _ _ _ _ _ _ _ rfl hb1 Tryz.underlying214 rfl (by kernel_rfl)) rfl ⟨rfl,(new1 w (.cells #[.int .i64 xu,.int .u32 xi] 214)).2.2.drew⟩
structure HpN (w:World)(p mb nx n:Nat):Prop where
 hd:w.heap[p]?=some (Obj.cells #[.func (.func 109) #[] #[],.slice none 0 0,.map (some mb),.int .i64 nx] 260 (0,0))
 mp:Mf w .i64 3 mb n (plF fun _=>none)
def HNew (w w':World)(e:Ending):Prop:= ∃p mb,e = .returned (.pointer (some ⟨p,0,none⟩))∧HpN w' p mb 0 0∧w.heap.size≤p∧w.heap.size≤mb∧Below w.heap.size w w'
theorem hnew_any (w:World):Calls Tryz.prog 108 #[.func (.func 109) #[] #[]] w fun e w'=>HNew w w' e:=by
 have hq:=func_nil;have hm:∀w:World,(Instr.makeMap 257 none).run Tryz.prog w = .ok (.map (some w.heap.size)) (w.alloc (.map #[] 0)):=fun w=>by simp [Instr.makeMap]
 have N:=new2 w (.map #[] 0) (.cells #[.func (.func 109) #[] #[],.slice none 0 0,.map (some w.heap.size),.int .i64 0] 260);have hE:HNew w ((w.alloc (.map #[] 0)).alloc (.cells #[.func (.func 109) #[] #[],.slice none 0 0,.map (some w.heap.size),.int .i64 0] 260)) (.returned (.pointer (some ⟨w.heap.size+1,0,none⟩))):=
  ⟨w.heap.size+1,w.heap.size,rfl,⟨N.2.1,(Mf.of_block N.1).congr (fun i _=>by unfold plF;simp)⟩,by omega,Nat.le_refl _,N.2.2.2⟩
 have HE:=hid hE;clear hE N;go_enter Tryz.func108,Tryz.ntmps108;go_wp2_with fail;go_ret;exact HE.out
theorem Hp.cut {w:World}{p q mb cap nx n:Nat}{L:List HeapPlain.It}{x:HeapPlain.It}{pl:Nat→Option Nat}(h:Hp w p q mb cap nx n (L++[x]) pl):Hp (w.setCell ⟨p,1,none⟩ (.slice (some ⟨q,0,none⟩) L.length cap)) p q mb cap nx n L pl:=by
 obtain ⟨X,hX,hl⟩:=h.row;have hpq:q≠p:=fun e=>ty_ne h.hd hX (by decide) e.symm
 obtain ⟨es,c,hmb⟩:=h.mp.isMap;have hmp:mb≠p:=fun e=>by have h9:=h.hd;rw [←e,hmb] at h9;cases h9
 have hcp:=h.cp;have h1:=heap_setCell_same w p 1 _ 260 (.slice (some ⟨q,0,none⟩) L.length cap) h.hd;refine ⟨by simpa using h1,⟨itC x++X,?_,?_⟩,⟨by rw [List.length_append] at hcp;omega,hcp.2⟩,h.mp.set (p:=⟨p,1,none⟩) hmp _⟩
 ·rw [heap_setCell_ne _ _ _ hpq,hX];simp
 ·rw [←hl];simp
theorem Hp.forgot {w:World}{p q mb cap nx n:Nat}{L:List HeapPlain.It}{pl:Nat→Option Nat}(h:Hp w p q mb cap nx n L pl){a:Nat}(ha:a<1000000000000)(ty:TypeId):
 ∃w',(Builtin.delete_ #[257,3] ty #[.map (some mb),.int .i64 a]).run Tryz.prog w = .ok (.tuple #[]) w'∧Hp w' p q mb cap nx n L (HeapPlain.del pl a)∧Kp (· = mb) w w':=by
 obtain ⟨w',h1,h2,h3⟩:=h.mp.delete Tryz.underlying3 Tryz.underlying257 (i:=(a:Int)) (by simp [Lit.wf,IntKind.min,IntKind.max,IntKind.bits,IntKind.signed];omega) ty;have hk:=turned_kp h3;obtain ⟨X,hX,hl⟩:=h.row;obtain ⟨es,c,hmb⟩:=h.mp.isMap;have hmq:mb≠q:=fun e=>by rw [e,hX] at hmb;cases hmb
 have hmp:mb≠p:=fun e=>by have h9:=h.hd;rw [←e,hmb] at h9;cases h9
 exact ⟨w',h1,⟨hk.blk h.hd (fun e=>hmp e.symm),⟨X,hk.blk hX (fun e=>hmq e.symm),hl⟩,h.cp,h2.congr (fun k _=>(plF_del pl a k).symm)⟩,hk⟩
theorem Hp.where' {w:World}{p q mb cap nx n:Nat}{L:List HeapPlain.It}{pl:Nat→Option Nat}(h:Hp w p q mb cap nx n L pl){a:Nat}(ha:a<1000000000000):
 (Instr.lookup 257 (.map (some mb)) (.int .i64 a) true).run Tryz.prog w = .ok (.tuple #[.int .i64 ((pl a).getD 0:Nat),.bool (pl a).isSome]) w:=by
 have hz:∀u:World,(zeroValue 3).run Tryz.prog u = .ok (.int .i64 0) u:=fun u=>by kernel_rfl
 have h1:=(h.mp.look Tryz.underlying3 Tryz.underlying257 hz (i:=(a:Int)) (by simp [Lit.wf,IntKind.min,IntKind.max,IntKind.bits,IntKind.signed];omega)).1;rw [h1];unfold plF;cases e:pl a<;>simp [e]
theorem Hp.kp {w w':World}{p q mb cap nx n:Nat}{L:List HeapPlain.It}{pl:Nat→Option Nat}{F:Nat→Prop}(h:Hp w p q mb cap nx n L pl)(hk:Kp F w w')(h1:¬F p)(h2:¬F q)(h3:¬F mb):Hp w' p q mb cap nx n L pl:=by
 obtain ⟨X,hX,hl⟩:=h.row;exact ⟨hk.blk h.hd h1,⟨X,hk.blk hX h2,hl⟩,h.cp,h.mp.kp hk h3⟩
def Fpqm (p q mb:Nat):Nat→Prop:=fun b=>b=p∨b=q∨b=mb
def itA (x:HeapPlain.It):Value:= .agg #[.int .i64 x.1,.int .u32 x.2.1,.int .i64 x.2.2]
theorem htake_last (p q mb cap nx n:Nat)(L:List HeapPlain.It)(x:HeapPlain.It)(pl:Nat→Option Nat)(w:World)(h:Hp w p q mb cap nx n (L++[x]) pl)(hb:x.2.2<1000000000000):
 Calls Tryz.prog 213 #[.pointer (some ⟨p,0,none⟩),.int .i64 L.length] w fun e w'=>e = .returned (itA x)∧Hp w' p q mb cap nx n L (HeapPlain.del pl x.2.2)∧Kp (Fpqm p q mb) w w':=by
 obtain ⟨xu,xi,xh⟩:=x;have hlen:(L++[(xu,xi,xh)]).length = L.length+1:=by simp
 have hlt:L.length<(L++[(xu,xi,xh)]).length :=by omega
 have hge:HeapPlain.ge (L++[(xu,xi,xh)]) L.length=(xu,xi,xh):=HeapPlain.ge_of (by simp);have N:=new1 w (.cells #[.int .i64 0,.int .u32 0,.int .i64 0] 321);have hA:=h.new N.2.2;obtain ⟨c0,f0,c1,f1,c2,f2,_⟩:=cells4 hA.hd;obtain ⟨a0,a1,a2⟩:=hA.cells hlt;obtain ⟨d0,_,d1,_,d2,_⟩:=cells4 h.hd;obtain ⟨b0,b1,b2⟩:=h.cells hlt;rw [hge] at a0 a1 a2 b0 b1 b2;rw [hlen] at c1 d1;have hcp0:=h.cp;rw [hlen] at hcp0;have hcp:=hcp0.1;have hcm:cap≤9223372036854775807:=by have:=hcp0.2;unfold maxLen at this;omega
 clear hcp0;have HA:=hid hA;have HN:=hid N;have hpl:=heap_lt h.hd;have hql:q<w.heap.size:=by obtain ⟨X,hX,_⟩:=h.row;exact heap_lt hX
 have hI:(L.length:Int)<(L.length:Int)+1:=by omega
 clear h hA N hlen hge hlt;generalize hk:L.length=k at *;have HK:=hid hk;clear hk;go_enter Tryz.func213,Tryz.ntmps213;go_wp2_with fail;clear a0 a1 a2 b0 b1 b2 c0 c1 c2 d0 d1 d2 f0 f1 f2;have n1:=new1 w (.cells #[.int .i64 0,.int .u32 0,.int .i64 0] 321);have n2:=new1 (w.alloc (.cells #[.int .i64 0,.int .u32 0,.int .i64 0] 321)) (.cells #[.int .i64 xu,.int .u32 xi,.int .i64 xh] 321);have n3:=new1 ((w.alloc (.cells #[.int .i64 0,.int .u32 0,.int .i64 0] 321)).alloc (.cells #[.int .i64 xu,.int .u32 xi,.int .i64 xh] 321)) (.cells #[.int .i64 0,.int .u32 0,.int .i64 0] 321);have hb3:Below w.heap.size w (((w.alloc (.cells #[.int .i64 0,.int .u32 0,.int .i64 0] 321)).alloc (.cells #[.int .i64 xu,.int .u32 xi,.int .i64 xh] 321)).alloc (.cells #[.int .i64 0,.int .u32 0,.int .i64 0] 321)):=(n1.2.2.trans (n2.2.2.mono n1.2.2.size)).trans (n3.2.2.mono (Nat.le_trans n1.2.2.size n2.2.2.size));have hA3:=Bl.blk n3.2.2 (Bl.blk n2.2.2 n1.1);have hB3:=Bl.blk n3.2.2 n2.1;have hC3:=n3.1;rw [n1.2.1] at hB3;rw [n2.2.1,n1.2.1] at hC3;have hH3:=(HA.out.new n2.2.2).new n3.2.2;clear n1 n2 n3;generalize (((w.alloc (.cells #[.int .i64 0,.int .u32 0,.int .i64 0] 321)).alloc (.cells #[.int .i64 xu,.int .u32 xi,.int .i64 xh] 321)).alloc (.cells #[.int .i64 0,.int .u32 0,.int .i64 0] 321))=W3 at *;generalize hAe:w.heap.size=A at *;obtain ⟨c0,f0,c1,f1,c2,f2,_⟩:=cells4 hH3.hd;have hlen:(L++[(xu,xi,xh)]).length = k+1:=by simp [HK.out]
 rw [hlen] at c1;obtain ⟨a0,a1,a2⟩:=hH3.cells (i:=k) (by omega);obtain ⟨X,hX,_⟩:=hH3.row;have g0:=(blk hX).2.1 (k*3);have g1:=(blk hX).2.1 (k*3+1);have g2:=(blk hX).2.1 (k*3+2);have hpq:q≠p:=fun e=>ty_ne hH3.hd hX (by decide) e.symm
 obtain ⟨z0,_,z1,_,z2,_⟩:=cells3 hC3;have hput:=(hH3.put (i:=k) (by omega) (0,0,0));have hset:(L++[(xu,xi,xh)]).set k (0,0,0)=L++[(0,0,0)]:=by rw [←HK.out];simp
 rw [hset] at hput;have HPUT:=hid hput;have HB3:=hid hb3;have HA3:=hid hA3;have HBB:=hid hB3;clear hput hset hA3 hB3 hC3 hb3 hX hH3 hlen;go_cut [] (fun wc=>Hp wc p q mb cap nx n (L++[(0,0,0)]) pl∧wc.heap[A]?=some (Obj.cells #[.int .i64 0,.int .u32 0,.int .i64 0] 321 (0,0))∧wc.heap[A+1]?=some (Obj.cells #[.int .i64 xu,.int .u32 xi,.int .i64 xh] 321 (0,0))∧Kp (Fpqm p q mb) w wc)
 case first=>
  go_region
  all_goals
   go_wp2_with fail;go_meet
   have kq:Kp (· = q) W3 (((W3.setCell ⟨q,k*3,none⟩ (.int .i64 0)).setCell ⟨q,k*3+1,none⟩ (.int .u32 0)).setCell ⟨q,k*3+2,none⟩ (.int .i64 0)).drew :=((((Kp.refl (· = q) W3).setCell (p:=⟨q,_,none⟩) rfl _).setCell (p:=⟨q,_,none⟩) rfl _).setCell (p:=⟨q,_,none⟩) rfl _).drew;exact ⟨HPUT.out.drew,kq.blk HA3.out (by omega),kq.blk HBB.out (by omega),(Kp.of_below HB3.out (by omega)).trans (kq.mono (fun b hb=>Or.inr (Or.inl hb)))⟩
 case rest=>
  obtain ⟨h4,hA4,hB4,k4⟩:=hcut;clear c0 c1 c2 f0 f1 f2 a0 a1 a2 g0 g1 g2 z0 z1 z2;have hc4:=h4.cut;rw [HK.out] at hc4;obtain ⟨w5,r5,h5,k5⟩:=hc4.drew.forgot (a:=xh) hb 0;obtain ⟨c0,f0,c1,f1,c2,f2,_⟩:=cells4 h4.hd;have hl2:(L++[((0,0,0):HeapPlain.It)]).length = k+1:=by simp [HK.out]
  rw [hl2] at c1;obtain ⟨e0,_,e1,_,e2,_⟩:=cells4 hc4.hd;obtain ⟨es,cl,hmb⟩:=h4.mp.isMap;have hmA:mb≠A:=fun e=>by rw [e,hA4] at hmb;cases hmb
  have hmB:mb≠A+1:=fun e=>by rw [e,hB4] at hmb;cases hmb
  have hpA:A≠p:=by omega
  have hpB:A+1≠p:=by omega
  have kp5:Kp (· = p) wc (wc.setCell ⟨p,1,none⟩ (.slice (some ⟨q,0,none⟩) k cap)).drew :=((Kp.refl (· = p) wc).setCell (p:=⟨p,1,none⟩) rfl _).drew;have hA5:=k5.blk (kp5.blk hA4 hpA) (fun e=>hmA e.symm);have hB5:=k5.blk (kp5.blk hB4 hpB) (fun e=>hmB e.symm);obtain ⟨x0,x0f,x1,x1f,x2,x2f⟩:=cells3 hA5;obtain ⟨y0,_,y1,_,y2,_⟩:=cells3 hB5;obtain ⟨v0,_,v1,_,v2,_⟩:=cells3 hB4;have s1:=heap_setCell_same w5 A 0 _ 321 (.int .i64 xu) hA5;have s2:=heap_setCell_same _ A 1 _ 321 (.int .u32 xi) s1;have s3:=heap_setCell_same _ A 2 _ 321 (.int .i64 xh) s2;have H5:=hid h5;have K5:=hid (k4.trans ((kp5.mono (fun b hb=>Or.inl hb)).trans (k5.mono (fun b hb=>Or.inr (Or.inr hb)))):Kp (Fpqm p q mb) w w5);have S3:=hid s3;clear h4 hA4 hB4 k4 hc4 h5 k5 hmb kp5 hA5 hB5 s1 s2 s3 hl2;go_wp2_with fail;go_region
  all_goals
   go_wp2_with fail;have kA:Kp (· = A) w5 (((w5.setCell ⟨A,0,none⟩ (.int .i64 xu)).setCell ⟨A,1,none⟩ (.int .u32 xi)).setCell ⟨A,2,none⟩ (.int .i64 xh)):=(((Kp.refl (· = A) w5).setCell (p:=⟨A,_,none⟩) rfl _).setCell (p:=⟨A,_,none⟩) rfl _).setCell (p:=⟨A,_,none⟩) rfl _;refine bodyPost_ret (results_cell_row rfl _ _ _ _ _ _ _ rfl S3.out Tryz.underlying321 rfl (by kernel_rfl)) rfl ⟨rfl,H5.out.kp kA (by omega) (by omega) (fun e=>hmA e),K5.out.then kA (fun i hi=>Or.inr (by omega))⟩
theorem sw_last (L:List HeapPlain.It)(x y:HeapPlain.It)(i:Nat)(hi:L[i]?=some y):HeapPlain.sw (L++[x]) i L.length=L.set i x++[y]:=by
 have hil:i<L.length:=(List.getElem?_eq_some_iff.1 hi).1;have h1:HeapPlain.ge (L++[x]) L.length=x:=HeapPlain.ge_of (by simp);have h2:HeapPlain.ge (L++[x]) i=y:=HeapPlain.ge_of (by rw [List.getElem?_append_left hil];exact hi);unfold HeapPlain.sw;rw [h1,h2,List.set_append,if_pos hil,List.set_append,if_neg (by rw [List.length_set];omega)];simp
theorem htake_mid (p q mb cap nx n i:Nat)(L:List HeapPlain.It)(x y:HeapPlain.It)(pl:Nat→Option Nat)(w:World)(h:Hp w p q mb cap nx n (L++[x]) pl)(hi:L[i]?=some y)(hps:HeapPlain.Pl (L++[x]) pl)(hord:HeapPlain.Ord (L++[x]))(hn:n+4*L.length+4<1000000000)(hbd:∀z∈L++[x],z.2.2<1000000000000)(hlen9:L.length≤100000):
 Calls Tryz.prog 213 #[.pointer (some ⟨p,0,none⟩),.int .i64 i] w fun e w'=>e = .returned (itA y)∧(∃n' L' pl',Hp w' p q mb cap nx n' L' pl'∧n'≤n+2+4*L.length∧HeapPlain.Pl L' pl'∧HeapPlain.Ord L'∧(∀z,z∈L'↔z∈L.set i x)∧L'.length=L.length)∧Kp (Fpqm p q mb) w w':=by
 have hil:i<L.length:=(List.getElem?_eq_some_iff.1 hi).1;have hSW:=sw_last L x y i hi;have hgy:HeapPlain.ge (L++[x]) i=y:=HeapPlain.ge_of (by rw [List.getElem?_append_left hil];exact hi);have hPS:=hps.sw (i:=i) (k:=L.length) (by simp;omega) (by simp);rw [hSW] at hPS;have hPP:=hPS.pop;have hHB:=hord.take hil;have hb:y.2.2<1000000000000:=hbd y (List.mem_append_left _ (List.mem_of_getElem? hi));have hbd2:∀z∈L.set i x,z.2.2<1000000000000:=fun z hz=>by
  rcases List.mem_or_eq_of_mem_set hz with h1 | h1
  ·exact hbd z (List.mem_append_left _ h1)
  ·exact hbd z (by rw [h1];simp)
 have hlen:(L++[x]).length = L.length+1:=by simp
 have hlt:i<(L++[x]).length :=by omega
 have HSWP:=hid (fun (w2:World) (h2:Hp w2 p q mb cap nx n (L++[x]) pl)=>swap_any p q mb cap nx n i L.length (L++[x]) pl w2 h2 hlt (by omega) (by omega) (by omega) hbd);rw [hSW] at HSWP;have HPP:=hid hPP;have HHB:=hid hHB;have HBD2:=hid hbd2;generalize HeapPlain.upd (HeapPlain.upd pl (HeapPlain.ge (L++[x]) L.length).2.2 i) (HeapPlain.ge (L++[x]) i).2.2 L.length=pl2 at *;obtain ⟨xu,xi,xh⟩:=y;have N:=new1 w (.cells #[.int .i64 0,.int .u32 0,.int .i64 0] 321);have N2:=new1 (w.alloc (.cells #[.int .i64 0,.int .u32 0,.int .i64 0] 321)) (.cells #[.int .i64 xu,.int .u32 xi,.int .i64 xh] 321);have hA:=h.new N.2.2;have hB:=hA.new N2.2.2;obtain ⟨c0,f0,c1,f1,c2,f2,_⟩:=cells4 hA.hd;obtain ⟨a0,a1,a2⟩:=hA.cells hlt;obtain ⟨d0,_,d1,_,d2,_⟩:=cells4 h.hd;obtain ⟨b0,b1,b2⟩:=h.cells hlt;rw [hgy] at a0 a1 a2 b0 b1 b2;rw [hlen] at c1 d1;have hcp0:=h.cp;rw [hlen] at hcp0;have hcp:=hcp0.1;have hcm:cap≤9223372036854775807:=by have:=hcp0.2;unfold maxLen at this;omega
 clear hcp0;have HB:=hid hB;have HN:=hid N;have HN2:=hid N2;have hpl:=heap_lt h.hd;have hql:q<w.heap.size:=by obtain ⟨X,hX,_⟩:=h.row;exact heap_lt hX
 clear h hA hB N N2 hlen hgy hlt hps hord hbd hi hSW hPS hPP hHB hbd2;generalize hk:L.length=k at *;have HK:=hid hk;clear hk;have hiI:(i:Int)<(k:Int)+1:=by omega
 have hne:((i:Int) == (k:Int))=false:=by simp;omega
 have hneN:(i == k)=false:=by simp;omega
 have HSWW:=hid (HSWP.out _ HB.out);go_enter Tryz.func213,Tryz.ntmps213;go_wp2_with fail;refine HSWW.out.mono ?_;rintro e w2 ⟨rfl,h2,k2⟩;generalize hAe:w.heap.size=A at *;have hB1:=HN2.out.1;rw [HN.out.2.1] at hB1;have hA1:=Bl.blk HN2.out.2.2 HN.out.1;obtain ⟨es,cl,hmb⟩:=HB.out.mp.isMap;have hmA:mb≠A:=fun e=>by rw [e,hA1] at hmb;cases hmb
 have hmB:mb≠A+1:=fun e=>by rw [e,hB1] at hmb;cases hmb
 have hA2:=k2.blk hA1 (by rintro (e | e);omega;exact hmA e.symm);have hB2:=k2.blk hB1 (by rintro (e | e);omega;exact hmB e.symm);have kw2:Kp (Fpqm p q mb) w w2:=((Kp.of_below HN.out.2.2 (by omega)).trans (Kp.of_new HN2.out.2.2)).trans (k2.mono (fun b hb=>Or.inr hb));have N3:=new1 w2 (.cells #[.int .i64 0,.int .u32 0,.int .i64 0] 321);have h3:=h2.new N3.2.2;have hA3:=Bl.blk N3.2.2 hA2;have hB3:=Bl.blk N3.2.2 hB2;have hC3:=N3.1;have kw3:=kw2.trans (Kp.of_new (F:=Fpqm p q mb) N3.2.2);have hk9:(L.set i x).length = k:=by rw [List.length_set];exact HK.out
 have hl3:(L.set i x++[(xu,xi,xh)]).length = k+1:=by simp [hk9,HK.out]
 clear a0 a1 a2 b0 b1 b2 c0 c1 c2 d0 d1 d2 f0 f1 f2;obtain ⟨c0,f0,c1,f1,c2,f2,_⟩:=cells4 h3.hd;rw [hl3] at c1;obtain ⟨a0,a1,a2⟩:=h3.cells (i:=k) (by omega);obtain ⟨X,hX,_⟩:=h3.row;have g0:=(blk hX).2.1 (k*3);have g1:=(blk hX).2.1 (k*3+1);have g2:=(blk hX).2.1 (k*3+2);have hpq:q≠p:=fun e=>ty_ne h3.hd hX (by decide) e.symm
 obtain ⟨z0,_,z1,_,z2,_⟩:=cells3 hC3;have hput:=(h3.put (i:=k) (by omega) (0,0,0));have hset:(L.set i x++[(xu,xi,xh)]).set k (0,0,0)=L.set i x++[(0,0,0)]:=by rw [←hk9];simp
 rw [hset] at hput;have HPUT:=hid hput;have KW3:=hid kw3;have HA3:=hid hA3;have HBB:=hid hB3;have HK9:=hid hk9;have hkc:(k:Int)<(k:Int)+1:=by omega
 have hikI:(i:Int)<(k:Int):=by omega
 clear hput hset hA3 hB3 hC3 hX h3 hl3 kw3 kw2 hA2 hB2 hA1 hB1 hmb N3 h2 k2 hk9;go_wp2_with fail;go_cut [] (fun wc=>Hp wc p q mb cap nx (n+2) (L.set i x++[(0,0,0)]) pl2∧wc.heap[A]?=some (Obj.cells #[.int .i64 0,.int .u32 0,.int .i64 0] 321 (0,0))∧wc.heap[A+1]?=some (Obj.cells #[.int .i64 xu,.int .u32 xi,.int .i64 xh] 321 (0,0))∧Kp (Fpqm p q mb) w wc)
 case first=>
  go_region
  all_goals
   go_wp2_with fail;go_meet
   have kq:=((((Kp.refl (· = q) (w2.alloc (.cells #[.int .i64 0,.int .u32 0,.int .i64 0] 321))).setCell (p:=⟨q,k*3,none⟩) rfl (.int .i64 0)).setCell (p:=⟨q,k*3+1,none⟩) rfl (.int .u32 0)).setCell (p:=⟨q,k*3+2,none⟩) rfl (.int .i64 0)).drew;exact ⟨HPUT.out.drew,kq.blk HA3.out (by omega),kq.blk HBB.out (by omega),KW3.out.trans (kq.mono (fun b hb=>Or.inr (Or.inl hb)))⟩
 case rest=>
  obtain ⟨h4,hA4,hB4,k4⟩:=hcut;clear c0 c1 c2 f0 f1 f2 a0 a1 a2 g0 g1 g2 z0 z1 z2;have hc4:=h4.cut;rw [HK9.out] at hc4;obtain ⟨w5,r5,h5,k5⟩:=hc4.drew.forgot (a:=xh) hb 0;obtain ⟨c0,f0,c1,f1,c2,f2,_⟩:=cells4 h4.hd;have hl2:(L.set i x++[((0,0,0):HeapPlain.It)]).length = k+1:=by simp [HK.out]
  rw [hl2] at c1;obtain ⟨e0,_,e1,_,e2,_⟩:=cells4 hc4.hd;have hpA:A≠p:=by omega
  have hpB:A+1≠p:=by omega
  have kp5:Kp (· = p) wc (wc.setCell ⟨p,1,none⟩ (.slice (some ⟨q,0,none⟩) k cap)).drew :=((Kp.refl (· = p) wc).setCell (p:=⟨p,1,none⟩) rfl _).drew;have hA5:=k5.blk (kp5.blk hA4 hpA) (fun e=>hmA e.symm);have hB5:=k5.blk (kp5.blk hB4 hpB) (fun e=>hmB e.symm);obtain ⟨v0,_,v1,_,v2,_⟩:=cells3 hB4;have K5:=hid (k4.trans ((kp5.mono (fun b hb=>Or.inl hb)).trans (k5.mono (fun b hb=>Or.inr (Or.inr hb)))):Kp (Fpqm p q mb) w w5);have HST:=hid (hsettle_any p q mb cap nx (n+2) i (L.set i x) _ w5 h5 (by rw [HK9.out];omega) HHB.out HPP.out (by rw [HK9.out];omega) HBD2.out (by rw [HK9.out];omega));have HA5:=hid hA5;have HB5:=hid hB5;clear h4 hA4 hB4 k4 hc4 h5 k5 kp5 hA5 hB5 hl2;go_wp2_with fail;go_region
  all_goals
   go_wp2_with fail;refine HST.out.mono ?_;rintro e w6 ⟨rfl,n6,L6,pl6,hs6,ho6,hn6⟩;have hA6:=hs6.kp.blk HA5.out (by rintro (e | e);omega;exact hmA e.symm);have hB6:=hs6.kp.blk HB5.out (by rintro (e | e);omega;exact hmB e.symm);obtain ⟨x0,x0f,x1,x1f,x2,x2f⟩:=cells3 hA6;obtain ⟨y0,_,y1,_,y2,_⟩:=cells3 hB6;have s1:=heap_setCell_same w6 A 0 _ 321 (.int .i64 xu) hA6;have s2:=heap_setCell_same _ A 1 _ 321 (.int .u32 xi) s1;have s3:=heap_setCell_same _ A 2 _ 321 (.int .i64 xh) s2;have S3:=hid s3;have HS6:=hid hs6;have HO6:=hid ho6;rw [HK9.out] at hn6;clear s1 s2 s3 hA6 hB6 hs6 ho6;go_wp2_with fail;have kA:Kp (· = A) w6 (((w6.setCell ⟨A,0,none⟩ (.int .i64 xu)).setCell ⟨A,1,none⟩ (.int .u32 xi)).setCell ⟨A,2,none⟩ (.int .i64 xh)):=(((Kp.refl (· = A) w6).setCell (p:=⟨A,_,none⟩) rfl _).setCell (p:=⟨A,_,none⟩) rfl _).setCell (p:=⟨A,_,none⟩) rfl _;refine bodyPost_ret (results_cell_row rfl _ _ _ _ _ _ _ rfl S3.out Tryz.underlying321 rfl (by kernel_rfl)) rfl ⟨rfl,⟨n6,L6,pl6,HS6.out.hp.kp kA (by omega) (by omega) (fun e=>hmA e),by omega,HS6.out.ps,HO6.out,HS6.out.mem,by rw [HS6.out.len,HK9.out]⟩,(K5.out.trans (HS6.out.kp.mono (fun b hb=>Or.inr hb))).then kA (fun i hi=>Or.inr (by omega))⟩
theorem hdrop_yes (p q mb cap nx n a i:Nat)(L:List HeapPlain.It)(pl:Nat→Option Nat)(w:World)(h:Hp w p q mb cap nx n L pl)(ha:a<1000000000000)(hyes:pl a=some i){v:Value}{Q:World→Prop}(ht:Calls Tryz.prog 213 #[.pointer (some ⟨p,0,none⟩),.int .i64 i] w fun e w'=>e = .returned v∧Q w'):Calls Tryz.prog 192 #[.pointer (some ⟨p,0,none⟩),.int .i64 a] w fun e w'=>e = .returned (.bool true)∧Q w':=by
 obtain ⟨c0,f0,c1,f1,c2,f2,_⟩:=cells4 h.hd;have hl:=h.where' ha;rw [hyes] at hl;have HNO:=hid (hnone_any p q mb cap nx n L pl w h);have HT:=hid ht;clear h ht;go_enter Tryz.func192,Tryz.ntmps192;go_wp2_with fail;refine HNO.out.mono ?_;rintro e w' ⟨rfl,rfl⟩;go_wp2_with fail;refine HT.out.mono ?_;rintro e w2 ⟨rfl,hq⟩;have HQ:=hid hq;clear hq;go_wp2_with fail;go_ret;exact ⟨rfl,HQ.out⟩
end
end Go.Proofs.YtdjiopacieadpaaGreatDoor

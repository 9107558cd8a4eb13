/- TopNear: part Pbh: EnP EgA EgB. -/
import Derived.Test.YtdjiopacieadpaaGreatDoorPbf
import Derived.Test.YtdjiopacieadpaaGreatDoorPbg
set_option linter.unusedVariables false
set_option linter.unusedSimpArgs false
set_option maxRecDepth 8000
set_option maxHeartbeats 8000000
namespace Go.Proofs.YtdjiopacieadpaaGreatDoor
section
open Go.RowKit BookPlain FlatPlain
structure Egs where
 b:Bk
 L:Lg
 ws:List Rp
 D:List Nat
 oa:Option SlotPlain.Sl
 ob:Option SlotPlain.Sl
def errP (q:Rq)(e:Nat):Rp:=⟨q.tag,q.k,e,0,0,0,0⟩
def cntP (q:Rq)(n:Nat):Rp:=⟨q.tag,q.k,0,0,0,0,n⟩
def noP:Rp:=⟨0,0,200,0,0,0,0⟩
def flushE (z k:Nat)(S:Egs):Egs:=⟨S.b,settled S.L,S.ws,patch S.D (2*k*z+S.L.beg) S.L.B,S.oa,S.ob⟩
def saveE (z k:Nat)(S:Egs):Egs:=⟨S.b,⟨0,S.L.last,S.L.last,SlotPlain.gen S.oa S.ob+1,[]⟩,S.ws,saveD S.D z (nextF k S.oa S.ob) (SlotPlain.gen S.oa S.ob+1) S.L.last (imgF S.b),(SlotPlain.saved S.oa S.ob S.L.last (imgF S.b)).1,(SlotPlain.saved S.oa S.ob S.L.last (imgF S.b)).2⟩
def noWs (S:Egs):Egs:=⟨S.b,S.L,[],S.D,S.oa,S.ob⟩
def takeE (S:Egs)(q:Rq):Egs:=⟨(applyN S.b (recQ S.b q).1 (recQ S.b q).2.1 (recQ S.b q).2.2.1 (recQ S.b q).2.2.2.1 (recQ S.b q).2.2.2.2).1,appended S.L (recF (recQ S.b q).1 (recQ S.b q).2.1 (recQ S.b q).2.2.1 (recQ S.b q).2.2.2.1 (recQ S.b q).2.2.2.2),S.ws++[replyQ S.b q],S.D,S.oa,S.ob⟩
def rmE (z k n:Nat)(S:Egs):Nat:=room (n-2*k) z S.L
def chgE (z k n:Nat)(S:Egs)(q:Rq):Egs×List Rp:=
 if BookPlain.refusal S.b q (rmE z k n S)=0 then
  (if (S.ws.length+1<S.b.g) then (takeE S q,[]) else (noWs (flushE z k (takeE S q)),S.ws++[replyQ S.b q]))
 else (S,[errP q (BookPlain.refusal S.b q (rmE z k n S))])
def doQ (z k n:Nat)(S:Egs)(q:Rq):Egs×List Rp:=
 if q.k=5∨q.k=6∨q.k=10 then (S,[answerQ S.b q])
 else if q.k=8 then (noWs (flushE z k S),S.ws++[cntP q S.ws.length])
 else if q.k=9 then (noWs (saveE z k S),S.ws++[cntP q S.ws.length])
 else chgE z k n S q
def doE (z k n:Nat)(S:Egs)(x:List Nat):Egs×List Rp:=match reqG x with
 | none=>(S,[noP])
 | some q=>doQ z k n S q
theorem okp (tag k err id seat til cnt:Nat)(h1:tag<4294967296)(h2:k≤10)(h3:err≤65535)(h4:k=0→tag=0∧err=200)(h5:id<4294967296)(h6:seat≤65535)(h7:til<9223372036854775808)(h8:cnt≤65535)(h9:maskF k err=0∧id=0∧seat=0∧til=0∧cnt=0∨maskF k err=5∧seat=0∧cnt=0∨maskF k err=2∧id=0∧til=0∧cnt=0∨maskF k err=6∧id=0∧cnt=0∨maskF k err=4∧id=0∧seat=0∧cnt=0∨maskF k err=8∧id=0∧seat=0∧til=0):OkRp ⟨tag,k,err,id,seat,til,cnt⟩:=⟨h1,h2,h3,h4,h5,h6,h7,h8,h9⟩
theorem mask_err {k e:Nat}(h:e≠0):maskF k e=0:=if_neg h
theorem errP_ok {q:Rq}(hq:OkRq q){e:Nat}(h0:e≠0)(h:e≤65535):OkRp (errP q e):=
 okp _ _ _ _ _ _ _ hq.tag hq.k.2 h (fun h9=>by have:=hq.k;omega) (by decide) (by decide) (by decide) (by decide) (Or.inl ⟨mask_err h0,rfl,rfl,rfl,rfl⟩)
theorem noP_ok:OkRp noP:=okp _ _ _ _ _ _ _ (by decide) (by decide) (by decide) (fun _=>⟨rfl,rfl⟩) (by decide) (by decide) (by decide) (by decide) (Or.inl ⟨by decide,rfl,rfl,rfl,rfl⟩)
theorem cntP_ok {q:Rq}(hq:OkRq q)(hk:q.k=8∨q.k=9){n:Nat}(h:n≤65535):OkRp (cntP q n):=by
 refine okp _ _ _ _ _ _ _ hq.tag hq.k.2 (Nat.zero_le _) (fun h9=>by omega) (by decide) (by decide) (by decide) h ?_;refine Or.inr (Or.inr (Or.inr (Or.inr (Or.inr ⟨?_,rfl,rfl,rfl⟩))));show maskF q.k 0=8
 rcases hk with e | e<;>rw [e]<;>decide
theorem get_in {b:Bk}(h:Sound b){id:Nat}{x:Bo}(hg:BookPlain.get b id=some x):x.2.1≤24∧x.2.2≤M:=by
 obtain ⟨h0,h1,h2,h3⟩:=get_some h.toFine hg;have:=h.hs;rcases h.ok _ x h2 with e | ⟨_,_,_,a4⟩
 ·rw [e] at h1;exact absurd h1.symm h0
 ·exact ⟨by omega,a4⟩
theorem at_in {b:Bk}(h:Sound b)(i:Nat):(b.l[i]?.getD z).1<4294967296∧(b.l[i]?.getD z).2.2≤M:=by
 cases hx:b.l[i]? with
 | none=>exact ⟨by decide,by decide⟩
 | some x=>
  rcases h.ok i x hx with e | ⟨_,a2,_,a4⟩
  ·rw [e];exact ⟨by decide,by decide⟩
  ·exact ⟨a2,a4⟩
theorem answerQ_ok {b:Bk}(hs:Sound b){q:Rq}(hq:OkRq q)(hk:isAsk q.k):OkRp (answerQ b q):=by
 have hM:M<9223372036854775808:=by decide
 unfold answerQ;rcases hk with e | e | e
 ·rw [if_pos e];cases hg:BookPlain.get b q.id with
  | none=>exact okp _ _ _ _ _ _ _ (hq.tag) (by decide) (by decide) (fun h9=>(by cases h9)) (by decide) (by decide) (by decide) (by decide) (Or.inl ⟨by decide,rfl,rfl,rfl,rfl⟩)
  | some x=>
   have hx:=get_in hs hg;exact okp _ _ _ _ _ _ _ (hq.tag) (by decide) (by decide) (fun h9=>(by cases h9)) (by decide) (Nat.le_trans hx.1 (by decide)) (Nat.lt_of_le_of_lt hx.2 hM) (by decide) (Or.inr (Or.inr (Or.inr (Or.inl ⟨by decide,rfl,rfl⟩))))
 ·rw [if_neg (by omega),if_pos e];split
  ·exact okp _ _ _ _ _ _ _ (hq.tag) (by decide) (by decide) (fun h9=>(by cases h9)) (by decide) (by decide) (by decide) (by decide) (Or.inl ⟨by decide,rfl,rfl,rfl,rfl⟩)
  split
  ·have hx:=at_in hs q.seat;exact okp _ _ _ _ _ _ _ (hq.tag) (by decide) (by decide) (fun h9=>(by cases h9)) (hx.1) (by decide) (Nat.lt_of_le_of_lt hx.2 hM) (by decide) (Or.inr (Or.inl ⟨by decide,rfl,rfl⟩))
  ·exact okp _ _ _ _ _ _ _ (hq.tag) (by decide) (by decide) (fun h9=>(by cases h9)) (by decide) (by decide) (by decide) (by decide) (Or.inl ⟨by decide,rfl,rfl,rfl,rfl⟩)
 ·rw [if_neg (by omega),if_neg (by omega)];have:=hs.few;have:=hs.hc;exact okp _ _ _ _ _ _ _ (hq.tag) (by decide) (by decide) (fun h9=>(by cases h9)) (by decide) (by decide) (by decide) (by show nT b.l≤65535;omega) (Or.inr (Or.inr (Or.inr (Or.inr (Or.inr ⟨by decide,rfl,rfl,rfl⟩)))))
theorem rule_errs (b:Bk)(q:Rq)(need rm j:Nat):ruleF b q need rm j≤220:=by
 unfold ruleF;repeat' first | omega | split
theorem refuse_le (b:Bk)(q:Rq)(rm:Nat):∀l,refuse b q rm l≤220
 | []=>by unfold refuse;omega
 | j::l=>by
  unfold refuse;split
  ·exact refuse_le b q rm l
  ·exact rule_errs _ _ _ _ _
structure Acc (b:Bk)(q:Rq)(rm:Nat):Prop where
 rcd:recV b q=⟨((recQ b q).1:Int),((recQ b q).2.1:Int),((recQ b q).2.2.1:Int),((recQ b q).2.2.2.1:Int),((recQ b q).2.2.2.2:Int)⟩
 rpl:rplV q (recV b q)=rpC (replyQ b q)
 okb:okB ⟨((recQ b q).1:Int),((recQ b q).2.1:Int),((recQ b q).2.2.1:Int),((recQ b q).2.2.2.1:Int),((recQ b q).2.2.2.2:Int)⟩=true
 hi:(recQ b q).2.1<4294967296
 hs:(recQ b q).2.2.1<65536
 hu:(recQ b q).2.2.2.1≤M
 hq:(recQ b q).2.2.2.2≤M
 len:0<(recF (recQ b q).1 (recQ b q).2.1 (recQ b q).2.2.1 (recQ b q).2.2.2.1 (recQ b q).2.2.2.2).length ∧(recF (recQ b q).1 (recQ b q).2.1 (recQ b q).2.2.1 (recQ b q).2.2.2.1 (recQ b q).2.2.2.2).length ≤32∧22+(recF (recQ b q).1 (recQ b q).2.1 (recQ b q).2.2.1 (recQ b q).2.2.2.1 (recQ b q).2.2.2.2).length ≤rm
 okp:OkRp (replyQ b q)
theorem acc_wrap {x y:Nat}(h:x+y≤M):IntKind.i64.wrap ((x:Int)+(y:Int))=((x+y:Nat):Int):=by
 have hM:M=1099511627776:=rfl;rw [IntKind.wrap_i64];omega
theorem acc_of {b:Bk}(hs:Sound b){q:Rq}(hq:OkRq q)(hk:isChg q.k){rm:Nat}(h0:BookPlain.refusal b q rm=0):Acc b q rm:=by
 have hz:=refuse_zero h0;have hM:M=1099511627776:=rfl;have hn:=hs.hn;obtain ⟨k,tag,id,seat,ttl⟩:=q;dsimp only at hk;have hnR:∀j,j∈rulesF k→ruleF b ⟨k,tag,id,seat,ttl⟩ (needF k) rm j=0:=hz;have hT:tag<4294967296:=hq.tag;have hI:id<4294967296:=hq.id;have hfit:6∈rulesF k→needF k≤rm:=by
  intro h;have:=hnR 6 h;have e:ruleF b ⟨k,tag,id,seat,ttl⟩ (needF k) rm 6=if rm<needF k then 220 else 0:=rfl
  rw [e] at this;split at this
  ·omega
  ·omega
 have hknown:5∈rulesF k→id≠0:=by
  intro h e0;have:=hnR 5 h;have e:ruleF b ⟨k,tag,id,seat,ttl⟩ (needF k) rm 5=if (BookPlain.get b id).isSome then 0 else 171:=rfl
  rw [e,e0] at this;have e2:BookPlain.get b 0=none:=rfl;rw [e2] at this;simp at this
 have hclock:2∈rulesF k→b.clock+ttl≤M:=by
  intro h;have:=hnR 2 h;have e:ruleF b ⟨k,tag,id,seat,ttl⟩ (needF k) rm 2=if M<b.clock+ttl then 172 else 0:=rfl
  rw [e] at this;split at this
  ·omega
  ·omega
 have httl:1∈rulesF k→1≤ttl:=by
  intro h;have:=hnR 1 h;have e:ruleF b ⟨k,tag,id,seat,ttl⟩ (needF k) rm 1=if ttl<1∨TTL<ttl then 2 else 0:=rfl
  rw [e] at this;split at this
  ·omega
  ·omega
 have hseat:0∈rulesF k→seat<b.s:=by
  intro h;have:=hnR 0 h;have e:ruleF b ⟨k,tag,id,seat,ttl⟩ (needF k) rm 0=if b.s≤seat then 140 else 0:=rfl
  rw [e] at this;split at this
  ·omega
  ·omega
 have hss:=hs.hs;clear hz hnR h0;rcases hk with rfl | rfl | rfl | rfl | rfl
 ·have h1:=hclock (by decide);have h2:=httl (by decide);have h3:=hseat (by decide);have h4:=hfit (by decide);have hw:=acc_wrap h1;refine ⟨?_,?_,?_,(by show b.next<4294967296;omega),(by show seat<65536;omega),h1,Nat.zero_le _,?_,?_⟩
  ·show (⟨1,b.next,seat,atV b ⟨1,tag,id,seat,ttl⟩,0⟩:Rec)=⟨1,b.next,seat,((b.clock+ttl:Nat):Int),0⟩
   rw [show atV b ⟨1,tag,id,seat,ttl⟩=((b.clock+ttl:Nat):Int) from hw]
  ·show #[Value.int .u32 tag,.int .i64 1,.int .i64 0,.int .u32 b.next,.int .i64 0,.int .i64 (atV b ⟨1,tag,id,seat,ttl⟩),.int .i64 0]=_
   rw [show atV b ⟨1,tag,id,seat,ttl⟩=((b.clock+ttl:Nat):Int) from hw];rfl
  ·show okB ⟨((1:Nat):Int),(b.next:Int),(seat:Int),((b.clock+ttl:Nat):Int),((0:Nat):Int)⟩=true
   unfold okB;simp [isK,hasI,hasS,hasU,hasC,withinB];omega
  ·show 0<(recF 1 b.next seat (b.clock+ttl) 0).length ∧(recF 1 b.next seat (b.clock+ttl) 0).length ≤32∧22+(recF 1 b.next seat (b.clock+ttl) 0).length ≤rm
   have e:(recF 1 b.next seat (b.clock+ttl) 0).length = 15:=by unfold recF;simp [hasI,hasS,hasU,hasC,le_len]
   have e2:needF 1=37:=rfl;omega
  ·show OkRp ⟨tag,1,0,b.next,0,b.clock+ttl,0⟩
   exact okp _ _ _ _ _ _ _ (hT) (by decide) (by decide) (fun h9=>(by cases h9)) (by show b.next<4294967296;omega) (by decide) (by show b.clock+ttl<_;omega) (by decide) (Or.inr (Or.inl ⟨by decide,rfl,rfl⟩))
 ·have h1:=hknown (by decide);have h4:=hfit (by decide);refine ⟨rfl,rfl,?_,hI,(by show (0:Nat)<65536;omega),Nat.zero_le _,Nat.zero_le _,?_,?_⟩
  ·show okB ⟨((2:Nat):Int),(id:Int),((0:Nat):Int),((0:Nat):Int),((0:Nat):Int)⟩=true
   unfold okB;simp [isK,hasI,hasS,hasU,hasC,withinB];omega
  ·show 0<(recF 2 id 0 0 0).length ∧(recF 2 id 0 0 0).length ≤32∧22+(recF 2 id 0 0 0).length ≤rm
   have e:(recF 2 id 0 0 0).length = 5:=by unfold recF;simp [hasI,hasS,hasU,hasC,le_len]
   have e2:needF 2=27:=rfl;omega
  ·show OkRp ⟨tag,2,0,0,0,0,0⟩
   exact okp _ _ _ _ _ _ _ (hT) (by decide) (by decide) (fun h9=>(by cases h9)) (by decide) (by decide) (by decide) (by decide) (Or.inl ⟨by decide,rfl,rfl,rfl,rfl⟩)
 ·have h1:=hknown (by decide);have h4:=hfit (by decide);refine ⟨rfl,rfl,?_,hI,(by show (0:Nat)<65536;omega),Nat.zero_le _,Nat.zero_le _,?_,?_⟩
  ·show okB ⟨((3:Nat):Int),(id:Int),((0:Nat):Int),((0:Nat):Int),((0:Nat):Int)⟩=true
   unfold okB;simp [isK,hasI,hasS,hasU,hasC,withinB];omega
  ·show 0<(recF 3 id 0 0 0).length ∧(recF 3 id 0 0 0).length ≤32∧22+(recF 3 id 0 0 0).length ≤rm
   have e:(recF 3 id 0 0 0).length = 5:=by unfold recF;simp [hasI,hasS,hasU,hasC,le_len]
   have e2:needF 3=27:=rfl;omega
  ·show OkRp ⟨tag,3,0,0,0,0,0⟩
   exact okp _ _ _ _ _ _ _ (hT) (by decide) (by decide) (fun h9=>(by cases h9)) (by decide) (by decide) (by decide) (by decide) (Or.inl ⟨by decide,rfl,rfl,rfl,rfl⟩)
 ·have h1:=hknown (by decide);have h3:=hseat (by decide);have h4:=hfit (by decide);refine ⟨rfl,rfl,?_,hI,(by show seat<65536;omega),Nat.zero_le _,Nat.zero_le _,?_,?_⟩
  ·show okB ⟨((4:Nat):Int),(id:Int),(seat:Int),((0:Nat):Int),((0:Nat):Int)⟩=true
   unfold okB;simp [isK,hasI,hasS,hasU,hasC,withinB];omega
  ·show 0<(recF 4 id seat 0 0).length ∧(recF 4 id seat 0 0).length ≤32∧22+(recF 4 id seat 0 0).length ≤rm
   have e:(recF 4 id seat 0 0).length = 7:=by unfold recF;simp [hasI,hasS,hasU,hasC,le_len]
   have e2:needF 4=29:=rfl;omega
  ·exact okp _ _ _ _ _ _ _ (hT) (by decide) (by decide) (fun h9=>(by cases h9)) (by decide) (by show seat≤65535;omega) (by decide) (by decide) (Or.inr (Or.inr (Or.inl ⟨by decide,rfl,rfl,rfl⟩)))
 ·have h1:=hclock (by decide);have h2:=httl (by decide);have h4:=hfit (by decide);have hw:=acc_wrap h1;refine ⟨?_,?_,?_,(by show (0:Nat)<4294967296;omega),(by show (0:Nat)<65536;omega),Nat.zero_le _,h1,?_,?_⟩
  ·show (⟨5,0,0,0,atV b ⟨7,tag,id,seat,ttl⟩⟩:Rec)=⟨5,0,0,0,((b.clock+ttl:Nat):Int)⟩
   rw [show atV b ⟨7,tag,id,seat,ttl⟩=((b.clock+ttl:Nat):Int) from hw]
  ·show #[Value.int .u32 tag,.int .i64 7,.int .i64 0,.int .u32 0,.int .i64 0,.int .i64 (atV b ⟨7,tag,id,seat,ttl⟩),.int .i64 0]=_
   rw [show atV b ⟨7,tag,id,seat,ttl⟩=((b.clock+ttl:Nat):Int) from hw];rfl
  ·show okB ⟨((5:Nat):Int),((0:Nat):Int),((0:Nat):Int),((0:Nat):Int),((b.clock+ttl:Nat):Int)⟩=true
   unfold okB;simp [isK,hasI,hasS,hasU,hasC,withinB];omega
  ·show 0<(recF 5 0 0 0 (b.clock+ttl)).length ∧(recF 5 0 0 0 (b.clock+ttl)).length ≤32∧22+(recF 5 0 0 0 (b.clock+ttl)).length ≤rm
   have e:(recF 5 0 0 0 (b.clock+ttl)).length = 9:=by unfold recF;simp [hasI,hasS,hasU,hasC,le_len]
   have e2:needF 7=31:=rfl;omega
  ·exact okp _ _ _ _ _ _ _ (hT) (by decide) (by decide) (fun h9=>(by cases h9)) (by decide) (by decide) (by show b.clock+ttl<_;omega) (by decide) (Or.inr (Or.inr (Or.inr (Or.inr (Or.inl ⟨by decide,rfl,rfl,rfl⟩)))))
structure Ep where
 e:Nat
 p:Nat
 ra:Nat
 rb:Nat
 rl:Nat
 s:Nat
 l:Nat
 m:Nat
 pb:Nat
 z:Nat
 n:Nat
 k:Nat
structure Em where
 F:Nat→Prop
 v:Value
 Fb:Nat→Prop
 wv:Value
 c:Nat
def rpL (r:Rp):List Value:=[.int .u32 r.tag,.int .i64 r.k,.int .i64 r.err,.int .u32 r.id,.int .i64 r.seat,.int .i64 r.til,.int .i64 r.cnt]
def Gd (P:Ep)(m:Em):Nat→Prop:=fun x=>m.F x∨Wf P.l m.v x
def Ge (P:Ep)(m:Em):Nat→Prop:=fun x=>x=P.e∨m.wv.ownBlock=some x
def Gs (P:Ep):Nat→Prop:=fun x=>x≤1∨x=P.ra∨x=P.rb∨x=P.rl∨x=P.s∨x=P.m
def EF (P:Ep)(m:Em):Nat→Prop:=fun x=>Gd P m x∨m.Fb x∨Ge P m x
structure Ap (a b c d:Nat→Prop):Prop where
 ab:∀x,a x→ ¬b x
 ac:∀x,a x→ ¬c x
 ad:∀x,a x→ ¬d x
 bc:∀x,b x→ ¬c x
 bd:∀x,b x→ ¬d x
 cd:∀x,c x→ ¬d x
theorem Ap.a {a b c d a':Nat→Prop}{n:Nat}(h:Ap a b c d)(hs:∀x,a' x→a x∨n≤x)(hb:∀x,b x→x<n)(hc:∀x,c x→x<n)(hd:∀x,d x→x<n):Ap a' b c d:=
 ⟨fun x h1 h2=>by rcases hs x h1 with e | e;exact h.ab x e h2;have:=hb x h2;omega,fun x h1 h2=>by rcases hs x h1 with e | e;exact h.ac x e h2;have:=hc x h2;omega,fun x h1 h2=>by rcases hs x h1 with e | e;exact h.ad x e h2;have:=hd x h2;omega,h.bc,h.bd,h.cd⟩
theorem Ap.b {a b c d b':Nat→Prop}{n:Nat}(h:Ap a b c d)(hs:∀x,b' x→b x∨n≤x)(ha:∀x,a x→x<n)(hc:∀x,c x→x<n)(hd:∀x,d x→x<n):Ap a b' c d:=
 ⟨fun x h1 h2=>by rcases hs x h2 with e | e;exact h.ab x h1 e;have:=ha x h1;omega,h.ac,h.ad,fun x h1 h2=>by rcases hs x h1 with e | e;exact h.bc x e h2;have:=hc x h2;omega,fun x h1 h2=>by rcases hs x h1 with e | e;exact h.bd x e h2;have:=hd x h2;omega,h.cd⟩
theorem Ap.c {a b c d c':Nat→Prop}{n:Nat}(h:Ap a b c d)(hs:∀x,c' x→c x∨n≤x)(ha:∀x,a x→x<n)(hb:∀x,b x→x<n)(hd:∀x,d x→x<n):Ap a b c' d:=
 ⟨h.ab,fun x h1 h2=>by rcases hs x h2 with e | e;exact h.ac x h1 e;have:=ha x h1;omega,h.ad,fun x h1 h2=>by rcases hs x h2 with e | e;exact h.bc x h1 e;have:=hb x h1;omega,h.bd,fun x h1 h2=>by rcases hs x h1 with e | e;exact h.cd x e h2;have:=hd x h2;omega⟩
def fnV (i e:Nat):Value:= .func (.func i) #[.pointer (some ⟨e,0,none⟩)] #[]
def doesF (e:Nat):Int→Option Value:=fun i=>if i=5∨i=6∨i=10 then some (fnV 75 e) else if i=8 then some (fnV 76 e) else if i=9 then some (fnV 77 e) else if i=1∨i=2∨i=3∨i=4∨i=7 then some (fnV 78 e) else none
def Img (s c g:Nat)(o:Option SlotPlain.Sl)(G C:Nat):Prop:= ∀x,o=some x→(∃b,Sound b∧b.s=s∧b.c=c∧b.g=g∧x.2.2=imgF b)∧x.1≤G∧x.2.1≤C
structure Dsk (D:List Nat)(z k s c g:Nat)(oa ob:Option SlotPlain.Sl)(G C:Nat):Prop where
 sa:SlotIs D z 0 k oa
 sb:SlotIs D z k k ob
 ia:Img s c g oa G C
 ib:Img s c g ob G C
theorem Img.mono {s c g:Nat}{o:Option SlotPlain.Sl}{G C G' C':Nat}(h:Img s c g o G C)(h1:G≤G')(h2:C≤C'):Img s c g o G' C':=fun x hx=>⟨(h x hx).1,by have:=(h x hx).2;omega,by have:=(h x hx).2;omega⟩
theorem Dsk.mono {D:List Nat}{z k s c g:Nat}{oa ob:Option SlotPlain.Sl}{G C G' C':Nat}(h:Dsk D z k s c g oa ob G C)(h1:G≤G')(h2:C≤C'):Dsk D z k s c g oa ob G' C':=⟨h.sa,h.sb,h.ia.mono h1 h2,h.ib.mono h1 h2⟩
theorem Dsk.gen {D:List Nat}{z k s c g:Nat}{oa ob:Option SlotPlain.Sl}{G C:Nat}(h:Dsk D z k s c g oa ob G C):SlotPlain.gen oa ob≤G∧SlotPlain.cov oa ob≤C:=by
 cases hp:SlotPlain.pick oa ob with
 | none=>
  have e1:SlotPlain.gen oa ob=0:=by unfold SlotPlain.gen;rw [hp]
  have e2:SlotPlain.cov oa ob=0:=by unfold SlotPlain.cov;rw [hp]
  omega
 | some y=>
  obtain ⟨i,x⟩:=y;have e1:SlotPlain.gen oa ob=x.1:=by unfold SlotPlain.gen;rw [hp]
  have e2:SlotPlain.cov oa ob=x.2.1:=by unfold SlotPlain.cov;rw [hp]
  have h1:oa=some x∨ob=some x:=by
   unfold SlotPlain.pick at hp;cases oa with
   | none=>
    cases ob with
    | none=>simp at hp
    | some b=>simp at hp;exact Or.inr (by rw [hp.2])
   | some a=>
    cases ob with
    | none=>simp at hp;exact Or.inl (by rw [hp.2])
    | some b=>
     simp at hp;split at hp
     ·simp at hp;exact Or.inr (by rw [hp.2])
     ·simp at hp;exact Or.inl (by rw [hp.2])
  rcases h1 with e | e
  ·have:=(h.ia x e).2;omega
  ·have:=(h.ib x e).2;omega
structure EgD (w:World)(P:Ep)(D:List Nat)(L:Lg)(m:Em):Prop where
 pw:Pw w P.p P.z P.n D m.F m.c 0
 ra:Rg w P.ra P.p P.z 0 P.k
 rb:Rg w P.rb P.p P.z P.k P.k
 ss:Ss w P.s P.ra P.rb
 wl:Wl w P.l P.rl P.p P.z (2*P.k) (P.n-2*P.k) L m.v
 aw:Aw m.F P.l P.rl m.v
structure EgE (w:World)(P:Ep)(ws:List Rp)(wv:Value):Prop where
 hd:w.heap[P.e]?=some (.cells #[.bool true,.bool true,.pointer (some ⟨P.l,0,none⟩),.pointer (some ⟨P.s,0,none⟩),.pointer (some ⟨P.pb,0,none⟩),wv,.map (some P.m)] 67 (0,0))
 mp:Mf w .i64 45 P.m 10 (doesF P.e)
 ws:w.ownsRow 0 50 7 wv ws.length (ws.flatMap rpL)
 we:wv.ownBlock≠some P.e
structure EgP (P:Ep)(S:Egs)(c t:Nat):Prop where
 so:Sound S.b
 sl:Dsk S.D P.z P.k S.b.s S.b.c S.b.g S.oa S.ob (100+t) (10000*t+100000)
 k2:2≤P.k
 kn:2*P.k+1≤P.n
 fi:20+14*min S.b.s S.b.c≤P.k*P.z-P.z
 lw:S.ws.length≤t
 ok:∀r∈S.ws,OkRp r
 cb:c≤100000*t+100000000
 lb:S.L.last≤10000*t+100000
 tb:t≤400
structure Eg (w:World)(P:Ep)(S:Egs)(m:Em)(t:Nat):Prop where
 dv:EgD w P S.D S.L m
 bk:Bkk w P.pb m.Fb (2400+2*t) S.b
 en:EgE w P S.ws m.wv
 ap:Ap (Gd P m) m.Fb (Ge P m) (Gs P)
 gl:Glb w
 pl:EgP P S m.c t
theorem EgD.stay {w w':World}{P:Ep}{D:List Nat}{L:Lg}{m:Em}{G:Nat→Prop}(h:EgD w P D L m)(hk:Kp G w w')(h1:∀x,Gd P m x→ ¬G x)(h2:∀x,Gs P x→ ¬G x):EgD w' P D L m:=
 ⟨h.pw.stay hk (fun x hx=>h1 x (Or.inl hx)),h.ra.kp hk (h2 _ (Or.inr (Or.inl rfl))),h.rb.kp hk (h2 _ (Or.inr (Or.inr (Or.inl rfl)))),hk.blk h.ss (h2 _ (Or.inr (Or.inr (Or.inr (Or.inr (Or.inl rfl)))))),h.wl.stay hk (fun x hx=>h1 x (Or.inr hx)) (h2 _ (Or.inr (Or.inr (Or.inr (Or.inl rfl))))),h.aw⟩
theorem EgE.stay {w w':World}{P:Ep}{ws:List Rp}{wv:Value}{G:Nat→Prop}(h:EgE w P ws wv)(hk:Kp G w w')(h1:¬G P.e)(h3:∀x,wv.ownBlock=some x→ ¬G x)(h2:¬G P.m):EgE w' P ws wv:=
 ⟨hk.blk h.hd h1,h.mp.kp hk h2,own_kp h.ws hk h3,h.we⟩
theorem Eg.lt {w:World}{P:Ep}{S:Egs}{m:Em}{t:Nat}(h:Eg w P S m t):(∀x,Gd P m x→x<w.heap.size)∧(∀x,m.Fb x→x<w.heap.size)∧(∀x,Ge P m x→x<w.heap.size)∧(∀x,Gs P x→x<w.heap.size):=by
 refine ⟨fun x hx=>?_,h.bk.flt,fun x hx=>?_,fun x hx=>?_⟩
 ·rcases hx with e | e | e
  ·exact h.dv.pw.flt x e
  ·rw [e];exact heap_lt h.dv.wl.hd
  ·exact (h.dv.wl.own.lt x e).2
 ·rcases hx with e | e
  ·rw [e];exact heap_lt h.en.hd
  ·exact (h.en.ws.lt x e).2
 ·have:=h.gl.size;rcases hx with e | e | e | e | e | e
  ·omega
  ·rw [e];exact heap_lt h.dv.ra
  ·rw [e];exact heap_lt h.dv.rb
  ·rw [e];exact heap_lt h.dv.wl.rg
  ·rw [e];exact heap_lt h.dv.ss
  ·rw [e];exact h.en.mp.lt
theorem Eg.elt {w:World}{P:Ep}{S:Egs}{m:Em}{t:Nat}(h:Eg w P S m t):∀x,EF P m x→x<w.heap.size:=fun x hx=>by
 rcases hx with e | e | e
 ·exact h.lt.1 x e
 ·exact h.lt.2.1 x e
 ·exact h.lt.2.2.1 x e
theorem Eg.stay {w w':World}{P:Ep}{S:Egs}{m:Em}{t:Nat}{G:Nat→Prop}(h:Eg w P S m t)(hk:Kp G w w')(hG:∀x,EF P m x→ ¬G x)(hS:∀x,Gs P x→ ¬G x):Eg w' P S m t:=
 ⟨h.dv.stay hk (fun x hx=>hG x (Or.inl hx)) hS,h.bk.stay hk (fun x hx=>hG x (Or.inr (Or.inl hx))),h.en.stay hk (hG _ (Or.inr (Or.inr (Or.inl rfl)))) (fun x hx=>hG x (Or.inr (Or.inr (Or.inr hx)))) (hS _ (Or.inr (Or.inr (Or.inr (Or.inr (Or.inr rfl)))))),h.ap,
  ⟨fun i hi=>by rw [hk.cell (p:=⟨1,i,none⟩) h.gl.size (hS 1 (Or.inl (Nat.le_refl _)))];exact h.gl.tab i hi,fun i x hx=>by rw [hk.cell (p:=⟨0,i,none⟩) (Nat.lt_trans Nat.zero_lt_one h.gl.size) (hS 0 (Or.inl (Nat.zero_le _)))];exact h.gl.fld i x hx⟩,h.pl⟩
theorem Eg.new {w w':World}{P:Ep}{S:Egs}{m:Em}{t:Nat}(h:Eg w P S m t)(hb:Below w.heap.size w w'):Eg w' P S m t:=h.stay (G:=nob) (Kp.of_new hb) (fun _ _ h=>h) (fun _ _ h=>h)
theorem Glb.st {w w':World}{P:Ep}{G:Nat→Prop}(h:Glb w)(hk:Kp G w w')(hS:∀x,Gs P x→ ¬G x):Glb w':=
 ⟨fun i hi=>by rw [hk.cell (p:=⟨1,i,none⟩) h.size (hS 1 (Or.inl (Nat.le_refl _)))];exact h.tab i hi,fun i x hx=>by rw [hk.cell (p:=⟨0,i,none⟩) (Nat.lt_trans Nat.zero_lt_one h.size) (hS 0 (Or.inl (Nat.zero_le _)))];exact h.fld i x hx⟩
theorem Eg.dev {w w':World}{P:Ep}{S S':Egs}{m m':Em}{t t':Nat}(h:Eg w P S m t)(ht:t≤t')(hb:S'.b=S.b)(hw:S'.ws=S.ws)(hF:m'.Fb=m.Fb)(hv:m'.wv=m.wv)(hs:Step (Gd P m) (Gd P m') w w')(pw:Pw w' P.p P.z P.n S'.D m'.F m'.c 0)(wl:Wl w' P.l P.rl P.p P.z (2*P.k) (P.n-2*P.k) S'.L m'.v)(aw:Aw m'.F P.l P.rl m'.v)(pl:EgP P S' m'.c t'):
 Eg w' P S' m' t'∧Step (EF P m) (EF P m') w w':=by
 obtain ⟨l1,l2,l3,l4⟩:=h.lt;have hS:∀x,Gs P x→ ¬Gd P m x:=fun x hx hy=>h.ap.ad x hy hx
 have hGe:Ge P m'=Ge P m:=by unfold Ge;rw [hv]
 refine ⟨⟨⟨pw,h.dv.ra.kp hs.kp (hS _ (Or.inr (Or.inl rfl))),h.dv.rb.kp hs.kp (hS _ (Or.inr (Or.inr (Or.inl rfl)))),hs.kp.blk h.dv.ss (hS _ (Or.inr (Or.inr (Or.inr (Or.inr (Or.inl rfl)))))),wl,aw⟩,?_,?_,?_,h.gl.st hs.kp hS,pl⟩,?_⟩
 ·rw [hF,hb];exact (h.bk.stay hs.kp (fun x hx hy=>h.ap.ab x hy hx)).more (by omega)
 ·rw [hv,hw];exact h.en.stay hs.kp (fun hy=>h.ap.ac _ hy (Or.inl rfl)) (fun x hx hy=>h.ap.ac x hy (Or.inr hx)) (hS _ (Or.inr (Or.inr (Or.inr (Or.inr (Or.inr rfl))))))
 ·rw [hF,hGe];exact h.ap.a hs.sub l2 l3 l4
 ·refine ⟨hs.kp.mono (fun x hx=>Or.inl hx),fun x hx=>?_,fun x hx=>?_⟩
  ·rcases hx with e | e | e
   ·rcases hs.sub x e with e2 | e2
    ·exact Or.inl (Or.inl e2)
    ·exact Or.inr e2
   ·rw [hF] at e;exact Or.inl (Or.inr (Or.inl e))
   ·rw [hGe] at e;exact Or.inl (Or.inr (Or.inr e))
  ·have:=hs.kp.size;rcases hx with e | e | e
   ·exact hs.lt x e
   ·rw [hF] at e;have:=l2 x e;omega
   ·rw [hGe] at e;have:=l3 x e;omega
theorem Eg.book {w w':World}{P:Ep}{S S':Egs}{m m':Em}{t t':Nat}(h:Eg w P S m t)(hD:S'.D=S.D)(hL:S'.L=S.L)(hw:S'.ws=S.ws)(hF:m'.F=m.F)(hmv:m'.v=m.v)(hv:m'.wv=m.wv)(hc:m'.c=m.c)(hs:Step m.Fb m'.Fb w w')(bk:Bkk w' P.pb m'.Fb (2400+2*t') S'.b)(pl:EgP P S' m'.c t'):
 Eg w' P S' m' t'∧Step (EF P m) (EF P m') w w':=by
 obtain ⟨l1,l2,l3,l4⟩:=h.lt;have hS:∀x,Gs P x→ ¬m.Fb x:=fun x hx hy=>h.ap.bd x hy hx
 have hGe:Ge P m'=Ge P m:=by unfold Ge;rw [hv]
 have hGd:Gd P m'=Gd P m:=by unfold Gd;rw [hF,hmv]
 have hd:=h.dv.stay hs.kp (fun x hx hy=>h.ap.ab x hx hy) hS;refine ⟨⟨?_,bk,?_,?_,h.gl.st hs.kp hS,pl⟩,?_⟩
 ·rw [hD,hL];exact ⟨by rw [hF,hc];exact hd.pw,hd.ra,hd.rb,hd.ss,by rw [hmv];exact hd.wl,by rw [hF,hmv];exact hd.aw⟩
 ·rw [hv,hw];exact h.en.stay hs.kp (fun hy=>h.ap.bc _ hy (Or.inl rfl)) (fun x hx hy=>h.ap.bc x hy (Or.inr hx)) (hS _ (Or.inr (Or.inr (Or.inr (Or.inr (Or.inr rfl))))))
 ·rw [hGd,hGe];exact h.ap.b hs.sub l1 l3 l4
 ·refine ⟨hs.kp.mono (fun x hx=>Or.inr (Or.inl hx)),fun x hx=>?_,fun x hx=>?_⟩
  ·rcases hx with e | e | e
   ·rw [hGd] at e;exact Or.inl (Or.inl e)
   ·rcases hs.sub x e with e2 | e2
    ·exact Or.inl (Or.inr (Or.inl e2))
    ·exact Or.inr e2
   ·rw [hGe] at e;exact Or.inl (Or.inr (Or.inr e))
  ·have:=hs.kp.size;rcases hx with e | e | e
   ·rw [hGd] at e;have:=l1 x e;omega
   ·exact hs.lt x e
   ·rw [hGe] at e;have:=l3 x e;omega
theorem Eg.eng {w w':World}{P:Ep}{S S':Egs}{m m':Em}{t t':Nat}(h:Eg w P S m t)(ht:t≤t')(hb:S'.b=S.b)(hD:S'.D=S.D)(hL:S'.L=S.L)(hF:m'.F=m.F)(hmv:m'.v=m.v)(hFb:m'.Fb=m.Fb)(hc:m'.c=m.c)(hs:Step (Ge P m) (Ge P m') w w')(hd:w'.heap[P.e]?=some (.cells #[.bool true,.bool true,.pointer (some ⟨P.l,0,none⟩),.pointer (some ⟨P.s,0,none⟩),.pointer (some ⟨P.pb,0,none⟩),m'.wv,.map (some P.m)] 67 (0,0)))(ws:w'.ownsRow 0 50 7 m'.wv S'.ws.length (S'.ws.flatMap rpL))(we:m'.wv.ownBlock≠some P.e)(pl:EgP P S' m'.c t'):
 Eg w' P S' m' t'∧Step (EF P m) (EF P m') w w':=by
 obtain ⟨l1,l2,l3,l4⟩:=h.lt;have hS:∀x,Gs P x→ ¬Ge P m x:=fun x hx hy=>h.ap.cd x hy hx
 have hGd:Gd P m'=Gd P m:=by unfold Gd;rw [hF,hmv]
 have hd9:=h.dv.stay hs.kp (fun x hx hy=>h.ap.ac x hx hy) hS;refine ⟨⟨?_,?_,⟨hd,h.en.mp.kp hs.kp (hS _ (Or.inr (Or.inr (Or.inr (Or.inr (Or.inr rfl)))))),ws,we⟩,?_,h.gl.st hs.kp hS,pl⟩,?_⟩
 ·rw [hD,hL];exact ⟨by rw [hF,hc];exact hd9.pw,hd9.ra,hd9.rb,hd9.ss,by rw [hmv];exact hd9.wl,by rw [hF,hmv];exact hd9.aw⟩
 ·rw [hFb,hb];exact (h.bk.stay hs.kp (fun x hx hy=>h.ap.bc x hx hy)).more (by omega)
 ·rw [hGd,hFb];exact h.ap.c hs.sub l1 l2 l4
 ·refine ⟨hs.kp.mono (fun x hx=>Or.inr (Or.inr hx)),fun x hx=>?_,fun x hx=>?_⟩
  ·rcases hx with e | e | e
   ·rw [hGd] at e;exact Or.inl (Or.inl e)
   ·rw [hFb] at e;exact Or.inl (Or.inr (Or.inl e))
   ·rcases hs.sub x e with e2 | e2
    ·exact Or.inl (Or.inr (Or.inr e2))
    ·exact Or.inr e2
  ·have:=hs.kp.size;rcases hx with e | e | e
   ·rw [hGd] at e;have:=l1 x e;omega
   ·rw [hFb] at e;have:=l2 x e;omega
   ·exact hs.lt x e
theorem EgP.up {P:Ep}{S:Egs}{c t t':Nat}(h:EgP P S c t)(ht:t≤t')(h2:t'≤400):EgP P S c t':=
 ⟨h.so,h.sl.mono (by omega) (by omega),h.k2,h.kn,h.fi,Nat.le_trans h.lw ht,h.ok,by have:=h.cb;omega,by have:=h.lb;omega,h2⟩
theorem Eg.up {w:World}{P:Ep}{S:Egs}{m:Em}{t t':Nat}(h:Eg w P S m t)(ht:t≤t')(h2:t'≤400):Eg w P S m t':=⟨h.dv,h.bk.more (by omega),h.en,h.ap,h.gl,h.pl.up ht h2⟩
def EDo (w:World)(P:Ep)(m:Em)(t:Nat)(R:Egs×List Rp)(e:Ending)(w':World):Prop:=
 ∃v,e = .returned v∧ ∃m',w'.ownsRow 0 50 7 v R.2.length (R.2.flatMap rpL)∧Eg w' P R.1 m' t∧Step (EF P m) (EF P m') w w'
def EgH (w:World)(P:Ep)(wv:Value):Prop:=w.heap[P.e]?=some (.cells #[.bool true,.bool true,.pointer (some ⟨P.l,0,none⟩),.pointer (some ⟨P.s,0,none⟩),.pointer (some ⟨P.pb,0,none⟩),wv,.map (some P.m)] 67 (0,0))
theorem EgH.set {w:World}{P:Ep}{wv:Value}(h:EgH w P wv)(u:Value):EgH (w.setCell ⟨P.e,5,none⟩ u) P u:=heap_setCell_same w P.e 5 _ 67 u h
theorem info50:(Tryz.prog.info? 50).map (fun i=>(i.zero,i.size,i.bytes))=some (some (.agg #[.int .u32 0,.int .i64 0,.int .i64 0,.int .u32 0,.int .i64 0,.int .i64 0,.int .i64 0]),7,56):=by kernel_rfl
theorem erelease_any (P:Ep)(oa:Option Addr)(n c:Nat)(w:World)(h:EgH w P (.slice oa n c)):Calls Tryz.prog 143 #[.pointer (some ⟨P.e,0,none⟩)] w fun o w'=>o = .returned (.slice oa n c)∧w'=w.setCell ⟨P.e,5,none⟩ (.slice none 0 0):=by
 obtain ⟨c0,f0,c1,f1,c2,f2,c3,f3,c4,f4,c5,f5,c6,f6⟩:=cells7 h;clear h;go_enter Tryz.func143,Tryz.ntmps143;go_wp2_with fail;go_ret;exact ⟨rfl,rfl⟩
theorem own_row7 {w:World}{g base:Nat}{r:Rp}(hg:w.heap[g]?=some (.cells (rpL r).toArray 50 (0,0)))(hb:base≤g):w.ownsRow base 50 7 (.slice (some ⟨g,0,none⟩) 1 1) 1 (rpL r):=
 ⟨rfl,Or.inr ⟨g,1,_,rfl,hb,hg,Nat.le_refl _,by unfold maxLen;decide,rfl,rfl⟩⟩
theorem erefusal_any (q:Rq)(n:Nat)(w:World):Calls Tryz.prog 18 #[.agg (rqC q.k q.tag q.id q.seat q.ttl),.int .i64 n] w fun o w'=> ∃v,o = .returned v∧w'.ownsRow w.heap.size 50 7 v 1 (rpL (errP q n))∧Below w.heap.size w w':=by
 unfold rqC;go_enter Tryz.func18,Tryz.ntmps18;go_wp2_with fail;go_ret;have N:=new2 w (.cells #[.int .i64 q.k,.int .u32 q.tag,.int .u32 q.id,.int .i64 q.seat,.int .i64 q.ttl] 48) (.cells #[.int .u32 q.tag,.int .i64 q.k,.int .i64 n,.int .u32 0,.int .i64 0,.int .i64 0,.int .i64 0] 50);exact ⟨_,rfl,own_row7 (r:=errP q n) N.2.1 (by omega),N.2.2.2⟩
theorem ecounted_any (P:Ep)(q:Rq)(wv:Value)(rs:List Rp)(w:World)(h:EgH w P wv)(hw:w.ownsRow 0 50 7 wv rs.length (rs.flatMap rpL))(hwe:wv.ownBlock≠some P.e)(hl:rs.length≤1000):
 Calls Tryz.prog 137 #[.pointer (some ⟨P.e,0,none⟩),.agg (rqC q.k q.tag q.id q.seat q.ttl)] w fun o w'=> ∃v,o = .returned v∧w'.ownsRow 0 50 7 v (rs.length+1) ((rs++[cntP q rs.length]).flatMap rpL)∧EgH w' P (.slice none 0 0)∧Kp (fun x=>x=P.e∨wv.ownBlock=some x) w w':=by
 obtain ⟨oa,rn,rfl,_,_⟩:=own_form hw;obtain ⟨W,hW⟩:∃W,w.alloc (.cells #[.int .i64 q.k,.int .u32 q.tag,.int .u32 q.id,.int .i64 q.seat,.int .i64 q.ttl] 48)=W:=⟨_,rfl⟩;have N:=new1 w (.cells #[.int .i64 q.k,.int .u32 q.tag,.int .u32 q.id,.int .i64 q.seat,.int .i64 q.ttl] 48);rw [hW] at N;have hel:=heap_lt h;have h1:EgH W P (.slice oa rs.length rn):=Bl.blk N.2.2 h;have HRE:=hid (erelease_any P oa rs.length rn W h1);have hk1:Kp (fun x=>x=P.e) W (W.setCell ⟨P.e,5,none⟩ (.slice none 0 0)):=Kp.setCell (F:=fun x=>x=P.e) (Kp.refl _ W) (p:=⟨P.e,5,none⟩) rfl _;obtain ⟨W1,hW1⟩:∃W1,W.setCell ⟨P.e,5,none⟩ (.slice none 0 0)=W1:=⟨_,rfl⟩;rw [hW1] at hk1;have h2:EgH W1 P (.slice none 0 0):=by rw [←hW1];exact h1.set _
 have hq:=hk1.blk N.1 (by omega);have ho1:=own_kp (own_below hw N.2.2 (Nat.le_refl _)) hk1 (fun x hx e=>hwe (by rw [hx,e]));have N2:=new1 W1 (.cells #[.int .u32 q.tag,.int .i64 q.k,.int .i64 0,.int .u32 0,.int .i64 0,.int .i64 0,.int .i64 rs.length] 50);have ho2:=own_below ho1 N2.2.2 (Nat.le_refl _);obtain ⟨i0,hi0,hz0,hz1,hz2⟩:=info_parts info50;obtain ⟨q0,_,q1,_,q2,_,q3,_,q4,_⟩:=cells5 hq;have HW1:=hid hW1;have HI0:=hid hi0;have HZ2:=hid hz2;have HO2:=hid ho2;have HN2:=hid N2;have HN:=hid N;have HK1:=hid hk1;have HH2:=hid h2;have HWE:=hid hwe;have HEL:=hid hel;clear h hw hwe h1 hk1 h2 hq ho1 N2 ho2 hi0 hz2 hW1 N hel;unfold rqC;go_enter Tryz.func137,Tryz.ntmps137;go_wp2_with fail;refine HRE.out.mono ?_;rintro e w1 ⟨rfl,rfl⟩;rw [HW1.out];go_wp2_with (at_builtin;go_loud (refine wpList_append_own_at _ rfl _ _ 64 rfl 0 50 i0 (.agg #[.int .u32 0,.int .i64 0,.int .i64 0,.int .u32 0,.int .i64 0,.int .i64 0,.int .i64 0]) 7 56 Tryz.underlying64 HI0.out hz0 hz1 HZ2.out (by rfl) (by decide) (.slice oa rs.length rn) rs.length (rs.flatMap rpL) rfl HO2.out ⟨W1.heap.size,0,none⟩ 1 1 (rpL (cntP q rs.length)) rfl rfl (World.news_of_block HN2.out.1) (by simp [rpL,Value.oneCell']) (by unfold maxLen;omega) (by omega) (Nat.zero_le _) ?_;intro v4 w4 hown hgrow _ hat));have HOW:=hid hown;have HGR:=hid hgrow;clear hown hgrow hat;go_ret;have hg2:Kp (fun x=>(Value.slice oa rs.length rn).ownBlock = some x) W1 w4:=(Kp.of_new HN2.out.2.2).grown HGR.out (fun k hk=>Or.inl hk);refine ⟨_,rfl,?_,hg2.blk HH2.out HWE.out,?_⟩
 ·rw [List.flatMap_append];simpa using HOW.out
 ·exact ((Kp.of_new HN.out.2.2).trans (HK1.out.mono (fun x e=>Or.inl e))).trans (hg2.mono (fun x e=>Or.inr e))
end
end Go.Proofs.YtdjiopacieadpaaGreatDoor

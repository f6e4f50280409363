/- pdgControl.proved: for every input the law returns true. No condition. Part 6 of 7. -/
import Derived.Test.YtcbnbgpphippoaaGreatZ5
set_option maxRecDepth 1000000
set_option maxHeartbeats 8000000
set_option linter.unusedVariables false
set_option linter.unusedSimpArgs false
set_option linter.unnecessarySimpa false
set_option linter.defProp false
namespace Go.Proofs.YtcbnbgpphippoaaGreat
open Go Tryz
theorem ba4{n:Nat}{next:List (List Int)}:∀(m:Nat) {f:List (List Bool)},SqM n f→bE4 n next f→m+1≤n→SqM n (F4 next f m)∧bE4 n next (F4 next f m)∧(∀c,m≤c→(F4 next f m).getD c []=f.getD c [])∧as5 (F4 next f m)≤as5 f∧(as5 (F4 next f m)=as5 f→F4 next f m=f∧∀a,a<m→R1 next f a=f.getD a [])
 | 0,f,hs,hd,_=>⟨hs,hd,fun _ _=>rfl,ex0 _,fun _=>⟨rfl,fun a h=>by omega⟩⟩
 | m+1,f,hs,hd,hm=>by
  obtain⟨s1,s2,s3,s4⟩:=bm3 hs hd (a:=m) (by omega);obtain⟨r1,r2,r3,r4,r5⟩:=ba4 m s1 s2 (by omega);rw[F4];refine⟨r1,r2,fun c hc=>?_,?_⟩
  ·rw[r3 c (by omega)];show(f.set m (R1 next f m)).getD c []=_;rw[aE0 c (by rw[hs.len];omega),if_neg (by omega)]
  ·by_cases h:R1 next f m=f.getD m []
   ·rw[s3 h]at r4 r5 ⊢;refine⟨r4,fun e=>⟨(r5 e).1,fun a ha=>?_⟩⟩;rcases ez4 a m with h2|h2
    ·exact(r5 e).2 a h2
    ·obtain rfl:a=m:=by omega
     exact h
   ·have:=s4 h;exact⟨by omega,fun e=>by omega⟩
theorem aC3{n:Nat}{next:List (List Int)}{m:Nat}(hm:m+1≤n):∀(k:Nat) {f:List (List Bool)},SqM n f→bE4 n next f→as5 f<k→SqM n (N9 next m k f)∧(∀a,a<m→R1 next (N9 next m k f) a=(N9 next m k f).getD a [])∧∀c,m≤c→(N9 next m k f).getD c []=f.getD c []
 | 0,f,_,_,h=>by omega
 | k+1,f,hs,hd,h=>by
  obtain⟨r1,r2,r3,r4,r5⟩:=ba4 m hs hd hm;rw[N9];by_cases e:as5 (F4 next f m)=as5 f
  ·obtain⟨e1,e2⟩:=r5 e;rw[e1,av6 e1];exact⟨hs,e2,fun _ _=>rfl⟩
  ·obtain⟨q1,q2,q3⟩:=aC3 hm k r1 r2 (by omega);exact⟨q1,q2,fun c hc=>(q3 c hc).trans (r3 c hc)⟩
theorem bt1(wy:Wy){M:Nat}(hM:wy.n=(M:Int))(h2:2≤M){a b:Nat}(ha:a+1<M)(hb:b<M):mAt wy.follow a b=(decide (a=b)||((ac2 M (wy.pairs wy.aug)).getD a []).all fun c=>mAt wy.follow c.toNat b):=by
 have hF:wy.follow=N9 (ac2 M (wy.pairs wy.aug)) (M-1) (M*M+1) (M0 M):=by unfold Wy.follow;rw[hM,ex8]
 have hc:=bd1 M (M0 M) (N3 M).row;rw[(N3 M).len]at hc;obtain⟨q1,q2,_⟩:=aC3 (next:=ac2 M (wy.pairs wy.aug)) (m:=M-1) (by omega) (M*M+1) (N3 M) (aC1 M _) (by omega);rw[←hF]at q1 q2;have:=q2 a (by omega);unfold mAt at *;rw[←this,aH2 q1 (by omega),eE8 hb,eC1];rfl
theorem bR8(wy:Wy){M:Nat}(hM:wy.n=(M:Int))(h2:2≤M){b:Nat}(hb:b<M):mAt wy.follow (M-1) b=decide (M-1=b):=by
 have hF:wy.follow=N9 (ac2 M (wy.pairs wy.aug)) (M-1) (M*M+1) (M0 M):=by unfold Wy.follow;rw[hM,ex8]
 have hc:=bd1 M (M0 M) (N3 M).row;rw[(N3 M).len]at hc;obtain⟨_,_,q3⟩:=aC3 (next:=ac2 M (wy.pairs wy.aug)) (m:=M-1) (by omega) (M*M+1) (N3 M) (aC1 M _) (by omega);have e:mAt wy.follow (M-1) b=mAt (M0 M) (M-1) b:=by
  unfold mAt;rw[hF,q3 (M-1) (ex0 _)]
 rw[e,aL0 (by omega) hb];have:decide (M-1+1<M)=false:=eG0 (by omega);rw[this,eH7]
def bq6(s:Sh)(it:It)(t:Int):Prop:=t∈s.goes it∨(⟨it.s.id,t,2⟩:Sp)∈O5 it
theorem bh4{l:List St}(h:l≠[])(o:Int):ae3 l o=ae3 l 0:=by
 cases l with
 | nil=>exact absurd rfl h
 | cons t l=>rfl
theorem bU9(s:Sh)(it:It):bq6 s it it.next∨(it.s.kind=5∧it.s.thn≠[]):=by
 unfold bq6 Sh.goes O5;by_cases h5:it.s.kind=5
 ·by_cases hn:it.s.thn=[]
  ·left;left;rw[if_pos h5,hn];simp[ae3]
  ·exact .inr ⟨h5,hn⟩
 ·left;by_cases hj:it.s.kind=7∨it.s.kind=8∨it.s.kind=9∨it.s.kind=10
  ·right;rw[if_pos hj];simp
  ·left;rw[if_neg h5];by_cases h6:it.s.kind=6
   ·rw[if_pos h6];simp
   ·rw[if_neg h6,if_neg (by omega),if_neg (by omega),if_neg (by omega),if_neg (by omega)];simp
theorem cu6(s:Sh)(it:It)(h:it.s.kind=5∨it.s.kind=6)(hne:it.s.thn≠[]):ae3 it.s.thn 0∈s.goes it:=by
 unfold Sh.goes;rcases h with h|h
 ·rw[if_pos h,bh4 hne];simp
 ·rw[if_neg (by omega),if_pos h,bh4 hne];simp
theorem cu5(s:Sh)(it:It)(h:it.s.kind=5)(hne:it.s.els≠[]):ae3 it.s.els 0∈s.goes it:=by
 unfold Sh.goes;rw[if_pos h,bh4 hne it.next];simp
mutual
theorem bG6(s:Sh):∀(t:St) (k:Nat) (pr up nx lp:Int),∃it∈R6 t k pr up nx lp,bq6 s it nx
 | .mk id kind labels name proc x has args thn els,k,pr,up,nx,lp=>by
  rw[M9];have root:=bU9 s ⟨.mk id kind labels name proc x has args thn els,pr,up,nx,lp⟩;rcases root with h|⟨(h5:kind=5),(hne:thn≠[])⟩
  ·exact⟨_,List.mem_cons_self,h⟩
  ·have h6:¬(St.mk id kind labels name proc x has args thn els).kind=6:=by show ¬kind=6;omega
   obtain⟨it,hit,hf⟩:=bs8 s thn hne (k+1) pr ((k:Int)+1) (if(St.mk id kind labels name proc x has args thn els).kind=6 then(k:Int)+1 else nx) (if(St.mk id kind labels name proc x has args thn els).kind=6 then(k:Int)+1 else lp);refine⟨it,eA7 _ (ey9 _ hit),?_⟩;rw[if_neg h6]at hf;exact hf
theorem bs8(s:Sh):∀(l:List St),l≠[]→∀(k:Nat) (pr up nx lp:Int),∃it∈C0 l k pr up nx lp,bq6 s it nx
 | [],h,_,_,_,_,_=>absurd rfl h
 | [t],_,k,pr,up,nx,lp=>by
  obtain⟨it,hit,hf⟩:=bG6 s t k pr up nx lp;exact⟨it,by rw[C0];exact ey9 _ (by simpa using hit),hf⟩
 | t::u::l,_,k,pr,up,nx,lp=>by
  obtain⟨it,hit,hf⟩:=bs8 s (u::l) (by simp) _ pr up nx lp;exact⟨it,by rw[C0];exact eA8 _ hit,hf⟩
end
theorem bG7{t:St}{k:Fl}(h:R4 t=some k):(k.thn=true→t.kind=5∨t.kind=6)∧(k.els=true→t.kind=5):=by
 unfold R4 at h;by_cases h5:t.kind=5
 ·exact⟨fun _=>.inl h5,fun _=>h5⟩
 by_cases h6:t.kind=6
 ·refine⟨fun _=>.inr h6,fun he=>?_⟩;rw[if_neg (by omega),if_neg (by omega),if_neg (by omega),if_neg (by omega),if_neg h5,if_pos h6]at h;rw[←ex1 h]at he;cases he
 ·rw[if_neg h5,if_neg h6]at h;have:k.thn=false∧k.els=false:=by
   repeat' split at h
   all_goals first
    | (rw[←ex1 h];exact⟨rfl,rfl⟩)
    | cases h
  exact⟨fun e=>(by rw[this.1]at e;cases e),fun e=>(by rw[this.2]at e;cases e)⟩
theorem bR4{t:St}(h:M8 t=true):(t.thn≠[]→t.kind=5∨t.kind=6)∧(t.els≠[]→t.kind=5):=by
 have hl:∀l:List St,l≠[]→decide (0<l.length)=true:=fun l h=>eE8 (List.length_pos_iff.2 h);unfold M8 at h;split at h
 ·cases h
 ·next k hk=>
  obtain⟨h1,h2⟩:=bG7 hk;simp only[ex4,Bool.not_eq_true',Bool.or_eq_false_iff]at h;obtain⟨⟨⟨⟨⟨⟨⟨_,a1⟩,a2⟩,_⟩,_⟩,_⟩,_⟩,_⟩:=h;constructor
  ·intro hn;rw[hl _ hn,Bool.and_true,Bool.not_eq_false']at a1;exact h1 a1
  ·intro hn;rw[hl _ hn,Bool.and_true,Bool.not_eq_false']at a2;exact h2 a2
theorem cb5{d:Nat}{l:List St}{n m:Int}(h:G6 d l n=some m)(hne:l≠[])(o:Int):ae3 l o=n+1:=by
 cases l with
 | nil=>exact absurd rfl hne
 | cons t l=>
  cases d with
  | zero=>simp[G6]at h
  | succ d=>
   rw[ao2]at h;obtain⟨m1,h1,_⟩:=eB4.1 h;split at h1
   ·cases h1
   ·rename_i hc;show t.id=n+1;exact eF8 fun h=>hc (.inr (.inl h))
mutual
theorem cP5(s:Sh):∀(t:St) (d k:Nat) (m:Int) (pr up nx lp:Int),t.id=(k:Int)+1→M8 t=true→((G6 d t.thn ((k:Int)+1)).bind fun m=>G6 d t.els m)=some m→∀it∈R6 t k pr up nx lp,it.s.id=(k:Int)+1∨∃u∈R6 t k pr up nx lp,u.s.id<it.s.id∧bq6 s u it.s.id
 | .mk id kind labels name proc x has args thn els,d,k,m,pr,up,nx,lp,hid,hfl,h,it,hit=>by
  obtain⟨hf1,hf2⟩:=bR4 hfl;simp only[St.id,St.thn,St.els,St.kind]at hid h hf1 hf2;obtain⟨m1,h1,h2⟩:=eB4.1 h;have c1:=(av9 thn d _ _ h1).1;rw[M9]at hit ⊢;simp only[St.thn,St.els,St.kind]at hit ⊢;rcases ex6.1 hit with rfl|hit
  ·exact .inl hid
  right;rcases ew8.1 hit with hit|hit
  ·have hne:thn≠[]:=fun e=>by rw[e]at hit;simp[C0]at hit
   rcases aQ2 s thn d (k+1) m1 _ _ _ _ (by rw[←h1];congr 1) it hit with e|⟨u,hu,h3,h4⟩
   ·refine⟨_,List.mem_cons_self,by show id<_;omega,.inl ?_⟩;have hh:=cb5 h1 hne 0;have:=cu6 s ⟨.mk id kind labels name proc x has args thn els,pr,up,nx,lp⟩ (hf1 hne) hne;simp only[St.thn,hh]at this;rw[show it.s.id=(k:Int)+1+1 by omega];exact this
   ·exact⟨u,eA7 _ (ey9 _ hu),h3,h4⟩
  ·have hne:els≠[]:=fun e=>by rw[e]at hit;simp[C0]at hit
   have h5:=hf2 hne;rcases aQ2 s els d (k+1+A6 thn) m _ _ _ _ (by rw[←h2];congr 1;omega) it hit with e|⟨u,hu,h3,h4⟩
   ·refine⟨_,List.mem_cons_self,by show id<_;omega,.inl ?_⟩;have hh:=cb5 h2 hne 0;have:=cu5 s ⟨.mk id kind labels name proc x has args thn els,pr,up,nx,lp⟩ h5 hne;simp only[St.els,hh]at this;rw[show it.s.id=m1+1 by omega];exact this
   ·exact⟨u,eA7 _ (eA8 _ hu),h3,h4⟩
theorem aQ2(s:Sh):∀(l:List St) (d k:Nat) (m:Int) (pr up nx lp:Int),G6 d l (k:Int)=some m→∀it∈C0 l k pr up nx lp,it.s.id=(k:Int)+1∨∃u∈C0 l k pr up nx lp,u.s.id<it.s.id∧bq6 s u it.s.id
 | [],_,_,_,_,_,_,_,_,it,hit=>by simp[C0]at hit
 | t::l,0,k,m,pr,up,nx,lp,h,it,hit=>by simp[G6]at h
 | t::l,d+1,k,m,pr,up,nx,lp,h,it,hit=>by
  rw[ao2]at h;obtain⟨m1,h1,h2⟩:=eB4.1 h;split at h1
  ·cases h1
  rename_i hc;have hid:t.id=(k:Int)+1:=eF8 fun h=>hc (.inr (.inl h));have hfl:M8 t=true:=by
   cases hq:M8 t with
   | true=>rfl
   | false=>exact absurd (.inr (.inr (.inr hq))) hc
  obtain⟨c1,i1⟩:=cx3 t d k m1 hid h1;rw[C0]at hit ⊢;simp only[V4]at hit ⊢;rcases ew8.1 hit with hit|hit
  ·rcases cP5 s t d k m1 _ _ _ _ hid hfl h1 it hit with e|⟨u,hu,h3,h4⟩
   ·exact .inl e
   ·exact .inr ⟨u,ey9 _ hu,h3,h4⟩
  ·right;have hl:¬l.length=0:=fun e=>by rw[List.length_eq_zero_iff.1 e]at hit;simp[C0]at hit
   rcases aQ2 s l (d+1) (k+T8 t) m _ _ _ _ (by rw[←h2];congr 1;omega) it hit with e|⟨u,hu,h3,h4⟩
   ·obtain⟨u,hu,hf⟩:=bG6 s t k pr up (if l.length=0 then nx else(k:Int)+1+T8 t) lp;have hus:u.s.id≤(k:Int)+T8 t:=by
     obtain⟨j,hj⟩:=List.getElem?_of_mem hu;have:=i1 _ _ _ _ _ _ _ hj;have hjl:=(ev9.1 hj).1;rw[V4]at hjl;omega
    refine⟨u,ey9 _ hu,by omega,?_⟩;rw[if_neg hl]at hf;rw[show it.s.id=(k:Int)+1+T8 t by omega];exact hf
   ·exact⟨u,eA8 _ hu,h3,h4⟩
end
theorem ci6{p:Pg}{i:Nat}(hr:E2 p)(hw:D0 p≤1000000)(hi:i<p.procs.length):((p6 p).edges (i:Int)).length≤60000000:=by
 have h1:=aX4 hr hw hi;have h2:(((p6 p).verts (i:Int)).flatMap (E5 p.procs[i].name)).length≤((p6 p).verts (i:Int)).length*1:=Q9 _ 1 _ fun v _=>aR2 _ v;have h3:=bw9 hr hw hi;have h4:=bs9 hr hw hi;have h5:(((p6 p).flows (i:Int)).flatMap fun f=>((p6 p).takers p.procs[i].name f.dst f.var).map fun v=>(⟨(p6 p).giver p.procs[i].name f.src f.var,v,2⟩:Eg)).length≤((p6 p).flows (i:Int)).length*9:=Q9 _ 9 _ fun f hf=>by
  rw[ew5];exact aM3 hr hw (aY4 hr hw hi hf).2
 have hF:(p6 p).edge0 (i:Int)=(D5 (b9 p) i).decides.map (U6 p.procs[i].name)++((p6 p).verts (i:Int)).flatMap (E5 p.procs[i].name)++((p6 p).flows (i:Int)).flatMap fun f=>((p6 p).takers p.procs[i].name f.dst f.var).map fun v=>(⟨(p6 p).giver p.procs[i].name f.src f.var,v,2⟩:Eg):=by
  unfold Bk.edge0;rw[S6 hi,K8 hi]
 unfold Bk.edges bm0;refine ew2 (aF4 _) ?_;rw[(F6 cM5 _).length_eq,hF];simp only[ev7,ew5]at *;omega
theorem cg8{p:Pg}(K:Known p){q:A4}(hq:q∈p.procs.map (·.name))(hR:T2 p=true):∃(i:Nat) (hi:i<p.procs.length),by0 p q i∧p.procs[i].name=q:=by
 obtain⟨i,hi,e,hn⟩:=U3 hq;refine⟨i,hi,⟨hR,?_,hi⟩,hn⟩;unfold Sh.pr at e;rw[I5]at e;exact e
theorem aT3{z:Sp}:∀(l:List Sp) (q:Sp),z∈l→ah6 z q=true∨∃u∈ac8 ah6 q l,ah6 u z=true
 | [],_,h=>by cases h
 | y::l,q,h=>by
  have hr:∀a:Sp,ah6 a a=true:=fun a=>by simp[ah6]
  have hs:∀a b:Sp,ah6 a b=true→ah6 b a=true:=fun a b h=>by
   simp only[ah6,ex4,ez1]at *;exact⟨h.1.symm,h.2.symm⟩
  rw[ac8];split
  ·next hy=>
   rcases ex6.1 h with rfl|h
   ·exact .inl hy
   ·rcases aT3 l y h with h|h
    ·left;simp only[ah6,ex4,ez1]at *;exact⟨h.1.trans hy.1,h.2.trans hy.2⟩
    ·exact .inr h
  ·rcases ex6.1 h with rfl|h
   ·exact .inr ⟨_,List.mem_cons_self,hr _⟩
   ·rcases aT3 l y h with h|⟨u,hu,e⟩
    ·exact .inr ⟨y,List.mem_cons_self,hs _ _ h⟩
    ·exact .inr ⟨u,eA7 _ hu,e⟩
theorem bD0{z:Sp}{l:List Sp}(h:z∈l):∃u∈Y5 l,u.src=z.src∧u.dst=z.dst:=by
 have h1:z∈T9 cn7 l:=(F6 _ _).mem_iff.2 h;unfold Y5;have e:∀u:Sp,ah6 u z=true→u.src=z.src∧u.dst=z.dst:=fun u h=>by
  simpa[ah6]using h
 generalize T9 cn7 l=m at h1;cases m with
 | nil=>cases h1
 | cons y m=>
  rw[ac7];rcases ex6.1 h1 with rfl|h1
  ·exact⟨_,List.mem_cons_self,rfl,rfl⟩
  ·rcases aT3 m y h1 with h|⟨u,hu,h⟩
   ·have:=e y (by simp only[ah6,ex4,ez1]at *;exact⟨h.1.symm,h.2.symm⟩);exact⟨y,List.mem_cons_self,this⟩
   ·exact⟨u,eA7 _ hu,e u h⟩
section
variable {p:Pg} {i x y:Nat} {wy:Wy}
theorem da9(hok:ae1 p i x y wy):wy.aug=Y5 (wy.virtual++Y5 (⟨0,(b9 p).first i,1⟩::((b9 p).of i).flatMap fun it=>((b9 p).goes it).map fun t=>⟨it.s.id,t,1⟩)++[⟨0,-1,2⟩]++((b9 p).of i).flatMap O5):=by
 unfold Wy.aug;rw[hok.s,hok.proc,hok.real];rfl
theorem aP6(hok:ae1 p i x y wy){z:Sp}(h:z∈(⟨0,(b9 p).first i,1⟩::((b9 p).of i).flatMap fun it=>((b9 p).goes it).map fun t=>(⟨it.s.id,t,1⟩:Sp))∨z=⟨0,-1,2⟩∨z∈((b9 p).of i).flatMap O5):(wy.index z.src,wy.index z.dst)∈wy.pairs wy.aug:=by
 have key:∃u∈wy.aug,u.src=z.src∧u.dst=z.dst:=by
  rw[da9 hok];rcases h with h|h|h
  ·obtain⟨u,hu,e1,e2⟩:=bD0 h;obtain⟨u2,hu2,e3,e4⟩:=bD0 (l:=wy.virtual++Y5 (⟨0,(b9 p).first i,1⟩::((b9 p).of i).flatMap fun it=>((b9 p).goes it).map fun t=>⟨it.s.id,t,1⟩)++[⟨0,-1,2⟩]++((b9 p).of i).flatMap O5) (ey9 _ (ey9 _ (eA8 _ hu)));exact⟨u2,hu2,e3.trans e1,e4.trans e2⟩
  ·exact bD0 (ey9 _ (eA8 _ (by rw[h];exact List.mem_singleton_self _)))
  ·exact bD0 (eA8 _ h)
 obtain⟨u,hu,e1,e2⟩:=key;unfold Wy.pairs;exact ey1.2 ⟨u,hu,by rw[e1,e2]⟩
theorem cA9(hm:M4 p=true)(hw:D0 p≤1000000)(hi:i<p.procs.length)(hok:ae1 p i x y wy){b:Nat}(h1:1≤b)(h2:x+b≤y):∃a:Nat,a<b∧((a:Int),(b:Int))∈wy.pairs wy.aug:=by
 obtain⟨q1,q2,q3⟩:=hok.part.at_ ((x+b:Nat):Int) (by omega) (by omega);generalize(b9 p).it ((x+b:Nat):Int)=it at q1 q2 q3;have hidx:wy.index ((x+b:Nat):Int)=(b:Int):=by
  rw[hok.toWyOk.index,if_neg (by omega),if_neg (by omega),if_pos (by omega)];omega
 obtain⟨x',hok',hof⟩:=T7 p hw i hi;have hx:x'=x:=by
  have:=hok'.lo.symm.trans hok.part.ok.lo;have:=ex1 this;omega
 subst hx;obtain⟨n,m,hpf⟩:=bj9 hm hi;have hrow:=(aD5 hpf).2.2.2;obtain⟨hc,hids⟩:=av9 _ _ _ _ hrow;have hall:=hof ▸ q1;have hn:n=(x':Int):=by
  obtain⟨j,hj⟩:=List.getElem?_of_mem hall;have a1:=hids _ _ _ _ _ _ _ hj;have hj2:=hj;rw[←hof,hok.part.ok.of_,eE1,eE2]at hj2;split at hj2
  ·have a2:=au0 hm _ _ hj2;omega
  ·cases hj2
 rw[hn]at hrow;rcases aQ2 (b9 p) _ _ _ _ (i:Int) 0 (-1) 0 hrow it hall with e|⟨u,hu,e1,e2⟩
 ·have hb:b=1:=by omega
  subst hb;refine⟨0,by omega,?_⟩;have:=aP6 hok (z:=⟨0,(b9 p).first i,1⟩) (.inl List.mem_cons_self);have hf:(b9 p).first i=((x'+1:Nat):Int):=by
   unfold Sh.first V2;simp only[ex8,List.getD,hok.part.ok.lo,hok.part.ok.hi,eA9];rw[if_pos (by omega)];omega
  simp only at this;rw[hf,hidx,hok.toWyOk.index,if_pos rfl]at this;exact this
 ·rw[←hof]at hu;obtain⟨r1,r2⟩:=hok.part.ids u hu;refine⟨(u.s.id-x').toNat,by omega,?_⟩;have hp:(wy.index u.s.id,wy.index ((x'+b:Nat):Int))∈wy.pairs wy.aug:=by
   rw[←q2];rcases e2 with e2|e2
   ·exact aP6 hok (z:=⟨u.s.id,it.s.id,1⟩) (.inl (eA7 _ (ez5.2 ⟨u,hu,ey1.2 ⟨_,e2,rfl⟩⟩)))
   ·exact aP6 hok (z:=⟨u.s.id,it.s.id,2⟩) (.inr (.inr (ez5.2 ⟨u,hu,e2⟩)))
  have hiu:wy.index u.s.id=(((u.s.id-x').toNat:Nat):Int):=by
   rw[hok.toWyOk.index,if_neg (by omega),if_neg (by omega),if_pos (by omega)];omega
  rw[hidx,hiu]at hp;exact hp
theorem cM3(hr:E2 p)(hw:D0 p≤1000000)(hi:i<p.procs.length)(hok:ae1 p i x y wy){P:Int→Prop}(h0:P 0)(hs:∀d∈wy.decides,P d.1→P d.2):∀b:Nat,x+b≤y→1≤b→P ((x+b:Nat):Int):=by
 have hn:=hok.n;have B3:=hok.part.ok.le;obtain⟨M,hM⟩:∃M:Nat,wy.n=(M:Int):=⟨wy.n.toNat,by omega⟩;have hM2:2≤M:=by omega
 have hpl:∀b:Nat,x+b≤y→1≤b→wy.place (b:Int)=((x+b:Nat):Int):=fun b h1 h2=>by
  rw[hok.toWyOk.place,if_neg (by omega),if_neg (by omega)];omega
 intro b
 induction b using Nat.strongRecOn with
 | ind b ih=>
 intro hb h1;have f0:mAt wy.follow 0 b=false:=by
  rw[bt1 wy hM hM2 (by omega) (by omega)];have hpr:(wy.index 0,wy.index (-1))∈wy.pairs wy.aug:=aP6 hok (z:=⟨0,-1,2⟩) (.inr (.inl rfl));have i0:wy.index 0=0:=by rw[hok.toWyOk.index,if_pos rfl]
  have i1:wy.index (-1)=wy.n-1:=by rw[hok.toWyOk.index,if_neg (by decide),if_pos rfl]
  rw[i0,i1]at hpr;have hrow:∀(ps:List (Int×Int)) (e:Int),((0:Int),e)∈ps→e∈(ac2 M ps).getD 0 []:=fun ps e he=>by
   rw[List.getD,bj2 ps (show 0<M by omega),eA9];exact ey1.2 ⟨(0,e),ey5.2 ⟨he,by simp⟩,rfl⟩
  have hrow:=hrow _ _ hpr;rw[eG0 (by omega),eH7,List.all_eq_false];refine⟨_,hrow,?_⟩;rw[show(wy.n-1).toNat=M-1 by omega,bR8 wy hM hM2 (by omega),eG0 (by omega)];simp
 have key:∀s:Nat,s≤b→1≤s→mAt wy.follow s b=true→∃a,a<b∧ac1 wy.follow M (wy.pairs wy.aug) a b=true:=by
  intro s
  induction s using Nat.strongRecOn with
  | ind s ih2=>
  intro hsb hs1 hf;obtain⟨a,ha,hp⟩:=cA9 hr.may hw hi hok hs1 (by omega);cases hfa:mAt wy.follow a b with
  | true=>
   have ha0:a≠0:=fun e=>by rw[e,f0]at hfa;cases hfa
   exact ih2 a ha (by omega) (by omega) hfa
  | false=>
   refine⟨a,by omega,?_⟩;unfold ac1;rw[eE8 h1,eE8 (show b+1<M by omega),eC1,eC1,eH6];refine⟨_,hp,?_⟩;simp only[ex8,hf,hfa];simp
 obtain⟨a,ha,hd⟩:=key b (ex0 _) h1 (by rw[bt1 wy hM hM2 (by omega) (by omega)];simp);have hin:(wy.place (a:Int),wy.place (b:Int))∈wy.decides:=by
  rw[av1 hM];exact ez5.2 ⟨a,ez3.2 (by omega),ey1.2 ⟨b,ey5.2 ⟨ez3.2 (by omega),hd⟩,rfl⟩⟩
 have:=hs _ hin;simp only[hpl b hb h1]at this;refine this ?_;rcases Nat.eq_zero_or_pos a with rfl|ha0
 ·rw[hok.toWyOk.place,if_pos (by simp)];exact h0
 ·rw[hpl a (by omega) ha0];exact ih a ha (by omega) ha0
end
structure dC6 (q:A4) (V:List Vx) (L:List Eg):Prop where
 efew:L.length≤60000000
 vfew:V.length≤5000
 nodup:V.Nodup
 entry:(⟨q,1,0,e0⟩:Vx)∈V
 into:∀e∈L,e.kind=1→e.dst∈V∧e.dst.kind≠1
 all:∀S:List Vx,(⟨q,1,0,e0⟩:Vx)∈S→(∀e∈L,e.kind=1→e.src∈S→e.dst∈S)→∀v∈V,v∈S
theorem df2{p:Pg}{i:Nat}:((b9 p).of i).length≤(b9 p).l.length:=by
 unfold Sh.of;rw[eD0,ew9];omega
theorem db7{p:Pg}{q:A4}{i:Nat}(hb:by0 p q i)(hw:D0 p≤1000000)(hn:(p.procs[i]'hb.2.2).name=q)(h40:(b9 p).l.length≤40):dC6 q (aE5 p q) (ai1 p q):=by
 have hi:=hb.2.2;have hR:=hb.1;have hr:=R8 hR;have hm:=hr.may;obtain⟨x,pt⟩:=N1 hm hw i hi;have hok:=P3 pt;generalize x+A6 p.procs[i].body=y at pt hok;have e1:aE5 p q=(p6 p).verts (i:Int):=by unfold aE5;rw[al0 hb]
 have e2:ai1 p q=(p6 p).edges (i:Int):=by unfold ai1;rw[al0 hb]
 rw[e1,e2];have hvp:=F6 cJ1 ((p6 p).vert0 (i:Int));have hvm:∀v,v∈(p6 p).verts (i:Int)↔v∈(p6 p).vert0 (i:Int):=fun v=>hvp.mem_iff;have hq:((p6 p).s.fn (i:Int)).name=q:=by rw[S6 hi,hn]
 have h0:∀e,e∈(p6 p).edges (i:Int)↔(∃d∈(D5 (b9 p) i).decides,U6 q d=e)∨(∃v∈(p6 p).verts (i:Int),e∈E5 q v)∨∃f∈(p6 p).flows (i:Int),∃v∈(p6 p).takers q f.dst f.var,(⟨(p6 p).giver q f.src f.var,v,2⟩:Eg)=e:=by
  intro e;rw[bu7];unfold Bk.edge0;rw[S6 hi,K8 hi,hn];simp only[ew8,ey1,ez5,or_assoc]
 have hkey:∀e∈(p6 p).edges (i:Int),e.kind=1→e.dst.kind≠1:=fun e he hk=>by
  rcases(h0 e).1 he with⟨d,_,rfl⟩|⟨v,hv,h⟩|⟨f,hf,v,hv,rfl⟩
  ·simp[U6]
  ·unfold E5 at h;split at h
   ·rw[ex9]at h;rw[h];simp only;omega
   ·split at h
    ·rw[ex9]at h;rw[h];simp only;omega
    ·cases h
  ·cases hk
 have hvf:((p6 p).verts (i:Int)).length≤5000:=by
  have e:((p6 p).verts (i:Int)).length=((p6 p).vert0 (i:Int)).length:=hvp.length_eq;have h1:=ah5 hr hw hi;have h2:=ak0 hr hi;have h3:(((b9 p).of i).flatMap (Q7 p p.procs[i].name)).length≤((b9 p).of i).length*100:=Q9 _ 100 _ fun it hit=>aE6 hr hw _ (bj3 pt hit);have h4:=df2 (p:=p) (i:=i);have hF:(p6 p).vert0 (i:Int)=([(⟨p.procs[i].name,1,0,e0⟩:Vx)]++((p6 p).slotsIn (i:Int)).map fun n=>(⟨p.procs[i].name,3,0,n⟩:Vx))++(((p6 p).slotsOut (i:Int)).map fun n=>(⟨p.procs[i].name,4,0,n⟩:Vx))++((b9 p).of i).flatMap (Q7 p p.procs[i].name):=by
   unfold Bk.vert0;rw[S6 hi];rfl
  rw[e,hF];simp only[ev7,ey6,ew5];omega
 refine⟨ci6 hr hw hi,hvf,hvp.nodup_iff.2 (bO5 hr hw hi pt),(hvm _).2 (W5.2 (.inl (by rw[hq]))),fun e he hk=>⟨?_,hkey e he hk⟩,fun S hS hcl v hv=>?_⟩
 ·exact(hvm _).2 (ct1 hR hw hi e (bu7.1 he)).2.1
 have hst:∀b:Nat,x+b≤y→1≤b→(⟨q,2,((x+b:Nat):Int),e0⟩:Vx)∈S:=by
  intro b hb1 hb2;have:=cM3 hr hw hi hok (P:=fun a=>if a=0 then True else(⟨q,2,a,e0⟩:Vx)∈S) (by simp) (fun d hd h=>?_) b hb1 hb2
  ·rw[if_neg (by omega)]at this;exact this
  ·have hrg:=bf7 hr hw hi hok d hd;rw[if_neg (by omega)];refine hcl (U6 q d) ((h0 _).2 (.inl ⟨d,hd,rfl⟩)) rfl ?_;unfold U6;simp only;split
   ·exact hS
   ·rename_i hne;rw[if_neg hne]at h;exact h
 have hit:∀it∈(b9 p).of i,(⟨q,2,it.s.id,e0⟩:Vx)∈S:=fun it hit=>by
  obtain⟨r1,r2⟩:=pt.ids it hit;have:=hst (it.s.id-x).toNat (by omega) (by omega);rw[show((x+(it.s.id-x).toNat:Nat):Int)=it.s.id by omega]at this;exact this
 have hslot:∀e∈E5 q v,e.src∈S→e.kind=1→e.dst∈S:=fun e he hs hk=>hcl e ((h0 _).2 (.inr (.inl ⟨v,hv,he⟩))) hk hs;rcases W5.1 ((hvm v).1 hv)with rfl|⟨n,hn,rfl⟩|⟨n,hn,rfl⟩|⟨it,hi2,rfl|⟨h4,⟨n,hn,rfl⟩|⟨n,hn,rfl⟩⟩⟩
 ·rw[hq];exact hS
 ·exact hslot ⟨⟨q,1,0,Go.Proofs.YtcbnbgpphippoaaGreat.e0⟩,_,1⟩ (by unfold E5;simp) hS rfl
 ·exact hslot ⟨⟨q,1,0,Go.Proofs.YtcbnbgpphippoaaGreat.e0⟩,_,1⟩ (by unfold E5;simp) hS rfl
 ·rw[hq];exact hit it hi2
 ·exact hslot ⟨⟨q,2,it.s.id,Go.Proofs.YtcbnbgpphippoaaGreat.e0⟩,_,1⟩ (by unfold E5;simp) (hit it hi2) rfl
 ·exact hslot ⟨⟨q,2,it.s.id,Go.Proofs.YtcbnbgpphippoaaGreat.e0⟩,_,1⟩ (by unfold E5;simp) (hit it hi2) rfl
theorem bU5{p:Pg}(h0:0<p.procs.length)(n:Int):aH0 p n∈p.procs.map (·.name):=by
 have hrg:=cd0 (n:=n) (m:=(p.procs.length:Int)) (by omega);have hl:(bj0 n (p.procs.length:Int)).toNat<p.procs.length:=by omega
 unfold aH0;rw[List.getD,ev4 hl];exact ey1.2 ⟨_,ew4 hl,rfl⟩
theorem cm3{p:Pg}(K:Known p):0<p.procs.length:=by
 obtain⟨i,q,h,_⟩:=K.main;have:=(ev9.1 h).1;omega
theorem eq3:ag2 prog 10=true:=by kernel_rfl
theorem eq4:ag2 prog 12=true:=by kernel_rfl
theorem eq5:ag2 prog 14=true:=by kernel_rfl
theorem eq6:ag2 prog 15=true:=by kernel_rfl
theorem eu8:ag2 prog 7=true:=by kernel_rfl
theorem eu9:ag2 prog 8=true:=by kernel_rfl
theorem ev0:ag2 prog 9=true:=by kernel_rfl
theorem bc1(v:Value)(p:Pg)(n:Int)(w:World)(hv:SV (d7 w) v p):Calls prog 3 #[v,.int .i64 n] w fun e w'=>∃u,e = .returned u∧(u = .bool true∧o6 w w'):=by
 refine d9 (args:=[v,.int .i64 n]) hm func3 rfl (by kernel_rfl) (by show 2≤_;decide +kernel) ?_;obtain⟨c,w1,hbx,hx1,hatp⟩:=V0 hv (i4 _);obtain⟨sp,hsp,ldsp,sdsp⟩:=hatp.pg_v;simp only[m8,n9,simprocAttr,hbx];refine B8 eu8 (bp5 w1) (fun w2 hx2=>?_);have l2:=ldsp w2 (b7 hx2);simp only[m8,n9,simprocAttr,l2];refine B8 eu9 (co9 sp p w2 (hsp.mono (b7 hx2))) (fun w3 hx3=>?_);have hx23:=hx2.trans hx3;rcases ev5 (decide (D0 p≤20000))with h1|h1;rotate_left
 ·simp only[m8,n9,simprocAttr,h1];refine n8 results3 ?_;simp only[p7,simprocAttr];exact⟨by trivial,hx1.trans hx23⟩
 have hw:D0 p≤1000000:=ew2 (ev8 h1) (by decide);have l3:=ldsp w3 (b7 hx23);simp only[m8,n9,simprocAttr,h1,l3];refine B8 ev0 (bM8 sp p 40 w3 (hsp.mono (b7 hx23)) hw) (fun w4 hx4=>?_);have hx24:=hx23.trans hx4;rcases ev5 (T2 p&&decide ((bF7 p:Int)≤40))with h2|h2;rotate_left
 ·simp only[m8,n9,simprocAttr,h2];refine n8 results3 ?_;simp only[p7,simprocAttr];exact⟨by trivial,hx1.trans hx24⟩
 have hR:T2 p=true:=by rw[ex4]at h2;exact h2.1
 have h40:(b9 p).l.length≤40:=by
  rw[ex4]at h2;have:=ev8 h2.2;rw[al6];omega
 have hr:=R8 hR;have h0:=cm3 hr.toKnown;have h16:=(R7 hr.may).2;have l4:=ldsp w4 (b7 hx24);simp only[m8,n9,simprocAttr,h2,l4];refine B8 eq3 (bq3 sp p n w4 (hsp.mono (b7 hx24)) h0 (by omega)) (fun w5 hx5=>?_);have hx25:=hx24.trans hx5;obtain⟨i,hi,hb,hnm⟩:=cg8 hr.toKnown (bU5 h0 n) hR;generalize aH0 p n=q at hb hnm;have hok:=db7 hb hw hnm h40;have hx25d:=hx25.trans (o6.drew w5);have t1:=sdsp (fun w'=>o6 w5.drew w') w5.drew (o9.refl _) fun w' h=>b7 (hx25d.trans h);simp only[m8,simprocAttr];refine C5 (fun w'=>o6 w5.drew w') 9 (B0 [0,1,3,4,2,5,6,7,8]) (by decide +kernel) (o9.refl _) ?_;simp only[D6,B0,m8,simprocAttr,t1];refine y5 dE8 (az0 sp p q w5.drew (hsp.mono (b7 hx25d)) hw) ?_;rintro uv w6 ⟨hov,hx6⟩;refine⟨hx6,?_⟩;simp only[D6,m8,simprocAttr];refine y5 dE9 (aP8 sp p q w6 (hsp.mono (b7 (hx25d.trans hx6))) hw) ?_;rintro ue w7 ⟨hoe,hx7⟩;refine⟨hx6.trans hx7,?_⟩;have hL:=hoe.rw_ (b7 hx7);have hef:=hok.efew;simp only[D6,m8,simprocAttr];refine y5 eq4 (cm6 ue (ai1 p q) 1 w7 hL (by omega)) ?_;rintro uf w8 ⟨hof,hx8⟩;refine⟨(hx6.trans hx7).trans hx8,?_⟩;have hx18:o6 w1 w8:=((hx25d.trans hx6).trans hx7).trans hx8;have hnv:=hov.vlen;have hSv:=hov.isS;have hF:=hof.rw_ (b7 hx8);generalize aE5 p q=V at hok hnv;generalize ai1 p q=L at hF hok hef;have hfl:(L.filter fun e=>decide (e.kind=1)).length≤1000000000:=ew2 (ey4 _ _) (by omega);have hmf:∀e,e∈(L.filter fun e=>decide (e.kind=1))↔e∈L∧e.kind=1:=fun e=>by rw[ey5,ez1]
 generalize(L.filter fun e=>decide (e.kind=1))=L1 at hF hfl hmf;have hvf:=hok.vfew;clear hov hoe hof hL t1 hsp sdsp ldsp;obtain⟨ur,w9,hlit,hor,hx9,_⟩:=cy8 ⟨q,1,0,Go.Proofs.YtcbnbgpphippoaaGreat.e0⟩ w8 (i4 (d7 w8));have hb3:=ch6 q 1;simp only[D6,m8,simprocAttr];simp only[m8,simprocAttr,hb3,hlit];refine n7 [6,7] (σ:=Nat×Value×List Vx) (fun s f w'=>f 9 = .int .i64 s.1∧f 8=s.2.1∧s.1≤s.2.2.length∧A8 (d7 w8) w' 36 s.2.1 s.2.2∧s.2.2.Nodup∧(∀x∈s.2.2,x∈V)∧(⟨q,1,0,Go.Proofs.YtcbnbgpphippoaaGreat.e0⟩:Vx)∈s.2.2∧(∀j (hj:j<s.2.2.length),j<s.1→∀e∈L1,e.src=s.2.2[j]→e.dst∈s.2.2)∧o6 w8 w') (fun s=>5000-s.1) (0,ur,[⟨q,1,0,Go.Proofs.YtcbnbgpphippoaaGreat.e0⟩]) (by decide +kernel) ?_ ?_
 ·simp only[p7,simprocAttr];exact⟨by trivial,by trivial,ew6 _,hor,by simp,fun x hx=>by rw[ex9]at hx;rw[hx];exact hok.entry,by simp,fun j hj h=>by omega,hx9⟩
 rintro⟨k,uL,row⟩ f w10 hk ⟨h9,h8,hkl,hor2,hnd,hsub,hent,hcl,hx10⟩;simp only at h9 h8 hkl hor2 hnd hsub hent hcl hx10;simp only[ev6,p7,simprocAttr]at hk;obtain⟨e6,e7,_⟩:=hk;have hrl:row.length≤V.length:=I2 hnd hsub;have hSr:=hor2.isS;have hnr:=hor2.vlen;rcases ev5 (decide ((k:Int)<(row.length:Int)))with hc|hc;rotate_left
 ·have hkL:k=row.length:=by have:=ew0 hc;omega
  have hall:=hok.all row hent fun e he hk1 hs=>by
   obtain⟨j,hj,ej⟩:=eB1.1 hs;exact hcl j hj (by omega) e ((hmf e).2 ⟨he,hk1⟩) ej.symm
  have hlen:row.length=V.length:=Nat.le_antisymm hrl (I2 hok.nodup hall);rw[hlen]at hnr hc;simp only[m8,n9,simprocAttr,h9,h8,e6,hSr,hnr,hSv,hnv,hc];refine n8 results3 ?_;simp only[p7,simprocAttr];exact⟨by trivial,hx1.trans (hx18.trans hx10)⟩
 have hlt:k<row.length:=by have:=ev8 hc;omega
 have hc5:decide ((k:Int)<5000)=true:=by simp;omega
 have hR10:=hor2.rw_ (b7 hx10);have hin:=hR10.inS hlt;obtain⟨sv,hsv,hld⟩:=G1 (P:=prog) (t:=36) hR10 (i4 _) (ev4 hlt) az4 az7 az5 V8;rw[V8]at hld;have hrk:row[k]?=some row[k]:=ev4 hlt;generalize row[k]=x at hsv hrk;obtain rfl:=hsv.N;simp only[m8,n9,y0,simprocAttr,h9,h8,e7,hSr,hnr,hc,hc5,hin,hld];refine y5 eq5 (cm7 uf L1 x 1 w10 (z7.mono (b7 hx10) hF) hfl) ?_;rintro ut w11 ⟨hot,hx11⟩;have hT:=hot.flatRN (k:=B4 w11 (A3 uL)) fun b hb=>D3 fun hbu=>by
  have:=hor2.lt hbu;have:=C6 (hot.free hb);omega
 have hmT:∀y,y∈((L1.filter fun e=>decide (e.kind=1)&&decide (e.src=x)).map (·.dst))↔∃e∈L1,e.src=x∧e.dst=y:=fun y=>by
  simp only[ey1,ey5,ex4,ez1];constructor
  ·rintro⟨e,⟨h1,_,h2⟩,h3⟩;exact⟨e,h1,h2,h3⟩
  ·rintro⟨e,h1,h2,h3⟩;exact⟨e,⟨h1,((hmf e).1 h1).2,h2⟩,h3⟩
 have hTl:((L1.filter fun e=>decide (e.kind=1)&&decide (e.src=x)).map (·.dst)).length≤1000000000:=by
  rw[ew5];exact ew2 (ey4 _ _) hfl
 generalize((L1.filter fun e=>decide (e.kind=1)&&decide (e.src=x)).map (·.dst))=T at hT hmT hTl;clear hot;have hSt:=hT.isS;have hnt:=hT.vlen;have hor11:=hor2.ext hx11;simp only[m8,n9,simprocAttr,hSt,hnt];refine n7 [6,7,9,48,49] (σ:=Nat×Value×List Vx) (fun s f w'=>f 50 = .int .i64 s.1∧f 8=s.2.1∧s.1≤T.length∧A8 (d7 w8) w' 36 s.2.1 s.2.2∧s.2.2.Nodup∧(∀y∈s.2.2,y∈V)∧(∃t,s.2.2=row++t)∧(∀y∈T.take s.1,y∈s.2.2)∧o9 (A3 uL) w11 w'∧E8 w11 uL s.2.1) (fun s=>T.length-s.1) (0,uL,row) (by decide +kernel) ?_ ?_
 ·simp only[p7,simprocAttr];exact⟨by trivial,h8,ew6 _,hor11,hnd,hsub,⟨[],by simp⟩,fun y hy=>by simp at hy,o9.refl _,fun b hb=>.inl hb⟩
 rintro⟨j,uM,rw2⟩ f2 w12 hk ⟨h50,h8b,hjl,hor3,hnd3,hsub3,⟨t,htl⟩,hall3,hm12,hmv⟩;simp only at h50 h8b hjl hor3 hnd3 hsub3 htl hall3 hm12 hmv;simp only[ev6,p7,simprocAttr]at hk;obtain⟨g6,g7,g9,g48,g49,_⟩:=hk;have hx812:o6 w8 w12:=o9.ext_of (hx10.trans hx11) hm12 fun b hb=>C6 (hor2.free hb);simp only[m8,n9,simprocAttr,h50,g49];refine i5 (fun hc2=>?_) (fun hc2=>?_);rotate_left
 ·have hjT:j=T.length:=by simp at hc2;omega
  rw[hjT,ew7]at hall3;have hrp:row.length≤rw2.length:=by rw[htl,ev7];omega
  simp only[m8,n9,simprocAttr,g9,h9];refine⟨(k+1,uM,rw2),by simp only[];have:=I2 hnd3 hsub3;omega,by simp only[];rw[B1 k (by omega)],h8b,by simp only[];omega,hor3,hnd3,hsub3,by simp only[];rw[htl];exact ey9 _ hent,fun j2 hj2 hlt2 e he hs=>?_,hx812⟩;simp only at hj2 hlt2 hs ⊢;have hj3:j2<row.length:=by omega
  have hge:rw2[j2]=row[j2]:=by
   have h1:rw2[j2]?=row[j2]?:=by rw[htl,ez8 hj3]
   rw[ev4 hj2,ev4 hj3]at h1;exact ex1 h1
  rcases ez4 j2 k with h|h
  ·rw[htl];exact ey9 _ (hcl j2 hj3 h e he (hs.trans hge))
  ·obtain rfl:j2=k:=by omega
   refine hall3 _ ((hmT _).2 ⟨e,he,?_,rfl⟩);rw[hs,hge];rw[ev4 hj3]at hrk;exact ex1 hrk
 have hltj:j<T.length:=by simpa using hc2
 have hin:=hT.inS hltj;obtain⟨sv,hsv,hld⟩:=G1 (P:=prog) (t:=36) hT (C9 hm12) (ev4 hltj) az4 az7 az5 V8;rw[V8]at hld;have htk:T.take (j+1)=T.take j++[T[j]]:=ew3 hltj;have hyT:T[j]∈T:=ew4 hltj;generalize T[j]=y at hsv htk hyT;obtain rfl:=hsv.N;obtain⟨e,he,hes,hed⟩:=(hmT y).1 hyT;obtain⟨hyV,hyk⟩:=hok.into e ((hmf e).1 he).1 ((hmf e).1 he).2;rw[hed]at hyV hyk;have hkf:decide (y.kind=1)=false:=eG0 hyk;obtain⟨d,wz,w13,hal,hst,hx13,hat⟩:=bD9 (w:=w12) (A3 uM) (SV.ofN (d7 w12) y) fun b hb=>hor3.lt hb;have tk:=((J7.vx (SV.ofN (d7 w12) y) hat).1 w13 (B7 _ _)).2.1;have tv:=(J7.vx_v (SV.ofN (d7 w12) y) hat).1;have tv13:=tv w13 (B7 _ _);have hor4:=hor3.ext hx13;have hx813:=hx812.trans hx13;have hl3:=I2 hnd3 hsub3;simp only[m8,n9,y0,simprocAttr,h50,g48,hin,hld,hal,hst,tk,hkf,h8b,tv13];refine B8 eq6 (cm5 uM rw2 y w13 (hor4.rw_ (b7 hx813)) (by omega)) (fun w14 hx14=>?_);have hx1214:=hx13.trans hx14;have hm14:o9 (A3 uL) w11 w14:=hm12.trans (o9.up hx1214);have hin2:∀z∈T.take (j+1),z∈T.take j∨z=y:=fun z hz=>by
  rw[htk,ew8,ex9]at hz;exact hz
 rcases ev5 (rw2.contains y)with hq|hq
 ·simp only[m8,n9,simprocAttr,hq,h50];refine⟨(j+1,uM,rw2),by simp only[];omega,by simp only[];rw[B1 j (by omega)],h8b,by simp only[];omega,hor4.ext hx14,hnd3,hsub3,⟨t,htl⟩,fun z hz=>?_,hm14,hmv⟩;rcases hin2 z hz with h|h
  ·exact hall3 z h
  ·rw[h];exact ex7.1 hq
 ·have hor5:=hor4.ext hx14;obtain⟨p1,uN,w15,p2,p3,p4,p5⟩:=push (e:=30) bl7 rfl hor5 (x:=.agg (A0.cells y).toArray) (y:=y) (SV.ofN (d7 w8) y).enc (by omega) (by omega) (b7 (hx813.trans hx14));have tv14:=tv w14 (p9 (B7 _ _) (b7 hx14));simp only[A0.cells]at tv14 p1 p2;have hsz:=hm14.size;have hny:y∉rw2:=fun h=>by rw[ex7.2 h]at hq;cases hq
  simp only[m8,n9,simprocAttr,A0.cells,hq,h50,h8b,tv14,p1,p2];refine⟨(j+1,uN,rw2++[y]),by simp only[];omega,by simp only[];rw[B1 j (by omega)],by trivial,by simp only[];omega,p3,?_,fun z hz=>?_,⟨t++[y],by simp only[];rw[htl,ey3]⟩,fun z hz=>?_,hm14.chain p4 fun b hb hu=>(hmv b hu).resolve_right (by omega),fun b hb=>?_⟩
  ·simp only[];rw[eA4];exact⟨hnd3,by simp,fun a ha b hb=>by rw[ex9]at hb;rw[hb];exact fun e=>hny (e ▸ ha)⟩
  ·simp only[ew8,ex9]at hz;rcases hz with h|h
   ·exact hsub3 z h
   ·rw[h];exact hyV
  ·simp only[ew8,ex9];rcases hin2 z hz with h|h
   ·exact .inl (hall3 z h)
   ·exact .inr h
  ·rcases p5 b hb with h1|h1
   ·exact hmv b h1
   ·right;omega
end Go.Proofs.YtcbnbgpphippoaaGreat

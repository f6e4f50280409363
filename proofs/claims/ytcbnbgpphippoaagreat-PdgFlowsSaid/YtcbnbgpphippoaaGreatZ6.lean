/- pdgFlows.proved: for every input the law returns true. No condition. Part 6 of 7. -/
import Derived.Test.YtcbnbgpphippoaaGreatZ5
set_option maxRecDepth 1000000
set_option maxHeartbeats 8000000
set_option linter.unusedVariables false
set_option linter.unusedSimpArgs false
set_option linter.unnecessarySimpa false
set_option linter.defProp false
namespace Go.Proofs.YtcbnbgpphippoaaGreat
open Go Tryz
theorem dI1{P:Program}{K:Fr→World→Prop}{f:Fr}{w:World}{d:Option Nat}{ty:TypeId}{pos:String}{aft:Array Edge}{x y:Operand}{ts:Array TypeId}:B1 P none ⟨d,.call {callee:=.builtin .copy,args:=#[x,y],argTypes:=ts},ty,pos,aft,none⟩ K f w↔ab1 ((Builtin.copy_ ts ty #[ev f x,ev f y]).run P w) K f d:=by
 simp[B1,ao1,V6,aS5,bc1]
theorem co0{α:Type}{ys:List α}{e y:α}{i:Nat}(hi:i≤ys.length):((ys++[e]).take (i+1)++((ys++[e]).drop i).take (ys.length-i)).set i y=ys.take i++y::ys.drop i:=by
 have h1:((ys++[e]).drop i).take (ys.length-i)=ys.drop i:=by
  rw[List.drop_append_of_le_length hi,eC6 (by rw[eB8];omega),eA6 (by rw[eB8];omega)]
 have h2:∃z,(ys++[e]).take (i+1)=ys.take i++[z]:=by
  have hl:i<(ys++[e]).length:=by simp;omega
  rw[ex2 hl,eC6 hi];exact⟨_,rfl⟩
 obtain⟨z,h2⟩:=h2;have hl:(ys.take i).length=i:=by rw[ex4];omega
 rw[h1,h2,ey6,List.set_append_right _ _ (by omega),hl];simp
section
variable {α:Type} [A3 α] [t8 α] {P:Program} {h:Hp} {w:World} {T:TypeId} {v:Value} {xs:List α}
theorem cn0(ho:A9 h w T v xs){t t' ty:TypeId}(ht:A8 P t=some T){inf:TypeInfo}(hi:P.info? T=some inf)(hs:inf.size=A3.sz α){i m:Nat}(hm:i+1+m=xs.length):
  ∃w',(Builtin.copy_ #[t,t'] ty #[reS v (i+1) xs.length (A3.sz α),reS v i xs.length (A3.sz α)]).run P w = .ok (goInt m) w'∧A9 h w' T v (xs.take (i+1)++(xs.drop i).take m)∧o9 (A4 v) w w':=by
 rcases cd6 ho with⟨rfl,rfl⟩|⟨b,c,cur,rfl,h1,h2,h3,h4,h5,h6⟩
 ·simp at hm
 have hpos:=A3.pos (α:=α);have hci:¬c=i:=by omega
 generalize hz:A3.sz α=z at *;have htl:cur.toList.length=cur.size:=by simp
 have hcurL:xs.length*z≤cur.size:=by rw[h5];exact eE0 _ h3
 have hmul:(i+1)*z+m*z=xs.length*z:=by rw[←eH1,hm]
 have hmi:i*z+m*z+z=xs.length*z:=by rw[←hmul,Nat.succ_mul];omega
 have hfl:∀l:List α,(l.flatMap t8.cells).length=l.length*z:=fun l=>by rw[U1,hz]
 have hcs:((xs.drop i).take m).flatMap t8.cells=(cur.toList.drop (i*z)).take (m*z):=by
  have e1:xs.flatMap t8.cells=(xs.take i).flatMap t8.cells++((xs.drop i).take m).flatMap t8.cells++((xs.drop i).drop m).flatMap t8.cells:=by rw[←eG2,←eG2,ey6,ez9,ez9]
  have a1:((xs.take i).flatMap t8.cells).length=i*z:=by rw[hfl,ex4,eB9 (by omega)]
  have a2:(((xs.drop i).take m).flatMap t8.cells).length=m*z:=by rw[hfl,ex4,eB8,eB9 (by omega)]
  have e2:cur.toList=xs.flatMap t8.cells++cur.toList.drop (xs.length*z):=by rw[←h6,ez9]
  rw[e2,e1,ey6,ey6,←a1,List.drop_left,←a2,eE3]
 have hcl:(((xs.drop i).take m).flatMap t8.cells).length=m*z:=by rw[hfl,ex4,eB8,eB9 (by omega)]
 generalize hcse:((xs.drop i).take m).flatMap t8.cells=cs at hcs hcl;have hr2:reS (.slice (some ⟨b,0,none⟩) xs.length c) i xs.length z = .slice (some ⟨b,i*z,none⟩) (xs.length-i) (c-i):=by
  simp only[reS,if_neg hci,eC3,add_lit,ez8]
 obtain⟨o,hr1,ho1⟩:∃o,reS (.slice (some ⟨b,0,none⟩) xs.length c) (i+1) xs.length z = .slice (some ⟨b,o,none⟩) (xs.length-(i+1)) (c-(i+1))∧(o=(i+1)*z∨(o=0∧m=0)):=by
  simp only[reS];by_cases hc:c=i+1
  ·exact⟨0,by rw[if_pos hc],.inr ⟨rfl,by omega⟩⟩
  ·exact⟨(i+1)*z,by simp only[if_neg hc,eC3,add_lit,ez8],.inl rfl⟩
 have hfit:o+0+cs.length≤cur.size:=by
  rw[hcl];rcases ho1 with rfl|⟨rfl,rfl⟩<;>omega
 have hone:∀u∈cs,u.oneCell'=true:=fun u hu=>by
  rw[←hcse]at hu;obtain⟨x,_,hx⟩:=eB6.1 hu;exact S4 x u hx
 have hld:(loadCells ⟨b,i*z,none⟩ (m*z)).run P w = .ok cs.toArray w:=by
  rw[←hcl];refine run_loadCells_list w _ cs fun j u hj=>?_;rw[hcs]at hj;have hj2:=(ex1.1 hj).1;rw[ex4]at hj2;rw[eF2,if_pos (by omega),eF1]at hj;rw[add_lit,eD9 w b _ cur T (0,0) h2,←eG9];exact hj
 obtain⟨w',e1,e2,e3⟩:=aQ9 (P:=P) (T:=T) b o cs 0 cur w h2 hfit hone;have hmin:Nat.min (xs.length-i) (xs.length-(i+1))=m:=by
  show min _ _=m;omega
 refine⟨w',?_,?_,e3.weaken fun _ _ e=>by subst e;rfl⟩
 ·rw[hr1,hr2];unfold Builtin.copy_;simp only[List.getElem?_toArray,List.getElem?_cons_zero,List.getElem?_cons_succ,ey8,F3,J7 ht,ey0,Builtin.lenOf,Builtin.firstCells,sizeOf,L5,hi,hs,hmin,hld,e1,eA0]
 ·have hl:(xs.take (i+1)++(xs.drop i).take m).length=xs.length:=by
   rw[ew7,ex4,ex4,eB8];omega
  have:=aP2 (l:=xs.take (i+1)++(xs.drop i).take m) h1 e2 (by rw[hl];omega) h4 ?_ ?_
  ·rw[hl]at this;exact this
  ·simp only[Nat.add_zero,eE9,ew7,ex4,eB8];rw[eI9,hz];omega
  ·rw[hl,List.toList_toArray,Nat.add_zero,hz,eG2,hcse];have h8:(xs.take (i+1)).flatMap t8.cells=cur.toList.take ((i+1)*z):=by
    have h7:=ey2 (List.take ((i+1)*z)) h6;rw[List.take_take,eB9 (by omega)]at h7;have hsp:xs.flatMap t8.cells=(xs.take (i+1)).flatMap t8.cells++(xs.drop (i+1)).flatMap t8.cells:=by rw[←eG2,ez9]
    have hf:((xs.take (i+1)).flatMap t8.cells).length=(i+1)*z:=by rw[hfl,ex4,eB9 (by omega)]
    rw[h7,hsp,←hf,eE3]
   rw[h8];rcases ho1 with rfl|⟨rfl,rfl⟩
   ·rw[eC6 (by rw[ew7,ex4,hcl];omega)];exact eA6 (by rw[ew7,ex4,hcl];omega)
   ·have hnil:cs=[]:=List.length_eq_zero_iff.1 (by rw[hcl];simp);rw[hnil];simp only[eH2,eG1,eC7,Nat.add_zero,eE8,ez3];rw[show xs.length=i+1 by omega]
end
mutual
theorem dG5:∀(t:St) (dd:Nat) (n m:Int) (d up:Int) (e:Bool) (k:Nat) (pr up' nx lp:Int),((I3 dd t.thn n).bind fun m=>I3 dd t.els m)=some m→d+dd=12→(bT2 t d up e).map (·.s)=(U2 t k pr up' nx lp).map (·.s)
 | .mk id kind labels name proc x has args thn els,dd,n,m,d,up,e,k,pr,up',nx,lp,h,hd=>by
  simp only[St.thn,St.els]at h;obtain⟨m1,h1,h2⟩:=eE2.1 h;rw[bT2,if_pos (by omega),O4];simp only[eB1,ez5,St.thn,St.els];rw[bz4 thn dd n m1 (d+1) id false _ _ _ _ _ h1 (by omega),bz4 els dd m1 m (d+1) id true _ _ _ _ _ h2 (by omega)]
theorem bz4:∀(l:List St) (dd:Nat) (n m:Int) (d up:Int) (e:Bool) (k:Nat) (pr up' nx lp:Int),I3 dd l n=some m→d+dd=13→(M4 l d up e).map (·.s)=(C6 l k pr up' nx lp).map (·.s)
 | [],_,_,_,_,_,_,_,_,_,_,_,_,_=>by simp[M4,C6]
 | t::l,0,n,m,d,up,e,k,pr,up',nx,lp,h,hd=>by simp[I3]at h
 | t::l,dd+1,n,m,d,up,e,k,pr,up',nx,lp,h,hd=>by
  rw[aK9]at h;obtain⟨m1,h1,h2⟩:=eE2.1 h;split at h1
  ·cases h1
  ·rw[M4,C6];simp only[ez5];rw[dG5 t dd _ m1 d up e _ _ _ _ _ h1 (by omega),bz4 l (dd+1) m1 m d up e _ _ _ _ _ h2 hd]
end
theorem cy1:∀(l:List Pr) (s:Sh) (i:Nat) (n:Int),(l.foldlM (fun n f=>W7 f n) n).isSome=true→(F7 s i l).l.map (·.s)=s.l.map (·.s)++(l.flatMap fun q=>M4 q.body 1 0 false).map (·.s)
 | [],s,i,_,_=>by simp[F7]
 | f::l,s,i,n,hf=>by
  rw[List.foldlM_cons]at hf;obtain⟨a,hn⟩:=eC2.1 hf;obtain⟨m,hm,hm2⟩:=eE2.1 hn;unfold W7 at hm;split at hm
  ·cases hm
  ·rw[F7,cy1 l _ _ m (by rw[hm2];rfl),eF7,ez5];simp only[E7,ez5,ey6];rw[bz4 f.body 12 _ _ 1 0 false _ _ _ _ _ hm (by omega)]
theorem bM5{p:Pg}(hm:P9 p=true)(id:Int):ba9 p id=((((b9 p).l.map (·.s)).find? fun s=>decide (s.id=id)).getD stZ):=by
 have h1:(b9 p).l.map (·.s)=(p.procs.flatMap fun q=>M4 q.body 1 0 false).map (·.s):=by
  unfold P9 at hm;rw[ey9]at hm;have:=cy1 p.procs ⟨p,[],[],[]⟩ 0 0 hm.2;exact this.trans (eG1 _)
 rw[h1,List.find?_map,List.find?_flatMap];unfold ba9 br4;have e:(fun q:Pr=>an0 (M4 q.body 1 0 false) id)=fun q=>(M4 q.body 1 0 false).find? ((fun s=>decide (s.id=id)) ∘ fun x:Im=>x.s):=rfl;rw[e];cases p.procs.findSome? fun q=>(M4 q.body 1 0 false).find? ((fun s=>decide (s.id=id)) ∘ fun x:Im=>x.s)<;>rfl
theorem bM6{p:Pg}(hm:P9 p=true){id:Int}(h:id≤0):ba9 p id=stZ:=by
 rw[bM5 hm,eF0.2]
 ·rfl
 ·intro s hs;obtain⟨it,hit,rfl⟩:=ez6.1 hs;obtain⟨j,hj⟩:=List.getElem?_of_mem hit;have:=au2 hm j it hj;simp only[eA7];omega
theorem cQ4{p:Pg}(hm:P9 p=true){it:It}(hit:it∈(b9 p).l):ba9 p it.s.id=it.s:=by
 rw[bM5 hm];cases hf:((b9 p).l.map (·.s)).find? fun s=>decide (s.id=it.s.id)with
 | none=>
  have:=eF0.1 hf it.s (ez6.2 ⟨it,hit,rfl⟩);simp at this
 | some s=>
  have h1:=List.find?_some hf;obtain⟨it2,hit2,rfl⟩:=ez6.1 (List.mem_of_find?_eq_some hf);obtain⟨j,hj⟩:=List.getElem?_of_mem hit;obtain⟨k,hk⟩:=List.getElem?_of_mem hit2;have a1:=au2 hm j it hj;have a2:=au2 hm k it2 hk;have h1:=ew8 h1;obtain rfl:j=k:=by omega
  rw[hj]at hk;rw[ey4 hk];rfl
theorem cj3{p:Pg}{i:Nat}(hr:F5 p)(hw:D6 p≤1000000)(hi:i<p.procs.length):((z7 p).edges (i:Int)).length≤60000000:=by
 have h1:=aX8 hr hw hi;have h2:(((z7 p).verts (i:Int)).flatMap (G4 p.procs[i].name)).length≤((z7 p).verts (i:Int)).length*1:=Q7 _ 1 _ fun v _=>aQ7 _ v;have h3:=bv9 hr hw hi;have h4:=aF2 hr hw hi;have h5:(((z7 p).flows (i:Int)).flatMap fun f=>((z7 p).takers p.procs[i].name f.dst f.var).map fun v=>(⟨(z7 p).giver p.procs[i].name f.src f.var,v,2⟩:Eg)).length≤((z7 p).flows (i:Int)).length*9:=Q7 _ 9 _ fun f hf=>by
  rw[ex7];exact aL5 hr hw (ap9 hr hw hi hf).2
 have hF:(z7 p).edge0 (i:Int)=(E3 (b9 p) i).decides.map (ad7 p.procs[i].name)++((z7 p).verts (i:Int)).flatMap (G4 p.procs[i].name)++((z7 p).flows (i:Int)).flatMap fun f=>((z7 p).takers p.procs[i].name f.dst f.var).map fun v=>(⟨(z7 p).giver p.procs[i].name f.src f.var,v,2⟩:Eg):=by
  unfold Bk.edge0;rw[af8 hi,R8 hi]
 unfold Bk.edges bl2;refine ex3 (aE8 _) ?_;rw[(H6 cu1 _).length_eq,hF];simp only[ew7,ex7]at *;omega
theorem ch7{p:Pg}(K:Known p){q:A6}(hq:q∈p.procs.map (·.name))(hR:ac2 p=true):∃(i:Nat) (hi:i<p.procs.length),be2 p q i∧p.procs[i].name=q:=by
 obtain⟨i,hi,e,hn⟩:=ae4 hq;refine⟨i,hi,⟨hR,?_,hi⟩,hn⟩;unfold Sh.pr at e;rw[I1]at e;exact e
theorem cd9{α:Type}{lt:α→α→Bool}(hi:∀a,lt a a=false)(ht:∀a b c,lt a b=true→lt b c=true→lt a c=true):∀{l m:List α},l.Pairwise (fun a b=>lt a b=true)→m.Pairwise (fun a b=>lt a b=true)→(∀x,x∈l↔x∈m)→l=m
 | [],[],_,_,_=>rfl
 | [],b::m,_,_,h=>by have:=(h b).2 List.mem_cons_self;cases this
 | a::l,[],_,_,h=>by have:=(h a).1 List.mem_cons_self;cases this
 | a::l,b::m,hl,hm,h=>by
  rw[eB4]at hl hm;have hab:a=b:=by
   rcases ey3.1 ((h a).1 List.mem_cons_self)with e|h1
   ·exact e
   ·rcases ey3.1 ((h b).2 List.mem_cons_self)with e|h2
    ·exact e.symm
    ·have:=ht _ _ _ (hm.1 a h1) (hl.1 b h2);rw[hi]at this;cases this
  subst hab;rw[cd9 hi ht hl.2 hm.2 fun x=>?_];have hx:=h x;rw[ey3,ey3]at hx;constructor
  ·intro h1;rcases hx.1 (.inr h1)with rfl|h2
   ·have:=hl.1 _ h1;rw[hi]at this;cases this
   ·exact h2
  ·intro h1;rcases hx.2 (.inr h1)with rfl|h2
   ·have:=hm.1 _ h1;rw[hi]at this;cases this
   ·exact h2
theorem cM3(a:Eg):I9 a a=false:=by rw[av4,aM9.refl];rfl
theorem cu0(a b c:Eg)(h1:I9 a b=true)(h2:I9 b c=true):I9 a c=true:=by
 rw[av4]at *;have h1:=ew8 h1;have h2:=ew8 h2;have h3:=aM9.letr (x:=a) (y:=b) (z:=c) (by omega) (by omega);refine eD8 ?_;rcases Int.lt_or_eq_of_le h3 with h|h
 ·exact h
 ·have:=aB1 h;subst this;have h4:=aM9.anti a b;omega
theorem cM2{a b:Eg}(h1:I9 a b=false)(h2:a≠b):I9 b a=true:=by
 rw[av4]at *;have h1:=ew9 h1;have h3:=aM9.anti a b;have:egC a b≠0:=fun e=>h2 (aB1 e);exact eD8 (by omega)
def X2(q:A6)(f:Fw):Eg:=⟨if f.src=0 then⟨q,3,0,f.var⟩else⟨q,2,f.src,e0⟩,if f.dst = -1 then⟨q,4,0,f.var⟩else⟨q,2,f.dst,e0⟩,2⟩
def ag2(p:Pg)(id:Int):Bool:=decide ((ba9 p id).kind=4)
def U3(p:Pg)(f:Fw):Bool:=ag2 p f.src||ag2 p f.dst
def au8(p:Pg)(q:A6)(l:List Fw):List Eg:=(l.filter fun f=>!U3 p f).map (X2 q)
def an6(e:Eg):Bool:=decide (e.src.kind<5)&&decide (e.dst.kind<5)
def bB9(l:List Eg):List Eg:=(l.filter fun e=>decide (e.kind=2)).filter an6
structure db1 (p:Pg) (q:A6) (fl:List Fw) (L:List Eg):Prop where
 efew:L.length≤60000000
 ffew:fl.length≤5000000
 rise:(bB9 L).Pairwise fun a b=>I9 a b=true
 same:∀e,e∈bB9 L↔e∈au8 p q fl
theorem ae8{p:Pg}(hm:P9 p=true){a:Int}(h:a=0∨a = -1∨Mid p a):ag2 p a=true↔a≠0∧a ≠ -1∧((b9 p).it a).s.kind=4:=by
 unfold ag2;rcases h with rfl|rfl|⟨j,rfl,hj⟩
 ·rw[bM6 hm (by omega)];simp[stZ,St.kind]
 ·rw[bM6 hm (by omega)];simp[stZ,St.kind]
 ·have hg:(b9 p).l[j]?=some (b9 p).l[j]:=ew4 hj;have hid:=au2 hm j _ hg;have hit:(b9 p).it ((j:Int)+1)=(b9 p).l[j]:=by
   unfold Sh.it;rw[show((j:Int)+1-1).toNat=j by omega,List.getD,hg];rfl
  have hs:=cQ4 hm (ex8 hj);rw[hid]at hs;rw[hs,hit];simp only[eA7];constructor
  ·exact fun h=>⟨by omega,by omega,h⟩
  ·exact fun h=>h.2.2
theorem cN2{p:Pg}{q:A6}{i:Nat}(hb:be2 p q i)(hw:D6 p≤1000000)(hn:(p.procs[i]'hb.2.2).name=q):db1 p q ((z7 p).flows (i:Int)) (ab5 p q):=by
 have hi:=hb.2.2;have hr:=ac3 hb.1;have hm:=hr.may;have e2:ab5 p q=(z7 p).edges (i:Int):=by unfold ab5;rw[as7 hb]
 rw[e2];have hs:(z7 p).s=b9 p:=rfl;refine⟨cj3 hr hw hi,aF2 hr hw hi,((bQ9 _ _).filter _).filter _,fun e=>?_⟩;unfold bB9 au8;rw[eA8,eA8,cm6,ez6];unfold Bk.edge0;rw[af8 hi,R8 hi,hn];simp only[ey1,ez6,eB6,or_assoc,eA7,an6,ey9,eA8];constructor
 ·rintro⟨⟨h,hk⟩,h1,h2⟩;rcases h with⟨d,_,rfl⟩|⟨v,hv,h⟩|⟨f,hf,v,hv,rfl⟩
  ·cases hk
  ·unfold G4 at h;split at h
   ·rw[ez7]at h;rw[h]at hk;cases hk
   ·split at h
    ·rw[ez7]at h;rw[h]at hk;cases hk
    ·cases h
  ·obtain⟨p1,p2⟩:=ap9 hr hw hi hf;simp only at h1 h2;have c1:ag2 p f.src=false:=by
    rw[eH0,ne_eq,ae8 hm (p1.imp id .inr)];rintro⟨n1,_,n2⟩;unfold Bk.giver at h1;rw[if_neg n1,hs,if_neg (by simpa using n2)]at h1;split at h1
    ·simp at h1
    ·split at h1<;>simp at h1
   have c2:ag2 p f.dst=false:=by
    rw[eH0,ne_eq,ae8 hm (.inr p2)];rintro⟨_,n1,n2⟩;unfold Bk.takers at hv;rw[if_neg n1,hs,if_neg (by simpa using n2),ey1]at hv;rcases hv with hv|hv
    ·obtain⟨x,_,rfl⟩:=ez6.1 hv;simp at h2
    ·split at hv
     ·rw[ez7]at hv;rw[hv]at h2;simp at h2
     ·cases hv
   refine⟨f,⟨hf,by unfold U3;rw[c1,c2];rfl⟩,?_⟩;have n1:f.src≠0→((z7 p).s.it f.src).s.kind≠4:=fun h0 h4=>by
    have:=(ae8 hm (a:=f.src) (p1.imp id .inr)).2 ⟨h0,by rcases p1 with h|⟨j,h,_⟩<;>omega,h4⟩;rw[c1]at this;cases this
   have n2:f.dst ≠ -1→((z7 p).s.it f.dst).s.kind≠4:=fun h0 h4=>by
    have:=(ae8 hm (a:=f.dst) (.inr p2)).2 ⟨by rcases p2 with h|⟨j,h,_⟩<;>omega,h0,h4⟩;rw[c2]at this;cases this
   unfold X2;rw[Eg.mk.injEq];refine⟨?_,?_,rfl⟩
   ·unfold Bk.giver;split
    ·rfl
    ·rw[if_pos (n1 ‹_›)]
   ·unfold Bk.takers at hv;split at hv
    ·rw[ez7]at hv;rw[hv,if_pos ‹_›]
    ·rw[if_pos (n2 ‹_›),ez7]at hv;rw[hv,if_neg ‹_›]
 ·rintro⟨f,⟨hf,hc⟩,rfl⟩;obtain⟨p1,p2⟩:=ap9 hr hw hi hf;unfold U3 at hc;simp only[Bool.not_eq_true',Bool.or_eq_false_iff]at hc;obtain⟨c1,c2⟩:=hc;have n1:f.src≠0→((z7 p).s.it f.src).s.kind≠4:=fun h0 h4=>by
   have:=(ae8 hm (a:=f.src) (p1.imp id .inr)).2 ⟨h0,by rcases p1 with h|⟨j,h,_⟩<;>omega,h4⟩;rw[c1]at this;cases this
  have n2:f.dst ≠ -1→((z7 p).s.it f.dst).s.kind≠4:=fun h0 h4=>by
   have:=(ae8 hm (a:=f.dst) (.inr p2)).2 ⟨by rcases p2 with h|⟨j,h,_⟩<;>omega,h0,h4⟩;rw[c2]at this;cases this
  refine⟨⟨.inr (.inr ⟨f,hf,(X2 q f).dst,?_,?_⟩),rfl⟩,?_,?_⟩
  ·unfold Bk.takers X2;split
   ·simp
   ·rw[if_pos (n2 ‹_›)];simp
  ·unfold X2 Bk.giver;rw[Eg.mk.injEq];refine⟨?_,rfl,rfl⟩;split
   ·rfl
   ·rw[if_pos (n1 ‹_›)]
  ·unfold X2;simp only;split<;>simp
  ·unfold X2;simp only;split<;>simp
theorem es6:ag0 prog 48=true:=by kernel_rfl
theorem cy9{out:List Eg}{e:Eg}{i:Nat}(hs:out.Pairwise fun a b=>I9 a b=true)(hi:i≤out.length)(hup:∀j (hj:j<out.length),i≤j→I9 e out[j]=true)(hdn:∀j (hj:j<out.length),j+1=i→I9 out[j] e=true):(out.take i++e::out.drop i).Pairwise fun a b=>I9 a b=true:=by
 have hsp:=hs;rw[←ez9 i out,List.pairwise_append]at hsp;obtain⟨h1,h2,h3⟩:=hsp;have hd:∀b∈out.drop i,I9 e b=true:=fun b hb=>by
  obtain⟨j,hj,rfl⟩:=eB5.1 hb;rw[List.getElem_drop];exact hup _ _ (by omega)
 have ht:∀a∈out.take i,I9 a e=true:=fun a ha=>by
  rcases Nat.eq_zero_or_pos i with rfl|h0
  ·simp at ha
  obtain⟨j,hj,rfl⟩:=eB5.1 ha;rw[ex4]at hj;rw[List.getElem_take];have hl:=hdn (i-1) (by omega) (by omega);rcases eA1 j (i-1)with h|h
  ·exact cu0 _ _ _ (eF4.1 hs j (i-1) (by omega) (by omega) h) hl
  ·obtain rfl:j=i-1:=by omega
   exact hl
 rw[List.pairwise_append,eB4];refine⟨h1,⟨hd,h2⟩,fun a ha b hb=>?_⟩;rcases ey3.1 hb with rfl|hb
 ·exact ht a ha
 ·exact h3 a ha b hb
theorem cO3{out:List Eg}{e x:Eg}{i:Nat}:x∈out.take i++e::out.drop i↔x∈out∨x=e:=by
 conv=>rhs;rw[←ez9 i out]
 simp only[ey1,ey3];constructor
 ·rintro(h|h|h)
  ·exact .inl (.inl h)
  ·exact .inr h
  ·exact .inl (.inr h)
 ·rintro((h|h)|h)
  ·exact .inl h
  ·exact .inr (.inr h)
  ·exact .inr (.inl h)
theorem bB3(v:Value)(l:List Eg)(w:World)(hv:R (d7 w) v l)(hl:l.length≤100000000):
  Calls prog 25 #[v] w fun ex w'=>∃u,ex = .returned u∧(∃out,A9 (d7 w) w' 60 u out∧(out.Pairwise fun a b=>I9 a b=true)∧(∀e,e∈out↔e∈l)∧o6 w w'):=by
 refine d9 (args:=[v]) hm func25 rfl (by kernel_rfl) (by show 1≤_;decide +kernel) ?_;have hS:=hv.isS;have hn:=hv.vlen;have hz:A3.sz Eg=9:=rfl;simp only[m8,n8,simprocAttr,hS,hn];refine n7 [7,8] (σ:=Nat×Value×List Eg) (fun s f w'=>f 9 = .int .i64 s.1∧f 3=s.2.1∧s.1≤l.length∧A9 (d7 w) w' 60 s.2.1 s.2.2∧s.2.2.length≤s.1∧(s.2.2.Pairwise fun a b=>I9 a b=true)∧(∀e,e∈s.2.2↔e∈l.take s.1)∧o6 w w') (fun s=>l.length-s.1) (0,.slice none 0 0,[]) (by decide +kernel) ?_ ?_
 ·simp only[p7,simprocAttr];exact⟨by trivial,by trivial,ex6 _,A9.nil _ _ _,ex9 _,List.Pairwise.nil,fun e=>by simp,o9.refl _⟩
 rintro⟨k,uL,out⟩ f w2 hk ⟨h9,h3,hkl,ho2,hol,hsr,hmem,hx2⟩;simp only at h9 h3 hkl ho2 hol hsr hmem hx2;simp only[ew6,p7,simprocAttr]at hk;obtain⟨e7,e8,_⟩:=hk;simp only[m8,n8,simprocAttr,h9,e8];refine i5 (fun hc=>?_) (fun hc=>?_);rotate_left
 ·have hkL:k=l.length:=by simp at hc;omega
  rw[hkL,ex5]at hmem;simp only[m8,simprocAttr,h3];refine n9 results25 ?_;simp only[p7,simprocAttr];exact⟨out,ho2,hsr,hmem,hx2⟩
 have hlt:k<l.length:=by simpa using hc
 have hin:=hv.inS hlt;obtain⟨sv,hsv,hld⟩:=F4 (P:=prog) (t:=60) hv (b7 hx2) (ew4 hlt) aR5 aR8 aD7 ac9;rw[ac9]at hld;have htk:∀x,x∈l.take (k+1)↔x∈out∨x=l[k]:=fun x=>by
  rw[ex2 hlt,ey1,hmem,ez7]
 generalize l[k]=e at hsv htk;obtain rfl:=hsv.N;obtain⟨d,wz,w3,hal,hst,hx3,hat⟩:=cV5 (w:=w2) (A4 uL) (SV.ofN (d7 w2) e) fun b hb=>ho2.lt hb;obtain⟨ldv,sdv⟩:=I4.eg_v (SV.ofN (d7 w2) e) hat;have hk3:=B3 w3 (A4 uL);have hx23:=hx2.trans hx3;have ho3:=ho2.ext hx3;have hSo:=ho3.isS;have hno:=ho3.vlen;have hR3:=ho3.rw_ (b7 hx23);simp only[m8,n8,v8,simprocAttr,h9,e7,h3,hin,hld,hal,hst,hSo,hno];refine n7 [3,5,7,8,9] (σ:=Nat) (fun i f w'=>f 6 = .int .i64 i∧i≤out.length∧(∀j (hj:j<out.length),i≤j→I9 e out[j]=true)∧o6 w3 w') (fun i=>i) out.length (by decide +kernel) ?_ ?_
 ·simp only[p7,simprocAttr];exact⟨by trivial,ex9 _,fun j hj h=>by omega,o9.refl _⟩
 rintro i f4 w4 hk ⟨h6,hil,hup,hx4⟩;simp only[ew6,p7,simprocAttr]at hk;obtain⟨g3,g5,g7,g8,g9,_⟩:=hk;have hxd:o6 w3 w4.drew:=hx4.trans (o6.drew w4);have t5:=sdv (fun w'=>o6 w4.drew w') w4.drew (o9.refl _) fun w' h=>p6 hk3 (b7 (hxd.trans h));simp only[t8.cells]at t5;generalize hK:CW prog _ (S9 1 (W8 _ _))=K;have tail:∀(i:Nat) (f5:Fr) (w5:World),i≤out.length→(∀j (hj:j<out.length),i≤j→I9 e out[j]=true)→(∀j (hj:j<out.length),j+1=i→I9 e out[j]=false)→o6 w3 w5→f5 3=uL→f5 5 = .pointer (some d)→f5 6 = .int .i64 i→f5 7=f 7→f5 8=f 8→f5 9=f 9→K f5 w5:=by
  intro i f5 w5 hil hup hdn hx5 a3 a5 a6 a7 a8 a9;rw[←hK];rw[h9]at a9;rw[e7]at a7;rw[e8]at a8;have hx5d:o6 w3 w5.drew:=hx5.trans (o6.drew w5);have t5:=sdv (fun w'=>o6 w5.drew w') w5.drew (o9.refl _) fun w' h=>p6 hk3 (b7 (hx5d.trans h));simp only[t8.cells]at t5;simp only[m8,simprocAttr];generalize hK2:CW prog _ (S9 1 (W8 _ _))=K2;have tail2:∀(f6:Fr) (w6:World),(∀j (hj:j<out.length),j+1=i→I9 out[j] e=true)→o6 w3 w6→f6 3=uL→f6 5 = .pointer (some d)→f6 6 = .int .i64 i→f6 7=v→f6 8 = .int .i64 l.length→f6 9 = .int .i64 k→K2 f6 w6:=by
   intro f6 w6 hdn2 hx6 c3 c5 c6 c7 c8 c9;rw[←hK2];have hx26:=hx23.trans hx6;have tv:=ldv w6 (p6 hk3 (b7 hx6));obtain⟨p1,uM,w7,p2,p3,p4,p5⟩:=push (e:=32) bL8 rfl (ho3.ext hx6) (x:=.agg (t8.cells e).toArray) (y:=e) (SV.ofN (d7 w) e).enc (by omega) (by omega) (b7 hx26);have p3d:=p3.ext (o6.drew w7);have hSm:=p3d.isS;have hnm:=p3d.vlen;have hcm:=p3d.vcap;have hlm:(out++[e]).length=out.length+1:=by simp
   rw[hlm]at hnm hcm;obtain⟨m,hm⟩:∃m,i+1+m=(out++[e]).length:=⟨out.length-i,by rw[hlm];omega⟩;obtain⟨w8,s1,s2,s3⟩:=cn0 (P:=prog) (t:=32) (t':=32) (ty:=3) p3d rfl (p9 bv8).choose_spec.1 (by rw[←C8 (p9 bv8).choose_spec.1];exact ac9) hm;rw[hz,hlm]at s1;have hml:m=out.length-i:=by rw[hlm]at hm;omega
   rw[hml]at s2;have hl8:((out++[e]).take (i+1)++((out++[e]).drop i).take (out.length-i)).length=out.length+1:=by
    rw[ew7,ex4,ex4,eB8,hlm];omega
   obtain⟨w9,q1,q2,q3⟩:=aK8 (P:=prog) (t:=60) s2 aD7 ac9 (k:=i) (by omega) e;rw[co0 hil]at q2;have hin8:=s2.inS (k:=i) (by omega);have hsz6:=hx6.size;have hm38:o9 (A4 uL) w3 w8:=((o9.up hx6).trans p4).chain ((o9.up (o6.drew w7)).trans s3) fun b hb hu=>(p5 b hu).resolve_right (by omega);have hm39:o9 (A4 uL) w3 w9:=hm38.chain q3 fun b hb hu=>(p5 b hu).resolve_right (by omega);have tv8:=ldv w8 (C9 hm38);have c1:decide (((i+1:Nat):Int)≤((out.length+1:Nat):Int))=true:=by simp;omega
   have c2:decide (((out.length+1:Nat):Int)≤(vcap uM:Int))=true:=by simp;omega
   have c4:decide ((i:Int)≤((out.length+1:Nat):Int))=true:=by simp;omega
   have hwi:IntKind.i64.wrap ((i:Int)+1)=((i+1:Nat):Int):=B2 i (by omega);rw[hz]at q1;simp only[t8.cells]at tv tv8 p1 p2 q1;simp only[m8,simprocAttr,c3,c5,tv,p1,p2];refine C2 (fun w'=>o6 w7.drew w') 7 (B0 [0,1,2,3,4,5,6]) (by decide +kernel) (o9.refl _) ?_;simp only[D5,B0,m8,n8,H5,simprocAttr,c6,hSm,hnm,hwi,c1,c2,c4];simp only[m8,n8,v8,simprocAttr,s1,c5,c6,c9,tv8,hin8,q1];refine⟨(k+1,uM,out.take i++e::out.drop i),by simp only[];omega,by simp only[];rw[B2 k (by omega)],by trivial,by simp only[];omega,q2,?_,cy9 hsr hil hup hdn2,fun x=>?_,?_⟩
   ·simp only[ew7,ey7,ex4,eB8];omega
   ·simp only[];rw[htk,cO3]
   ·exact o9.ext_of hx23 hm39 fun b hb=>C5 (ho2.free hb)
  rcases Nat.eq_zero_or_pos i with rfl|h0
  ·have hz0:decide ((0:Int)<((0:Nat):Int))=false:=by simp
   refine C2 (fun w'=>o6 w5.drew w') 9 (B0 [0,1,2,3,4,5,6,7,8]) (by decide +kernel) (o9.refl _) ?_;simp only[D5,B0,m8,n8,v8,simprocAttr,a6];refine tail2 _ _ (fun j hj h=>by omega) hx5d ?_ ?_ ?_ ?_ ?_ ?_<;>(simp only[p7,simprocAttr];assumption)
  obtain⟨j,rfl⟩:∃j,i=j+1:=⟨i-1,by omega⟩;have hz1:decide ((0:Int)<((j+1:Nat):Int))=true:=by simp
  have hwd:IntKind.i64.wrap (((j+1:Nat):Int)-1)=(j:Int):=by rw[K1 _ (by omega)];omega
  have hjl:j<out.length:=by omega
  have hinj:=hR3.inS hjl;obtain⟨ux,hux,_,tx⟩:=(hR3.at_ (ew4 hjl)).eg_v;obtain rfl:=hux.N;have t6:=tx (fun w'=>o6 w5.drew w') w5.drew (o9.refl _) fun w' h=>b7 (hx5d.trans h);rw[hz]at t6;simp only[t8.cells]at t6;have hql:=fun w0 a b=>cu5 w0 a b out[j] e;refine C2 (fun w'=>o6 w5.drew w') 9 (B0 [0,1,2,3,4,5,6,7,8]) (by decide +kernel) (o9.refl _) ?_;simp only[D5,B0,m8,n8,v8,simprocAttr,a3,a5,a6,hz1,hwd,hinj,t5,t6];rcases ew5 (decide (out[j]=e))with hq|hq
  ·have hqe:=ew8 hq;simp only[m8,n8,simprocAttr,L9,hql,hq,a3,a9];refine⟨(k+1,uL,out),by simp only[];omega,by simp only[];rw[B2 k (by omega)],by trivial,by simp only[];omega,(ho3.ext hx5d),by simp only[];omega,hsr,fun x=>?_,hx23.trans hx5d⟩;simp only[];rw[htk];constructor
   ·exact .inl
   ·rintro(h|rfl)
    ·exact h
    ·rw[←hqe];exact ex8 hjl
  ·simp only[m8,simprocAttr,L9,hql,hq];refine tail2 _ _ (fun j2 hj2 h=>?_) hx5d ?_ ?_ ?_ ?_ ?_ ?_
   ·obtain rfl:j2=j:=by omega
    exact cM2 (hdn j2 hj2 rfl) fun h=>ew9 hq h.symm
   all_goals (simp only[p7,simprocAttr];assumption)
 rcases Nat.eq_zero_or_pos i with rfl|h0
 ·have hz0:decide ((0:Int)<((0:Nat):Int))=false:=by simp
  simp only[m8,simprocAttr];refine C2 (fun w'=>o6 w4.drew w') 9 (B0 [0,1,2,3,4,5,6,7,8]) (by decide +kernel) (o9.refl _) ?_;simp only[D5,B0,m8,n8,v8,simprocAttr,h6];refine tail 0 _ _ hil hup (fun j hj h=>by omega) hxd ?_ ?_ ?_ ?_ ?_ ?_<;>simp only[p7,simprocAttr]
  all_goals first|assumption|(rw[g3];exact h3)
 obtain⟨j,rfl⟩:∃j,i=j+1:=⟨i-1,by omega⟩;have hz1:decide ((0:Int)<((j+1:Nat):Int))=true:=by simp
 have hwd:IntKind.i64.wrap (((j+1:Nat):Int)-1)=(j:Int):=by rw[K1 _ (by omega)];omega
 have hjl:j<out.length:=by omega
 have hinj:=hR3.inS hjl;obtain⟨ux,hux,_,tx⟩:=(hR3.at_ (ew4 hjl)).eg_v;obtain rfl:=hux.N;have t6:=tx (fun w'=>o6 w4.drew w') w4.drew (o9.refl _) fun w' h=>b7 (hxd.trans h);rw[hz]at t6;simp only[t8.cells]at t6;have hL:=aV0 e out[j] w4.drew;simp only[t8.cells]at hL;simp only[m8,simprocAttr];refine C2 (fun w'=>o6 w4.drew w') 9 (B0 [0,1,2,3,4,5,6,7,8]) (by decide +kernel) (o9.refl _) ?_;simp only[D5,B0,m8,n8,v8,simprocAttr,h6,g3,h3,g5,hz1,hwd,hinj,t5,t6];refine B7 es6 hL (fun w5 hx5=>?_);have hx35:=hxd.trans hx5;rcases ew5 (I9 e out[j])with hq|hq
 ·simp only[m8,n8,simprocAttr,hq,h6,hwd];refine⟨j,by omega,by trivial,by omega,fun j2 hj2 h=>?_,hx35⟩;rcases eA1 j j2 with h2|h2
  ·exact hup j2 hj2 h2
  ·obtain rfl:j2=j:=by omega
   exact hq
 ·simp only[m8,simprocAttr,hq];refine tail (j+1) _ _ hil hup (fun j2 hj2 h=>?_) hx35 ?_ ?_ ?_ ?_ ?_ ?_
  ·obtain rfl:j2=j:=by omega
   exact hq
  all_goals simp only[p7,simprocAttr]
  all_goals first|assumption|(rw[g3];exact h3)
theorem dK7:E8 prog 61 64 3 32=true:=by kernel_rfl
theorem bK4(v:Value)(p:Pg)(n:A6)(i:Nat)(w:World)(hv:SV (d7 w) v p)(hw:D6 p≤1000000)(hb:be2 p n i):
  Calls prog 23 #[v,o7 n] w fun e w'=>∃u,e = .returned u∧(A9 (d7 w) w' 64 u ((z7 p).flows (i:Int))∧o6 w w'):=by
 refine d9 (args:=[v,o7 n]) hm func23 rfl (by kernel_rfl) (by show 2≤_;decide +kernel) ?_;obtain⟨c,w1,hbx,hx1,hatp⟩:=R3 hv (i4 _);obtain⟨sp,hsp,ldsp,_⟩:=hatp.pg_v;have hR:=hb.1;have hi:=hb.2.2;have hr:=ac3 hR;have l1:=ldsp w1 (i4 _);simp only[m8,n8,simprocAttr,hbx,l1];refine z6 dF5 (bY6 sp p w1 hsp hw) ?_;rintro u w2 ⟨_,ht,hx2⟩;obtain⟨ad,rfl,had⟩:=ht hR;obtain⟨sh,_,_,_,_,_,has,_,_,_,_,_,ldb,_⟩:=had.book rfl;have hlp:(b9 p).p.procs.length≤1000000000:=by
  rw[I1];have:=(O5 hr.may).2;omega
 have hz:(b9 p).pr n=(i:Int):=by unfold Sh.pr;rw[I1];exact hb.2.1
 have lb2:=ldb w2 (i4 _);have h0:decide ((i:Int)<0)=false:=by simp
 simp only[m8,n8,simprocAttr,an8,lb2];refine B7 bs0 (Z9 sh (b9 p) n w2 has hlp) (fun w3 hx3=>?_);have lb3:=ldb w3 (b7 hx3);rw[hz];simp only[m8,n8,simprocAttr,h0,lb3];refine B7 bs0 (Z9 sh (b9 p) n w3 (has.mono (b7 hx3)) hlp) (fun w4 hx4=>?_);rw[hz];simp only[m8,simprocAttr];refine z6 dF6 (bp5 ad p i w4 (had.mono (b7 (hx3.trans hx4))) hr hw hi) ?_;rintro uf w5 ⟨hof,hx5⟩;have hfl:=aF2 hr hw hi;have hv5:=hof.rw_ (b7 hx5);generalize(z7 p).flows (i:Int)=l at hof hfl hv5;have hS:=hv5.isS;have hn:=hv5.vlen;have hx15:o6 w w5:=hx1.trans (hx2.trans ((hx3.trans hx4).trans hx5));clear had has ldb lb2 lb3 hof;simp only[m8,n8,simprocAttr,hS,hn];refine n7 [29,30] (σ:=Nat×Value) (fun s f w'=>f 31 = .int .i64 s.1∧f 6=s.2∧s.1≤l.length∧A9 (d7 w) w' 64 s.2 (l.take s.1)∧o6 w5 w'∧∀b,A4 s.2 b→w5.heap.size≤b) (fun s=>l.length-s.1) (0,.slice none 0 0) (by decide +kernel) ?_ ?_
 ·simp only[p7,simprocAttr];exact⟨by trivial,by trivial,ex6 _,A9.nil _ _ _,o9.refl _,fun b hb=>absurd hb D0⟩
 rintro⟨k,uL⟩ f w6 hk ⟨h31,h6,hkl,ho6,hx6,hfr⟩;simp only at h31 h6 hkl ho6 hx6 hfr;simp only[ew6,p7,simprocAttr]at hk;obtain⟨e29,e30,_⟩:=hk;simp only[m8,n8,simprocAttr,h31,e30];refine i5 (fun hc=>?_) (fun hc=>?_);rotate_left
 ·have hkL:k=l.length:=by simp at hc;omega
  rw[hkL,ex5]at ho6;simp only[m8,simprocAttr,h6];refine n9 results23 ?_;simp only[p7,simprocAttr];exact⟨ho6,hx15.trans hx6⟩
 have hlt:k<l.length:=by simpa using hc
 have hin:=hv5.inS hlt;obtain⟨sv,hsv,hld⟩:=F4 (P:=prog) (t:=97) hv5 (b7 hx6) (ew4 hlt) bN6 bO0 bN8 bb6;rw[bb6]at hld;have htk:l.take (k+1)=l.take k++[l[k]]:=ex2 hlt;generalize l[k]=e at hsv htk;obtain rfl:=hsv.N;obtain⟨d,wz,w7,hal,hst,hx7,hat⟩:=cf5 (SV.ofN (d7 w6) e) (i4 _);obtain⟨sv,hsv2,ldv,_⟩:=hat.fw_v;obtain rfl:=hsv2.N;have t4:=ldv w7 (i4 _);have hx57:=hx6.trans hx7;have ho7:=ho6.ext hx7;have hll:(l.take k).length≤1000000000:=by rw[ex4];omega
 obtain⟨p1,uM,w8,p2,p3,p4,p5⟩:=push (e:=61) dK7 rfl ho7 (x:=.agg (t8.cells e).toArray) (y:=e) (SV.ofN (d7 w) e).enc (by omega) (by omega) (b7 (hx15.trans hx57));simp only[m8,n8,v8,simprocAttr,h31,e29,hin,hld,hal,hst,t4,h6,p1,p2];refine⟨(k+1,uM),by simp only[];omega,by simp only[];rw[B2 k (by omega)],by trivial,by simp only[];omega,?_,?_,?_⟩
 ·simp only[];rw[htk];exact p3
 ·exact o9.ext_of hx57 p4 hfr
 ·intro b hb;rcases p5 b hb with h1|h1
  ·exact hfr b h1
  ·have:=hx57.size;omega
theorem bU5{p:Pg}(h0:0<p.procs.length)(n:Int):aG2 p n∈p.procs.map (·.name):=by
 have hrg:=cd2 (n:=n) (m:=(p.procs.length:Int)) (by omega);have hl:(bi8 n (p.procs.length:Int)).toNat<p.procs.length:=by omega
 unfold aG2;rw[List.getD,ew4 hl];exact ez6.2 ⟨_,ex8 hl,rfl⟩
theorem cn1{p:Pg}(K:Known p):0<p.procs.length:=by
 obtain⟨i,q,h,_⟩:=K.main;have:=(ex1.1 h).1;omega
theorem er1:ag0 prog 10=true:=by kernel_rfl
theorem er3:ag0 prog 12=true:=by kernel_rfl
theorem dF1:ag0 prog 16=true:=by kernel_rfl
theorem er7:ag0 prog 23=true:=by kernel_rfl
theorem er8:ag0 prog 24=true:=by kernel_rfl
theorem er9:ag0 prog 25=true:=by kernel_rfl
theorem ev8:ag0 prog 7=true:=by kernel_rfl
theorem ev9:ag0 prog 8=true:=by kernel_rfl
theorem ew0:ag0 prog 9=true:=by kernel_rfl
theorem dH2(w:World)(y:Eg):∃wz,(Instr.alloc 60 true (.tuple #[])).run prog w = .ok (.pointer (some ⟨w.heap.size,0,none⟩)) wz ∧
  (Instr.storeAt 60 (.pointer (some ⟨w.heap.size,0,none⟩)) (.agg (t8.cells y).toArray)).run prog wz = .ok () (w.alloc (.cells (t8.cells y).toArray 60)):=by
 have h:=aH8 (P:=prog) (w:=w) (T:=60) bv8 rfl (cs:=(t8.cells y).toArray) (by rw[ac9];rfl) (fun u hu=>S4 y u (by simpa using hu));exact⟨_,h.1,h.2⟩
theorem dL0{w:World}{c:Nat}{y:Eg}(hc:w.heap[c]?=some (.cells (t8.cells y).toArray 60 (0,0)))(z:Vx):∃w',(Instr.storeAt 36 (.pointer (some ⟨c,0,none⟩)) (.agg (t8.cells z).toArray)).run prog w = .ok () w'∧w'.heap[c]?=some (.cells (t8.cells (⟨z,y.dst,y.kind⟩:Eg)).toArray 60 (0,0))∧o9 (fun b=>b=c) w w':=
 bc7 (P:=prog) (t:=36) (cs:=t8.cells z) (o:=0) hc (by show 0+4≤9;omega) (S4 z) az5 Y6
theorem dL1{w:World}{c:Nat}{y:Eg}(hc:w.heap[c]?=some (.cells (t8.cells y).toArray 60 (0,0)))(z:Vx):∃w',(Instr.storeAt 36 (.pointer (some ⟨c,4,none⟩)) (.agg (t8.cells z).toArray)).run prog w = .ok () w'∧w'.heap[c]?=some (.cells (t8.cells (⟨y.src,z,y.kind⟩:Eg)).toArray 60 (0,0))∧o9 (fun b=>b=c) w w':=
 bc7 (P:=prog) (t:=36) (cs:=t8.cells z) (o:=4) hc (by show 4+4≤9;omega) (S4 z) az5 Y6
theorem ek6{w:World}{c:Nat}{y:Eg}(hc:w.heap[c]?=some (.cells (t8.cells y).toArray 60 (0,0))):(Instr.loadAt 60 (.pointer (some ⟨c,0,none⟩))).run prog w = .ok (.agg (t8.cells y).toArray) w:=
 R2 hc aR5 aR8 aD7 (by rw[ac9];rfl)
theorem cc8:∀{l:List Nat} {x:Nat},x∈l→x≤l.sum
 | a::l,x,h=>by
  rw[eG8];rcases ey3.1 h with rfl|h
  ·omega
  ·have:=cc8 h;omega
theorem bn2(v:Value)(p:Pg)(n:Int)(w:World)(hv:SV (d7 w) v p):Calls prog 5 #[v,.int .i64 n] w fun e w'=>∃u,e = .returned u∧(u = .bool true∧o6 w w'):=by
 refine d9 (args:=[v,.int .i64 n]) hm func5 rfl (by kernel_rfl) (by show 2≤_;decide +kernel) ?_;obtain⟨c,w1,hbx,hx1,hatp⟩:=R3 hv (i4 _);obtain⟨sp,hsp,ldsp,_⟩:=hatp.pg_v;simp only[m8,n8,simprocAttr,hbx];refine B7 ev8 (bo4 w1) (fun w2 hx2=>?_);have l2:=ldsp w2 (b7 hx2);simp only[m8,n8,simprocAttr,l2];refine B7 ev9 (cp8 sp p w2 (hsp.mono (b7 hx2))) (fun w3 hx3=>?_);have hx23:=hx2.trans hx3;rcases ew5 (decide (D6 p≤20000))with h1|h1;rotate_left
 ·simp only[m8,n8,simprocAttr,h1];refine n9 results5 ?_;simp only[p7,simprocAttr];exact⟨by trivial,hx1.trans hx23⟩
 have hw:D6 p≤1000000:=ex3 (ew8 h1) (by decide);have l3:=ldsp w3 (b7 hx23);simp only[m8,n8,simprocAttr,h1,l3];refine B7 ew0 (bL7 sp p 40 w3 (hsp.mono (b7 hx23)) hw) (fun w4 hx4=>?_);have hx24:=hx23.trans hx4;rcases ew5 (ac2 p&&decide ((bx8 p:Int)≤40))with h2|h2;rotate_left
 ·simp only[m8,n8,simprocAttr,h2];refine n9 results5 ?_;simp only[p7,simprocAttr];exact⟨by trivial,hx1.trans hx24⟩
 have hR:ac2 p=true:=by rw[ey9]at h2;exact h2.1
 have hcn:∀y∈p.procs,A5 y.body≤200:=fun y hy=>by
  rw[ey9]at h2;have:=ew8 h2.2;have:=cc8 (ez6.2 ⟨y,hy,rfl⟩:A5 y.body∈p.procs.map fun f=>A5 f.body);unfold bx8 at *;omega
 have hr:=ac3 hR;have h0:=cn1 hr.toKnown;have h16:=(O5 hr.may).2;have l4:=ldsp w4 (b7 hx24);simp only[m8,n8,simprocAttr,h2,l4];refine B7 er1 (bp0 sp p n w4 (hsp.mono (b7 hx24)) h0 (by omega)) (fun w5 hx5=>?_);have hx25:=hx24.trans hx5;obtain⟨i,hi,hb,hnm⟩:=ch7 hr.toKnown (bU5 h0 n) hR;generalize aG2 p n=q at hb hnm;have hok:=cN2 hb hw hnm;have l5:=ldsp w5 (b7 hx25);simp only[m8,simprocAttr,l5];refine z6 dF0 (aP4 sp p q w5 (hsp.mono (b7 hx25)) hw) ?_;rintro ue w6 ⟨hoe,hx6⟩;have hL:=hoe.rw_ (b7 hx6);have hef:=hok.efew;simp only[m8,simprocAttr];refine z6 er3 (cn4 ue (ab5 p q) 2 w6 hL (by omega)) ?_;rintro uf w7 ⟨hof,hx7⟩;have hF:=hof.rw_ (b7 hx7);have hx27:=(hx25.trans hx6).trans hx7;have l7:=ldsp w7 (b7 hx27);have hth:bB9 (ab5 p q)=((ab5 p q).filter fun e=>decide (e.kind=2)).filter an6:=rfl;have hrise:=hok.rise;have hsame:=hok.same;have hffew:=hok.ffew;rw[hth]at hrise;simp only[hth]at hsame;generalize ab5 p q=L at hF hef hrise hsame;have hfl:(L.filter fun e=>decide (e.kind=2)).length≤60000000:=ex3 (ez0 _ _) hef;generalize(L.filter fun e=>decide (e.kind=2))=L2 at hF hfl hrise hsame;clear hoe hof hL hok hth;simp only[m8,simprocAttr,l7];refine z6 er7 (bK4 sp p q i w7 (hsp.mono (b7 hx27)) hw hb) ?_;rintro ur w8 ⟨hor,hx8⟩;have hx28:=hx27.trans hx8;have hfs:=hor.rw_ (b7 hx8);generalize(z7 p).flows (i:Int)=fl at hfs hffew hsame;clear hor;have hSr:=hfs.isS;have hnr:=hfs.vlen;simp only[m8,n8,simprocAttr,hSr,hnr];refine n7 [2,5,6,31,32] (σ:=Nat×Value) (fun s f w'=>f 33 = .int .i64 s.1∧f 7=s.2∧s.1≤fl.length∧A9 (d7 w8) w' 60 s.2 (au8 p q (fl.take s.1))∧o6 w8 w') (fun s=>fl.length-s.1) (0,.slice none 0 0) (by decide +kernel) ?_ ?_
 ·simp only[p7,simprocAttr];exact⟨by trivial,by trivial,ex6 _,A9.nil _ _ _,o9.refl _⟩
 rintro⟨k,uW⟩ f w9 hk ⟨h33,h7,hkl,how,hx9⟩;simp only at h33 h7 hkl how hx9;simp only[ew6,p7,simprocAttr]at hk;obtain⟨e2,e5,e6,e31,e32,_⟩:=hk;simp only[m8,n8,simprocAttr,h33,e32];refine i5 (fun hc=>?_) (fun hc=>?_)
 ·have hlt:k<fl.length:=by simpa using hc
  have hin:=hfs.inS hlt;obtain⟨sv,hsv,hld⟩:=F4 (P:=prog) (t:=64) hfs (b7 hx9) (ew4 hlt) cZ7 da8 cZ8 cf1;rw[cf1]at hld;have htk:au8 p q (fl.take (k+1))=au8 p q (fl.take k)++(if U3 p fl[k]then[]else[X2 q fl[k]]):=by
   unfold au8;rw[ex2 hlt,eD4,ez5];cases hp:U3 p fl[k]<;>simp[hp]
  have hwl:(au8 p q (fl.take k)).length≤5000000:=by
   unfold au8;rw[ex7];exact ex3 (ez0 _ _) (by rw[ex4];omega)
  generalize fl[k]=e at hsv htk;obtain rfl:=hsv.N;obtain⟨d,wz,w10,hal,hst,hx10,hat⟩:=bC7 (P:=prog) (T:=64) (w:=w9) (N:=A4 uW) (SV.ofN (d7 w9) e) (fun b hb=>how.lt hb) dY6 rfl cf1;have tf:=(I4.fw (SV.ofN (d7 w9) e) hat).1;obtain⟨tf1,tf2,tf3⟩:=tf w10 (B3 _ _);have hx210:=(hx28.trans hx9).trans hx10;have l10:=ldsp w10 (b7 hx210);have ho10:=how.ext hx10;simp only[m8,n8,v8,simprocAttr,h33,e2,e31,hin,hld,hal,hst,tf1,l10];refine z6 dF1 (bD9 sp p e.src w10 (hsp.mono (b7 hx210)) hcn (by omega)) ?_;rintro us w11 ⟨hus,hx11⟩;have hek:=bF8 hus;have hcd:decide ((ba9 p e.src).kind=4)=ag2 p e.src:=rfl;have hx211:=hx210.trans hx11;rcases ew5 (ag2 p e.src)with hc1|hc1
  ·have hfc:U3 p e=true:=by unfold U3;rw[hc1];rfl
   rw[hfc,if_pos rfl,ez3]at htk;simp only[m8,n8,simprocAttr,hek,hcd,hc1,h33];refine⟨(k+1,uW),by simp only[];omega,by simp only[];rw[B2 k (by omega)],by simpa using h7,by simp only[];omega,?_,hx9.trans (hx10.trans hx11)⟩;simp only[];rw[htk];exact ho10.ext hx11
  have l11:=ldsp w11 (b7 hx211);obtain⟨_,tg2,_⟩:=tf w11 (p6 (B3 _ _) (b7 hx11));simp only[m8,n8,simprocAttr,hek,hcd,hc1,l11,tg2,e2];refine z6 dF1 (bD9 sp p e.dst w11 (hsp.mono (b7 hx211)) hcn (by omega)) ?_;rintro us2 w12 ⟨hus2,hx12⟩;have hek2:=bF8 hus2;have hcd2:decide ((ba9 p e.dst).kind=4)=ag2 p e.dst:=rfl;have hx1012:=hx11.trans hx12;have ho12:=ho10.ext hx1012;rcases ew5 (ag2 p e.dst)with hc2|hc2
  ·have hfc:U3 p e=true:=by unfold U3;rw[hc2,eH4]
   rw[hfc,if_pos rfl,ez3]at htk;simp only[m8,n8,simprocAttr,hek2,hcd2,hc2,h33];refine⟨(k+1,uW),by simp only[];omega,by simp only[];rw[B2 k (by omega)],by simpa using h7,by simp only[];omega,?_,hx9.trans (hx10.trans hx1012)⟩;simp only[];rw[htk];exact ho12
  have hfc:U3 p e=false:=by unfold U3;rw[hc1,hc2];rfl
  have hk1:IntKind.i64.wrap ((k:Int)+1)=((k+1:Nat):Int):=B2 k (by omega);have hms:fl.length-(k+1)<fl.length-k:=by omega
  have hw1:(au8 p q (fl.take k)).length+1≤1000000000000∧((au8 p q (fl.take k)).length+1)*104≤140737488355328:=by omega
  rw[hfc,if_neg (by simp)]at htk;obtain⟨ta1,ta2,ta3⟩:=tf w12 (p6 (B3 _ _) (b7 hx1012));obtain⟨wz13,hal13,hst13⟩:=dH2 w12 ⟨⟨q,2,e.src,Go.Proofs.YtcbnbgpphippoaaGreat.e0⟩,⟨q,2,e.dst,Go.Proofs.YtcbnbgpphippoaaGreat.e0⟩,2⟩;have hx13:=o6.alloc w12 (.cells (t8.cells (⟨⟨q,2,e.src,Go.Proofs.YtcbnbgpphippoaaGreat.e0⟩,⟨q,2,e.dst,Go.Proofs.YtcbnbgpphippoaaGreat.e0⟩,2⟩:Eg)).toArray 60);have hc13:=eA5 w12 (.cells (t8.cells (⟨⟨q,2,e.src,Go.Proofs.YtcbnbgpphippoaaGreat.e0⟩,⟨q,2,e.dst,Go.Proofs.YtcbnbgpphippoaaGreat.e0⟩,2⟩:Eg)).toArray 60);generalize w12.alloc (.cells (t8.cells (⟨⟨q,2,e.src,Go.Proofs.YtcbnbgpphippoaaGreat.e0⟩,⟨q,2,e.dst,Go.Proofs.YtcbnbgpphippoaaGreat.e0⟩,2⟩:Eg)).toArray 60)=w13 at hst13 hx13 hc13;have hrb:w12.heap.size<w13.heap.size:=(ex0.1 hc13).1;have hsz912:=(hx10.trans hx1012).size;have b1:=aS8 q 2 e.src;have b2:=aS8 q 2 e.dst;have b3:=bE4 ⟨q,2,e.src,Go.Proofs.YtcbnbgpphippoaaGreat.e0⟩ ⟨q,2,e.dst,Go.Proofs.YtcbnbgpphippoaaGreat.e0⟩ 2;have b4:=aS9 q 3 e.var;have b5:=aS9 q 4 e.var;obtain⟨tb1,_,_⟩:=tf w13 (p6 (B3 _ _) (b7 (hx1012.trans hx13)));generalize hrbe:w12.heap.size=rb at hal13 hst13 hc13 hrb hsz912;simp only[bO7,n8,simprocAttr,hek2,hcd2,hc2];rw[bD2];simp only[bO7,n8,simprocAttr,e5,ta1,ta2,b1,b2,b3,hal13,hst13,tb1];refine bi0 [2,5,6,7,9,10,31,32,33] (fun f' w'=>o6 w12 w'∧w'.heap[rb]?=some (.cells (t8.cells (⟨(X2 q e).src,⟨q,2,e.dst,Go.Proofs.YtcbnbgpphippoaaGreat.e0⟩,2⟩:Eg)).toArray 60 (0,0))) (by decide +kernel) ?_ ?_
  ·unfold X2;rcases ew5 (decide (e.src=0))with h0|h0
   ·obtain⟨w14,q1,q2,q3⟩:=dL0 hc13 ⟨q,3,0,e.var⟩;obtain⟨_,_,tb3⟩:=tf w13 (p6 (B3 _ _) (b7 (hx1012.trans hx13)));simp only[m8,n8,simprocAttr,h0,e5,tb3,b4,q1];refine⟨o9.ext_of hx13 q3 fun b hb=>by rw[hb];omega,?_⟩;rw[if_pos (ew8 h0)];exact q2
   ·simp only[m8,simprocAttr,h0];refine⟨hx13,?_⟩;rw[if_neg (ew9 h0)];exact hc13
  rintro f4 w14 hk ⟨hx14,hc14⟩;simp only[ew6,p7,simprocAttr]at hk;obtain⟨g2,g5,g6,g7,g9,g10,g31,g32,g33,_⟩:=hk;obtain⟨_,tc2,tc3⟩:=tf w14 (p6 (B3 _ _) (b7 (hx1012.trans hx14)));simp only[bO7,n8,simprocAttr,g9,tc2];refine bi0 [2,5,6,7,9,10,31,32,33] (fun f' w'=>o6 w12 w'∧w'.heap[rb]?=some (.cells (t8.cells (X2 q e)).toArray 60 (0,0))) (by decide +kernel) ?_ ?_
  ·have hfe:X2 q e=⟨(X2 q e).src,if e.dst = -1 then⟨q,4,0,e.var⟩else⟨q,2,e.dst,Go.Proofs.YtcbnbgpphippoaaGreat.e0⟩,2⟩:=rfl;rw[hfe];rcases ew5 (decide (e.dst = -1))with h0|h0
   ·obtain⟨w15,q1,q2,q3⟩:=dL1 hc14 ⟨q,4,0,e.var⟩;simp only[m8,n8,simprocAttr,h0,g5,e5,g9,g10,tc3,b5,q1];refine⟨o9.ext_of hx14 q3 fun b hb=>by rw[hb];omega,?_⟩;rw[if_pos (ew8 h0)];exact q2
   ·simp only[m8,simprocAttr,h0];refine⟨hx14,?_⟩;rw[if_neg (ew9 h0)];exact hc14
  rintro f5 w15 hk ⟨hx15,hc15⟩;simp only[ew6,p7,simprocAttr]at hk;obtain⟨j2,j5,j6,j7,j9,j10,j31,j32,j33,_⟩:=hk;have te:=ek6 hc15;have hx815:o6 w8 w15:=hx9.trans (hx10.trans (hx1012.trans hx15));obtain⟨p1,uM,w16,p2,p3,p4,p5⟩:=push (e:=32) bL8 rfl (ho12.ext hx15) (x:=.agg (t8.cells (X2 q e)).toArray) (y:=X2 q e) (SV.ofN (d7 w8) (X2 q e)).enc hw1.1 hw1.2 (b7 hx815);simp only[m8,n8,simprocAttr,j7,j10,j33,g7,g10,g33,h7,h33,te,p1,p2];refine⟨(k+1,uM),hms,by simp only[];rw[hk1],rfl,hlt,?_,?_⟩
  ·simp only[];rw[htk];exact p3
  ·exact o9.ext_of hx815 p4 fun b hb=>C5 (how.free hb)
 have hkL:k=fl.length:=by simp at hc;omega
 rw[hkL,ex5]at how;have hwl:(au8 p q fl).length≤5000000:=by
  unfold au8;rw[ex7];exact ex3 (ez0 _ _) hffew
 generalize au8 p q fl=want at how hwl hsame;have hF9:R (d7 w9) uf L2:=A3.mono (b7 (hx8.trans hx9)) hF;have hSf:=hF.isS;have hnf:=hF.vlen;simp only[m8,n8,simprocAttr,e6,hSf,hnf];refine n7 [7,81,82] (σ:=Nat×Value) (fun s f w'=>f 83 = .int .i64 s.1∧f 11=s.2∧s.1≤L2.length∧A9 (d7 w9) w' 60 s.2 ((L2.take s.1).filter an6)∧o6 w9 w') (fun s=>L2.length-s.1) (0,.slice none 0 0) (by decide +kernel) ?_ ?_
 ·simp only[p7,simprocAttr];exact⟨by trivial,by trivial,ex6 _,A9.nil _ _ _,o9.refl _⟩
 rintro⟨j,uT⟩ f2 w10 hk ⟨h83,h11,hjl,hot,hx10⟩;simp only at h83 h11 hjl hot hx10;simp only[ew6,p7,simprocAttr]at hk;obtain⟨g7,g81,g82,_⟩:=hk;simp only[m8,n8,simprocAttr,h83,g82];refine i5 (fun hc2=>?_) (fun hc2=>?_)
 ·have hlt:j<L2.length:=by simpa using hc2
  have hin:=hF9.inS hlt;obtain⟨sv,hsv,hld⟩:=F4 (P:=prog) (t:=60) hF9 (b7 hx10) (ew4 hlt) aR5 aR8 aD7 ac9;rw[ac9]at hld;have htk:=aN4 an6 hlt;have hfl2:((L2.take j).filter an6).length≤60000000:=ex3 (ez0 _ _) (by rw[ex4];omega);generalize L2[j]=e at hsv htk;obtain rfl:=hsv.N;obtain⟨d,wz,w11,hal,hst,hx11,hat⟩:=bC6 (SV.ofN (d7 w10) e) (i4 _);obtain⟨hs1,ht1,_⟩:=hat.eg;obtain⟨sv,hsv2,ldv,_⟩:=hat.eg_v;obtain rfl:=hsv2.N;have t1:=(hs1.vx.1 w11 (i4 _)).2.1;have t2:=(ht1.vx.1 w11 (i4 _)).2.1;have t4:=ldv w11 (i4 _);have ho11:=hot.ext hx11;have hx911:=hx10.trans hx11;rcases ew5 (decide (e.src.kind<5))with k1|k1;rotate_left
  ·have hd:an6 e=false:=by unfold an6;rw[k1];rfl
   rw[hd,if_neg (by simp),ez3]at htk;simp only[m8,n8,v8,simprocAttr,h83,g81,hin,hld,hal,hst,t1,k1];refine⟨(j+1,uT),by simp only[];omega,by simp only[];rw[B2 j (by omega)],by simpa using h11,by simp only[];omega,?_,hx911⟩;simp only[];rw[htk];exact ho11
  rcases ew5 (decide (e.dst.kind<5))with k2|k2;rotate_left
  ·have hd:an6 e=false:=by unfold an6;rw[k1,k2];rfl
   rw[hd,if_neg (by simp),ez3]at htk;simp only[m8,n8,v8,simprocAttr,h83,g81,hin,hld,hal,hst,t1,t2,k1,k2];refine⟨(j+1,uT),by simp only[];omega,by simp only[];rw[B2 j (by omega)],by simpa using h11,by simp only[];omega,?_,hx911⟩;simp only[];rw[htk];exact ho11
  ·have hd:an6 e=true:=by unfold an6;rw[k1,k2];rfl
   rw[hd,if_pos rfl]at htk;obtain⟨p1,uM,w12,p2,p3,p4,p5⟩:=push (e:=32) bL8 rfl ho11 (x:=.agg (t8.cells e).toArray) (y:=e) (SV.ofN (d7 w9) e).enc (by omega) (by omega) (b7 hx911);simp only[m8,n8,v8,simprocAttr,h83,g81,hin,hld,hal,hst,t1,t2,t4,k1,k2,h11,p1,p2];refine⟨(j+1,uM),by simp only[];omega,by simp only[];rw[B2 j (by omega)],by trivial,by simp only[];omega,?_,?_⟩
   ·simp only[];rw[htk];exact p3
   ·exact o9.ext_of hx911 p4 fun b hb=>C5 (ho11.free hb)
 have hjL:j=L2.length:=by simp at hc2;omega
 rw[hjL,ex5]at hot;have hW:=(how.ext hx10).rw_ (b7 (hx9.trans hx10));have hTl:(L2.filter an6).length≤1000000000:=ex3 (ez0 _ _) (by omega);simp only[m8,simprocAttr,h11,g7,h7];refine z6 er9 (bB3 uW want w10 hW (by omega)) ?_;rintro uo w11 ⟨out,hoo,hsr,hmem,hx11⟩;have hout:L2.filter an6=out:=cd9 cM3 cu0 hrise hsr fun x=>(hsame x).trans (hmem x).symm;simp only[m8,simprocAttr];refine B7 er8 (bj3 uT uo (L2.filter an6) out w11 ((hot.ext hx11).rw_ (b7 (hx10.trans hx11))) (hoo.rw_ (b7 hx11)) hTl) (fun w12 hx12=>?_);simp only[m8,n8,simprocAttr,hout];refine n9 results5 ?_;simp only[p7,simprocAttr];exact⟨by trivial,hx1.trans (hx28.trans (hx9.trans (hx10.trans (hx11.trans hx12))))⟩
end Go.Proofs.YtcbnbgpphippoaaGreat

/- What the functions of the program do, for every input; plain facts. No condition, no statement of its own. Part 2. -/
import Derived.Ground.Names2Prog
import Derived.Ground.NamesProg
import Derived.Laws.StructEq
import Derived.Lib.SlicesCompact
import Derived.Shelf.SlSortCmp.NoneTotal
import Derived.Shelf.SlSortCmp.WholeK
import Derived.Shelf.Slices.Clone
import Derived.Shelf.Slices.CompactS
import Derived.Shelf.Slices.Empties
import Derived.Shelf.Slices.In.SortNone
import Derived.Shelf.Slices.SearchI
import Derived.Shelf.Sort.Plain
import Derived.Shelf.Spec.SlicesInsert
import Derived.Shelf.Spec.SlicesInsertGrow
import Derived.Sort.Walk0
import Derived.Test.YtpebpfiglfmegaaGreatProg
import Derived.WideKeyRuns
import Derived.Test.YtpebpfiglfmegaaGreatZ1
set_option maxRecDepth 1000000
set_option maxHeartbeats 8000000
set_option linter.unusedVariables false
set_option linter.unusedSimpArgs false
set_option linter.unnecessarySimpa false
set_option linter.defProp false
namespace Go.Proofs.YtpebpfiglfmegaaGreat
open Go Tryz List IntKind Region
def bn6:∀(l m:List Pr) (s:Sh) (i:Nat),K8 s i (l++m)=K8 (K8 s i l) (i+l.length) m
 | [],m,s,i=>by simp[K8]
 | f::l,m,s,i=>by simp only[eP1,K8,bn6 l m,eG6];congr 1;omega
def cH3(l:List Pr)(s:Sh){k}(a:k<l.length):K8 s 0 (l.take (k+1))=I8 (K8 s 0 (l.take k)) k l[k]:=by
 rw[eD9 a,bn6,eE5,eJ7 (Nat.le_of_lt a)];simp only[K8,eH5]
theorem bw7:∀(l:List Pr) (s:Sh) (i:Nat),(K8 s i l).p=s.p
 | [],s,i=>rfl
 | f::l,s,i=>by rw[K8,bw7 l];rfl
def aV1:∀(l:List Pr) (s:Sh) (i:Nat),(K8 s i l).l.length=s.l.length+(l.map λf=>B8 f.body).sum
 | [],s,i=>by simp[K8]
 | f::l,s,i=>by
  rw[K8,aV1 l];simp only[I8,eD4,L9,eI4,eO9];omega
def bD1:∀(l:List Pr) (s:Sh) (i:Nat),(K8 s i l).lo.length=s.lo.length+l.length/\(K8 s i l).hi.length=s.hi.length+l.length
 | [],s,i=>by simp[K8]
 | f::l,s,i=>by
  obtain⟨c,d⟩:=bD1 l (I8 s i f) (i+1);have a:(I8 s i f).lo.length=s.lo.length+1:=by simp[I8]
  have b:(I8 s i f).hi.length=s.hi.length+1:=by simp[I8]
  rw[K8,eG6];exact⟨om,om⟩
def du7(vg vp):D0 prog 159 [(0,.agg (toArray [vg,vp]))]=some (.agg #[vg,vp,(),(),()]):=by
 simp[D0,ee5,M2,Instr.fill,Value.cells]
def ea7(w vg vp):∃a b,(Instr.box 159 (.agg #[vg,vp,(),(),()])).run prog w = .ok (.pointer (some ⟨a,0,none⟩)) b/\o6 w b/\b.heap[a]?=some (.cells #[vg,vp,(),(),()] 159 (0,0))/\w.heap.size<=a:=
 ⟨_,_,rfl,o6.alloc _ _,eH3 w _,eE8 _⟩
def ShS.at_{h w gb vg vp vL vLo vHi}{L:List It}{c b:List Int}{p:Pg}(s:ShS h w gb vg vp vL vLo vHi L c b)(a:E6 h (n8 w))(d:R h vg p.globals)(f:R h vp p.procs):At (n8 w) ⟨gb,0,none⟩ (⟨p,L,c,b⟩:Sh):=by
 refine⟨[vg,vp,vL,vLo,vHi],⟨[vg,vp],vL,vLo,vHi,rfl,⟨vg,vp,rfl,A9.mono a d,A9.mono a f⟩,s.oL.rw_ a,s.oLo.rw_ a,s.oHi.rw_ a⟩,λj u e=>?_⟩;rw[<-ao3,add_lit,eH5,eL6 w gb j _ 159 (0,0) s.cell];simpa using e
def ap9(h v p w)(hv:SV h v p)(hh:E6 h (n8 w))(a6:C1 p<=1000000):p7 prog 119 #[v] w λu X=>(∃l J I O n m,u = .pointer (some ⟨l,0,none⟩)/\ShS h X l J I O n m (i5 p).l (i5 p).lo (i5 p).hi/\R h J p.globals/\R h I p.procs/\w.heap.size<=l/\(∀b,(B0 O b\/B0 n b\/B0 m b)->w.heap.size<=b)/\o6 w X):=by
 apply y5 [v] func119 rfl;obtain⟨a,r,aQ,W,ha⟩:=af3 (w:=w) (λ_=>False) hv (λ_ h=>h.elim);obtain⟨J,I,hg,hp,ld,_⟩:=L8.pg hv ha;obtain⟨lw,_⟩:=L8.pg_v hv ha;have a4:v = .agg (toArray [J,I]):=by
  obtain⟨cs,rfl,he⟩:=hv;obtain⟨u1,u2,rfl,h1,h2⟩:=co5 he;obtain⟨bo,e2,hc⟩:=ha;obtain rfl:=ai7 e2;have k0:(Instr.loadAt 22 a).run prog r = .ok u1 r:=N8 (h:=D9 r λ_=>False) hc rfl ab6 r (B6 _ _);have k1:(Instr.loadAt 23 (a.add 1)).run prog r = .ok u2 r:=B5 (h:=D9 r λ_=>False) hc (o:=1) rfl dH3 r (B6 _ _);have e0:=((ld r (B6 _ _)).1).symm.trans k0;have e1:=((ld r (B6 _ _)).2).symm.trans k1;simp only[Result.ok.injEq,and_true]at e0 e1;subst e0;subst e1;rfl
 have ay:=lw r (B6 _ _);have L:E6 h (n8 r):=A3 hh (b7 W);have aK:=hp.isS;have aY:=hp.vlen;have bw:=as3 p.procs;have br:=bL8 p.procs;unfold C1 at a6;obtain⟨l,w2,aO,av,aR,D⟩:=ea7 r J I;have l2:=ld w2 (A3 (B6 _ _) (b7 av));have a0:ShS h w2 l J I () () () [] [] []:=⟨aT4 L D,aR,B7.nil _ _ _,B7.nil _ _ _,B7.nil _ _ _,λb c=>fj c E7,λb c=>fj c E7,λb c=>fj c E7⟩;rw[a4]at ay;simp only[eQ,simprocAttr,aQ,ay,du7,aO,l2,aK,aY];refine B4 [3,10,11] (σ:=Nat×Value×Value×Value) (λs f X=>f 12=s.1/\s.1<=p.procs.length/\ShS h X l J I s.2.1 s.2.2.1 s.2.2.2 (K8 ⟨p,[],[],[]⟩ 0 (p.procs.take s.1)).l (K8 ⟨p,[],[],[]⟩ 0 (p.procs.take s.1)).lo (K8 ⟨p,[],[],[]⟩ 0 (p.procs.take s.1)).hi/\o6 r X/\(∀b,(B0 s.2.1 b\/B0 s.2.2.1 b\/B0 s.2.2.2 b)->r.heap.size<=b)) (λs=>p.procs.length-s.1) (0,(),(),()) ?_ ?_
 .exact⟨rfl,eE2 _,by simpa[K8]using a0,av,λb c=>by rcases c with h|h|h<;>exact fj h E7⟩
 .rintro⟨k,O,n,m⟩ f w3 ⟨e3,aG,aH,_⟩ ⟨S,aj,A,ae,C⟩;simp only at S aj A C;simp only[eQ,simprocAttr,S,aH];refine A7 (λT=>?_) ?_
  .have aZ:R h I p.procs:=hp;have aW:=hp.inS T;obtain⟨sv,ad,ak⟩:=G1 (P:=prog) (t:=68) aZ (A3 L (b7 ae)) (eD1 T) as1 as2 ao1 N6;rw[N6]at ak;have B:=cH3 p.procs ⟨p,[],[],[]⟩ T;have Z:=aV1 (p.procs.take k) ⟨p,[],[],[]⟩ 0;have z:=aV1 (p.procs.take (k+1)) ⟨p,[],[],[]⟩ 0;have ab:=bD1 (p.procs.take k) ⟨p,[],[],[]⟩ 0;have bf:((p.procs.take (k+1)).map λf=>B8 f.body).sum<=(p.procs.map λf=>B8 f.body).sum:=by
    conv=>rhs;rw[<-eH8 (k+1) p.procs,eG8,sum_append]
    omega
   rw[B]at z;have aq:=ay4 (eE1 T);rw[eE5,eJ7 aj]at ab;generalize hG:K8 ⟨p,[],[],[]⟩ 0 (p.procs.take k)=G at A Z ab B z;generalize p.procs[k]=q at ad B aq z;simp only[I8,eD4,L9,eK5,eH5]at Z z ab;obtain⟨b,wz,Q,aM,a3,aw,aN⟩:=aM3 (w:=w3) (λb=>b=l\/B0 O b\/B0 n b\/B0 m b) ad (λb c=>by
    rcases c with rfl|c|c|c
    .exact A.lt
    .exact A.oL.lt c
    .exact A.oLo.lt c
    .exact A.oHi.lt c)
   obtain⟨_,_,vb,_,_,_,a5,_,a9,_⟩:=L8.pr ad aN;have ac:=A.ext aw;have g:=ac.ext (o6.drew Q);have M:o6 r Q.drew:=ae.trans (aw.trans (o6.drew Q));have aI:=ac.oL.isS;have aX:=ac.oL.vlen;have aC:∀K f d w,X8 prog (t8 (B0 n) Q.drew) (Instr.loadAt 45 (.pointer (some ⟨l,3,none⟩))) K f d w=K (G9 f d n) w:=λK f d w=>L5 (w0:=Q.drew) (t8.refl _) λX F=>F9 (i:=3) ((F.block l g.lt λc=>(g.d2 l c).1 rfl).trans g.cell) rfl ao0;have bc:∀K f d w,X8 prog (t8 (B0 n) Q.drew) (Instr.loadAt 157 (.pointer (some ⟨l,2,none⟩))) K f d w=K (G9 f d O) w:=λK f d w=>L5 (w0:=Q.drew) (t8.refl _) λX F=>F9 (i:=2) ((F.block l g.lt λc=>(g.d2 l c).1 rfl).trans g.cell) rfl bD9;have ao:IntKind.i64.wrap ((G.l.length:Int)+1)=(G.l.length:Int)+1:=N7 _ om;obtain⟨p1,E,w5,p2,p3,p4,p5⟩:=push (e:=45) dX7 rfl g.oLo (x:=.int .i64 ((G.l.length:Int)+1)) (y:=(G.l.length:Int)+1) rfl om om (A3 L (b7 M));simp only[Value.cells]at p1 p2;have aS:w5.heap[l]?=some (.cells #[J,I,O,n,m] 159 (0,0)):=(p4.block l g.lt λc=>(g.d2 l c).1 rfl).trans g.cell;obtain⟨w6,s6,aT,af⟩:=ai1 (P:=prog) (t:=45) (i:=3) (x:=E) aS dG (G3 p3.isS) (aa9 p3.isS) (B1 av6).choose_spec.1 (by rw[<-F8 (B1 av6).choose_spec.1];exact bK0);have a1:ShS h w6 l J I O E m G.l (G.lo++[(G.l.length:Int)+1]) G.hi:=g.setLo p4 p3 p5 af (by simpa using aT);have N:o6 r w6:=t8.ext_of (t8.ext_of M p4 λb c=>C b (.inr (.inl c))) af λb c=>by subst c;exact D
   have U:t8 (λb=>b=l\/B0 O b\/B0 n b\/B0 m b) Q w6:=((t8.up (o6.drew Q)).chain p4 λi _ c=>.inr (.inr (.inl c))).chain af λi _ c=>.inl c;obtain⟨bv,aP,ah⟩:=dg4 h (k:Int) (-1);simp only[p6,n9,A6,simprocAttr,S,aG,aW,ak,aM,a3];refine C4 (t8 (B0 n) Q.drew) 13 (A8 [0,1,2,3,4,5,6,7,8,9,10,11,12]) ?_;simp only[D7,A8,p6,n9,simprocAttr,e3,aC,bc,aI,aX,ao,p1,p2,F2];refine⟨t8.up (o6.alloc _ _),p4,?_⟩;simp only[eQ,simprocAttr,s6,e3,a9 w6 (F5 U),aP];apply z6 (dS7 (B8 q.body) q.body _ bv vb h l J I O E m _ _ _ w6 (eE8 _) a1 (A3 L (b7 N)) a5 ah (by unfold ah4 at aq;omega) om);rintro u Y ⟨ag,V,a7,al⟩;simp only at V;have ar:o6 r Y:=t8.ext_of N a7 λb c=>by
    rcases c with rfl|c
    .exact D
    .exact C b (.inl c)
   have j:=V.ext (o6.drew Y);have H:o6 r Y.drew:=ar.trans (o6.drew Y);have aJ:=V.oL.isS;have am:=V.oL.vlen;rw[eD4,L9]at am;have aA:∀K f d w,X8 prog (t8 (B0 m) Y.drew) (Instr.loadAt 45 (.pointer (some ⟨l,4,none⟩))) K f d w=K (G9 f d m) w:=λK f d w=>L5 (w0:=Y.drew) (t8.refl _) λX F=>F9 (i:=4) ((F.block l j.lt λc=>j.d3 l c rfl).trans j.cell) rfl ao0;have aB:∀K f d w,X8 prog (t8 (B0 m) Y.drew) (Instr.loadAt 157 (.pointer (some ⟨l,2,none⟩))) K f d w=K (G9 f d ag) w:=λK f d w=>L5 (w0:=Y.drew) (t8.refl _) λX F=>F9 (i:=2) ((F.block l j.lt λc=>j.d3 l c rfl).trans j.cell) rfl bD9;have ap:IntKind.i64.wrap (((G.l.length+B8 q.body:Nat):Int)+1)=(G.l.length:Int)+(B8 q.body:Nat)+1:=by rw[N7 _ om];omega
   obtain⟨q1,aa,w8,q2,q3,q4,q5⟩:=push (e:=45) dX7 rfl j.oHi (x:=.int .i64 ((G.l.length:Int)+(B8 q.body:Nat)+1)) (y:=(G.l.length:Int)+(B8 q.body:Nat)+1) rfl om om (A3 L (b7 H));simp only[Value.cells]at q1 q2;have aU:w8.heap[l]?=some (.cells #[J,I,ag,E,m] 159 (0,0)):=(q4.block l j.lt λc=>j.d3 l c rfl).trans j.cell;obtain⟨w9,s9,aV,ax⟩:=ai1 (P:=prog) (t:=45) (i:=4) (x:=aa) aU dG (G3 q3.isS) (aa9 q3.isS) (B1 av6).choose_spec.1 (by rw[<-F8 (B1 av6).choose_spec.1];exact bK0);have a2:=j.setHi q4 q3 q5 ax (by simpa using aV);have au:o6 r w9:=t8.ext_of (t8.ext_of H q4 λb c=>C b (.inr (.inr c))) ax λb c=>by subst c;exact D
   simp only[p6,simprocAttr];refine C4 (t8 (B0 m) Y.drew) 13 (A8 [0,1,2,3,4,5,6,7,8,9,10,11,12]) ?_;simp only[D7,A8,p6,n9,simprocAttr,e3,aA,aB,aJ,am,ap,q1,q2,F2];refine⟨t8.up (o6.alloc _ _),q4,?_⟩;simp only[eQ,simprocAttr,s9,S];refine U5 (k+1,ag,E,aa) ⟨?_,au,λb c=>?_⟩;rotate_left
   .rcases c with c|c|c
    .rcases al b c with h|h
     .exact C b (.inl h)
     .exact eD7 N.size h
    .rcases p5 b c with h|h
     .exact C b (.inr (.inl h))
     .exact eD7 M.size h
    .rcases q5 b c with h|h
     .exact C b (.inr (.inr h))
     .exact eD7 H.size h
   simp only[];rw[B];simp only[I8,L9];exact a2
  .rintro rfl;simp only[p6,simprocAttr,e3];apply o8 results119;simp only[C9,simprocAttr];rw[eE4]at A;have hF:i5 p=⟨p,(K8 ⟨p,[],[],[]⟩ 0 p.procs).l,(K8 ⟨p,[],[],[]⟩ 0 p.procs).lo,(K8 ⟨p,[],[],[]⟩ 0 p.procs).hi⟩:=by
    have:=bw7 p.procs ⟨p,[],[],[]⟩ 0;unfold i5;cases hq:K8 ⟨p,[],[],[]⟩ 0 p.procs;rw[hq]at this;simp only at this;rw[this]
   rw[hF];exact⟨l,J,I,O,n,m,tt,A,hg,hp,eD7 W.size D,λb c=>eD7 W.size (C b c),W.trans ae⟩
def az7(v p w)(hv:SV (n8 w) v p)(b:C1 p<=1000000):p7 prog 119 #[v] w λu c=>(∃a,u = .pointer (some a)/\At (n8 c) a (i5 p)/\o6 w c):=by
 apply Calls.mono (ap9 (n8 w) v p w hv (n7 _) b);rintro e c ⟨u,g,m,o,q,n,l,k,rfl,j,h,i,_,_,d⟩;refine⟨_,g,_,rfl,?_,d⟩;have f:i5 p=⟨p,(i5 p).l,(i5 p).lo,(i5 p).hi⟩:=by
  have:(i5 p).p=p:=by unfold i5;rw[bw7]
  cases hq:i5 p;rw[hq]at this;simp only at this;rw[this]
 rw[f];exact j.at_ (b7 d) h i
def aF0:I4 prog 22 9 1 16=true:=kr
def ldS{h v}{l:List B9}{w}(hv:R h v l)(hw:E6 h (n8 w)){k}(a:k<l.length):(Instr.loadAt 9 (I2 v k)).run prog w = .ok (l[k]) w:=
 O4 (P:=prog) (t:=9) hv hw (eD1 a) as9
def bg9{α:Type}{p:α->Bool}{l:List α}(h:∀j (a:j<l.length),p l[j]=false):∀x∈l,p x=false:=λx b=>by
 obtain⟨j,a,rfl⟩:=eK1.1 b;exact h j a
def bN5(v)(l:List B9)(x:B9)(w)(hv:R (n8 w) v l)(q:l.length<=1000000000):p7 prog 117 #[v,x] w λu e=>(u=(ai3 (λy=>decide (x=y)) 0 l)/\e=w):=by
 apply y5 [v,x] func117 rfl;simp only[eQ,simprocAttr,hv.isS,hv.vlen];refine B4 [0,1,6,7] (σ:=Nat) (λk f e=>f 8=k/\k<=l.length/\(∀j (b:j<l.length),j<k->decide (x=l[j])=false)/\e=w) (λk=>l.length-k) 0 ?_ ?_
 .exact⟨rfl,eE2 _,λj _ h=>om,rfl⟩
 .rintro k f e ⟨e0,i,p,m,_⟩ ⟨g,o,d,rfl⟩;simp only[eQ,simprocAttr,g,m];refine A7 (λc=>?_) ?_
  .simp only[p6,n9,A6,simprocAttr,g,e0,i,hv.inS c,ldS hv (n7 _) c];refine B2 (λa=>?_) (λa=>?_)
   .simp only[p6,simprocAttr];apply o8 results117;simp only[C9,simprocAttr];exact⟨by rw[ap4 (λy=>decide (x=y)) l 0 k c (λj b=>d j om b) a,eH5],tt⟩
   .simp only[eQ,simprocAttr,g];refine U5 (k+1) ⟨λj b n=>?_,tt⟩;rcases eH4 j k with h|h
    .exact d j b h
    .obtain rfl:j=k:=om
     exact a
  .rintro rfl;simp only[p6,simprocAttr];apply o8 results117;simp only[C9,simprocAttr];exact⟨by rw[aw8 _ _ _ (bg9 λj b=>d j b b)],tt⟩
def X0(v)(l:List B9)(x:B9)(w)(hv:R (n8 w) v l)(b:l.length<=1000000000):p7 prog 123 #[v,x] w λu c=>(u=(l.contains x)/\c=w):=by
 apply y5 [v,x] func123 rfl;simp only[eQ,simprocAttr];apply F6 (bN5 v l x w hv b);have a:decide (0<=ai3 (λy=>decide (x=y)) 0 l)=l.contains x:=by
  rw[aI1,<-any_beq]
  congr 1
 simp only[eQ,simprocAttr,a];exact o8 results123 ⟨rfl,rfl⟩
def aY2(a:Pr->Bool)(g)(d:Array Value)(v)(l:List Pr)(w)(hb:ao4 prog g=true)(hv:R (n8 w) v l)(H:l.length<=1000000000)
  (E:∀(q:Value) (x:Pr) (c:World),o6 w c->x∈l->SV (n8 c) q x->Calls prog g ([q]++d.toList).toArray c λe z=>∃u,e = .returned u/\(u=(a x)/\o6 c z)) :
  p7 prog 139 #[v,.func (.func g) #[] d] w λu c=>(u=(ai3 a 0 l)/\o6 w c):=by
 apply y5 [v,.func (.func g) #[] d] func139 rfl;simp only[eQ,simprocAttr,hv.isS,hv.vlen];refine B4 [0,1,6,7] (σ:=Nat) (λk f c=>f 8=k/\k<=l.length/\(∀j (i:j<l.length),j<k->a l[j]=false)/\o6 w c) (λk=>l.length-k) 0 ?_ ?_
 .exact⟨rfl,eE2 _,λj _ h=>om,t8.refl _⟩
 .rintro k f F ⟨e0,A,G,B,_⟩ ⟨r,D,m,n⟩;simp only[eQ,simprocAttr,r,B];refine A7 (λb=>?_) ?_
  .have s:=hv.inS b;obtain⟨q,y,o⟩:=G1 (P:=prog) (t:=68) hv (b7 n) (eD1 b) as1 as2 ao1 N6;rw[N6]at o;simp only[p6,n9,A6,simprocAttr,r,e0,A,s,o,eL4];refine B3 (hb:=hb) (E q l[k] F n (eE1 b) (y.mono (b7 n))) (λI p=>?_);cases hq:a l[k]
   .simp only[eQ,simprocAttr,r];refine U5 (k+1) ⟨λj i C=>?_,n.trans p⟩;rcases eH4 j k with h|h
    .exact m j i h
    .obtain rfl:j=k:=om
     exact hq
   .simp only[p6,simprocAttr];apply o8 results139;simp only[C9,simprocAttr];exact⟨by rw[ap4 a l 0 k b (λj i=>m j om i) hq,eH5],n.trans p⟩
  .rintro rfl;simp only[p6,simprocAttr];apply o8 results139;simp only[C9,simprocAttr];exact⟨by rw[aw8 _ _ _ (bg9 λj i=>m j i i)],n⟩
def aY3(a:B9->Bool)(g)(c:Array Value)(v)(l:List B9)(w)(hb:ao4 prog g=true)(hv:R (n8 w) v l)(C:l.length<=1000000000)
  (z:∀(x:B9) (m:World),o6 w m->x∈l->Calls prog g ([A4 x]++c.toList).toArray m λe q=>∃u,e = .returned u/\(u=(a x)/\o6 m q)) :
  p7 prog 188 #[v,.func (.func g) #[] c] w λu m=>(u=(ai3 a 0 l)/\o6 w m):=by
 apply y5 [v,.func (.func g) #[] c] func188 rfl;simp only[eQ,simprocAttr,hv.isS,hv.vlen];refine B4 [0,1,6,7] (σ:=Nat) (λk f m=>f 8=k/\k<=l.length/\(∀j (d:j<l.length),j<k->a l[j]=false)/\o6 w m) (λk=>l.length-k) 0 ?_ ?_
 .exact⟨rfl,eE2 _,λj _ h=>om,t8.refl _⟩
 .rintro k f A ⟨e0,r,B,s,_⟩ ⟨p,y,i,n⟩;simp only[eQ,simprocAttr,p,s];refine A7 (λb=>?_) ?_
  .simp only[p6,n9,A6,simprocAttr,p,e0,r,hv.inS b,ldS hv (b7 n) b,eL4];refine B3 (hb:=hb) (z l[k] A n (eE1 b)) (λD o=>?_);cases hq:a l[k]
   .simp only[eQ,simprocAttr,p];refine U5 (k+1) ⟨λj d t=>?_,n.trans o⟩;rcases eH4 j k with h|h
    .exact i j d h
    .obtain rfl:j=k:=om
     exact hq
   .simp only[p6,simprocAttr];apply o8 results188;simp only[C9,simprocAttr];exact⟨by rw[ap4 a l 0 k b (λj d=>i j om d) hq,eH5],n.trans o⟩
  .rintro rfl;simp only[p6,simprocAttr];apply o8 results188;simp only[C9,simprocAttr];exact⟨by rw[aw8 _ _ _ (bg9 λj d=>i j d d)],n⟩
def bp7(a:B9->Bool)(g)(b:Array Value)(v)(l:List B9)(w)(hb:ao4 prog g=true)(hv:R (n8 w) v l)(f:l.length<=1000000000)
  (h:∀(x:B9) (c:World),o6 w c->x∈l->Calls prog g ([A4 x]++b.toList).toArray c λe d=>∃u,e = .returned u/\(u=(a x)/\o6 c d)) :
  p7 prog 121 #[v,.func (.func g) #[] b] w λu c=>(u=(l.any a)/\o6 w c):=by
 apply y5 [v,.func (.func g) #[] b] func121 rfl;simp only[eQ,simprocAttr];refine B3 (aY3 a g b v l w hb hv f h) (λj i=>?_);simp only[eQ,simprocAttr,aI1 a l 0];exact o8 results121 ⟨rfl,i⟩
def bp6(a:Pr->Bool)(g)(b:Array Value)(v)(l:List Pr)(w)(hb:ao4 prog g=true)(hv:R (n8 w) v l)(h:l.length<=1000000000)
  (i:∀(f:Value) (x:Pr) (c:World),o6 w c->x∈l->SV (n8 c) f x->Calls prog g ([f]++b.toList).toArray c λe d=>∃u,e = .returned u/\(u=(a x)/\o6 c d)) :
  p7 prog 251 #[v,.func (.func g) #[] b] w λu c=>(u=(l.any a)/\o6 w c):=by
 apply y5 [v,.func (.func g) #[] b] func251 rfl;simp only[eQ,simprocAttr];refine B3 (aY2 a g b v l w hb hv h i) (λk j=>?_);simp only[eQ,simprocAttr,aI1 a l 0];exact o8 results251 ⟨rfl,j⟩
def eM8:=@find?_eq_some_iff_getElem
def eL5:=@mem_of_mem_take
def ex5:ao4 prog 140=true:=kr
def dV7(n:B9)(w):∃a c,(Instr.box 9 (A4 n)).run prog w = .ok (.pointer (some a)) c/\o6 w c/\∀b,o6 c b->(Instr.loadAt 9 (.pointer (some a))).run prog b = .ok (A4 n) b:=by
 refine⟨⟨w.heap.size,0,none⟩,w.alloc (.cells #[A4 n] 9),rfl,o6.alloc _ _,λb d=>?_⟩;exact F9 (i:=0) (cs:=#[A4 n]) (T:=9) ((d.block _ dG id).trans (eH3 w _)) rfl as9
def cR7(sv)(q:Pr)(n:B9)(a w)(hv:SV (n8 w) sv q)(h:∀c,o6 w c->(Instr.loadAt 9 (.pointer (some a))).run prog c = .ok (A4 n) c):
  p7 prog 140 #[sv,.pointer (some a)] w λu c=>(u = .bool (decide (q.name=n))/\o6 w c):=by
 apply y5 [sv,.pointer (some a)] func140 rfl;obtain⟨b,e,g,d,f⟩:=bL5 hv (n7 _);obtain⟨_,_,_,_,_,_,_,_,i,_⟩:=f.pr;simp only[eQ,simprocAttr,g,i e (n7 _),h e d];exact o8 results140 ⟨rfl,d⟩
def ac5(a)(s:Sh)(n:B9)(w)(y:At (n8 w) a s)(r:s.p.procs.length<=1000000000):p7 prog 85 #[.pointer (some a),A4 n] w λu k=>(u = .int .i64 (s.pr n)/\o6 w k):=by
 apply y5 [.pointer (some a),A4 n] func85 rfl;obtain⟨I,C,B,E,t,p,d,G,H⟩:=y.sh;obtain⟨J,D,F,v,j,z⟩:=d.pg;obtain⟨b,m,o,g,e⟩:=dV7 n w;simp only[eQ,simprocAttr,o,j m (b7 g)];refine B3 (aY2 (λq=>decide (q.name=n)) 140 #[.pointer (some b)] D s.p.procs m ex5 (A9.mono (b7 g) v) r
  (λA x k h _ f=>cR7 A x n b k f λl c=>e l (h.trans c))) (λK i=>?_)
 simp only[p6,simprocAttr];exact o8 results85 ⟨rfl,g.trans i⟩
def cw0{α:Type}[A9 α]{h v}{xs:List α}(D:R h v xs){i j}(o:i<=j)(B:j<=xs.length):R h (reS v i j (A9.sz α)) ((xs.take j).drop i):=by
 obtain⟨a,n,c,s,I,H,F,e,m⟩:=D;simp only[eP0,and_true]at s;subst s;have b:xs=xs.take i++((xs.take j).drop i++xs.drop j):=by
  have l:xs.take j=xs.take i++(xs.take j).drop i:=by
   have:=eH8 i (xs.take j);rw[take_take,eJ7 o]at this;exact this.symm
  rw[<-eG4,<-l,eH8]
 rw[b]at e;obtain⟨w,E,rfl,l,A⟩:=af4 _ _ e;obtain⟨g,x,rfl,r,G⟩:=af4 _ _ A;have f:=Q9 l;rw[eE5,eJ7 om]at f;have d:((xs.take j).drop i).length=j-i:=by rw[eK0,eE5,eJ7 B]
 refine⟨_,j-i,c-i,rfl,d.symm,om,g,r,λk u p=>?_⟩;have q:(w++(g++x))[i*A9.sz α+k]?=some u:=by
  rw[eI8 om,f,Nat.add_sub_cancel_left,eI7 (eD8.1 p).1];exact p
 obtain⟨t,y,z⟩:=m _ u q;subst y;have C:i<j:=by
  rcases eH4 i j with h|h
  .exact h
  .have:g.length=0:=by rw[Q9 r,d,show j-i=0 by omega,Nat.zero_mul]
   have:=(eD8.1 p).1;omega
 refine⟨t.add (i*A9.sz α),?_,by rw[Addr.add_add'];exact z⟩;rw[fh om];rfl
structure ca3 (s:Sh) (i:Nat) (x y:Nat):Prop where
 lo:s.lo[i]?=some ((x:Int)+1)
 hi:s.hi[i]?=some ((y:Int)+1)
 le:x<=y
 len:y<=s.l.length
 fit:s.l.length<=1000000
def ca3.of_{s:Sh}{i x y}(h:ca3 s i x y):s.of i=(s.l.take y).drop x:=by
 unfold Sh.of atI;simp only[eF4,getD,h.lo,h.hi,eI9]
 congr 1
 .omega
 .congr 1;omega
def ldI{h v}{l:List Int}{w}(hv:R h v l)(hw:E6 h (n8 w)){k x}(a:l[k]?=some x):(Instr.loadAt 3 (.pointer (some (I2 v k)))).run prog w = .ok (.int .i64 x) w:=
 O4 (P:=prog) (t:=3) hv hw a K7
def bw6(a)(s:Sh)(i x y w)(t:At (n8 w) a s)(b:ca3 s i x y):p7 prog 124 #[.pointer (some a),.int .i64 i] w λu c=>(R (n8 c) u (s.of i)/\o6 w c):=by
 apply y5 [.pointer (some a),.int .i64 i] func124 rfl;obtain⟨B,l,k,j,g,e,r,D,A⟩:=t.sh;have d:∀c,o6 w.drew c->E6 (n8 w) (n8 c):=λc h=>b7 ((o6.drew w).trans h);have v:J4 prog (λc=>o6 w.drew c) 3 (I2 l i) (.int .i64 ((x:Int)+1)):=sdx λc h=>ldI g (d c h) b.lo;have z:J4 prog (λc=>o6 w.drew c) 3 (I2 k i) (.int .i64 ((y:Int)+1)):=sdx λc h=>ldI e (d c h) b.hi;have E6:=b.le;have f:=b.len;have m:=b.fit;have p:IntKind.i64.wrap ((x:Int)+1-1)=(x:Int):=by rw[N7 _ om];omega
 have q:IntKind.i64.wrap ((y:Int)+1-1)=(y:Int):=by rw[N7 _ om];omega
 have C:=j.vcap;have n:decide ((x:Int)<=(y:Int))=true:=by simp;omega
 have o:decide ((y:Int)<=(vcap B:Int))=true:=by simp;omega
 simp only[eQ,simprocAttr];refine C4 (o6 w.drew) 22 (A8 [0,1,2,3,4,5,6,7,8,9,10,11,12,13,14,15,16,17,18,19,20,21]) ?_;simp only[D7,A8,p6,n9,A6,G7,simprocAttr,A (o6 w.drew) w.drew (t8.refl _) d,g.inS (eD8.1 b.lo).1,e.inS (eD8.1 b.hi).1,v,z,p,q,j.isS,n,o];refine o8 results124 ⟨?_,o6.drew w⟩;rw[b.of_];exact A9.mono (b7 (o6.drew w)) (cw0 j E6 f)
def cH2(a)(s:Sh)(i x y w)(p:At (n8 w) a s)(b:ca3 s i x y):p7 prog 254 #[.pointer (some a),.int .i64 i] w λu c=>(u = .int .i64 (s.first i)/\o6 w c):=by
 apply y5 [.pointer (some a),.int .i64 i] func254 rfl;obtain⟨F,m,l,C,e,f,o,z,B⟩:=p.sh;have d:∀c,o6 w.drew c->E6 (n8 w) (n8 c):=λc h=>b7 ((o6.drew w).trans h);have A:=B (o6 w.drew) w.drew (t8.refl _) d;have v:=z w.drew (d _ (t8.refl _));have g:=e.inS (eD8.1 b.lo).1;have k:=f.inS (eD8.1 b.hi).1;have q:J4 prog (λc=>o6 w.drew c) 3 (I2 m i) (.int .i64 ((x:Int)+1)):=sdx λc h=>ldI e (d c h) b.lo;have r:J4 prog (λc=>o6 w.drew c) 3 (I2 l i) (.int .i64 ((y:Int)+1)):=sdx λc h=>ldI f (d c h) b.hi;have t:=ldI e (d _ (t8.refl _)) b.lo;have n:s.first i=if(x:Int)+1<(y:Int)+1 then(x:Int)+1 else -1:=by
  unfold Sh.first atI;simp only[eF4,getD,b.lo,b.hi,eI9]
 generalize D:(x:Int)+1=X at *;generalize E:(y:Int)+1=Y at *;simp only[eQ,simprocAttr];refine C4 (o6 w.drew) 15 (A8 [0,1,2,3,4,5,6,7,8,9,10,11,12,13,14]) ?_;simp only[D7,A8,p6,n9,A6,simprocAttr,A,g,k,q,r];refine B2 (λj=>?_) (λj=>?_)
 .simp only[p6,n9,A6,simprocAttr,v,g,t];apply o8 results254;simp only[C9,simprocAttr];exact⟨by rw[n,fi (eD3 j)],o6.drew w⟩
 .simp only[p6,simprocAttr];apply o8 results254;simp only[C9,simprocAttr];exact⟨by rw[n,fh (eD6 j)],o6.drew w⟩
def cE6(o:Option Int):Value:=match o with
 | some i=>.tuple #[.int .i64 i,.bool true]
 | none=>.tuple #[.int .i64 0,.bool false]
def cH1(a)(s:Sh)(i x y)(e:B9)(w)(hs:At (n8 w) a s)(m:ca3 s i x y)(A:i<s.p.procs.length)(V:∀it∈s.l,Z6 it.s<=1000000)(U:∀f∈s.p.procs,ah4 f<=1000000):
  p7 prog 191 #[.pointer (some a),.int .i64 i,A4 e] w λu Z=>(u=cE6 (s.at i e)/\o6 w Z):=by
 apply y5 [.pointer (some a),.int .i64 i,A4 e] func191 rfl;obtain⟨vL,ay,aw,hL,ap,ak,L,ld,sd⟩:=hs.sh;obtain⟨vg,vp,hg,hp,X,au⟩:=L.pg;have D:∀it∈s.of i,it∈s.l:=λit h=>by
  rw[m.of_]at h;exact eL5 (eP5 h)
 have C:(s.of i).length<=1000000:=by
  rw[m.of_,eK0,eE5];have:=m.fit;omega
 simp only[eQ,simprocAttr];apply z6 (bw6 a s i x y w hs m);rintro u w1 ⟨E,d⟩;generalize o:s.of i=l at E D C;simp only[eQ,simprocAttr,E.isS,E.vlen];refine B4 [0,1,2,12,13] (σ:=Nat) (λk f Z=>f 14 = .int .i64 k/\k<=l.length/\(∀j (q:j<l.length),j<k->l[j].s.labels.contains e=false)/\o6 w1 Z) (λk=>l.length-k) 0 ?_ ?_
 .exact⟨rfl,eE2 _,λj _ h=>om,t8.refl _⟩
 .rintro k f w2 ⟨e0,e1,e2,I,J,_⟩ ⟨p,am,r,n⟩;simp only[eQ,simprocAttr,p,J];refine A7 (λg=>?_) ?_
  .have N:=E.inS g;obtain⟨sv,R,B⟩:=G1 (P:=prog) (t:=156) E (b7 n) (eD1 g) ai4 ai5 ag5 M4;rw[M4]at B;have G:=V _ (D _ (eE1 g));rw[aa0]at G;have an:=ab8 l[k].s.labels;obtain⟨b,wz,w3,K,Q,H,M⟩:=az4 (R.mono (b7 n)) (n7 _);obtain⟨v,_,_⟩:=M.it;obtain⟨vl,_,_,_,T,_,_,_,_,Y,_⟩:=v.st;have l3:=Y w3 (n7 _);simp only[p6,n9,A6,simprocAttr,p,e2,I,N,B,K,Q,l3];apply F6 (X0 vl l[k].s.labels e w3 T om);cases hq:l[k].s.labels.contains e
   .simp only[eQ,simprocAttr,p];refine U5 (k+1) ⟨λj q al=>?_,n.trans H⟩;rcases eH4 j k with h|h
    .exact r j q h
    .obtain rfl:j=k:=om
     exact hq
   .simp only[eQ,simprocAttr,l3];apply Q0 results191;simp only[C9,simprocAttr];refine⟨?_,d.trans (n.trans H)⟩;have c:l.find? (λit=>it.s.labels.contains e)=some l[k]:=eM8.2 ⟨hq,k,g,rfl,λj q=>by rw[r j om q];rfl⟩;rw[Sh.at,o,c];rfl
  .rintro rfl;have c:l.find? (λit=>it.s.labels.contains e)=none:=eL9.2 λit O=>by
    obtain⟨j,q,rfl⟩:=eK1.1 O;rw[r j q q];simp
   have hA:s.at i e=if(s.fn i).fin.contains e then some (-1)else none:=by rw[Sh.at,o,c]
   have z:s.p.procs[i]?=some (s.fn i):=by
    unfold Sh.fn;rw[eF4,getD,eD1 A];rfl
   have F:=U _ (eF7 z);unfold ah4 at F;have ao:=ab8 (s.fn i).fin;obtain⟨_,_,_,vf,_,_,_,S,W,_⟩:=(hp.at_ z).pr;have lp:=X w2 (b7 (d.trans n));have lf:=W w2 (b7 (d.trans n));have hz:A9.sz Pr=5:=rfl;rw[hz]at lf;simp only[p6,n9,A6,simprocAttr,e0,e1,e2,lp,lf,hp.inS A];apply F6 (X0 vf (s.fn i).fin e w2 (A9.mono (b7 (d.trans n)) S) om);cases hq:(s.fn i).fin.contains e
   .simp only[p6,simprocAttr];exact Q0 results191 ⟨by rw[hA,hq];rfl,d.trans n⟩
   .simp only[p6,simprocAttr];exact Q0 results191 ⟨by rw[hA,hq];rfl,d.trans n⟩
def bW7:∀(l:List Pr) (s:Sh) (i:Nat),∃L b a,K8 s i l=⟨s.p,s.l++L,s.lo++b,s.hi++a⟩
 | [],s,i=>⟨[],[],[],by simp[K8]⟩
 | f::l,s,i=>by
  obtain⟨L,b,a,e⟩:=bW7 l (I8 s i f) (i+1);refine⟨E5 f.body s.l.length i 0 (-1) 0++L,((s.l.length:Int)+1)::b,((s.l.length:Int)+(B8 f.body:Nat)+1)::a,?_⟩;rw[K8,e];simp[I8,L9]
def dF5(p:Pg)(i)(c:i<p.procs.length):∃x:Nat,(i5 p).lo[i]?=some ((x:Int)+1)/\(i5 p).hi[i]?=some ((x:Int)+(B8 p.procs[i].body:Nat)+1) /\
  ((i5 p).l.drop x).take (B8 p.procs[i].body)=E5 p.procs[i].body x i 0 (-1) 0/\x+B8 p.procs[i].body<=(i5 p).l.length:=by
 have b:p.procs=p.procs.take i++(p.procs[i]::p.procs.drop (i+1)):=by
  have:=eH8 i p.procs;rw[eI2 c]at this;exact this.symm
 obtain⟨G,f⟩:∃G,K8 ⟨p,[],[],[]⟩ 0 (p.procs.take i)=G:=⟨_,rfl⟩;have a:=bD1 (p.procs.take i) ⟨p,[],[],[]⟩ 0;rw[f,eE5,eJ7 (Nat.le_of_lt c)]at a;simp only[eK5,eH5]at a;obtain⟨L,h,d,e⟩:=bW7 (p.procs.drop (i+1)) (I8 G i p.procs[i]) (i+1);have g:i5 p=⟨(I8 G i p.procs[i]).p,(I8 G i p.procs[i]).l++L,(I8 G i p.procs[i]).lo++h,(I8 G i p.procs[i]).hi++d⟩:=by
  rw[<-e];unfold i5
  conv=>lhs;rw[b]
  rw[bn6,f,eE5,eJ7 (Nat.le_of_lt c),K8,eH5]
 rw[g];refine⟨G.l.length,?_,?_,?_,?_⟩
 .simp only[I8,eG4];rw[eI8 om,a.1];simp
 .simp only[I8,eG4];rw[eI8 om,a.2,L9];simp
 .simp only[I8,eG4];rw[drop_left,<-L9 p.procs[i].body G.l.length i 0 (-1) 0,eN4]
 .simp only[I8,eD4,L9];omega
def aG5(p):(i5 p).l.length=bi8 p:=by
 unfold i5 bi8;rw[aV1];simp
def K0(p):(i5 p).p=p:=by
 unfold i5;rw[bw7]
def co1(p):3*bi8 p<=C1 p:=by
 have:=bL8 p.procs;unfold C1 bi8;omega
def ab2(p)(hw:C1 p<=1000000)(i)(f:i<p.procs.length):∃x:Nat,ca3 (i5 p) i x (x+B8 p.procs[i].body)/\(i5 p).of i=E5 p.procs[i].body x i 0 (-1) 0:=by
 obtain⟨x,b,c,d,e⟩:=dF5 p i f;have g:=aG5 p;have h:=co1 p;have a:ca3 (i5 p) i x (x+B8 p.procs[i].body):=⟨b,by rw[c];congr 1,om,e,om⟩;refine⟨x,a,?_⟩;rw[a.of_,drop_take,Nat.add_sub_cancel_left];exact d
mutual
def di9:∀(t:St) (k:Nat) (c d b a:Int),∀it∈ac1 t k c d b a,Z6 it.s<=Z6 t
 | .mk id kind labels name proc x has args thn els,k,c,d,b,a,it,h=>by
  rw[U2]at h;rcases eF0.1 h with rfl|h
  .exact eE8 _
  .rw[Z6];rcases eE0.1 h with h|h
   .have:=aT0 thn _ _ _ _ _ it h;omega
   .have:=aT0 els _ _ _ _ _ it h;omega
def aT0:∀(l:List St) (k:Nat) (c d b a:Int),∀it∈E5 l k c d b a,Z6 it.s<=M5 l
 | [],_,_,_,_,_,it,h=>by simp[E5]at h
 | t::l,k,c,d,b,a,it,h=>by
  rw[E5]at h;rw[M5];rcases eE0.1 h with h|h
  .have:=di9 t _ _ _ _ _ it h;omega
  .have:=aT0 l _ _ _ _ _ it h;omega
end
def cj7:∀(l:List Pr) (s:Sh) (i:Nat) (W:Nat),(∀it∈s.l,Z6 it.s<=W)->(∀f∈l,M5 f.body<=W)->∀it∈(K8 s i l).l,Z6 it.s<=W
 | [],s,i,W,h1,h2,it,h=>h1 it h
 | f::l,s,i,W,h1,h2,it,h=>by
  rw[K8]at h;refine cj7 l _ _ W (λit h=>?_) (λg a=>h2 g (eI1 _ a)) it h;simp only[I8]at h;rcases eE0.1 h with h|h
  .exact h1 it h
  .exact eD7 (aT0 _ _ _ _ _ _ it h) (h2 f dG)
def ah2(p)(hw:C1 p<=1000000):∀it∈(i5 p).l,Z6 it.s<=1000000:=by
 refine cj7 _ _ _ _ (λit h=>by cases h) λf a=>?_;have:=ay4 a;unfold C1 at hw;unfold ah4 at this;omega
def aJ6(p)(hw:C1 p<=1000000):∀f∈p.procs,ah4 f<=1000000:=λf a=>by
 have:=ay4 a;unfold C1 at hw;omega
def cB4{α β:Type}(g:α->β)(p:β->Bool):∀(l:List α) (i:Nat),ai3 p i (l.map g)=ai3 (λx=>p (g x)) i l
 | [],i=>rfl
 | x::l,i=>by simp only[eI4,ai3,cB4 g p l]
def cP6{α:Type}{p q:α->Bool}(h:∀x,p x=q x)(l:List α)(i):ai3 p i l=ai3 q i l:=by
 rw[show p=q from funext h]
def eK9:=@eq_of_mem_replicate
def eF9:=@mem_append_left
def eH0:=@mem_append_right
def eM5:=@mem_or_eq_of_mem_set
def eJ5:=@pairwise_cons
def F1(nx:List (List Int))(a:Int):List Int:=if 0<=a/\a<nx.length then nx.getD a.toNat []else[]
def J2(n:Nat)(a:Int):Bool:=decide (0<=a)&&decide (a<n)
def C0{n a}:J2 n a=true↔0<=a/\a<n:=by simp[J2]
def bw1{nx:List (List Int)}{a}(h:J2 nx.length a=false):F1 nx a=[]:=by
 unfold F1;rw[fh (λb=>by rw[C0.2 b]at h;cases h)]
def aE9{nx:List (List Int)}{a:Int}(h:J2 nx.length a=true):nx[a.toNat]?=some (F1 nx a)/\a.toNat<nx.length:=by
 have b:=C0.1 h;unfold F1;rw[fi b];have:a.toNat<nx.length:=om
 exact⟨by simp[getD,this],this⟩
def aJ4{nx:List (List Int)}{a}(h:J2 nx.length a=true):F1 nx a∈nx:=eF7 (aE9 h).1
def bt1(l:List Int)(x:Int):List Int:=l.take (l.countP (· < x))++x::l.drop (l.countP (· < x))
def aD3(nx:List (List Int))(a b:Int):Bool:=J2 nx.length a&&J2 nx.length b && !(F1 nx a).contains b
def cK4(nx:List (List Int))(a b:Int):List (List Int):=if aD3 nx a b then nx.set a.toNat (bt1 (F1 nx a) b)else nx
def cK5(nx c:List (List Int))(a b:Int):List (List Int):=if aD3 nx a b then c.set b.toNat (bt1 (F1 c b) a)else c
def dQ0{y x}{l:List Int}(h:y<x):bt1 (y::l) x=y::bt1 l x:=by
 simp[bt1,h]
def cy2{l:List Int}{x}(h:∀y∈l,x<=y):l.countP (· < x)=0:=by
 rw[countP_eq_zero];intro y a;have:=h y a;simp;omega
def dP9{y x}{l:List Int}(h:x<=y)(b:(y::l).Pairwise (· < ·)):bt1 (y::l) x=x::y::l:=by
 have:=cy2 (l:=y::l) (x:=x) (by
  intro z a;rcases eF0.1 a with rfl|a
  .exact h
  .have:=(eJ5.1 b).1 z a;omega)
 unfold bt1;rw[this];simp
def aP3{x y}{l:List Int}:y∈bt1 l x↔y=x\/y∈l:=by
 unfold bt1;constructor
 .intro h;rcases eE0.1 h with h|h
  .exact .inr (eL5 h)
  .rcases eF0.1 h with h|h
   .exact .inl h
   .exact .inr (eP5 h)
 .rintro(rfl|h)
  .simp
  .rw[<-eH8 (l.countP (· < x)) l]at h;rcases eE0.1 h with h|h
   .exact eF9 _ h
   .exact eH0 _ (eI1 _ h)
def bH7{x}:∀{l:List Int},l.Pairwise (· < ·)->x∉l->(bt1 l x).Pairwise (· < ·)
 | [],_,_=>by simp[bt1]
 | y::l,hs,hn=>by
  have a:=eJ5.1 hs;rcases Int.lt_or_le y x with h|h
  .rw[dQ0 h,eJ5];refine⟨λz b=>?_,bH7 a.2 λd=>hn (eI1 _ d)⟩;rcases aP3.1 b with rfl|b
   .exact h
   .exact a.1 z b
  .rw[dP9 h hs,eJ5];refine⟨λz b=>?_,hs⟩;have c:x≠y:=λe=>hn (by simp[e]);rcases eF0.1 b with rfl|b
   .omega
   .have:=a.1 z b;omega
def aV3{n}:∀{l:List Int} {m:Int},l.Pairwise (· < ·)->(∀y∈l,m<=y/\y<n)->m<=n->(l.length:Int)<=n-m
 | [],m,_,_,hm=>by simp;omega
 | y::l,m,hs,hb,hm=>by
  have a:=eJ5.1 hs;have c:=hb y dG;have:=aV3 (l:=l) (m:=y+1) a.2 (λz b=>⟨by have:=a.1 z b;omega,(hb z (eI1 _ b)).2⟩) om;simp only[eG6];omega
structure H1 (n:Nat) (l:List (List Int)):Prop where
 len:l.length=n
 le:∀x∈l,x.Pairwise (· < ·)
 ok:∀x∈l,∀y∈x,J2 n y=true
def H1.row_len{n}{l:List (List Int)}(h:H1 n l){x:List Int}(a:x∈l):x.length<=n:=by
 have:=aV3 (n:=n) (m:=0) (h.le x a) (λy b=>C0.1 (h.ok x a y b)) om;omega
def bR6(n):H1 n (replicate n []):=
 ⟨dG,λx a=>by simp[eK9 a],λx a y b=>by simp[eK9 a]at b⟩
def H1.ins{n}{l:List (List Int)}(h:H1 n l){a b:Int}(hb:J2 n b=true)(f:J2 n a=true)(hn:b∉F1 l a):H1 n (l.set a.toNat (bt1 (F1 l a) b)):=by
 have hm:=aJ4 (nx:=l) (a:=a) (by rw[h.len];exact f);refine⟨by simp[h.len],λx d=>?_,λx d y e=>?_⟩
 .rcases eM5 d with c|rfl
  .exact h.le x c
  .exact bH7 (h.le _ hm) hn
 .rcases eM5 d with c|rfl
  .exact h.ok x c y e
  .rcases aP3.1 e with rfl|c
   .exact hb
   .exact h.ok _ hm y c
def bV3{n}{l:List (List Int)}(e:l.length=n){a c:Int}{r:List Int}(b:J2 n a=true):F1 (l.set a.toNat r) c=if c=a then r else F1 l c:=by
 have d:=C0.1 b;unfold F1;simp only[eK6];by_cases hc:0<=c/\c<l.length
 .rw[fi hc,fi hc];by_cases h:c=a
  .subst h;rw[fi rfl];have:c.toNat<l.length:=om
   simp[getD,this]
  .rw[fh h];have:a.toNat≠c.toNat:=om
   simp[getD,this]
 .rw[fh hc,fh hc,fh (by rintro rfl;exact hc om)]
def aD7(g:List (List Int)×List (List Int))(e:Int×Int):List (List Int)×List (List Int):=(cK4 g.1 e.1 e.2,cK5 g.1 g.2 e.1 e.2)
def aA8(n:Nat)(a:List (Int×Int)):List (List Int)×List (List Int):=a.foldl aD7 (replicate n [],replicate n [])
structure aY1 (n:Nat) (g:List (List Int)×List (List Int)):Prop where
 nx:H1 n g.1
 pv:H1 n g.2
 both:∀a b,b∈F1 g.1 a↔a∈F1 g.2 b
def cc6{n}{l:List (List Int)}(c:l.length=n){a b}:aD3 l a b=true↔J2 n a=true/\J2 n b=true/\b∉F1 l a:=by
 simp[aD3,c,and_assoc]
def aY1.grow{n}{g:List (List Int)×List (List Int)}(h:aY1 n g)(e:Int×Int):aY1 n (aD7 g e) /\
  ∀a b,b∈F1 (aD7 g e).1 a↔b∈F1 g.1 a\/((a,b)=e/\J2 n a=true/\J2 n b=true):=by
 obtain⟨x,y⟩:=e;by_cases hok:aD3 g.1 x y=true
 .obtain⟨d,f,k⟩:=(cc6 h.nx.len).1 hok;have i:aD7 g (x,y)=(g.1.set x.toNat (bt1 (F1 g.1 x) y),g.2.set y.toNat (bt1 (F1 g.2 y) x)):=by
   simp[aD7,cK4,cK5,hok]
  rw[i];have l:x∉F1 g.2 y:=λc=>k ((h.both x y).2 c);refine⟨⟨h.nx.ins f d k,h.pv.ins d f l,λa b=>?_⟩,λa b=>?_⟩
  .simp only[];rw[bV3 h.nx.len d,bV3 h.pv.len f];have:=h.both a b;by_cases ha:a=x<;>by_cases hb:b=y
   .subst ha;subst hb;simp[aP3]
   .subst ha;rw[fi rfl,fh hb,aP3,this];simp[hb]
   .subst hb;rw[fi rfl,fh ha,aP3,this];simp[ha]
   .rw[fh ha,fh hb,this]
  .simp only[];rw[bV3 h.nx.len d];by_cases ha:a=x
   .subst ha;rw[fi rfl,aP3];constructor
    .rintro(rfl|c)
     .exact .inr ⟨rfl,d,f⟩
     .exact .inl c
    .rintro(c|⟨c,_⟩)
     .exact .inr c
     .exact .inl (Prod.mk.inj c).2
   .rw[fh ha];constructor
    .exact .inl
    .rintro(c|⟨c,_⟩)
     .exact c
     .exact fj (Prod.mk.inj c).1 ha
 .have j:aD3 g.1 x y=false:=by simpa using hok
  have i:aD7 g (x,y)=g:=by
   simp[aD7,cK4,cK5,j]
  rw[i];refine⟨h,λa b=>⟨.inl,?_⟩⟩;rintro(c|⟨c,d,f⟩)
  .exact c
  .obtain⟨rfl,rfl⟩:=Prod.mk.inj c;by_cases hb:b∈F1 g.1 a
   .exact hb
   .exact fj ((cc6 h.nx.len).2 ⟨d,f,hb⟩) hok
def cS4(n a):F1 (replicate n []) a=[]:=by
 unfold F1;split
 .simp[getD,eO7];split<;>rfl
 .rfl
def bH4(n):aY1 n (replicate n [],replicate n []):=
 ⟨bR6 n,bR6 n,λa b=>by simp[cS4]⟩
def aY1.grows{n}:∀(c:List (Int×Int)) {g:List (List Int)×List (List Int)},aY1 n g->aY1 n (c.foldl aD7 g) /\
  ∀a b,b∈F1 (c.foldl aD7 g).1 a↔b∈F1 g.1 a\/((a,b)∈c/\J2 n a=true/\J2 n b=true)
 | [],g,h=>⟨h,λa b=>dG⟩
 | e::es,g,h=>by
  obtain⟨f,i⟩:=h.grow e;obtain⟨j,k⟩:=f.grows es;refine⟨j,λa b=>?_⟩;rw[foldl_cons,k,i,eF0];constructor
  .rintro((h|h)|h)
   .exact .inl h
   .exact .inr ⟨.inl h.1,h.2⟩
   .exact .inr ⟨.inr h.1,h.2⟩
  .rintro(h|⟨h|h,d⟩)
   .exact .inl (.inl h)
   .exact .inl (.inr ⟨h,d⟩)
   .exact .inr ⟨h,d⟩
def ax2(n)(a:List (Int×Int)):aY1 n (aA8 n a):=(bH4 n |>.grows a).1
def H1.row{n}{l:List (List Int)}(h:H1 n l)(a):(F1 l a).Pairwise (· < ·)/\(∀y∈F1 l a,J2 n y=true):=by
 by_cases ha:J2 l.length a=true
 .exact⟨h.le _ (aJ4 ha),h.ok _ (aJ4 ha)⟩
 .rw[bw1 (by simpa using ha)];exact⟨List.Pairwise.nil,λy b=>by cases b⟩
section
variable {α:Type}
def cB7(le:α->α->Bool)(x:α):List α->List α
 | []=>[x]
 | y::l=>if le x y then x::y::l else y::cB7 le x l
def af2(le:α->α->Bool):List α->List α
 | []=>[]
 | x::l=>cB7 le x (af2 le l)
def at6(a:α->α->Bool)(p:α):List α->List α
 | []=>[]
 | y::l=>if a y p then at6 a y l else y::at6 a y l
def at5(a:α->α->Bool):List α->List α
 | []=>[]
 | x::l=>x::at6 a x l
def bB4(le:α->α->Bool)(x:α):∀l,(cB7 le x l).Perm (x::l)
 | []=>by simp[cB7]
 | y::l=>by
  rw[cB7];split
  .exact List.Perm.refl _
  .exact(List.Perm.cons y (bB4 le x l)).trans (List.Perm.swap _ _ _)
def H8(le:α->α->Bool):∀l,(af2 le l).Perm l
 | []=>by simp[af2]
 | x::l=>by rw[af2];exact(bB4 le x _).trans (List.Perm.cons x (H8 le l))
def bH6{le:α->α->Bool}{x:α}:∀{l:List α},(∀a∈x::l,∀b∈x::l,le a b=true\/le b a=true)->(∀a∈x::l,∀b∈x::l,∀c∈x::l,le a b=true->le b c=true->le a c=true) ->
  l.Pairwise (λa b=>le a b=true)->(cB7 le x l).Pairwise (λa b=>le a b=true)
 | [],_,_,_=>by simp[cB7]
 | y::l,ht,htr,hs=>by
  rw[cB7];rw[eJ5]at hs;split
  .next h=>
   rw[eJ5];refine⟨λz d=>?_,by rw[eJ5];exact hs⟩;rcases eF0.1 d with rfl|d
   .exact h
   .exact htr x dG y dG z (by simp[d]) h (hs.1 z d)
  .next h=>
   have g:le y x=true:=by
    rcases ht x dG y dG with h1|h1
    .exact fj h1 h
    .exact h1
   rw[eJ5];refine⟨λz d=>?_,bH6 (λa e b f=>ht a ?_ b ?_) (λa e b f c i=>htr a ?_ b ?_ c ?_) hs.2⟩
   .have:=(bB4 le x l).mem_iff.1 d;rcases eF0.1 this with rfl|d
    .exact g
    .exact hs.1 z d
   all_goals simp only[eF0]at *
   .rcases e with h|h<;>simp[h]
   .rcases f with h|h<;>simp[h]
   .rcases e with h|h<;>simp[h]
   .rcases f with h|h<;>simp[h]
   .rcases i with h|h<;>simp[h]
def av0{le:α->α->Bool}:∀{l:List α},(∀a∈l,∀b∈l,le a b=true\/le b a=true)->(∀a∈l,∀b∈l,∀c∈l,le a b=true->le b c=true->le a c=true) ->
  (af2 le l).Pairwise (λa b=>le a b=true)
 | [],_,_=>by simp[af2]
 | x::l,ht,htr=>by
  have hm:∀a,a∈x::af2 le l↔a∈x::l:=λa=>by simp only[eF0,(H8 le l).mem_iff]
  rw[af2];apply bH6 (λa d b e=>ht a ((hm a).1 d) b ((hm b).1 e)) (λa d b e c f=>htr a ((hm a).1 d) b ((hm b).1 e) c ((hm c).1 f));exact av0 (λa d b e=>ht a (by simp[d]) b (by simp[e])) (λa d b e c f=>htr a (by simp[d]) b (by simp[e]) c (by simp[f]))
def aV4{le:α->α->Bool}:∀{l m:List α},l.Perm m->(∀a∈l,∀b∈l,le a b=true->le b a=true->a=b)->l.Pairwise (λa b=>le a b=true)->m.Pairwise (λa b=>le a b=true)->l=m
 | [],m,hp,_,_,_=>by simpa using hp.symm
 | x::l,[],hp,_,_,_=>by simpa using hp
 | x::l,y::m,hp,ha,h1,h2=>by
  rw[eJ5]at h1 h2;have e:x=y:=by
   have d:x∈y::m:=hp.mem_iff.1 dG;have c:y∈x::l:=hp.mem_iff.2 dG;rcases eF0.1 d with h|d
   .exact h
   rcases eF0.1 c with h|c
   .exact h.symm
   exact ha x dG y (by simp[c]) (h1.1 y c) (h2.1 x d)
  subst e;rw[aV4 ((perm_cons x).1 hp) (λa h b f=>ha a (by simp[h]) b (by simp[f])) h1.2 h2.2]
end
def aw2(l:List St)(o:Int):Int:=match l with
 | []=>o
 | t::_=>t.id
def Sh.goes(s:Sh)(it:It):List Int:=
 if it.s.kind=5 then[aw2 it.s.thn it.next,aw2 it.s.els it.next]
 else if it.s.kind=6 then[aw2 it.s.thn it.s.id,it.next]
 else if it.s.kind=7 then[(s.it it.loop).next]
 else if it.s.kind=8 then[it.loop]
 else if it.s.kind=9 then[-1]
 else if it.s.kind=10 then[(s.at it.proc it.s.name).getD 0]
 else[it.next]
def I5(p:Int):Int:=if p = -1 then 9223372036854775807 else p
def O6(a b:Int):Int:=if a<b then -1 else if b<a then 1 else 0
def orF:List Int->Int
 | []=>0
 | x::l=>if x=0 then orF l else x
def spC(a b:Sp):Int:=orF [O6 (I5 a.src) (I5 b.src),O6 (I5 a.dst) (I5 b.dst),O6 a.kind b.kind]
def dp2(a b:Sp):Bool:=decide (spC a b<=0)
def aB6(a b:Sp):Bool:=decide (a.src=b.src)&&decide (a.dst=b.dst)
def an3(l:List Sp):List Sp:=at5 aB6 (af2 dp2 l)
def Sh.steps(s:Sh)(i:Nat):List Sp:=an3 (⟨0,s.first i,1⟩::(s.of i).flatMap λit=>(s.goes it).map λt=>⟨it.s.id,t,1⟩)
structure Wy where
 s:Sh
 proc:Int
 n:Int
 real:List Sp
 live:List Bool
def Wy.index(w:Wy)(p:Int):Int:=if p=0 then 0 else if p = -1 then w.n-1 else if atI w.s.lo w.proc<=p/\p<atI w.s.hi w.proc then p-atI w.s.lo w.proc+1 else -1
def Wy.place(w:Wy)(i:Int):Int:=if i=0 then 0 else if i=w.n-1 then -1 else atI w.s.lo w.proc+i-1
def atB(l:List Bool)(i:Int):Bool:=l.getD i.toNat false
def Wy.lives(w:Wy)(id:Int):Bool:=atB w.live (w.index id)
def Wy.pairs(w:Wy)(l:List Sp):List (Int×Int):=l.map λt=>(w.index t.src,w.index t.dst)
def V2(nx:List (List Int)):Nat->List Int->List Int
 | 0,l=>l
 | n+1,l=>V2 nx n (l++((l.flatMap (F1 nx)).filter λb=>!l.contains b).eraseDups)
def af9(nx:List (List Int))(a:Int)(b:Int):Bool:=J2 nx.length a&&(V2 nx nx.length [a]).contains b
def cg7(nx:List (List Int)):List Bool:=(range nx.length).map λb=>af9 nx 0 (b:Nat)
def au5(nx:List (List Int)):List Int:=(range nx.length).map λa=>(((range nx.length).find? λb=>af9 nx (a:Nat) (b:Nat)&&af9 nx (b:Nat) (a:Nat)).getD 0:Nat)
def F7(s:Sh)(i:Nat):Wy:=
 let w:Wy:=⟨s,i,atI s.hi i-atI s.lo i+2,s.steps i,[]⟩
 {w with live:=cg7 (aA8 w.n.toNat (w.pairs w.real)).1}
def Wy.traps(w:Wy):List (List Int):=
 let part:=au5 (aA8 w.n.toNat (w.pairs w.real)).1
 let op:=atI part 0::atI part (w.n-1)::((w.pairs w.real).filter λt=>!decide (atI part t.1=atI part t.2)).map λt=>atI part t.1
 ((range part.length).filter λ(i:Nat)=>decide (atI part (i:Int)=(i:Int)) && !op.contains (i:Int)).map λ(i:Nat)=>((range part.length).filter λ(j:Nat)=>decide (atI part (j:Int)=(i:Int))).map λ(j:Nat)=>w.place (j:Int)
def Wy.virtual(w:Wy):List Sp:=w.traps.flatMap λl=>(l.filter λid=>decide ((w.s.it id).s.kind=10)).map λid=>⟨id,-1,3⟩
def Wy.data(w:Wy):List Sp:=an3 (w.virtual++w.real)
def Y9(it:It):List Sp:=if it.s.kind=7\/it.s.kind=8\/it.s.kind=9\/it.s.kind=10 then[⟨it.s.id,it.next,2⟩]else[]
def Wy.aug(w:Wy):List Sp:=an3 (w.virtual++w.real++[⟨0,-1,2⟩]++(w.s.of w.proc).flatMap Y9)
def as7(n:Nat)(l:List (Int×Int)):List (List Int):=(range n).map λ(a:Nat)=>(l.filter λt=>decide (t.1=(a:Int))).map (·.2)
def Wy.net(w:Wy):List (List Int):=as7 w.n.toNat (w.pairs w.data)
def al8(f:List (List Bool))(c:List Int):List Bool:=(range f.length).map λ(b:Nat)=>c.all λa=>atB (f.getD a.toNat []) (b:Int)
def ac2(next:List (List Int))(f:List (List Bool))(a:Nat):List (List Bool):=f.set a ((al8 f (next.getD a [])).set a true)
def J7(next:List (List Int))(f:List (List Bool)):Nat->List (List Bool)
 | 0=>f
 | a+1=>J7 next (ac2 next f a) a
def X5(next:List (List Int))(m:Nat):Nat->List (List Bool)->List (List Bool)
 | 0,f=>f
 | k+1,f=>X5 next m k (J7 next f m)
def V0(n:Nat):List (List Bool):=(range n).map λa=>(range n).map λb=>decide (a+1<n)||decide (a=b)
def Wy.follow(w:Wy):List (List Bool):=X5 (as7 w.n.toNat (w.pairs w.aug)) (w.n.toNat-1) (w.n.toNat*w.n.toNat+1) (V0 w.n.toNat)
def Wy.decides(w:Wy):List (Int×Int):=
 let f:=w.follow
 let ps:=w.pairs w.aug
 (range w.n.toNat).flatMap λ(a:Nat)=>((range w.n.toNat).filter λ(b:Nat)=>decide (1<=b)&&decide ((b:Int)<w.n-1)&&ps.any λt=>decide (t.1=(a:Int))&&atB (f.getD t.2.toNat []) (b:Int)&&(decide (a=b) || !atB (f.getD a []) (b:Int))).map λ(b:Nat)=>(w.place (a:Int),w.place (b:Int))
def eJ8:=@filter_append
def eO6:=@range_succ
def eP4:=@decide_eq_false_iff_not
def eG9:=@decide_eq_true
def bt9{a b:B9}:ltS a b=true↔a.b<b.b:=by
 unfold ltS;rw[bytesLess_eq,decide_eq_true_iff]
def ah5{a b:B9}:ltS a b=false↔b.b<=a.b:=by
 rw[<-Bool.not_eq_true,bt9];exact eL8
def bB7{a b c:B9}(d:a.b<=b.b)(e:b.b<=c.b):a.b<=c.b:=List.le_trans d e
def aT7{a b:B9}(c:a.b<=b.b)(d:b.b<=a.b):a=b:=by
 have:=List.le_antisymm c d;cases a;cases b;simp_all
def Q5(a:B9):ltS a a=false:=ah5.2 (List.le_refl _)
def aG2{a b c:B9}(d:ltS a b=true)(e:ltS b c=true):ltS a c=true:=bt9.2 (List.lt_trans (bt9.1 d) (bt9.1 e))
def cq0{a b:B9}(c:ltS a b=false)(d:ltS b a=false):a=b:=aT7 (ah5.1 d) (ah5.1 c)
def bB5(x:B9):∀l,(cB8 x l).Perm (x::l)
 | []=>by simp[cB8]
 | y::l=>by
  rw[cB8];split
  .exact(List.Perm.cons y (bB5 x l)).trans (List.Perm.swap _ _ _)
  .exact List.Perm.refl _
def Z3:∀l,(ad0 l).Perm l
 | []=>by simp[ad0]
 | x::l=>by rw[ad0];exact(bB5 x _).trans (List.Perm.cons x (Z3 l))
def bH8(x:B9):∀{l:List B9},l.Pairwise (λa b=>a.b<=b.b)->(cB8 x l).Pairwise (λa b=>a.b<=b.b)
 | [],_=>by simp[cB8]
 | y::l,hs=>by
  rw[cB8];have d:=hs;rw[eJ5]at hs;split
  .next h=>
   rw[eJ5];refine⟨λz c=>?_,bH8 x hs.2⟩;rcases eF0.1 ((bB5 x l).mem_iff.1 c)with rfl|c
   .exact List.le_of_lt (bt9.1 h)
   .exact hs.1 z c
  .next h=>
   have e:=ah5.1 (eN8.2 h);rw[eJ5];refine⟨λz c=>?_,d⟩;rcases eF0.1 c with rfl|c
   .exact e
   .exact bB7 e (hs.1 z c)
def aF1:∀l,(ad0 l).Pairwise (λa b=>a.b<=b.b)
 | []=>by simp[ad0]
 | x::l=>by rw[ad0];exact bH8 x (aF1 l)
def Y4(l:List B9):(ad0 l).length=l.length:=(Z3 l).length_eq
def cH7(l:List B9):((l.map (·.b)).mergeSort λx y=>decide (x<=y))=(ad0 l).map (·.b):=by
 refine aV4 (le:=λx y:List UInt8=>decide (x<=y)) ?_ ?_ ?_ ?_
 .exact(mergeSort_perm _ _).trans ((Z3 l).map _).symm
 .intro a _ b _ f g;have d:a<=b:=eD3 f;have e:b<=a:=eD3 g;exact List.le_antisymm d e
 .refine pairwise_mergeSort (le:=λx y:List UInt8=>decide (x<=y)) (λa b c f g=>?_) (λa b=>?_) _
  .have d:a<=b:=eD3 f;have e:b<=c:=eD3 g;exact eG9 (List.le_trans d e)
  .rcases List.le_total a b with h|h<;>simp[h]
 .rw[pairwise_map];exact(aF1 l).imp fun{a b} h=>eG9 h
def bl9{α:Type}[DecidableEq α]:∀(l:List α) (y:α),L0 (l++[y])=if l.getLast?=some y then L0 l else L0 l++[y]
 | [],y=>by simp[L0]
 | [x],y=>by
  by_cases h:x=y
  .subst h;simp[L0]
  .simp[L0,h]
 | x::z::l,y=>by
  have a:=bl9 (z::l) y;rw[eP1,eP1,L0,<-eP1,a,getLast?_cons_cons,L0];by_cases h1:x=z<;>by_cases h2:(z::l).getLast?=some y<;>simp only[h1,h2,eK2,eM4,eP1]
def ce0(d:Array (List UInt8)):∀m,m<=d.size->Lib.compactUpTo d m=L0 (d.toList.take m)
 | 0,_=>by simp[Lib.compactUpTo,L0]
 | m+1,hm=>by
  have i:=ce0 d m om;have f:m<d.toList.length:=by simp;omega
  have c:d[m]! = d.toList[m]:=by
   rw[getElem!_pos d m om];simp
  rw[eD9 f,bl9,<-i];have g:Lib.compactUpTo d (m+1)=Lib.compactUpTo d m++(if Lib.keeps d m then[d[m]!]else[]):=by
   simp only[Lib.compactUpTo,eO6,eJ8,eG8]
   congr 1
   by_cases b:Lib.keeps d m=true
   .simp[b]
   .simp[b]
  rw[g,c];by_cases h0:m=0
  .subst h0;simp[Lib.keeps,Lib.compactUpTo]
  .have a:(d.toList.take m).getLast?=some d[m-1]!:=by
    rw[getLast?_eq_getElem?,eE5,eJ7 om,eM1,fi om,getElem!_pos d (m-1) om];simp[show m-1<d.size by omega]
   rw[a];by_cases he:d.toList[m]=d[m-1]!
   .have b:Lib.keeps d m=false:=by simp only[Lib.keeps,eP4,c,h0,false_or,ne_eq];exact λh=>h he
    rw[b,fi (eE9 some he.symm)];simp
   .have b:Lib.keeps d m=true:=by simp only[Lib.keeps,eH1];rw[c];exact .inr he
    rw[b,fh (λe=>he (eF3 e).symm)];simp
def ce1{α β:Type}[DecidableEq α][DecidableEq β]{g:α->β}(c:∀a b,g a=g b->a=b):∀l:List α,L0 (l.map g)=(L0 l).map g
 | []=>by simp[L0]
 | [x]=>by simp[L0]
 | x::y::l=>by
  have d:=ce1 c (y::l);rw[eI4]at d;rw[eI4,eI4,L0,L0,d];by_cases h:x=y
  .rw[fi h,fi (by rw[h])]
  .rw[fh h,fh (λe=>h (c _ _ e)),eI4]
def cb1(l:List B9):Lib.compact (l.map (·.b))=(L0 l).map (·.b):=by
 unfold Lib.compact;have:=ce0 (l.map (·.b)).toArray (l.map (·.b)).length dG;rw[this];simp only[eE4];exact ce1 (λa b h=>by cases a;cases b;simpa using h) l
def ak8{α:Type}[DecidableEq α]:∀l:List α,(L0 l).length<=l.length
 | []=>by simp[L0]
 | [x]=>by simp[L0]
 | x::y::l=>by
  have a:=ak8 (y::l);rw[L0];split<;>simp only[eG6]at * <;> omega
def ak9{α:Type}[DecidableEq α]{z:α}:∀l:List α,z∈L0 l↔z∈l
 | []=>by simp[L0]
 | [x]=>by simp[L0]
 | x::y::l=>by
  have a:=ak9 (z:=z) (y::l);rw[L0];split
  .next h=>subst h;rw[a];simp
  .rw[eF0,a,eF0 (b:=x)]
def bl8:∀{l:List B9},l.Pairwise (λa b=>a.b<=b.b)->(L0 l).Pairwise (λa b=>ltS a b=true)
 | [],_=>by simp[L0]
 | [x],_=>by simp[L0]
 | x::y::l,h=>by
  have i:=h;rw[eJ5]at h;rw[L0];split
  .exact bl8 h.2
  .next d=>
   rw[eJ5];refine⟨λz g=>?_,bl8 h.2⟩;have c:=(ak9 _).1 g;have e:=h.1 y dG;have f:ltS x y=true:=by
    cases hq:ltS x y
    .exact fj (aT7 e (ah5.1 hq)) d
    .rfl
   rcases eF0.1 c with rfl|c
   .exact f
   .rw[eJ5]at h;have:=h.2.1 z c;cases hq:ltS x z
    .have:y=x:=aT7 (bB7 this (ah5.1 hq)) e;exact fj this.symm d
    .rfl
def ab4(l:List B9):(G0 l).Pairwise (λa b=>ltS a b=true):=bl8 (aF1 l)
def M6{l:List B9}{x:B9}:x∈G0 l↔x∈l:=by rw[G0,ak9,(Z3 l).mem_iff]
def aL8(l:List B9):(G0 l).length<=l.length:=eD7 (ak8 _) (by rw[Y4];exact eE8 _)
def cG5:∀{l m:List B9},l.Pairwise (λa b=>ltS a b=true)->m.Pairwise (λa b=>ltS a b=true)->(∀x,x∈l↔x∈m)->l=m
 | [],[],_,_,_=>rfl
 | [],y::m,_,_,h=>by have:=(h y).2 dG;simp at this
 | x::l,[],_,_,h=>by have:=(h x).1 dG;simp at this
 | x::l,y::m,h1,h2,h=>by
  rw[eJ5]at h1 h2;have c:x=y:=by
   rcases eF0.1 ((h x).1 dG)with e|hx
   .exact e
   rcases eF0.1 ((h y).2 dG)with e|hy
   .exact e.symm
   have:=aG2 (h1.1 y hy) (h2.1 x hx);rw[Q5]at this;cases this
  subst c;rw[cG5 h1.2 h2.2 λz=>?_];have d:=h z;simp only[eF0]at d;constructor
  .intro hm;rcases d.1 (.inr hm)with e|hm'
   .subst e;have:=h1.1 z hm;rw[Q5]at this;cases this
   .exact hm'
  .intro hm;rcases d.2 (.inr hm)with e|hm'
   .subst e;have:=h2.1 z hm;rw[Q5]at this;cases this
   .exact hm'
end Go.Proofs.YtpebpfiglfmegaaGreat
namespace Go.Proofs
open Go.Shelf
def Tryz.lyS_ren:Go.Shelf.Ren:=⟨fun|190=>106|125=>101|258=>179|128=>168|129=>169|302=>228|303=>229|304=>230|305=>231|306=>232|307=>233|308=>234|309=>235|310=>236|333=>280|329=>221|330=>222|334=>281|335=>282|336=>245|344=>309|n=>n,fun|31=>22|9=>9|3=>3|46=>164|0=>0|51=>238|53=>240|4=>4|183=>231|182=>230|131=>85|5=>5|218=>279|222=>283|228=>324|229=>325|n=>n,fun|n=>n⟩
def Tryz.lyS:Go.Proofs.Lays.n190 Tryz.prog Tryz.lyS_ren:={
 mixed:=kr
 f125:=tT Tryz.func101
 f128:=tT Tryz.func168
 f129:=tT Tryz.func169
 f190:=tT Tryz.func106
 f258:=tT Tryz.func179
 f302:=tT Tryz.func228
 f303:=tT Tryz.func229
 f304:=tT Tryz.func230
 f305:=tT Tryz.func231
 f306:=tT Tryz.func232
 f307:=tT Tryz.func233
 f308:=tT Tryz.func234
 f309:=tT Tryz.func235
 f310:=tT Tryz.func236
 f329:=tT Tryz.func221
 f330:=tT Tryz.func222
 f333:=tT Tryz.func280
 f334:=tT Tryz.func281
 f335:=tT Tryz.func282
 f336:=tT Tryz.func245
 f344:=tT Tryz.func309
 t0:=Tryz.underlying0
 a0:=Tryz.isAgg0
 z0:=Tryz.sizeOf0
 v0:=Tryz.zeroValue0
 t3:=Tryz.underlying3
 a3:=Tryz.isAgg3
 z3:=Tryz.sizeOf3
 v3:=Tryz.zeroValue3
 t4:=Tryz.underlying4
 a4:=Tryz.isAgg4
 z4:=Tryz.sizeOf4
 v4:=Tryz.zeroValue4
 t5:=Tryz.underlying5
 a5:=Tryz.isAgg5
 z5:=Tryz.sizeOf5
 v5:=Tryz.zeroValue5
 t9:=Tryz.underlying9
 a9:=Tryz.isAgg9
 z9:=Tryz.sizeOf9
 v9:=Tryz.zeroValue9
 t31:=Tryz.underlying22
 a31:=Tryz.isAgg22
 z31:=Tryz.sizeOf22
 v31:=Tryz.zeroValue22
 t46:=Tryz.underlying164
 a46:=Tryz.isAgg164
 z46:=Tryz.sizeOf164
 v46:=Tryz.zeroValue164
 t51:=Tryz.underlying238
 a51:=Tryz.isAgg238
 z51:=Tryz.sizeOf238
 v51:=Tryz.zeroValue238
 t53:=Tryz.underlying240
 a53:=Tryz.isAgg240
 z53:=Tryz.sizeOf240
 v53:=Tryz.zeroValue240
 t131:=Tryz.underlying85
 a131:=Tryz.isAgg85
 z131:=Tryz.sizeOf85
 v131:=Tryz.zeroValue85
 t182:=Tryz.underlying230
 a182:=Tryz.isAgg230
 z182:=Tryz.sizeOf230
 v182:=Tryz.zeroValue230
 t183:=Tryz.underlying231
 a183:=Tryz.isAgg231
 z183:=Tryz.sizeOf231
 v183:=Tryz.zeroValue231
 t218:=Tryz.underlying279
 a218:=Tryz.isAgg279
 z218:=Tryz.sizeOf279
 v218:=Tryz.zeroValue279
 t222:=Tryz.underlying283
 a222:=Tryz.isAgg283
 z222:=Tryz.sizeOf283
 v222:=Tryz.zeroValue283
 t228:=Tryz.underlying324
 a228:=Tryz.isAgg324
 z228:=Tryz.sizeOf324
 v228:=Tryz.zeroValue324
 t229:=Tryz.underlying325
 a229:=Tryz.isAgg325
 z229:=Tryz.sizeOf325
 v229:=Tryz.zeroValue325}
def Tryz.lyK_ren:Go.Shelf.Ren:=⟨fun|194=>107|n=>n,fun|31=>22|9=>9|3=>3|4=>4|0=>0|n=>n,fun|n=>n⟩
def Tryz.lyK:Go.Proofs.Lays.n194 Tryz.prog Tryz.lyK_ren:={
 mixed:=kr
 f194:=tT Tryz.func107
 t0:=Tryz.underlying0
 a0:=Tryz.isAgg0
 z0:=Tryz.sizeOf0
 v0:=Tryz.zeroValue0
 t3:=Tryz.underlying3
 a3:=Tryz.isAgg3
 z3:=Tryz.sizeOf3
 v3:=Tryz.zeroValue3
 t4:=Tryz.underlying4
 a4:=Tryz.isAgg4
 z4:=Tryz.sizeOf4
 v4:=Tryz.zeroValue4
 t9:=Tryz.underlying9
 a9:=Tryz.isAgg9
 z9:=Tryz.sizeOf9
 v9:=Tryz.zeroValue9
 t31:=Tryz.underlying22
 a31:=Tryz.isAgg22
 z31:=Tryz.sizeOf22
 v31:=Tryz.zeroValue22}
end Go.Proofs
namespace Go.Proofs.YtpebpfiglfmegaaGreat
open Go Tryz List IntKind Region
def eJ6:=@take_append_of_le_length
section
open Go.Sort
def em5:(Tryz.lyS_ren.f 190)=106:=kr
def em4:(Tryz.lyK_ren.f 194)=107:=kr
section
variable {α:Type} [Inhabited α]
def cb8(enc:α->Value)(d:Array α)(a:Array Value)(h:d.size<=a.size):(putCells enc 0 d a).toList=d.toList.map enc++a.toList.drop d.size:=by
 apply eQ4;intro k;rw[eP2];unfold putCells;rw[Array.getElem?_mapIdx];rcases eH4 k d.size with b|b
 .rw[eI7 (by simpa using b),eO2 om];simp[b]
 .rw[eI8 (by simpa using b),eN3,eE3,eQ6,show d.size+(k-d.size)=k by omega];rcases eH4 k a.size with c|c
  .simp[c,show ¬k<d.size by omega]
  .simp[show a.size<=k by omega]
def bv4{w:World}{b T}{a:Array Value}(k:w.heap[b]?=some (.cells a T (0,0)))(enc:α->Value)(d:Array α)(h:d.size<=a.size)(n)(g:Array Obj):
  (grow (putRow enc (Go.Sort.ahead w n) b 0 d) g).heap[b]?=some (.cells (d.toList.map enc++a.toList.drop d.size).toArray T (0,0))/\t8 (λc=>c=b) w (grow (putRow enc (Go.Sort.ahead w n) b 0 d) g):=by
 have l:b<w.heap.size:=(eD5.1 k).1;have f:(putRow enc (Go.Sort.ahead w n) b 0 d).heap.size=w.heap.size:=by rw[size_putRow];rfl
 have j:∀c,(putRow enc (Go.Sort.ahead w n) b 0 d).heap[c]?=if b=c then(w.heap[c]?).map (onCells (putCells enc 0 d))else w.heap[c]?:=λc=>by
  unfold putRow mapBlock;rw[Array.getElem?_modify];split<;>rfl
 refine⟨?_,⟨rfl,rfl,rfl,?_,λc m i=>?_⟩⟩
 .show((putRow enc (Go.Sort.ahead w n) b 0 d).heap++g)[b]?=_;rw[Array.getElem?_append_left (by rw[f];exact l),j b,fi rfl,k];simp only[eJ9,onCells,<-cb8 enc d a h,Array.toArray_toList]
 .show w.heap.size<=((putRow enc (Go.Sort.ahead w n) b 0 d).heap++g).size;rw[Array.size_append,f];omega
 .show((putRow enc (Go.Sort.ahead w n) b 0 d).heap++g)[c]?=_;rw[Array.getElem?_append_left (by rw[f];exact m),j c,fh (λe=>i e.symm)]
end
def aH7{h}{cs:List Value}{l:List B9}:V4 h cs l↔cs=l.map A4:=by
 induction l generalizing cs with
 | nil=>simp[V4]
 | cons x l a=>
  rw[V4];constructor
  .rintro⟨b,e,rfl,c,d⟩;have:b=[A4 x]:=c;rw[this,a.1 d];rfl
  .rintro rfl;exact⟨[x],l.map A4,rfl,rfl,a.2 rfl⟩
section
variable {h:Hp} {w:World} {v:Value} {l:List B9}
def cF1(n:B7 h w 9 v l):(v=()/\l=[])\/∃b c a,v = .slice (some ⟨b,0,none⟩) l.length c/\h b=none/\w.heap[b]?=some (.cells a 9 (0,0))/\l.length<=c/\c<=maxLen/\a.size=c/\a.toList.take l.length=l.map A4:=by
 rcases n with m|⟨b,c,a,rfl,g,i,j,k,d,f⟩
 .exact .inl m
 .have e:A9.sz B9=1:=rfl;rw[e,eM2]at d f;exact .inr ⟨b,c,a,rfl,g,i,j,k,d,aH7.1 f⟩
def bI5{b c}{a:Array Value}(d:h b=none)(f:w.heap[b]?=some (.cells a 9 (0,0)))(g:l.length<=c)(i:c<=maxLen)(j:a.size=c)(k:a.toList.take l.length=l.map A4):
  B7 h w 9 (.slice (some ⟨b,0,none⟩) l.length c) l:=by
 have e:A9.sz B9=1:=rfl;refine .inr ⟨b,c,a,rfl,d,f,g,i,by rw[e,j,eM2],?_⟩;rw[e,eM2,k];exact aH7.2 rfl
def bS3{b}{a:Array Value}(d:w.heap[b]?=some (.cells a 9 (0,0)))(g:a.toList.take l.length=l.map A4):Holds encStr w b 0 (l.map B9.b).toArray:=λj f=>by
 have c:j<l.length:=by simpa using f
 rw[eH5,eL6 w b j a _ (0,0) d];have e:=eE9 (λz=>z[j]?) g;simp only[eM1,fi c,eH2,eD1 c,eJ9]at e;refine⟨?_,frozen_of_row w b j a _ d⟩;rw[getElem!_pos _ j f];simpa[A4]using e
def dp0(p:B7 h w 9 v l)(u:l.length<=1000000000):
  Calls prog 106 #[v] w λe d=>e = .returned (.tuple #[])/\B7 h d 9 v (ad0 l)/\t8 (B0 v) w d:=by
 rw[<-em5];rcases cF1 p with⟨rfl,rfl⟩|⟨b,c,i,rfl,j,f,g,k,t,m⟩
 .apply(Any.slices_Sort_string_none Tryz.lyS none 0 w).mono;rintro e d ⟨rfl,rfl⟩;exact⟨rfl,B7.nil _ _ _,t8.refl _⟩
 .have o:b<w.heap.size:=(eD5.1 f).1;have:=Any.slices_Sort_string Tryz.lyS b 0 c (l.map B9.b) w (bS3 f m) o (by rw[eE3];omega);rw[eE3]at this;apply this.mono;rintro e d ⟨rfl,n,s,rfl⟩;rw[cH7];obtain⟨q,r⟩:=bv4 f encStr ((ad0 l).map B9.b).toArray (by simp[Y4];omega) n s;refine⟨rfl,?_,r.weaken λ_ _ e=>by subst e;rfl⟩;have a:=Y4 l;rw[<-a]at g ⊢;refine bI5 j q g k ?_ ?_
  .simp[Y4];omega
  .simp only[map_map];rw[eJ6 dG,eI0 dG];rfl
def bf1(r:B7 h w 9 v l)(x:l.length<=1000000000):
  p7 prog 107 #[v] w λu a=>(B7 h a 9 u (L0 l)/\t8 (B0 v) w a/\F4 w v u):=by
 rw[<-em4];rcases cF1 r with⟨rfl,rfl⟩|⟨b,c,m,rfl,n,g,s,o,t,p⟩
 .apply(Any.slices_Compact_string_empty Tryz.lyK none 0 w).mono;rintro e a ⟨rfl,rfl⟩;exact⟨_,rfl,B7.nil _ _ _,t8.refl _,λb d=>.inl d⟩
 .have:=Any.slices_Compact_string Tryz.lyK b 0 c (l.map B9.b) w (bS3 g p) (by rw[eE3];omega) (by rw[eE3];omega);rw[eE3]at this;apply this.mono;rintro e a ⟨rfl,q,rfl⟩;rw[cb1,eE3];have i:=ak8 l;have f:(((L0 l).map B9.b++replicate (l.length-(L0 l).length) []).toArray).size=l.length:=by simp;omega
  obtain⟨j,k⟩:=bv4 g encStr (((L0 l).map B9.b++replicate (l.length-(L0 l).length) []).toArray) (by rw[f];omega) q #[];rw[grow_empty]at j k;refine⟨_,rfl,?_,k.weaken λ_ _ e=>by subst e;rfl,λb d=>.inl d⟩;refine bI5 n j om o ?_ ?_
  .simp;omega
  .simp only[eG8,map_map,eG4];rw[eJ6 dG,eI0 dG];rfl
end
end
def eN2:=@flatMap_cons
section
open Go.Sort Go.RowKit Go.Shelf
class A0 (α:Type) [A9 α] where
 cells:α->List Value
 iff_:∀(h:Hp) (cs:List Value) (x:α),A9.enc h cs x↔cs=cells x
instance:A0 Sp:=⟨Sp.cells,λ_ _ _=>eL8⟩
instance:A0 Fw:=⟨Fw.cells,λ_ _ _=>eL8⟩
instance:A0 Vx:=⟨Vx.cells,λ_ _ _=>eL8⟩
instance:A0 Eg:=⟨Eg.cells,λ_ _ _=>eL8⟩
instance:Coe Vx Value:=⟨λx=>.agg (A0.cells x).toArray⟩
instance:Coe Eg Value:=⟨λx=>.agg (A0.cells x).toArray⟩
instance:Inhabited Sp:=⟨⟨0,0,0⟩⟩
instance:Inhabited Fw:=⟨⟨0,0,e0⟩⟩
instance:Inhabited Vx:=⟨⟨e0,0,0,e0⟩⟩
instance:Inhabited Eg:=⟨⟨default,default,0⟩⟩
section
variable {α:Type} [A9 α] [A0 α]
def aF8(x:α):(A0.cells x).length=A9.sz α:=A9.len ((A0.iff_ (λ_=>none) _ x).2 rfl)
def ad6(x:α):∀v∈A0.cells x,v.oneCell'=true:=A9.one ((A0.iff_ (λ_=>none) _ x).2 rfl)
def aj3{h}:∀{a:List Value} {l:List α},V4 h a l↔a=l.flatMap A0.cells
 | a,[]=>by simp[V4]
 | a,x::l=>by
  rw[V4,eN2];constructor
  .rintro⟨d,e,rfl,b,c⟩;rw[(A0.iff_ _ _ _).1 b,aj3.1 c]
  .rintro rfl;exact⟨_,_,rfl,(A0.iff_ _ _ _).2 rfl,aj3.2 rfl⟩
def B7.downN{h k w T v}{xs:List α}(n:B7 k w T v xs)(l:E6 h k):B7 h w T v xs:=by
 rcases n with m|⟨b,c,a,rfl,d,e,f,g,i,j⟩
 .exact .inl m
 .refine .inr ⟨b,c,a,rfl,?_,e,f,g,i,aj3.2 (aj3.1 j)⟩;cases hq:h b with
  | none=>rfl
  | some o=>have:=l b o hq;rw[d]at this;cases this
def B7.flatRN{h k w T v}{xs:List α}(a:B7 h w T v xs)(hb:∀b,B0 v b->k b=w.heap[b]?):R k v xs:=
 (a.downN (h:=λ_=>none) (λb o e=>nomatch e)).ro (λb o e=>nomatch e) hb
def B7.backN{w0 w1 w T v}{xs:List α}(a:B7 (n8 w1) w T v xs)(b:o6 w0 w1):B7 (n8 w0) w T v xs:=a.downN (b7 b)
def db5{h w T v}{l:List α}(m:B7 h w T v l):(v=()/\l=[])\/∃b c a,v = .slice (some ⟨b,0,none⟩) l.length c/\h b=none/\w.heap[b]?=some (.cells a T (0,0))/\l.length<=c/\c<=maxLen/\a.size=c*A9.sz α/\a.toList.take (l.length*A9.sz α)=l.flatMap A0.cells:=by
 rcases m with k|⟨b,c,a,rfl,d,e,f,g,i,j⟩
 .exact .inl k
 .exact .inr ⟨b,c,a,rfl,d,e,f,g,i,aj3.1 j⟩
def bu7{h}{w:World}{T}{l:List α}{b c}{a:Array Value}(d:h b=none)(e:w.heap[b]?=some (.cells a T (0,0)))(f:l.length<=c)(g:c<=maxLen)(i:a.size=c*A9.sz α)(j:a.toList.take (l.length*A9.sz α)=l.flatMap A0.cells):
  B7 h w T (.slice (some ⟨b,0,none⟩) l.length c) l:=.inr ⟨b,c,a,rfl,d,e,f,g,i,aj3.2 j⟩
def aj4(l:List α):(l.flatMap A0.cells).length=l.length*A9.sz α:=by
 induction l with
 | nil=>simp
 | cons x l a=>rw[eN2,eD4,aF8,a,eG6,Nat.succ_mul,Nat.add_comm]
end
def bG7{α β:Type}(f:α->List β){k}(b:0<k)(a:∀x,(f x).length=k):∀(l:List α) (t:Nat),(l.flatMap f)[t]?=(l[t / k]?).bind λx=>(f x)[t % k]?
 | [],t=>dG
 | x::l,t=>by
  rw[eN2];rcases eH4 t k with h|h
  .rw[eI7 (by rw[a];exact h),Nat.div_eq_of_lt h,Nat.mod_eq_of_lt h];rfl
  .rw[eI8 (by rw[a];exact h),a,bG7 f b a l];have c:t / k=(t-k) / k+1:=by rw[Nat.div_eq_sub_div b h]
   have d:t % k=(t-k) % k:=Nat.mod_eq_sub_mod h;rw[c,d,getElem?_cons_succ]
def bQ9{α:Type}[Inhabited α](f:α->List Value){k}(c:0<k)(b:∀x,(f x).length=k)(d:Array α):(flatK f k d).toList=d.toList.flatMap f:=by
 apply eQ4;intro t;rw[bG7 f c b];unfold flatK;rw[eP2,Array.getElem?_map];rcases eH4 t (d.size*k)with h|h
 .have a:t / k<d.size:=Nat.div_lt_of_lt_mul (by rw[Nat.mul_comm];exact h);have e:t % k<k:=Nat.mod_lt _ c;rw[eO2 (by simpa using h),eP2,eO2 a];simp only[Array.getElem_range,eJ9,Option.bind_some];rw[getElem!_pos d _ a,getElem!_pos _ _ (by rw[b];exact e),eD1 (by rw[b];exact e)]
 .have a:d.size<=t / k:=(Nat.le_div_iff_mul_le c).2 h;rw[Array.getElem?_eq_none (by simpa using h),eP2,Array.getElem?_eq_none a];rfl
structure Cm {α:Type} (c:α->α->Int):Prop where
 refl:∀x,c x x=0
 anti:∀x y,c y x = - c x y
 trans:∀x y z,c x y<=0->c y z<=0->c x z<=0
def Cm.swo{α:Type}{c:α->α->Int}(h:Cm c):SWO (ltOf c) where
 irrefl x:=by simp[ltOf,h.refl]
 trans x y z h1 h2:=by
  simp only[ltOf,eH1]at *;have b:=h.trans x y z om om;rcases Int.lt_or_eq_of_le b with a|a
  .exact a
  .have g:=h.anti x z;have i:=h.trans y z x om om;have j:=h.anti x y;omega
 ntrans x y z h1 h2:=by
  simp only[ltOf,eP4]at *;have d:=h.anti x y;have e:=h.anti y z;have f:=h.anti x z;have:=h.trans z y x om om;omega
def Cm.total{α:Type}{c:α->α->Int}(h:Cm c)(x y:α):decide (c x y<=0)=true\/decide (c y x<=0)=true:=by
 have:=h.anti x y;simp only[eH1];omega
def Cm.key{α β:Type}{c:β->β->Int}(h:Cm c)(f:α->β):Cm λx y=>c (f x) (f y):=⟨λx=>h.refl _,λx y=>h.anti _ _,λx y z=>h.trans _ _ _⟩
def Cm.zero{α:Type}:Cm λ(_ _:α)=>0:=⟨λ_=>rfl,λ_ _=>rfl,λ_ _ _ _ _=>om⟩
def Cm.lex{α:Type}{c d:α->α->Int}(h:Cm c)(k:Cm d):Cm λx y=>if c x y=0 then d x y else c x y:=by
 refine⟨λx=>by simp only[h.refl,eK2,k.refl],λx y=>?_,λx y z a b=>?_⟩
 .have e:=h.anti x y;have f:=k.anti x y;by_cases hq:c x y=0
  .show(if c y x=0 then d y x else c y x) = - (if c x y=0 then d x y else c x y);rw[fi (show c y x=0 by omega),fi hq,f]
  .show(if c y x=0 then d y x else c y x) = - (if c x y=0 then d x y else c x y);rw[fh (show ¬c y x=0 by omega),fh hq,e]
 .have e:=h.anti x y;have f:=h.anti y z;have n:=h.anti x z
  change (if c x y=0 then d x y else c x y)<=0 at a
  change (if c y z=0 then d y z else c y z)<=0 at b
  show(if c x z=0 then d x z else c x z)<=0;have g:c x y<=0:=by split at a<;>omega
  have i:c y z<=0:=by split at b<;>omega
  have j:=h.trans x y z g i;by_cases hq:c x z=0
  .rw[fi hq];have o:=h.trans y z x i om;have p:=h.trans z x y om g;have l:c x y=0:=om
   have m:c y z=0:=om
   rw[fi l]at a;rw[fi m]at b;exact k.trans x y z a b
  .rw[fh hq];exact j
def aZ6:Cm O6:=by
 refine⟨λx=>?_,λx y=>?_,λx y z=>?_⟩<;>unfold O6
 .simp
 .split<;>split<;>(try split)<;>omega
 .intro a b;split at a<;>(try split at a)<;>split at b<;>(try split at b)<;>split<;>(try split)<;>omega
def am5(a b:B9):Int:=if ltS a b then -1 else if ltS b a then 1 else 0
def cM7:Cm am5:=by
 refine⟨λx=>?_,λx y=>?_,λx y z=>?_⟩<;>unfold am5
 .simp[Q5]
 .cases a:ltS x y<;>cases b:ltS y x<;>simp;have:=aG2 a b;rw[Q5]at this;cases this
 .intro a b;cases h3:ltS z x
  .cases ltS x z<;>simp
  .exfalso
   cases h4:ltS y x
   .cases h5:ltS z y
    .have c:=bB7 (ah5.1 h4) (ah5.1 h5);exact fj h3 (by rw[ah5.2 c];simp)
    .cases h6:ltS y z
     .rw[h6,h5]at b;simp at b
     .have:=aG2 h5 h6;rw[Q5]at this;cases this
   .cases h6:ltS x y
    .rw[h6,h4]at a;simp at a
    .have:=aG2 h4 h6;rw[Q5]at this;cases this
def ak7{a b}(h:O6 a b=0):a=b:=by
 unfold O6 at h;split at h
 .omega
 .split at h<;>omega
def aO9{a b:B9}(h:am5 a b=0):a=b:=by
 unfold am5 at h;cases h1:ltS a b
 .cases h2:ltS b a
  .exact cq0 h1 h2
  .rw[h1,h2]at h;simp at h
 .rw[h1]at h;simp at h
def Gr(w b:World):Prop:=∃q a,b=grow (w.drewN q) a
def Gr.refl(w):Gr w w:=⟨0,#[],by rw[grow_empty];rfl⟩
def Gr.alloc(w)(o:Obj):Gr w (w.alloc o):=⟨0,#[o],by rw[alloc_eq_grow];rfl⟩
def Gr.drew(w):Gr w w.drew:=⟨1,#[],by rw[grow_empty];rfl⟩
def Gr.trans{a b c}(h:Gr a b)(k:Gr b c):Gr a c:=by
 obtain⟨q,d,rfl⟩:=h;obtain⟨p,f,rfl⟩:=k;refine⟨q+p,d++f,?_⟩;have e:(grow (a.drewN q) d).drewN p=grow (a.drewN (q+p)) d:=by
  show grow ((a.drewN q).drewN p) d=_
  congr 1
  simp[World.drewN,eO4]
 rw[e,grow_grow]
def Gr.ext{a b}(h:Gr a b):o6 a b:=by
 obtain⟨q,d,rfl⟩:=h;have e:o6 a (a.drewN q):=⟨rfl,rfl,rfl,eE8 _,λ_ _ _=>rfl⟩;refine e.trans ⟨rfl,rfl,rfl,?_,λc f _=>?_⟩
 .show _<=((a.drewN q).heap++d).size;rw[Array.size_append];omega
 .show((a.drewN q).heap++d)[c]?=_;rw[Array.getElem?_append_left f]
section
variable {α:Type} [A9 α] [A0 α] [Inhabited α] {P:Program} {ρ:Ren} {h:Hp} {w:World} {T:TypeId} {v:Value} {xs:List α}
def dP4{b}{a:Array Value}(e:w.heap[b]?=some (.cells a T (0,0)))(h:a.toList.take (xs.length*A9.sz α)=xs.flatMap A0.cells):HoldsK A0.cells (A9.sz α) w b 0 xs.toArray:=λj c=>by
 have g:=bQ9 A0.cells (A9.pos (α:=α)) aF8 xs.toArray;rw[toList_toArray,<-h]at g;have d:j<xs.length*A9.sz α:=by simpa using c
 rw[eH5,eL6 w b j a _ (0,0) e];refine⟨?_,frozen_of_row w b j a _ e⟩;have f:=eE9 (λz=>z[j]?) g;simp only[eP2,eM1,fi d,eO2 c]at f;rw[getElem!_pos _ j c];exact f.symm
def bh1(L:SlLaysF0.n6 P ρ)(N:∀w,(isAgg (ρ.t 24)).run P w = .ok true w)(zE:∀w,(Go.sizeOf (ρ.t 24)).run P w = .ok (A9.sz α) w)(o:α->α->Int)(A:Cm o)(g)(S:∀args w,(callFunc g args).run P w = .ok (.enter g args) w)
  (t:∀x y w,Calls P g #[.agg (A0.cells x).toArray,.agg (A0.cells y).toArray] w λe r=>e = .returned (o x y)/\Gr w r)
  (ho:B7 h w T v xs) (hl:xs.length<=1000000000) (q:∀a∈xs,∀b∈xs,decide (o a b<=0)=true->decide (o b a<=0)=true->a=b) :
  Calls P (ρ.f 6) #[v,.func (.func g) #[] #[]] w λe r=>∃u,e = .returned u/\(B7 h r T v (af2 (λa b=>decide (o a b<=0)) xs)/\t8 (B0 v) w r):=by
 rcases db5 ho with⟨rfl,rfl⟩|⟨b,c,O,rfl,B,s,C,U,J,V⟩
 .apply(AnyF.slices_SortFunc_none L none 0 _ w).mono;rintro e r ⟨rfl,rfl⟩;exact⟨_,rfl,B7.nil _ _ _,t8.refl _⟩
 .have D:b<w.heap.size:=(eD5.1 s).1;have:=AnyQ.slices_SortFunc L (A9.sz α) N zE A0.cells aF8 ad6 o A.swo g #[] b 0 c xs.toArray w S (λm M dk _ x y=>t x y _) (dP4 s V) D (by simp;omega);rw[eO0]at this;apply this.mono;rintro e r ⟨rfl,f,n,M,hp,hs,rfl⟩;obtain⟨I,_,d⟩:=hp;have p:f.size=xs.length:=by simpa using I
  have X:f.toList=af2 (λa b=>decide (o a b<=0)) xs:=by
   have Q:f.extract 0 xs.length=f:=by rw[<-p];exact Array.extract_size
   rw[Q]at d;have R:(xs.toArray.extract 0 xs.length).toList=xs:=by
    have:=@Array.extract_size _ xs.toArray;rw[eO0]at this;rw[this]
   rw[R]at d;refine aV4 (le:=λa b=>decide (o a b<=0)) (d.trans (H8 _ _).symm) ?_ ?_ ?_
   .intro a W b D;exact q a (d.mem_iff.1 W) b (d.mem_iff.1 D)
   .rw[eK4];intro i j Y Z G;have F:i<f.size:=by simpa using Y
    have H:j<f.size:=by simpa using Z
    have:=hs i j (eE2 _) G om;rw[getElem!_pos f j H,getElem!_pos f i F]at this;simp only[ltOf,eP4]at this;have a1:=A.anti f[i] f[j];simp only[Array.getElem_toList,eH1];omega
   .exact av0 (λa _ b _=>A.total a b) (λa _ b _ c _ B s=>eG9 (A.trans a b c (eD3 B) (eD3 s)))
  have E:=bQ9 A0.cells (A9.pos (α:=α)) aF8 f;have z:(flatK A0.cells (A9.sz α) f).size=xs.length*A9.sz α:=by rw[size_flatK,p]
  obtain⟨K,k2⟩:=bv4 s id (flatK A0.cells (A9.sz α) f) (by rw[z,J];exact eN1 _ C) n M;refine⟨_,rfl,?_,k2.weaken λ_ _ e=>by subst e;rfl⟩;have k:(af2 (λa b=>decide (o a b<=0)) xs).length=xs.length:=(H8 _ _).length_eq;rw[map_id,E,X]at K;have:=bu7 (l:=af2 (λa b=>decide (o a b<=0)) xs) B K (by rw[k];exact C) U ?_ ?_
  .rw[k]at this;exact this
  .have aa:=eN1 (A9.sz α) C;simp only[eO0,eD4,aj4,k,eK0,eQ6,z,J];omega
  .simp only[];rw[<-aj4,eN4]
end
end
def P8:=zJ (zJ (zJ (zJ (zJ (zJ @bM9 @et2) (zJ @es5 @ei4)) (zJ (zJ @es8 @ew5) (zJ @es6 (zJ @es7 @ew6)))) (zJ (zJ (zJ @ew2 @eq4) (zJ @ew3 (zJ @ew4 @ej7))) (zJ (zJ @eh0 @ej8) (zJ @ej9 (zJ @eu9 @eu8))))) (zJ (zJ (zJ (zJ @ex0 @eB0) (zJ @eB5 (zJ @ei2 @ev8))) (zJ (zJ @ei3 @ev9) (zJ @ez4 (zJ @eB4 @dR9)))) (zJ (zJ (zJ @eo2 @dS0) (zJ @eo3 (zJ @eo4 @ed7))) (zJ (zJ @dX1 @dX0) (zJ @eo1 (zJ @ez6 @ez5)))))) (zJ (zJ (zJ (zJ (zJ @ed6 @ez8) (zJ @ez7 (zJ @ev6 @dL9))) (zJ (zJ @en1 @ey9) (zJ @dR6 (zJ @ei1 @ed0)))) (zJ (zJ (zJ @ey4 @ez0) (zJ @ei0 (zJ @ev5 @en4))) (zJ (zJ @ev4 @ev.eq_1) (zJ @ev.eq_2 (zJ @ev.eq_3 @ev.eq_4))))) (zJ (zJ (zJ (zJ @G9.eq_1 @G9.eq_2) (zJ @eA8 (zJ @ez2 @ew0))) (zJ (zJ @ew1 @List.map_cons.{0,0}) (zJ @List.map_nil.{0,0} (zJ @List.map_toArray.{0,0} @cw5.eq_1)))) (zJ (zJ (zJ @cw5.eq_2 @eh7) (zJ @dy3.eq_1 (zJ @List.getElem?_toArray.{0} @List.getElem?_cons_zero.{0}))) (zJ (zJ @List.getElem?_cons_succ.{0} @Option.bind_some.{0,0}) (zJ @Option.some.injEq.{0} (zJ @eK7 @Bool.true_eq_false))))))
def Y7:=zJ (zJ (zJ (zJ @Option.map_some.{0,0} (zJ @Option.map_none.{0,0} @Int.toNat_zero)) (zJ (zJ @Option.isNone_none.{0} @Option.isNone_some.{0}) (zJ @O9 @co8.eq_1))) (zJ (zJ @co8.eq_2 (zJ @dN8.eq_1 @bG1.eq_1)) (zJ (zJ @bG1.eq_2 @dC1.eq_1) (zJ @dB8.eq_1 @TY)))) (zJ (zJ (zJ @Option.isSome_some.{0} (zJ @eJ4 @Bool.and_true)) (zJ (zJ @eM2 @eF4) (zJ @ey1 @Int.cast_ofNat_Int))) (zJ (zJ @decide_true (zJ @add_lit @eH5)) (zJ (zJ @Nat.zero_mul @Nat.one_mul) (zJ @Bool.not_true @Bool.not_false))))
def cD8(n m:Int):Int:=if m<1 then 0 else if n.tmod m<0 then n.tmod m+m else n.tmod m
def bM1(n m w)(e:m<=1000000000):p7 prog 27 #[.int .i64 n,.int .i64 m] w λv g=>(v=(cD8 n m)/\g=w):=by
 apply y5 [n,m] func27 rfl;simp only[P8,Y7,E2,I6,simprocAttr];refine B2 (λh=>?_) (λh=>?_)
 .simp only[P8,simprocAttr];apply o8 results27;simp only[C9,simprocAttr];have b:m<1:=by simpa using h
  exact⟨by rw[cD8,fi b],tt⟩
 .have b:¬m<1:=by simpa using h
  have d:¬m=0:=om
  simp only[P8,E2,I6,simprocAttr,d];refine B2 (λc=>?_) (λc=>?_)
  .have a:n.tmod m<0:=by simpa using c
   have i : -m<n.tmod m:=by have:=Int.lt_tmod_of_pos n (show 0<m by omega);omega
   have f:IntKind.i64.wrap (n.tmod m+m)=n.tmod m+m:=N7 _ om;simp only[P8,E2,I6,simprocAttr,f];apply o8 results27;simp only[C9,simprocAttr];exact⟨by rw[cD8,fh b,fi a],tt⟩
  .have a:¬n.tmod m<0:=by simpa using c
   simp only[P8,simprocAttr];apply o8 results27;simp only[C9,simprocAttr];exact⟨by rw[cD8,fh b,fh a],tt⟩
def eG0:=@length_filter_le
def V8:I4 prog 45 3 1 8=true:=kr
def bw9:I4 prog 95 4 1 1=true:=kr
def ep6:I4 prog 206 208 2 16=true:=kr
def cS8:I4 prog 261 45 1 24=true:=kr
def bR2{α β:Type}(g:β->α->β)(b:β)(l:List α)(k)(a:k<l.length):(l.take (k+1)).foldl g b=g ((l.take k).foldl g b) l[k]:=by
 rw[eD9 a,foldl_append];rfl
def ao5(l:List Bool)(k:Nat):List Int:=((range k).filter λi=>l[i]?.getD false).map λ(i:Nat)=>(i:Int)
def bt8(l:List Bool)(k):ao5 l (k+1)=if l[k]?.getD false then ao5 l k++[(k:Int)]else ao5 l k:=by
 unfold ao5;rw[eO6,eJ8,eG8];by_cases h:l[k]?.getD false=true<;>simp[h]
def cC9(l:List Bool)(k):(ao5 l k).length<=k:=by
 unfold ao5;rw[eE3];exact eD7 (eG0 _ _) dG
def cQ4(v)(l:List Bool)(w)(hv:R (n8 w) v l)(A:l.length<=1000000):p7 prog 260 #[v] w λu c=>(B7 (n8 w) c 3 u (ao5 l l.length)/\o6 w c):=by
 apply y5 [v] func260 rfl;simp only[P8,Y7,ad8,simprocAttr,hv.isS,hv.vlen];refine B4 [6,7] (σ:=Nat) (λk f c=>f 8=k/\k<=l.length/\B7 (n8 w) c 3 (f 3) (ao5 l k)/\o6 w c) (λk=>l.length-k) 0 ?_ ?_
 .exact⟨rfl,eE2 _,B7.nil _ _ _,t8.refl _⟩
 .rintro k f c ⟨o,p,_⟩ ⟨g,s,h,d⟩;simp only[P8,E2,I6,simprocAttr,g,p];refine A7 (λa=>?_) ?_
  .have i:=O4 (P:=prog) (t:=4) hv (b7 d) (eD1 a) ag4;simp only[P8,Y7,A6,L6.val,simprocAttr,g,o,hv.inS a,i];refine B2 (λb=>?_) (λb=>?_)
   .have n:=cC9 l k;obtain⟨j,B,C,m,q,r,z⟩:=push (e:=45) V8 rfl h (x:=k) (y:=(k:Int)) rfl om om (b7 d);simp only[Value.cells]at j m;simp only[P8,E2,I6,simprocAttr,g,j,m];refine U5 (k+1) ⟨?_,h.ext2 d r⟩;rw[bt8,fi (by simp[a,b])];exact q
   .simp only[P8,E2,I6,simprocAttr,g];refine U5 (k+1) ⟨?_,d⟩;rw[bt8,fh (by simp[a,b])];exact h
  .rintro rfl;simp only[P8,simprocAttr];exact o8 results260 ⟨h,d⟩
def dX5(w a b):
  (Instr.alloc 208 true (.tuple #[])).run prog w = .ok (.pointer (some ⟨w.heap.size,0,none⟩)) (w.alloc (.cells #[.int .i64 0,.int .i64 0] 208)) /\
  (Instr.storeAt 208 (.pointer (some ⟨w.heap.size,0,none⟩)) (.agg #[.int .i64 a,.int .i64 b])).run prog (w.alloc (.cells #[.int .i64 0,.int .i64 0] 208)) =
   .ok () (w.alloc (.cells #[.int .i64 a,.int .i64 b] 208)):=
 aE6 (P:=prog) (T:=208) dJ4 (by rw[bY4];rfl) (cs:=#[.int .i64 a,.int .i64 b]) (by rw[bY4];rfl) (by simp[Value.oneCell'])
def dX3(w:World)(a b):(Instr.loadAt 3 (.pointer (some ⟨w.heap.size,0,none⟩))).run prog (w.alloc (.cells #[.int .i64 a,.int .i64 b] 208)) = .ok (.int .i64 a) (w.alloc (.cells #[.int .i64 a,.int .i64 b] 208)):=
 dB1 (by rfl) K7
def dX4(w:World)(a b):(Instr.loadAt 3 (.pointer (some ⟨w.heap.size,1,none⟩))).run prog (w.alloc (.cells #[.int .i64 a,.int .i64 b] 208)) = .ok (.int .i64 b) (w.alloc (.cells #[.int .i64 a,.int .i64 b] 208)):=
 dB1 (by rfl) K7
def ldP{h w v}{xs:List (Int×Int)}(b:R h v xs)(hw:E6 h (n8 w)){k}{x:Int×Int}(a:xs[k]?=some x):
  (Instr.loadAt 208 (.pointer (some (I2 v (k*2))))).run prog w = .ok (.agg #[.int .i64 x.1,.int .i64 x.2]) w:=
 cp9 b hw a dG9 dI7 cU4 bY4
def bE7(n:Nat)(e:Int×Int):Prop:=0<=e.1/\e.1<n/\0<=e.2/\e.2<n
end Go.Proofs.YtpebpfiglfmegaaGreat
namespace Go.Proofs
open Go.Shelf
def Tryz.layI_ren:Go.Shelf.Ren:=⟨fun|21=>313|27=>334|28=>335|35=>343|39=>345|n=>n,fun|22=>45|3=>3|4=>4|0=>0|n=>n,fun|n=>n⟩
def Tryz.layI:Go.Proofs.Lays2.n21 Tryz.prog Tryz.layI_ren:={
 mixed:=kr
 f21:=tT Tryz.func313
 f27:=tT Tryz.func334
 f28:=tT Tryz.func335
 f35:=tT Tryz.func343
 f39:=tT Tryz.func345
 t0:=Tryz.underlying0
 a0:=Tryz.isAgg0
 z0:=Tryz.sizeOf0
 v0:=Tryz.zeroValue0
 t3:=Tryz.underlying3
 a3:=Tryz.isAgg3
 z3:=Tryz.sizeOf3
 v3:=Tryz.zeroValue3
 t4:=Tryz.underlying4
 a4:=Tryz.isAgg4
 z4:=Tryz.sizeOf4
 v4:=Tryz.zeroValue4
 t22:=Tryz.underlying45
 a22:=Tryz.isAgg45
 z22:=Tryz.sizeOf45
 v22:=Tryz.zeroValue45
 i3:=by kernel_rfl}
def Tryz.layB_ren:Go.Shelf.Ren:=⟨fun|25=>312|31=>165|32=>333|37=>182|n=>n,fun|22=>45|3=>3|4=>4|40=>164|0=>0|n=>n,fun|n=>n⟩
def Tryz.layB:Go.Proofs.Lays2.n25 Tryz.prog Tryz.layB_ren:={
 mixed:=kr
 f25:=tT Tryz.func312
 f31:=tT Tryz.func165
 f32:=tT Tryz.func333
 f37:=tT Tryz.func182
 t0:=Tryz.underlying0
 a0:=Tryz.isAgg0
 z0:=Tryz.sizeOf0
 v0:=Tryz.zeroValue0
 t3:=Tryz.underlying3
 a3:=Tryz.isAgg3
 z3:=Tryz.sizeOf3
 v3:=Tryz.zeroValue3
 t4:=Tryz.underlying4
 a4:=Tryz.isAgg4
 z4:=Tryz.sizeOf4
 v4:=Tryz.zeroValue4
 t22:=Tryz.underlying45
 a22:=Tryz.isAgg45
 z22:=Tryz.sizeOf45
 v22:=Tryz.zeroValue45
 t40:=Tryz.underlying164
 a40:=Tryz.isAgg164
 z40:=Tryz.sizeOf164
 v40:=Tryz.zeroValue164}
end Go.Proofs
namespace Go.Proofs.YtpebpfiglfmegaaGreat
open Go Tryz List IntKind Region
def eG3:=@length_singleton
def U4(l:List Int):List Value:=l.map (Value.int .i64)
def G6{h}:∀{l:List Int} {a:List Value},V4 h a l↔a=U4 l
 | [],a=>eL8
 | x::l,a=>by
  constructor
  .rintro⟨c,f,rfl,d,e⟩;have b:c=[.int .i64 x]:=d;rw[b,G6.1 e];rfl
  .rintro rfl;exact⟨[.int .i64 x],U4 l,rfl,rfl,G6.2 rfl⟩
def cB9(l:List Int):∀v∈U4 l,v.oneCell'=true:=by
 intro v a;obtain⟨x,_,rfl⟩:=eF2.1 a;rfl
def dA2{l:List Int}{j}(a:j<l.length):(U4 l)[j]?=some (.int .i64 (l.getD j 0)):=by
 simp[U4,eH2,eD1 a,getD]
def ah9{b T}:∀(d:List Value) (c:Nat) (w:World) (a:Array Value),w.heap[b]?=some (.cells a T (0,0))->c+d.length<=a.size ->
  (w.setCells b c d).heap[b]?=some (.cells (a.toList.take c++d++a.toList.drop (c+d.length)).toArray T (0,0))
 | [],c,w,a,hb,_=>by simp[World.setCells,hb]
 | v::d,c,w,a,hb,hl=>by
  simp only[eG6]at hl;have g:=heap_setCell_same w b c a T v hb;rw[World.setCells,ah9 d (c+1) _ _ g (by simp;omega)];have e:a.toList.length=a.size:=dG
  simp only[Array.toList_setIfInBounds,eG6]
  congr 3
  rw[take_set,eD9 om,set_append_right (h:=by simp;omega)];have f:c-(a.toList.take c).length=0:=by simp;omega
  rw[f,drop_set_of_lt om];simp[eG4,eO4,Nat.add_comm 1]
def al7{b}{M:Nat->Prop}(d:M b):∀(c:List Value) (a:Nat) (w:World),t8 M w (w.setCells b a c)
 | [],_,w=>t8.refl w
 | v::c,a,w=>(t8.setCell w ⟨b,a,none⟩ v d).trans (al7 d c (a+1) _)
def t8.drew{M:Nat->Prop}(w):t8 M w w.drew:=(o6.drew w).weaken λ_ _ h=>h.elim
def t8.alloc{M:Nat->Prop}(w)(o:Obj):t8 M w (w.alloc o):=(o6.alloc w o).weaken λ_ _ h=>h.elim
def t8.drewN{M:Nat->Prop}(w q):t8 M w (w.drewN q):=⟨rfl,rfl,rfl,eE8 _,λ_ _ _=>rfl⟩
section
variable {h:Hp} {w:World} {v:Value} {l:List Int}
def cF0(o:B7 h w 3 v l):(v = .slice none 0 0/\l=[])\/∃b c a,v = .slice (some ⟨b,0,none⟩) l.length c/\h b=none/\w.heap[b]?=some (.cells a 3 (0,0))/\l.length<=c/\c<=maxLen/\a.size=c/\a.toList.take l.length=U4 l:=by
 rcases o with n|⟨b,c,a,e,d,f,g,i,j,k⟩
 .exact .inl n
 .refine .inr ⟨b,c,a,e,d,f,g,i,by simpa[A9.sz]using j,?_⟩;have:=G6.1 k;have m:l.length*A9.sz Int=l.length:=eM2 _;rw[m]at this;exact this
def bI4{b c}{a:Array Value}(d:h b=none)(e:w.heap[b]?=some (.cells a 3 (0,0)))(f:l.length<=c)(g:c<=maxLen)(i:a.size=c)(j:a.toList.take l.length=U4 l):
  B7 h w 3 (.slice (some ⟨b,0,none⟩) l.length c) l:=by
 refine .inr ⟨b,c,a,rfl,d,e,f,g,by rw[i];exact(eM2 c).symm,?_⟩;have k:l.length*A9.sz Int=l.length:=eM2 _;rw[k,j];exact G6.2 rfl
def ec4:(Tryz.layI_ren.f 21)=313:=kr
def ec3:(Tryz.layB_ren.f 25)=312:=kr
def bT2:(Tryz.layI_ren.t 3)=3:=kr
def bW4(x)(k:B7 h w 3 v l)(s:l.length<=1000000000)(m:l.Pairwise (· <= ·)):
  p7 prog 312 #[v,.int .i64 x] w λu d=>(u = .tuple #[.int .i64 (l.countP (· < x):Nat),.bool (l.contains x)]/\o6 w d):=by
 rw[<-ec3];rcases cF0 k with⟨rfl,rfl⟩|⟨b,c,a,rfl,n,g,o,p,r,i⟩
 .apply(Any.slices_BinarySearch_int_empty Tryz.layB none 0 x w).mono;rintro e d ⟨rfl,rfl⟩;exact⟨_,rfl,rfl,t8.refl _⟩
 .refine(Any.slices_BinarySearch_int Tryz.layB b 0 l.length c l x w (eE8 _) om ?_ (by rw[eE4];exact m)).mono ?_
  .intro j f;rw[eH5,eL6 w b j a _ (0,0) g];have:=dA2 f;rw[<-i,eM1,fi f]at this;simpa using this
  .rintro e d ⟨rfl,q,rfl⟩;rw[eE4];exact⟨_,rfl,rfl,t8.drewN _ _⟩
def bS8(x i c1)(w0:World)(F:w=w0.alloc (.cells #[.int .i64 x] 3))(ho:B7 h w0 3 v l)(hi:i<=l.length)(hl:l.length<=1000000000)(hw:E6 h (n8 w0)):
  p7 prog 313 #[v,.int .i64 i,.slice (some ⟨w0.heap.size,0,none⟩) 1 c1] w λu o=>(B7 h o 3 u (l.take i++x::l.drop i)/\t8 (B0 v) w0 o/\F4 w0 v u):=by
 rw[<-ec4];have Y:t8 (B0 v) w0 w:=by rw[F];exact t8.alloc _ _
 have E:w.heap[w0.heap.size]?=some (.cells #[.int .i64 x] 3 (0,0)):=by rw[F];exact eH3 w0 _
 have aA:w.heap.size=w0.heap.size+1:=by rw[F];simp
 have D:∀(j:Nat) (u:Value),[Value.int .i64 x][j]?=some u->w.cell? ⟨w0.heap.size,0+j,none⟩=some u:=by
  intro j u t;rw[eH5,eL6 w _ j _ _ (0,0) E];simpa using t
 have z:∀v∈[Value.int .i64 x],v.oneCell'=true:=by simp[Value.oneCell']
 have hE:o6 w0 w:=by rw[F];exact o6.alloc _ _
 have ak:B7 h w 3 v l:=ho.ext hE;have am:E6 h (n8 w):=A3 hw (b7 hE);have s:∀(o:World) (d:Array Value) (n c:Nat),o6 w o->o.heap[w.heap.size]?=some (.cells d 3 (0,0))->n=l.length+1->n<=c->c<=maxLen->d.size=c ->
   d.toList.take n=U4 (l.take i++x::l.drop i) ->
   B7 h o 3 (.slice (some ⟨w.heap.size,0,none⟩) n c) (l.take i++x::l.drop i)/\t8 (B0 v) w0 o/\F4 w0 v (.slice (some ⟨w.heap.size,0,none⟩) n c):=by
  intro o d n c he W hn hc ag hs B;have q:(l.take i++x::l.drop i).length=n:=by simp;omega
  refine⟨?_,Y.trans (he.weaken λ_ _ h=>h.elim),λb hb=>by simp[B0,Value.ownBlock]at hb;exact .inr om⟩;have:=bI4 (h:=h) (w:=o) (l:=l.take i++x::l.drop i) (aT4 am (eE8 _)) W om ag hs (by rw[q];exact B);rw[q]at this;exact this
 rcases cF0 ak with⟨rfl,rfl⟩|⟨b,c,g,rfl,h1,O,h3,h4,Z,h6⟩
 .have aj:i=0:=by simpa using hi
  subst aj;apply(Any2.slices_Insert_int_end_grow Tryz.layI none 0 0 w0.heap.size 0 1 c1 [] [.int .i64 x] w om om om om rfl rfl (λ_=>rfl) (λa ha=>by cases ha) D z).mono;rintro e o ⟨rfl,rfl⟩;refine⟨_,rfl,s _ _ _ _ ((o6.drew w).trans (o6.alloc _ _)) (by rw[bT2];exact eH3 w.drew _) rfl (grownCap_ge _ _ _ _) (grownCap_le_maxLen _ _ _ _ dR) ?_ ?_⟩
  .have:=grownCap_ge w 1 0 (Tryz.layI_ren.t 3);rw[bT2]at this ⊢;simp[size_zeroCells,Value.cells]at this ⊢;omega
  .simp[U4]
 .have f:(U4 l).length=l.length:=by simp[U4]
  have A:∀j,w.cell? ⟨b,j,none⟩=g[j]?:=λj=>eL6 w b j g _ (0,0) O;have p:∀(j:Nat) (u:Value),(U4 l)[j]?=some u->w.cell? ⟨b,0+j,none⟩=some u:=by
   intro j u t;rw[eH5,A];rw[<-h6,eM1]at t;split at t
   .simpa using t
   .cases t
  have C:∀j,j<c->(w.cell? ⟨b,0+j,none⟩).isSome=true:=by
   intro j t;rw[eH5,A];simp[Z,t]
  have U:∀j,w.frozen? ⟨b,j,none⟩=false:=λj=>by simp[World.frozen?,O]
  have B:g.toList.length=c:=by simpa using Z
  have P:w0.heap.size≠b:=by
   intro e;have:=ho.lt (b:=b) (by simp[B0,Value.ownBlock]);omega
  have r:∀(o:World) (d:Array Value),t8 (λk=>k=b) w o->o.heap[b]?=some (.cells d 3 (0,0))->l.length+1<=c->d.size=c ->
    d.toList.take (l.length+1)=U4 (l.take i++x::l.drop i) ->
    B7 h o 3 (.slice (some ⟨b,0,none⟩) (l.length+1) c) (l.take i++x::l.drop i)/\t8 (B0 (.slice (some ⟨b,0,none⟩) l.length c)) w0 o/\F4 w0 (.slice (some ⟨b,0,none⟩) l.length c) (.slice (some ⟨b,0,none⟩) (l.length+1) c):=by
   intro o d hm W hc hs B;have q:(l.take i++x::l.drop i).length=l.length+1:=by simp;omega
   refine⟨?_,Y.trans (hm.weaken λk _ hk=>by simp[B0,Value.ownBlock,hk]),λk hk=>.inl (by simpa[B0,Value.ownBlock]using hk)⟩;have:=bI4 (h:=h) (w:=o) (l:=l.take i++x::l.drop i) (c:=c) h1 W om h4 hs (by rw[q];exact B);rw[q]at this;exact this
  have m:U4 (l.take i++x::l.drop i)=(U4 l).take i ++ .int .i64 x::(U4 l).drop i:=by simp[U4]
  by_cases hin:i=l.length
  .subst hin;by_cases hroom:l.length+1<=c
   .refine(Any2.slices_Insert_int_end_room Tryz.layI b 0 l.length c w0.heap.size 0 1 c1 [.int .i64 x] w om hroom h4 rfl (λj t=>?_) (λj t=>U _) D z).mono ?_
    .rw[eH5];have:=C (l.length+j) om
     rwa [eH5]at this
    .rintro e o ⟨rfl,rfl⟩;have W:=ah9 [Value.int .i64 x] (0+l.length) w g O (by simp;omega);refine⟨_,rfl,r _ _ (al7 (M:=λk=>k=b) rfl _ _ _) W hroom ?_ ?_⟩
     .simp[Z];omega
     .rw[m,eH5,h6];have L:(U4 l).take l.length=U4 l:=by rw[<-f,eE4]
      have e2:(U4 l).drop l.length=[]:=by rw[<-f,eN6]
      rw[L,e2];have N:(U4 l++[Value.int .i64 x]).length=l.length+1:=by simp[f]
      simp only[];rw[<-N,eN4]
   .refine(Any2.slices_Insert_int_end_grow Tryz.layI (some ⟨b,0,none⟩) l.length c w0.heap.size 0 1 c1 (U4 l) [.int .i64 x] w om h3 om om f rfl (λh=>by cases h) (λa ha j u t=>?_) D z).mono ?_
    .obtain rfl:=eF3 ha;rw[Addr.add_lit];exact p j u t
    .rintro e o ⟨rfl,rfl⟩;have K:=grownCap_ge w (l.length+1) c (Tryz.layI_ren.t 3);refine⟨_,rfl,s _ _ _ _ ((o6.drew w).trans (o6.alloc _ _)) (by rw[bT2];exact eH3 w.drew _) rfl K (grownCap_le_maxLen _ _ _ _ (by simp only[maxLen];omega)) ?_ ?_⟩
     .rw[bT2]at K ⊢;simp[size_zeroCells,Value.cells,f]at K ⊢;omega
     .rw[m];have L:(U4 l).take l.length=U4 l:=by rw[<-f,eE4]
      have e2:(U4 l).drop l.length=[]:=by rw[<-f,eN6]
      rw[L,e2];simp only[Array.toList_append];rw[eJ6 (by simp[f])];rw[eI0 (by simp[f])]
  .have X:i<l.length:=om
   by_cases hroom:l.length+1<=c
   .refine(Any2.slices_Insert_int_shift Tryz.layI b 0 l.length c i w0.heap.size 0 1 c1 (U4 l) [.int .i64 x] w X om hroom h4 P f rfl p (λj t=>C j om) (λj _=>U _) D (cB9 l) z
     3 3 1 c (by simp[World.shape?,E]) (by simp[World.shape?,O,Z]) om (by simp[World.frozen?,E]) (by simp[World.frozen?,E])).mono ?_
    rintro e o ⟨rfl,rfl⟩;have J:((U4 l).drop i).length=l.length-i:=by simp[f]
    have H:=ah9 ((U4 l).drop i) (0+(i+1)) w.drew g O (by rw[J];omega);have I:=ah9 [Value.int .i64 x] (0+i) _ _ H (by simp[J];omega);refine⟨_,rfl,r _ _ ((t8.drew w).trans ((al7 (M:=λk=>k=b) rfl _ _ _).trans (al7 (M:=λk=>k=b) rfl _ _ _))) I hroom ?_ ?_⟩
    .simp[J];omega
    .rw[m];simp only[eH5,eG3];have L:(U4 l).take i=g.toList.take i:=by rw[<-h6,take_take];congr 1;omega
     have e3:(g.toList.take (i+1)).length=i+1:=by rw[eE5,B];omega
     have e4:(g.toList.take (i+1)++(U4 l).drop i++g.toList.drop (i+1+((U4 l).drop i).length)).take i=g.toList.take i:=by
      rw[eG4,eJ6 om,take_take];congr 1;omega
     have e5:(g.toList.take (i+1)++(U4 l).drop i++g.toList.drop (i+1+((U4 l).drop i).length)).drop (i+1)=(U4 l).drop i++g.toList.drop (i+1+((U4 l).drop i).length):=by
      rw[eG4,drop_append_of_le_length om,drop_of_length_le om,eL4]
     rw[e4,e5,L];have N:(g.toList.take i++[Value.int .i64 x]++(U4 l).drop i).length=l.length+1:=by simp[f];omega
     rw[<-eG4,<-N,eN4];simp
   .apply(Any2.slices_Insert_int_grow Tryz.layI b 0 l.length c i w0.heap.size 0 1 c1 (U4 l) [.int .i64 x] w X om h3 om om f rfl p D (cB9 l) z).mono;rintro e o ⟨rfl,rfl⟩;have K:=grownCap_ge w (l.length+1) c (Tryz.layI_ren.t 3);have V:=grownCap_le_maxLen w (l.length+1) c (Tryz.layI_ren.t 3) (by simp only[maxLen];omega);generalize grownCap w (l.length+1) c (Tryz.layI_ren.t 3)=G at K V;have an:(Value.int .i64 0).cells.size=1:=rfl;generalize Q:((U4 l).take i).toArray++Builtin.zeroCells (Value.int .i64 0).cells (l.length+1-i)++Builtin.zeroCells (Value.int .i64 0).cells (G-(l.length+1))=y;have S:y.size=G:=by
     rw[<-Q];simp[size_zeroCells,an,f];omega
    have T:y.toList.take i=(U4 l).take i:=by
     rw[<-Q];simp only[Array.toList_append,eG4];rw[eJ6 (by simp[f];omega),eI0 (by simp;omega)]
    have R:y.toList.length=G:=by simpa using S
    have ah:((w.alloc (.cells y (Tryz.layI_ren.t 3))).drew).heap[w.heap.size]?=some (.cells y 3 (0,0)):=by rw[bT2];exact eH3 w _
    have J:((U4 l).drop i).length=l.length-i:=by simp[f]
    have H:=ah9 [Value.int .i64 x] i _ _ ah (by simp;omega);have I:=ah9 ((U4 l).drop i) (i+1) _ _ (show((((w.alloc (.cells y (Tryz.layI_ren.t 3))).drew).setCells w.heap.size i [Value.int .i64 x]).drew).heap[w.heap.size]?=_ from H) (by simp[J];omega);refine⟨_,rfl,s _ _ _ _ ?_ I rfl K V ?_ ?_⟩
    .refine t8.ext_of (o6.alloc w (.cells y (Tryz.layI_ren.t 3))) (M:=λk=>k=w.heap.size) ?_ (λk hk=>om);exact(t8.drew _).trans ((al7 (M:=λk=>k=w.heap.size) rfl _ _ _).trans ((t8.drew _).trans (al7 (M:=λk=>k=w.heap.size) rfl _ _ _)))
    .simp[J];omega
    .rw[m];simp only[eG3];have e3:(y.toList.take i++[Value.int .i64 x]).length=i+1:=by simp[R];omega
     have e4:(y.toList.take i++[Value.int .i64 x]++y.toList.drop (i+1)).take (i+1)=y.toList.take i++[Value.int .i64 x]:=by
      rw[<-e3,eN4]
     rw[e4,T];have N:((U4 l).take i++[Value.int .i64 x]++(U4 l).drop i).length=l.length+1:=by simp[f];omega
     rw[<-N,eN4];simp
end
def dR0(v x)(l:List Int)(w)(hv:R (n8 w) v (x::l))(z:l.length<=1000000000):
  p7 prog 337 #[v] w λu i=>(u=(l.foldl min x)/\i=w):=by
 apply y5 [v] func337 rfl;have j:=hv.isS;have h:=hv.vlen;simp only[eG6]at h;have s:decide (((l.length+1:Nat):Int)<1)=false:=by simp;omega
 have o:=O4 (P:=prog) (t:=3) hv (n7 _) (k:=0) (x:=x) (by rfl) K7;simp only[P8,Y7,E2,I6,unV,bA8,A6,aC3,G7,ad8,L6.val,simprocAttr,j,h,s,hv.inS (k:=0) dG,o];refine B4 [0] (σ:=Nat) (λk f i=>f 4=(k+1:Nat)/\k<=l.length/\f 3=((l.take k).foldl min x)/\i=w) (λk=>l.length-k) 0 ?_ ?_
 .simp only[C9,simprocAttr];exact⟨by first|rfl|trivial,eE2 _,by simp[L6.val],tt⟩
 .rintro k f i ⟨e0,_⟩ ⟨r,y,q,rfl⟩;simp only[P8,Y7,E2,I6,unV,bA8,A6,aC3,G7,ad8,L6.val,simprocAttr,r,e0,j,h];refine B2 (λm=>?_) (λm=>?_)
  .have e:k<l.length:=by simp at m;omega
   have c:=hv.inS (k:=k+1) (by simp;omega);have d:=O4 (P:=prog) (t:=3) hv (n7 _) (k:=k+1) (x:=l[k]) (by simp[e]) K7;have p:=bR2 min x l k e;simp only[P8,Y7,E2,I6,unV,bA8,A6,aC3,G7,ad8,L6.val,simprocAttr,r,q,e0,j,h,c,d];have g:∀a b:Int,(if b<a then b else a)=min a b:=λa b=>by
    simp only[Int.min_def];split<;>split<;>omega
   refine⟨k+1,om,by rw[I9 (k+1)],om,by rw[p,g],tt⟩
  .have n:k=l.length:=by simp at m;omega
   subst n;simp only[P8,Y7,E2,I6,unV,bA8,A6,aC3,G7,ad8,L6.val,simprocAttr,q];apply o8 results337;simp only[C9,simprocAttr];rw[eE4];exact⟨tt,tt⟩
def cM3(v)(l:List Int)(w)(hv:R (n8 w) v l)(E:l.length<=1000000000):
  p7 prog 338 #[v] w λu s=>(B7 (n8 w) s 3 u l/\o6 w s):=by
 apply y5 [v] func338 rfl;have D:=hv.isS;have y:E2 prog .eql 45 v ()=some (cE2 v):=by
  obtain⟨a,n,c,b,_⟩:=hv;simp at b;subst b;simp[E2,Go.Proofs.YtpebpfiglfmegaaGreat.isS,er4]
 obtain⟨G,I,i,f,g,z⟩:=ec6 (P:=prog) (w:=w) (h:=n8 w) (α:=Int) V8 (n7 _);obtain⟨H,J,t,p,o,B⟩:=W6 (P:=prog) (e:=45) V8 rfl f hv (by simp;omega) (by simp;omega) (b7 g);simp only[P8,simprocAttr,y];refine B2 (λr=>?_) (λr=>?_)
 .simp only[P8,simprocAttr];apply o8 results338;simp only[C9,simprocAttr];obtain⟨a,n,c,b,F,A,q,k,j⟩:=hv;simp at b;subst b;cases a with
  | some a=>simp[cE2]at r
  | none=>
   have d:q=[]:=by
    cases q with
    | nil=>rfl
    | cons x _=>obtain⟨C,e,_⟩:=j 0 x rfl;cases e
   subst d;have:=Q9 k;have m:l=[]:=by
    cases l with
    | nil=>rfl
    | cons _ _=>simp[A9.sz]at this
   subst m;exact⟨B7.nil _ _ _,t8.refl _⟩
 .simp only[P8,simprocAttr,i,t];apply o8 results338;simp only[C9,simprocAttr];exact⟨by simpa using p,f.ext2 g o⟩
def GR(h:Hp)(d:Value)(nx e:List (List Int)):Prop:=
 ∃a b c,d = .pointer (some ⟨a,0,none⟩)/\P4 h ⟨a,0,none⟩=some b/\P4 h ⟨a,1,none⟩=some c/\R h b nx/\R h c e
def GR.mono{h k pg}{nx b:List (List Int)}(j:GR h pg nx b)(a:E6 h k):GR k pg nx b:=by
 obtain⟨c,l,m,e,d,f,g,i⟩:=j;exact⟨c,l,m,e,K9 a d,K9 a f,A9.mono a g,A9.mono a i⟩
def br8(pg)(nx h:List (List Int))(a w)(g:GR (n8 w) pg nx h):
  p7 prog 258 #[pg,.int .i64 a] w λu i=>(u = .bool (J2 nx.length a)/\i=w):=by
 obtain⟨e,l,m,rfl,f,j,d,k⟩:=g;refine y5 [.pointer (some ⟨e,0,none⟩),a] func258 rfl ?_;have c:=M0 (P:=prog) (t:=261) f (n7 _) ag3;by_cases ha:0<=a
 .have b:decide (0<=a)=true:=by simpa using ha
  simp only[P8,Y7,E2,I6,ad8,simprocAttr,b,c,d.isS,d.vlen];apply o8 results258;simp only[C9,simprocAttr];exact⟨by simp[J2,b],tt⟩
 .have b:decide (0<=a)=false:=by simpa using ha
  simp only[P8,Y7,E2,I6,simprocAttr,b];apply o8 results258;simp only[C9,simprocAttr];exact⟨by simp[J2,b],tt⟩
def dM1(pg)(nx f:List (List Int))(w)(e:GR (n8 w) pg nx f):
  p7 prog 318 #[pg] w λu g=>(u=(nx.length:Nat)/\g=w):=by
 obtain⟨c,j,k,rfl,d,h,b,i⟩:=e;refine y5 [.pointer (some ⟨c,0,none⟩)] func318 rfl ?_;have a:=M0 (P:=prog) (t:=261) d (n7 _) ag3;simp only[P8,Y7,E2,ad8,simprocAttr,a,b.isS,b.vlen];exact o8 results318 ⟨rfl,rfl⟩
def dr5(pg)(nx n:List (List Int))(a w)(o:GR (n8 w) pg nx n)(p:n.length=nx.length)(y:∀x∈nx,x.length<=1000000000):
  p7 prog 319 #[pg,.int .i64 a] w λu g=>(B7 (n8 w) g 3 u (F1 nx a)/\o6 w g):=by
 have i:=o;obtain⟨q,F,G,rfl,v,B,f,C⟩:=o;refine y5 [.pointer (some ⟨q,0,none⟩),a] func319 rfl ?_;have j:=M0 (P:=prog) (t:=261) v (n7 _) ag3;have D:=f.isS;have E:=f.vlen;simp only[P8,Y7,simprocAttr];apply z6 (br8 _ nx n a w i);rintro u g ⟨rfl,rfl⟩;have d:nx.length=nx.length:=rfl;by_cases ha:J2 nx.length a=true
 .have h:J2 nx.length a=true:=by rw[d];exact ha
  obtain⟨e,k⟩:=aE9 h;have s:decide (0<=a)=true:=by simpa using(C0.1 ha).1
  obtain⟨x,l,m⟩:=f.row e;have c:=M0 (P:=prog) (t:=45) m (n7 _) ao0;simp only[P8,Y7,unV,A6,simprocAttr,ha,j,f.inS k,s,c];apply z6 (cM3 x _ g l (y _ (eF7 e)));rintro r H ⟨z,A⟩;simp only[P8,simprocAttr];exact o8 results319 ⟨z,A⟩
 .have b:J2 nx.length a=false:=by simpa using ha
  simp only[P8,Y7,unV,simprocAttr,b];apply o8 results319;simp only[C9,simprocAttr];rw[bw1 (by rw[d];exact b)];exact⟨B7.nil _ _ _,t8.refl _⟩
structure GX (h:Hp) (w:World) (gb:Nat) (cs:Array Value) (vn:Value) (us:List Raw) (nx:List (List Int)) (vp:Value) (us':List Raw) (pv:List (List Int)):Prop where
 free:h gb=none
 cell:w.heap[gb]?=some (.cells cs 307 (0,0))
 rn:E1 h w 45 3 vn us nx
 rp:E1 h w 45 3 vp us' pv
 gn:¬Q6 vn us gb
 gp:¬Q6 vp us' gb
 dis:∀b,Q6 vn us b->¬Q6 vp us' b
section
variable {h:Hp} {w:World} {gb:Nat} {cs:Array Value} {vn vp:Value} {us us':List Raw} {nx pv:List (List Int)}
def GX.swap(a:GX h w gb cs vn us nx vp us' pv):GX h w gb cs vp us' pv vn us nx:=
 ⟨a.free,a.cell,a.rp,a.rn,a.gp,a.gn,λb c d=>a.dis b d c⟩
def GX.lt(a:GX h w gb cs vn us nx vp us' pv):gb<w.heap.size:=(eD5.1 a.cell).1
def GX.mod{M:Nat->Prop}{w'}(a:GX h w gb cs vn us nx vp us' pv)(hm:t8 M w w')(c:∀b,(b=gb\/Q6 vn us b\/Q6 vp us' b)->¬M b):GX h w' gb cs vn us nx vp us' pv:=
 ⟨a.free,(hm.block gb a.lt (c gb (.inl rfl))).trans a.cell,a.rn.mod hm λb d=>c b (.inr (.inl d)),a.rp.mod hm λb d=>c b (.inr (.inr d)),a.gn,a.gp,a.dis⟩
def GX.set{w' w''}(c:GX h w gb cs vn us nx vp us' pv){i}{u:Raw}(n:us[i]?=some u){u'}{xs:List Int}
  (hm:t8 (B0 u.v) w w') (q:B7 h w' 3 u' xs) (hv:F4 w u.v u') (g:t8 (B0 vn) w' w'') (l:B7 h w'' 45 vn (us.set i ⟨u'⟩)) :
  GX h w'' gb cs vn (us.set i ⟨u'⟩) (nx.set i xs) vp us' pv:=by
 have k:u∈us:=eF7 n;have f:∀b,Q6 vn (us.set i ⟨u'⟩) b->Q6 vn us b\/w.heap.size<=b:=by
  rintro b (a|⟨x,m,a⟩)
  .exact .inl (.inl a)
  .rcases eM5 m with e|e
   .exact .inl (.inr ⟨x,e,a⟩)
   .subst e;rcases hv b a with j|j
    .exact .inl (.inr ⟨u,k,j⟩)
    .exact .inr j
 have o:∀b,B0 u.v b->Q6 vn us b:=λb a=>.inr ⟨u,k,a⟩;have p:∀b,B0 vn b->Q6 vn us b:=λb a=>.inl a;refine⟨c.free,?_,c.rn.set n hm q hv g l,?_,?_,c.gp,?_⟩
 .have j:=g.block gb (eK3 c.lt hm.size) (λa=>c.gn (p _ a));exact j.trans ((hm.block gb c.lt (λa=>c.gn (o _ a))).trans c.cell)
 .exact(c.rp.mod hm λb a d=>c.dis b (o b d) a).mod g λb a d=>c.dis b (p b d) a
 .intro a;rcases f gb a with e|e
  .exact c.gn e
  .have:=c.lt;omega
 .intro b a d;rcases f b a with e|e
  .exact c.dis b e d
  .have:=c.rp.lt d;omega
def GX.read(a:GX h w gb #[vn,vp] vn us nx vp us' pv)(hw:E6 h (n8 w)):GR (n8 w) (.pointer (some ⟨gb,0,none⟩)) nx pv:=by
 refine⟨gb,vn,vp,rfl,?_,?_,a.rn.ro hw,a.rp.ro hw⟩
 .rw[<-ao3,eL6 w gb 0 _ _ (0,0) a.cell];rfl
 .rw[<-ao3,eL6 w gb 1 _ _ (0,0) a.cell];rfl
end
def aU9{P}{α:Type}[A9 α]{h w T T' t v}{us:List Raw}{a:List (List α)}(f:E1 h w T T' v us a){i}{u:Raw}(e:us[i]?=some u)(g:L7 P t=false):
  (Instr.loadAt t (I2 v i)).run P w = .ok u.v w:=by
 obtain⟨j,⟨d,_⟩,c⟩:=f.outer.get e;have:=c 0 u.v (by rw[d];rfl);rw[O9]at this;have b:(i*A9.sz Raw)=i:=eM2 i;rw[b]at this;exact ab0 g this
def cj3{P:Program}{h w t v u'}{us:List Raw}(f:B7 h w 45 v us){i}(e:i<us.length)(d:isS u'=true){b:TypeInfo}(a:P.info? t=some b)(g:b.size=1):
  ∃c,(Instr.storeAt t (I2 v i) u').run P w = .ok () c/\B7 h c 45 v (us.set i ⟨u'⟩)/\t8 (B0 v) w c/\c.heap.size=w.heap.size:=
 G4 f rfl e (y:=(⟨u'⟩:Raw)) ⟨rfl,aa9 d⟩ (G3 d) a g
def GO(h:Hp)(w:World)(f:Value)(nx g:List (List Int))(M:Nat->Prop):Prop:=
 ∃c d us e a,f = .pointer (some ⟨c,0,none⟩)/\GX h w c #[d,e] d us nx e a g/\∀b,M b↔b=c\/Q6 d us b\/Q6 e a b
def GO.read{h w pg}{nx a:List (List Int)}{M:Nat->Prop}(b:GO h w pg nx a M)(hw:E6 h (n8 w)):GR (n8 w) pg nx a:=by
 obtain⟨e,f,us,g,d,rfl,c,_⟩:=b;exact c.read hw
def GO.free{h w pg}{nx f:List (List Int)}{M:Nat->Prop}(e:GO h w pg nx f M):∀b,M b->h b=none:=by
 obtain⟨i,j,us,k,g,rfl,c,d⟩:=e;intro b a;rcases(d b).1 a with rfl|a|a
 .exact c.free
 .exact c.rn.free a
 .exact c.rp.free a
def GO.mod{h w w' pg}{nx d:List (List Int)}{M N:Nat->Prop}(g:GO h w pg nx d M)(hm:t8 N w w')(hN:∀b,M b->¬N b):GO h w' pg nx d M:=by
 obtain⟨e,j,us,k,a,rfl,i,c⟩:=g;exact⟨e,j,us,k,a,rfl,i.mod hm λb f=>hN b ((c b).2 f),c⟩
structure bN7 (l:List (List Int)):Prop where
 le:∀x∈l,x.Pairwise (· < ·)
 len:∀x∈l,x.length<=100000000
def bN7.le'{l:List (List Int)}(h:bN7 l){x:List Int}(a:x∈l):x.Pairwise (· <= ·):=(h.le x a).imp λh=>Int.le_of_lt h
def dM8(h pg)(nx S:List (List Int))(M:Nat->Prop)(a b w)(hg:GO h w pg nx S M)(hw:E6 h (n8 w))(hl:S.length=nx.length)(ad:bN7 nx)(ae:bN7 S):
  p7 prog 292 #[pg,.int .i64 a,.int .i64 b] w λu w'=>(u = .bool (aD3 nx a b)/\∃M',GO h w' pg (cK4 nx a b) (cK5 nx S a b) M'/\t8 M w w'/\∀b,M' b->M b\/w.heap.size<=b):=by
 have ap:=hg.read hw;obtain⟨p,B,us,T,A,rfl,G,L⟩:=hg;refine y5 [.pointer (some ⟨p,0,none⟩),a,b] func292 rfl ?_;simp only[P8,Y7,simprocAttr];apply z6 (br8 _ nx S a w ap);rintro u w' ⟨rfl,rfl⟩;have I:aD3 nx a b=false->∀c,o6 w' c->∃M',GO h c (.pointer (some ⟨p,0,none⟩)) (cK4 nx a b) (cK5 nx S a b) M'/\t8 M w' c/\∀b,M' b->M b\/w'.heap.size<=b:=by
  intro g c he;refine⟨M,?_,he.weaken λ_ _ h=>h.elim,λb f=>.inl f⟩;unfold cK4 cK5;rw[g];exact⟨p,B,us,T,A,rfl,G.mod he λ_ _ h=>h.elim,L⟩
 by_cases ha:J2 nx.length a=true
 .have Z:(!J2 nx.length a)=false:=by rw[ha];rfl
  simp only[P8,unV,simprocAttr,Z];apply z6 (br8 _ nx S b w' ap);rintro u w ⟨rfl,rfl⟩;by_cases f:J2 nx.length b=true
  .have aa:(!J2 nx.length b)=false:=by rw[f];rfl
   have c0:w.cell? ⟨p,0,none⟩=some B:=by rw[eL6 w p 0 _ _ (0,0) G.cell];rfl
   have aX:=G.rn.outer.isS;obtain⟨H,a1⟩:=aE9 ha;have a0:us.length=nx.length:=G.rn.len;have Y:=G.rn.outer.inS (k:=a.toNat) om;have d0:decide (0<=a)=true:=by simpa using(C0.1 ha).1
   obtain⟨J,l⟩:∃J,us[a.toNat]?=some J:=⟨us[a.toNat]' om,eD1 om⟩;have au:=G.rn.row _ _ _ l H;have la:=aU9 (P:=prog) (t:=45) G.rn l ao0;have F:=eF7 H;simp only[P8,Y7,unV,A6,simprocAttr,aa,ab0 (P:=prog) (t:=261) ag3 c0,Y,d0,la];apply z6 (bW4 b au (eD7 (ad.len _ F) om) (ad.le' F));rintro u o ⟨rfl,D⟩;by_cases hc:(F1 nx a).contains b=true
   .simp only[P8,simprocAttr,hc];apply o8 results292;simp only[C9,simprocAttr];have g:aD3 nx a b=false:=by simp only[aD3,hc,Bool.not_true,Bool.and_false]
    exact⟨by rw[g],I g o D⟩
   .have ao:(F1 nx a).contains b=false:=by simpa using hc
    have V:aD3 nx a b=true:=by simp only[aD3,ao,ha,f,Bool.not_false,Bool.and_true]
    have ay:E6 h (n8 o):=A3 hw (b7 D);simp only[P8,simprocAttr,ao];apply C4 (λc=>t8 (B0 J.v) o.drew c) 16 (A8 [0,1,2,3,4,5,6,7,8,9,10,11,12,13,14,15]);have d:=(G.mod D λ_ _ h=>h.elim).mod (o6.drew o) λ_ _ h=>h.elim;have av:∀b,B0 J.v b->Q6 B us b:=λb f=>.inr ⟨J,eF7 l,f⟩;have aC:∀c,t8 (B0 J.v) o.drew c->(Instr.loadAt 261 (.pointer (some ⟨p,0,none⟩))).run prog c = .ok B c:=λc s=>by
     apply ab0 ag3;rw[eL6 c p 0 _ _ (0,0) ((s.block p d.lt (λf=>d.gn (av _ f))).trans d.cell)];rfl
    have aL:∀c,t8 (B0 J.v) o.drew c->(Instr.loadAt 45 (I2 B a.toNat)).run prog c = .ok J.v c:=λc s=>by
     have ho:=d.rn.outer.mod s (λb f j=>d.rn.off _ _ l b j f);obtain⟨es,⟨he,_⟩,X⟩:=ho.get l;have:=X 0 J.v (by rw[he];rfl);rw[O9]at this;have r:(a.toNat*A9.sz Raw)=a.toNat:=eM2 _;rw[r]at this;exact ab0 ao0 this
    simp only[D7,A8,P8,Y7,simprocAttr];refine⟨B,aC,?_⟩;simp only[D7,P8,Y7,simprocAttr];refine⟨B,aC,?_⟩;simp only[D7,P8,Y7,A6,simprocAttr,Y,d0];refine⟨J.v,aL,?_⟩;have aH:=aC6 (P:=prog) (w:=o.drew) (t:=45) dG4 aN0 (by rw[bx6];omega) (by rw[bx6];omega) (x:=b) (by rw[bx6];rfl);simp only[D7,P8,simprocAttr,aH,F2,Value.cells];refine⟨t8.alloc _ _,?_⟩;have ab:=d.rn.row _ _ _ l H;apply z6 (bS8 b _ 1 o.drew rfl ab countP_le_length (eD7 (ad.len _ F) om) (A3 ay (b7 (o6.drew o))));rintro u1 w3 ⟨aq,O,aw⟩;refine⟨O,?_⟩;have aA:=d.rn.outer.mod O (λb f j=>d.rn.off _ _ l b j f);obtain⟨w4,s1,s2,s3,s4⟩:=cj3 (P:=prog) (t:=45) aA (i:=a.toNat) om aq.isS (B1 av6).choose_spec.1 (by rw[<-F8 (B1 av6).choose_spec.1];exact bK0);have z:=d.set l O aq aw s3 s2;have af:t8 M o.drew w4:=(O.weaken λk _ e=>(L k).2 (.inr (.inl (av k e)))).trans (s3.weaken λk _ e=>(L k).2 (.inr (.inl (.inl e))));have az:E6 h (n8 w4):=G8 (A3 ay (b7 (o6.drew o))) af λk e=>by
     rcases(L k).1 e with rfl|e|e
     .exact G.free
     .exact G.rn.free e
     .exact G.rp.free e
    have e1:w4.cell? ⟨p,1,none⟩=some T:=by rw[eL6 w4 p 1 _ _ (0,0) z.cell];rfl
    have aY:=z.rp.outer.isS;have j:J2 S.length b=true:=by rw[hl];exact f
    obtain⟨ag,a2⟩:=aE9 j;have aP:A.length=S.length:=z.rp.len;have E:=z.rp.outer.inS (k:=b.toNat) om;have d1:decide (0<=b)=true:=by simpa using(C0.1 f).1
    obtain⟨K,m⟩:∃K,A[b.toNat]?=some K:=⟨A[b.toNat]' om,eD1 om⟩;have ac:=z.rp.row _ _ _ m ag;have lb:=aU9 (P:=prog) (t:=45) z.rp m ao0;have y:=eF7 ag;simp only[D7,P8,Y7,A6,simprocAttr,Y,d0,s1,ab0 (P:=prog) (t:=261) ag3 e1,E,d1,lb];apply z6 (bW4 a ac (eD7 (ae.len _ y) om) (ae.le' y));rintro u C ⟨rfl,N⟩;have aJ:E6 h (n8 C):=A3 az (b7 N);simp only[P8,simprocAttr];apply C4 (λc=>t8 (B0 K.v) C.drew c) 16 (A8 [0,1,2,3,4,5,6,7,8,9,10,11,12,13,14,15]);have n:=(z.mod N λ_ _ h=>h.elim).mod (o6.drew C) λ_ _ h=>h.elim;have U:∀b,B0 K.v b->Q6 T A b:=λb f=>.inr ⟨K,eF7 m,f⟩;have aD:∀c,t8 (B0 K.v) C.drew c->(Instr.loadAt 261 (.pointer (some ⟨p,1,none⟩))).run prog c = .ok T c:=λc s=>by
     apply ab0 ag3;rw[eL6 c p 1 _ _ (0,0) ((s.block p n.lt (λf=>n.gp (U _ f))).trans n.cell)];rfl
    have aM:∀c,t8 (B0 K.v) C.drew c->(Instr.loadAt 45 (I2 T b.toNat)).run prog c = .ok K.v c:=λc s=>by
     have ho:=n.rp.outer.mod s (λb f j=>n.rp.off _ _ m b j f);obtain⟨es,⟨he,_⟩,X⟩:=ho.get m;have:=X 0 K.v (by rw[he];rfl);rw[O9]at this;have r:(b.toNat*A9.sz Raw)=b.toNat:=eM2 _;rw[r]at this;exact ab0 ao0 this
    simp only[D7,A8,P8,Y7,simprocAttr];refine⟨T,aD,?_⟩;simp only[D7,P8,Y7,simprocAttr];refine⟨T,aD,?_⟩;simp only[D7,P8,Y7,A6,simprocAttr,E,d1];refine⟨K.v,aM,?_⟩;have an:=aC6 (P:=prog) (w:=C.drew) (t:=45) dG4 aN0 (by rw[bx6];omega) (by rw[bx6];omega) (x:=a) (by rw[bx6];rfl);simp only[D7,P8,simprocAttr,an,F2,Value.cells];refine⟨t8.alloc _ _,?_⟩;have R:=n.rp.row _ _ _ m ag;apply z6 (bS8 a _ 1 C.drew rfl R countP_le_length (eD7 (ae.len _ y) om) (A3 aJ (b7 (o6.drew C))));rintro u2 w7 ⟨ar,Q,ax⟩;refine⟨Q,?_⟩;have aB:=n.rp.outer.mod Q (λb f j=>n.rp.off _ _ m b j f);obtain⟨w8,t1,t2,t3,t4⟩:=cj3 (P:=prog) (t:=45) aB (i:=b.toNat) om ar.isS (B1 av6).choose_spec.1 (by rw[<-F8 (B1 av6).choose_spec.1];exact bK0);have aK:=(n.swap.set m Q ar ax t3 t2).swap;simp only[D7,P8,Y7,A6,simprocAttr,E,d1,t1];apply o8 results292;simp only[C9,simprocAttr];refine⟨by rw[V],λk=>k=p\/Q6 B (us.set a.toNat ⟨u1⟩) k\/Q6 T (A.set b.toNat ⟨u2⟩) k,⟨p,B,us.set a.toNat ⟨u1⟩,T,A.set b.toNat ⟨u2⟩,rfl,?_,λ_=>eL8⟩,?_,?_⟩
    .unfold cK4 cK5;rw[V];exact aK
    .have k1:t8 M w o.drew:=(D.trans (o6.drew o)).weaken λ_ _ h=>h.elim;have k2:t8 M w4 C.drew:=(N.trans (o6.drew C)).weaken λ_ _ h=>h.elim;have k3:t8 M C.drew w8:=(Q.weaken λk _ e=>(L k).2 (.inr (.inr (U k e)))).trans (t3.weaken λk _ e=>(L k).2 (.inr (.inr (.inl e))));exact(k1.trans af).trans (k2.trans k3)
    .have z1:w.heap.size<=o.drew.heap.size:=(D.trans (o6.drew o)).size;have z2:o.drew.heap.size<=C.drew.heap.size:=eD7 af.size (N.trans (o6.drew C)).size;have q:∀(us:List Raw) (i:Nat) (u:Value) (v:Raw) (W:World),us[i]?=some v->F4 W v.v u->w.heap.size<=W.heap.size->∀(B:Value) (k:Nat),Q6 B (us.set i ⟨u⟩) k->Q6 B us k\/w.heap.size<=k:=by
      intro us i u v W hi hv hW B k e;rcases e with e|⟨x,H,e⟩
      .exact .inl (.inl e)
      .rcases eM5 H with r|r
       .exact .inl (.inr ⟨x,r,e⟩)
       .subst r;rcases hv k e with h2|h2
        .exact .inl (.inr ⟨v,eF7 hi,h2⟩)
        .exact .inr om
     rintro k (rfl|e|e)
     .exact .inl ((L _).2 (.inl rfl))
     .rcases q _ _ _ _ _ l aw z1 _ _ e with r|r
      .exact .inl ((L _).2 (.inr (.inl r)))
      .exact .inr r
     .rcases q _ _ _ _ _ m ax om _ _ e with r|r
      .exact .inl ((L _).2 (.inr (.inr r)))
      .exact .inr r
  .have am:J2 nx.length b=false:=by simpa using f
   have aa:(!J2 nx.length b)=true:=by rw[am];rfl
   simp only[P8,unV,simprocAttr,aa];apply o8 results292;simp only[C9,simprocAttr];have g:aD3 nx a b=false:=by simp only[aD3,am,Bool.and_false,Bool.false_and]
   exact⟨by rw[g],I g w (t8.refl _)⟩
 .have al:J2 nx.length a=false:=by simpa using ha
  have Z:(!J2 nx.length a)=true:=by rw[al];rfl
  simp only[P8,unV,simprocAttr,Z];apply o8 results292;simp only[C9,simprocAttr];have g:aD3 nx a b=false:=by simp only[aD3,al,Bool.false_and]
  exact⟨by rw[g],I g _ (t8.refl _)⟩
def H1.rising{n}{l:List (List Int)}(h:H1 n l)(hn:n<=100000000):bN7 l:=
 ⟨h.le,λx a=>eD7 (h.row_len a) hn⟩
def F0:Raw:=⟨()⟩
def cG7{h w T T' v n}(e:B7 h w T v (replicate n F0)):E1 h w T T' v (replicate n F0) (replicate n ([]:List Int)):=by
 have d:∀(i:Nat) (u:Raw),(replicate n F0)[i]?=some u->u=F0:=λi u a=>eK9 (eF7 a);refine⟨e,dG,λi u k a f=>?_,λi j u g _ a _ b c=>?_,λi u a b c=>?_⟩
 .rw[d i u a,eK9 (eF7 f)];exact B7.nil _ _ _
 .rw[d i u a]at c;exact fj c E7
 .rw[d i u a]at c;exact fj c E7
def an9{v n b}:Q6 v (replicate n F0) b->B0 v b:=by
 rintro(a|⟨u,c,a⟩)
 .exact a
 .rw[eK9 c]at a;exact fj a E7
def GO.fresh{h w va vb n}(hw:E6 h (n8 w))(d:B7 h w 45 va (replicate n F0))(e:B7 h w 45 vb (replicate n F0))(g:∀b,B0 va b->¬B0 vb b):
  GO h (w.alloc (.cells #[va,vb] 307)) (.pointer (some ⟨w.heap.size,0,none⟩)) (replicate n []) (replicate n []) (λb=>b=w.heap.size\/Q6 va (replicate n F0) b\/Q6 vb (replicate n F0) b):=by
 have f:=o6.alloc w (.cells #[va,vb] 307);refine⟨w.heap.size,va,replicate n F0,vb,replicate n F0,rfl,⟨aT4 hw (eE8 _),eH3 w _,cG7 (d.ext f),cG7 (e.ext f),λa=>?_,λa=>?_,λb a c=>g b (an9 a) (an9 c)⟩,λ_=>eL8⟩
 .have:=d.lt (an9 a);omega
 .have:=e.lt (an9 a);omega
def du3{va vb}(a:isS va=true)(b:isS vb=true):D0 prog 307 [(0,va),(1,vb)]=some (.agg #[va,vb]):=by
 simp[D0,ef3,M2,Instr.fill,G3 a,G3 b]
def cP1(a:List (Int×Int))(k)(g:List (List Int)×List (List Int))(b:k<a.length):(a.take (k+1)).foldl aD7 g=aD7 ((a.take k).foldl aD7 g) a[k]:=bR2 aD7 g a k b
def db2(n:Nat)(v:Value)(a:List (Int×Int))(w)(hn:n<=5000)(hv:R (n8 w) v a)(hl:a.length<=1000000000000):
  p7 prog 257 #[n,v] w λu q=>((∃M,GO (n8 w) q u (aA8 n a).1 (aA8 n a).2 M)/\o6 w q):=by
 refine y5 [n,v] func257 rfl ?_;have S:decide ((n:Int)<0)=false:=dG
 have U:decide ((n:Int)>5000)=false:=by simp;omega
 have hS:=hv.isS;have ad:=hv.vlen;simp only[P8,Y7,E2,I6,simprocAttr,S,U];refine bj3 [1] (λp=>o6 w p) 4 (.op 0 (.op 2 (.fork [1,3] (λi=>if i=1 then A8 [3]else A8 [1]))))
  (λL q=>B7 (n8 w) q 45 (L 15) (replicate n F0)/\B7 (n8 w) q 45 (L 17) (replicate n F0)/\(∀b,B0 (L 15) b->¬B0 (L 17) b)/\o6 w q) (by decide +kernel) (by decide +kernel) (o6.drew w) ?_ ?_
 .simp only[D7,A8,P8,simprocAttr];have hz:A9.enc (n8 w) (Value.slice none 0 0).cells.toList F0:=⟨rfl,rfl⟩;have af:∀o,o6 w o->∃B p C d,(Instr.makeSlice 261 n n).run prog o = .ok B p/\(Instr.makeSlice 261 n n).run prog p = .ok C d /\
    B7 (n8 w) d 45 B (replicate n F0)/\B7 (n8 w) d 45 C (replicate n F0)/\(∀b,B0 B b->¬B0 C b)/\o6 w p/\o6 w d:=by
   intro o s;obtain⟨B,p,T,N,V,h4,_⟩:=mk (P:=prog) (w:=o) (h:=n8 w) cS8 av6 (α:=Raw) (y:=F0) hz (n:=n) om om (b7 s);obtain⟨C,d,k1,k2,k3,k4,_⟩:=mk (P:=prog) (w:=p) (h:=n8 w) cS8 av6 (α:=Raw) (y:=F0) hz (n:=n) om om (b7 (s.trans V));exact⟨B,p,C,d,T,k1,N.ext k3,k2,λb W X=>by have:=k4 b X;have:=N.lt W;omega,s.trans V,(s.trans V).trans k3⟩
  obtain⟨B,p,C,d,m1,m2,H,I,J,e2,K⟩:=af w.drew (o6.drew w);refine X2 (by decide +kernel) (λi hi=>?_);simp only[eF0,eH6,eM0]at hi;rcases hi with rfl|rfl
  .simp only[D7,P8,simprocAttr,m1,m2,F2];exact⟨e2,K,H,I,J,K⟩
  .simp only[D7,P8,simprocAttr,m1,m2,F2];exact⟨e2,K,I,H,λb T N=>J b N T,K⟩
 .rintro f o hk ⟨H,I,J,s⟩;simp only[eF8,C9,simprocAttr]at hk;obtain⟨e1,_⟩:=hk;have Y:=du3 H.isS I.isS;have j:(Instr.box 307 (.agg #[f 15,f 17])).run prog o = .ok (.pointer (some ⟨o.heap.size,0,none⟩)) (o.alloc (.cells #[f 15,f 17] 307)):=rfl;have t:=GO.fresh (b7 s) H I J;have D:=s.trans (o6.alloc o (.cells #[f 15,f 17] 307));generalize ay:Value.pointer (some ⟨o.heap.size,0,none⟩)=pg at j t;generalize o.alloc (.cells #[f 15,f 17] 307)=p at j t D;simp only[D7,P8,Y7,ad8,simprocAttr,Y,j,e1,hS,ad];refine B4 [5,20,21] (σ:=Nat) (λk f q=>f 22=k/\k<=a.length/\(∃M,GO (n8 w) q pg ((a.take k).foldl aD7 (replicate n [],replicate n [])).1 ((a.take k).foldl aD7 (replicate n [],replicate n [])).2 M)/\o6 w q) (λk=>a.length-k) 0 ?_ ?_
  .exact⟨rfl,eE2 _,⟨_,t⟩,D⟩
  .rintro k f3 d ⟨g5,O,Q,_⟩ ⟨r,ax,⟨M,Z⟩,hx⟩;have c:=((bH4 n).grows (a.take k)).1;have m:=cP1 a k (replicate n [],replicate n []);generalize hG:(a.take k).foldl aD7 (replicate n [],replicate n [])=g at Z c m;simp only[P8,E2,I6,simprocAttr,r,Q];refine A7 (λl=>?_) ?_
   .have ac:=hv.inS l;have z:=ldP hv (b7 hx) (eD1 l);have A:=m l;generalize a[k]=e at z A;obtain⟨x,y⟩:=e;simp only at z A;obtain⟨p1,p2⟩:=dX5 d x y;have q0:=dX3 d x y;have q1:=dX4 d x y;have G:=o6.alloc d (.cells #[x,y] 208);have F:=hx.trans G;have E:=Z.mod G λ_ _ h=>h.elim;generalize d.alloc (.cells #[x,y] 208)=w4 at *;simp only[P8,Y7,A6,simprocAttr,r,O,g5,ac,z,p1,p2,q0,q1];refine z6 (dM8 (n8 w) pg g.1 g.2 M x y w4 E (b7 F) (by rw[c.pv.len,c.nx.len]) (c.nx.rising om) (c.pv.rising om)) ?_;rintro u w5 ⟨rfl,M',aa,hm,av⟩;simp only[P8,E2,I6,simprocAttr,r];refine U5 (k+1) ⟨⟨M',?_⟩,?_⟩
    .rw[A];exact aa
    .refine t8.ext_of F hm λb W=>?_;rcases eH4 b w.heap.size with l|ab
     .have:=E.free b W;simp[n8,l]at this
     .exact ab
   .rintro rfl;rw[eE4]at hG;simp only[P8,simprocAttr,g5];apply o8 results257;simp only[C9,simprocAttr];have:aA8 n a=g:=hG;rw[this];exact⟨⟨M,Z⟩,hx⟩
def eO5:=@getElem_cons_succ
def eP7:=@getElem_cons_zero
def A5(l:List Bool)(b:Int):Bool:=J2 l.length b&&l.getD b.toNat false
def O5{l:List Bool}{b:Int}(h:J2 l.length b=true):b.toNat<l.length/\A5 l b=l.getD b.toNat false:=by
 have:=C0.1 h;exact⟨om,by simp[A5,h]⟩
def W3{l:List Bool}{b}(h:A5 l b=true):J2 l.length b=true:=by
 simp[A5]at h;exact h.1
def O2{l:List Bool}{a b:Int}{v}(c:J2 l.length a=true):A5 (l.set a.toNat v) b=if b=a then v else A5 l b:=by
 have d:=C0.1 c;unfold A5;simp only[eK6];by_cases h:b=a
 .subst h;rw[fi rfl,c];have:b.toNat<l.length:=om
  simp[getD,this]
 .rw[fh h];by_cases hb:J2 l.length b=true
  .have e:=C0.1 hb;have:a.toNat≠b.toNat:=om
   simp[getD,this]
  .simp[hb]
def aO3{n b}:A5 (replicate n false) b=false:=by
 simp only[A5,eJ3,Bool.and_eq_false_iff];right;simp[getD,eO7];split<;>rfl
inductive Via (nx:List (List Int)) (seen:List Bool) (todo:List Int):Int->Prop
 | base {a:Int}:a∈todo->Via nx seen todo a
 | step {a b:Int}:Via nx seen todo a->b∈F1 nx a->A5 seen b=false->Via nx seen todo b
structure ds6 (nx:List (List Int)) (seen:List Bool) (todo:List Int) (seen':List Bool) (todo':List Int):Prop where
 len:seen'.length=seen.length
 via:∀b,b∈todo'↔Via nx seen todo b
 mark:∀b,A5 seen' b=true↔A5 seen b=true\/b∈todo'
 size:todo'.length<=todo.length+seen.length
structure WI (nx:List (List Int)) (seen:List Bool) (todo:List Int) (td:List Int) (sn:List Bool) (i:Nat):Prop where
 len:sn.length=seen.length
 via:∀b∈td,Via nx seen todo b
 old:∀b∈todo,b∈td
 mark:∀b,A5 sn b=true↔A5 seen b=true\/b∈td
 count:td.length+sn.count false=todo.length+seen.count false
 done:∀k a,k<i->td[k]?=some a->∀b∈F1 nx a,A5 sn b=true
 le:i<=td.length
section
variable {nx:List (List Int)} {seen:List Bool} {todo td:List Int} {sn:List Bool} {i:Nat}
def WI.start(h:∀a∈todo,A5 seen a=true):WI nx seen todo todo seen 0:=
 ⟨rfl,λ_ c=>.base c,λ_ c=>c,λb=>⟨.inl,λd=>d.elim id (h b)⟩,rfl,λk a e=>om,eE2 _⟩
def ad7{l:List Bool}{k}(a:k<l.length)(h:l[k]=false):(l.set k true).count false+1=l.count false:=by
 induction l generalizing k with
 | nil=>simp at a
 | cons x l b=>
  cases k with
  | zero=>
   simp only[eP7]at h;subst h;simp
  | succ k=>
   simp only[eO5]at h;have:=b (by simpa using a) h;simp only[set_cons_succ,count_cons];omega
def WI.push(h:WI nx seen todo td sn i){b:Int}(hb:J2 seen.length b=true)(hn:A5 sn b=false)(hv:Via nx seen todo b):WI nx seen todo (td++[b]) (sn.set b.toNat true) i:=by
 have f:J2 sn.length b=true:=by rw[h.len];exact hb
 have e:∀c,A5 (sn.set b.toNat true) c=if c=b then true else A5 sn c:=λc=>O2 f;have j:=(O5 f).1;have g:sn[b.toNat]=false:=by
  have:=(O5 f).2;rw[hn]at this;simp[getD,j]at this;exact this
 refine⟨by simp[h.len],λc d=>?_,λc d=>eF9 _ (h.old c d),λc=>?_,?_,λk a m l c d=>?_,?_⟩
 .rcases eE0.1 d with d|d
  .exact h.via c d
  .simp at d;subst d;exact hv
 .rw[e];by_cases hcb:c=b
  .subst hcb;simp
  .simp[hcb,h.mark c]
 .have:=h.count;have:=ad7 j g;simp only[eD4,eG3];omega
 .rw[e];split
  .rfl
  .have E6:=h.le;rw[eI7 om]at l;exact h.done k a m l c d
 .have:=h.le;simp;omega
def bh5{b c:Int}(hb:J2 sn.length b=true)(a:A5 sn c=true):A5 (sn.set b.toNat true) c=true:=by
 rw[O2 hb];split
 .rfl
 .exact a
def WI.next(h:WI nx seen todo td sn i){a}(e:td[i]?=some a)(g:∀b∈F1 nx a,A5 sn b=true):WI nx seen todo td sn (i+1):=by
 refine⟨h.len,h.via,h.old,h.mark,h.count,λk c j d b f=>?_,(eD8.1 e).1⟩;by_cases hki:k=i
 .subst hki;rw[e]at d;obtain rfl:=eF3 d;exact g b f
 .exact h.done k c om d b f
def WI.fin(h:WI nx seen todo td sn td.length):ds6 nx seen todo sn td:=by
 refine⟨h.len,λb=>⟨h.via b,λi=>?_⟩,h.mark,?_⟩
 .induction i with
  | base e=>exact h.old _ e
  | step _ f g j=>
   obtain⟨k,d⟩:=eM7.1 j;have:=h.done k _ (eD8.1 d).1 d _ f;rcases(h.mark _).1 this with c|c
   .rw[g]at c;cases c
   .exact c
 .have:=h.count;have:=count_le_length (a:=false) (l:=seen);omega
end
def cJ2(h vn vs vt)(nx:List (List Int))(d:List Bool)(g:List Int)(w)(hw:E6 h (n8 w))(hn:R h vn nx)(hg:H1 nx.length nx)(hs:B7 h w 4 vs d)(ht:B7 h w 3 vt g)
  (hd:∀b,B0 vs b->¬B0 vt b) (I:d.length=nx.length) (aM:∀a∈g,A5 d a=true) (ba:nx.length<=5000) (N:g.length<=1000000) :
  p7 prog 259 #[vn,vs,vt] w λu L=>∃K J,B7 h L 3 u K/\B7 h L 4 vs J/\(∀b,B0 vs b->¬B0 u b)/\t8 (λb=>B0 vs b\/B0 vt b) w L/\F4 w vt u/\ds6 nx d g J K:=by
 apply y5 [vn,vs,vt] func259 rfl;simp only[P8,Y7,simprocAttr];have a8:=hn.isS;refine E4 [0,1] (σ:=List Int×List Bool×Nat) (λs f L=>f 7=s.2.2/\B7 h L 3 (f 2) s.1/\B7 h L 4 vs s.2.1/\(∀b,B0 vs b->¬B0 (f 2) b)/\t8 (λb=>B0 vs b\/B0 vt b) w L/\F4 w vt (f 2)/\WI nx d g s.1 s.2.1 s.2.2)
  (λs=>g.length+d.count false-s.2.2) (g,d,0) ?_ ?_
 .exact⟨rfl,ht,hs,hd,t8.refl _,λb D=>.inl D,WI.start aM⟩
 .rintro⟨td,sn,i⟩ f w1 hk ⟨h7,B,ag,ap,hm,aw,hi⟩;simp only at h7 B ag hi;simp only[eF8,C9,simprocAttr]at hk;obtain⟨e0,e1,_⟩:=hk;have an:=B.isS;have av:=B.vlen;have aU:=hi.count;have be:=count_le_length (a:=false) (l:=d);have af:∀b,(B0 vs b\/B0 vt b)->h b=none:=λb D=>D.elim hs.free ht.free;simp only[P8,Y7,E2,I6,ad8,simprocAttr,h7,an,av];refine B2 (λo=>?_) (λo=>?_)
  .have ae:i<td.length:=by simpa using o
   have aq:=B.inS ae;have X:=E8 (P:=prog) (t:=3) B (eD1 ae) K7;generalize aL:td[i]=a at X;have Y:td[i]?=some a:=by rw[eD1 ae,aL]
   have aG:a∈td:=eF7 Y;have Z:J2 nx.length a=true:=by
    have:=W3 ((hi.mark a).2 (.inr aG));rw[hi.len,I]at this;exact this
   obtain⟨aO,aP⟩:=aE9 Z;have d0:decide (0<=a)=true:=by simpa using(C0.1 Z).1
   obtain⟨x,S,aQ⟩:=hn.row aO;have aN:E6 h (n8 w1):=G8 hw hm af;have aA:=aJ4 Z;have bg:=hg.row_len aA;simp only[P8,Y7,A6,ad8,L6.val,simprocAttr,h7,e0,aq,X,hn.inS aP,d0,M0 (P:=prog) (t:=45) aQ aN ao0,S.isS,S.vlen];refine E4 [0,1,7,22,23] (σ:=List Int×List Bool×Nat) (λs f L=>f 24=s.2.2/\s.2.2<=(F1 nx a).length/\B7 h L 3 (f 2) s.1/\B7 h L 4 vs s.2.1/\(∀b,B0 vs b->¬B0 (f 2) b)/\t8 (λb=>B0 vs b\/B0 vt b) w L/\F4 w vt (f 2)/\WI nx d g s.1 s.2.1 i/\s.1[i]?=some a/\∀b∈(F1 nx a).take s.2.2,A5 s.2.1 b=true)
    (λs=>(F1 nx a).length-s.2.2) (td,sn,0) ?_ ?_
   .exact⟨rfl,eE2 _,B,ag,ap,hm,aw,hi,Y,λb D=>by simp at D⟩
   .rintro⟨ak,q,j⟩ f2 w2 au ⟨M,aK,C,m,r,Q,z,p,n,A⟩;simp only at M aK C m p n A;simp only[eF8,C9,↓reduceIte,Nat.reduceEqDiff]at au;obtain⟨g0,g1,g7,am,aF,_⟩:=au;rw[e0]at g0;rw[e1]at g1;rw[h7]at g7;simp only[P8,E2,I6,simprocAttr,M,aF];refine A7 (λhj=>?_) ?_
    .have V:=S.inS hj;have ay:E6 h (n8 w2):=G8 hw Q af;have H:=O4 (P:=prog) (t:=3) S ay (eD1 hj) K7;have ab:(F1 nx a)[j]∈F1 nx a:=eE1 hj;have ah:=eD9 hj;generalize bb:(F1 nx a)[j]=b at H ab ah;have aa:J2 nx.length b=true:=hg.ok _ aA b ab;have E:J2 q.length b=true:=by rw[p.len,I];exact aa
     obtain⟨F,aH⟩:=O5 E;have U:=m.inS F;have d1:decide (0<=b)=true:=by simpa using(C0.1 aa).1
     have W:=E8 (P:=prog) (t:=4) m (k:=b.toNat) (x:=A5 q b) (by rw[aH];simp[getD,F]) ag4;have a9:=m.isS;by_cases hbs:A5 q b=true
     .have G:(!A5 q b)=false:=by rw[hbs];rfl
      simp only[P8,Y7,E2,I6,unV,A6,L6.val,simprocAttr,M,am,g1,V,H,U,d1,W,G];refine U5 (ak,q,j+1) ⟨C,m,r,Q,z,p,n,?_⟩;simp only[];rw[ah];intro c o;rcases eE0.1 o with o|o
      .exact A c o
      .simp at o;subst o;exact hbs
     .have O:A5 q b=false:=by simpa using hbs
      have G:(!A5 q b)=true:=by rw[O];rfl
      have ac:=p.count;obtain⟨w3,s1,s2,s3,s4⟩:=G4 (P:=prog) (t:=4) m rfl (k:=b.toNat) F (x:=true) (y:=true) rfl rfl (B1 Y5).choose_spec.1 (by rw[<-F8 (B1 Y5).choose_spec.1];exact aK1);have ax:=C.mod s3 λb D N=>r b N D;have v:t8 (λb=>B0 vs b\/B0 vt b) w w3:=Q.trans (s3.weaken λb _ D=>.inl D);have az:E6 h (n8 w3):=G8 hw v af;obtain⟨p1,u',w4,p2,p3,p4,p5⟩:=push (e:=45) V8 rfl ax (x:=b) (y:=b) rfl om om az;simp only[Value.cells]at p1 p2;simp only[P8,Y7,E2,I6,unV,A6,L6.val,simprocAttr,M,am,g1,V,H,U,d1,W,G,s1,p1,p2];have bf:w.heap.size<=w3.heap.size:=v.size;have aC:∀b,B0 (f2 2) b->B0 vt b\/w.heap.size<=b:=z;refine U5 (ak++[b],q.set b.toNat true,j+1) ⟨p3,s2.mod p4 (λb D N=>r b D N),?_,?_,?_,?_,?_,?_⟩
      .intro c ao aI;rcases p5 c aI with T|T
       .exact r c ao T
       .have:=s2.lt ao;omega
      .refine⟨p4.os.trans v.os,p4.tape.trans v.tape,p4.output.trans v.output,eD7 v.size p4.size,λk hk hn=>?_⟩;refine(p4.block k (eK3 hk v.size) λD=>?_).trans (v.block k hk hn);rcases z k D with T|T
       .exact hn (.inr T)
       .omega
      .intro c o;rcases p5 c o with T|T
       .exact z c T
       .exact .inr om
      .refine p.push (by rw[I];exact aa) O (.step (p.via a (eF7 n)) ab ?_);rw[eN8];intro hh;rw[(p.mark b).2 (.inl hh)]at O;cases O
      .simp only[];rw[eI7 (eD8.1 n).1];exact n
      .simp only[];rw[ah];intro c o;rcases eE0.1 o with o|o
       .exact bh5 E (A c o)
       .simp at o;subst o;rw[O2 E,fi rfl]
    .rintro rfl;rw[eE4]at A;simp only[P8,E2,I6,simprocAttr,g7];have ac:=p.count;refine nx2 (ak,q,i+1) ⟨C,m,r,Q,z,p.next n A⟩
  .have aJ:i=td.length:=by have:=hi.le;simp at o;omega
   subst aJ;simp only[P8,simprocAttr];exact o8 results259 ⟨td,sn,B,ag,ap,hm,aw,hi.fin⟩
def eF6:=@mem_filter
def eH7:=@mem_range
inductive Rch (nx:List (List Int)) (from_:List Int):Int->Prop
 | base {a:Int}:a∈from_->J2 nx.length a=true->Rch nx from_ a
 | step {a b:Int}:Rch nx from_ a->b∈F1 nx a->Rch nx from_ b
def Rch.ok{nx:List (List Int)}{l:List Int}(c:H1 nx.length nx){b}(h:Rch nx l b):J2 nx.length b=true:=by
 cases h with
 | base _ h=>exact h
 | step _ a=>exact(c.row _).2 _ a
def dU4{nx:List (List Int)}{f:List Bool}{g l:List Int}(hm:∀b,A5 f b=true↔b∈g)(d:∀b,b∈g↔b∈l/\J2 nx.length b=true)(b):Via nx f g b↔Rch nx l b:=by
 constructor
 .intro h
  induction h with
  | base i=>exact .base ((d _).1 i).1 ((d _).1 i).2
  | step _ c _ e=>exact .step e c
 .intro h
  induction h with
  | base j k=>exact .base ((d _).2 ⟨j,k⟩)
  | @step a b _ c e=>
   cases hs:A5 f b with
   | true=>exact .base ((hm b).1 hs)
   | false=>exact .step e c hs
def cD5{l:List Bool}{b}:b∈ao5 l l.length↔A5 l b=true:=by
 unfold ao5;rw[eF2];constructor
 .rintro⟨i,c,rfl⟩;rw[eF6,eH7]at c;have a:J2 l.length (i:Int)=true:=C0.2 ⟨om,om⟩;rw[(O5 a).2];simpa[getD]using c.2
 .intro h;have a:=W3 h;obtain⟨d,e⟩:=O5 a;have f:=C0.1 a;refine⟨b.toNat,?_,om⟩;rw[eF6,eH7];rw[e]at h;exact⟨d,by simpa[getD]using h⟩
def bT6(l:List Bool)(k):(ao5 l k).Pairwise (· < ·):=by
 unfold ao5;rw[pairwise_map];apply List.Pairwise.filter _;exact(pairwise_lt_range (n:=k)).imp λh=>om
structure dV4 (l:List Int) (p:Int->Prop):Prop where
 le:l.Pairwise (· < ·)
 mem:∀b,b∈l↔p b
structure FI (n:Nat) (l:List Int) (td:List Int) (sn:List Bool):Prop where
 len:sn.length=n
 mark:∀b,A5 sn b=true↔b∈td
 mem:∀b,b∈td↔b∈l/\J2 n b=true
 count:td.length+sn.count false=n
def FI.start(n):FI n [] [] (replicate n false):=
 ⟨dG,λb=>by simp[aO3],λb=>dG,dG⟩
def FI.old{n}{l g:List Int}{f:List Bool}(h:FI n l g f){a}(c:J2 n a=false\/A5 f a=true):FI n (l++[a]) g f:=by
 refine⟨h.len,h.mark,λb=>?_,h.count⟩;rw[h.mem,eE0,eE7];constructor
 .rintro⟨d,e⟩;exact⟨.inl d,e⟩
 .rintro⟨d|d,e⟩
  .exact⟨d,e⟩
  .subst d;rcases c with c|c
   .rw[e]at c;cases c
   .exact(h.mem b).1 ((h.mark b).1 c)
def FI.new{n}{l k:List Int}{g:List Bool}(h:FI n l k g){a:Int}(j:J2 n a=true)(m:A5 g a=false):FI n (l++[a]) (k++[a]) (g.set a.toNat true):=by
 have c:J2 g.length a=true:=by rw[h.len];exact j
 have f:=(O5 c).1;have e:g[a.toNat]=false:=by
  have:=(O5 c).2;rw[m]at this;simp[getD,f]at this;exact this
 refine⟨by simp[h.len],λb=>?_,λb=>?_,?_⟩
 .rw[O2 c,eE0,eE7];by_cases hb:b=a
  .subst hb;simp
  .simp[hb,h.mark b]
 .rw[eE0,eE0,eE7,h.mem];constructor
  .rintro(⟨d,i⟩|rfl)
   .exact⟨.inl d,i⟩
   .exact⟨.inr rfl,j⟩
  .rintro⟨d|d,i⟩
   .exact .inl ⟨d,i⟩
   .exact .inr d
 .have:=h.count;have:=ad7 f e;simp only[eD4,eG3];omega
def df1(pg)(nx pv:List (List Int))(v)(l:List Int)(w)(U:GR (n8 w) pg nx pv)(hg:H1 nx.length nx)(ap:nx.length<=5000)(hv:R (n8 w) v l)(hl:l.length<=1000000000):
  p7 prog 196 #[pg,v] w λu M=>((∃r,B7 (n8 w) M 3 u r/\dV4 r (Rch nx l))/\o6 w M):=by
 have V:=U;obtain⟨gb,vn,vp,rfl,N,h2,h3,h4⟩:=U;refine y5 [.pointer (some ⟨gb,0,none⟩),v] func196 rfl ?_;have am:=M0 (P:=prog) (t:=261) N (n7 _) ag3;have af:=h3.isS;have aq:=h3.vlen;have hS:=hv.isS;have au:=hv.vlen;obtain⟨u0,w0,ao,ar,av,aN,_⟩:=mk (P:=prog) (w:=w) (h:=n8 w) bw9 Y5 (α:=Bool) (y:=false) rfl (n:=nx.length) om om (n7 _);simp only[P8,Y7,E2,ad8,simprocAttr,am,af,aq,ao,hS,au];refine E4 [0,1,5,17,18] (σ:=List Int×List Bool×Nat) (λs f M=>f 19=s.2.2/\s.2.2<=l.length/\B7 (n8 w) M 3 (f 6) s.1/\B7 (n8 w) M 4 u0 s.2.1/\(∀b,B0 u0 b->¬B0 (f 6) b)/\o6 w M/\FI nx.length (l.take s.2.2) s.1 s.2.1)
  (λs=>l.length-s.2.2) ([],replicate nx.length false,0) ?_ ?_
 .exact⟨rfl,eE2 _,B7.nil _ _ _,ar,λb _ i=>E7 i,av,FI.start _⟩
 .rintro⟨td,A,k⟩ f w1 hk ⟨g,al,o,d,j,J,m⟩;simp only at g al o d m;simp only[eF8,C9,simprocAttr]at hk;obtain⟨e0,e1,Z,ac,ad,_⟩:=hk;have ay:=m.count;simp only[P8,E2,I6,simprocAttr,g,ad];refine A7 (λz=>?_) ?_
  .have ak:=hv.inS z;have G:=O4 (P:=prog) (t:=3) hv (b7 J) (eD1 z) K7;have C:=eD9 z;generalize aQ:l[k]=a at G C;simp only[P8,Y7,A6,L6.val,simprocAttr,g,ac,e0,ak,G];apply z6 (br8 _ nx pv a w1 (V.mono (b7 J)));rintro u w1 ⟨rfl,rfl⟩;by_cases E:J2 nx.length a=true
   .have Q:J2 A.length a=true:=by rw[m.len];exact E
    obtain⟨p,ag⟩:=O5 Q;have F:=d.inS p;have d1:decide (0<=a)=true:=by simpa using(C0.1 E).1
    have H:=E8 (P:=prog) (t:=4) d (k:=a.toNat) (x:=A5 A a) (by rw[ag];simp[getD,p]) ag4;have aM:=d.isS;by_cases hbs:A5 A a=true
    .have q:(!A5 A a)=false:=by rw[hbs];rfl
     simp only[P8,Y7,E2,I6,unV,A6,L6.val,simprocAttr,E,g,Z,F,d1,H,q];refine U5 (td,A,k+1) ⟨o,d,j,J,?_⟩;simp only[];rw[C];exact m.old (.inr hbs)
    .have S:A5 A a=false:=by simpa using hbs
     have q:(!A5 A a)=true:=by rw[S];rfl
     obtain⟨w3,s1,s2,s3,s4⟩:=G4 (P:=prog) (t:=4) d rfl (k:=a.toNat) p (x:=true) (y:=true) rfl rfl (B1 Y5).choose_spec.1 (by rw[<-F8 (B1 Y5).choose_spec.1];exact aK1);have I:=o.mod s3 λb i K=>j b K i;have D:=d.ext2 J s3;obtain⟨p1,u',w4,p2,p3,p4,p5⟩:=push (e:=45) V8 rfl I (x:=a) (y:=a) rfl om om (b7 D);simp only[Value.cells]at p1 p2;simp only[P8,Y7,E2,I6,unV,A6,L6.val,simprocAttr,E,g,Z,F,d1,H,q,s1,p1,p2];refine U5 (td++[a],A.set a.toNat true,k+1) ⟨p3,s2.mod p4 (λb i K=>j b i K),?_,I.ext2 D p4,?_⟩
     .intro c T ah;rcases p5 c ah with N|N
      .exact j c T N
      .have:=s2.lt T;omega
     .simp only[];rw[C];exact m.new E S
   .have O:J2 nx.length a=false:=by simpa using E
    simp only[P8,E2,I6,simprocAttr,O,g];refine U5 (td,A,k+1) ⟨o,d,j,J,?_⟩;simp only[];rw[C];exact m.old (.inl O)
  .rintro rfl;rw[eE4]at m;have W:=M0 (P:=prog) (t:=261) N (b7 J) ag3;simp only[P8,Y7,simprocAttr,e0,Z,W];apply z6 (cJ2 (n8 w) vn u0 (f 6) nx A td w1 (b7 J) h3 hg d o j m.len (λa E=>(m.mark a).2 E) ap om);rintro u w2 ⟨aV,Y,aC,X,az,an,aB,B⟩;have L:o6 w w2:=t8.ext_of J an λb i=>by
    rcases eH4 b w.heap.size with z|aj
    .have:(n8 w) b=none:=i.elim d.free o.free;simp[n8,z]at this
    .exact aj
   have aP:Y.length=nx.length:=by rw[B.len,m.len]
   simp only[P8,simprocAttr,Z];apply z6 (cQ4 u0 Y w2 (X.rw_ (b7 L)) om);rintro r w3 ⟨hr,D⟩;simp only[P8,simprocAttr];refine o8 results196 ⟨⟨_,hr.back L,bT6 _ _,λb=>?_⟩,L.trans D⟩;rw[cD5,B.mark,<-dU4 m.mark m.mem];constructor
   .rintro(i|i)
    .exact .base ((m.mark b).1 i)
    .exact(B.via b).1 i
   .exact λi=>.inr ((B.via b).2 i)
def eQ5:=@take_add_one
inductive Y6 (nx:List (List Int)) (a:Int):Int->Prop
 | refl:Y6 nx a a
 | step {b c:Int}:Y6 nx a b->c∈F1 nx b->Y6 nx a c
def Y6.trans{nx:List (List Int)}{a b c}(h:Y6 nx a b)(k:Y6 nx b c):Y6 nx a c:=by
 induction k with
 | refl=>exact h
 | step _ d e=>exact .step e d
def Y6.one{nx:List (List Int)}{a b}(h:b∈F1 nx a):Y6 nx a b:=.step .refl h
def aE1(nx:List (List Int))(a b:Int):Prop:=Y6 nx a b/\Y6 nx b a
def aE1.refl{nx:List (List Int)}(a):aE1 nx a a:=⟨.refl,.refl⟩
def aE1.symm{nx:List (List Int)}{a b}(h:aE1 nx a b):aE1 nx b a:=⟨h.2,h.1⟩
def aE1.trans{nx:List (List Int)}{a b c}(h:aE1 nx a b)(k:aE1 nx b c):aE1 nx a c:=⟨h.1.trans k.1,k.2.trans h.2⟩
def ai(l:List Int)(a:Int):Int:=l.getD a.toNat 0
def bz1{l:List Int}{n}(f:l.length=n){a b v:Int}(c:J2 n a=true)(hb:J2 n b=true):ai (l.set a.toNat v) b=if b=a then v else ai l b:=by
 have d:=C0.1 c;have e:=C0.1 hb;unfold ai;by_cases h:b=a
 .subst h;rw[fi rfl];have:b.toNat<l.length:=om
  simp[getD,this]
 .rw[fh h];have:a.toNat≠b.toNat:=om
  simp[getD,this]
def dW5{nx:List (List Int)}{a d:List Int}(hb:∀x∈a,∀y∈F1 nx x,y∈a\/y∈d){x r}(j:x∈a)(hw:Y6 nx x r)(i:r∉a):∃g∈d,Y6 nx x g:=by
 induction hw with
 | refl=>exact fj j i
 | @step b c hw f k=>
  by_cases h:b∈a
  .rcases hb b h c f with e|e
   .exact fj e i
   .exact⟨c,e,.step hw f⟩
  .exact k h
structure DI (nx:List (List Int)) (n:Nat) (out stack:List Int) (seen:List Bool) (at_:List Int):Prop where
 slen:seen.length=n
 alen:at_.length=n
 mark:∀b,A5 seen b=true↔b∈out\/b∈stack
 count:out.length+stack.length+seen.count false=n
 apart:∀b∈out,b∉stack
 onod:out.Nodup
 snod:stack.Nodup
 path:stack.Pairwise (Y6 nx)
 black:∀x∈out,∀y∈F1 nx x,y∈out\/y∈stack
 atok:∀a,J2 n a=true->0<=ai at_ a/\ai at_ a<=(F1 nx a).length
 white:∀a,J2 n a=true->A5 seen a=false->ai at_ a=0
 grey:∀g∈stack,∀y∈(F1 nx g).take (ai at_ g).toNat,A5 seen y=true
 low:∀x∈out,∀g∈stack,Y6 nx x g->∃c∈stack,aE1 nx c x
 cut:∀k,∀x∈out.take k,∀r,r∉out.take k->Y6 nx x r->∃c,c∉out.take k/\aE1 nx c x
section
variable {nx:List (List Int)} {n:Nat} {out stack:List Int} {seen:List Bool} {at_:List Int}
def DI.start(hn:nx.length=n):DI nx n [] [] (replicate n false) (replicate n 0):=by
 have d:∀a,ai (replicate n 0) a=0:=λa=>by
  simp[ai,getD,eO7];split<;>rfl
 have no:∀(x:Int) {p:Prop},x∈([]:List Int)->p:=λx p h=>fj h (eH6);exact⟨dG,dG,λb=>by simp[aO3],dG,λb e=>no b e,nodup_nil,nodup_nil,List.Pairwise.nil,λx c=>no x c,
  λa _=>(by rw[d];omega),λa _ _=>d a,λg f=>no g f,λx c=>no x c,λk x c=>no x (by simpa using c)⟩
def DI.ok(h:DI nx n out stack seen at_){b}(hb:b∈out\/b∈stack):J2 n b=true:=by
 have:=W3 ((h.mark b).2 hb)
 rwa [h.slen]at this
def DI.push(h:DI nx n out stack seen at_){y:Int}(E:J2 n y=true)(k:A5 seen y=false)(hw:∀g∈stack,Y6 nx g y):DI nx n out (stack++[y]) (seen.set y.toNat true) at_:=by
 have i:J2 seen.length y=true:=by rw[h.slen];exact E
 have j:∀c,A5 (seen.set y.toNat true) c=if c=y then true else A5 seen c:=λc=>O2 i;have o:=(O5 i).1;have m:seen[y.toNat]=false:=by
  have:=(O5 i).2;rw[k]at this;simp[getD,o]at this;exact this
 have p:y∉out:=λA=>by rw[(h.mark y).2 (.inl A)]at k;cases k
 have B:y∉stack:=λA=>by rw[(h.mark y).2 (.inr A)]at k;cases k
 refine⟨by simp[h.slen],h.alen,λc=>?_,?_,λb e u=>?_,h.onod,?_,?_,λx t z r=>?_,h.atok,λa l f=>?_,λg v z r=>?_,λx t g v q=>?_,h.cut⟩
 .rw[j,eE0,eE7];by_cases s:c=y
  .subst s;simp
  .simp[s,h.mark c]
 .have:=h.count;have:=ad7 o m;simp only[eD4,eG3];omega
 .rcases eE0.1 u with d|d
  .exact h.apart b e d
  .simp at d;subst d;exact p e
 .rw[eI6];refine⟨h.snod,dG,λa l b e=>?_⟩;simp at e;subst e;rintro rfl;exact B l
 .rw[pairwise_append];refine⟨h.path,dG,λa l b e=>?_⟩;simp at e;subst e;exact hw a l
 .rcases h.black x t z r with d|d
  .exact .inl d
  .exact .inr (eF9 _ d)
 .rw[j]at f;split at f
  .cases f
  .exact h.white a l f
 .rcases eE0.1 v with d|d
  .exact bh5 i (h.grey g d z r)
  .simp at d;subst d;rw[h.white g E k]at r;simp at r
 .have D:∃g∈stack,Y6 nx x g:=by
   rcases eE0.1 v with d|d
   .exact⟨g,d,q⟩
   .simp at d;subst d;exact dW5 h.black t q p
  obtain⟨F,w,C⟩:=D;obtain⟨c,s,e⟩:=h.low x t F w C;exact⟨c,eF9 _ s,e⟩
def DI.adv(h:DI nx n out stack seen at_){a y:Int}(j:J2 n a=true){k:Nat}(q:ai at_ a=k)(p:(F1 nx a)[k]?=some y)(s:A5 seen y=true)(o:A5 seen a=true):DI nx n out stack seen (at_.set a.toNat (k+1:Nat)):=by
 have r:=(eD8.1 p).1;refine⟨h.slen,by simp[h.alen],h.mark,h.count,h.apart,h.onod,h.snod,h.path,h.black,λb d=>?_,λb d c=>?_,λg l z f=>?_,h.low,h.cut⟩
 .rw[bz1 h.alen j d];split
  .rename_i e;subst e;omega
  .exact h.atok b d
 .rw[bz1 h.alen j d];split
  .rename_i e;subst e;rw[o]at c;cases c
  .exact h.white b d c
 .have m:=h.ok (.inr l);rw[bz1 h.alen j m]at f;split at f
  .rename_i e;subst e;rw[eF4,eQ5,p]at f;rcases eE0.1 f with i|i
   .apply h.grey g l z;rw[q,eF4];exact i
   .simp at i;subst i;exact s
  .exact h.grey g l z f
def DI.pop{s:List Int}{a}(h:DI nx n out (s++[a]) seen at_)(F:ai at_ a=(F1 nx a).length):DI nx n (out++[a]) s seen at_:=by
 have has:a∈s++[a]:=dG
 have C:a∉out:=λt=>h.apart a t has;have v:=eI6.1 h.snod;have u:a∉s:=λt=>v.2.2 a t a dG rfl;have w:=List.pairwise_append.1 h.path;have q:∀g∈s,Y6 nx g a:=λg f=>w.2.2 g f a dG;have e:∀x∈out++[a],∀y∈F1 nx x,y∈out++[a]\/y∈s:=by
  intro x i y z;have hm:y∈out\/y∈s++[a]:=by
   rcases eE0.1 i with d|d
   .exact h.black x d y z
   .simp at d;subst d;refine(h.mark y).1 (h.grey x has y ?_);rw[F,eF4,eE4];exact z
  rcases hm with d|d
  .exact .inl (eF9 _ d)
  .rcases eE0.1 d with j|j
   .exact .inr j
   .exact .inl (eH0 _ j)
 have l:∀x∈out++[a],∀g∈s,Y6 nx x g->∃c∈s,aE1 nx c x:=by
  intro x i g f o;rcases eE0.1 i with d|d
  .obtain⟨c,B,m⟩:=h.low x d g (eF9 _ f) o;rcases eE0.1 B with j|j
   .exact⟨c,j,m⟩
   .simp at j;subst j;exact⟨g,f,⟨(q g f).trans m.1,o⟩⟩
  .simp at d;subst d;exact⟨g,f,⟨q g f,o⟩⟩
 have p:∀b∈out++[a],b∉s:=by
  intro b m E;rcases eE0.1 m with d|d
  .exact h.apart b d (eF9 _ E)
  .simp at d;subst d;exact u E
 refine⟨h.slen,h.alen,λb=>?_,?_,p,?_,v.1,w.1,e,h.atok,h.white,λg f=>h.grey g (eF9 _ f),l,λk x i r A o=>?_⟩
 .rw[h.mark,eE0,eE0];constructor
  .rintro(d|d|d)
   .exact .inl (.inl d)
   .exact .inr d
   .exact .inl (.inr d)
  .rintro((d|d)|d)
   .exact .inl d
   .exact .inr (.inr d)
   .exact .inr (.inl d)
 .have:=h.count;simp only[eD4,eG3]at this ⊢;omega
 .rw[eI6];refine⟨h.onod,dG,λx i y z=>?_⟩;simp at z;subst z;rintro rfl;exact C i
 .by_cases hkl:k<=out.length
  .rw[eJ6 hkl]at i A ⊢;exact h.cut k x i r A o
  .rw[eI0 (by simp;omega)]at i A ⊢;obtain⟨g,f,D⟩:=dW5 e i o A;obtain⟨c,B,m⟩:=l x i g f D;exact⟨c,λt=>p c t B,m⟩
end
structure bp9 (nx:List (List Int)) (n:Nat) (out:List Int):Prop where
 nod:out.Nodup
 mem:∀b,b∈out↔J2 n b=true
 cut:∀k,∀x∈out.take k,∀r,r∉out.take k->Y6 nx x r->∃c,c∉out.take k/\aE1 nx c x
 len:out.length=n
def DI.fin{nx:List (List Int)}{n}{d:List Int}{a:List Bool}{f:List Int}(h:DI nx n d [] a f)(c:∀b,J2 n b=true->A5 a b=true):bp9 nx n d:=by
 have hm:∀b,b∈d↔J2 n b=true:=λb=>⟨λg=>h.ok (.inl g),λg=>by
  rcases(h.mark b).1 (c b g)with e|e
  .exact e
  .cases e⟩
 refine⟨h.onod,hm,h.cut,?_⟩;have o:a.count false=0:=by
  rw[count_eq_zero];intro l;obtain⟨i,m,k⟩:=getElem_of_mem l;have j:J2 a.length (i:Int)=true:=C0.2 ⟨om,om⟩;have e:=c i (by rw[<-h.slen];exact j);rw[(O5 j).2]at e;simp[getD,m,k]at e
 have:=h.count;simp only[eK5]at this;omega
def da4(nx:List (List Int))(a:List Int)(n:Nat):Nat:=((range n).map λ(i:Nat)=>(F1 nx (i:Int)).length-(ai a (i:Int)).toNat).sum
def dG2{f g:Nat->Nat}{i}:∀{n:Nat},i<n->(∀j,j<n->j≠i->f j=g j)->f i<g i->((range n).map f).sum<((range n).map g).sum
 | 0,h,_,_=>om
 | n+1,h,he,hl=>by
  have E6:∀m,(∀j,j<m->j≠i->f j=g j)->((range m).map f).sum<=((range m).map g).sum:=by
   intro m
   induction m with
   | zero=>intro _;simp
   | succ m c=>
    intro a;have:=c λj b=>a j om;rw[eO6];simp only[eG8,sum_append,eI4,map_nil,eO9,sum_nil];by_cases hm:m=i
    .subst hm;omega
    .have:=a m om hm;omega
  rw[eO6];simp only[eG8,sum_append,eI4,map_nil,eO9,sum_nil];by_cases hn:n=i
  .subst hn;have:=E6 n λj b=>he j om;omega
  .have:=dG2 (n:=n) om (λj b=>he j om) hl;have:=he n om hn;omega
def dl3{nx:List (List Int)}{b:List Int}{n:Nat}(f:b.length=n){a:Int}(c:J2 n a=true){k:Nat}(h:ai b a=k)(l:k<(F1 nx a).length):da4 nx (b.set a.toNat (k+1:Nat)) n<da4 nx b n:=by
 have g:=C0.1 c;refine dG2 (i:=a.toNat) om (λj o m=>?_) ?_
 .have d:J2 n (j:Int)=true:=C0.2 ⟨om,om⟩;rw[bz1 f c d,fh om]
 .have e:((a.toNat:Nat):Int)=a:=om
  rw[e,bz1 f c c,fi rfl,h];omega
def eD2:=@Bool.eq_false_or_eq_true
def Dj(u v:Value):Prop:=∀b,B0 u b->¬B0 v b
def Dj.symm{u v}(h:Dj u v):Dj v u:=λb a c=>h b c a
def Dj.nil(u):Dj u ():=λb _ h=>E7 h
section
variable {α:Type} [A9 α] {h:Hp} {w:World} {T:TypeId} {x y y' v:Value} {xs:List α}
def Dj.move(e:Dj x y)(f:B7 h w T x xs)(hm:F4 w y y'):Dj x y':=λb d a=>by
 rcases hm b a with c|c
 .exact e b d c
 .have:=f.lt d;omega
def Dj.fresh(e:B7 h w T x xs)(d:∀b,B0 y b->w.heap.size<=b):Dj x y:=λb c a=>by
 have:=e.lt c;have:=d b a;omega
def B7.apart{w'}(e:B7 h w T x xs)(hm:t8 (B0 y) w w')(d:Dj x y):B7 h w' T x xs:=e.mod hm λb c a=>d b c a
def dS6{v k sz}(hS:isS v=true)(d:0<vcap v):∃a n c,v = .slice a n c/\reS v 0 k sz = .slice a k c:=by
 cases v<;>simp[Go.Proofs.YtpebpfiglfmegaaGreat.isS]at hS;rename_i a n c;refine⟨a,n,c,rfl,?_⟩;simp only[vcap]at d;have b:¬c=0:=om
 cases a<;>simp[reS,O9,b]
def B7.pre(y:B7 h w T v xs){k}(f:k<=xs.length)(r:0<xs.length):B7 h w T (reS v 0 k (A9.sz α)) (xs.take k)/\∀b,B0 (reS v 0 k (A9.sz α)) b↔B0 v b:=by
 rcases y with⟨rfl,rfl⟩|⟨b,c,d,rfl,s,t,D,u,x,l⟩
 .simp at r
 .obtain⟨a,n,A,e,q⟩:=dS6 (v:=.slice (some ⟨b,0,none⟩) xs.length c) (k:=k) (sz:=A9.sz α) rfl (by show 0<c;omega);cases e;rw[q];refine⟨.inr ⟨b,c,d,by rw[eE5,eJ7 f],s,t,by rw[eE5];omega,u,x,?_⟩,λz=>by simp[B0,Value.ownBlock]⟩;rw[eE5,eJ7 f];have o:xs=xs.take k++xs.drop k:=(eH8 k xs).symm;rw[o]at l;obtain⟨p,B,i,j,C⟩:=af4 _ _ l;have g:=Q9 j;rw[eE5,eJ7 f]at g;rw[<-o]at i;have:d.toList.take (k*A9.sz α)=p:=by
   have m:=eE9 (take (k*A9.sz α)) i;rw[take_take,eJ7 (eN1 _ f),<-g,eN4]at m;rw[<-g];exact m
  rw[this];exact j
end
def cE3{α:Type}(l:List α):l=[]\/∃s a,l=s++[a]:=by
 rcases eq_nil_or_concat l with h|⟨s,a,h⟩
 .exact .inl h
 .exact .inr ⟨s,a,by rw[h,concat_eq_append]⟩
def di4(pg)(nx pv:List (List Int))(w)(a7:GR (n8 w) pg nx pv)(hg:H1 nx.length nx)(cj:nx.length<=5000):
  p7 prog 336 #[pg] w λu B=>((∃r,B7 (n8 w) B 3 u r/\bp9 nx nx.length r)/\o6 w B):=by
 have bW:=a7;obtain⟨gb,vn,vp,rfl,h1,h2,h3,h4⟩:=a7;refine y5 [.pointer (some ⟨gb,0,none⟩)] func336 rfl ?_;have bM:=M0 (P:=prog) (t:=261) h1 (n7 _) ag3;have bG:=h3.isS;have bO:=h3.vlen;obtain⟨u0,w0,bN,be,aS,cf,_⟩:=mk (P:=prog) (w:=w) (h:=n8 w) bw9 Y5 (α:=Bool) (y:=false) rfl (n:=nx.length) om om (n7 _);have a9:=M0 (P:=prog) (t:=261) h1 (b7 aS) ag3;obtain⟨u1,w1,bd,bP,au,bK,_⟩:=mk (P:=prog) (w:=w0) (h:=n8 w) V8 aN0 (α:=Int) (y:=0) rfl (n:=nx.length) om om (b7 aS);have aM:=aS.trans au;have ba:=M0 (P:=prog) (t:=261) h1 (b7 aM) ag3;have ab:Dj u0 u1:=Dj.fresh be bK;simp only[P8,Y7,ad8,simprocAttr,bM,bG,bO,bN,a9,bd,ba];refine E4 [0,5,6,26] (σ:=List Int×List Bool×List Int×Nat) (λs f B=>f 27=s.2.2.2/\s.2.2.2<=nx.length/\B7 (n8 w) B 3 (f 3) s.1/\B7 (n8 w) B 3 (f 4) ([]:List Int)/\B7 (n8 w) B 4 u0 s.2.1/\B7 (n8 w) B 3 u1 s.2.2.1 /\
   Dj (f 3) (f 4)/\Dj u0 (f 3)/\Dj u0 (f 4)/\Dj u1 (f 3)/\Dj u1 (f 4)/\o6 w B/\DI nx nx.length s.1 [] s.2.1 s.2.2.1/\∀r:Nat,r<s.2.2.2->A5 s.2.1 r=true)
  (λs=>nx.length-s.2.2.2) ([],replicate nx.length false,replicate nx.length 0,0) ?_ ?_
 .simp only[C9,simprocAttr];exact⟨tt,eE2 _,B7.nil _ _ _,B7.nil _ _ _,be.ext au,bP,Dj.nil _,Dj.nil _,Dj.nil _,Dj.nil _,Dj.nil _,aM,DI.start rfl,λr hr=>om⟩
 .rintro⟨aV,sn,aZ,r⟩ f w2 hk ⟨X,bR,F,i,o,m,z,p,j,C,q,hx,l,d⟩;simp only at X bR F i o m l d;simp only[eF8,C9,simprocAttr]at hk;obtain⟨e0,e5,e6,a0,_⟩:=hk;simp only[P8,E2,I6,simprocAttr,X,a0];refine A7 (λci=>?_) ?_
  .have bi:J2 nx.length (r:Int)=true:=C0.2 ⟨om,om⟩;have aI:J2 sn.length (r:Int)=true:=by rw[l.slen];exact bi
   obtain⟨O,bh⟩:=O5 aI;simp only[eF4]at O bh;have ay:=o.inS O;have aC:=E8 (P:=prog) (t:=4) o (k:=r) (x:=A5 sn r) (by rw[bh];simp[getD,O]) ag4;have cc:=o.isS;rcases eD2 (A5 sn r)with hbs|hbs
   case' inl=>
    have Z:(!A5 sn r)=false:=by rw[hbs];rfl
    simp only[P8,Y7,unV,A6,L6.val,simprocAttr,X,e5,ay,aC,Z];refine E4 [0,5,6,26,27] (σ:=List Int×List Int×List Bool×List Int) (λs f B=>B7 (n8 w) B 3 (f 3) s.1/\B7 (n8 w) B 3 (f 4) s.2.1/\B7 (n8 w) B 4 u0 s.2.2.1/\B7 (n8 w) B 3 u1 s.2.2.2 /\
      Dj (f 3) (f 4)/\Dj u0 (f 3)/\Dj u0 (f 4)/\Dj u1 (f 3)/\Dj u1 (f 4)/\o6 w B/\DI nx nx.length s.1 s.2.1 s.2.2.1 s.2.2.2/\∀V:Nat,V<r+1->A5 s.2.2.1 V=true)
     (λs=>da4 nx s.2.2.2 nx.length+(nx.length-s.1.length)) (aV,[],sn,aZ) ?_ ?_
    .simp only[C9,simprocAttr];refine⟨F,i,o,m,z,p,j,C,q,hx,l,λV aR=>?_⟩;by_cases hrr:V=r
     .subst hrr;exact hbs
     .exact d V om
   case' inr=>
    have Z:(!A5 sn r)=true:=by rw[hbs];rfl
    obtain⟨w3,s1,s2,s3,s4⟩:=G4 (P:=prog) (t:=4) o rfl (k:=r) O (x:=true) (y:=true) rfl rfl (B1 Y5).choose_spec.1 (by rw[<-F8 (B1 Y5).choose_spec.1];exact aK1);have L:=o.ext2 hx s3;have aF:=F.apart s3 p.symm;have aJ:=i.apart s3 j.symm;have aD:=m.apart s3 ab.symm;obtain⟨p1,u',w4,p2,p3,T,p5⟩:=push (e:=45) V8 rfl aJ (x:=r) (y:=(r:Int)) rfl dG dG (b7 L);simp only[Value.cells]at p1 p2;have av:=aJ.ext2 L T;simp only[P8,Y7,unV,A6,L6.val,simprocAttr,X,e5,ay,aC,Z,s1,p1,p2];refine E4 [0,5,6,26,27] (σ:=List Int×List Int×List Bool×List Int) (λs f B=>B7 (n8 w) B 3 (f 3) s.1/\B7 (n8 w) B 3 (f 4) s.2.1/\B7 (n8 w) B 4 u0 s.2.2.1/\B7 (n8 w) B 3 u1 s.2.2.2 /\
      Dj (f 3) (f 4)/\Dj u0 (f 3)/\Dj u0 (f 4)/\Dj u1 (f 3)/\Dj u1 (f 4)/\o6 w B/\DI nx nx.length s.1 s.2.1 s.2.2.1 s.2.2.2/\∀V:Nat,V<r+1->A5 s.2.2.1 V=true)
     (λs=>da4 nx s.2.2.2 nx.length+(nx.length-s.1.length)) (aV,[(r:Int)],sn.set r true,aZ) ?_ ?_
    .simp only[C9,simprocAttr];have bk:∀c,A5 (sn.set r true) c=if c=(r:Int)then true else A5 sn c:=λc=>by
      have:=O2 (v:=true) (b:=c) aI;simpa only[eF4]using this
     refine⟨aF.apart T z,by simpa using p3,s2.apart T j,aD.apart T q,z.move aF p5,p,j.move s2 p5,C,q.move aD p5,av,?_,λV aR=>?_⟩
     .have:=l.push bi hbs (λg hg=>by cases hg);simpa using this
     .rw[bk];by_cases hrr:V=r
      .subst hrr;simp
      .rw[fh om];exact d V om
   all_goals
    rintro⟨S,bu,A,H⟩ f2 W a8 ⟨F,i,o,m,z,p,j,C,q,hx,l,d⟩;simp only at F i o m l d;simp only[eF8,C9,↓reduceIte,Nat.reduceEqDiff]at a8;obtain⟨g0,g5,g6,bE,a1,_⟩:=a8;rw[e0]at g0;rw[X]at a1;rw[e5]at g5;rw[e6]at g6;rw[a0]at bE;have Y:=i.isS;have N:=i.vlen;have a6:=l.count;simp only[P8,Y7,E2,I6,ad8,simprocAttr,Y,N];refine B2 (λar=>?_) (λar=>?_)
    .rcases cE3 bu with rfl|⟨s,a,rfl⟩
     .simp at ar
     rw[show(s++[a]).length=s.length+1 by simp]at N a6;have bn:IntKind.i64.wrap (((s.length+1:Nat):Int)-1)=(s.length:Int):=by rw[N7 _ om];omega
     have aP:=i.inS (k:=s.length) dG;have bb:=E8 (P:=prog) (t:=3) i (k:=s.length) (x:=a) dG K7;have D:J2 nx.length a=true:=l.ok (.inr dG);have a4:=C0.1 D;have d0:decide (0<=a)=true:=by simpa using a4.1
     obtain⟨au,U⟩:=aE9 D;have bH:=l.atok a D;have cb:=m.isS;have M:=m.inS (k:=a.toNat) (by rw[l.alen];exact U);have bc:=E8 (P:=prog) (t:=3) m (k:=a.toNat) (x:=ai H a) (by simp[ai,getD,l.alen,U]) K7;obtain⟨k,I⟩:∃k:Nat,ai H a=k:=⟨(ai H a).toNat,om⟩;rw[I]at bc bH;have cg:k<=(F1 nx a).length:=om
     have ax:=h3.inS U;obtain⟨x,L,av⟩:=h3.row au;have br:=L.isS;have bs:=L.vlen;have bZ:=hg.row_len (aJ4 D);simp only[P8,Y7,E2,I6,A6,ad8,L6.val,simprocAttr,Y,N,bn,aP,bb];apply C4 (λw2=>w2=W.drew) 12 (A8 [0,1,2,3,4,5,6,7,8,9,10,11]);have ak:=hx.trans (o6.drew W);have aQ:=E8 (P:=prog) (t:=3) (m.ext (o6.drew W)) (k:=a.toNat) (x:=(k:Int)) (by rw[<-I];simp[ai,getD,l.alen,U]) K7;simp only[D7,A8,P8,Y7,A6,simprocAttr,g6,M,d0];refine⟨k,λw2 e=>by subst e;exact aQ,?_⟩;simp only[D7,P8,Y7,simprocAttr,g0];refine⟨vn,λw2 e=>by subst e;exact M0 h1 (b7 ak) ag3,?_⟩;simp only[D7,P8,Y7,A6,simprocAttr,ax,d0];refine⟨x,λw2 e=>by subst e;exact M0 av (b7 ak) ao0,?_⟩;have ag:=F.ext (o6.drew W);have aj:=i.ext (o6.drew W);have ah:=o.ext (o6.drew W);have ae:=m.ext (o6.drew W);by_cases hke:k=(F1 nx a).length
     .have ac:((k:Int)==((F1 nx a).length:Int))=true:=by simp[hke]
      obtain⟨p1,u',w6,p2,p3,T,p5⟩:=push (e:=45) V8 rfl ag (x:=a) (y:=a) rfl om om (b7 ak);simp only[Value.cells]at p1 p2;have bS:=i.vcap;simp only[eD4,eG3]at bS;have a5:decide ((s.length:Int)<=((vcap (f2 4):Nat):Int))=true:=by simp;omega
      simp only[D7,P8,Y7,E2,I6,G7,ad8,simprocAttr,br,bs,ac,p1,p2,Y,N,bn,a5];obtain⟨q1,q2⟩:=(aj.apart T z.symm).pre (k:=s.length) dG dG;have bU:B7 (n8 w) w6 3 (reS (f2 4) 0 s.length 1) s:=by
       have h9:(s++[a]).take s.length=s:=eN4;rw[h9]at q1;exact q1
      have K:∀v:Value,Dj v (f2 4)->Dj v (reS (f2 4) 0 s.length 1):=λv hd b hb bJ=>hd b hb ((q2 b).1 bJ);refine⟨(S++[a],s,A,H),?_,p3,bU,ah.apart T p,ae.apart T C,(K _ (z.symm.move aj p5).symm),p.move ah p5,K _ j,C.move ae p5,K _ q,ag.ext2 ak T,l.pop (by rw[I,hke]),d⟩;simp only[eD4,eG3];omega
     .have ac:((k:Int)==((F1 nx a).length:Int))=false:=by simp;omega
      have E:k<(F1 nx a).length:=om
      simp only[D7,P8,Y7,E2,I6,ad8,simprocAttr,br,bs,ac];apply C4 (λw2=>w2=W.drew.drew) 11 (A8 [0,1,2,3,4,5,6,7,8,9,10]);have Q:=ak.trans (o6.drew W.drew);have bf:=ag.ext (o6.drew W.drew);have bm:=aj.ext (o6.drew W.drew);have bg:=ah.ext (o6.drew W.drew);have af:=ae.ext (o6.drew W.drew);have J:=E8 (P:=prog) (t:=3) af (k:=a.toNat) (x:=(k:Int)) (by rw[<-I];simp[ai,getD,l.alen,U]) K7;simp only[D7,A8,P8,Y7,simprocAttr,g0];refine⟨vn,λw2 e=>by subst e;exact M0 h1 (b7 Q) ag3,?_⟩;simp only[D7,P8,Y7,A6,simprocAttr,ax,d0];refine⟨x,λw2 e=>by subst e;exact M0 av (b7 Q) ao0,?_⟩;simp only[D7,P8,Y7,A6,simprocAttr,g6,M,d0];refine⟨k,λw2 e=>by subst e;exact J,?_⟩;have az:=L.inS E;have ad:=O4 (P:=prog) (t:=3) L (b7 Q) (eD1 E) K7;have aT:(F1 nx a)[k]?=some (F1 nx a)[k]:=eD1 E;have am:(F1 nx a)[k]∈F1 nx a:=eE1 E;generalize(F1 nx a)[k]=y at ad aT am;have aU:J2 nx.length y=true:=hg.ok _ (aJ4 D) y am;have R:J2 A.length y=true:=by rw[l.slen];exact aU
      obtain⟨al,bT⟩:=O5 R;have dy:decide (0<=y)=true:=by simpa using(C0.1 aU).1
      have bo:IntKind.i64.wrap ((k:Int)+1)=((k+1:Nat):Int):=I9 k;obtain⟨w7,t1,t2,t3,t4⟩:=G4 (P:=prog) (t:=3) af rfl (k:=a.toNat) (by rw[l.alen];exact U) (x:=(k+1:Nat)) (y:=((k+1:Nat):Int)) rfl rfl (B1 aN0).choose_spec.1 (by rw[<-F8 (B1 aN0).choose_spec.1];exact bx6);have bp:=af.ext2 Q t3;have aG:=bf.apart t3 C.symm;have aK:=bm.apart t3 q.symm;have G:=bg.apart t3 ab;have aA:=G.inS al;have aB:=E8 (P:=prog) (t:=4) G (k:=y.toNat) (x:=A5 A y) (by rw[bT];simp[getD,al]) ag4;have ch:=dl3 (nx:=nx) l.alen D I E;have bj:A5 A a=true:=(l.mark a).2 (.inr dG);have bY:y∈F1 nx a:=am;rcases eD2 (A5 A y)with hby|hby
      .have aa:(!A5 A y)=false:=by rw[hby];rfl
       simp only[D7,P8,Y7,E2,I6,unV,A6,L6.val,simprocAttr,az,ad,g6,g5,M,d0,J,bo,t1,aA,dy,aB,aa];exact⟨(S,s++[a],A,H.set a.toNat ((k+1:Nat):Int)),so,aG,aK,G,t2,z,p,j,C,q,bp,l.adv D I aT hby bj,d⟩
      .have aa:(!A5 A y)=true:=by rw[hby];rfl
       obtain⟨w8,v1,v2,v3,v4⟩:=G4 (P:=prog) (t:=4) G rfl (k:=y.toNat) al (x:=true) (y:=true) rfl rfl (B1 Y5).choose_spec.1 (by rw[<-F8 (B1 Y5).choose_spec.1];exact aK1);have bq:=G.ext2 bp v3;have aH:=aG.apart v3 p.symm;have aL:=aK.apart v3 j.symm;have aE:=t2.apart v3 ab.symm;obtain⟨p1,u',w9,p2,p3,T,p5⟩:=push (e:=45) V8 rfl aL (x:=y) (y:=y) rfl (by simp;omega) (by simp;omega) (b7 bq);simp only[Value.cells]at p1 p2;simp only[D7,P8,Y7,E2,I6,unV,A6,L6.val,simprocAttr,az,ad,g6,g5,M,d0,J,bo,t1,aA,dy,aB,aa,v1,p1,p2];refine⟨(S,(s++[a])++[y],A.set y.toNat true,H.set a.toNat ((k+1:Nat):Int)),so,aH.apart T z,p3,v2.apart T j,aE.apart T q,z.move aH p5,p,j.move v2 p5,C,q.move aE p5,aL.ext2 bq T,?_,λV aR=>?_⟩
       .have bQ:=l.push aU hby λg bL=>by
         rcases eE0.1 bL with h9|h9
         .exact .step ((List.pairwise_append.1 l.path).2.2 g h9 a dG) am
         .simp at h9;subst h9;exact Y6.one am
        refine bQ.adv D I aT ?_ (bh5 R bj);rw[O2 R,fi rfl]
       .exact bh5 R (d V aR)
    .have bl:bu=[]:=by
      simp at ar;exact ar
     subst bl;simp only[P8,E2,I6,simprocAttr,a1];refine U5 (S,A,H,r+1) ⟨F,i,o,m,z,p,j,C,q,hx,l,d⟩
  .rintro rfl;simp only[P8,simprocAttr];refine o8 results336 ⟨⟨aV,F,l.fin λb hb=>?_⟩,hx⟩;have cd:=C0.1 hb;have:=d b.toNat om
   rwa [show((b.toNat:Nat):Int)=b by omega]at this
def eM9:=@drop_zero
def aY4(nx:List (List Int))(b m:Int):Prop:=aE1 nx b m/\∀c,aE1 nx b c->m<=c
def aY4.uniq{nx:List (List Int)}{b m m'}(h:aY4 nx b m)(a:aY4 nx b m'):m=m':=
 Int.le_antisymm (h.2 _ a.1) (a.2 _ h.1)
def cV6{n}{nx:List (List Int)}(e:H1 n nx){a b}(h:Y6 nx a b)(c:J2 n a=true):J2 n b=true:=by
 cases h with
 | refl=>exact c
 | step _ d=>exact(e.row _).2 _ d
inductive ca4 (nx:List (List Int)):Int->Int->Prop
 | refl {a:Int}:ca4 nx a a
 | head {a b c:Int}:b∈F1 nx a->ca4 nx b c->ca4 nx a c
def ca4.snoc{nx:List (List Int)}{a b c}(h:ca4 nx a b)(d:c∈F1 nx b):ca4 nx a c:=by
 induction h with
 | refl=>exact .head d .refl
 | head e _ f=>exact .head e (f d)
def Y6.toL{nx:List (List Int)}{a b}(h:Y6 nx a b):ca4 nx a b:=by
 induction h with
 | refl=>exact .refl
 | step _ c d=>exact d.snoc c
def ca4.way{nx:List (List Int)}{a b}(h:ca4 nx a b):Y6 nx a b:=by
 induction h with
 | refl=>exact .refl
 | head c _ d=>exact(Y6.one c).trans d
structure PI (nx:List (List Int)) (n:Nat) (order:List Int) (seen:List Bool) (part:List Int) (k:Nat):Prop where
 slen:seen.length=n
 plen:part.length=n
 mark:∀b,A5 seen b=true↔∃c∈order.drop k,aE1 nx c b
 part:∀b,A5 seen b=true->aY4 nx b (ai part b)
section
variable {nx pv:List (List Int)} {n:Nat} {order:List Int} {seen:List Bool} {part:List Int} {k:Nat}
def PI.start(c:bp9 nx n order):PI nx n order (replicate n false) (replicate n 0) n:=
 ⟨dG,dG,λb=>by simp[aO3,<-c.len],λb a=>by rw[aO3]at a;cases a⟩
def co4{l:List Int}{k r}(h:l[k]?=some r):l.drop k=r::l.drop (k+1):=by
 obtain⟨a,e⟩:=eD8.1 h;rw[eI2 a,e]
def PI.old(h:PI nx n order seen part (k+1)){r}(i:order[k]?=some r)(j:A5 seen r=true):PI nx n order seen part k:=by
 refine⟨h.slen,h.plen,λb=>?_,h.part⟩;rw[h.mark,co4 i];constructor
 .rintro⟨c,a,e⟩;exact⟨c,eI1 _ a,e⟩
 .rintro⟨c,a,e⟩;rcases eF0.1 a with rfl|a
  .obtain⟨d,g,f⟩:=(h.mark c).1 j;exact⟨d,g,f.trans e⟩
  .exact⟨c,a,e⟩
def PI.walk(h:PI nx n order seen part (k+1))(u:bp9 nx n order)(O:H1 n nx)(hb:∀a b,b∈F1 nx a↔a∈F1 pv b){r:Int}(P:order[k]?=some r)(Q:A5 seen r=false)(b):
  Via pv (seen.set r.toNat true) [r] b↔aE1 nx r b:=by
 have G:r∈order:=eF7 P;have F:=(u.mem r).1 G;have v:J2 seen.length r=true:=by rw[h.slen];exact F
 have i:∀c,A5 (seen.set r.toNat true) c=if c=r then true else A5 seen c:=λc=>O2 v;have d:order=order.take k++r::order.drop (k+1):=by rw[<-co4 P,eH8]
 have E:r∉order.take k:=by
  have:=u.nod;rw[d,eI6]at this;exact λS=>this.2.2 r S r dG rfl
 constructor
 .intro T
  induction T with
  | base N=>simp at N;subst N;exact .refl _
  | @step a b _ z g L=>
   have l:a∈F1 nx b:=(hb b a).2 z;have I:Y6 nx b r:=(Y6.one l).trans L.2;have t:b≠r:=by
    rintro rfl;rw[i,fi rfl]at g;cases g
   rw[i,fh t]at g;have o:J2 n b=true:=by
    cases hq:J2 n b with
    | true=>rfl
    | false=>
     rw[bw1 (by rw[O.len];exact hq)]at l;cases l
   have j:∀c∈order.drop (k+1),¬aE1 nx c b:=λc q f=>by
    rw[(h.mark b).2 ⟨c,q,f⟩]at g;cases g
   have p:=(u.mem b).2 o;rw[d]at p;have A:b∈order.take k:=by
    rcases eE0.1 p with e|e
    .exact e
    .rcases eF0.1 e with e|e
     .exact fj e t
     .exact fj (aE1.refl b) (j b e)
   obtain⟨c,q,f⟩:=u.cut k b A r E I;have C:J2 n c=true:=cV6 O f.2 o;have s:=(u.mem c).2 C;rw[d]at s;rcases eE0.1 s with e|e
   .exact fj e q
   .rcases eF0.1 e with e|e
    .subst e;exact f
    .exact fj f (j c e)
 .rintro⟨e,R⟩;have M:∀x y,ca4 nx x y->y=r->Y6 nx r x->Via pv (seen.set r.toNat true) [r] x:=by
   intro x y J
   induction J with
   | refl=>rintro rfl _;exact .base dG
   | @head x b y m B L=>
    rintro rfl w;by_cases hxr:x=y
    .subst hxr;exact .base dG
    .refine .step (L rfl (w.trans (Y6.one m))) ((hb x b).1 m) ?_;rw[i,fh hxr];rw[eN8];intro H;obtain⟨c,q,D⟩:=(h.mark x).1 H;have K:aE1 nx x y:=⟨(Y6.one m).trans B.way,w⟩;rw[(h.mark y).2 ⟨c,q,D.trans K⟩]at Q;cases Q
  exact M b r R.toL rfl e
def PI.new(h:PI nx n order seen part (k+1)){r}(q:order[k]?=some r){a:List Bool}{d:List Int}{m}(o:a.length=n)(j:d.length=n)
  (hm:∀b,A5 a b=true↔A5 seen b=true\/aE1 nx r b) (e:aY4 nx r m) (p:∀b,A5 a b=true->ai d b=if A5 seen b=true then ai part b else m):PI nx n order a d k:=by
 refine⟨o,j,λb=>?_,λb f=>?_⟩
 .rw[hm,h.mark,co4 q];constructor
  .rintro(⟨c,g,f⟩|f)
   .exact⟨c,eI1 _ g,f⟩
   .exact⟨r,dG,f⟩
  .rintro⟨c,g,f⟩;rcases eF0.1 g with rfl|g
   .exact .inr f
   .exact .inl ⟨c,g,f⟩
 .rw[p b f];split
  .rename_i l;exact h.part b l
  .rename_i l;rcases(hm b).1 f with i|i
   .exact fj i l
   .exact⟨i.symm.trans e.1,λc g=>e.2 c (i.trans g)⟩
def PI.fin(h:PI nx n order seen part 0)(c:bp9 nx n order):part.length=n/\∀b,J2 n b=true->aY4 nx b (ai part b):=
 ⟨h.plen,λb a=>h.part b ((h.mark b).2 ⟨b,by rw[eM9];exact(c.mem b).2 a,.refl b⟩)⟩
def dj3(l:List Int):∀x:Int,l.foldl min x<=x/\(∀y∈l,l.foldl min x<=y)/\(l.foldl min x=x\/l.foldl min x∈l):=by
 induction l with
 | nil=>intro x;exact⟨Int.le_refl _,λy b=>fj b eH6,.inl rfl⟩
 | cons z l d=>
  intro x;obtain⟨e,c,a⟩:=d (min x z);rw[foldl_cons];refine⟨om,λy b=>?_,?_⟩
  .rcases eF0.1 b with rfl|b
   .omega
   .exact c y b
  .rcases a with a|a
   .rw[a];rcases Int.le_total x z with h|h
    .exact .inl (Int.min_eq_left h)
    .exact .inr (by rw[Int.min_eq_right h];simp)
   .exact .inr (eI1 _ a)
end
def df0(pg)(nx pv:List (List Int))(w)(aQ:GR (n8 w) pg nx pv)(au:aY1 nx.length (nx,pv))(bI:nx.length<=5000):
  p7 prog 316 #[pg] w λu H=>((∃p,B7 (n8 w) H 3 u p/\p.length=nx.length/\∀b,J2 nx.length b=true->aY4 nx b (ai p b))/\o6 w H):=by
 have aR:=aQ;have hg:H1 nx.length nx:=au.nx;have av:H1 nx.length pv:=au.pv;have aP:H1 pv.length pv:=by rw[av.len];exact av
 have az:pv.length=nx.length:=av.len;obtain⟨gb,vn,vp,rfl,h1,h2,h3,h4⟩:=aQ;refine y5 [.pointer (some ⟨gb,0,none⟩)] func316 rfl ?_;have bF:=M0 (P:=prog) (t:=261) h1 (n7 _) ag3;have bv:=h3.isS;have bJ:=h3.vlen;obtain⟨u0,w0,bH,ay,aC,ch,_⟩:=mk (P:=prog) (w:=w) (h:=n8 w) V8 aN0 (α:=Int) (y:=0) rfl (n:=nx.length) om om (n7 _);have aX:=M0 (P:=prog) (t:=261) h1 (b7 aC) ag3;obtain⟨u1,w1,aZ,a2,aD,bA,_⟩:=mk (P:=prog) (w:=w0) (h:=n8 w) bw9 Y5 (α:=Bool) (y:=false) rfl (n:=nx.length) om om (b7 aC);have R:=aC.trans aD;have I:Dj u0 u1:=Dj.fresh ay bA;simp only[P8,Y7,E2,ad8,simprocAttr,bF,bv,bJ,bH,aX,aZ];apply z6 (di4 _ nx pv w1 (aR.mono (b7 R)) hg bI);rintro u2 w2 ⟨⟨d,i,q⟩,aE⟩;have bd:=R.trans aE;have a3:=i.back R;have bt:=i.isS;have aW:=i.vlen;have bK:=q.len;rw[bK]at aW;have a1:∀b,B0 u2 b->w1.heap.size<=b:=λb g=>by
  have:=i.free g;simpa[n8]using this
 have aM:Dj u0 u2:=Dj.fresh (ay.ext aD) a1;have X:Dj u1 u2:=Dj.fresh a2 a1;have bN:IntKind.i64.wrap ((nx.length:Int)-1)=(nx.length:Int)-1:=N7 _ om;simp only[P8,Y7,E2,I6,ad8,simprocAttr,bt,aW,bN];refine E4 [0,3,4,5] (σ:=List Bool×List Int×Nat) (λs f H=>f 6 = .int .i64 ((s.2.2:Int)-1)/\s.2.2<=nx.length/\B7 (n8 w) H 4 u1 s.1/\B7 (n8 w) H 3 u0 s.2.1/\B7 (n8 w) H 3 u2 d/\o6 w H/\PI nx nx.length d s.1 s.2.1 s.2.2)
  (λs=>s.2.2) (replicate nx.length false,replicate nx.length 0,nx.length) ?_ ?_
 .exact⟨rfl,eE8 _,a2.ext aE,(ay.ext aD).ext aE,a3,bd,PI.start q⟩
 .rintro⟨V,pt,k⟩ f w3 hk ⟨h6,bE,v,T,i,hx,F⟩;simp only at h6 bE v T F;simp only[eF8,C9,simprocAttr]at hk;obtain⟨e0,e3,e4,e5,_⟩:=hk;simp only[P8,E2,I6,simprocAttr,h6];refine B2 (λhc=>?_) (λhc=>?_)
  .obtain⟨k,rfl⟩:∃j,k=j+1:=⟨k-1,by simp at hc;omega⟩;have bD:((k+1:Nat):Int)-1=(k:Int):=om
   rw[bD]at h6;have K:k<d.length:=om
   have J:=i.inS K;have L:=E8 (P:=prog) (t:=3) i (eD1 K) K7;have z:d[k]?=some d[k]:=eD1 K;generalize d[k]=r at L z;have aA:J2 nx.length r=true:=(q.mem r).1 (eF7 z);have ah:J2 V.length r=true:=by rw[F.slen];exact aA
   obtain⟨O,bM⟩:=O5 ah;have dr:decide (0<=r)=true:=by simpa using(C0.1 aA).1
   have Y:=v.inS O;have aa:=E8 (P:=prog) (t:=4) v (k:=r.toNat) (x:=A5 V r) (by rw[bM];simp[getD,O]) ag4;have cg:=v.isS;have ce:=i.isS;have bc:IntKind.i64.wrap ((k:Int)-1)=(k:Int)-1:=N7 _ om;rcases eD2 (A5 V r)with hbs|hbs
   .simp only[P8,Y7,E2,I6,A6,L6.val,simprocAttr,h6,e4,e5,J,L,Y,dr,aa,hbs,bc];exact U5 (V,pt,k) ⟨v,T,i,hx,F.old z hbs⟩
   .obtain⟨S,s1,s2,s3,s4⟩:=G4 (P:=prog) (t:=4) v rfl (k:=r.toNat) O (x:=true) (y:=true) rfl rfl (B1 Y5).choose_spec.1 (by rw[<-F8 (B1 Y5).choose_spec.1];exact aK1);have ad:=T.apart s3 I;have B:=i.apart s3 X.symm;have bG:=E8 (P:=prog) (t:=3) B z K7;simp only[P8,Y7,A6,L6.val,simprocAttr,h6,e4,e5,J,L,Y,dr,aa,hbs,s1];apply C4 (λw2=>o6 S.drew w2) 10 (A8 [0,1,2,3,4,5,6,7,8,9]);have U:=(v.ext2 hx s3).trans (o6.drew S);simp only[D7,A8,P8,Y7,simprocAttr,e0];refine⟨vp,λw2 e=>M0 h2 (b7 (U.trans e)) ag3,?_⟩;simp only[D7,P8,Y7,A6,simprocAttr,e4,e5,h6,J];refine⟨r,λw2 e=>E8 ((B.ext (o6.drew S)).ext e) z K7,?_⟩;obtain⟨vt,w5,aY,a7,G,aq⟩:=lit (P:=prog) (w:=S.drew) (h:=n8 w) (α:=Int) (xs:=[r]) (ys:=[r]) (parts:=#[(0,r)]) (n:=1) V8 rfl (G6.2 rfl) (by simp[Value.cells]) rfl rfl dG dG (b7 U);have af:=s2.ext ((o6.drew S).trans G);have aO:Dj u1 vt:=Dj.fresh (s2.ext (o6.drew S)) aq;have Q:∀c,A5 (V.set r.toNat true) c=if c=r then true else A5 V c:=λc=>O2 ah;simp only[D7,P8,simprocAttr,aY,F2];refine⟨G,?_⟩;apply z6 (cJ2 (n8 w) vp u1 vt pv (V.set r.toNat true) [r] w5 (b7 (U.trans G)) h4 aP af a7 aO (by simp[F.slen,az]) (λa ha=>by simp at ha;subst ha;rw[Q,fi rfl]) om dG);rintro u3 w6 ⟨td,aF,C,a6,bY,ax,a0,M⟩;have bb:∀b,B0 vt b->w.heap.size<=b:=λb g=>by
     have:=a7.free g;exact eQ7 λaw=>by simp[n8,aw]at this
    have be:o6 w w6:=t8.ext_of (U.trans G) ax λb g=>by
     rcases g with g|g
     .have:=af.free g;exact eQ7 λaw=>by simp[n8,aw]at this
     .exact bb b g
    have ae:=ad.ext ((o6.drew S).trans G);have W:Dj u0 vt:=Dj.fresh (ad.ext (o6.drew S)) aq;have aN:Dj u2 vt:=Dj.fresh (B.ext (o6.drew S)) aq;have a5:=ae.mod ax λb g am=>am.elim (I b g) (W b g);have a4:=(B.ext ((o6.drew S).trans G)).mod ax λb g am=>am.elim (λh=>X b h g) (aN b g);have ap:Dj u0 u3:=W.move ae a0;have aB:=F.walk q hg au.both z hbs;have A:∀b,b∈td↔aE1 nx r b:=λb=>by rw[M.via,aB]
    have a8:r∈td:=(A r).2 (.refl r);have ba:=M.size;simp only[eG3,eK6]at ba;have ci:=F.slen;obtain⟨x,l,rfl⟩:∃x l,td=x::l:=by
     cases td with
     | nil=>cases a8
     | cons x l=>exact⟨x,l,rfl⟩
    simp only[eG6]at ba;simp only[P8,simprocAttr];apply z6 (dR0 u3 x l w6 (C.rw_ (b7 be)) om);rintro u4 w7 ⟨rfl,rfl⟩;obtain⟨bg,bh,bi⟩:=dj3 l x;generalize l.foldl min x=m at bg bh bi;have bu:=C.isS;simp only[P8,Y7,ad8,simprocAttr,bu,C.vlen];refine E4 [0,3,4,5,6,8,60,61] (σ:=List Int×Nat) (λs f H=>f 62=s.2/\s.2<=(x::l).length/\B7 (n8 w) H 3 u0 s.1/\B7 (n8 w) H 4 u1 aF/\B7 (n8 w) H 3 u2 d/\B7 (n8 w) H 3 u3 (x::l)/\o6 w H/\s.1.length=nx.length /\
      ∀b,J2 nx.length b=true->ai s.1 b=if b∈(x::l).take s.2 then m else ai pt b)
     (λs=>(x::l).length-s.2) (pt,0) ?_ ?_
    .exact⟨rfl,eE2 _,a5,a6,a4,C,be,F.plen,λb _=>dG⟩
    .rintro⟨bj,j⟩ f2 w8 aV ⟨al,bC,o,ag,ac,N,bf,D,E⟩;simp only at al bC o D E;simp only[eF8,C9,↓reduceIte,Nat.reduceEqDiff]at aV;obtain⟨g0,g3,g4,g5,g6,g8,br,bs,_⟩:=aV;rw[e0]at g0;rw[e3]at g3;rw[e4]at g4;rw[e5]at g5;rw[h6]at g6;simp only[P8,E2,I6,simprocAttr,al,bs];refine B2 (λao=>?_) (λao=>?_)
     .have hj:j<(x::l).length:=by simp only[eH1]at ao;omega
      have aS:=N.inS hj;have Z:=E8 (P:=prog) (t:=3) N (eD1 hj) K7;have a9:=eD9 hj;have aL:(x::l)[j]∈(x::l):=eE1 hj;generalize(x::l)[j]=a at Z a9 aL;have aJ:J2 nx.length a=true:=cV6 hg ((A a).1 aL).1 aA;have aK:=C0.1 aJ;have da:decide (0<=a)=true:=by simpa using aK.1
      have cf:=o.isS;have aT:=o.inS (k:=a.toNat) om;obtain⟨w9,t1,t2,t3,t4⟩:=G4 (P:=prog) (t:=3) o rfl (k:=a.toNat) om (x:=m) (y:=m) rfl rfl (B1 aN0).choose_spec.1 (by rw[<-F8 (B1 aN0).choose_spec.1];exact bx6);simp only[P8,Y7,E2,I6,A6,L6.val,simprocAttr,al,br,g3,g8,aS,Z,aT,da,t1];refine⟨(bj.set a.toNat m,j+1),om,by rw[I9 j (by simp at hj;omega)],om,t2,ag.apart t3 I.symm,ac.apart t3 aM.symm,N.apart t3 ap.symm,o.ext2 bf t3,by simp[D],λb g=>?_⟩;simp only[];rw[bz1 D aJ g,a9];by_cases hba:b=a
      .subst hba;simp
      .rw[fh hba,E b g];simp[hba]
     .have ar:j=(x::l).length:=by
       simp only[eP4]at ao;omega
      subst ar;rw[eE4]at E;simp only[P8,E2,I6,simprocAttr,g6,bc];have ab:∀b,A5 aF b=true↔A5 V b=true\/aE1 nx r b:=λb=>by
       rw[M.mark,Q,A];by_cases hbr:b=r
       .subst hbr;simp[aE1.refl]
       .simp[hbr]
      refine U5 (aF,bj,k) ⟨ag,o,ac,bf,F.new z (by rw[M.len];simp[F.slen]) D ab (m:=m) ⟨(A m).1 ?_,λc hc=>?_⟩ λb g=>?_⟩
      .rcases bi with h|h
       .rw[h];simp
       .exact eI1 _ h
      .rcases eF0.1 ((A c).2 hc)with h|h
       .rw[h];exact bg
       .exact bh c h
      .have bw:J2 nx.length b=true:=by
        have:=W3 g;rw[M.len]at this;simpa[F.slen]using this
       rw[E b bw];by_cases hsb:A5 V b=true
       .rw[fi hsb,fh];intro bx;have bL:=(A b).1 bx;obtain⟨c,hc,bz⟩:=(F.mark b).1 hsb;rw[(F.mark r).2 ⟨c,hc,bz.trans bL.symm⟩]at hbs;cases hbs
       .rw[fh hsb,fi];rcases(ab b).1 g with h|h
        .exact fj h hsb
        .exact(A b).2 h
  .have ar:k=0:=by simp at hc;omega
   subst ar;simp only[P8,Y7,simprocAttr];apply o8 results316;simp only[C9,simprocAttr];obtain⟨q1,q2⟩:=F.fin q;rw[e3];exact⟨⟨pt,T,q1,q2⟩,hx⟩
def ca5(n:Int)(e:Int×Int):Bool:=decide (e.1<0)||decide (e.1≥n)||decide (e.2<0)||decide (e.2≥n)
def cL2{n:Nat}{e:Int×Int}:ca5 n e=false↔bE7 n e:=by
 simp[ca5,bE7];omega
def bC9{P t}(a:L7 P t=false)(b:(P.underlying t).isSome=true){cs i v}(h:cs[i]?=some v)(w):(part t cs i).run P w = .ok v w:=by
 unfold part;simp only[eG2,al5 t b,eF5,a,eK7,eM4,h,eH9]
def R.pre{α:Type}[A9 α]{h v}{xs:List α}(q:R h v xs){k}(y:k<=xs.length):R h (reS v 0 k (A9.sz α)) (xs.take k):=by
 obtain⟨a,n,c,e,w,x,u,b,p⟩:=q;simp at e;subst e;have r:xs=xs.take k++xs.drop k:=(eH8 k xs).symm;rw[r]at b;obtain⟨g,s,i,l,t⟩:=af4 _ _ b;refine⟨if c=0 then a else a.map (·.add (0*A9.sz α)),k-0,c-0,rfl,by rw[eE5];omega,om,g,l,λj v d=>?_⟩;obtain⟨f,m,o⟩:=p j v (by rw[i,eI7 (eD8.1 d).1];exact d);refine⟨f,?_,o⟩;subst m;split<;>simp[O9]
def dg2(m x y):(decide (x<0)=true/\ca5 m (x,y)=true)\/(decide (x<0)=false/\decide (x≥m)=true/\ca5 m (x,y)=true) \/
  (decide (x<0)=false/\decide (x≥m)=false/\decide (y<0)=true/\ca5 m (x,y)=true)\/(decide (x<0)=false/\decide (x≥m)=false/\decide (y<0)=false/\decide (y≥m)=true/\ca5 m (x,y)=true) \/
  (decide (x<0)=false/\decide (x≥m)=false/\decide (y<0)=false/\decide (y≥m)=false/\ca5 m (x,y)=false):=by
 unfold ca5;cases decide (x<0)<;>cases decide (x≥m)<;>cases decide (y<0)<;>cases decide (y≥m)<;>simp
def aK9(d:Nat)(xs ys:Array Value):List (Bool×TypeId×Nat)->Sem Bool
 | []=>pure true
 | (b,t,o)::l=>if b=true then do
   let x <-part t xs o
   let y <-part t ys o
   let r <-Op.equalIn d t x y
   if(!r)=true then pure false else aK9 d xs ys l
  else aK9 d xs ys l
def aA2(d xs ys):∀fs:List Field,Op.eqFields d xs ys fs=aK9 d xs ys (fs.map λf=>(decide (f.name ≠ "_"),f.type,f.offset))
 | []=>rfl
 | f::fs=>by
  rw[Op.eqFields,eI4,aK9,aA2 d xs ys fs];by_cases h:f.name = "_" <;> simp[h]
def V5{P d xs ys t o}{l:List (Bool×TypeId×Nat)}{a b r r'}(w)(f:(part t xs o).run P w = .ok a w)(g:(part t ys o).run P w = .ok b w)(e:(Op.equalIn d t a b).run P w = .ok r w)(c:(aK9 d xs ys l).run P w = .ok r' w):
  (aK9 d xs ys ((true,t,o)::l)).run P w = .ok (r&&r') w:=by
 rw[aK9,fi rfl];simp only[eG2,f,g,e,eF5];cases r
 .simp
 .simpa using c
theorem aL0{P d xs ys}(w):(aK9 d xs ys []).run P w = .ok true w:=rfl
def bQ7(w d)(a b:B9):(Op.equalIn (d+1) 9 a b).run prog w = .ok (decide (a=b)) w:=by
 have:=run_equalIn_string (P:=prog) w d 9 ⟨a.b.toArray⟩ ⟨b.b.toArray⟩ Tryz.underlying9;rw[aG6,aG6,bM7]at this;exact this
def aH8(w d a b):(Op.equalIn (d+1) 3 (.int .i64 a) (.int .i64 b)).run prog w = .ok (decide (a=b)) w:=by
 have:=run_equalIn_int (P:=prog) w d 3 .i64 .i64 a b Tryz.underlying3;rw[this];congr 1
def di6(w d a b):(Op.equalIn (d+1) 4 (.bool a) (.bool b)).run prog w = .ok (decide (a=b)) w:=by
 have:=run_equalIn_bool' (P:=prog) w d 4 a b Tryz.underlying4;rw[this];cases a<;>cases b<;>rfl
def aB1(cs i v)(h:cs[i]?=some v)(w):(part 9 cs i).run prog w = .ok v w:=bC9 (P:=prog) (t:=9) as9 kr h w
def X1(cs i v)(h:cs[i]?=some v)(w):(part 3 cs i).run prog w = .ok v w:=bC9 (P:=prog) (t:=3) K7 kr h w
def ci5(cs i v)(h:cs[i]?=some v)(w):(part 4 cs i).run prog w = .ok v w:=bC9 (P:=prog) (t:=4) ag4 kr h w
def dP2(w d)(p q:Pa):(Op.equalIn (d+2) 72 (.agg p.cells.toArray) (.agg q.cells.toArray)).run prog w = .ok (decide (p=q)) w:=by
 rw[run_equalIn_struct (P:=prog) w (d+1) 72 _ _ kr kr,aA2];have hf:(prog.fieldsOf 72).toList.map (λf=>(decide (f.name ≠ "_"),f.type,f.offset))=[(true,9,0),(true,4,1)]:=kr
 rw[hf,V5 w (aB1 _ _ _ rfl w) (aB1 _ _ _ rfl w) (bQ7 w d _ _) (V5 w (ci5 _ _ _ rfl w) (ci5 _ _ _ rfl w) (di6 w d _ _) (aL0 w))]
 congr 1
 cases p;cases q;simp[Pa.mk.injEq,Bool.decide_and]
def br4(w d)(p q:Vx):(Op.equalIn (d+2) 27 (.agg p.cells.toArray) (.agg q.cells.toArray)).run prog w = .ok (decide (p=q)) w:=by
 rw[run_equalIn_struct (P:=prog) w (d+1) 27 _ _ kr kr,aA2];have hf:(prog.fieldsOf 27).toList.map (λf=>(decide (f.name ≠ "_"),f.type,f.offset))=[(true,9,0),(true,3,1),(true,3,2),(true,9,3)]:=kr
 rw[hf,V5 w (aB1 _ _ _ rfl w) (aB1 _ _ _ rfl w) (bQ7 w d _ _) (V5 w (X1 _ _ _ rfl w) (X1 _ _ _ rfl w) (aH8 w d _ _) (V5 w (X1 _ _ _ rfl w) (X1 _ _ _ rfl w) (aH8 w d _ _) (V5 w (aB1 _ _ _ rfl w) (aB1 _ _ _ rfl w) (bQ7 w d _ _) (aL0 w))))]
 congr 1
 cases p;cases q;simp[Vx.mk.injEq,Bool.decide_and]
def bM5(cs:Array Value)(i)(v:Vx)(h:(cs.extract i (i+4))=v.cells.toArray)(w):(part 27 cs i).run prog w = .ok (.agg v.cells.toArray) w:=by
 refine bV9 (P:=prog) ?_ w;unfold cF3;rw[fi aB7,av4,aB8,R3,h];rfl
def cY9(w d)(p q:Eg):(Op.equalIn (d+3) 54 (.agg p.cells.toArray) (.agg q.cells.toArray)).run prog w = .ok (decide (p=q)) w:=by
 rw[run_equalIn_struct (P:=prog) w (d+2) 54 _ _ kr kr,aA2];have hf:(prog.fieldsOf 54).toList.map (λf=>(decide (f.name ≠ "_"),f.type,f.offset))=[(true,27,0),(true,27,4),(true,3,8)]:=kr
 have e0:∀p:Eg,p.cells.toArray.extract 0 (0+4)=p.src.cells.toArray:=λp=>rfl;have e4:∀p:Eg,p.cells.toArray.extract 4 (4+4)=p.dst.cells.toArray:=λp=>rfl;rw[hf,V5 w (bM5 _ _ _ (e0 p) w) (bM5 _ _ _ (e0 q) w) (br4 w d _ _) (V5 w (bM5 _ _ _ (e4 p) w) (bM5 _ _ _ (e4 q) w) (br4 w d _ _) (V5 w (X1 _ _ _ rfl w) (X1 _ _ _ rfl w) (aH8 w (d+1) _ _) (aL0 w)))]
 congr 1
 cases p;cases q;simp[Eg.mk.injEq,Bool.decide_and]
def eb4(w x y)(p q:Pa):(do eqGuard .eql 72 x y (.agg p.cells.toArray) (.agg q.cells.toArray);binOp .eql 72 (.agg p.cells.toArray) (.agg q.cells.toArray):Sem Value).run prog w = .ok (decide (p=q)) w:=by
 have b:=run_eqGuard_agg (P:=prog) w .eql 72 x y p.cells.toArray q.cells.toArray kr;have a:=run_eql_struct (P:=prog) w 72 p.cells.toArray q.cells.toArray;simp only[eG2,b,eF5,a,dP2 w 9998 p q]
def bA7(w x y)(p q:Vx):(do eqGuard .eql 27 x y (.agg p.cells.toArray) (.agg q.cells.toArray);binOp .eql 27 (.agg p.cells.toArray) (.agg q.cells.toArray):Sem Value).run prog w = .ok (decide (p=q)) w:=by
 have b:=run_eqGuard_agg (P:=prog) w .eql 27 x y p.cells.toArray q.cells.toArray kr;have a:=run_eql_struct (P:=prog) w 27 p.cells.toArray q.cells.toArray;simp only[eG2,b,eF5,a,br4 w 9998 p q]
def eb3(w x y)(p q:Eg):(do eqGuard .eql 54 x y (.agg p.cells.toArray) (.agg q.cells.toArray);binOp .eql 54 (.agg p.cells.toArray) (.agg q.cells.toArray):Sem Value).run prog w = .ok (decide (p=q)) w:=by
 have b:=run_eqGuard_agg (P:=prog) w .eql 54 x y p.cells.toArray q.cells.toArray kr;have a:=run_eql_struct (P:=prog) w 54 p.cells.toArray q.cells.toArray;simp only[eG2,b,eF5,a,cY9 w 9997 p q]
def ed1(w x y)(p q:Eg):(do eqGuard .neq 54 x y (.agg p.cells.toArray) (.agg q.cells.toArray);binOp .neq 54 (.agg p.cells.toArray) (.agg q.cells.toArray):Sem Value).run prog w = .ok (!decide (p=q)) w:=by
 have b:=run_eqGuard_agg (P:=prog) w .neq 54 x y p.cells.toArray q.cells.toArray kr;have a:=run_neq_struct (P:=prog) w 54 p.cells.toArray q.cells.toArray;simp only[eG2,b,eF5,a,cY9 w 9997 p q]
structure cv7 (P:Program) (k:TypeId) {α:Type} [DecidableEq α] (enc:α->Value):Prop where
 chk:∀(em:Bool) (a:α) (w:World),(Instr.checkKey em 10000 k (enc a)).run P w = .ok () w
 find:∀(a:α) (l:List MapEntry) (w:World),(Instr.findKey k (enc a) l).run P w=(Instr.findAsking k (enc a) l).run P w
 eq:∀(a b:α) (w:World),(Op.equal k (enc a) (enc b)).run P w = .ok (decide (a=b)) w
def al0{α:Type}[DecidableEq α](kv:List (α×Value))(k:α):Option Value:=(kv.find? λp=>decide (k=p.1)).map (·.2)
def aC0{α:Type}(enc:α->Value)(w:World)(r:Nat)(kv:List (α×Value)):Prop:=∃b a,w.heap[r]?=some (.map b a)/\b.toList.map (λe=>(e.key,e.val))=kv.map (λp=>(enc p.1,p.2))
section
variable {P:Program} {w:World} {t k e:TypeId} {r:Nat} {α:Type} [DecidableEq α] {enc:α->Value} {kv:List (α×Value)}
def aC0.lt(hm:aC0 enc w r kv):r<w.heap.size:=by
 obtain⟨a,c,h,_⟩:=hm;exact(eD5.1 h).1
def aC0.mod{M:Nat->Prop}{w'}(hm:aC0 enc w r kv)(h:t8 M w w')(f:¬M r):aC0 enc w' r kv:=by
 have a:=hm.lt;obtain⟨b,c,d,e⟩:=hm;exact⟨b,c,(h.block r a f).trans d,e⟩
def aC0.new(w t):(Instr.makeMap t none).run P w = .ok (.map (some w.heap.size)) (w.alloc (.map #[] 0))/\aC0 enc (w.alloc (.map #[] 0)) w.heap.size ([]:List (α×Value))/\o6 w (w.alloc (.map #[] 0)):=by
 refine⟨?_,⟨#[],0,eH3 w _,rfl⟩,o6.alloc _ _⟩;unfold Instr.makeMap;rfl
def dV5(K:cv7 P k enc)(a:α):∀(l:List MapEntry) (kv:List (α×Value)) (i:Nat),l.map (λe=>(e.key,e.val))=kv.map (λp=>(enc p.1,p.2)) ->
  ∃o:Option (Nat×Value),(Instr.findAsking k (enc a) l i).run P w = .ok o w/\o.map (·.2)=al0 kv a
 | [],kv,i,h=>by
  have:kv=[]:=by simpa using h.symm
  subst this;exact⟨none,rfl,rfl⟩
 | e::l,[],i,h=>by simp at h
 | e::l,p::kv,i,h=>by
  obtain⟨f,m⟩:=p;obtain⟨j,ev,g⟩:=e;simp only[eI4,eP0,Prod.mk.injEq]at h;obtain⟨⟨rfl,rfl⟩,b⟩:=h;unfold Instr.findAsking al0;simp only[eG2,K.eq,eF5,find?_cons];by_cases hp:a=f
  .subst hp;exact⟨some (i,ev),dG,dG⟩
  .obtain⟨o,c,d⟩:=dV5 K a l kv (i+1) b;exact⟨o,by simp[hp,c],by simp only[hp,decide_false];exact d⟩
def aC0.found(K:cv7 P k enc)(a:α){b:List MapEntry}(h:b.map (λe=>(e.key,e.val))=kv.map (λp=>(enc p.1,p.2))):
  ∃o:Option (Nat×Value),(Instr.findKey k (enc a) b).run P w = .ok o w/\o.map (·.2)=al0 kv a:=by
 rw[K.find];exact dV5 K a b kv 0 h
def aC0.lookup(hm:aC0 enc w r kv)(K:cv7 P k enc)(m:P.underlying t=some (.map k e)){z}(n:I7 P e=some z)(a:α):
  (Instr.lookup t (.map (some r)) (enc a) false).run P w = .ok ((al0 kv a).getD z) w:=by
 obtain⟨p,c,f,g⟩:=hm;obtain⟨i,j,b⟩:=B1 n;have d:(zeroValue e).run P w = .ok z w:=by
  unfold zeroValue;simp[Q7,j,b]
 obtain⟨o,h,l⟩:=aC0.found (w:=w) K a g;unfold Instr.lookup;simp only[eG2,run_underlying m,eF5,MapKept.run_getObj_map f,eH9,K.chk,h];rw[<-l];cases o with
 | none=>simp only[eG2,d,eF5,eH9];rfl
 | some x=>rfl
def aC0.lookupOk(hm:aC0 enc w r kv)(K:cv7 P k enc)(m:P.underlying t=some (.map k e)){z}(n:I7 P e=some z)(a:α):
  (Instr.lookup t (.map (some r)) (enc a) true).run P w = .ok (.tuple #[(al0 kv a).getD z,(al0 kv a).isSome]) w:=by
 obtain⟨p,c,f,g⟩:=hm;obtain⟨i,j,b⟩:=B1 n;have d:(zeroValue e).run P w = .ok z w:=by
  unfold zeroValue;simp[Q7,j,b]
 obtain⟨o,h,l⟩:=aC0.found (w:=w) K a g;unfold Instr.lookup;simp only[eG2,run_underlying m,eF5,MapKept.run_getObj_map f,eH9,K.chk,h];rw[<-l];cases o with
 | none=>simp only[eG2,d,eF5,eH9];rfl
 | some x=>rfl
def aC0.push(hm:aC0 enc w r kv)(K:cv7 P k enc)(n:P.underlying t=some (.map k e)){a:α}(l:al0 kv a=none)(v):
  ∃g,(Instr.mapUpdate t (.map (some r)) (enc a) v).run P w = .ok () g/\aC0 enc g r (kv++[(a,v)])/\t8 (λb=>b=r) w g:=by
 obtain⟨h,c,d,i⟩:=hm;have f:=(eD5.1 d).1;obtain⟨o,m,j⟩:=aC0.found (w:=w) K a i;rw[l]at j;cases o with
 | some x=>cases j
 | none=>
  refine⟨{w with heap:=w.heap.setIfInBounds r (.map (h.push ⟨enc a,v,c⟩) (c+1))},?_,⟨h.push ⟨enc a,v,c⟩,c+1,by simp[f],?_⟩,bM6 w r _⟩
  .unfold Instr.mapUpdate;simp only[eG2,run_underlying n,eF5,MapKept.run_getObj_map d,K.chk,m];exact MapKept.run_setObj_map _ d
  .rw[Array.toList_push,eG8,eG8,i];rfl
end
def dj6{α:Type}[DecidableEq α]{kv:List (α×Value)}{a:α}:al0 kv a=none↔a∉kv.map (·.1):=by
 unfold al0;simp only[Option.map_eq_none_iff,eL9,eH1,eF2,not_exists,not_and];exact⟨λh x b e=>h x b e.symm,λh x b e=>h x b e.symm⟩
def bO9{P:Program}{t}{fs:Array Field}(hu:P.underlying t=some (.struct fs))(em n cs w)
  (h:∀x∈fs.toList.map λf=>(f.type,f.offset),∃v,(part x.1 cs x.2).run P w = .ok v w/\(Instr.checkKey em n x.1 v).run P w = .ok () w) :
  (Instr.checkKey em (n+1) t (.agg cs)).run P w = .ok () w:=by
 rw[Instr.checkKey];simp only[eG2,run_underlying hu,eF5];rw[<-Array.forIn_toList];generalize fs.toList=L at h
 induction L with
 | nil=>simp
 | cons f L ih=>
  obtain⟨v,p1,p2⟩:=h (f.type,f.offset) dG;have ih':=ih λx hx=>h x (by rw[eI4];exact eI1 _ hx);rw[forIn_cons];by_cases hn:f.name = "_"
  .simp only[hn,ne_eq,not_true_eq_false,eM4,eG2,eH9,eF5];exact ih'
  .simp only[hn,ne_eq,not_false_eq_true,eK2,eG2,p1,p2,eH9,eF5];exact ih'
def aq4{t v}{d:TypeDesc}(a:prog.underlying t=some d)(b:MapKept.IsKey d v)(em n w):(Instr.checkKey em (n+1) t v).run prog w = .ok () w:=MapKept.run_checkKey a b em n
def Vx.enc(v:Vx):Value:=.agg v.cells.toArray
def ec1:cv7 prog 27 Vx.enc where
 chk em a w:=by
  apply bO9 (P:=prog) (fs:=prog.fieldsOf 27) kr em 9999 _ w;have d:(prog.fieldsOf 27).toList.map (λf=>(f.type,f.offset))=[(9,0),(3,1),(3,2),(9,3)]:=kr
  rw[d];intro x c;simp only[eF0,eH6,eM0]at c;rcases c with rfl|rfl|rfl|rfl
  .exact⟨A4 a.proc,aB1 _ _ _ rfl w,aq4 Tryz.underlying9 (show MapKept.IsKey .string (A4 _)from trivial) em _ w⟩
  .exact⟨.int .i64 a.kind,X1 _ _ _ rfl w,aq4 Tryz.underlying3 (show MapKept.IsKey (.int .i64) (.int .i64 _)from rfl) em _ w⟩
  .exact⟨.int .i64 a.id,X1 _ _ _ rfl w,aq4 Tryz.underlying3 (show MapKept.IsKey (.int .i64) (.int .i64 _)from rfl) em _ w⟩
  .exact⟨A4 a.slot,aB1 _ _ _ rfl w,aq4 Tryz.underlying9 (show MapKept.IsKey .string (A4 _)from trivial) em _ w⟩
 find a l w:=run_findKey_eq (P:=prog) (w:=w) kr _ _
 eq a b w:=br4 w 9998 a b
def cN2(p:Int×Int):Value:=.agg #[p.1,p.2]
def cH5(w):(sizeOf 3).run prog w = .ok 1 w:=Tryz.sizeOf3 w
def db6(a b w):(part 3 #[a,b] 0).run prog w = .ok a w:=X1 _ _ _ rfl w
def db7(a b w):(part 3 #[a,b] 1).run prog w = .ok b w:=X1 _ _ _ rfl w
def el6:cv7 prog 208 cN2 where
 chk em a w:=by
  rw[show(10000:Nat)=9999+1 from rfl,cN2,Instr.checkKey];simp only[eG2,run_underlying Tryz.underlying208,eF5];simp only[Std.Legacy.Range.forIn_eq_forIn_range',Std.Legacy.Range.size,Nat.sub_zero,Nat.add_sub_cancel,Nat.div_one,range'_succ,range'_zero,forIn_cons,forIn_nil];simp only[eG2,cH5,eF5,db6,db7,Nat.zero_mul,eM2,eH5,aq4 (v:=a.1) Tryz.underlying3 (show MapKept.IsKey (.int .i64) _ from rfl) em _ w,aq4 (v:=a.2) Tryz.underlying3 (show MapKept.IsKey (.int .i64) _ from rfl) em _ w,eH9]
 find a l w:=run_findKey_eq (P:=prog) (w:=w) kr _ _
 eq a b w:=by
  obtain⟨c,d⟩:=a;obtain⟨e,f⟩:=b;unfold Op.equal;rw[show Op.maxDepth=9999+1 from rfl,cN2,cN2,Op.equalIn];simp only[eG2,run_underlying Tryz.underlying208,eF5];simp only[Std.Legacy.Range.forIn_eq_forIn_range',Std.Legacy.Range.size,Nat.sub_zero,Nat.add_sub_cancel,Nat.div_one,range'_succ,range'_zero,forIn_cons,forIn_nil];simp only[eG2,cH5,eF5,db6,Nat.zero_mul,eM2,eH5,aH8 w 9998];by_cases h1:c=e<;>by_cases h2:d=f<;>simp[h1,h2,db7,aH8 w 9998]
def bj0(h:Hp)(w a:World):Hp:=λb=>if b<w.heap.size then h b else a.heap[b]?
section
variable {h:Hp} {w w':World}
def cB3{b}(hb:w.heap.size<=b):bj0 h w w' b=w'.heap[b]?:=by unfold bj0;rw[fh om]
def bB2(c:E6 h (n8 w)):E6 h (bj0 h w w'):=λb o e=>by
 have a:b<w.heap.size:=(eD5.1 (show w.heap[b]?=some o from c b o e)).1;unfold bj0;rw[fi a];exact e
def cZ7(a:E6 h (n8 w))(c:o6 w w'):E6 (bj0 h w w') (n8 w'):=λb o e=>by
 unfold bj0 at e;split at e
 .exact b7 c b o (a b o e)
 .exact e
def cZ8(c:E6 h (n8 w))(f:o6 w w'){N:Nat->Prop}(hN:∀b,N b->b<w.heap.size/\h b=none):E6 (bj0 h w w') (D9 w' N):=λb o e=>by
 have d:¬N b:=λa=>by
  unfold bj0 at e;rw[fi (hN b a).1,(hN b a).2]at e;cases e
 rw[E9 d];exact cZ7 c f b o e
end
section
variable {h:Hp} {w w':World}
def B7.upR{α:Type}[L6 α]{T u}{l:List α}(a:B7 (n8 w) w' T u l):R (bj0 h w w') u l:=
 (a.down (h:=λ_=>none) (λ_ _ h=>by cases h)).ro (λ_ _ h=>by cases h) λb c=>cB3 (D4 (a.free c))
end
def Wy.sp(w:Wy):Ptr Sh:=⟨w.s⟩
instance:A9 Wy where
 sz:=5
 pos:=om
 enc h cs x:=∃v1 v2 v3,cs=[v1,.int .i64 x.proc,.int .i64 x.n,v2,v3]/\R h v1 x.sp/\R h v2 x.real/\R h v3 x.live
 len:=by rintro h cs a ⟨v1,v2,v3,rfl,_⟩;rfl
 mono:=by rintro h k cs a hk ⟨v1,v2,v3,rfl,h1,h2,h3⟩;exact⟨v1,v2,v3,rfl,A9.mono hk h1,A9.mono hk h2,A9.mono hk h3⟩
 one:=by
  rintro h cs a ⟨v1,v2,v3,rfl,h1,h2,h3⟩ v hv;simp only[eF0,eH6,eM0]at hv;rcases hv with rfl|rfl|rfl|rfl|rfl
  .exact am0 h1
  .rfl
  .rfl
  .exact am0 h2
  .exact am0 h3
structure Bk where
 s:Sh
 ways:List Wy
 defs:List (List B9)
 uses:List (List B9)
 ins:List (List B9)
 outs:List (List B9)
def Bk.sp(b:Bk):Ptr Sh:=⟨b.s⟩
def Bk.wp(b:Bk):List (Ptr Wy):=b.ways.map λw=>⟨w⟩
instance:A9 Bk where
 sz:=6
 pos:=om
 enc h cs x:=∃v1 v2 v3 v4 v5 v6,cs=[v1,v2,v3,v4,v5,v6]/\R h v1 x.sp/\R h v2 x.wp/\R h v3 x.defs/\R h v4 x.uses/\R h v5 x.ins/\R h v6 x.outs
 len:=by rintro h cs a ⟨v1,v2,v3,v4,v5,v6,rfl,_⟩;rfl
 mono:=by rintro h k cs a hk ⟨v1,v2,v3,v4,v5,v6,rfl,h1,h2,h3,h4,h5,h6⟩;exact⟨v1,v2,v3,v4,v5,v6,rfl,A9.mono hk h1,A9.mono hk h2,A9.mono hk h3,A9.mono hk h4,A9.mono hk h5,A9.mono hk h6⟩
 one:=by
  rintro h cs a ⟨v1,v2,v3,v4,v5,v6,rfl,h1,h2,h3,h4,h5,h6⟩ v hv;simp only[eF0,eH6,eM0]at hv;rcases hv with rfl|rfl|rfl|rfl|rfl|rfl
  .exact am0 h1
  .exact am0 h2
  .exact am0 h3
  .exact am0 h4
  .exact am0 h5
  .exact am0 h6
def am1:B9:=ofA #[36,105,110]
def U0:B9:=ofA #[36,114,101,116]
def W1(p:Pg)(n:B9):Bool:=decide (n=am1)||p.globals.contains n
def J8{α:Type}(l:List (List α))(i:Int):List α:=l.getD i.toNat []
def eb6(p:Pg)(n:B9):Pr:=p.procs.getD (ac3 p.procs n).toNat cq3
def aE2(p:Pg)(outs:List (List B9))(s:St):List B9:=
 (if s.name=e0 then[]else[s.name])++(((s.args.zip (eb6 p s.proc).params).filter λx=>x.1.ref&&(J8 outs (ac3 p.procs s.proc)).contains x.2.name).map λx=>x.1.name)++(J8 outs (ac3 p.procs s.proc)).filter (W1 p)
def aq5(p:Pg)(outs:List (List B9))(s:St):List B9:=
 if s.kind=1 then[s.name]else if s.kind=2 then[s.name,am1]else if s.kind=9 then[U0]else if s.kind=4 then aE2 p outs s else[]
def aE0(p:Pg)(a:List (List B9))(s:St):List B9:=
 ap6 s.x++(if s.kind=2 then[am1]else[])++if s.kind=4 then s.args.flatMap P2++J8 a (ac3 p.procs s.proc)else[]
def M7(p:Pg)(outs:List (List B9)):List (List B9):=(i5 p).l.map λit=>G0 (aq5 p outs it.s)
def W0(p:Pg)(a:List (List B9)):List (List B9):=(i5 p).l.map λit=>G0 (aE0 p a it.s)
def ak1(p:Pg)(i:Nat)(n:B9):Bool:=W1 p n||(p.procs.getD i cq3).params.contains ⟨n,true⟩
def an2(p:Pg)(defs:List (List B9))(i:Nat):List B9:=
 (((i5 p).of i).filter λit=>(F7 (i5 p) i).lives it.s.id).flatMap λit=>(J8 defs (it.s.id-1)).filter (ak1 p i)
def J0(p:Pg)(outs:List (List B9)):List (List B9):=(range p.procs.length).map λi=>G0 (an2 p (M7 p outs) i)
def cz7{α:Type}[DecidableEq α](g:α->α):Nat->α->α
 | 0,x=>x
 | k+1,x=>if g x=x then x else cz7 g k (g x)
def dC8(p:Pg):List (List B9):=replicate p.procs.length []
def N4(p:Pg):List (List B9):=cz7 (J0 p) 1000 (dC8 p)
def aL9(nx:List (List Int))(stop:Nat->Bool):List (List Int):=(range nx.length).map λa=>if stop a then[]else nx.getD a []
def cP5(wy:Wy)(outs:List B9)(uses:List (List B9))(name:B9)(a:Nat):Bool:=
 if(a:Int)=wy.n-1 then outs.contains name else !decide (a=0)&&(J8 uses (wy.place a-1)).contains name
def bs0(wy:Wy)(uses defs:List (List B9))(name:B9)(a:Nat):Bool:=
 decide ((a:Int)=wy.n-1) || !decide (a=0)&&((J8 uses (wy.place a-1)).contains name||(J8 defs (wy.place a-1)).contains name)
def aU1(wy:Wy)(outs:List B9)(uses defs:List (List B9))(name:B9):Bool:=
 (range wy.n.toNat).any λa=>cP5 wy outs uses name a&&af9 (aL9 wy.net (bs0 wy uses defs name)) 0 a
def aW3(p:Pg)(outs uses defs:List (List B9))(i:Nat):List B9:=(p.globals++[am1]).filter (aU1 (F7 (i5 p) i) (J8 outs i) uses defs)
def X6(p:Pg)(outs defs a:List (List B9)):List (List B9):=(range p.procs.length).map λi=>G0 (aW3 p outs (W0 p a) defs i)
def am8(p:Pg):List (List B9):=cz7 (X6 p (N4 p) (M7 p (N4 p))) 1000 (dC8 p)
def M3(p:Pg):List Wy:=(range p.procs.length).map (F7 (i5 p))
def b9(p:Pg):Bk:=⟨i5 p,M3 p,M7 p (N4 p),W0 p (am8 p),am8 p,N4 p⟩
def ey7(s:Sh):Wy:=⟨s,0,0,[],[]⟩
def Bk.way(b:Bk)(i:Int):Wy:=b.ways.getD i.toNat (ey7 b.s)
def Bk.gives(b:Bk)(i a:Int):List B9:=
 if a=0 then G0 (J8 b.ins i++(b.s.fn i).params.map (·.name))
 else if a=(b.way i).n-1\/atB (b.way i).live a=false then[]else J8 b.defs ((b.way i).place a-1)
def Bk.takes(b:Bk)(i a:Int):List B9:=
 if a=(b.way i).n-1 then G0 (J8 b.outs i++[U0])
 else if a=0\/atB (b.way i).live a=false then[]else J8 b.uses ((b.way i).place a-1)
def Bk.givers(b:Bk)(i:Int)(n:B9):List Nat:=(range (b.way i).n.toNat).filter λ(a:Nat)=>(b.gives i a).contains n
def bA1(nx:List (List Int))(b:List Nat)(a c:Nat):Bool:=(F1 nx a).any λd=>af9 (aL9 nx λq=>b.contains q) d c
def fwC(x y:Fw):Int:=orF [O6 (I5 x.src) (I5 y.src),O6 (I5 x.dst) (I5 y.dst),am5 x.var y.var]
def cb5(x y:Fw):Bool:=decide (fwC x y<=0)
def Bk.nx(b:Bk)(i:Int):List (List Int):=(aA8 (b.way i).n.toNat ((b.way i).pairs (b.way i).data)).1
def Bk.flow0(b:Bk)(i:Int):List Fw:=(range (b.way i).n.toNat).flatMap λ(a:Nat)=>(b.gives i a).flatMap λn=>
 ((range (b.way i).n.toNat).filter λ(c:Nat)=>(b.takes i c).contains n&&bA1 (b.nx i) (b.givers i n) a c).map λ(c:Nat)=>(⟨(b.way i).place a,(b.way i).place c,n⟩:Fw)
def Bk.flows(b:Bk)(i:Int):List Fw:=af2 cb5 (b.flow0 i)
def vxC(a b:Vx):Int:=orF [am5 a.proc b.proc,O6 a.kind b.kind,O6 a.id b.id,am5 a.slot b.slot]
def dq0(a b:Vx):Bool:=decide (vxC a b<=0)
def egC(a b:Eg):Int:=orF [vxC a.src b.src,vxC a.dst b.dst,O6 a.kind b.kind]
def cy6(a b:Eg):Bool:=decide (egC a b<=0)
def ac6(l:List Eg):List Eg:=L0 (af2 cy6 l)
def Bk.slotsIn(b:Bk)(i:Int):List B9:=ad0 (J8 b.ins i++(b.s.fn i).params.map (·.name))
def Bk.slotsOut(b:Bk)(i:Int):List B9:=ad0 (J8 b.outs i++[U0])
def Bk.callOut(b:Bk)(s:St):List B9:=if s.name=e0 then(b.slotsOut (b.s.pr s.proc)).filter λn=>!decide (n=U0)else b.slotsOut (b.s.pr s.proc)
def Bk.vert0(b:Bk)(i:Int):List Vx:=
 ([⟨(b.s.fn i).name,1,0,e0⟩]++(b.slotsIn i).map λn=>⟨(b.s.fn i).name,3,0,n⟩)++((b.slotsOut i).map λn=>⟨(b.s.fn i).name,4,0,n⟩) ++
 (b.s.of i).flatMap λit=>[⟨(b.s.fn i).name,2,it.s.id,e0⟩]++if it.s.kind=4 then((b.slotsIn (b.s.pr it.s.proc)).map λn=>⟨(b.s.fn i).name,5,it.s.id,n⟩)++(b.callOut it.s).map λn=>⟨(b.s.fn i).name,6,it.s.id,n⟩else[]
def Bk.verts(b:Bk)(i:Int):List Vx:=af2 dq0 (b.vert0 i)
def ab5(a:Ar):List B9:=if a.ref then[a.name]else ap6 a.x
def Bk.callee(b:Bk)(s:St):Pr:=b.s.fn (b.s.pr s.proc)
def Bk.giver(b:Bk)(q:B9)(a:Int)(n:B9):Vx:=
 if a=0 then⟨q,3,0,n⟩
 else if(b.s.it a).s.kind≠4 then⟨q,2,a,e0⟩
 else if(b.s.it a).s.name=n then⟨q,6,a,U0⟩
 else match((b.s.it a).s.args.zip (b.callee (b.s.it a).s).params).find? λx=>x.1.ref&&decide (x.1.name=n)with
  | some x=>⟨q,6,a,x.2.name⟩
  | none=>⟨q,6,a,n⟩
def Bk.takers(b:Bk)(q:B9)(a:Int)(n:B9):List Vx:=
 if a = -1 then[⟨q,4,0,n⟩]
 else if(b.s.it a).s.kind≠4 then[⟨q,2,a,e0⟩]
 else((((b.s.it a).s.args.zip (b.callee (b.s.it a).s).params).filter λx=>(ab5 x.1).contains n).map λx=>⟨q,5,a,x.2.name⟩) ++
  if(W1 b.s.p n&&(J8 b.ins (b.s.pr (b.s.it a).s.proc)).contains n)=true then[⟨q,5,a,n⟩]else[]
def aj2(q:B9)(d:Int×Int):Eg:=⟨if d.1=0 then⟨q,1,0,e0⟩else⟨q,2,d.1,e0⟩,⟨q,2,d.2,e0⟩,1⟩
def K6(q:B9)(v:Vx):List Eg:=
 if v.kind=3\/v.kind=4 then[⟨⟨q,1,0,e0⟩,v,1⟩]else if v.kind=5\/v.kind=6 then[⟨⟨q,2,v.id,e0⟩,v,1⟩]else[]
def Bk.edge0(b:Bk)(i:Int):List Eg:=
 (b.way i).decides.map (aj2 (b.s.fn i).name)++(b.verts i).flatMap (K6 (b.s.fn i).name) ++
 (b.flows i).flatMap λf=>(b.takers (b.s.fn i).name f.dst f.var).map λv=>⟨b.giver (b.s.fn i).name f.src f.var,v,2⟩
def Bk.edges(b:Bk)(i:Int):List Eg:=ac6 (b.edge0 i)
def bG4(n:Int):Ex:=.mk 1 n e0 []
def ap0(s:B9):Ex:=.mk 2 0 s []
def cZ0(op:Int)(a b:Ex):Ex:=.mk op 0 e0 [a,b]
def sV:B9:=ofA #[118]
def sG:B9:=ofA #[103]
def sP:B9:=ofA #[112]
def sX:B9:=ofA #[120]
def sY:B9:=ofA #[121]
def sE:B9:=ofA #[101]
def bX2:Pr:=⟨H9,[],[sV],[.mk 1 1 [] sV e0 (bG4 2) false [] [] [],.mk 2 4 [] sG sP (.mk 0 0 e0 []) false [⟨false,e0,bG4 3⟩,⟨true,sV,.mk 0 0 e0 []⟩] [] [],
 .mk 3 3 [] e0 e0 (ap0 sV) false [] [] [],.mk 4 3 [] e0 e0 (ap0 sG) false [] [] []],[]⟩
def bX3:Pr:=⟨sP,[⟨sX,false⟩,⟨sY,true⟩],[],[.mk 5 1 [] sY e0 (cZ0 8 (ap0 sY) (ap0 sX)) false [] [] [],
 .mk 6 5 [] e0 e0 (cZ0 12 (ap0 sY) (bG4 9)) false [] [.mk 7 10 [] sE e0 (.mk 0 0 e0 []) false [] [] []] [],.mk 8 9 [] e0 e0 (ap0 sY) true [] [] []],[sE]⟩
def ac9:Pg:=⟨[sG],[bX2,bX3]⟩
def Bk.calledBy(b:Bk)(n:B9):List B9:=((b.s.of (b.s.pr n)).filter λit=>decide (it.s.kind=4)&&(b.way (b.s.pr n)).lives it.s.id).map (·.s.proc)
def Bk.reached(b:Bk):List B9:=ad0 (W4 b.calledBy 1000 0 [H9])
def Bk.wv(b:Bk):List Vx:=b.reached.flatMap λn=>b.verts (b.s.pr n)
def Bk.isCall(b:Bk)(id:Int):Bool:=decide ((b.s.it id).s.kind=4)&&(b.way (b.s.it id).proc).lives id
def Bk.joinOf(b:Bk)(v:Vx):List Eg:=
 if v.id=0\/b.isCall v.id=false then[]
 else if v.kind=2 then[⟨v,⟨(b.s.it v.id).s.proc,1,0,e0⟩,4⟩]
 else if v.kind=5 then[⟨v,⟨(b.s.it v.id).s.proc,3,0,v.slot⟩,5⟩]
 else if v.kind=6 then[⟨⟨(b.s.it v.id).s.proc,4,0,v.slot⟩,v,6⟩]
 else[]
def Bk.we0(b:Bk):List Eg:=(b.reached.flatMap λn=>b.edges (b.s.pr n))++b.wv.flatMap b.joinOf
def Bk.we(b:Bk):List Eg:=ac6 b.we0
def atV(V:List Vx)(v:Vx):Option Nat:=V.findIdx? λx=>decide (x=v)
def C5(V:List Vx)(v:Vx):Nat:=(atV V v).getD 0
def V7(V:List Vx)(L:List Eg)(ks:List Int):List (List Int):=
 (range V.length).map λa=>(L.filter λe=>ks.contains e.kind&&decide (C5 V e.src=a)).map λe=>((C5 V e.dst:Nat):Int)
def P9(V:List Vx)(L:List Eg)(ks:List Int):List (List Int):=
 (range V.length).map λa=>(L.filter λe=>ks.contains e.kind&&decide (C5 V e.dst=a)).map λe=>((C5 V e.src:Nat):Int)
def af1(S:List Bool):List Int:=((range S.length).filter λa=>S.getD a false).map λ(a:Nat)=>(a:Int)
def W2(n:Nat)(l:List Int):List Bool:=(range n).map λ(a:Nat)=>l.contains (a:Int)
def I0(nx:List (List Int))(S:List Bool):List Bool:=W2 S.length (V2 nx nx.length (af1 S))
def aI0(V:List Vx)(b:Nat)(a:B9)(e:Eg):List Eg:=
 if e.kind=(6:Int)/\C5 V e.src=b then
  match V[(C5 V e.dst:Nat)]? with
  | none=>[]
  | some v=>if(atV V ⟨v.proc,5,v.id,a⟩).isSome then[⟨⟨v.proc,5,v.id,a⟩,v,3⟩]else[]
 else[]
def cs6(V:List Vx)(L:List Eg)(a:Nat):List Eg:=
 (af1 (I0 (P9 V L [1,2,3]) (W2 V.length [(a:Int)]))).flatMap λi=>match V[i.toNat]? with
  | none=>[]
  | some b=>if b.kind≠(3:Int)then[]else L.flatMap (aI0 V a b.slot)
def cs5(V:List Vx)(L:List Eg):List Eg:=
 (range V.length).flatMap λ(a:Nat)=>match V[a]? with
  | none=>[]
  | some b=>if b.kind≠(4:Int)then[]else cs6 V L a
def ag2(V:List Vx)(E S:List Eg):List Eg:=S++((cs5 V (E++S)).filter λe=>!S.contains e).eraseDups
def aD9(V:List Vx)(E:List Eg):List Eg:=cz7 (ag2 V E) (V.length*V.length+1) []
def Bk.sums(b:Bk):List Eg:=aD9 b.wv b.we
def Bk.all(b:Bk):List Eg:=b.we++b.sums
def Bk.backB(b:Bk)(l:List Int):List Bool:=I0 (P9 b.wv b.all [1,2,3,6]) (I0 (P9 b.wv b.all [1,2,3,4,5]) (W2 b.wv.length l))
def F3(V:List Vx)(S:List Bool):List Vx:=(af1 S).filterMap λi=>V[i.toNat]?
def aR0:Vx:=⟨e0,0,0,e0⟩
def bg7(v)(l:List B9)(w)(hv:R (n8 w) v l)(q:l.length<=1000000):p7 prog 114 #[v] w λu d=>(u=(X7 l)/\d=w):=by
 apply y5 [v] func114 rfl;have g:=hv.vlen;simp only[eQ,simprocAttr,hv.isS,g];refine B4 [5,6] (σ:=Nat) (λk f d=>f 7=k/\k<=l.length/\(l.take k).all R8=true/\d=w) (λk=>l.length-k) 0 ?_ ?_
 .exact⟨rfl,eE2 _,dG,rfl⟩
 .rintro k f d ⟨n,o,_⟩ ⟨j,p,a,rfl⟩;simp only[eQ,simprocAttr,j,o];refine A7 (λb=>?_) ?_
  .have m:=hv.inS b;have e:(Instr.loadAt 9 (I2 v k)).run prog d = .ok (l[k]) d:=O4 (P:=prog) (t:=9) hv (n7 _) (eD1 b) as9;have i:(l.take (k+1)).all R8=((l.take k).all R8&&R8 l[k]):=by rw[eD9 b,all_append];simp
   have c:=eE1 b;generalize l[k]=s at e i c;simp only[p6,n9,A6,simprocAttr,j,n,m,e];apply z6 (aY5 s _);rintro u r ⟨rfl,rfl⟩;cases g:R8 s
   .simp only[eQ,simprocAttr];apply o8 results114;simp only[C9,simprocAttr];refine⟨?_,tt⟩;have:X7 l=false:=by
     rw[eN8];intro h;rw[eJ1.1 h s c]at g;cases g
    rw[this]
   .simp only[eQ,simprocAttr,j];exact U5 (k+1) ⟨by rw[i,a,g];rfl,tt⟩
  .rintro rfl;simp only[p6,simprocAttr];apply o8 results114;simp only[C9,simprocAttr];rw[eE4]at a;exact⟨by rw[X7,a],tt⟩
def dA7(op w):p7 prog 314 #[.int .i64 op] w λu g=>(u = .int .i64 (ar0 op)/\g=w):=by
 refine y5 [op] func314 rfl ?_;by_cases h1:op=1
 .have a:decide (op=1)=true:=by simp[h1]
  simp only[eQ,simprocAttr,a];refine o8 results314 ?_;simp only[C9,simprocAttr];exact⟨by simp[ar0,h1],tt⟩
 have a:decide (op=1)=false:=by simp[h1]
 by_cases h2:op=2
 .have b:decide (op=2)=true:=by simp[h2]
  simp only[eQ,simprocAttr,a,b];refine o8 results314 ?_;simp only[C9,simprocAttr];exact⟨by simp[ar0,h2],tt⟩
 have b:decide (op=2)=false:=by simp[h2]
 by_cases h3:op=3
 .have c:decide (op=3)=true:=by simp[h3]
  simp only[eQ,simprocAttr,a,b,c];refine o8 results314 ?_;simp only[C9,simprocAttr];exact⟨by simp[ar0,h3],tt⟩
 have c:decide (op=3)=false:=by simp[h3]
 by_cases h4:op=4
 .have d:decide (op=4)=true:=by simp[h4]
  simp only[eQ,simprocAttr,a,b,c,d];refine o8 results314 ?_;simp only[C9,simprocAttr];exact⟨by simp[ar0,h4],tt⟩
 have d:decide (op=4)=false:=by simp[h4]
 by_cases h5:5<=op
 .have e:decide (5<=op)=true:=by simp[h5]
  by_cases h6:op<=17
  .have f:decide (op<=17)=true:=by simp[h6]
   simp only[eQ,simprocAttr,a,b,c,d,e,f];refine o8 results314 ?_;simp only[C9,simprocAttr];exact⟨by rw[ar0,fh om,fh om,fi ⟨h5,h6⟩],tt⟩
  .have f:decide (op<=17)=false:=by simp[h6]
   simp only[eQ,simprocAttr,a,b,c,d,e,f];refine o8 results314 ?_;simp only[C9,simprocAttr];exact⟨by rw[ar0,fh om,fh om,fh om],tt⟩
 .have e:decide (5<=op)=false:=by simp[h5]
  simp only[eQ,simprocAttr,a,b,c,d,e];refine o8 results314 ?_;simp only[C9,simprocAttr];exact⟨by rw[ar0,fh om,fh om,fh om],tt⟩
def dC9(v)(x:Ex)(w)(hv:SV (n8 w) v x):p7 prog 286 #[v] w λu k=>(u=(ch9 x)/\o6 w k):=by
 apply y5 [v] func286 rfl;obtain⟨a,l,b,c,g⟩:=ay7 hv (n7 _);obtain⟨m,e,j,_⟩:=g.ex;have d:=j l (n7 _);have f:=e.isS;have i:=e.vlen;have h:decide ((x.kids.length:Int)=0)=decide (x.kids.length=0):=eI5.2 om;unfold ch9;cases h1:decide (x.op=0)
 .simp only[eQ,simprocAttr,b,d,h1];exact o8 results286 ⟨rfl,c⟩
 cases h2:decide (x.n=0)
 .simp only[eQ,simprocAttr,b,d,h1,h2];exact o8 results286 ⟨rfl,c⟩
 cases h3:decide (x.name=e0)
 .simp only[eQ,simprocAttr,b,d,h1,h2,h3];exact o8 results286 ⟨rfl,c⟩
 simp only[eQ,simprocAttr,b,d,f,i,h1,h2,h3,h];exact o8 results286 ⟨rfl,c⟩
def be8{α:Type}(p:α->Bool)(l:List α)(k)(a:k<l.length):(l.take (k+1)).all p=((l.take k).all p&&p l[k]):=by
 rw[eD9 a,all_append];simp
def aR6{α:Type}{p:α->Bool}{l:List α}{x:α}(b:x∈l)(h:p x=false):l.all p=false:=by
 rw[eN8];intro a;rw[eJ1.1 a _ b]at h;cases h
def cy4:∀(n:Nat) (v:Value) (x:Ex) (w:World),n<=20->SV (n8 w) v x->p7 prog 293 #[v,n] w λu I=>(u=(aa1 n x)/\o6 w I)
 | 0,v,x,w,_,hv=>by
  apply y5 [v,(0:Nat)] func293 rfl;obtain⟨a,j,N,E,U⟩:=ay7 hv (n7 _);have S:decide ((((0:Nat):Int))<1)=true:=dR
  simp only[eQ,simprocAttr,N];apply C4 (λr=>o6 j.drew r) 11 (A8 [0,1,2,3,4,5,6,7,8,9,10]);simp only[D7,A8,p6,n9,simprocAttr];exact o8 results293 ⟨rfl,E.trans (o6.drew _)⟩
 | n+1,v,x,w,hn,hv=>by
  apply y5 [v,(n+1:Nat)] func293 rfl;obtain⟨a,j,N,E,U⟩:=ay7 hv (n7 _);obtain⟨vk,H,ld,sd⟩:=U.ex;have c:=E.trans (o6.drew j);have p:=ld j.drew (b7 (o6.drew j));have s1:=sd (λr=>o6 j.drew r) j.drew (t8.refl _) (λI h=>b7 ((o6.drew j).trans h));have S:decide ((((n+1:Nat):Int))<1)=false:=by simp;omega
  have T:=H.isS;have V:=H.vlen;simp only[eQ,simprocAttr,N];apply C4 (λr=>o6 j.drew r) 11 (A8 [0,1,2,3,4,5,6,7,8,9,10]);simp only[D7,A8,p6,n9,simprocAttr,S,s1,T,V];apply z6 (dA7 x.op _);rintro u r ⟨rfl,rfl⟩;cases h1:decide ((x.kids.length:Int)=ar0 x.op)
  .simp only[D7,p6,n9,simprocAttr,F2,h1];refine⟨t8.refl _,?_⟩;apply o8 results293;simp only[C9,simprocAttr];exact⟨by rw[aa1,fi (by simpa using h1)],c⟩
  have e:¬(x.kids.length:Int)≠ar0 x.op:=by simpa using h1
  simp only[D7,p6,n9,simprocAttr,F2,h1];refine⟨t8.refl _,?_⟩;simp only[eQ,simprocAttr,p];by_cases h2:x.op=1
  .have m:decide (x.op=1)=true:=by simp[h2]
   have d:aa1 (n+1) x=(decide (0<=x.n)&&decide (x.name=e0)):=by rw[aa1,fh e,fi h2]
   cases h3:decide (0<=x.n)
   .simp only[eQ,simprocAttr,p,m,h3];apply o8 results293;exact⟨by rw[d,h3];rfl,c⟩
   .simp only[eQ,simprocAttr,p,m,h3];apply o8 results293;exact⟨by rw[d,h3];rfl,c⟩
  have m:decide (x.op=1)=false:=by simp[h2]
  by_cases h3:x.op=2
  .have s:decide (x.op=2)=true:=by simp[h3]
   have d:aa1 (n+1) x=(decide (x.n=0)&&R8 x.name):=by rw[aa1,fh e,fh h2,fi h3]
   cases h4:decide (x.n=0)
   .simp only[eQ,simprocAttr,p,m,s,h4];apply o8 results293;exact⟨by rw[d,h4];rfl,c⟩
   .simp only[eQ,simprocAttr,p,m,s,h4];apply z6 (aY5 x.name _);rintro u r ⟨rfl,rfl⟩;simp only[p6,simprocAttr];apply o8 results293;exact⟨by rw[d,h4];rfl,c⟩
  have s:decide (x.op=2)=false:=by simp[h3]
  cases h4:decide (x.n=0)
  .have d:aa1 (n+1) x=false:=by rw[aa1,fh e,fh h2,fh h3,fi (.inl (by simpa using h4))]
   simp only[eQ,simprocAttr,p,m,s,h4];apply o8 results293;simp only[C9,simprocAttr];exact⟨by rw[d],c⟩
  cases h5:decide (x.name=e0)
  .have d:aa1 (n+1) x=false:=by rw[aa1,fh e,fh h2,fh h3,fi (.inr (by simpa using h5))]
   simp only[eQ,simprocAttr,p,m,s,h4,h5];apply o8 results293;simp only[C9,simprocAttr];exact⟨by rw[d],c⟩
  have d:aa1 (n+1) x=x.kids.all (aa1 n):=by
   rw[aa1,fh e,fh h2,fh h3,fh (λh=>by rcases h with h|h<;>simp_all)]
  have Z:x.kids.length<=2:=by
   have:(x.kids.length:Int)=ar0 x.op:=by simpa using h1
   unfold ar0 at this;split at this
   .omega
   .split at this
    .omega
    .split at this<;>omega
  simp only[eQ,simprocAttr,p,m,s,h4,h5,T,V];refine E4 [1,49,50] (σ:=Nat) (λk f I=>f 51=k/\k<=x.kids.length/\(x.kids.take k).all (aa1 n)=true/\o6 j I) (λk=>x.kids.length-k) 0 ?_ ?_
  .exact⟨rfl,eE2 _,dG,o6.drew _⟩
  .rintro k f w3 z ⟨q,Y,g,i⟩;simp only[eF8,C9,↓reduceIte,Nat.reduceEqDiff]at z;obtain⟨X,J,K,_⟩:=z;simp only[eQ,simprocAttr,q,K];refine A7 (λl=>?_) ?_
   .have O:=H.inS l;obtain⟨sv,C,A⟩:=G1 (P:=prog) (t:=110) H (b7 i) (eD1 l) bd7 be0 aV6 ag6;rw[ag6]at A;have D:=be8 (aa1 n) x.kids k l;have o:=eE1 l;generalize x.kids[k]=y at C D o;obtain⟨b,wz,W,L,Q,F,M⟩:=dT8 (C.mono (b7 i)) (n7 _);obtain⟨sy,R,ly,_⟩:=M.ex_v;have B:IntKind.i64.wrap (((n+1:Nat):Int)-1)=(n:Int):=by rw[N7 _ om];omega
    simp only[p6,n9,A6,simprocAttr,q,J,X,O,A,L,Q,ly W (n7 _),B];apply z6 (cy4 n sy y W om R);rintro u w5 ⟨rfl,G⟩;cases hdy:aa1 n y
    .simp only[eQ,simprocAttr];apply o8 results293;simp only[C9,simprocAttr];exact⟨by rw[d,aR6 o hdy],E.trans (i.trans (F.trans G))⟩
    .simp only[eQ,simprocAttr,q];exact U5 (k+1) ⟨by rw[D,g,hdy];rfl,i.trans (F.trans G)⟩
   .rintro rfl;simp only[p6,simprocAttr];apply o8 results293;simp only[C9,simprocAttr];rw[eE4]at g;exact⟨by rw[d,g],E.trans i⟩
def bF5(v)(x:Ex)(w)(hv:SV (n8 w) v x):p7 prog 261 #[v] w λu j=>(u=(aa1 20 x)/\o6 w j):=by
 apply y5 [v] func261 rfl;obtain⟨a,d,f,g,e⟩:=ay7 hv (n7 _);obtain⟨i,b,h,_⟩:=e.ex_v;simp only[eQ,simprocAttr,f,h d (n7 _)];apply z6 (cy4 20 i x d om b);rintro u k ⟨rfl,c⟩;simp only[p6,simprocAttr];exact o8 results261 ⟨rfl,g.trans c⟩
def bB9(s:B9)(b w):p7 prog 247 #[s,.bool b] w λu a=>(u = .bool (ae2 s b)/\a=w):=by
 apply y5 [s,b] func247 rfl;cases b
 .simp only[eQ,simprocAttr];apply o8 results247;simp only[C9,simprocAttr];exact⟨by simp[ae2],tt⟩
 .simp only[eQ,simprocAttr];apply z6 (aY5 s _);rintro u c ⟨rfl,rfl⟩;cases hn:R8 s
  .simp only[eQ,simprocAttr];apply o8 results247;simp only[C9,simprocAttr];exact⟨by simp[ae2,hn],tt⟩
  .simp only[p6,simprocAttr];apply o8 results247;simp only[C9,simprocAttr];exact⟨by simp[ae2,hn],tt⟩
def cl0(v)(x:Ex)(b w)(hv:SV (n8 w) v x):p7 prog 248 #[v,.bool b] w λu k=>(u = .bool (an6 x b)/\o6 w k):=by
 apply y5 [v,b] func248 rfl;obtain⟨a,l,f,e,i⟩:=ay7 hv (n7 _);obtain⟨h,d,j,_⟩:=i.ex_v;have g:=j l (n7 _);cases b
 .simp only[eQ,simprocAttr,f,g];apply z6 (dC9 h x _ d);rintro u m ⟨rfl,c⟩;simp only[p6,simprocAttr];apply o8 results248;simp only[C9,simprocAttr];exact⟨by simp[an6],e.trans c⟩
 .simp only[eQ,simprocAttr,f,g];apply z6 (bF5 h x _ d);rintro u m ⟨rfl,c⟩;cases hn:aa1 20 x
  .simp only[eQ,simprocAttr];apply o8 results248;simp only[C9,simprocAttr];exact⟨by simp[an6,hn],e.trans c⟩
  .simp only[p6,simprocAttr];apply o8 results248;simp only[C9,simprocAttr];exact⟨by simp[an6,hn],e.trans c⟩
def cP4(v)(l:List Ar)(w)(hv:R (n8 w) v l)(N:l.length<=1000000):p7 prog 249 #[v] w λu E=>(u=(aT2 l)/\o6 w E):=by
 apply y5 [v] func249 rfl;simp only[eQ,simprocAttr,hv.isS,hv.vlen];refine B4 [5,6] (σ:=Nat) (λk f E=>f 7=k/\k<=l.length/\(l.take k).all (λa=>ae2 a.name a.ref&&an6 a.x (!a.ref))=true/\o6 w E) (λk=>l.length-k) 0 ?_ ?_
 .exact⟨rfl,eE2 _,dG,t8.refl _⟩
 .rintro k f Q ⟨H,I,_⟩ ⟨s,J,e,d⟩;simp only[eQ,simprocAttr,s,I];refine A7 (λg=>?_) ?_
  .have A:=hv.inS g;obtain⟨O,o,n⟩:=G1 (P:=prog) (t:=125) hv (b7 d) (eD1 g) aM8 aM9 aK0 aa3;rw[aa3]at n;have q:=be8 (λa:Ar=>ae2 a.name a.ref&&an6 a.x (!a.ref)) l k g;have i:=eE1 g;generalize l[k]=y at o q i;obtain⟨b,U,G,x,B,j,z⟩:=bi1 (o.mono (b7 d)) (n7 _);obtain⟨m,K,_⟩:=z.ar;obtain⟨M,C,L,_⟩:=m.ex_v;have F:=K G (n7 _);have D:=L G (n7 _);have c:(ae2 y.name y.ref&&an6 y.x (!y.ref))=false->aT2 l=false:=λh=>aR6 (p:=λa:Ar=>ae2 a.name a.ref&&an6 a.x (!a.ref)) i h;simp only[p6,n9,A6,simprocAttr,s,H,A,n,x,B,F];apply z6 (bB9 y.name y.ref _);rintro u S ⟨rfl,rfl⟩;cases hnm:ae2 y.name y.ref
   .simp only[eQ,simprocAttr];apply o8 results249;simp only[C9,simprocAttr];exact⟨by rw[c (by rw[hnm];rfl)],d.trans j⟩
   .simp only[eQ,simprocAttr,F,D];apply z6 (cl0 M y.x (!y.ref) _ C);rintro u T ⟨rfl,r⟩;cases hwo:an6 y.x (!y.ref)
    .simp only[eQ,simprocAttr];apply o8 results249;simp only[C9,simprocAttr];exact⟨by rw[c (by rw[hwo];simp)],d.trans (j.trans r)⟩
    .simp only[eQ,simprocAttr,s];exact U5 (k+1) ⟨by rw[q,e,hnm,hwo];rfl,d.trans (j.trans r)⟩
  .rintro rfl;simp only[p6,simprocAttr];apply o8 results249;simp only[C9,simprocAttr];rw[eE4]at e;exact⟨by rw[aT2,e],d⟩
def es3:=zJ (zJ (zJ (zJ (zJ (zJ @et2 @es5) (zJ @ei4 (zJ @es8 @es9))) (zJ (zJ @es6 @es7) (zJ @ew6 (zJ @ew2 @eq4)))) (zJ (zJ (zJ @ew3 @ew4) (zJ @ej7 (zJ @eh0 @ej8))) (zJ (zJ @ej9 @eu9) (zJ @eu8 (zJ @et4 @ew9))))) (zJ (zJ (zJ (zJ @eA9 @ei2) (zJ @ev8 (zJ @ei3 @ev9))) (zJ (zJ @ez4 @eB4) (zJ @dR9 (zJ @eo2 @dS0)))) (zJ (zJ (zJ @eo3 @eo4) (zJ @ed7 (zJ @dX1 @dX0))) (zJ (zJ @eo1 @ez6) (zJ @ez5 (zJ @ed6 @ez8)))))) (zJ (zJ (zJ (zJ (zJ @ez7 @ev6) (zJ @dL9 (zJ @en1 @ey9))) (zJ (zJ @dR6 @ei1) (zJ @ed0 (zJ @ey4 @ez0)))) (zJ (zJ (zJ @ei0 @ev5) (zJ @en4 (zJ @ev4 @ev.eq_1))) (zJ (zJ @ev.eq_2 @ev.eq_3) (zJ @ev.eq_4 (zJ @G9.eq_1 @G9.eq_2))))) (zJ (zJ (zJ (zJ @eA8 @ez1) (zJ @ez9 (zJ @eA0 @List.map_cons.{0,0}))) (zJ (zJ @List.map_nil.{0,0} @List.map_toArray.{0,0}) (zJ @cw5.eq_1 (zJ @cw5.eq_2 @eb7)))) (zJ (zJ (zJ @eu6 @eu7) (zJ @dy3.eq_1 (zJ @List.getElem?_toArray.{0} @List.getElem?_cons_zero.{0}))) (zJ (zJ @List.getElem?_cons_succ.{0} @Option.bind_some.{0,0}) (zJ @Option.some.injEq.{0} (zJ @eK7 @Bool.true_eq_false))))))
def cO7(x:Ex)(a:List B9):ay9 x a=aE4 x.kids (if x.op=2/\a.contains x.name=false then a++[x.name]else a):=by
 cases x;simp only[ay9,Ex.kids,Ex.op,Ex.name];rfl
mutual
def bb4:∀(x:Ex) (a:List B9),(ay9 x a).length<=a.length+ae9 x
 | .mk op n name kids,a=>by
  have h:=bH3 kids (if op=2/\a.contains name=false then a++[name]else a);have b:(if op=2/\a.contains name=false then a++[name]else a).length<=a.length+1:=by
   split
   .simp
   .omega
  simp only[ay9,ae9,wtT];omega
def bH3:∀(l:List Ex) (a:List B9),(aE4 l a).length<=a.length+aK3 l
 | [],a=>by simp[aE4,aK3]
 | x::l,a=>by
  have b:=bb4 x a;have c:=bH3 l (ay9 x a);simp only[aE4,aK3];omega
end
def cO8:∀(m:Nat) (x:Ex) (v g:Value) (c:List B9) (h:Hp) (w:World),ae9 x<=m->SV h v x->E6 h (n8 w)->B7 h w 9 g c->c.length+ae9 x<=1000000 ->
  p7 prog 262 #[v,g] w λu W=>(B7 h W 9 u (ay9 x c)/\t8 (B0 g) w W/\F4 w g u):=by
 intro m
 induction m using Nat.strongRecOn with
 | ind m ih=>
 intro x v g c h w aE hv hh ho hl;apply y5 [v,g] func262 rfl;have aG:=cu2 x;obtain⟨a,I,af,D,ha⟩:=bL6 (w:=w) (B0 g) hv (λb d=>ho.lt d);obtain⟨vk,Y,ld,_⟩:=L8.ex hv ha;have l1:=ld I (B6 _ _);have A:=ho.ext D;have G:=A3 hh (b7 D);have ac:=Y.isS;have ak:=Y.vlen;have aD:=cl2 x.kids;rw[bM9];simp only[es3,n9,simprocAttr,af];refine el0 [2] (λf2 X=>∃u,f2 1=u/\B7 h X 9 u (if x.op=2/\c.contains x.name=false then c++[x.name]else c)/\t8 (B0 g) I X/\F4 I g u) (by decide +kernel) ?_ ?_
 .by_cases F:x.op=2
  .have Z:decide (x.op=2)=true:=by simp[F]
   simp only[eQ,simprocAttr,l1,Z];apply F6 (X0 g c x.name I (A.rw_ G) om);cases h2:c.contains x.name
   .obtain⟨p1,u',X,p2,p3,p4,p5⟩:=push (e:=22) aF0 rfl A (x:=x.name) (y:=x.name) rfl om om G;simp only[eQ,simprocAttr,l1,p1,p2];exact⟨u',tt,by rw[fi ⟨F,tt⟩];exact p3,p4,p5⟩
   .simp only[eQ,simprocAttr];exact⟨g,tt,by rw[fh (by rintro⟨_,h⟩;cases h)];exact A,t8.refl _,λb d=>.inl d⟩
  .have Z:decide (x.op=2)=false:=by simp[F]
   simp only[eQ,simprocAttr,l1,Z];exact⟨g,tt,by rw[fh (λh=>F h.1)];exact A,t8.refl _,λb d=>.inl d⟩
 .rintro f2 X N ⟨u0,g1,V,S,T⟩;simp only[eF8,C9,↓reduceIte,Nat.reduceEqDiff]at N;obtain⟨g2,_⟩:=N;have H:(if x.op=2/\c.contains x.name=false then c++[x.name]else c).length<=c.length+1:=by
   split
   .simp
   .omega
  have J:=cO7 x c;generalize(if x.op=2/\c.contains x.name=false then c++[x.name]else c)=o0 at V H J;have aF:1<=wtT x.name:=by simp[wtT]
  simp only[eQ,simprocAttr,g2,ld X (F5 S),ac,ak];refine E4 [23,24] (σ:=Nat×Value×List B9) (λs f W=>f 25=s.1/\f 1=s.2.1/\s.1<=x.kids.length/\B7 h W 9 s.2.1 s.2.2/\t8 (B0 g) I W/\F4 I g s.2.1/\aE4 x.kids o0=aE4 (x.kids.drop s.1) s.2.2/\s.2.2.length+aK3 (x.kids.drop s.1)<=1000000) (λs=>x.kids.length-s.1) (0,u0,o0) ?_ ?_
  .simp only[C9,simprocAttr];exact⟨tt,by simpa using g1,eE2 _,V,S,T,dG,by simp;omega⟩
  .rintro⟨k,u,o⟩ f w3 O ⟨q,F,L,B,z,l,n,p⟩;simp only at q F L B l n p;simp only[eF8,C9,↓reduceIte,Nat.reduceEqDiff]at O;obtain⟨aa,ab,_⟩:=O;simp only[eQ,simprocAttr,q,ab];refine A7 (λr=>?_) ?_
   .have ah:=Y.inS r;have K:E6 h (n8 w3):=G8 G z λb d=>ho.free d;obtain⟨sv,C,Q⟩:=G1 (P:=prog) (t:=110) Y K (eD1 r) bd7 be0 aV6 ag6;rw[ag6]at Q;have j:x.kids.drop k=x.kids[k]::x.kids.drop (k+1):=eI2 r;have ao:=bF2 (eE1 r);generalize x.kids[k]=y at C j ao;rw[j,aE4]at n;rw[j,aK3]at p;have aB:=bb4 y o;obtain⟨b,wz,w4,ad,an,E,ae⟩:=dU2 (w:=w3) (B0 u) C (λb d=>B.lt d);obtain⟨lw,_⟩:=L8.ex_v C ae;simp only[p6,n9,A6,simprocAttr,q,F,aa,ah,Q,ad,an,lw w4 (B6 _ _)];apply z6 (ih (ae9 y) om y sv u o h w4 (eE8 _) C (A3 K (b7 E)) (B.ext E) om);rintro u' w5 ⟨am,aj,U⟩;simp only[eQ,simprocAttr,q];have R:t8 (B0 g) I w5:=(z.trans (t8.up E)).chain aj λi hi d=>by
     rcases l i d with d|d
     .exact d
     .omega
    refine nx4 (k+1,u',ay9 y o) ⟨am,R,λb d=>?_,n,so⟩;rcases U b d with d|d
    .exact l b d
    .have:=(z.trans (t8.up (M:=B0 g) E)).size;exact .inr om
   .rintro rfl;simp only[p6,simprocAttr,F];apply o8 results262;simp only[C9,simprocAttr];rw[eN6]at n;have ag:ay9 x c=o:=by rw[J,n];rfl
    exact⟨by rw[ag];exact B,(t8.up D).trans z,λb d=>(l b d).imp id λh=>eD7 D.size h⟩
def aG9(v)(x:Ex)(w)(hv:SV (n8 w) v x)(o:ae9 x<=1000000):p7 prog 199 #[v] w λu j=>(B7 (n8 w) j 9 u (ap6 x)/\o6 w j):=by
 apply y5 [v] func199 rfl;obtain⟨a,k,f,d,m⟩:=bL6 (w:=w) (λ_=>False) hv (λ_ h=>h.elim);obtain⟨i,_⟩:=L8.ex_v hv m;simp only[eQ,simprocAttr,f,i k (B6 _ _)];refine B3 (bF5 v x k (hv.mono (b7 d))) (λl e=>?_);cases hd:aa1 20 x
 .simp only[eQ,simprocAttr];exact o8 results199 ⟨by rw[ap6,hd];exact B7.nil _ _ _,d.trans e⟩
 .have c:=d.trans e;simp only[eQ,simprocAttr,i l (A3 (B6 _ _) (b7 e))];apply z6 (cO8 _ x v () [] (n8 w) l (eE8 _) hv (b7 c) (B7.nil _ _ _) (by simpa using o));rintro u r ⟨q,g,p⟩;simp only[p6,simprocAttr];exact o8 results199 ⟨by rw[ap6,hd];exact q,t8.ext_of c g λb n=>fj n E7⟩
def eN5:=@flatMap_append
def eP8:=@take_succ_cons
def aj7(x:Ex):(ap6 x).length<=ae9 x:=by
 unfold ap6;split
 .have:=bb4 x [];simpa using this
 .simp
def cm7(a:Ar):(P2 a).length<=aD2 a:=by
 have:=aj7 a.x;unfold P2 aD2 wtT;split<;>simp<;>omega
def M1{α β:Type}(g:α->List β)(l:List α){k}(a:k<l.length):(l.take (k+1)).flatMap g=(l.take k).flatMap g++g l[k]:=by
 rw[eD9 a,eN5];simp
def U9:∀(l:List Ar),(l.flatMap P2).length<=ao2 l
 | []=>dG
 | a::l=>by
  have b:=U9 l;have c:=cm7 a;simp only[eN2,eD4,ao2];omega
def aK2:∀(l:List Ar) (k:Nat),ao2 (l.take k)<=ao2 l
 | [],k=>dG
 | a::l,0=>by simp[ao2]
 | a::l,k+1=>by have:=aK2 l k;simp only[eP8,ao2];omega
def bd5(v)(t:St)(w)(hv:SV (n8 w) v t)(hl:Z6 t<=1000000):p7 prog 176 #[v] w λu A=>(B7 (n8 w) A 9 u (N0 t)/\o6 w A):=by
 apply y5 [v] func176 rfl;rw[aa0]at hl;obtain⟨a,d,ao,l,ha⟩:=cX5 (w:=w) (λ_=>False) hv (λ_ h=>h.elim);obtain⟨vl,ux,va,vt,ve,_,Z,R,r,_,_,ld,_⟩:=L8.st hv ha;have i:∀A,o6 d A->E6 (D9 d λ_=>False) (n8 A):=λA h=>A3 (B6 _ _) (b7 h);have l1:=ld d (i _ (t8.refl _));have aY:=aj7 t.x;rw[bM9];simp only[es3,n9,simprocAttr,ao];rw[bM9];simp only[es3,simprocAttr];refine el0 [1] (λf2 N=>∃u,f2 3=u/\B7 (n8 d) N 9 u (if t.kind≠10/\t.name≠e0 then[t.name]else[])/\o6 d N) (by decide +kernel) ?_ ?_
 .by_cases h1:t.kind=10
  .have d1:decide (t.kind=10)=true:=by simp[h1]
   simp only[eQ,simprocAttr,l1,d1];exact⟨_,tt,by rw[fh (λh=>h.1 h1)];exact B7.nil _ _ _,t8.refl _⟩
  .have d1:decide (t.kind=10)=false:=by simp[h1]
   by_cases h2:t.name=e0
   .have d2:decide (t.name=e0)=true:=by simp[h2]
    simp only[eQ,simprocAttr,l1,d1,d2];exact⟨_,tt,by rw[fh (λh=>h.2 h2)];exact B7.nil _ _ _,t8.refl _⟩
   .have d2:decide (t.name=e0)=false:=by simp[h2]
    obtain⟨p1,u',N,p2,p3,p4,p5⟩:=push (e:=22) aF0 rfl (B7.nil (n8 d) d 9) (x:=t.name) (y:=t.name) rfl dG dG (n7 _);simp only[eQ,simprocAttr,l1,d1,d2,p1,p2];exact⟨u',tt,by rw[fi ⟨h1,h2⟩];exact p3,t8.ext_of (t8.refl _) p4 λb p=>fj p E7⟩
 .rintro f2 N S ⟨u0,g3,H,z⟩;simp only[eF8,C9,↓reduceIte,Nat.reduceEqDiff]at S;obtain⟨g1,_⟩:=S;have X:N0 t=(if t.kind≠10/\t.name≠e0 then[t.name]else[])++ap6 t.x++t.args.flatMap P2:=rfl;have G:(if t.kind≠10/\t.name≠e0 then[t.name]else[]).length<=1:=by split<;>simp
  generalize(if t.kind≠10/\t.name≠e0 then[t.name]else[])=o0 at H G X;obtain⟨ax,_⟩:=L8.ex_v Z R;have ac:=l.trans z;simp only[eQ,simprocAttr,g1,g3,ax N (i _ z)];apply z6 (aG9 ux t.x N (Z.mono (b7 ac)) om);rintro u3 w3 ⟨ar,n⟩;have aJ:1<=wtT t.name/\1<=wtT t.proc:=by simp[wtT]
  obtain⟨u4,w4,a1,a2,a3,a4⟩:=aj8 (P:=prog) (e:=22) aF0 (H.ext n) (ar.rw_ (b7 n)) (n7 _) om om (b7 (z.trans n));have C:o6 d w4:=t8.ext_of (z.trans n) a3 λb p=>D4 ((H.ext n).free p);have aW:=ay2 t.args;simp only[eQ,simprocAttr,g1,a1,ld w4 (i _ C),r.isS,r.vlen];refine E4 [25,26] (σ:=Nat×Value) (λs f A=>f 27=s.1/\f 3=s.2/\s.1<=t.args.length/\B7 (n8 d) A 9 s.2 (o0++ap6 t.x++(t.args.take s.1).flatMap P2)/\o6 d A) (λs=>t.args.length-s.1) (0,u4) ?_ ?_
  .exact⟨rfl,rfl,eE2 _,by simpa using a2,C⟩
  .rintro⟨k,u⟩ f w5 T ⟨g,h3,aq,j,M⟩;simp only at g h3 aq j;simp only[eF8,C9,↓reduceIte,Nat.reduceEqDiff]at T;obtain⟨al,am,_⟩:=T;simp only[eQ,simprocAttr,g,am];refine A7 (λq=>?_) ?_
   .have ap:=r.inS q;obtain⟨sv,J,U⟩:=G1 (P:=prog) (t:=125) r (b7 (l.trans M)) (eD1 q) aM8 aM9 aK0 aa3;rw[aa3]at U;have L:=M1 P2 t.args q;have ab:=bi4 (eE1 q);have aI:((t.args.take k).flatMap P2).length<=ao2 t.args:=eD7 (U9 _) (aK2 _ _);have c:((t.args.take (k+1)).flatMap P2).length<=ao2 t.args:=eD7 (U9 _) (aK2 _ _);rw[L]at c;generalize t.args[k]=y at J L ab c;have B:P2 y=(if y.ref then[y.name]else[])++ap6 y.x:=rfl;rw[B]at c;simp only[eD4]at c;obtain⟨b,wz,w6,Q,Y,ae,an⟩:=dd3 (w:=w5) (B0 u) J (λb p=>j.lt p);obtain⟨uy,aa,F,aw,_⟩:=L8.ar J an;obtain⟨ay,_⟩:=L8.ex_v aa F;have I:=j.ext ae;have D:=M.trans ae;have l6:=aw w6 (B6 _ _);simp only[p6,n9,A6,simprocAttr,g,al,ap,U,Q,Y,l6];generalize hK:CW prog _ (ai2 1 (aj9 _ _))=K;have af:∀(u7:Value) (O:Fr) (E:World),O 3=u7->O 5=b->O 27=k->B7 (n8 d) E 9 u7 (o0++ap6 t.x++(t.args.take k).flatMap P2++(if y.ref then[y.name]else[]))->t8 (B0 u) w6 E->K O E:=by
     intro u7 O E q3 q5 aE W V;have m:o6 d E:=t8.ext_of D V λb p=>D4 (I.free p);have az:=ay E (F5 V);rw[<-hK];simp only[eQ,simprocAttr,q3,q5,az];apply z6 (aG9 uy y.x E (aa.mono (b7 (l.trans m))) (by unfold aD2 at ab;omega));rintro u8 w8 ⟨au,o⟩;obtain⟨u9,w9,c1,c2,c3,c4⟩:=aj8 (P:=prog) (e:=22) aF0 (W.ext o) (au.rw_ (b7 o)) (n7 _) (by simp only[eD4];omega) (by simp only[eD4];omega) (b7 (m.trans o));have ad:o6 d w9:=t8.ext_of (m.trans o) c3 λb p=>D4 ((W.ext o).free p);simp only[eQ,simprocAttr,c1,aE];refine nx4 (k+1,u9) ⟨?_,ad⟩;simp only[];rw[L,B];simp only[eG4]at c2 ⊢;exact c2
    cases hr:y.ref
    .simp only[p6,simprocAttr];refine af u _ _ ?_ ?_ ?_ (by rw[hr];simpa using I) (t8.refl _)<;>simp only[C9,↓reduceIte,Nat.reduceEqDiff,h3,g]
    .obtain⟨p1,u7,E,p2,p3,p4,p5⟩:=push (e:=22) aF0 rfl I (x:=y.name) (y:=y.name) rfl (by simp only[eD4];omega) (by simp only[eD4];omega) (b7 D);simp only[eQ,simprocAttr,h3,l6,p1,p2];refine af u7 _ _ ?_ ?_ ?_ (by rw[hr];exact p3) p4<;>simp only[C9,↓reduceIte,Nat.reduceEqDiff,g]
   .rintro rfl;simp only[p6,simprocAttr,h3];apply o8 results176;simp only[C9,simprocAttr];rw[eE4]at j;exact⟨by rw[X];exact j.back l,l.trans M⟩
def cN6(v)(s:St)(w)(hv:SV (n8 w) v s)(hb:Z6 s<=1000000):p7 prog 186 #[v] w λu w'=>(u=(O3 s)/\o6 w w'):=by
 apply y5 [v] func186 rfl;obtain⟨a,e,ab,hx,ha⟩:=ay8 hv (n7 _);obtain⟨vl,va,vt,ve,hl,y,ht,he,E,ld,sd⟩:=ha.st;have d:=hx.trans (o6.drew e);have C:=ld e.drew (b7 (o6.drew e));have s1:=sd (λw2=>o6 e.drew w2) e.drew (t8.refl _) (λw' h=>b7 ((o6.drew e).trans h));simp only[eQ,simprocAttr,ab];apply C4 (λw2=>o6 e.drew w2) 8 (A8 [0,1,2,3,4,5,6,7]);simp only[D7,A8,p6,n9,simprocAttr,s1];simp only[eQ,simprocAttr,C];generalize hK:CW prog _ (aX4 prog _ _)=K;have Y:=y.isS;have ac:=y.vlen;have Z:=ht.isS;have ad:=ht.vlen;have aa:=he.isS;have ae:=he.vlen;have c1:decide ((0:Int)<((s.args.length:Nat):Int))=decide (0<s.args.length):=eI5.2 om;have c2:decide ((0:Int)<((s.thn.length:Nat):Int))=decide (0<s.thn.length):=eI5.2 om;have c3:decide ((0:Int)<((s.els.length:Nat):Int))=decide (0<s.els.length):=eI5.2 om;have b:∀(k:Fl) (f:Fr),Z9 s=some k->f 1=a->f 3=k.name->f 4=k.proc->f 5=k.x->f 6=k.has->f 7=k.thn->f 8=k.els->f 9=(decide (s.kind=4))->K f e.drew:=by
  rintro⟨O,P,Q,M,th,el⟩ f hk r H I J R g7 g8 g9;simp only at H I J R g7 g8;have x:O3 s=(!(M||(!th&&decide (0<s.thn.length))||(!el&&decide (0<s.els.length))||(!decide (s.kind=4)&&decide (0<s.args.length))) &&
   ae2 s.name O&&ae2 s.proc P&&an6 s.x Q&&aT2 s.args):=by rw[O3,hk]
  clear hk;generalize decide (s.kind=4)=ar at x g9;rw[<-hK,bM9];generalize X:CW prog _ (aX4 prog _ _)=K2;have A:∀(f:Fr),f 1=a->f 3=O->f 4=P->f 5=Q->(M||(!th&&decide (0<s.thn.length))||(!el&&decide (0<s.els.length))||(!ar&&decide (0<s.args.length)))=false->K2 f e.drew:=by
   intro f r H I J S;rw[S]at x;rw[<-X]
   .simp only[eQ,simprocAttr,r,H,C];apply z6 (bB9 s.name O _);rintro u w3 ⟨rfl,rfl⟩;cases i:ae2 s.name O
    .simp only[eQ,simprocAttr];apply o8 results186;exact⟨by rw[x,i];rfl,d⟩
    simp only[eQ,simprocAttr,r,I,C];apply z6 (bB9 s.proc P _);rintro u w3 ⟨rfl,rfl⟩;cases l:ae2 s.proc P
    .simp only[eQ,simprocAttr];apply o8 results186;exact⟨by rw[x,i,l];rfl,d⟩
    obtain⟨sx,af,lx,_⟩:=E.ex_v;simp only[eQ,simprocAttr,r,J,lx e.drew (b7 (o6.drew e))];apply z6 (cl0 sx s.x Q _ (af.mono (b7 (o6.drew e))));rintro u w3 ⟨rfl,n⟩;cases t:an6 s.x Q
    .simp only[eQ,simprocAttr];apply o8 results186;exact⟨by rw[x,i,l,t];rfl,d.trans n⟩
    simp only[eQ,simprocAttr,r,ld w3 (b7 ((o6.drew e).trans n))];apply z6 (cP4 va s.args _ (A9.mono (b7 ((o6.drew e).trans n)) y) (by have:=ay2 s.args;rw[aa0]at hb;omega));rintro u w4 ⟨rfl,ag⟩;simp only[p6,simprocAttr];apply o8 results186;simp only[C9,simprocAttr];exact⟨by rw[x,i,l,t];simp,d.trans (n.trans ag)⟩
  have D:(M||(!th&&decide (0<s.thn.length))||(!el&&decide (0<s.els.length))||(!ar&&decide (0<s.args.length)))=true->O3 s=false:=λh=>by rw[x,h];rfl
  cases M
  case true=>
   simp only[p6,simprocAttr,R];apply o8 results186;simp only[C9,simprocAttr];exact⟨by rw[D rfl],d⟩
  cases th<;>cases d2:decide (0<s.thn.length)<;>cases el<;>cases d3:decide (0<s.els.length)<;>cases ar<;>cases d1:decide (0<s.args.length) <;>
  .rw[d1]at c1;rw[d2]at c2;rw[d3]at c3;simp only[eQ,simprocAttr,r,R,g7,g8,g9,C,Y,ac,Z,ad,aa,ae,c1,c2,c3]
   first
   | refine A _ ?_ ?_ ?_ ?_ (by rw[d1,d2,d3];rfl)<;>simp only[C9,↓reduceIte,Nat.reduceEqDiff,r,H,I,J]
   | apply o8 results186
     simp only[C9,simprocAttr];exact⟨by rw[D (by rw[d1,d2,d3];rfl)],d⟩
 have N:∀m:Int,m≠4->decide (s.kind=m)=true->decide (s.kind=4)=false:=λm hm h=>by
  have:=eD3 h;exact eG7 om
 refine B2 (λi=>?_) (λi=>?_)
 .have c:=N 1 om i;have g:=eD3 i;simp only[p6,simprocAttr,c];refine b ⟨true,false,true,s.has,false,false⟩ _ (by rw[Z9,fi g]) ?_ ?_ ?_ ?_ ?_ ?_ ?_ ?_<;>simp only[C9,↓reduceIte,Nat.reduceEqDiff,c]
 have g:=eD6 i;simp only[eQ,simprocAttr];refine B2 (λl=>?_) (λl=>?_)
 .have c:=N 2 om l;have k2:=eD3 l;simp only[p6,simprocAttr,l,c];refine b ⟨true,false,false,s.has,false,false⟩ _ (by rw[Z9,fh g,fi (.inl k2)]) ?_ ?_ ?_ ?_ ?_ ?_ ?_ ?_<;>simp only[C9,↓reduceIte,Nat.reduceEqDiff,c]
 have k2:=eD6 l;simp only[eQ,simprocAttr];refine B2 (λj=>?_) (λj=>?_)
 .have c:=N 10 om j;have F:=eD3 j;simp only[p6,simprocAttr,c];refine b ⟨true,false,false,s.has,false,false⟩ _ (by rw[Z9,fh g,fi (.inr F)]) ?_ ?_ ?_ ?_ ?_ ?_ ?_ ?_<;>simp only[C9,↓reduceIte,Nat.reduceEqDiff,c]
 have F:=eD6 j;have q:¬(s.kind=2\/s.kind=10):=om
 simp only[eQ,simprocAttr];refine B2 (λt=>?_) (λt=>?_)
 .have c:=N 3 om t;have o:=eD3 t;simp only[p6,simprocAttr,c];refine b ⟨false,false,true,s.has,false,false⟩ _ (by rw[Z9,fh g,fh q,fi o]) ?_ ?_ ?_ ?_ ?_ ?_ ?_ ?_<;>simp only[C9,↓reduceIte,Nat.reduceEqDiff,c]
 have o:=eD6 t;simp only[eQ,simprocAttr];refine B2 (λc=>?_) (λc=>?_)
 .have p:=eD3 c;simp only[eQ,simprocAttr,C];refine b ⟨decide (s.name≠e0),true,false,s.has,false,false⟩ _ (by rw[Z9,fh g,fh q,fh o,fi p]) ?_ ?_ ?_ ?_ ?_ ?_ ?_ ?_<;>simp only[C9,↓reduceIte,Nat.reduceEqDiff,c,decide_not]
 have p:=eD6 c;simp only[eQ,simprocAttr];refine B2 (λT=>?_) (λT=>?_)
 .have z:=eD3 T;simp only[p6,simprocAttr];refine b ⟨false,false,true,s.has,true,true⟩ _ (by rw[Z9,fh g,fh q,fh o,fh p,fi z]) ?_ ?_ ?_ ?_ ?_ ?_ ?_ ?_<;>simp only[C9,↓reduceIte,Nat.reduceEqDiff,c]
 have z:=eD6 T;simp only[eQ,simprocAttr];refine B2 (λU=>?_) (λU=>?_)
 .have B:=eD3 U;simp only[p6,simprocAttr];refine b ⟨false,false,true,s.has,true,false⟩ _ (by rw[Z9,fh g,fh q,fh o,fh p,fh z,fi B]) ?_ ?_ ?_ ?_ ?_ ?_ ?_ ?_<;>simp only[C9,↓reduceIte,Nat.reduceEqDiff,c]
 have B:=eD6 U;simp only[eQ,simprocAttr];refine B2 (λW=>?_) (λW=>?_)
 .have G:=eD3 W;simp only[eQ,simprocAttr,C];refine b ⟨false,false,s.has,false,false,false⟩ _ (by rw[Z9,fh g,fh q,fh o,fh p,fh z,fh B,fi G]) ?_ ?_ ?_ ?_ ?_ ?_ ?_ ?_<;>simp only[C9,↓reduceIte,Nat.reduceEqDiff,c]
 have G:=eD6 W;simp only[eQ,simprocAttr];refine B2 (λL=>?_) (λL=>?_)
 .have k7:=eD3 L;simp only[p6,simprocAttr,L];refine b ⟨false,false,false,s.has,false,false⟩ _ (by rw[Z9,fh g,fh q,fh o,fh p,fh z,fh B,fh G,fi (.inl k7)]) ?_ ?_ ?_ ?_ ?_ ?_ ?_ ?_<;>simp only[C9,↓reduceIte,Nat.reduceEqDiff,c]
 have k7:=eD6 L;simp only[eQ,simprocAttr];refine B2 (λV=>?_) (λV=>?_)
 .have k8:=eD3 V;simp only[p6,simprocAttr];refine b ⟨false,false,false,s.has,false,false⟩ _ (by rw[Z9,fh g,fh q,fh o,fh p,fh z,fh B,fh G,fi (.inr k8)]) ?_ ?_ ?_ ?_ ?_ ?_ ?_ ?_<;>simp only[C9,↓reduceIte,Nat.reduceEqDiff,c]
 have k8:=eD6 V;simp only[p6,simprocAttr];apply o8 results186;simp only[C9,simprocAttr];exact⟨by rw[O3,show Z9 s=none by rw[Z9,fh g,fh q,fh o,fh p,fh z,fh B,fh G,fh om]],d⟩
def aP9(d:Nat)(n:Int)(s:St):Option Int:=if n+1>200\/s.id≠n+1\/X7 s.labels=false\/O3 s=false then none else(J9 d s.thn (n+1)).bind λm=>J9 d s.els m
theorem bn5(d)(l:List St)(n):J9 (d+1) l n=l.foldlM (aP9 d) n:=rfl
def bH2{α β:Type}(g:β->α->Option β)(l:List α)(n:β){k}(a:k<l.length){m:β}(h:(l.take k).foldlM g n=some m):(l.take (k+1)).foldlM g n=g m l[k]:=by
 rw[eD9 a,foldlM_append,h];simp
def bH1{α β:Type}(g:β->α->Option β)(l:List α)(n:β){k}(b:k<l.length){m:β}(h:(l.take k).foldlM g n=some m)(a:g m l[k]=none):l.foldlM g n=none:=by
 conv=>lhs;rw[<-eH8 k l,eI2 b]
 rw[foldlM_append,h];show(do let s <-g m l[k];foldlM g s (l.drop (k+1)))=none;rw[a];rfl
def bw4:∀(d:Nat) (l:List St) (n m:Int),J9 d l n=some m->n<=m/\(n<=200->m<=200)
 | 0,l,n,m,h=>by
  unfold J9 at h;split at h
  .simp only[eO1]at h;subst h;exact⟨Int.le_refl _,λh=>h⟩
  .cases h
 | d+1,l,n,m,h=>by
  rw[bn5]at h
  induction l generalizing n with
  | nil=>simp only[foldlM_nil]at h;cases h;exact⟨Int.le_refl _,λh=>h⟩
  | cons s l a=>
   rw[foldlM_cons]at h;cases hs:aP9 d n s with
   | none=>rw[hs]at h;cases h
   | some b=>
    rw[hs]at h;have c:=a b h;unfold aP9 at hs;split at hs
    .cases hs
    .rename_i g;cases ht:J9 d s.thn (n+1)with
     | none=>rw[ht]at hs;cases hs
     | some i=>
      rw[ht]at hs;have e:=bw4 d _ _ _ ht;have f:=bw4 d _ _ _ hs;omega
def bV7:∀(d:Nat) (l:List St) (n:Int) (v:Value) (h:Hp) (c:Nat) (w:World),d<=12->E6 h (n8 w)->h c=none->w.heap[c]?=some (.cells #[.int .i64 n] 176 (0,0))->R h v l->M5 l<=1000000->0<=n->n<=200 ->
  p7 prog 116 #[.pointer (some ⟨c,0,none⟩),v,.int .i64 (13-(d:Int))] w λu q=>(u = .bool (J9 d l n).isSome/\(∀m,J9 d l n=some m->q.heap[c]?=some (.cells #[.int .i64 m] 176 (0,0)))/\t8 (λb=>b=c) w q)
 | 0,l,n,v,h,c,w,_,hh,hgb,hcell,hv,_,_,_=>by
  generalize hN:(13:Int)-((0:Nat):Int)=N;refine y5 [.pointer (some ⟨c,0,none⟩),v,.int .i64 N] func116 rfl ?_;have hS:=hv.isS;have hn:=hv.vlen;have d0:decide ((12:Int)<N)=true:=by subst hN;decide
  have c0:decide ((0:Int)<((l.length:Nat):Int))=decide (0<l.length):=eI5.2 om;cases hl:decide (0<l.length)
  .have U:l.length=0:=by simpa using hl
   have c1:decide ((0:Int)<((l.length:Nat):Int))=false:=c0.trans hl;simp only[eQ,simprocAttr,hS,hn,d0,c1];refine B4 [16,17] (σ:=Nat) (λk f q=>f 18 = .int .i64 0/\q=w) (λ_=>0) 0 ?_ ?_
   .exact⟨rfl,rfl⟩
   .rintro k f q ⟨aa,S,_⟩ ⟨p,rfl⟩;simp only[eQ,simprocAttr,p,S,c1];apply o8 results116;simp only[C9,simprocAttr];have e:J9 0 l n=some n:=by unfold J9;rw[fi U]
    exact⟨by rw[e];rfl,λm hm=>by rw[e]at hm;cases hm;exact hcell,t8.refl _⟩
  .have U:¬l.length=0:=by have:0<l.length:=by simpa using hl
                          omega
   simp only[eQ,simprocAttr,hS,hn,d0,c0,hl];apply o8 results116;simp only[C9,simprocAttr];have e:J9 0 l n=none:=by unfold J9;rw[fh U]
   exact⟨by rw[e];rfl,λm hm=>(by rw[e]at hm;cases hm),t8.refl _⟩
 | d+1,l,n,v,h,c,w,hd,hh,hgb,hcell,hv,hwt,hn0,hn2=>by
  generalize hN:(13:Int)-((d+1:Nat):Int)=N;refine y5 [.pointer (some ⟨c,0,none⟩),v,.int .i64 N] func116 rfl ?_;have d0:decide ((12:Int)<N)=false:=by simp;omega
  have C:IntKind.i64.wrap (N+1)=13-(d:Int):=by rw[N7 _ om];omega
  simp only[eQ,simprocAttr,hv.isS,hv.vlen,d0];refine B4 [0,2,16,17] (σ:=Nat×Int) (λs f q=>f 18 = .int .i64 s.1/\s.1<=l.length/\(l.take s.1).foldlM (aP9 d) n=some s.2/\0<=s.2/\s.2<=200/\q.heap[c]?=some (.cells #[.int .i64 s.2] 176 (0,0))/\t8 (λb=>b=c) w q) (λs=>l.length-s.1) (0,n) ?_ ?_
  .exact⟨rfl,eE2 _,dG,hn0,hn2,hcell,t8.refl _⟩
  .rintro⟨k,m⟩ f w1 ⟨e0,e2,aa,S,_⟩ ⟨p,av,g,ax,ay,I,X⟩;simp only at p av g ax ay I;simp only[eQ,simprocAttr,p,S];refine A7 (λB=>?_) ?_
   .have au:=hv.inS B;have af:E6 h (n8 w1):=G8 hh X λb hb=>by subst hb;exact hgb
    have ae:c<w1.heap.size:=(eD5.1 I).1;have ao:∀b,b=c->b<w1.heap.size:=λb hb=>by subst hb;exact ae
    obtain⟨sv,ah,ag⟩:=G1 (P:=prog) (t:=113) hv af (eD1 B) bo5 bo7 aV7 ag7;rw[ag7]at ag;have E:=bH2 (aP9 d) l n B g;have D:=bH1 (aP9 d) l n B g;have J:Z6 l[k]<=1000000:=eD7 (ay5 (eE1 B)) hwt;generalize l[k]=s at ah E D J;obtain⟨a,wz,Y,ap,aH,aj,ab⟩:=er9 (P:=prog) (T:=113) (N:=λb=>b=c) ah (dz0 af λb hb=>by subst hb;exact hgb) ao bY7 rfl ag7;have ad:Y.heap[c]?=some (.cells #[.int .i64 m] 176 (0,0)):=(aj.block c ae id).trans I;obtain⟨H,aF,r,aK⟩:=ai1 (P:=prog) (t:=3) (i:=0) (x:=.int .i64 (m+1)) ad dG rfl rfl (B1 aN0).choose_spec.1 (by rw[<-F8 (B1 aN0).choose_spec.1];exact bx6);simp only[Array.setIfInBounds,eO0,eG6,eK5,eH5,Nat.lt_add_one,↓reduceDIte,set_toArray,set_cons_zero]at r;have aw:=F9 (P:=prog) (t:=3) (i:=0) (u:=.int .i64 m) ad rfl K7;have aJ:IntKind.i64.wrap (m+1)=m+1:=N7 _ om;have F:=aK.trans ((o6.drew H).weaken (N:=λb=>b=c) λ_ _ h=>h.elim);have W:E6 (D9 Y λb=>b=c) (n8 H.drew):=F5 F;obtain⟨vl,va,vt,ve,aD,a1,aE,aC,aU,ld,sd⟩:=ab.st;obtain⟨ss,aG,a3,aN⟩:=ab.st_v;have O:∀q,o6 H.drew q->E6 (D9 Y λb=>b=c) (n8 q):=λq h=>A3 W (b7 h);have s3:=sd (o6 H.drew) H.drew (t8.refl _) O;have s4:=aN (o6 H.drew) H.drew (t8.refl _) O;have V:∀K f d w,X8 prog (o6 H.drew) (Instr.loadAt 3 (.pointer (some ⟨c,0,none⟩))) K f d w=K (G9 f d (.int .i64 (m+1))) w:=λK f d w=>L5 (w0:=H.drew) (t8.refl _) λq aI=>F9 (i:=0) ((aI.block c (eD5.1 r).1 id).trans r) rfl K7;have j:t8 (λb=>b=c) w H.drew:=X.trans ((aj.weaken λ_ _ h=>h.elim).trans F);simp only[p6,n9,A6,simprocAttr,p,e0,aa,au,ag,ap,aH,aw,aJ,aF];refine C4 (o6 H.drew) 25 (A8 [0,1,2,3,4,5,6,7,8,9,10,11,12,13,14,15,16,17,18,19,20,21,22,23,24]) ?_;have o:aP9 d m s=none->J9 (d+1) l n=none:=λh=>by rw[bn5];exact D h
    cases b1:decide ((200:Int)<m+1)
    case true=>
     simp only[D7,A8,p6,n9,simprocAttr,e0,V,b1];apply o8 results116;simp only[C9,simprocAttr];have e:=o (by rw[aP9,fi (.inl (by simpa using b1))]);exact⟨by rw[e];rfl,λm hm=>(by rw[e]at hm;cases hm),j⟩
    cases b2:decide (s.id=m+1)
    case false=>
     simp only[D7,A8,p6,n9,simprocAttr,e0,V,s3,b1,b2];apply o8 results116;simp only[C9,simprocAttr];have e:=o (by rw[aP9,fi (.inr (.inl (by simpa using b2)))]);exact⟨by rw[e];rfl,λm hm=>(by rw[e]at hm;cases hm),j⟩
    simp only[D7,A8,p6,n9,simprocAttr,e0,V,s3,b1,b2];apply z6 (bg7 vl s.labels _ (A9.mono W aD) (by have:=ab8 s.labels;rw[aa0]at J;omega));rintro u w4 ⟨rfl,rfl⟩;cases b3:X7 s.labels
    case false=>
     simp only[D7,p6,n9,simprocAttr,F2];refine⟨t8.refl _,?_⟩;apply o8 results116;simp only[C9,simprocAttr];have e:=o (by rw[aP9,fi (.inr (.inr (.inl b3)))]);exact⟨by rw[e];rfl,λm hm=>(by rw[e]at hm;cases hm),j⟩
    simp only[D7,p6,n9,simprocAttr,F2,s4];refine⟨t8.refl _,?_⟩;apply z6 (cN6 ss s _ (aG.mono W) J);rintro u Z ⟨rfl,G⟩;have Q:t8 (λb=>b=c) Y Z:=F.trans (G.weaken λ_ _ h=>h.elim);have y:t8 (λb=>b=c) w Z:=j.trans (G.weaken λ_ _ h=>h.elim);cases b4:O3 s
    case false=>
     simp only[D7,p6,n9,simprocAttr,F2];refine⟨G,?_⟩;apply o8 results116;simp only[C9,simprocAttr];have e:=o (by rw[aP9,fi (.inr (.inr (.inr b4)))]);exact⟨by rw[e];rfl,λm hm=>(by rw[e]at hm;cases hm),y⟩
    have hK:aP9 d m s=(J9 d s.thn (m+1)).bind λm=>J9 d s.els m:=by
     rw[aP9,fh];simp only[eP4]at b1;have am:s.id=m+1:=by simpa using b2
     rintro(h|h|h|h)
     .exact b1 h
     .exact h am
     .rw[b3]at h;cases h
     .rw[b4]at h;cases h
    have az:m+1<=200:=by have:=eD6 b1;omega
    have aq:Z.heap[c]?=some (.cells #[.int .i64 (m+1)] 176 (0,0)):=(G.block c (eD5.1 r).1 id).trans r;have L:E6 (D9 Y λb=>b=c) (n8 Z):=F5 Q;have l5:=ld Z L;rw[aa0]at J;simp only[D7,p6,n9,simprocAttr,F2];refine⟨G,?_⟩;simp only[eQ,simprocAttr,e0,e2,l5,C];apply z6 (bV7 d s.thn (m+1) vt _ c Z om L (G2 rfl) aq aE om om az);rintro u w6 ⟨rfl,aA,ak⟩;have z:=y.trans ak;cases ht:J9 d s.thn (m+1)with
    | none=>
     simp only[eQ,simprocAttr,Option.isSome_none];apply o8 results116;simp only[C9,simprocAttr];have e:=o (by rw[hK,ht];rfl);exact⟨by rw[e];rfl,λm hm=>(by rw[e]at hm;cases hm),z⟩
    | some m6=>
     have ar:=aA m6 ht;have aV:=bw4 d _ _ _ ht;have M:E6 (D9 Y λb=>b=c) (n8 w6):=F5 (Q.trans ak);simp only[eQ,simprocAttr,e0,e2,ld w6 M,C];apply z6 (bV7 d s.els m6 ve _ c w6 om M (G2 rfl) ar aC om om om);rintro u w7 ⟨rfl,aB,aL⟩;have A:=z.trans aL;cases he:J9 d s.els m6 with
     | none=>
      simp only[eQ,simprocAttr,Option.isSome_none];apply o8 results116;simp only[C9,simprocAttr];have e:=o (by rw[hK,ht];exact he);exact⟨by rw[e];rfl,λm hm=>(by rw[e]at hm;cases hm),A⟩
     | some m7=>
      have aW:=bw4 d _ _ _ he;simp only[eQ,simprocAttr,p];exact⟨(k+1,m7),om,by rw[I9 k (by have:=cl7 l;omega)],om,by rw[E,hK,ht];exact he,om,om,aB m7 he,A⟩
   .rintro rfl;simp only[p6,simprocAttr];apply o8 results116;simp only[C9,simprocAttr];rw[eE4]at g;have e:J9 (d+1) l n=some m:=by rw[bn5];exact g
    exact⟨by rw[e];rfl,λm' hm=>by rw[e]at hm;cases hm;exact I,X⟩
def du6:D0 prog 176 []=some (.agg #[(0:Int)]):=by
 simp[D0,ee6,M2,Instr.fill]
def ea6(w):∃a b,(Instr.box 176 (.agg #[(0:Int)])).run prog w = .ok (.pointer (some ⟨a,0,none⟩)) b/\o6 w b/\b.heap[a]?=some (.cells #[(0:Int)] 176 (0,0))/\w.heap.size<=a:=
 ⟨_,_,rfl,o6.alloc _ _,eH3 w _,eE8 _⟩
def cV9(v p w)(hv:SV (n8 w) v p)(a3:C1 p<=1000000):p7 prog 77 #[v] w λu E=>(u=(O1 p)/\o6 w E):=by
 refine y5 [v] func77 rfl ?_;obtain⟨a,U,aa,hx,ha⟩:=L3 hv (n7 _);obtain⟨vg,vp,hg,hp,ld,sd⟩:=ha.pg;have l1:=ld U (n7 _);have W:=hg.isS;have ad:=hg.vlen;have X:=hp.isS;have ae:=hp.vlen;have c1:decide ((16:Int)<((p.globals.length:Nat):Int)) = !decide (p.globals.length<=16):=by
  rw[<-decide_not];exact eI5.2 om
 have c2:decide ((16:Int)<((p.procs.length:Nat):Int)) = !decide (p.procs.length<=16):=by
  rw[<-decide_not];exact eI5.2 om
 cases h1:decide (p.globals.length<=16)
 .rw[h1]at c1;simp only[eQ,simprocAttr,aa,l1,W,ad,c1];refine o8 results77 ?_;simp only[C9,simprocAttr];exact⟨by rw[O1,h1];rfl,hx⟩
 cases h2:decide (p.procs.length<=16)
 .rw[h1]at c1;rw[h2]at c2;simp only[eQ,simprocAttr,aa,l1,W,ad,X,ae,c1,c2];refine o8 results77 ?_;simp only[C9,simprocAttr];exact⟨by rw[O1,h1,h2];rfl,hx⟩
 rw[h1]at c1;rw[h2]at c2;simp only[eQ,simprocAttr,aa,l1,W,ad,X,ae,c1,c2];refine F6 (bg7 vg p.globals _ hg (by have:=eD3 h1;omega)) ?_;cases h3:X7 p.globals
 .simp only[eQ,simprocAttr];refine o8 results77 ?_;simp only[C9,simprocAttr];exact⟨by rw[O1,h1,h2,h3];rfl,hx⟩
 obtain⟨r,w3,aU,aG,aV,ar⟩:=ea6 U;have av:n8 U r=none:=aE5 ar;have hF:O1 p=(p.procs.foldlM (λn f=>ac8 f n) 0).isSome:=by rw[O1,h1,h2,h3];rfl
 simp only[eQ,simprocAttr,du6,aU,ld w3 (b7 aG),X,ae];refine B4 [3,27,28] (σ:=Nat×Int) (λs f E=>f 29=s.1/\s.1<=p.procs.length/\(p.procs.take s.1).foldlM (λn f=>ac8 f n) 0=some s.2/\0<=s.2/\s.2<=200/\E.heap[r]?=some (.cells #[s.2] 176 (0,0))/\t8 (λb=>b=r) U E) (λs=>p.procs.length-s.1) (0,0) ?_ ?_
 .exact⟨rfl,eE2 _,dG,dG,dG,aV,aG.weaken λ_ _ h=>h.elim⟩
 .rintro⟨k,m⟩ f w4 ⟨e3,G,am,_⟩ ⟨x,aZ,d,ax,ay,ab,ah⟩;simp only at x aZ d ax ay ab;have o:∀E,t8 (λb=>b=r) U E->o6 w E:=λE h=>hx.trans (t8.ext_of (t8.refl _) h λb Z=>by subst Z;exact ar);simp only[eQ,simprocAttr,x,am];refine A7 (λB=>?_) ?_
  .have ac:=hp.inS B;have aw:E6 (n8 U) (n8 w4):=G8 (n7 _) ah λb Z=>by subst Z;exact av
   have au:r<w4.heap.size:=(eD5.1 ab).1;have aS:∀b,b=r->b<w4.heap.size:=λb Z=>by subst Z;exact au
   obtain⟨sv,aD,J⟩:=G1 (P:=prog) (t:=68) hp aw (eD1 B) as1 as2 ao1 N6;rw[N6]at J;have D:=bH2 (λn f=>ac8 f n) p.procs 0 B d;have C:=bH1 (λn f=>ac8 f n) p.procs 0 B d;have aF:ah4 p.procs[k]<=1000000:=eD7 (ay4 (eE1 B)) (by unfold C1 at a3;omega);generalize p.procs[k]=q at aD D C aF;obtain⟨b,wz,w5,Y,ag,aH,aT⟩:=er9 (P:=prog) (T:=68) (N:=λb=>b=r) aD (dz0 aw λb Z=>by subst Z;exact av) aS cI8 rfl N6;obtain⟨va,vv,vb,ve,L,af,a1,a2,aJ,_⟩:=aT.pr;have i:E6 (D9 w5 λb=>b=r) (n8 w5):=B6 _ _;have l5:=aJ w5 i;have Q:t8 (λb=>b=r) U w5:=ah.trans (aH.weaken λ_ _ h=>h.elim);have e:=o w5 Q;have H:=L.isS;have K:=L.vlen;have ao:=af.isS;have az:=af.vlen;have g:ac8 q m=none->O1 p=false:=λh=>by rw[hF,C h];rfl
   unfold ah4 at aF;have z:decide ((8:Int)<((q.params.length:Nat):Int))=decide (8<q.params.length):=eI5.2 om;have F:decide ((16:Int)<((q.vars.length:Nat):Int))=decide (16<q.vars.length):=eI5.2 om;cases b1:decide (8<q.params.length)
   case true=>
    rw[b1]at z;simp only[p6,n9,A6,simprocAttr,x,G,ac,J,Y,ag,l5,H,K,z];refine o8 results77 ?_;simp only[C9,simprocAttr];exact⟨by rw[g (by rw[ac8,fi (.inl (eD3 b1))])],e⟩
   rw[b1]at z;cases b2:decide (16<q.vars.length)
   case true=>
    rw[b2]at F;simp only[p6,n9,A6,simprocAttr,x,G,ac,J,Y,ag,l5,H,K,ao,az,z,F];refine o8 results77 ?_;simp only[C9,simprocAttr];exact⟨by rw[g (by rw[ac8,fi (.inr (.inl (eD3 b2)))])],e⟩
   rw[b2]at F;simp only[p6,n9,A6,simprocAttr,x,G,ac,J,Y,ag,l5,H,K,ao,az,z,F];refine F6 (aY5 q.name _) ?_;cases b3:R8 q.name
   .simp only[eQ,simprocAttr];refine o8 results77 ?_;simp only[C9,simprocAttr];exact⟨by rw[g (by rw[ac8,fi (.inr (.inr (.inl b3)))])],e⟩
   simp only[eQ,simprocAttr,l5];refine F6 (bg7 vv q.vars _ (A9.mono i af) (by have:=ab8 q.vars;omega)) ?_;cases b4:X7 q.vars
   .simp only[eQ,simprocAttr];refine o8 results77 ?_;simp only[C9,simprocAttr];exact⟨by rw[g (by rw[ac8,fi (.inr (.inr (.inr (.inl b4))))])],e⟩
   simp only[eQ,simprocAttr,l5];refine F6 (bg7 ve q.fin _ (A9.mono i a2) (by have:=ab8 q.fin;omega)) ?_;cases b5:X7 q.fin
   .simp only[eQ,simprocAttr];refine o8 results77 ?_;simp only[C9,simprocAttr];exact⟨by rw[g (by rw[ac8,fi (.inr (.inr (.inr (.inr (.inl b5)))))])],e⟩
   have bh:=ay3 q.params;simp only[eQ,simprocAttr,l5,H,K];refine B4 [3,5,27,28,29,62,63] (σ:=Nat) (λj f E=>f 64=j/\j<=q.params.length/\(q.params.take j).all (λa=>R8 a.name)=true/\o6 w5 E) (λj=>q.params.length-j) 0 ?_ ?_
   .exact⟨rfl,eE2 _,dG,t8.refl _⟩
   .rintro j f7 w7 ⟨g3,g5,aO,aP,an,aQ,aR,_⟩ ⟨V,bg,A,l⟩;rw[e3]at g3;rw[G]at aO;rw[am]at aP;rw[x]at an;have R:t8 (λb=>b=r) U w7:=Q.trans (l.weaken λ_ _ h=>h.elim);simp only[eQ,simprocAttr,V,aR];refine A7 (λI=>?_) ?_
    .have aY:=L.inS I;obtain⟨sa,aB,M⟩:=G1 (P:=prog) (t:=72) L (A3 i (b7 l)) (eD1 I) bd9 be1 aX0 ak2;rw[ak2]at M;have aE:=be8 (λa:Pa=>R8 a.name) q.params j I;have O:=eE1 I;generalize q.params[j]=y at aB aE O;obtain⟨c,wy,w8,ap,aC,aI,aq⟩:=aF2 (aB.mono (A3 i (b7 l))) (n7 _);obtain⟨a6,_⟩:=aq.pa;simp only[p6,n9,A6,simprocAttr,V,aQ,aY,M,ap,aC,a6 w8 (n7 _)];refine F6 (aY5 y.name _) ?_;cases b6:R8 y.name
     .simp only[eQ,simprocAttr];refine o8 results77 ?_;simp only[C9,simprocAttr];refine⟨by rw[g (by rw[ac8,fi (.inr (.inr (.inr (.inr (.inr (aR6 (p:=λa:Pa=>R8 a.name) O b6))))))])],o _ (R.trans (aI.weaken λ_ _ h=>h.elim))⟩
     .simp only[eQ,simprocAttr,V];exact U5 (j+1) ⟨by rw[aE,A,b6];rfl,l.trans aI⟩
    .rintro rfl;rw[eE4]at A;have aW:w7.heap[r]?=some (.cells #[m] 176 (0,0)):=((aH.trans l).block r au id).trans ab;have l7:=aJ w7 (A3 i (b7 l));have aA:ac8 q m=J9 12 q.body m:=by
      rw[ac8,fh];rintro(h|h|h|h|h|h)
      .exact(eD6 b1) h
      .exact(eD6 b2) h
      .rw[b3]at h;cases h
      .rw[b4]at h;cases h
      .rw[b5]at h;cases h
      .rw[A]at h;cases h
     simp only[eQ,simprocAttr,g3,g5,l7];refine z6 (bV7 12 q.body m vb _ r w7 om (A3 i (b7 l)) (G2 rfl) aW a1 om ax ay) ?_;rintro u w9 ⟨rfl,a0,a4⟩;have S:=R.trans a4;cases hr:J9 12 q.body m with
     | none=>
      simp only[eQ,simprocAttr,Option.isSome_none];refine o8 results77 ?_;simp only[C9,simprocAttr];exact⟨by rw[g (by rw[aA,hr])],o _ S⟩
     | some m9=>
      have ba:=bw4 _ _ _ _ hr;simp only[eQ,simprocAttr,an];exact⟨(k+1,m9),om,by rw[I9 k (by have:=eD3 h2;omega)],om,by rw[D,aA,hr],om,om,a0 m9 hr,S⟩
  .rintro rfl;simp only[p6,simprocAttr];refine o8 results77 ?_;simp only[C9,simprocAttr];rw[eE4]at d;exact⟨by rw[hF,d];rfl,o _ ah⟩
def eE6:=@contains_iff_mem
def dS1(v)(q:Pr)(w)(hv:SV (n8 w) v q)(hw:ah4 q<=1000000):p7 prog 120 #[v] w λu r=>(B7 (n8 w) r 9 u (bK9 q)/\o6 w r):=by
 apply y5 [v] func120 rfl;obtain⟨a,L,E,o,V⟩:=bL5 hv (n7 _);obtain⟨va,vv,vb,vf,d,I,_,_,M,_⟩:=V.pr;have Y:=M L (n7 _);have B:=d.isS;have H:=d.vlen;have W:=ay3 q.params;have X:=ab8 q.vars;unfold ah4 at hw;simp only[eQ,simprocAttr,E,Y,B,H];refine B4 [1,7,8] (σ:=Nat×Value) (λs f r=>f 9=s.1/\f 3=s.2/\s.1<=q.params.length/\B7 (n8 L) r 9 s.2 ((q.params.take s.1).map (·.name))/\o6 L r) (λs=>q.params.length-s.1) (0,()) ?_ ?_
 .exact⟨rfl,rfl,eE2 _,by simpa using B7.nil _ _ _,t8.refl _⟩
 .rintro⟨k,u⟩ f w2 ⟨S,T,U,_⟩ ⟨A,z,G,j,c⟩;simp only at A z G j;simp only[eQ,simprocAttr,A,U];refine A7 (λh=>?_) ?_
  .have F:=d.inS h;obtain⟨sv,m,i⟩:=G1 (P:=prog) (t:=72) d (b7 c) (eD1 h) bd9 be1 aX0 ak2;rw[ak2]at i;have n:(q.params.take (k+1)).map (·.name)=(q.params.take k).map (·.name)++[q.params[k].name]:=by
    rw[eD9 h,eG8];rfl
   generalize q.params[k]=y at m n;obtain⟨b,wz,w3,C,J,p,D⟩:=aF2 (m.mono (b7 c)) (n7 _);obtain⟨K,_⟩:=D.pa;have Z:=K w3 (n7 _);have l:=j.ext p;have g:=c.trans p;obtain⟨p1,N,w4,p2,p3,p4,p5⟩:=push (e:=22) aF0 rfl l (x:=y.name) (y:=y.name) rfl (by simp;omega) (by simp;omega) (b7 g);simp only[p6,n9,A6,simprocAttr,A,z,T,F,i,C,J,Z,p1,p2];exact nx4 (k+1,N) ⟨by rw[n];exact p3,l.ext2 g p4⟩
  .rintro rfl;rw[eE4]at j;obtain⟨N,w4,O,Q,R,c4⟩:=aj8 (P:=prog) (e:=22) aF0 j I (b7 c) (by simp;omega) (by simp;omega) (b7 c);simp only[eQ,simprocAttr,z,S,M w2 (b7 c),O];exact o8 results120 ⟨Q.back o,o.trans (j.ext2 c R)⟩
def bD8(v)(l:List B9)(w)(hv:R (n8 w) v l)(C:l.length<=1000000000):p7 prog 118 #[v] w λu i=>(u=(an4 l)/\i=w):=by
 apply y5 [v] func118 rfl;have q:=hv.isS;have A:=hv.vcap;simp only[eQ,simprocAttr,q,hv.vlen];refine B4 [0,5,6] (σ:=Nat) (λk f i=>f 7=k/\k<=l.length/\(l.take k).Nodup/\i=w) (λk=>l.length-k) 0 ?_ ?_
 .exact⟨rfl,eE2 _,dG,rfl⟩
 .rintro k f i ⟨e0,t,x,_⟩ ⟨j,z,h,rfl⟩;simp only[eQ,simprocAttr,j,x];refine A7 (λc=>?_) ?_
  .have m:=hv.inS c;have n:=ldS hv (n7 _) c;have d:=cw0 hv (eE2 k) (Nat.le_of_lt c);rw[eM9]at d;have s:decide ((k:Int)<=(vcap v:Int))=true:=by simp;omega
   have B:A9.sz B9=1:=rfl;rw[B]at d;simp only[p6,n9,A6,G7,simprocAttr,j,e0,t,m,n,q,s];apply F6 (X0 _ (l.take k) l[k] _ d (by rw[eE5];omega));cases hq:(l.take k).contains l[k]
   .simp only[eQ,simprocAttr,j];refine U5 (k+1) ⟨?_,tt⟩;rw[eD9 c,eI6];refine⟨h,dG,λa y b r=>?_⟩;simp only[eE7]at r;subst r;intro e;subst e;have:=eE6.2 y;rw[hq]at this;cases this
   .simp only[p6,simprocAttr];apply o8 results118;simp only[C9,simprocAttr];refine⟨?_,tt⟩;have:¬l.Nodup:=λo=>by
     have p:l=l.take k++(l[k]::l.drop (k+1)):=by
      have:=eH8 k l;rw[eI2 c]at this;exact this.symm
     have g:=o;rw[p,eI6]at g;exact g.2.2 _ (eE6.1 hq) _ mem_cons_self rfl
    simp[an4,this]
  .rintro rfl;simp only[p6,simprocAttr];apply o8 results118;simp only[C9,simprocAttr];rw[eE4]at h;exact⟨by simp[an4,h],tt⟩
def dA8(vp vq p)(q:Pr)(n:B9)(w)(hp:SV (n8 w) vp p)(hq:SV (n8 w) vq q)(U:C1 p<=1000000)(V:ah4 q<=1000000):
  p7 prog 189 #[vp,vq,n] w λu w'=>(u=(aW5 p q n)/\o6 w w'):=by
 apply y5 [vp,vq,n] func189 rfl;obtain⟨a,w1,N,D,K⟩:=L3 hp (n7 _);obtain⟨b,w2,O,B,L⟩:=bL5 (hq.mono (b7 D)) (n7 _);obtain⟨vg,_,hg,_,X,_⟩:=K.pg;obtain⟨va,vv,_,_,m,S,_,_,F,_⟩:=L.pr;have l2:=F w2 (n7 _);have J:=m.isS;have R:=m.vlen;have ak:=ay3 q.params;have am:=ab8 q.vars;have af:=ab8 p.globals;unfold ah4 at V;unfold C1 at U;have g:=D.trans B;simp only[eQ,simprocAttr,N,O,l2,J,R];refine B4 [2,3,4,10,11] (σ:=Nat) (λk f w'=>f 12=k/\k<=q.params.length/\(∀j (x:j<q.params.length),j<k->decide (q.params[j].name=n)=false)/\o6 w2 w') (λk=>q.params.length-k) 0 ?_ ?_
 .exact⟨rfl,eE2 _,λj _ h=>om,t8.refl _⟩
 .rintro k f G ⟨C,e3,e4,r,H,_⟩ ⟨i,ah,z,d⟩;simp only[eQ,simprocAttr,i,H];refine A7 (λy=>?_) ?_
  .have v:=m.inS y;obtain⟨sv,T,l⟩:=G1 (P:=prog) (t:=72) m (b7 d) (eD1 y) bd9 be1 aX0 ak2;rw[ak2]at l;obtain⟨c,wz,w4,s,A,E,M⟩:=aF2 (T.mono (b7 d)) (n7 _);obtain⟨Y,_⟩:=M.pa;have W:=Y w4 (n7 _);have o:=g.trans (d.trans E);cases hq1:decide (q.params[k].name=n)
   .simp only[p6,n9,A6,simprocAttr,i,C,r,v,l,s,A,W,hq1];refine U5 (k+1) ⟨λj x ag=>?_,d.trans E⟩;rcases eH4 j k with h|h
    .exact z j x h
    .obtain rfl:j=k:=om
     exact hq1
   .have e:q.params.find? (λa=>decide (a.name=n))=some q.params[k]:=eM8.2 ⟨hq1,k,y,rfl,λj x=>by rw[z j om x];rfl⟩;cases hr:q.params[k].ref
    .simp only[p6,n9,A6,simprocAttr,i,C,r,v,l,s,A,W,hq1,hr];exact o8 results189 ⟨by rw[aW5,e];simp only[hr];rfl,o⟩
    .simp only[p6,n9,A6,simprocAttr,i,C,r,v,l,s,A,W,hq1,hr];exact o8 results189 ⟨by rw[aW5,e];simp only[hr];rfl,o⟩
  .rintro rfl;have e:q.params.find? (λa=>decide (a.name=n))=none:=eL9.2 λit Q=>by
    obtain⟨j,x,rfl⟩:=eK1.1 Q;rw[z j x x];simp
   have I:aW5 p q n=if q.vars.contains n then 4 else if p.globals.contains n then 1 else 0:=by rw[aW5,e]
   have Z:=X G (b7 (B.trans d));simp only[eQ,simprocAttr,C,e4,F G (b7 d)];apply F6 (X0 vv q.vars n G (A9.mono (b7 d) S) om);cases h1:q.vars.contains n
   .simp only[eQ,simprocAttr,C,e3,Z];apply F6 (X0 vg p.globals n G (A9.mono (b7 (B.trans d)) hg) om);cases h2:p.globals.contains n
    .simp only[p6,simprocAttr];exact o8 results189 ⟨by rw[I,h1,h2];rfl,g.trans d⟩
    .simp only[p6,simprocAttr];exact o8 results189 ⟨by rw[I,h1,h2];rfl,g.trans d⟩
   .simp only[p6,simprocAttr];exact o8 results189 ⟨by rw[I,h1];rfl,g.trans d⟩
def bd6(t:St):(N0 t).length<=Z6 t:=by
 rw[aa0];have a:=aj7 t.x;have b:=U9 t.args;have c:1<=wtT t.name:=by simp[wtT]
 have d:(if t.kind≠10/\t.name≠e0 then[t.name]else[]).length<=1:=by split<;>simp
 unfold N0;rw[eD4,eD4];omega
def dk9(vp vq vl vt p)(q:Pr)(d:List B9)(t:St)(w)(Z:SV (n8 w) vp p)(hq:SV (n8 w) vq q)(hl:R (n8 w) vl d)(N:SV (n8 w) vt t)(ab:C1 p<=1000000)(ac:ah4 q<=1000000)(I:Z6 t<=1000000)(ap:d.length<=1000000):
  p7 prog 125 #[vp,vq,vl,vt] w λu w'=>(u=(am9 p q d t)/\o6 w w'):=by
 apply y5 [vp,vq,vl,vt] func125 rfl;obtain⟨a,w1,V,x,T⟩:=af3 (w:=w) (λ_=>False) Z (λ_ h=>h.elim);obtain⟨b,w2,W,y,U⟩:=cX4 (w:=w1) (λ_=>False) (hq.mono (b7 x)) (λ_ h=>h.elim);obtain⟨c,w3,X,z,B⟩:=cX5 (w:=w2) (λ_=>False) (N.mono (b7 (x.trans y))) (λ_ h=>h.elim);obtain⟨ldP,_⟩:=L8.pg_v Z T;obtain⟨ad,_⟩:=L8.pr_v hq U;obtain⟨ae,_⟩:=L8.st_v N B;obtain⟨_,_,_,_,_,_,_,_,_,_,_,af,_⟩:=L8.st N B;have r:=x.trans (y.trans z);have D:(N0 t).length<=1000000:=eD7 (bd6 t) I;simp only[eQ,simprocAttr,V,W,X,ae w3 (B6 _ _)];apply z6 (bd5 vt t w3 (N.mono (b7 r)) I);rintro u w4 ⟨ho,j⟩;have H:=ho.rw_ (b7 j);have A:=H.isS;have F:=H.vlen;have J:=r.trans j;have L:(N0 t).all (λn=>!decide (aW5 p q n=0))=false->am9 p q d t=false:=λh=>by rw[am9,h];rfl
 have s:(N0 t).all (λn=>!decide (aW5 p q n=0))=true->am9 p q d t=(!decide (t.kind=4)||(!decide (t.proc=H9)&&d.contains t.proc)):=λh=>by rw[am9,h];rfl
 generalize N0 t=l at H A F D L s;simp only[eQ,simprocAttr,A,F];refine B4 [2,4,5,7,12,13] (σ:=Nat) (λk f w'=>f 14=k/\k<=l.length/\(l.take k).all (λn=>!decide (aW5 p q n=0))=true/\o6 w4 w') (λk=>l.length-k) 0 ?_ ?_
 .exact⟨rfl,eE2 _,dG,t8.refl _⟩
 .rintro k f M ⟨e2,e4,e5,Q,O,P,_⟩ ⟨v,an,i,g⟩;have e:=J.trans g;simp only[eQ,simprocAttr,v,P];refine A7 (λm=>?_) ?_
  .have Y:=H.inS m;have C:=ldS H (b7 g) m;have G:=be8 (λn=>!decide (aW5 p q n=0)) l k m;have o:=eE1 m;generalize l[k]=n at C G o;have lP:=ldP M (A3 (B6 _ _) (b7 (y.trans (z.trans (j.trans g)))));have lQ:=ad M (A3 (B6 _ _) (b7 (z.trans (j.trans g))));simp only[p6,n9,A6,simprocAttr,v,e4,e5,O,Y,C,lP,lQ];refine B3 (dA8 vp vq p q n M (Z.mono (b7 e)) (hq.mono (b7 e)) ab ac) (λw6 K=>?_);cases hd:decide (aW5 p q n=0)
   .simp only[eQ,simprocAttr,v,hd];exact U5 (k+1) ⟨by rw[G,i,hd];rfl,g.trans K⟩
   .simp only[eQ,simprocAttr,hd];apply o8 results125;simp only[C9,simprocAttr];exact⟨by rw[L (aR6 (p:=λn=>!decide (aW5 p q n=0)) o (by simp only[hd];rfl))],e.trans K⟩
  .rintro rfl;rw[eE4]at i;have lt:=af M (A3 (B6 _ _) (b7 (j.trans g)));have S:=s i;cases h1:decide (t.kind=4)
   .simp only[eQ,simprocAttr,Q,lt,h1];apply o8 results125;exact⟨by rw[S,h1];rfl,e⟩
   have E:decide (t.proc=ofA #[109,97,105,110])=decide (t.proc=H9):=rfl;cases h2:decide (t.proc=H9)
   .simp only[eQ,simprocAttr,e2,Q,lt,h1,E,h2];apply F6 (X0 vl d t.proc M (A9.mono (b7 e) hl) om);simp only[p6,simprocAttr];apply o8 results125;exact⟨by rw[S,h1,h2];rfl,e⟩
   .simp only[eQ,simprocAttr,Q,lt,h1,E,h2];apply o8 results125;exact⟨by rw[S,h1,h2];rfl,e⟩
def ex4:ao4 prog 122=true:=kr
def af5(e:Int×Int):Value:=.agg #[e.1,e.2]
def aa4(c):D0 prog 80 [(0,.int .i64 c)]=some (af5 (c,0)):=by
 simp[D0,dI0,M2,Instr.fill,Value.cells,af5]
def aO4(c a):D0 prog 80 [(0,.int .i64 c),(1,.int .i64 a)]=some (af5 (c,a)):=by
 simp[D0,dI0,M2,Instr.fill,Value.cells,af5]
def be9:D0 prog 80 []=some (af5 (0,0)):=by
 simp[D0,dI0,M2,Instr.fill,af5]
def aO1(w):∃a b,(Instr.alloc 80 true (.tuple #[])).run prog w = .ok (.pointer (some ⟨a,0,none⟩)) b/\o6 w b/\b.heap[a]?=some (.cells #[(0:Int),(0:Int)] 80 (0,0))/\w.heap.size<=a:=by
 obtain⟨c,_⟩:=aE6 (P:=prog) (w:=w) (T:=80) dK0 rfl (cs:=#[(0:Int),(0:Int)]) rfl (by simp[Value.oneCell']);exact⟨_,_,c,o6.alloc _ _,eH3 w _,eE8 _⟩
def aF9{w0 f i:World}{rb}(g:f.heap[rb]?=some (.cells #[(0:Int),(0:Int)] 80 (0,0)))(h:o6 f i)(c:w0.heap.size<=rb)(d:o6 w0 f)(e:Int×Int):
  ∃a,(Instr.storeAt 80 (.pointer (some ⟨rb,0,none⟩)) (af5 e)).run prog i = .ok () a/\(Instr.loadAt 80 (.pointer (some ⟨rb,0,none⟩))).run prog a = .ok (af5 e) a/\o6 w0 a:=by
 have j:=(h.block rb (eD5.1 g).1 id).trans g;obtain⟨a,l,m,n⟩:=ad2 (P:=prog) (cs:=#[e.1,e.2]) j dK0 rfl rfl (by simp[Value.oneCell']);refine⟨a,l,?_,t8.ext_of (d.trans h) n λb k=>by subst k;exact c⟩;exact ad1 m dY4 dZ3 dY7 (by rw[dZ1];rfl)
def cP8(n:B9)(a:Addr)(p:Pg)(w:World)(b:At (n8 w) a p)(g:p.globals.length<=1000000):p7 prog 122 #[n,a] w λu f=>(u=(p.globals.contains n)/\o6 w f):=by
 apply y5 [n,a] func122 rfl;obtain⟨e,_,c,_,d,_⟩:=b.pg;simp only[eQ,simprocAttr,d w (n7 _)];apply F6 (X0 e p.globals n w c om);simp only[p6,simprocAttr];exact o8 results122 ⟨rfl,t8.refl _⟩
def au7(v p w)(hv:SV (n8 w) v p)(hw:C1 p<=1000000):p7 prog 78 #[v] w λu o=>(u=af5 (U7 p)/\o6 w o):=by
 apply y5 [v] func78 rfl;obtain⟨a,w1,bw,bd,ha⟩:=af3 (w:=w) (λ_=>False) hv (λ_ h=>h.elim);obtain⟨vg,vp,hg,hp,ld,_⟩:=L8.pg hv ha;obtain⟨lw,_⟩:=L8.pg_v hv ha;obtain⟨rb,w2,bv,aF,a2,aW⟩:=aO1 w1;have aU:w.heap.size<=rb:=eD7 bd.size aW;have g:=bd.trans aF;have bu:∀o,o6 w2 o->At (n8 o) a p:=λo h=>by
  obtain⟨cs,e,hc⟩:=ha;obtain⟨bl,W,he⟩:=hv;subst e;obtain rfl:=ai7 W;exact⟨bl,A9.mono (b7 (g.trans h)) he,λj u hj=>K9 (A3 (B6 _ _) (b7 (aF.trans h))) (hc j u hj)⟩
 have C:∀o,o6 w2 o->E6 (D9 w1 λ_=>False) (n8 o):=λo h=>A3 (B6 _ _) (b7 (aF.trans h));have r:=λ(o:World) (h:o6 w2 o)=>aF9 a2 h aU g;simp only[eQ,simprocAttr,bw,bv,lw w2 (C _ (t8.refl _))];refine B3 (cV9 v p w2 (hv.mono (b7 g)) hw) (λw3 aJ=>?_);cases hmay:O1 p
 .obtain⟨w9,L,M,N⟩:=r w3 aJ (1,0);simp only[eQ,simprocAttr,aa4,L];apply R4 results78 (by simp only[C9,simprocAttr]) M;exact⟨by rw[U7,hmay];rfl,N⟩
 have l3:=ld w3 (C _ aJ);have aP:=hp.isS;have aZ:=hp.vlen;have bx:p.globals.length<=16/\p.procs.length<=16:=by
  simp only[O1,eF1,eH1]at hmay;exact⟨hmay.1.1.1,hmay.1.1.2⟩
 obtain⟨bW,bX⟩:=bx;simp only[eQ,simprocAttr,l3,aP,aZ];refine B4 [1,2,18,19] (σ:=Nat×Value) (λs f o=>f 20 = .int .i64 s.1/\f 3=s.2/\s.1<=p.procs.length/\B7 (n8 w2) o 9 s.2 ((p.procs.take s.1).map (·.name))/\o6 w2 o) (λs=>p.procs.length-s.1) (0,()) ?_ ?_
 .exact⟨rfl,rfl,eE2 _,by simpa using B7.nil _ _ _,aJ⟩
 rintro⟨k,u⟩ f w4 ⟨e1,W,bm,bn,_⟩ ⟨ax,h3,bB,ho,B⟩;simp only at ax h3 bB ho;simp only[eQ,simprocAttr,ax,bn];refine B2 (λhc=>?_) (λhc=>?_)
 .have F:k<p.procs.length:=by simpa using hc
  have E:=hp.inS F;obtain⟨sv,J,ap⟩:=G1 (P:=prog) (t:=68) hp (b7 (g.trans B)) (eD1 F) as1 as2 ao1 N6;rw[N6]at ap;have a8:(p.procs.take (k+1)).map (·.name)=(p.procs.take k).map (·.name)++[p.procs[k].name]:=by
   rw[eD9 F,eG8];rfl
  generalize p.procs[k]=y at J a8;obtain⟨b,wz,w5,aQ,a4,ad,aB⟩:=aM2 (J.mono (b7 (g.trans B))) (n7 _);obtain⟨_,_,_,_,_,_,_,_,bL,_⟩:=aB.pr;have l5:=bL w5 (n7 _);have a0:=ho.ext ad;have K:=B.trans ad;obtain⟨p1,u',w6,p2,p3,p4,p5⟩:=push (e:=22) aF0 rfl a0 (x:=y.name) (y:=y.name) rfl (by simp;omega) (by simp;omega) (b7 K);simp only[p6,n9,A6,simprocAttr,ax,h3,bm,E,ap,aQ,a4,l5,p1,p2];exact nx4 (k+1,u') ⟨by rw[a8];exact p3,a0.ext2 K p4⟩
 have aV:k=p.procs.length:=by simp at hc;omega
 subst aV;rw[eE4]at ho;have bC:(p.procs.map (·.name)).length=p.procs.length:=eE3 _;have Q:ai3 (λy=>decide (H9=y)) 0 (p.procs.map (·.name))=ac3 p.procs H9:=by
  rw[cB4,ac3];exact cP6 (λx=>by rw[eI5];exact eq_comm) _ _
 have D:U7 p=if an4 p.globals||an4 (p.procs.map (·.name))||decide (ac3 p.procs H9<0)||decide (0<(p.procs.getD (ac3 p.procs H9).toNat cq3).params.length)then(5,0)
  else(U8 p (i5 p) (p.procs.map (·.name)) 0 p.procs).getD (0,0):=by rw[U7,fh (by rw[hmay];simp)]
 have hu:=ho.rw_ (b7 B);generalize p.procs.map (·.name)=d at hu bC Q D;have l4:=ld w4 (C _ B);have a6:(Value.string ⟨#[109,97,105,110]⟩)=H9:=rfl;have bz:∀o,o6 w o->R (n8 o) vg p.globals:=λo h=>A9.mono (b7 h) hg;have bO:=lw w4 (C _ B);simp only[p6,simprocAttr,h3,a6];apply F6 (bN5 u d H9 w4 hu om);rw[Q];have S:=aI2 (λf=>decide (f.name=H9)) p.procs 0
 change 0<=ac3 p.procs H9->_ at S
 change 0<=ac3 p.procs H9->∃k,ac3 p.procs H9=_/\_ at S
 generalize ac3 p.procs H9=first at S D
 obtain⟨w9,L,M,N⟩:=r w4 B (5,0);simp only[eQ,simprocAttr,e1,l4];apply F6 (bD8 vg p.globals w4 (bz w4 (g.trans B)) om);rcases eD2 (an4 p.globals)with ht1|ht1
 .simp only[p6,simprocAttr,ht1,W,aa4,L];apply R4 results78 (by simp only[C9,simprocAttr];exact W) M;exact⟨by rw[D,ht1];rfl,N⟩
 simp only[p6,simprocAttr,ht1,h3];apply F6 (bD8 u d w4 hu om);rcases eD2 (an4 d)with ht2|ht2
 .simp only[p6,simprocAttr,ht2,W,aa4,L];apply R4 results78 (by simp only[C9,simprocAttr];exact W) M;exact⟨by rw[D,ht1,ht2];rfl,N⟩
 rcases eD2 (decide (first<0))with ht3|ht3
 .simp only[eQ,simprocAttr,ht2,ht3,W,aa4,L];apply R4 results78 (by simp only[C9,simprocAttr];exact W) M;exact⟨by rw[D,ht1,ht2,ht3];rfl,N⟩
 obtain⟨k,rfl,q,hq,_⟩:=S (by simpa using ht3);rw[eH5]at D ht3;obtain⟨va,_,_,_,ba,_,_,_,bJ,_⟩:=(hp.at_ hq).pr;have cg:ah4 q<=1000000:=aJ6 p hw q (eF7 hq);have cf:=ay3 q.params;have lq:=bJ w4 (b7 (g.trans B));have hz:A9.sz Pr=5:=rfl;rw[hz]at lq;have E:=hp.inS (eD8.1 hq).1;have aO:=ba.isS;have aY:=ba.vlen;have a1:(p.procs.getD (Int.toNat (k:Nat)) cq3).params=q.params:=by rw[eF4,getD,hq];rfl
 rw[a1]at D;rcases eD2 (decide (0<(q.params.length:Int)))with ht4|ht4
 .simp only[p6,n9,A6,simprocAttr,ht2,ht3,ht4,e1,l4,E,lq,aO,aY,W,aa4,L];apply R4 results78 (by simp only[C9,simprocAttr];exact W) M;have aE:decide (0<q.params.length)=true:=by simpa using ht4
  exact⟨by rw[D,ht1,ht2,ht3,aE];rfl,N⟩
 have aE:decide (0<q.params.length)=false:=by simpa using ht4
 have T:U7 p=(U8 p (i5 p) d 0 p.procs).getD (0,0):=by rw[D,ht1,ht2,ht3,aE];rfl
 clear D r L M N;have r:=λ(o:World) (h:o6 w2 o)=>aF9 a2 h aU g;simp only[p6,n9,A6,simprocAttr,ht2,ht3,ht4,e1,l4,E,lq,aO,aY,bO];apply z6 (az7 v p w4 (hv.mono (b7 (g.trans B))) hw);rintro us w5 ⟨sh,rfl,hsh,ad⟩;have K:=B.trans ad;simp only[eQ,simprocAttr,e1,ld w5 (C _ K),aP,aZ];refine B4 [1,2,3,7,57,58] (σ:=Nat) (λk f o=>f 59=k/\k<=p.procs.length/\U8 p (i5 p) d 0 p.procs=U8 p (i5 p) d k (p.procs.drop k)/\o6 w5 o) (λk=>p.procs.length-k) 0 ?_ ?_
 .exact⟨rfl,eE2 _,by rw[eM9],t8.refl _⟩
 rintro i f2 w6 ⟨aw,I,e3,e7,bo,bp,_⟩ ⟨ay,cb,z,aj⟩;rw[e1]at aw;rw[W]at I;rw[h3]at e3;have ab:=K.trans aj;simp only[eQ,simprocAttr,ay,bp];refine A7 (λF=>?_) ?_;rotate_left
 .rintro rfl;rw[eN6]at z;obtain⟨w9,L,M,N⟩:=r w6 ab (0,0);simp only[p6,simprocAttr,I,be9,L];apply R4 results78 (by simp only[C9,simprocAttr];exact I) M;exact⟨by rw[T,z];rfl,N⟩
 have E:=hp.inS F;obtain⟨sv,J,C⟩:=G1 (P:=prog) (t:=68) hp (b7 (g.trans ab)) (eD1 F) as1 as2 ao1 N6;rw[N6]at C;have X:p.procs.drop i=p.procs[i]::p.procs.drop (i+1):=eI2 F;obtain⟨x,Y,_⟩:=ab2 p hw i F;have ah:=aJ6 p hw _ (eE1 F);have bc:∀it∈(i5 p).of i,Z6 it.s<=1000000:=λit h=>by
  rw[Y.of_]at h;exact ah2 p hw it (eL5 (eP5 h))
 have aX:((i5 p).of i).length<=1000000:=by
  rw[Y.of_,eK0,eE5];have:=Y.fit;omega
 generalize p.procs[i]=y at J X ah Y;rw[X,U8]at z;obtain⟨b,wz,w7,aR,a5,ak,aB⟩:=aM3 (w:=w6) (λ_=>False) J (λ_ h=>h.elim);obtain⟨be,_⟩:=L8.pr_v J aB;have ar:=ab.trans ak;simp only[p6,n9,A6,simprocAttr,ay,bo,E,C,aR,a5,be w7 (B6 _ _)];apply z6 (dS1 sv y w7 (J.mono (b7 (g.trans ar))) ah);rintro uo w8 ⟨bD,V⟩;have a9:=bD.rw_ (b7 V);have ac:=ar.trans V;have ce:(bK9 y).length<=1000000:=by
  have h1:=ay3 y.params;have h2:=ab8 y.vars;unfold ah4 at ah;unfold bK9;rw[eD4,eE3];omega
 simp only[p6,simprocAttr];apply F6 (bD8 uo (bK9 y) w8 a9 om);obtain⟨w9,L,M,N⟩:=r w8 ac (5,0);rcases eD2 (an4 (bK9 y))with ht6|ht6
 .simp only[p6,simprocAttr,ht6,I,aa4,L];apply R4 results78 (by simp only[C9,simprocAttr];exact I) M;exact⟨by rw[T,z,al6,ht6];rfl,N⟩
 clear L M N;simp only[p6,simprocAttr,ht6,aw];refine B3 (bp7 (λn=>p.globals.contains n) 122 #[a] uo (bK9 y) w8 ex4 a9 om (λn o bF _=>cP8 n a p o (bu o (ac.trans bF)) om)) (λw9 ae=>?_);have au:=ac.trans ae;obtain⟨bf,L,M,N⟩:=r w9 au (5,0);rcases eD2 ((bK9 y).any λn=>p.globals.contains n)with ht7|ht7
 .simp only[p6,simprocAttr,ht7,I,aa4,L];apply R4 results78 (by simp only[C9,simprocAttr];exact I) M;exact⟨by rw[T,z,al6,ht6,ht7];rfl,N⟩
 clear L M N;have a3:al6 p d y ((i5 p).of i)=match((i5 p).of i).find? λit=>!am9 p y d it.s with
   | some it=>some (5,it.s.id)
   | none=>none:=by rw[al6,ht6,ht7];rfl
 rw[a3]at z;simp only[p6,simprocAttr,ht7,e7];apply z6 (bw6 sh (i5 p) i x _ w9 (hsh.mono (b7 (aj.trans (ak.trans (V.trans ae))))) Y);rintro ul bf ⟨Z,U⟩;have aG:=au.trans U;generalize(i5 p).of i=l at Z bc z aX;simp only[eQ,simprocAttr,Z.isS,Z.vlen];refine B4 [1,2,3,7,9,57,58,59,76,77] (σ:=Nat) (λm f o=>f 78 = .int .i64 m/\m<=l.length/\(∀j (hj:j<l.length),j<m->am9 p y d l[j].s=true)/\o6 bf o) (λm=>l.length-m) 0 ?_ ?_
 .exact⟨rfl,eE2 _,λj _ h=>om,t8.refl _⟩
 rintro m f3 cu ⟨g1,g2,g3,g7,g9,b3,b4,aM,br,bs,_⟩ ⟨az,cd,aC,A⟩;rw[aw]at g1;rw[I]at g2;rw[e3]at g3;rw[e7]at g7;rw[ay]at aM;have aH:=aG.trans A;simp only[eQ,simprocAttr,az,bs];refine A7 (λag=>?_) ?_;rotate_left
 .rintro rfl;have O:l.find? (λit=>!am9 p y d it.s)=none:=eL9.2 λit bA=>by
   obtain⟨j,hj,rfl⟩:=eK1.1 bA;rw[aC j hj hj];simp
  rw[O]at z;simp only[eQ,simprocAttr,aM];refine U5 (i+1) ⟨z,?_⟩;exact aj.trans (ak.trans (V.trans (ae.trans (U.trans A))))
 clear E C;have E:=Z.inS ag;obtain⟨cq,a7,ao⟩:=G1 (P:=prog) (t:=156) Z (b7 A) (eD1 ag) ai4 ai5 ag5 M4;rw[M4]at ao;have bb:=bc _ (eE1 ag);obtain⟨c,cx,al,aA,aD,G,aS⟩:=az4 (a7.mono (b7 A)) (n7 _);obtain⟨an,_,_⟩:=aS.it;obtain⟨vt,bE,bI,_⟩:=an.st_v;obtain⟨_,_,_,_,_,_,_,_,_,bK,_⟩:=an.st;have H:=aH.trans G;have k2:=be al (A3 (B6 _ _) (b7 (V.trans (ae.trans (U.trans (A.trans G))))));simp only[p6,n9,A6,simprocAttr,az,g1,g3,g9,br,E,ao,aA,aD,lw al (C _ H),k2,bI al (n7 _)];refine B3 (dk9 v sv u vt p y d l[m].s al (hv.mono (b7 (g.trans H))) (J.mono (b7 (g.trans H))) (A9.mono (b7 (ad.trans (aj.trans (ak.trans (V.trans (ae.trans (U.trans (A.trans G)))))))) hu) bE hw ah bb om) (λbg aa=>?_);have aI:=H.trans aa;rcases eD2 (am9 p y d l[m].s)with hkn|hkn
 .simp only[eQ,simprocAttr,hkn,az];refine U5 (m+1) ⟨λj hj cc=>?_,A.trans (G.trans aa)⟩;rcases eH4 j m with h|h
  .exact aC j hj h
  .obtain rfl:j=m:=om
   exact hkn
 .obtain⟨cv,L,M,N⟩:=r bg aI (5,l[m].s.id);simp only[eQ,simprocAttr,hkn,bK bg (b7 aa),g2,aO4,L];apply R4 results78 (by simp only[C9,simprocAttr];exact g2) M;have O:l.find? (λit=>!am9 p y d it.s)=some l[m]:=eM8.2 ⟨by rw[hkn];rfl,m,ag,rfl,λj hj=>by rw[aC j om hj];rfl⟩;rw[O]at z;exact⟨by rw[T,z];rfl,N⟩
end Go.Proofs.YtpebpfiglfmegaaGreat

/- What the functions of the program do, for every input; plain facts. No condition, no statement of its own. Part 3. -/
import Derived.Ground.SlsfProg
import Derived.Shelf.SlGeneric
import Derived.Shelf.SlSortCmp.NoneTotal
import Derived.Shelf.SlSortCmp.WholeK
import Derived.Test.YtpebpfiglfmegaaGreatProg
import Derived.Test.YtpebpfiglfmegaaGreatZ2
set_option maxRecDepth 1000000
set_option maxHeartbeats 8000000
set_option linter.unusedVariables false
set_option linter.unusedSimpArgs false
set_option linter.unnecessarySimpa false
set_option linter.defProp false
namespace Go.Proofs.YtpebpfiglfmegaaGreat
open Go Tryz List IntKind Region
theorem aE3(e:Int×Int):bA8 prog 80 0 (af5 e)=some (.int .i64 e.1):=rfl
def cz1:eqT prog 4=1:=kr
def bL4{a b}:E2 prog .neq 4 (.bool a) (.bool b)=some (.bool !(a==b)):=by
 simp only[E2,cz1,eK2]
def bl0{α β:Type}(p:α×β->Bool):∀(l:List α) (m:List β) (k:Nat) (c:k<l.length) (d:k<m.length),p (l[k],m[k])=false->(l.zip m).all p=false
 | [],_,_,h,_,_=>by simp at h
 | _::_,[],_,_,h,_=>by simp at h
 | a::l,b::m,0,_,_,h=>by
  have e:p (a,b)=false:=h;simp[e]
 | a::l,b::m,k+1,c,d,h=>by
  have:=bl0 p l m k (by simpa using c) (by simpa using d) h;simp only[zip_cons_cons,all_cons,this,Bool.and_false]
def by1{α β:Type}(p:α×β->Bool):∀(l:List α) (m:List β),(∀k (c:k<l.length) (d:k<m.length),p (l[k],m[k])=true)->(l.zip m).all p=true
 | [],_,_=>dG
 | _::_,[],_=>dG
 | a::l,b::m,h=>by
  have e:p (a,b)=true:=h 0 dG dG;simp only[zip_cons_cons,all_cons,e,eJ4];exact by1 p l m λk c d=>h (k+1) (by simpa using c) (by simpa using d)
def dF3(vl va)(l:List Pa)(a:List Ar)(w)(D:R (n8 w) vl l)(C:R (n8 w) va a)(Y:l.length<=1000000)(Z:a.length<=1000000):
  p7 prog 190 #[vl,va] w λu B=>(u = .bool (bW0 l a)/\o6 w B):=by
 apply y5 [vl,va] func190 rfl;have p:=D.isS;have y:=D.vlen;have q:=C.isS;have z:=C.vlen;have r:decide ((l.length:Int)=(a.length:Int))=decide (l.length=a.length):=by rw[eI5];omega
 rcases eD2 (decide (l.length=a.length))with hlen|hlen;rotate_left
 .simp only[eQ,simprocAttr,p,y,q,z,r,hlen];apply o8 results190;exact⟨by rw[bW0,hlen];rfl,t8.refl _⟩
 have J:l.length=a.length:=eD3 hlen;have T:bW0 l a=(l.zip a).all λx=>x.1.ref==x.2.ref:=by rw[bW0,hlen,eJ4]
 simp only[eQ,simprocAttr,p,y,q,z,r,hlen];refine B4 [1,12,13] (σ:=Nat) (λk f B=>f 14 = .int .i64 k/\k<=l.length/\(∀j (s:j<l.length) (e:j<a.length),j<k->(l[j].ref==a[j].ref)=true)/\o6 w B) (λk=>l.length-k) 0 ?_ ?_
 .exact⟨rfl,eE2 _,λj _ _ h=>om,t8.refl _⟩
 .rintro k f w3 ⟨S,E,F,_⟩ ⟨n,W,A,g⟩;simp only[eQ,simprocAttr,n,F];refine A7 (λo=>?_) ?_
  .have b:k<a.length:=om
   have I:=D.inS o;obtain⟨sv,L,v⟩:=G1 (P:=prog) (t:=72) D (b7 g) (eD1 o) bd9 be1 aX0 ak2;rw[ak2]at v;obtain⟨c,wz,m,G,K,M,H⟩:=aF2 (L.mono (b7 g)) (n7 _);obtain⟨_,Q⟩:=H.pa;have d:o6 w m.drew:=g.trans (M.trans (o6.drew m));obtain⟨_,_,O⟩:=(C.at_ (eD1 b)).ar;have U:=Q (o6 m.drew) m.drew (t8.refl _) λB h=>b7 ((o6.drew m).trans h);have N:=O (o6 m.drew) m.drew (t8.refl _) λB h=>b7 (d.trans h);have X:A9.sz Ar=6:=rfl;rw[X]at N;have i:=C.inS b;simp only[p6,n9,A6,simprocAttr,n,E,I,v,G,K];refine C4 (o6 m.drew) 8 (A8 [0,1,2,3,4,5,6,7]) ?_;rcases eD2 (l[k].ref==a[k].ref)with hq|hq
   .simp only[D7,A8,p6,n9,A6,simprocAttr,U,N,i,bL4,hq,n,S];refine U5 (k+1) ⟨λj s e V=>?_,d⟩;rcases eH4 j k with h|h
    .exact A j s e h
    .obtain rfl:j=k:=om
     exact hq
   .simp only[D7,A8,p6,n9,A6,simprocAttr,U,N,i,bL4,hq,S];apply o8 results190;simp only[C9,simprocAttr];exact⟨by rw[T,bl0 _ l a k o b hq],d⟩
  .rintro rfl;simp only[p6,simprocAttr];apply o8 results190;simp only[C9,simprocAttr];exact⟨by rw[T,by1 _ l a λj s e=>A j s e s],g⟩
def dx3(vp vt p)(t:St)(w)(hp:SV (n8 w) vp p)(ht:SV (n8 w) vt t)(F:C1 p<=1000000)(W:Z6 t<=1000000):
  p7 prog 126 #[vp,vt] w λu w'=>(u = .bool (at9 p t)/\o6 w w'):=by
 apply y5 [vp,vt] func126 rfl;obtain⟨a,w1,y,G,L⟩:=L3 hp (n7 _);obtain⟨b,w2,z,m,M⟩:=ay8 (ht.mono (b7 G)) (n7 _);obtain⟨_,av,_,l,Y,_⟩:=L.pg;obtain⟨_,ab,_,_,_,D,_,_,_,H,_⟩:=M.st;have g:=G.trans m;have I:=H w2 (n7 _);have aa:=Y w2 (b7 m);have hS:=l.isS;have hn:=l.vlen;rw[aa0]at W;have am:=ay2 t.args;have S:=as3 p.procs;have U:=aJ6 p F;unfold C1 at F;rcases eD2 (decide (t.kind=4))with hk4|hk4;rotate_left
 .simp only[eQ,simprocAttr,y,z,I,hk4];apply o8 results126;exact⟨by rw[at9,hk4];rfl,g⟩
 have hF:at9 p t=match p.procs.find? λf=>decide (f.name=t.proc)with
  | some f=>bW0 f.params t.args
  | none=>false:=by rw[at9,hk4,eJ4]<;>rfl
 simp only[eQ,simprocAttr,y,z,I,aa,hk4,hS,hn];refine E4 [3,11,12] (σ:=Nat) (λk f w'=>f 13 = .int .i64 k/\k<=p.procs.length/\(∀j (r:j<p.procs.length),j<k->decide (p.procs[j].name=t.proc)=false)/\o6 w2 w') (λk=>p.procs.length-k) 0 ?_ ?_
 .exact⟨rfl,eE2 _,λj _ h=>om,t8.refl _⟩
 .rintro k f w3 hk ⟨q,ao,v,e⟩;simp only[eF8,C9,simprocAttr]at hk;obtain⟨e3,x,K,_⟩:=hk;simp only[eQ,simprocAttr,q,K];refine B2 (λO=>?_) (λO=>?_)
  .have i:k<p.procs.length:=by simpa using O
   have B:=l.inS i;obtain⟨sv,T,s⟩:=G1 (P:=prog) (t:=68) l (b7 (m.trans e)) (eD1 i) as1 as2 ao1 N6;rw[N6]at s;obtain⟨c,wz,w4,o,C,n,N⟩:=aM2 (T.mono (b7 (m.trans e))) (n7 _);obtain⟨ac,_,_,_,E,_,_,_,Z,_⟩:=N.pr;have l4:=Z w4 (n7 _);have J:=H w4 (b7 (e.trans n));have A:=g.trans (e.trans n);rcases eD2 (decide (p.procs[k].name=t.proc))with hq|hq
   .have d:p.procs.find? (λf=>decide (f.name=t.proc))=some p.procs[k]:=eM8.2 ⟨hq,k,i,rfl,λj r=>by rw[v j om r];rfl⟩;have V:=U _ (eE1 i);have ar:=ay3 p.procs[k].params;unfold ah4 at V;simp only[p6,n9,A6,simprocAttr,q,e3,x,B,s,o,C,l4,J,hq];refine B3 (dF3 ac ab _ _ w4 E (A9.mono (b7 (e.trans n)) D) om om) (λw5 X=>?_);simp only[p6,simprocAttr];apply o8 results126;simp only[C9,simprocAttr];exact⟨by simp only[hF,d],A.trans X⟩
   .simp only[p6,n9,A6,simprocAttr,q,e3,x,B,s,o,C,l4,J,hq];refine⟨k+1,om,eE9 _ (I9 k om),om,λj r an=>?_,e.trans n⟩;rcases eH4 j k with h|h
    .exact v j r h
    .obtain rfl:j=k:=om
     exact hq
  .have Q:k=p.procs.length:=by simp at O;omega
   subst Q;have d:p.procs.find? (λf=>decide (f.name=t.proc))=none:=eL9.2 λit R=>by
    obtain⟨j,r,rfl⟩:=eK1.1 R;rw[v j r r];simp
   simp only[p6,simprocAttr];apply o8 results126;simp only[C9,simprocAttr];exact⟨by simp only[hF,d],g.trans e⟩
def aZ2(v p w)(hv:SV (n8 w) v p)(hw:C1 p<=1000000):p7 prog 79 #[v] w λu r=>(u=af5 (am4 p)/\o6 w r):=by
 apply y5 [v] func79 rfl;obtain⟨a,w1,af,S,ha⟩:=af3 (w:=w) (λ_=>False) hv (λ_ h=>h.elim);obtain⟨lw,_⟩:=L8.pg_v hv ha;obtain⟨rb,w2,ae,T,aj,N⟩:=aO1 w1;have ag:w.heap.size<=rb:=eD7 S.size N;have d:=S.trans T;have E:∀r,o6 w2 r->E6 (D9 w1 λ_=>False) (n8 r):=λr h=>A3 (B6 _ _) (b7 (T.trans h));have e:=λ(r:World) (h:o6 w2 r)=>aF9 aj h ag d;simp only[eQ,simprocAttr,af,ae,lw w2 (E _ (t8.refl _))];refine B3 (au7 v p w2 (hv.mono (b7 d)) hw) (λw3 o=>?_);rcases eD2 (decide ((U7 p).1=0))with hsc|hsc;rotate_left
 .obtain⟨w9,Y,Z,s3⟩:=e w3 o (1,0);simp only[eQ,simprocAttr,aE3,hsc,aa4,Y];apply R4 results79 (by simp only[C9,simprocAttr]) Z;exact⟨by rw[am4,fi (eD6 hsc)],s3⟩
 have K:am4 p=match(i5 p).l.find? λit=>decide (it.s.kind=4) && !at9 p it.s with
  | some it=>(6,it.s.id)
  | none=>(0,0):=by rw[am4,fh (by simpa using hsc)]<;>rfl
 simp only[eQ,simprocAttr,aE3,hsc,lw w3 (E _ o)];apply z6 (az7 v p w3 (hv.mono (b7 (d.trans o))) hw);rintro us w4 ⟨sh,rfl,hsh,hx4⟩;have U:=o.trans hx4;obtain⟨vL,aK,aJ,L,aE,aC,aA,W,_⟩:=hsh.sh;have ao:=W w4 (n7 _);have hS:=L.isS;have hn:=L.vlen;have ak:=aG5 p;have aB:=co1 p;have R:=ah2 p hw;generalize(i5 p).l=l at L hS hn ak R K;simp only[eQ,simprocAttr,ao,hS,hn];refine B4 [1,2,14,15] (σ:=Nat) (λm f r=>f 16 = .int .i64 m/\m<=l.length/\(∀j (A:j<l.length),j<m->(decide (l[j].s.kind=4) && !at9 p l[j].s)=false)/\o6 w4 r) (λm=>l.length-m) 0 ?_ ?_
 .exact⟨rfl,eE2 _,λj _ h=>om,t8.refl _⟩
 rintro m f3 w5 ⟨g1,g2,J,ad,_⟩ ⟨k,aF,F,q⟩;have C:=U.trans q;simp only[eQ,simprocAttr,k,ad];refine A7 (λn=>?_) ?_;rotate_left
 .rintro rfl;have b:l.find? (λit=>decide (it.s.kind=4) && !at9 p it.s)=none:=eL9.2 λit ah=>by
   obtain⟨j,A,rfl⟩:=eK1.1 ah;rw[F j A A];simp
  rw[b]at K;obtain⟨w9,Y,Z,s3⟩:=e w5 C (0,0);simp only[p6,simprocAttr,g2,be9,Y];apply R4 results79 (by simp only[C9,simprocAttr];exact g2) Z;exact⟨by rw[K],s3⟩
 have O:=L.inS n;obtain⟨sv,al,D⟩:=G1 (P:=prog) (t:=156) L (b7 q) (eD1 n) ai4 ai5 ag5 M4;rw[M4]at D;have Q:=R _ (eE1 n);obtain⟨c,aN,I,x,B,V,M⟩:=az4 (al.mono (b7 q)) (n7 _);obtain⟨y,_,_⟩:=M.it;obtain⟨vt,am,an,_⟩:=y.st_v;obtain⟨_,_,_,_,_,_,_,_,_,X,_⟩:=y.st;have g:=C.trans V;have k1:=lw I (E _ g);have k2:=X I (n7 _);have k3:=an I (n7 _);have z:∀H,o6 I H->(decide (l[m].s.kind=4) && !at9 p l[m].s)=false->∃s:Nat,l.length-s<l.length-m/\(Value.int .i64 (IntKind.i64.wrap ((m:Int)+1))) = .int .i64 s/\s<=l.length/\(∀j (A:j<l.length),j<s->(decide (l[j].s.kind=4) && !at9 p l[j].s)=false)/\o6 w4 H:=λH i G=>by
  refine U5 (m+1) ⟨λj A aD=>?_,q.trans (V.trans i)⟩;rcases eH4 j m with h|h
  .exact F j A h
  .obtain rfl:j=m:=om
   exact G
 rcases eD2 (decide (l[m].s.kind=4))with hk4|hk4
 .simp only[p6,n9,A6,simprocAttr,k,g1,J,O,D,x,B,k1,k2,k3,hk4];refine B3 (dx3 v vt p l[m].s I (hv.mono (b7 (d.trans g))) am hw Q) (λH i=>?_);rcases eD2 (at9 p l[m].s)with G|G
  .simp only[eQ,simprocAttr,G,k];exact z H i (by rw[hk4,G];rfl)
  .obtain⟨w9,Y,Z,s3⟩:=e H (g.trans i) (6,l[m].s.id);simp only[eQ,simprocAttr,G,X H (b7 i),g2,aO4,Y];apply R4 results79 (by simp only[C9,simprocAttr];exact g2) Z;have b:l.find? (λit=>decide (it.s.kind=4) && !at9 p it.s)=some l[m]:=eM8.2 ⟨by rw[hk4,G];rfl,m,n,rfl,λj A=>by rw[F j om A];rfl⟩;rw[b]at K;exact⟨by rw[K],s3⟩
 .simp only[p6,n9,A6,simprocAttr,k,J,O,D,x,B,k2,hk4];exact z I (t8.refl _) (by rw[hk4];rfl)
mutual
def di8:∀(t:St) (k:Nat) (a d c b:Int),∀it∈ac1 t k a d c b,it.proc=a
 | .mk id kind labels name proc x has args thn els,k,a,d,c,b,it,h=>by
  rw[U2]at h;rcases eF0.1 h with rfl|h
  .rfl
  .rcases eE0.1 h with h|h
   .exact aS9 thn _ _ _ _ _ it h
   .exact aS9 els _ _ _ _ _ it h
def aS9:∀(l:List St) (k:Nat) (a d c b:Int),∀it∈E5 l k a d c b,it.proc=a
 | [],_,_,_,_,_,it,h=>by simp[E5]at h
 | t::l,k,a,d,c,b,it,h=>by
  rw[E5]at h;rcases eE0.1 h with h|h
  .exact di8 t _ _ _ _ _ it h
  .exact aS9 l _ _ _ _ _ it h
end
def az2(p:Pg)(hw:C1 p<=1000000)(i:Nat)(a:i<p.procs.length):∀it∈(i5 p).of i,it.proc=(i:Int):=λit h=>by
 obtain⟨x,_,e⟩:=ab2 p hw i a;rw[e]at h;exact aS9 _ _ _ _ _ _ it h
def cP9(v:Value)(p:Pg)(w:World)(hv:SV (n8 w) v p)(hw:C1 p<=1000000):p7 prog 127 #[v] w λu d=>((if(U7 p).1=0 then ∃a,u = .pointer (some a)/\At (n8 d) a (i5 p)else u = .pointer none)/\o6 w d):=by
 apply y5 [v] func127 rfl;obtain⟨a,f,g,b,k⟩:=af3 (w:=w) (λ_=>False) hv (λ_ h=>h.elim);obtain⟨i,_⟩:=L8.pg_v hv k;have e:∀d,o6 f d->E6 (D9 f λ_=>False) (n8 d):=λd h=>A3 (B6 _ _) (b7 h);simp only[eQ,simprocAttr,g,i f (e _ (t8.refl _))];refine B3 (au7 v p f (hv.mono (b7 b)) hw) (λj c=>?_);rcases eD2 (decide ((U7 p).1=0))with hsc|hsc;rotate_left
 .simp only[eQ,simprocAttr,aE3,hsc];exact o8 results127 ⟨by rw[fh (eD6 hsc)];trivial,b.trans c⟩
 simp only[eQ,simprocAttr,aE3,hsc,i j (e _ c)];apply z6 (az7 v p j (hv.mono (b7 (b.trans c))) hw);rintro us w4 ⟨sh,rfl,hsh,hx4⟩;simp only[p6,simprocAttr];exact o8 results127 ⟨by rw[fi (eD3 hsc)];exact⟨sh,rfl,hsh⟩,b.trans (c.trans hx4)⟩
def cg1(v G:Value)(a l:List B9)(h:Hp)(w:World)(H:B7 h w 9 v a)(B:R h G l)(M:E6 h (n8 w))(U:a.length+l.length<=1000000):
  p7 prog 128 #[v,G] w λu A=>((∃C I,u = .tuple #[C,.bool I]/\I=(aI3 a l).isSome/\∀s,aI3 a l=some s->B7 h A 9 C s/\s.length=a.length+l.length)/\t8 (B0 v) w A):=by
 apply y5 [v,G] func128 rfl;simp only[eQ,simprocAttr,B.isS,B.vlen];refine B4 [8,9] (σ:=Nat×Value×List B9) (λs f A=>f 10=s.1/\f 0=s.2.1/\s.1<=l.length/\B7 h A 9 s.2.1 s.2.2/\aI3 a l=aI3 s.2.2 (l.drop s.1)/\s.2.2.length=a.length+s.1/\t8 (B0 v) w A/\F4 w v s.2.1) (λs=>l.length-s.1) (0,v,a) ?_ ?_
 .exact⟨rfl,rfl,eE2 _,H,by rw[eM9],rfl,t8.refl _,λb r=>.inl r⟩
 rintro⟨k,u,s⟩ f J ⟨K,L,_⟩ ⟨i,t,F,j,g,m,c,q⟩;simp only at i t F j g m q;have o:E6 h (n8 J):=G8 M c λb r=>H.free r;simp only[eQ,simprocAttr,i,L];refine A7 (λp=>?_) ?_;rotate_left
 .rintro rfl;rw[eN6,aI3]at g;simp only[p6,simprocAttr,t];apply Q0 results128;simp only[C9,simprocAttr];refine⟨⟨u,true,rfl,by rw[g];rfl,λT d=>?_⟩,c⟩;rw[g]at d;obtain rfl:=eF3 d;exact⟨j,m⟩
 have E:=B.inS p;have z:=ldS B o p;rw[eI2 p,aI3]at g;generalize l[k]=n at z g;simp only[p6,n9,A6,simprocAttr,i,t,K,E,z];apply F6 (X0 u s n J (j.rw_ o) om);rcases eD2 (s.contains n)with hq|hq
 .simp only[p6,simprocAttr,hq,t];apply Q0 results128;simp only[C9,simprocAttr];refine⟨⟨u,false,rfl,by rw[g,fi hq];rfl,λT d=>?_⟩,c⟩;rw[g,fi hq]at d;cases d
 .obtain⟨N,C,V,O,P,Q,S⟩:=push (e:=22) aF0 rfl j (x:=n) (y:=n) rfl om om o;rw[fh (by rw[hq];simp)]at g;simp only[eQ,simprocAttr,hq,t,i,N,O];refine nx4 (k+1,C,s++[n]) ⟨P,g,by simp only[eD4,eG3];omega,c.chain Q λb r D=>?_,λb r=>?_⟩
  .rcases q b D with h|h
   .exact h
   .omega
  .rcases S b r with h|h
   .exact q b h
   .exact .inr (eD7 c.size h)
def dl2(a:Addr)(e:Value)(s:Sh)(it:It)(i x y:Nat)(w:World)(C:At (n8 w) a s)(q:SV (n8 w) e it)(k:it.proc=(i:Int))(r:ca3 s i x y)(p:i<s.p.procs.length)(v:∀it∈s.l,Z6 it.s<=1000000)(t:∀f∈s.p.procs,ah4 f<=1000000):
  p7 prog 129 #[a,e] w λu D=>(u=(aI7 s it)/\o6 w D):=by
 apply y5 [a,e] func129 rfl;obtain⟨b,B,d,c,o⟩:=cX1 q (n7 _);obtain⟨j,z,_⟩:=o.it;obtain⟨_,_,_,_,_,_,_,_,_,A,_⟩:=j.st;have m:=z B (n7 _);have n:=A B (n7 _);rw[k]at m;rcases eD2 (decide (it.s.kind=7))with h7|h7
 .simp only[eQ,simprocAttr,d,m,n,h7];apply o8 results129;simp only[C9,simprocAttr];exact⟨by rw[aI7,fi (.inl (eD3 h7))],c⟩
 rcases eD2 (decide (it.s.kind=8))with h8|h8
 .simp only[eQ,simprocAttr,d,m,n,h7,h8];apply o8 results129;simp only[C9,simprocAttr];exact⟨by rw[aI7,fi (.inr (eD3 h8))],c⟩
 have g:aI7 s it=if it.s.kind=10 then(s.at it.proc it.s.name).isSome else true:=by
  rw[aI7,fh];rintro(h|h)
  .exact eD6 h7 h
  .exact eD6 h8 h
 rcases eD2 (decide (it.s.kind=10))with h10|h10
 .simp only[eQ,simprocAttr,d,m,n,h7,h8,h10];refine B3 (cH1 a s i x y it.s.name B (C.mono (b7 c)) r p v t) (λE l=>?_);rw[fi (eD3 h10),k]at g;cases hq:s.at i it.s.name
  .simp only[p6,simprocAttr,cE6];apply o8 results129;exact⟨by rw[g,hq];rfl,c.trans l⟩
  .simp only[p6,simprocAttr,cE6];apply o8 results129;exact⟨by rw[g,hq];rfl,c.trans l⟩
 .rw[fh (eD6 h10)]at g;simp only[eQ,simprocAttr,d,n,h7,h8,h10];apply o8 results129;simp only[C9,simprocAttr];exact⟨by rw[g],c⟩
def dx1:eqT prog 132=2:=kr
def bI1(p)(hw:C1 p<=1000000)(i)(b:i<p.procs.length):(∀it∈(i5 p).of i,it∈(i5 p).l)/\((i5 p).of i).length<=400000:=by
 obtain⟨x,a,_⟩:=ab2 p hw i b;have c:=aG5 p;have d:=co1 p;refine⟨λit h=>?_,?_⟩
 .rw[a.of_]at h;exact eL5 (eP5 h)
 .rw[a.of_,eK0,eE5];omega
def bb9(l:List It):Nat:=(l.map λit=>it.s.labels.length).sum
def cC6(l m:List It):bb9 (l++m)=bb9 l+bb9 m:=by simp[bb9]
def cg5(x:It)(m:List It):bb9 (x::m)=x.s.labels.length+bb9 m:=by simp[bb9]
mutual
def dQ5:∀(t:St) (k:Nat) (c g f e:Int),bb9 (ac1 t k c g f e)<=Z6 t
 | .mk id kind labels name proc x has args thn els,k,c,g,f,e=>by
  rw[U2,cg5,cC6,Z6];have h:=ab8 labels;simp only[St.labels,St.thn,St.els];apply eD7 (Nat.add_le_add_left (Nat.add_le_add ((λd b a=>bt6 thn d c (k+1) b a) _ _ _) ((λd b a=>bt6 els d c (k+1) b a) _ _ _)) _);omega
def bt6:∀(l:List St) (k:Nat) (c d b a:Int),bb9 (E5 l k c d b a)<=M5 l
 | [],_,_,_,_,_=>by simp[E5,bb9]
 | t::l,k,c,d,b,a=>by
  rw[E5,cC6,M5];exact Nat.add_le_add (dQ5 t _ _ _ _ _) (bt6 l _ _ _ _ _)
end
def dR3(p)(hw:C1 p<=1000000)(i)(a:i<p.procs.length):bb9 ((i5 p).of i)+p.procs[i].fin.length<=1000000:=by
 obtain⟨x,_,e⟩:=ab2 p hw i a;have c:=bt6 p.procs[i].body x i 0 (-1) 0;have b:=aJ6 p hw _ (eE1 a);have d:=ab8 p.procs[i].fin;unfold ah4 at b;rw[e];omega
def dl1{l:List It}{m}(h:m<l.length):bb9 (l.drop m)=l[m].s.labels.length+bb9 (l.drop (m+1)):=by
 rw[eI2 h,cg5]
def cb6(v p w)(hv:SV (n8 w) v p)(hw:C1 p<=1000000):p7 prog 80 #[v] w λu L=>(u=af5 (aW4 p)/\o6 w L):=by
 apply y5 [v] func80 rfl;obtain⟨a,w1,a3,aO,ha⟩:=af3 (w:=w) (λ_=>False) hv (λ_ h=>h.elim);obtain⟨vg,vp,hg,hp,ld,_⟩:=L8.pg hv ha;obtain⟨lw,_⟩:=L8.pg_v hv ha;obtain⟨rb,w2,a1,aP,a7,az⟩:=aO1 w1;have a5:w.heap.size<=rb:=eD7 aO.size az;have F:=aO.trans aP;have aB:∀L,o6 w2 L->E6 (D9 w1 λ_=>False) (n8 L):=λL h=>A3 (B6 _ _) (b7 (aP.trans h));have z:=λ(L:World) (h:o6 w2 L)=>aF9 a7 h a5 F;simp only[eQ,simprocAttr,a3,a1,lw w2 (aB _ (t8.refl _))];apply z6 (cP9 v p w2 (hv.mono (b7 F)) hw);rintro us w3 ⟨I,hx3⟩;rcases eD2 (decide ((U7 p).1=0))with hsc|hsc;rotate_left
 .rw[fh (eD6 hsc)]at I;subst I;obtain⟨w9,Z,s2,s3⟩:=z w3 hx3 (1,0);simp only[eQ,simprocAttr,bq8 rfl dx1,aa4,Z];apply R4 results80 (by simp only[C9,simprocAttr]) s2;exact⟨by rw[aW4,fi (eD6 hsc)],s3⟩
 rw[fi (eD3 hsc)]at I;obtain⟨sh,rfl,aJ⟩:=I;have hF:aW4 p=(aa6 (i5 p) 0 p.procs).getD (0,0):=by rw[aW4,fh (by simpa using hsc)]
 have l3:=ld w3 (aB _ hx3);have hS:=hp.isS;have hn:=hp.vlen;have aG:=K0 p;have a9:=ah2 p hw;have aN:=aJ6 p hw;have bz:p.procs.length<=1000000:=by
  have:=as3 p.procs;unfold C1 at hw;omega
 simp only[eQ,simprocAttr,bq8 rfl dx1,l3,hS,hn];refine B4 [1,2,3,16,17] (σ:=Nat) (λk f L=>f 18=k/\k<=p.procs.length/\aa6 (i5 p) 0 p.procs=aa6 (i5 p) k (p.procs.drop k)/\o6 w3 L) (λk=>p.procs.length-k) 0 ?_ ?_
 .exact⟨rfl,eE2 _,by rw[eM9],t8.refl _⟩
 rintro i f2 w6 ⟨e1,e2,e3,aV,aW,_⟩ ⟨ah,bv,j,X⟩;have H:=hx3.trans X;simp only[eQ,simprocAttr,ah,aW];refine A7 (λr=>?_) ?_;rotate_left
 .rintro rfl;rw[eN6]at j;obtain⟨w9,Z,s2,s3⟩:=z w6 H (0,0);simp only[p6,simprocAttr,e2,be9,Z];apply R4 results80 (by simp only[C9,simprocAttr];exact e2) s2;exact⟨by rw[hF,j];rfl,s3⟩
 have V:=hp.inS r;obtain⟨sv,aL,al⟩:=G1 (P:=prog) (t:=68) hp (b7 (F.trans H)) (eD1 r) as1 as2 ao1 N6;rw[N6]at al;have M:p.procs.drop i=p.procs[i]::p.procs.drop (i+1):=eI2 r;obtain⟨x,an,_⟩:=ab2 p hw i r;have ba:=aN _ (eE1 r);obtain⟨aD,aA⟩:=bI1 p hw i r;have aH:=az2 p hw i r;have ak:=dR3 p hw i r;generalize p.procs[i]=y at aL M ba an ak;rw[M,aa6,aI4]at j;obtain⟨b,wz,w7,ax,aK,Y,a2⟩:=aM2 (aL.mono (b7 (F.trans H))) (n7 _);obtain⟨_,_,_,vf,_,_,_,a8,bc,_⟩:=a2.pr;simp only[p6,n9,A6,simprocAttr,ah,e3,aV,V,al,ax,aK];apply z6 (bw6 sh (i5 p) i x _ w7 (aJ.mono (b7 (X.trans Y))) an);rintro ul J ⟨O,B⟩;have D:=(H.trans Y).trans B;generalize bx:(i5 p).of i=l at O aD j aA aH ak;simp only[eQ,simprocAttr,O.isS,O.vlen];refine B4 [1,2,3,5,16,17,18,25,26] (σ:=Nat×Value×List B9) (λs f L=>f 27=s.1/\f 6=s.2.1/\s.1<=l.length/\B7 (n8 J) L 9 s.2.1 s.2.2/\aL3 (i5 p) [] l=aL3 (i5 p) s.2.2 (l.drop s.1)/\s.2.2.length+bb9 (l.drop s.1)=bb9 l/\o6 J L) (λs=>l.length-s.1) (0,(),[]) ?_ ?_
 .exact⟨rfl,rfl,eE2 _,B7.nil _ _ _,by rw[eM9],by rw[eM9];simp,t8.refl _⟩
 rintro⟨m,u,g⟩ f3 av ⟨g1,g2,g3,g5,bq,br,aw,aY,aZ,_⟩ ⟨U,h6,a6,ho,K,am,q⟩;simp only at U h6 a6 ho K am;rw[e1]at g1;rw[e2]at g2;rw[e3]at g3;rw[ah]at aw;have bb:=D.trans q;simp only[eQ,simprocAttr,U,aZ];refine A7 (λN=>?_) ?_;rotate_left
 .rintro rfl;rw[eN6,aL3]at K;rw[K]at j;rw[eN6]at am;have bk:g.length+y.fin.length<=1000000:=by simp[bb9]at am;unfold bb9 at ak;omega
  simp only[eQ,simprocAttr,h6,g5,bc av (b7 (B.trans q))];apply z6 (cg1 u vf g y.fin (n8 J) av ho (A9.mono (b7 B) a8) (b7 q) om);rintro _ S ⟨⟨u2,ok,rfl,d,aI⟩,aC⟩;have e:o6 J S:=ho.ext2 q aC;have aq:=D.trans e;rcases eD2 ok with o|o
  .rw[o]at d;have ao:∃s',aI3 g y.fin=some s':=eJ0.1 d.symm;obtain⟨s',W⟩:=ao;simp only[W]at j;simp only[eQ,simprocAttr,o,aw];refine U5 (i+1) ⟨j,?_⟩;exact X.trans (Y.trans (B.trans e))
  .rw[o]at d;have C:aI3 g y.fin=none:=by
    cases h:aI3 g y.fin
    .rfl
    .rw[h]at d;cases d
   simp only[C]at j;obtain⟨w9,Z,s2,s3⟩:=z S aq (7,0);simp only[eQ,simprocAttr,o,g2,aa4,Z];apply R4 results80 (by simp only[C9,simprocAttr];exact g2) s2;exact⟨by rw[hF,j];rfl,s3⟩
 clear V al;have V:=O.inS N;obtain⟨be,A,ad⟩:=G1 (P:=prog) (t:=156) O (b7 q) (eD1 N) ai4 ai5 ag5 M4;rw[M4]at ad;have af:=aH _ (eE1 N);have a4:=dl1 N;rw[eI2 N,aL3]at K;generalize l[m]=it at A af K a4;obtain⟨c,bK,S,aj,ap,Q,ac⟩:=bi2 (w:=av) (B0 u) A (λb hb=>ho.lt hb);obtain⟨ldI,_⟩:=L8.it_v A ac;obtain⟨us,I,ay,_,_⟩:=L8.it A ac;obtain⟨bf,_,_,_,_,aM,_,_,_,_,_,ar,_⟩:=L8.st I ay;have ae:=ho.ext Q;have e:=q.trans Q;simp only[p6,n9,A6,simprocAttr,U,h6,aY,V,ad,aj,ap,ar S (B6 _ _)];apply z6 (cg1 u bf g it.s.labels (n8 J) S ae aM (b7 e) om);rintro _ T ⟨⟨u2,ok,rfl,d,aI⟩,E⟩;have n:o6 J T:=ae.ext2 e E;have R:=D.trans n;have k2:=ar T (F5 E);have k3:=ldI T (F5 E);rcases eD2 ok with o|o;rotate_left
 .rw[o]at d;have C:aI3 g it.s.labels=none:=by
   cases h:aI3 g it.s.labels
   .rfl
   .rw[h]at d;cases d
  simp only[C]at K;rw[K]at j;obtain⟨w9,Z,s2,s3⟩:=z T R (7,it.s.id);simp only[eQ,simprocAttr,o,k2,g2,aO4,Z];apply R4 results80 (by simp only[C9,simprocAttr];exact g2) s2;exact⟨by rw[hF,j];rfl,s3⟩
 rw[o]at d;obtain⟨s',W⟩:∃s',aI3 g it.s.labels=some s':=eJ0.1 d.symm;simp only[W]at K;obtain⟨aF,bj⟩:=aI s' W;simp only[eQ,simprocAttr,o,g3,k3];refine B3 (dl2 sh be (i5 p) it i x _ T (aJ.mono (b7 (X.trans (Y.trans (B.trans n))))) (A.mono (b7 n)) af an (by rw[aG];exact r) a9 (by rw[aG];exact aN)) (λaQ G=>?_);have k4:=ar aQ (A3 (F5 E) (b7 G));rcases eD2 (aI7 (i5 p) it)with hle4|hle4
 .rw[fi hle4]at K;simp only[eQ,simprocAttr,hle4,U];refine nx4 (m+1,u2,s') ⟨aF.ext G,K,so,n.trans G⟩
 .rw[fh (by rw[hle4];simp)]at K;rw[K]at j;obtain⟨w9,Z,s2,s3⟩:=z aQ (R.trans G) (7,it.s.id);simp only[eQ,simprocAttr,hle4,k4,g2,aO4,Z];apply R4 results80 (by simp only[C9,simprocAttr];exact g2) s2;exact⟨by rw[hF,j];rfl,s3⟩
def eQ2:=@nodup_cons
def J5{α:Type}[DecidableEq α]:∀{l m:List α},l.Nodup->(∀x∈l,x∈m)->l.length<=m.length
 | [],m,_,_=>dG
 | x::l,m,hn,hs=>by
  rw[eQ2]at hn;have a:=hs x dG;have c:=J5 (l:=l) (m:=m.erase x) hn.2 λy b=>(mem_erase_of_ne (λe=>hn.1 (by rw[<-e];exact b))).2 (hs y (by simp[b]));rw[length_erase_of_mem a]at c;have:=length_pos_of_mem a;simp only[eG6];omega
def bW1{p}{a:List B9}{f:Pr}{l:List It}{e:Int×Int}(h:al6 p a f l=some e):e.1=5:=by
 unfold al6 at h;split at h
 .obtain rfl:=eF3 h;rfl
 .split at h
  .obtain rfl:=eF3 h;rfl
  .cases h
def aW8{p}{s:Sh}{a:List B9}:∀{l:List Pr} {i:Nat} {e:Int×Int},U8 p s a i l=some e->e.1=5
 | [],i,e,h=>by cases h
 | f::l,i,e,h=>by
  rw[U8]at h;split at h
  .next b=>obtain rfl:=eF3 h;exact bW1 b
  .exact aW8 h
def aW9{p}{s:Sh}{a:List B9}:∀{l:List Pr} {i:Nat},U8 p s a i l=none->∀k (b:k<l.length),al6 p a l[k] (s.of (i+k:Nat))=none
 | [],i,_,k,b=>by simp at b
 | f::l,i,h,k,b=>by
  rw[U8]at h;split at h
  .cases h
  .next c=>
   cases k with
   | zero=>simpa using c
   | succ k=>
    have:=aW9 h k (by simpa using b);rw[show i+1+k=i+(k+1) by omega]at this;simpa using this
structure Known (p:Pg):Prop where
 may:O1 p=true
 globals:p.globals.Nodup
 names:(p.procs.map (·.name)).Nodup
 main:∃(i:Nat) (q:Pr),p.procs[i]?=some q/\q.name=H9/\q.params=[]
 proc:∀i (hi:i<p.procs.length),(bK9 p.procs[i]).Nodup/\(∀n∈bK9 p.procs[i],n∉p.globals)/\∀it∈(i5 p).of i,am9 p p.procs[i] (p.procs.map (·.name)) it.s=true
def bT1{p}(h:(U7 p).1=0):Known p:=by
 unfold U7 at h;cases hmay:O1 p
 .rw[hmay]at h;simp at h
 rw[fh (by rw[hmay];simp)]at h;cases hb:(an4 p.globals||an4 (p.procs.map (·.name))||decide (ac3 p.procs H9<0)||decide (0<(p.procs.getD (ac3 p.procs H9).toNat cq3).params.length));rotate_left
 .simp only[hb,eK2]at h;simp at h
 simp only[hb]at h;simp only[Bool.or_eq_false_iff]at hb;obtain⟨⟨⟨o,r⟩,s⟩,j⟩:=hb;have c:0<=ac3 p.procs H9:=by simpa using s
 obtain⟨k,e,q,l,g⟩:=aI2 _ p.procs 0 c;have m:ac3 p.procs H9=(k:Int):=by unfold ac3;rw[e];simp
 rw[m,eF4,getD,l]at j;have f:U8 p (i5 p) (p.procs.map (·.name)) 0 p.procs=none:=by
  cases hs:U8 p (i5 p) (p.procs.map (·.name)) 0 p.procs with
  | none=>rfl
  | some e=>
   have:=aW8 hs;simp only[hs]at h;simp at h;omega
 refine⟨hmay,by simpa[an4]using o,by simpa[an4]using r,⟨k,q,l,eD3 g,?_⟩,λi w=>?_⟩
 .have:q.params.length=0:=by simpa using j
  exact eq_nil_of_length_eq_zero this
 .have b:=aW9 f i w;rw[eH5]at b;unfold al6 at b;split at b
  .cases b
  .next t=>
   have a:=eN8.2 t;simp only[Bool.or_eq_false_iff]at a;split at b
   .cases b
   .next u=>
    refine⟨by simpa[an4]using a.1,λn x v=>?_,λit d=>?_⟩
    .have:=List.any_eq_false.1 a.2 n x;exact this (eE6.2 v)
    .have:=eL9.1 u it d;simpa using this
def Y0{p:Pg}{n:B9}(h:n∈p.procs.map (·.name)):∃(i:Nat) (l:i<p.procs.length),(i5 p).pr n=(i:Int)/\p.procs[i].name=n:=by
 obtain⟨q,g,rfl⟩:=eF2.1 h;have a:p.procs.any (λf=>decide (f.name=q.name))=true:=eP6.2 ⟨q,g,dG⟩;rw[<-aI1 (λf:Pr=>decide (f.name=q.name)) p.procs 0]at a;obtain⟨k,e,x,j,b⟩:=aI2 _ p.procs 0 (eD3 a);obtain⟨d,c⟩:=eD8.1 j;refine⟨k,d,?_,by rw[c];exact eD3 b⟩;unfold Sh.pr ac3;rw[K0,e,eH5]
def aZ4{p}(K:Known p){m x:B9}(hm:m∈p.procs.map (·.name))(b:x∈at1 (i5 p) m):x∈p.procs.map (·.name):=by
 obtain⟨i,c,e,_⟩:=Y0 hm;unfold at1 at b;rw[M6,e]at b;obtain⟨it,a,rfl⟩:=eF2.1 b;obtain⟨a,d⟩:=eF6.1 a;have:=(K.proc i c).2.2 it a;unfold am9 at this;rw[d]at this;simp only[Bool.not_true,eO3,eF1]at this;exact eE6.1 this.2.2
def aH1:∀(l a:List B9) (x:B9),x∈aa2 a l↔x∈a\/x∈l
 | [],a,x=>by simp[aa2]
 | n::l,a,x=>by
  rw[aa2,aH1 l];split
  .next h=>
   have:=eE6.1 h;constructor
   .rintro(h|h)
    .exact .inl h
    .exact .inr (by simp[h])
   .rintro(h|h)
    .exact .inl h
    .rcases eF0.1 h with rfl|h
     .exact .inl this
     .exact .inr h
  .simp[or_assoc]
def aR5:∀(l c:List B9),c.Nodup->(aa2 c l).Nodup
 | [],c,h=>h
 | n::l,c,h=>by
  rw[aa2];apply aR5 l _;split
  .exact h
  .next f=>
   rw[eI6];refine⟨h,dG,λa e b d=>?_⟩;simp only[eE7]at d;subst d;rintro rfl;exact f (eE6.2 e)
def I1{α:Type}(g:α->α):Nat->α->α
 | 0,x=>x
 | k+1,x=>I1 g k (g x)
theorem af6{α:Type}(g:α->α):∀(k:Nat) (x:α),I1 g (k+1) x=g (I1 g k x)
 | 0,x=>rfl
 | k+1,x=>by rw[I1,af6 g k];rfl
def cf9{α:Type}{g:α->α}{x:α}(h:g x=x):∀k,I1 g k x=x
 | 0=>rfl
 | k+1=>by rw[I1,h,cf9 h k]
def aL1{α:Type}[DecidableEq α]{g:α->α}:∀(k m:Nat) (x:α),k<=m->g (I1 g k x)=I1 g k x->cz7 g m x=I1 g k x
 | 0,0,x,_,_=>rfl
 | 0,m+1,x,_,h=>by
  have a:g x=x:=h;rw[cz7,fi a];rfl
 | k+1,0,x,hk,_=>om
 | k+1,m+1,x,hk,h=>by
  rw[cz7];split
  .next b=>rw[cf9 b]
  .exact aL1 k m (g x) om h
abbrev Rws:=List (List B9)
def leR(X Y:Rws):Prop:=∀(i:Nat),∀x∈X.getD i [],x∈Y.getD i []
structure T7 (n B:Nat) (X:Rws):Prop where
 len:X.length=n
 rise:∀r∈X,r.Pairwise λa b=>ltS a b=true
 few:∀r∈X,r.length<=B
structure aV9 (S:Rws->Rws) (n B:Nat):Prop where
 mono:∀X Y,leR X Y->leR (S X) (S Y)
 ok:∀X,T7 n B (S X)
def aQ4(X:Rws):Nat:=(X.map (·.length)).sum
def aJ3{l:List B9}(h:l.Pairwise λa b=>ltS a b=true):l.Nodup:=by
 refine List.Pairwise.imp (fun{a b} hab he=>?_) h;subst he;rw[Q5]at hab;cases hab
def dF0{l m:List B9}(f:l.Pairwise λa b=>ltS a b=true)(g:m.Pairwise λa b=>ltS a b=true)(h:∀x∈l,x∈m):l.length<=m.length/\(l.length=m.length->l=m):=by
 have c:=aJ3 f;refine⟨J5 c h,λj=>cG5 f g λx=>⟨h x,λi=>?_⟩⟩;refine eL3 λd=>?_;have:=J5 (l:=x::l) (m:=m) (eQ2.2 ⟨d,c⟩) λy e=>by
  rcases eF0.1 e with rfl|e
  .exact i
  .exact h y e
 simp at this;omega
def dc6:∀(X Y:Rws),X.length=Y.length->(∀r∈X,r.Pairwise λa b=>ltS a b=true)->(∀r∈Y,r.Pairwise λa b=>ltS a b=true)->leR X Y->aQ4 X<=aQ4 Y/\(aQ4 X=aQ4 Y->X=Y)
 | [],[],_,_,_,_=>by simp[aQ4]
 | x::X,y::Y,hl,h1,h2,h=>by
  have f:=dc6 X Y (by simpa using hl) (λr c=>h1 r (by simp[c])) (λr c=>h2 r (by simp[c])) λi z d=>by
   have:=h (i+1) z;simp only[getD_cons_succ]at this;exact this d
  have e:=dF0 (h1 x dG) (h2 y dG) λz d=>by
   have:=h 0 z;simp only[getD_cons_zero]at this;exact this d
  simp only[aQ4,eI4,eO9]at *;refine⟨om,λg=>?_⟩;rw[e.2 om,f.2 om]
def cI3{n B:Nat}:∀(X:Rws),(∀r∈X,r.length<=B)->aQ4 X<=X.length*B
 | [],_=>by simp[aQ4]
 | x::X,h=>by
  have b:=cI3 (n:=n) X λr a=>h r (by simp[a]);have:=h x dG;simp only[aQ4,eI4,eO9,eG6,eP3]at *;omega
def bV6(n B):T7 n B (replicate n []):=⟨dG,λr a=>by
 rw[eK9 a];exact List.Pairwise.nil,λr a=>by rw[eK9 a];simp⟩
section
variable {S:Rws->Rws} {n B:Nat}
def aV9.iter_ok(h:aV9 S n B):∀k,T7 n B (I1 S k (replicate n []))
 | 0=>bV6 n B
 | k+1=>by rw[af6];exact h.ok _
def aV9.grow(h:aV9 S n B):∀k,leR (I1 S k (replicate n [])) (S (I1 S k (replicate n [])))
 | 0=>λi x a=>by
  rw[I1,getD]at a;cases hi:(replicate n ([]:List B9))[i]? with
  | none=>rw[hi]at a;simp at a
  | some r=>
   rw[hi]at a;have:=eK9 (eF7 hi);subst this;simp at a
 | k+1=>by
  rw[af6];exact h.mono _ _ (h.grow k)
def aV9.more(h:aV9 S n B)(k)(c:S (I1 S k (replicate n []))≠I1 S k (replicate n [])):aQ4 (I1 S k (replicate n []))<aQ4 (I1 S (k+1) (replicate n [])):=by
 rw[af6];have d:=h.iter_ok k;have e:=h.ok (I1 S k (replicate n []));obtain⟨a,b⟩:=dc6 _ _ (by rw[d.len,e.len]) d.rise e.rise (h.grow k);rcases eH4 (aQ4 (I1 S k (replicate n []))) (aQ4 (S (I1 S k (replicate n []))))with hlt|hge
 .exact hlt
 .exact fj (b om).symm c
def aV9.bound(h:aV9 S n B)(k):aQ4 (I1 S k (replicate n []))<=n*B:=by
 have a:=h.iter_ok k;have:=cI3 (n:=n) _ a.few;rw[a.len]at this;exact this
end
def eQ3:=@getElem_range
def eG1:=@mem_flatMap
def bc6:∀(n:Nat) (l:List Int),l.length<=n->l.eraseDups.Nodup
 | _,[],_=>dG
 | 0,x::l,h=>by simp at h
 | n+1,x::l,h=>by
  rw[eraseDups_cons,eQ2];refine⟨λhm=>?_,bc6 n _ (eD7 (eG0 _ _) (by simpa using h))⟩;rw[mem_eraseDups,eF6]at hm;simp at hm
def aW6(nx:List (List Int))(l:List Int):List Int:=((l.flatMap (F1 nx)).filter λb=>!l.contains b).eraseDups
def aA7{nx:List (List Int)}{l:List Int}{b}:b∈aW6 nx l↔(∃a∈l,b∈F1 nx a)/\b∉l:=by
 unfold aW6;rw[mem_eraseDups,eF6,eG1];simp
def aV5{nx:List (List Int)}{a}:∀(m:Nat) (l:List Int),(∀b∈l,Y6 nx a b)->∀b∈V2 nx m l,Y6 nx a b
 | 0,l,h,b,hb=>h b hb
 | m+1,l,h,b,hb=>by
  rw[V2]at hb;refine aV5 m _ (λc e=>?_) b hb;rcases eE0.1 e with e|e
  .exact h c e
  .obtain⟨⟨d,f,e⟩,_⟩:=aA7.1 e;exact .step (h d f) e
def bh7{nx:List (List Int)}:∀(m:Nat) (l:List Int),∀b∈l,b∈V2 nx m l
 | 0,l,b,hb=>hb
 | m+1,l,b,hb=>by
  rw[V2];exact bh7 m _ b (eF9 _ hb)
def bk4{n}{nx:List (List Int)}(o:H1 n nx):∀(m:Nat) (l:List Int),l.Nodup->(∀b∈l,J2 n b=true)->n<=l.length+m->∀a∈V2 nx m l,∀b∈F1 nx a,b∈V2 nx m l
 | 0,l,hn,hk,hl,a,ha,b,hb=>by
  rw[V2]at ha ⊢;refine eL3 λq=>?_;have u:(b::l).Nodup:=eQ2.2 ⟨q,hn⟩;have v:=J5 (m:=(range n).map λ(i:Nat)=>(i:Int)) u λc f=>by
   have p:J2 n c=true:=by
    rcases eF0.1 f with rfl|f
    .exact(o.row _).2 _ hb
    .exact hk c f
   have:=C0.1 p;exact eF2.2 ⟨c.toNat,eH7.2 om,om⟩
  simp only[eG6,eE3,eI3]at v;omega
 | m+1,l,hn,hk,hl,a,ha,b,hb=>by
  rw[V2]at ha ⊢;by_cases he:aW6 nx l=[]
  .have e:l++((l.flatMap (F1 nx)).filter λb=>!l.contains b).eraseDups=l:=by
    show l++aW6 nx l=l;rw[he,eG5]
   rw[e]at ha ⊢;have g:∀c∈l,∀d∈F1 nx c,d∈l:=λc f d j=>eL3 λr=>by
    have:d∈aW6 nx l:=aA7.2 ⟨⟨c,f,j⟩,r⟩;rw[he]at this;simp at this
   have s:∀(k:Nat),V2 nx k l=l:=by
    intro k
    induction k with
    | zero=>rfl
    | succ k w=>rw[V2,e,w]
   rw[s]at ha ⊢;exact g a ha b hb
  .have t:0<(aW6 nx l).length:=List.length_pos_iff.2 he;refine bk4 o m (l++aW6 nx l) ?_ (λc f=>?_) (by rw[eD4];omega) a ha b hb
   .rw[eI6];refine⟨hn,bc6 _ _ (eE8 _),λc f d j e=>?_⟩;subst e;exact(aA7.1 j).2 f
   .rcases eE0.1 f with h|h
    .exact hk c h
    .obtain⟨⟨d,_,f⟩,_⟩:=aA7.1 h;exact(o.row _).2 _ f
def aP8{nx:List (List Int)}(f:H1 nx.length nx){a b}(e:J2 nx.length a=true):af9 nx a b=true↔Y6 nx a b:=by
 unfold af9;rw[e,eJ4,eE6];constructor
 .exact λh=>aV5 nx.length [a] (λc d=>by simp at d;subst d;exact .refl) b h
 .intro h
  induction h with
  | refl=>exact bh7 _ _ _ dG
  | step _ d g=>exact bk4 f nx.length [a] dG (λc d=>by simp at d;subst d;exact e) dG _ g _ d
def dS5{nx:List (List Int)}{a b}(f:J2 nx.length a=true):Rch nx [a] b↔Y6 nx a b:=by
 constructor
 .intro h
  induction h with
  | base e g=>simp at e;subst e;exact .refl
  | step _ c d=>exact .step d c
 .intro h
  induction h with
  | refl=>exact .base dG f
  | step _ c d=>exact .step d c
def dQ9{nx:List (List Int)}(c:H1 nx.length nx)(a:J2 nx.length 0=true){r:List Int}(d:dV4 r (Rch nx [0])):cg7 nx=(range nx.length).map λ(b:Nat)=>r.contains (b:Int):=by
 unfold cg7;refine map_congr_left λb _=>?_;rw[eO8,aP8 c a,<-dS5 a,<-d.mem,eE6]
def dS2{nx:List (List Int)}(d:H1 nx.length nx){q:List Int}(n:q.length=nx.length)(r:∀b,J2 nx.length b=true->aY4 nx b (ai q b)):q=au5 nx:=by
 apply eK8
 .simp[au5,n]
 intro k l s;have f:J2 nx.length (k:Int)=true:=C0.2 ⟨om,om⟩;have c:=r k f;have g:ai q (k:Int)=q[k]:=by
  unfold ai;rw[eF4,getD,eD1 l];rfl
 rw[g]at c;apply c.uniq;obtain⟨o,p⟩:=C0.1 (cV6 d c.1.1 f);have e:q[k]=((q[k].toNat:Nat):Int):=om
 have i:(au5 nx)[k]=((((range nx.length).find? λb=>af9 nx (k:Nat) (b:Nat)&&af9 nx (b:Nat) (k:Nat)).getD 0:Nat):Int):=by
  simp only[au5,eL1,eQ3]
 rw[i];have a:(range nx.length).find? (λb=>af9 nx (k:Nat) (b:Nat)&&af9 nx (b:Nat) (k:Nat))=some q[k].toNat:=by
  rw[eM8];refine⟨?_,q[k].toNat,by simp;omega,dG,λj t=>?_⟩
  .rw[eF1,aP8 d f,aP8 d (C0.2 ⟨om,om⟩),<-e];exact c.1
  .have m:j<nx.length:=om
   have h:J2 nx.length (j:Int)=true:=C0.2 ⟨om,om⟩;cases hz:(af9 nx (k:Nat) ((range nx.length)[j]'(by simp;omega):Nat)&&af9 nx ((range nx.length)[j]'(by simp;omega):Nat) (k:Nat))
   .rfl
   .exfalso
    simp only[eQ3]at hz;rw[eF1,aP8 d f,aP8 d h]at hz;have:=c.2 j hz;omega
 rw[a];simp only[eI9];rw[<-e];exact c
def zVC:=zJ (zJ (zJ (zJ (zJ @en2 @em9) (zJ @ek7 (zJ @Option.map_some.{0,0} @Option.map_none.{0,0}))) (zJ (zJ @Int.toNat_zero (zJ @Option.isNone_none.{0} @Option.isNone_some.{0})) (zJ @O9 (zJ @co8.eq_1 @co8.eq_2)))) (zJ (zJ (zJ @dN8.eq_1 (zJ @dC1.eq_1 @dB8.eq_1)) (zJ @TY (zJ @Option.isSome_some.{0} @eJ4))) (zJ (zJ @Bool.and_true (zJ @eM2 @eF4)) (zJ @ey1 (zJ @Int.cast_ofNat_Int @decide_true))))) (zJ (zJ (zJ (zJ @add_lit (zJ @eH5 @Nat.zero_mul)) (zJ @Nat.one_mul (zJ @Bool.not_true @Bool.not_false))) (zJ (zJ @ey2 (zJ @el8 @eu1)) (zJ @eu0 (zJ @et9 @et8)))) (zJ (zJ (zJ @et7 (zJ @eu4 @et5)) (zJ @eu5 (zJ @ej6 @ej5))) (zJ (zJ @et6 (zJ @eu3 @cW8)) (zJ @dN2 (zJ @eu2 @eA7)))))
def ldB{h v}{l:List Bool}{w}(hv:R h v l)(hw:E6 h (n8 w)){k}(a:k<l.length):(Instr.loadAt 4 (.pointer (some (I2 v k)))).run prog w = .ok (.bool l[k]) w:=
 O4 (P:=prog) (t:=4) hv hw (eD1 a) ag4
def aH3(v)(l:List B9)(w)(hv:R (n8 w) v l)(D:l.length<=1000000000):
  p7 prog 201 #[v] w λu s=>(B7 (n8 w) s 9 u l/\o6 w s):=by
 apply y5 [v] func201 rfl;have C:=hv.isS;have r:E2 prog .eql 22 v (.slice none 0 0)=some (.bool (cE2 v)):=by
  obtain⟨a,n,c,b,_⟩:=hv;simp at b;subst b;simp[E2,Go.Proofs.YtpebpfiglfmegaaGreat.isS,er3]
 obtain⟨F,H,i,f,g,y⟩:=ec6 (P:=prog) (w:=w) (h:=n8 w) (α:=B9) aF0 (n7 _);obtain⟨G,I,t,p,o,A⟩:=W6 (P:=prog) (e:=22) aF0 rfl f hv (by simp;omega) (by simp;omega) (b7 g);rcases eD2 (cE2 v)with hc|hc
 .simp only[eQ,simprocAttr,r,hc];apply o8 results201;simp only[C9,simprocAttr];obtain⟨a,n,c,b,E,z,q,k,j⟩:=hv;simp at b;subst b;cases a with
  | some a=>simp[cE2]at hc
  | none=>
   have d:q=[]:=by
    cases q with
    | nil=>rfl
    | cons x _=>obtain⟨B,e,_⟩:=j 0 x rfl;cases e
   subst d;have:=Q9 k;have m:l=[]:=by
    cases l with
    | nil=>rfl
    | cons _ _=>simp[A9.sz]at this
   subst m;exact⟨B7.nil _ _ _,t8.refl _⟩
 .simp only[eQ,simprocAttr,r,hc,i,t];apply o8 results201;simp only[C9,simprocAttr];exact⟨by simpa using p,f.ext2 g o⟩
def bT5{α:Type}:∀{l m:List α},l.length=m.length->(∀j (a:j<l.length) (b:j<m.length),l[j]=m[j])->l=m:=fun{l m} a b=>eK8 a λj c d=>b j c d
def bQ8(va vb)(a b:List B9)(w)(A:R (n8 w) va a)(hb:R (n8 w) vb b)(C:a.length<=1000000000)(E:b.length<=1000000000):
  p7 prog 136 #[va,vb] w λu c=>(u = .bool (decide (a=b))/\o6 w c):=by
 apply y5 [va,vb] func136 rfl;have n:=A.isS;have t:=A.vlen;have o:=hb.isS;have v:=hb.vlen;have p:decide ((a.length:Int)=(b.length:Int))=decide (a.length=b.length):=by rw[eI5];omega
 rcases eD2 (decide (a.length=b.length))with hlen|hlen;rotate_left
 .simp only[eQ,simprocAttr,n,t,o,v,p,hlen];apply o8 results136;simp only[C9,simprocAttr];have:a≠b:=λe=>eD6 hlen (eE9 length e);exact⟨by simp[this],t8.refl _⟩
 have m:a.length=b.length:=eD3 hlen;simp only[eQ,simprocAttr,n,t,o,v,p,hlen];refine B4 [0,1,11,12] (σ:=Nat) (λk f c=>f 13 = .int .i64 k/\k<=a.length/\(∀j (F:j<a.length) (r:j<b.length),j<k->a[j]=b[j])/\o6 w c) (λk=>a.length-k) 0 ?_ ?_
 .exact⟨rfl,eE2 _,λj _ _ h=>om,t8.refl _⟩
 rintro k f z ⟨e0,D,I,B,_⟩ ⟨l,L,x,d⟩;simp only[eQ,simprocAttr,l,B];refine A7 (λs=>?_) ?_;rotate_left
 .rintro rfl;simp only[p6,simprocAttr];apply o8 results136;simp only[C9,simprocAttr];have:a=b:=bT5 m λj C E=>x j C E C;exact⟨by simp[this],d⟩
 have i:k<b.length:=om
 have q:=A.inS s;have g:=hb.inS i;have y:∀c,o6 z.drew c->E6 (n8 w) (n8 c):=λc h=>b7 (d.trans ((o6.drew z).trans h));have G:J4 prog (λc=>o6 z.drew c) 9 (I2 va k) (A4 a[k]):=sdx λc h=>ldS A (y c h) s;have H:J4 prog (λc=>o6 z.drew c) 9 (I2 vb k) (A4 b[k]):=sdx λc h=>ldS hb (y c h) i;have J:(a[k]==b[k])=decide (a[k]=b[k]):=rfl;simp only[p6,simprocAttr,l];refine C4 (o6 z.drew) 9 (A8 [0,1,2,3,4,5,6,7,8]) ?_;rcases eD2 (decide (a[k]=b[k]))with hq|hq
 .simp only[D7,A8,p6,n9,A6,simprocAttr,e0,D,q,g,G,H,hq,l];refine U5 (k+1) ⟨λj F r K=>?_,d.trans (o6.drew _)⟩;rcases eH4 j k with h|h
  .exact x j F r h
  .obtain rfl:j=k:=om
   exact eD3 hq
 .simp only[D7,A8,p6,n9,A6,simprocAttr,e0,D,q,g,G,H,hq];apply o8 results136;simp only[C9,simprocAttr];have:a≠b:=λe=>eD6 hq (by subst e;rfl);exact⟨by simp[this],d.trans (o6.drew _)⟩
def cN4(va vb)(a b:List Bool)(w)(B:R (n8 w) va a)(hb:R (n8 w) vb b)(D:a.length<=1000000000)(F:b.length<=1000000000):
  p7 prog 272 #[va,vb] w λu c=>(u = .bool (decide (a=b))/\o6 w c):=by
 apply y5 [va,vb] func272 rfl;have n:=B.isS;have v:=B.vlen;have o:=hb.isS;have x:=hb.vlen;have q:decide ((a.length:Int)=(b.length:Int))=decide (a.length=b.length):=by rw[eI5];omega
 rcases eD2 (decide (a.length=b.length))with hlen|hlen;rotate_left
 .simp only[eQ,simprocAttr,n,v,o,x,q,hlen];apply o8 results272;simp only[C9,simprocAttr];have:a≠b:=λe=>eD6 hlen (eE9 length e);exact⟨by simp[this],t8.refl _⟩
 have m:a.length=b.length:=eD3 hlen;simp only[eQ,simprocAttr,n,v,o,x,q,hlen];refine B4 [0,1,11,12] (σ:=Nat) (λk f c=>f 13 = .int .i64 k/\k<=a.length/\(∀j (G:j<a.length) (s:j<b.length),j<k->a[j]=b[j])/\o6 w c) (λk=>a.length-k) 0 ?_ ?_
 .exact⟨rfl,eE2 _,λj _ _ h=>om,t8.refl _⟩
 rintro k f A ⟨e0,E,J,C,_⟩ ⟨l,L,y,d⟩;simp only[eQ,simprocAttr,l,C];refine A7 (λt=>?_) ?_;rotate_left
 .rintro rfl;simp only[p6,simprocAttr];apply o8 results272;simp only[C9,simprocAttr];have:a=b:=bT5 m λj D F=>y j D F D;exact⟨by simp[this],d⟩
 have i:k<b.length:=om
 have r:=B.inS t;have g:=hb.inS i;have z:∀c,o6 A.drew c->E6 (n8 w) (n8 c):=λc h=>b7 (d.trans ((o6.drew A).trans h));have H:J4 prog (λc=>o6 A.drew c) 4 (I2 va k) (.bool a[k]):=sdx λc h=>ldB B (z c h) t;have I:J4 prog (λc=>o6 A.drew c) 4 (I2 vb k) (.bool b[k]):=sdx λc h=>ldB hb (z c h) i;have p:(a[k]==b[k])=decide (a[k]=b[k]):=rfl;simp only[p6,simprocAttr,l];refine C4 (o6 A.drew) 9 (A8 [0,1,2,3,4,5,6,7,8]) ?_;rcases eD2 (decide (a[k]=b[k]))with hq|hq
 .simp only[D7,A8,p6,n9,A6,simprocAttr,e0,E,r,g,H,I,bL4,p,hq,l];refine U5 (k+1) ⟨λj G s K=>?_,d.trans (o6.drew _)⟩;rcases eH4 j k with h|h
  .exact y j G s h
  .obtain rfl:j=k:=om
   exact eD3 hq
 .simp only[D7,A8,p6,n9,A6,simprocAttr,e0,E,r,g,H,I,bL4,p,hq];apply o8 results272;simp only[C9,simprocAttr];have:a≠b:=λe=>eD6 hq (by subst e;rfl);exact⟨by simp[this],d.trans (o6.drew _)⟩
def bU3(s:B9)(w):p7 prog 245 #[A4 s] w λu a=>(u = .bool false/\a=w):=by
 apply y5 [A4 s] func245 rfl;have b:decide (s=s)=true:=dG
 simp only[eQ,simprocAttr];exact o8 results245 ⟨rfl,rfl⟩
def dm5(s:B9)(w):p7 prog 300 #[A4 s] w λu a=>(u = .bool false/\a=w):=by
 apply y5 [A4 s] func300 rfl;have b:decide (s=s)=true:=dG
 simp only[eQ,simprocAttr];exact o8 results300 ⟨rfl,rfl⟩
def dl4(a b:B9)(w):p7 prog 234 #[A4 a,A4 b] w λu c=>(u = .bool (ltS a b)/\c=w):=by
 apply y5 [A4 a,A4 b] func234 rfl;simp only[eQ,simprocAttr];apply F6 (bU3 a w);simp only[eQ,simprocAttr];exact o8 results234 ⟨rfl,rfl⟩
def dO1{n:Nat}(h:n<4000000000000000000):bG1 prog 3 164 (.int .i64 n)=some (.int .u64 n):=by
 have a:dQ2 prog 164=some .u64:=kr
 have b:(prog.underlying 3).isSome=true:=kr
 simp only[bG1,a,b,eK2]
 congr 2
 have:(n:Int) % 18446744073709551616=n:=om
 simp[wrap,IntKind.bits,signed];omega
def dO2{n:Nat}(h:n<4000000000000000000):bG1 prog 164 3 (.int .u64 n)=some (.int .i64 n):=by
 have a:dQ2 prog 3=some .i64:=kr
 have b:(prog.underlying 164).isSome=true:=kr
 simp only[bG1,a,b,eK2]
 congr 2
 exact N7 _ om
def eo8{P t}{n:Nat}:E2 P .shr t (.int .u64 n) (.int .u64 1)=some (.int .u64 (n / 2:Nat)):=by
 simp only[E2];rw[fh dR]
 congr 2
 have:min (Int.toNat 1) IntKind.u64.bits=1:=dR
 rw[this,Int.fdiv_eq_ediv_of_nonneg _ dR]
 norm_cast
def cG8(v:Value)(l:List B9)(x:B9)(w)(hv:R (n8 w) v l)(Q:l.length<=1000000000)(P:l.Pairwise (λa b=>ltS a b=true)):
  p7 prog 276 #[v,A4 x] w λu K=>(∃i:Int,u = .tuple #[.int .i64 i,.bool (l.contains x)]/\K=w):=by
 apply y5 [v,A4 x] func276 rfl;have z:=eK4.1 P;simp only[eQ,simprocAttr,hv.isS,hv.vlen];refine B4 [0,1,6] (σ:=Nat×Nat) (λs f K=>f 7 = .int .i64 s.1/\f 8 = .int .i64 s.2/\s.1<=s.2/\s.2<=l.length/\(∀j (M:j<l.length),j<s.1->ltS l[j] x=true)/\(∀j (M:j<l.length),s.2<=j->ltS l[j] x=false)/\K=w) (λs=>s.2-s.1) (0,l.length) ?_ ?_
 .exact⟨rfl,rfl,eE2 _,eE8 _,λj _ h=>om,λj M h=>om,rfl⟩
 rintro⟨i,j⟩ f N ⟨e0,E,F,_⟩ ⟨r,C,G,H,p,t,rfl⟩;simp only at r C G H p t;simp only[eQ,simprocAttr,r,C];refine A7 (λc=>?_) ?_
 .have J:IntKind.i64.wrap ((i:Int)+(j:Int))=((i+j:Nat):Int):=by rw[N7 _ om];omega
  have hm:(i+j) / 2<l.length:=om
  have g:=hv.inS hm;have o:=ldS hv (n7 _) hm;have D:=dO1 (n:=i+j) om;have A:=dO2 (n:=(i+j) / 2) om;generalize O:(i+j) / 2=m at hm g o A;have I:E2 prog .shr 164 (.int .u64 ((i+j:Nat):Int)) (.int .u64 1)=some (.int .u64 (m:Nat)):=by rw[eo8,O]
  simp only[p6,zVC,A6,simprocAttr,r,C,J,D,I,A,e0,E,g,o];apply F6 (dl4 l[m] x N);rcases eD2 (ltS l[m] x)with hq|hq
  .simp only[eQ,simprocAttr,hq,C];refine nx5 (m+1,j) ⟨λk q y=>?_,t,tt⟩;simp only at y;rcases eH4 k m with h|h
   .exact aG2 (z k m q hm h) hq
   .obtain rfl:k=m:=om
    exact hq
  .simp only[p6,simprocAttr,hq,r];refine nx5 (i,m) ⟨p,λk q y=>?_,tt⟩;simp only at y;rcases eH4 m k with h|h
   .cases hz:ltS l[k] x
    .rfl
    .have:=aG2 (z m k hm q h) hz;rw[hq]at this;cases this
   .obtain rfl:k=m:=om
    exact hq
 .rintro rfl;rcases eD2 (decide ((i:Int)<(l.length:Int)))with c|c
  .have B:i<l.length:=by simpa using c
   have g:=hv.inS B;have o:=ldS hv (n7 _) B;rcases eD2 (decide (l[i]=x))with hq|hq
   .have d:l.contains x=true:=eE6.2 (by rw[<-eD3 hq];exact eE1 B);simp only[p6,n9,A6,simprocAttr,r,e0,E,F,c,g,o,hq];apply Q0 results276;simp only[C9,simprocAttr];exact⟨i,by rw[d],tt⟩
   .have d:l.contains x=false:=by
     cases hz:l.contains x
     .rfl
     .obtain⟨k,q,e⟩:=eK1.1 (eE6.1 hz);rcases Nat.lt_trichotomy k i with h|h|h
      .have:=p k q h;rw[e,Q5]at this;cases this
      .subst h;exact fj e (eD6 hq)
      .have L:=z i k B q h;rw[e,t i B (eE8 _)]at L;cases L
    simp only[p6,n9,A6,simprocAttr,r,e0,E,F,c,g,o,hq];apply F6 (dm5 l[i] N);simp only[p6,simprocAttr];apply Q0 results276;simp only[C9,simprocAttr];exact⟨i,by rw[d],tt⟩
  .have d:l.contains x=false:=by
    cases hz:l.contains x
    .rfl
    .obtain⟨k,q,e⟩:=eK1.1 (eE6.1 hz);have:=p k q (by simp at c;omega);rw[e,Q5]at this;cases this
   simp only[eQ,simprocAttr,r,F,c];apply Q0 results276;simp only[C9,simprocAttr];exact⟨i,by rw[d],tt⟩
def aq8(v)(l:List B9)(x:B9)(w)(hv:R (n8 w) v l)(c:l.length<=1000000000)(d:l.Pairwise (λa b=>ltS a b=true)):
  p7 prog 214 #[v,A4 x] w λu e=>(u = .bool (l.contains x)/\e=w):=by
 apply y5 [v,A4 x] func214 rfl;simp only[eQ,simprocAttr];apply z6 (cG8 v l x w hv c d);rintro u f ⟨i,rfl,rfl⟩;simp only[p6,simprocAttr];exact o8 results214 ⟨rfl,rfl⟩
def ex8:ao4 prog 252=true:=kr
def B7.flatR{α:Type}[L6 α]{h k w T v}{xs:List α}(a:B7 h w T v xs)(hb:∀b,B0 v b->k b=w.heap[b]?):R k v xs:=
 (a.down (h:=λ_=>none) (λb o e=>nomatch e)).ro (λb o e=>nomatch e) hb
def as0{h w v}{l:List B9}(f:B7 h w 9 v l)(d:l.length<=1000000000):
  p7 prog 106 #[v] w λu a=>(B7 h a 9 v (ad0 l)/\t8 (B0 v) w a):=(dp0 f d).mono λe a ⟨b,c⟩=>⟨_,b,c⟩
def cI2(sv)(q:Pr)(n:B9)(a w)(hv:SV (n8 w) sv q)(h:∀c,o6 w c->(Instr.loadAt 9 (.pointer (some a))).run prog c = .ok (A4 n) c):
  p7 prog 252 #[sv,.pointer (some a)] w λu c=>(u = .bool (decide (q.name=n))/\o6 w c):=by
 apply y5 [sv,a] func252 rfl;obtain⟨b,e,g,d,f⟩:=bL5 hv (n7 _);obtain⟨_,_,_,_,_,_,_,_,i,_⟩:=f.pr;simp only[eQ,simprocAttr,g,i e (n7 _),h e d];exact o8 results252 ⟨rfl,d⟩
def cU0(v p)(n:B9)(w)(hv:SV (n8 w) v p)(hw:C1 p<=1000000):p7 prog 192 #[v,n] w λu g=>(u=(bb8 p n)/\o6 w g):=by
 apply y5 [v,n] func192 rfl;obtain⟨a,z,o,d,A⟩:=af3 (w:=w) (λ_=>False) hv (λ_ h=>h.elim);obtain⟨K,I,J,D,F,_⟩:=L8.pg hv A;obtain⟨G,_⟩:=L8.pg_v hv A;obtain⟨b,B,m,e,i⟩:=dV7 n z;have j:∀g,o6 z g->E6 (D9 z λ_=>False) (n8 g):=λg h=>A3 (B6 _ _) (b7 h);have t:=G B (j _ e);have E:p.procs.length<=1000000:=by
  have:=as3 p.procs;unfold C1 at hw;omega
 simp only[eQ,simprocAttr,o,m,t];refine B3 (au7 v p B (hv.mono (b7 (d.trans e))) hw) (λC l=>?_);have c:=e.trans l;rcases eD2 (decide ((U7 p).1=0))with hsc|hsc
 .simp only[eQ,simprocAttr,aE3,hsc,F C (j _ c)];refine B3 (bp6 (λf=>decide (f.name=n)) 252 #[b] I p.procs C ex8 (A9.mono (b7 (d.trans c)) D) om
   (λH x g r _ q=>cI2 H x n b g q λy k=>i y (l.trans (r.trans k)))) (λL s=>?_)
  simp only[p6,simprocAttr];apply o8 results192;simp only[C9,simprocAttr];exact⟨by rw[bb8,hsc,eJ4],d.trans (c.trans s)⟩
 .simp only[eQ,simprocAttr,aE3,hsc];apply o8 results192;exact⟨by rw[bb8,hsc];rfl,d.trans c⟩
def dg9(a p)(n:B9)(w)(hs:At (n8 w) a (i5 p))(hw:C1 p<=1000000)(hn:n∈p.procs.map (·.name)):
  p7 prog 253 #[a,n] w λu O=>(B7 (n8 w) O 9 u (at1 (i5 p) n)/\o6 w O):=by
 apply y5 [a,n] func253 rfl;obtain⟨i,Z,I,_⟩:=Y0 hn;obtain⟨x,V,_⟩:=ab2 p hw i Z;obtain⟨aa,G⟩:=bI1 p hw i Z;have af:(i5 p).p.procs.length<=1000000:=by
  rw[K0];have:=as3 p.procs;unfold C1 at hw;omega
 simp only[eQ,simprocAttr];refine B3 (ac5 a (i5 p) n w hs om) (λw1 L=>?_);rw[I];simp only[p6,simprocAttr];apply z6 (bw6 a (i5 p) i x _ w1 (hs.mono (b7 L)) V);rintro ul w2 ⟨d,W⟩;have o:=L.trans W;have Y:at1 (i5 p) n=L0 (ad0 ((((i5 p).of i).filter λit=>decide (it.s.kind=4)).map (·.s.proc))):=by rw[at1,I];rfl
 generalize(i5 p).of i=l at d G Y;simp only[eQ,simprocAttr,d.isS,d.vlen];refine B4 [12,13] (σ:=Nat×Value) (λs f O=>f 14=s.1/\f 5=s.2/\s.1<=l.length/\B7 (n8 w2) O 9 s.2 (((l.take s.1).filter λit=>decide (it.s.kind=4)).map (·.s.proc))/\o6 w2 O) (λs=>l.length-s.1) (0,()) ?_ ?_
 .exact⟨rfl,rfl,eE2 _,by simpa using B7.nil _ _ _,t8.refl _⟩
 rintro⟨k,u⟩ f w3 ⟨z,Q,_⟩ ⟨j,A,R,H,m⟩;simp only at j A R H;have E:((l.take k).filter λit=>decide (it.s.kind=4)).length<=k:=eD7 (eG0 _ _) (by rw[eE5];omega);simp only[eQ,simprocAttr,j,Q];refine A7 (λr=>?_) ?_;rotate_left
 .rintro rfl;rw[eE4]at H E;simp only[p6,simprocAttr,A];apply z6 (as0 H (by rw[eE3];omega));rintro _ w4 ⟨b,S⟩;simp only[p6,simprocAttr,A];apply z6 (bf1 b (by rw[Y4,eE3];omega));rintro u5 w5 ⟨U,T,_⟩;have M:=b.ext2 (H.ext2 m S) T;simp only[p6,simprocAttr];exact o8 results253 ⟨by rw[Y];exact U.back o,o.trans M⟩
 have F:=d.inS r;obtain⟨sv,K,q⟩:=G1 (P:=prog) (t:=156) d (b7 m) (eD1 r) ai4 ai5 ag5 M4;rw[M4]at q;have v:((l.take (k+1)).filter λit=>decide (it.s.kind=4)).map (·.s.proc)=((l.take k).filter λit=>decide (it.s.kind=4)).map (·.s.proc)++if l[k].s.kind=4 then[l[k].s.proc]else[]:=by
  rw[eD9 r,eJ8,eG8]
  congr 1
  by_cases h:l[k].s.kind=4<;>simp[h]
 generalize l[k]=it at K v;obtain⟨c,ao,w4,B,J,N,C⟩:=az4 (K.mono (b7 m)) (n7 _);obtain⟨D,_,_⟩:=C.it;obtain⟨_,_,_,_,_,_,_,_,_,X,_⟩:=D.st;have l4:=X w4 (n7 _);have b:=H.ext N;have g:=m.trans N;rcases eD2 (decide (it.s.kind=4))with hq|hq
 .obtain⟨p1,u',w5,p2,p3,p4,p5⟩:=push (e:=22) aF0 rfl b (x:=it.s.proc) (y:=it.s.proc) rfl (by rw[eE3];omega) (by rw[eE3];omega) (b7 g);simp only[p6,n9,A6,simprocAttr,j,A,z,F,q,B,J,l4,hq,p1,p2];refine nx4 (k+1,u') ⟨?_,b.ext2 g p4⟩;simp only[];rw[v,fi (eD3 hq)];exact p3
 .simp only[p6,n9,A6,simprocAttr,j,A,z,F,q,B,J,l4,hq];refine nx4 (k+1,u) ⟨?_,g⟩;simp only[];rw[v,fh (eD6 hq),eG5];exact b
def bP3(g:B9->List B9)(m i)(a:List B9)(h:a.length<=i):W4 g m i a=a:=by
 cases m with
 | zero=>rfl
 | succ m=>rw[W4,eL7 h]
def cd8(g:B9->List B9)(m i)(a:List B9)(h:i<a.length):W4 g (m+1) i a=W4 g m (i+1) (aa2 a (g a[i])):=by
 rw[W4,eD1 h]
def cL8{p}(hw:C1 p<=1000000){n:B9}(hn:n∈p.procs.map (·.name)):(at1 (i5 p) n).length<=400000:=by
 obtain⟨i,c,b,_⟩:=Y0 hn;obtain⟨_,a⟩:=bI1 p hw i c;unfold at1;rw[b];apply eD7 (aL8 _);rw[eE3];exact eD7 (eG0 _ _) a
def dM9(a p)(n:B9)(w)(hs:At (n8 w) a (i5 p))(hw:C1 p<=1000000)(K:Known p)(hn:n∈p.procs.map (·.name)):
  p7 prog 193 #[a,n] w λu O=>(B7 (n8 w) O 9 u (aO0 (i5 p) n)/\o6 w O):=by
 apply y5 [a,n] func193 rfl;have aD:p.procs.length<=1000000:=by
  have:=as3 p.procs;unfold C1 at hw;omega
 have hF:aO0 (i5 p) n=ad0 (W4 (at1 (i5 p)) (p.procs.length+1) 0 [n]):=by rw[aO0,K0]
 have hg:=λm (hm:m∈p.procs.map (·.name))=>dg9 (p:=p) (n:=m) (a:=a) (hw:=hw) (hn:=hm);have S:=λm x (hm:m∈p.procs.map (·.name)) hx=>aZ4 K (m:=m) (x:=x) hm hx;have T:=λm (hm:m∈p.procs.map (·.name))=>cL8 hw hm;have V:(p.procs.map (·.name)).length=p.procs.length:=eE3 _;generalize at1 (i5 p)=g at hF hg S T;generalize p.procs.map (·.name)=E at hn hg S T V;obtain⟨u1,w1,ae,aq,au,_⟩:=lit (P:=prog) (w:=w) (h:=n8 w) (α:=B9) (xs:=[n]) (ys:=[n]) (parts:=#[(0,n)]) (n:=1) aF0 rfl (aH7.2 rfl) (by simp[A4,Value.cells]) rfl rfl dG dG (n7 _);simp only[eQ,simprocAttr,ae];refine B4 [0] (σ:=Nat×Value×List B9) (λs f O=>f 6=s.1/\f 5=s.2.1/\s.1<=s.2.2.length/\B7 (n8 w) O 9 s.2.1 s.2.2/\s.2.2.Nodup/\(∀x∈s.2.2,x∈E)/\W4 g (p.procs.length+1) 0 [n]=W4 g (p.procs.length+1-s.1) s.1 s.2.2/\o6 w O) (λs=>p.procs.length+1-s.1) (0,u1,[n]) ?_ ?_
 .exact⟨rfl,rfl,eE2 _,aq,dG,by simpa using hn,dG,au⟩
 rintro⟨i,u,F⟩ f w2 ⟨e0,_⟩ ⟨h6,Y,an,G,U,z,j,L⟩;simp only at h6 Y an G U z j;have aC:F.length<=p.procs.length:=by rw[<-V];exact J5 U z
 simp only[eQ,simprocAttr,h6,Y,G.isS,G.vlen];refine A7 (λI=>?_) ?_;rotate_left
 .rintro rfl;rw[bP3 g _ _ _ (eE8 _)]at j;simp only[p6,simprocAttr,Y];apply z6 (as0 G om);rintro _ w4 ⟨r,q⟩;simp only[p6,simprocAttr,Y];exact o8 results193 ⟨by rw[hF,j];exact r,G.ext2 L q⟩
 have ao:=G.inS I;have ad:=ldS (G.rw_ (b7 L)) (n7 _) I;have J:=z _ (eE1 I);rw[show p.procs.length+1-i=(p.procs.length-i)+1 by omega,cd8 g _ _ _ I]at j;generalize F[i]=m at ad J j;simp only[p6,n9,A6,simprocAttr,h6,Y,e0,ao,ad];apply z6 (hg m J w2 (hs.mono (b7 L)));rintro uc w3 ⟨W,X⟩;have C:R (D9 w3 (B0 u)) uc (g m):=W.flatR λb H=>E9 λQ=>by
  have h1:=G.lt Q;have h2:=D4 (W.free H);omega
 have ag:=L.trans X;have ar:=G.ext X;have ab:=T m J;have aa:=λx=>S m x J;generalize g m=Z at W C ab j aa;simp only[eQ,simprocAttr,C.isS,C.vlen];refine B4 [0,6,22,23] (σ:=Nat×Value×List B9) (λs f O=>f 24=s.1/\f 5=s.2.1/\s.1<=Z.length/\B7 (n8 w) O 9 s.2.1 s.2.2/\s.2.2.Nodup/\(∀x∈s.2.2,x∈E)/\aa2 F Z=aa2 s.2.2 (Z.drop s.1)/\F.length<=s.2.2.length/\t8 (B0 u) w3 O/\F4 w3 u s.2.1) (λs=>Z.length-s.1) (0,u,F) ?_ ?_
 .exact⟨rfl,Y,eE2 _,G.ext X,U,z,by rw[eM9],eE8 _,t8.refl _,λb H=>.inl H⟩
 rintro⟨k,u4,o⟩ f4 w4 ⟨g0,g6,ak,al,_⟩ ⟨A,B,ap,r,l,d,c,af,q,v⟩;simp only at A B ap r l d c af v;have D:=ar.ext2 ag q;have ay:o.length<=p.procs.length:=by rw[<-V];exact J5 l d
 simp only[eQ,simprocAttr,A,al];refine A7 (λt=>?_) ?_;rotate_left
 .rintro rfl;rw[eN6,aa2]at c;rw[c]at j;simp only[eQ,simprocAttr,g6,h6];refine nx2 (i+1,u4,o) ⟨B,so,r,l,d,?_,D⟩;simp only[];rw[j]
  congr 1
  omega
 have ac:=C.inS t;have N:=ldS C (F5 q) t;rw[eI2 t,aa2]at c;have M:=aa _ (eE1 t);generalize Z[k]=y at N c M;simp only[p6,n9,A6,simprocAttr,A,B,ak,ac,N];apply F6 (X0 u4 o y w4 (r.rw_ (b7 D)) om);rcases eD2 (o.contains y)with hq|hq
 .rw[fi hq]at c;simp only[eQ,simprocAttr,hq,A];refine nx2 (k+1,u4,o) ⟨B,so,r,l,d,c,af,q,v⟩
 .obtain⟨p1,u5,w5,p2,p3,p4,p5⟩:=push (e:=22) aF0 rfl r (x:=y) (y:=y) rfl om om (b7 D);rw[fh (by rw[hq];simp)]at c;simp only[eQ,simprocAttr,hq,A,B,p1,p2];refine nx4 (k+1,u5,o++[y]) ⟨p3,?_,?_,c,by simp only[eD4];omega,q.chain p4 λb H Q=>?_,λb H=>?_⟩
  .rw[eI6];refine⟨l,dG,λa ha b H=>?_⟩;simp only[eE7]at H;subst H;rintro rfl;rw[eE6.2 ha]at hq;cases hq
  .intro x hx;simp only at hx;rcases eE0.1 hx with h|h
   .exact d x h
   .simp only[eE7]at h;subst h;exact M
  .rcases v b Q with h|h
   .exact h
   .omega
  .rcases p5 b H with h|h
   .exact v b h
   .exact .inr (eD7 q.size h)
def U3{α β:Type}(f:α->List β)(B):∀(l:List α),(∀x∈l,(f x).length<=B)->(l.flatMap f).length<=l.length*B
 | [],_=>dG
 | x::l,h=>by
  have b:=U3 f B l λy a=>h y (by simp[a]);have c:=h x dG;rw[eN2,eD4,eG6,Nat.succ_mul];omega
def cZ3{α β:Type}(f:α->List β)(l:List α)(k):((l.take k).flatMap f).length<=(l.flatMap f).length:=by
 conv=>rhs;rw[<-eH8 k l,eN5,eD4]
 omega
def bD5(g:St->Nat)(l:List It):Nat:=(l.map λit=>g it.s).sum
def cI1(g:St->Nat)(l m:List It):bD5 g (l++m)=bD5 g l+bD5 g m:=by simp[bD5]
def ck2(g:St->Nat)(x:It)(m:List It):bD5 g (x::m)=g x.s+bD5 g m:=by simp[bD5]
mutual
def dT1(g:St->Nat)(d:∀t:St,g t+M5 t.thn+M5 t.els<=Z6 t):∀(t:St) (k:Nat) (c i h f:Int),bD5 g (ac1 t k c i h f)<=Z6 t
 | .mk id kind labels name proc x has args thn els,k,c,i,h,f=>by
  rw[U2,ck2,cI1];have j:=λe b a=>bx5 g d els e c (k+1) b a;have l:=λe b a=>bx5 g d thn e c (k+1) b a;have m:=d (.mk id kind labels name proc x has args thn els);simp only[St.thn,St.els]at m ⊢;apply eD7 (Nat.add_le_add_left (Nat.add_le_add (l _ _ _) (j _ _ _)) _);omega
def bx5(g:St->Nat)(a:∀t:St,g t+M5 t.thn+M5 t.els<=Z6 t):∀(l:List St) (k:Nat) (d e c b:Int),bD5 g (E5 l k d e c b)<=M5 l
 | [],_,_,_,_,_=>by simp[E5,bD5]
 | t::l,k,d,e,c,b=>by
  rw[E5,cI1,M5];exact Nat.add_le_add (dT1 g a t _ _ _ _ _) (bx5 g a l _ _ _ _ _)
end
def dR5(g:St->Nat)(c:∀t:St,g t+M5 t.thn+M5 t.els<=Z6 t)(p)(hw:C1 p<=1000000)(i)(a:i<p.procs.length):bD5 g ((i5 p).of i)<=1000000:=by
 obtain⟨x,_,e⟩:=ab2 p hw i a;have d:=bx5 g c p.procs[i].body x i 0 (-1) 0;have b:=aJ6 p hw _ (eE1 a);unfold ah4 at b;rw[e];omega
def cI0(t:St):(N0 t).length+M5 t.thn+M5 t.els<=Z6 t:=by
 rw[aa0];have a:=aj7 t.x;have b:=U9 t.args;have c:1<=wtT t.name:=by simp[wtT]
 have d:(if t.kind≠10/\t.name≠e0 then[t.name]else[]).length<=1:=by split<;>simp
 unfold N0;rw[eD4,eD4];omega
def bG9(f:It->List B9)(g:St->Nat)(h:∀it,(f it).length<=g it.s):∀l:List It,(l.flatMap f).length<=bD5 g l
 | []=>by simp[bD5]
 | x::l=>by
  have:=bG9 f g h l;have:=h x;rw[eN2,eD4,ck2];omega
def aS4{g:B9->List B9}{names:List B9}(b:∀m∈names,∀x∈g m,x∈names):∀(m i:Nat) (a:List B9),a.Nodup->(∀x∈a,x∈names)->(W4 g m i a).Nodup/\∀x∈W4 g m i a,x∈names
 | 0,i,a,h1,h2=>⟨h1,h2⟩
 | m+1,i,a,h1,h2=>by
  rw[W4];split
  .exact⟨h1,h2⟩
  .next n c=>
   refine aS4 b m (i+1) _ (aR5 _ _ h1) λx d=>?_;rcases(aH1 _ _ _).1 d with h|h
   .exact h2 x h
   .exact b n (h2 n (eF7 c)) x h
def dt1{p}(K:Known p){n:B9}(hn:n∈p.procs.map (·.name)):(aO0 (i5 p) n).length<=p.procs.length/\∀x∈aO0 (i5 p) n,x∈p.procs.map (·.name):=by
 obtain⟨d,b⟩:=aS4 (g:=at1 (i5 p)) (names:=p.procs.map (·.name)) (λm hm x a=>aZ4 K hm a) ((i5 p).p.procs.length+1) 0 [n] dG (by simpa using hn);have c:=J5 d b;rw[eE3]at c;unfold aO0;exact⟨by rw[Y4];exact c,λx a=>b x ((Z3 _).mem_iff.1 a)⟩
def cr2{p}(K:Known p):p.procs.length<=16/\p.globals.length<=16:=by
 have:=K.may;simp only[O1,eF1,eH1]at this;exact⟨this.1.1.2,this.1.1.1⟩
def aQ1(h a)(s:Sh)(i x y w)(v:At h a s)(t:E6 h (n8 w))(b:ca3 s i x y):p7 prog 124 #[a,i] w λu c=>(R h u (s.of i)/\o6 w c):=by
 apply y5 [a,i] func124 rfl;obtain⟨C,l,k,j,g,e,r,E,B⟩:=v.sh;have d:∀c,o6 w.drew c->E6 h (n8 c):=λc h=>A3 t (b7 ((o6.drew w).trans h));have z:J4 prog (λc=>o6 w.drew c) 3 (I2 l i) (.int .i64 ((x:Int)+1)):=sdx λc h=>ldI g (d c h) b.lo;have A:J4 prog (λc=>o6 w.drew c) 3 (I2 k i) (.int .i64 ((y:Int)+1)):=sdx λc h=>ldI e (d c h) b.hi;have E6:=b.le;have f:=b.len;have m:=b.fit;have p:IntKind.i64.wrap ((x:Int)+1-1)=(x:Int):=by rw[N7 _ om];omega
 have q:IntKind.i64.wrap ((y:Int)+1-1)=(y:Int):=by rw[N7 _ om];omega
 have D:=j.vcap;have n:decide ((x:Int)<=(y:Int))=true:=by simp;omega
 have o:decide ((y:Int)<=(vcap C:Int))=true:=by simp;omega
 simp only[eQ,simprocAttr];refine C4 (o6 w.drew) 22 (A8 [0,1,2,3,4,5,6,7,8,9,10,11,12,13,14,15,16,17,18,19,20,21]) ?_;simp only[D7,A8,p6,n9,A6,G7,simprocAttr,B (o6 w.drew) w.drew (t8.refl _) d,g.inS (eD8.1 b.lo).1,e.inS (eD8.1 b.hi).1,z,A,p,q,j.isS,n,o];refine o8 results124 ⟨?_,o6.drew w⟩;rw[b.of_];exact cw0 j E6 f
def cv3(v p)(n:B9)(w)(hv:SV (n8 w) v p)(hw:C1 p<=1000000):p7 prog 130 #[v,n] w λu G=>(B7 (n8 w) G 9 u (W7 p n)/\o6 w G):=by
 apply y5 [v,n] func130 rfl;obtain⟨a,w1,bb,L,ha⟩:=af3 (w:=w) (λ_=>False) hv (λ_ h=>h.elim);obtain⟨vg,vp,hg,hp,ld,_⟩:=L8.pg hv ha;obtain⟨lw,_⟩:=L8.pg_v hv ha;have av:∀G,o6 w1 G->E6 (D9 w1 λ_=>False) (n8 G):=λG h=>A3 (B6 _ _) (b7 h);simp only[eQ,simprocAttr,bb,lw w1 (av _ (t8.refl _))];refine B3 (cU0 v p n w1 (hv.mono (b7 L)) hw) (λw2 ag=>?_);rcases eD2 (bb8 p n)with hkn|hkn;rotate_left
 .simp only[eQ,simprocAttr,hkn];exact o8 results130 ⟨by rw[W7,fh (by rw[hkn];simp)];exact B7.nil _ _ _,L.trans ag⟩
 have hF:W7 p n=L0 (ad0 ((aO0 (i5 p) n).flatMap λm=>((i5 p).of ((i5 p).pr m)).flatMap λit=>(N0 it.s).filter λv=>p.globals.contains v)):=by rw[W7,fi hkn];rfl
 have N:=hkn;rw[bb8,eF1]at N;have K:=bT1 (eD3 N.1);have hn:n∈p.procs.map (·.name):=by
  obtain⟨q,X,e⟩:=eP6.1 N.2;exact eF2.2 ⟨q,X,eD3 e⟩
 simp only[eQ,simprocAttr,hkn,lw w2 (av _ ag)];apply z6 (az7 v p w2 (hv.mono (b7 (L.trans ag))) hw);rintro us w3 ⟨sh,rfl,hsh,hx3⟩;simp only[p6,simprocAttr];apply z6 (dM9 sh p n w3 hsh hw K hn);rintro ul w5 ⟨bl,W⟩;have U:=bl.rw_ (b7 W);have J:=(ag.trans hx3).trans W;obtain⟨bf,Q⟩:=dt1 K hn;obtain⟨bA,bx⟩:=cr2 K;have bm:=K0 p;have bp:=ah2 p hw;generalize aO0 (i5 p) n=l1 at U bf Q hF;have hA:∀m∈p.procs.map (·.name),(((i5 p).of ((i5 p).pr m)).flatMap λit=>(N0 it.s).filter λv=>p.globals.contains v).length<=1000000:=λm hm=>by
  obtain⟨i,hi,af,_⟩:=Y0 hm;rw[af];apply eD7 (bG9 _ (λt=>(N0 t).length) (λit=>eG0 _ _) _);exact dR5 _ cI0 p hw i hi
 have a8:=U.isS;have bi:=U.vlen;generalize aE:(λm=>((i5 p).of ((i5 p).pr m)).flatMap λit=>(N0 it.s).filter λv=>p.globals.contains v)=A at hF;have aD:∀m∈p.procs.map (·.name),(A m).length<=1000000:=λm hm=>by rw[<-aE];exact hA m hm
 have aO:(l1.flatMap A).length<=16000000:=by
  apply eD7 (U3 A 1000000 l1 λx hx=>aD x (Q x hx));omega
 simp only[eQ,simprocAttr,a8,bi];refine B4 [2,5,21,22] (σ:=Nat×Value) (λs f G=>f 23=s.1/\f 6=s.2/\s.1<=l1.length/\B7 (n8 w5) G 9 s.2 ((l1.take s.1).flatMap A)/\o6 w5 G) (λs=>l1.length-s.1) (0,()) ?_ ?_
 .exact⟨rfl,rfl,eE2 _,by simpa using B7.nil _ _ _,t8.refl _⟩
 rintro⟨i,u⟩ f w6 ⟨e2,e5,aZ,a0,_⟩ ⟨Z,h6,bc,ho,ah⟩;simp only at Z h6 bc ho;have aM:=eD7 (cZ3 A l1 i) aO;simp only[eQ,simprocAttr,Z,a0];refine A7 (λac=>?_) ?_;rotate_left
 .rintro rfl;rw[eE4]at ho;simp only[p6,simprocAttr,h6];apply z6 (as0 ho om);rintro _ w7 ⟨aK,bg⟩;simp only[p6,simprocAttr,h6];apply z6 (bf1 aK (by rw[Y4];omega));rintro u8 w8 ⟨ad,bh,_⟩;have aP:=L.trans (J.trans (aK.ext2 (ho.ext2 ah bg) bh));simp only[p6,simprocAttr];exact o8 results130 ⟨by rw[hF];exact ad.back (L.trans J),aP⟩
 have D:=U.inS ac;have d:=ldS U (b7 ah) ac;have ay:=M1 A l1 ac;have aw:=Q _ (eE1 ac);have aF:=aD _ aw;generalize l1[i]=m at d ay aw aF;obtain⟨q,X,af,_⟩:=Y0 aw;obtain⟨x,bk,_⟩:=ab2 p hw q X;obtain⟨am,aI⟩:=bI1 p hw q X;have aq:o6 w3 w6:=W.trans ah;simp only[p6,n9,A6,simprocAttr,Z,e5,aZ,D,d];refine B3 (ac5 sh (i5 p) m w6 (hsh.mono (b7 aq)) (by rw[bm];omega)) (λw7 aA=>?_);rw[af];simp only[p6,simprocAttr];apply z6 (aQ1 (n8 w3) sh (i5 p) q x _ w7 hsh (b7 (aq.trans aA)) bk);rintro ui w8 ⟨T,aR⟩;have ab:A m=((i5 p).of q).flatMap λit=>(N0 it.s).filter λv=>p.globals.contains v:=by
  rw[<-aE];simp only[af]
 generalize(i5 p).of q=l at T am aI ab;have a9:=T.isS;have bj:=T.vlen;have ad:=ho.ext (aA.trans aR);have aQ:=ah.trans (aA.trans aR);generalize a4:(λit:It=>(N0 it.s).filter λv=>p.globals.contains v)=B at ab;have a5:(l.flatMap B).length<=1000000:=by rw[<-ab];exact aF
 generalize(l1.take i).flatMap A=pre at ad aM ay;simp only[eQ,simprocAttr,a9,bj];refine B4 [2,5,21,22,23,31,32] (σ:=Nat×Value) (λs f G=>f 33=s.1/\f 6=s.2/\s.1<=l.length/\B7 (n8 w5) G 9 s.2 (pre++(l.take s.1).flatMap B)/\o6 w5 G) (λs=>l.length-s.1) (0,u) ?_ ?_
 .exact⟨rfl,h6,eE2 _,by simpa using ad,aQ⟩
 rintro⟨j,u9⟩ f9 w9 ⟨g2,g5,bJ,bK,a1,a2,a3,_⟩ ⟨aa,ar,bd,ae,aj⟩;simp only at aa ar bd ae;have ax:=eD7 (cZ3 B l j) a5;simp only[eQ,simprocAttr,aa,a3];refine A7 (λI=>?_) ?_;rotate_left
 .rintro rfl;rw[eE4,<-ab]at ae;simp only[eQ,simprocAttr,a1,Z];refine nx2 (i+1,u9) ⟨ar,om,?_,aj⟩;simp only[];rw[ay];exact ae
 clear D d;have D:=T.inS I;obtain⟨sv,aN,d⟩:=G1 (P:=prog) (t:=156) T (b7 (W.trans aj)) (eD1 I) ai4 ai5 ag5 M4;rw[M4]at d;have S:=M1 B l I;have V:=bp _ (am _ (eE1 I));generalize l[j]=it at aN S V;obtain⟨c,b6,aU,ba,bn,ao,aG⟩:=az4 (aN.mono (b7 (W.trans aj))) (n7 _);obtain⟨aH,_,_⟩:=aG.it;obtain⟨vt,bo,bq,_⟩:=aH.st_v;have al:B it=(N0 it.s).filter λv=>p.globals.contains v:=by rw[<-a4]
 simp only[p6,n9,A6,simprocAttr,aa,a2,D,d,ba,bn,bq aU (n7 _)];apply z6 (bd5 vt it.s aU bo V);rintro uN aB ⟨aL,ap⟩;have an:=ae.ext ao;have C:R (D9 aB (B0 u9)) uN (N0 it.s):=aL.flatR λb hb=>E9 λau=>by
  have h1:=an.lt au;have h2:=D4 (aL.free hb);omega
 have O:=an.ext ap;have az:=aj.trans (ao.trans ap);have a7:=eD7 (bd6 it.s) V;generalize N0 it.s=Y at C al a7;generalize(l.take j).flatMap B=pre2 at O ax S;simp only[eQ,simprocAttr,C.isS,C.vlen];refine B4 [2,5,21,22,23,31,32,33,39,40] (σ:=Nat×Value) (λs f G=>f 41=s.1/\f 6=s.2/\s.1<=Y.length/\B7 (n8 w5) G 9 s.2 (pre++pre2++(Y.take s.1).filter λv=>p.globals.contains v)/\t8 (B0 u9) aB G/\F4 aB u9 s.2) (λs=>Y.length-s.1) (0,u9) ?_ ?_
 .exact⟨rfl,ar,eE2 _,by simpa using O,t8.refl _,λb hb=>.inl hb⟩
 rintro⟨k,aS⟩ bH aV ⟨q2,q5,bW,bX,bY,bZ,b0,br,bs,bt,_⟩ ⟨M,H,be,z,r,g⟩;simp only at M H be z g;have o:=O.ext2 az r;have bw:((Y.take k).filter λv=>p.globals.contains v).length<=k:=eD7 (eG0 _ _) (by rw[eE5];omega);simp only[eQ,simprocAttr,M,bt];refine A7 (λE=>?_) ?_;rotate_left
 .rintro rfl;rw[eE4,<-al]at z;simp only[eQ,simprocAttr,br,aa];refine nx2 (j+1,aS) ⟨H,om,?_,o⟩;simp only[];rw[S,<-eG4];exact z
 clear D d;have D:=C.inS E;have d:=ldS C (F5 r) E;have F:((Y.take (k+1)).filter λv=>p.globals.contains v)=((Y.take k).filter λv=>p.globals.contains v)++if p.globals.contains Y[k]then[Y[k]]else[]:=by
  rw[eD9 E,eJ8]
  congr 1
  by_cases h:p.globals.contains Y[k]=true<;>simp[filter_cons]
 generalize Y[k]=y at d F;simp only[p6,n9,A6,simprocAttr,M,q2,g2,e2,bs,D,d,ld aV (av _ (J.trans o))];apply F6 (X0 vg p.globals y aV (A9.mono (b7 (L.trans (J.trans o))) hg) om);rcases eD2 (p.globals.contains y)with X|X
 .obtain⟨p1,bu,b4,p2,p3,p4,p5⟩:=push (e:=22) aF0 rfl z (x:=y) (y:=y) rfl (by simp only[eD4];omega) (by simp only[eD4];omega) (b7 o);simp only[eQ,simprocAttr,X,M,H,p1,p2];refine nx4 (k+1,bu) ⟨?_,r.chain p4 λb hb au=>?_,λb hb=>?_⟩
  .simp only[];rw[F,fi X,<-eG4];exact p3
  .rcases g b au with h|h
   .exact h
   .omega
  .rcases p5 b hb with h|h
   .exact g b h
   .exact .inr (eD7 r.size h)
 .simp only[eQ,simprocAttr,X,M];refine nx2 (k+1,aS) ⟨H,om,?_,r,g⟩;simp only[];rw[F,fh (by rw[X];simp),eG5];exact z
def eM6:=@Decidable.byContradiction
def da5:prog.underlying 188=some (.map 9 22):=kr
def dd0:prog.underlying 9=some .string:=kr
def cS7(vt vl)(t:St)(l:List B9)(w)(ht:SV (n8 w) vt t)(hl:R (n8 w) vl l)(Q:Z6 t<=1000000)(ac:l.length<=1000000000):
  p7 prog 131 #[vt,vl] w λu H=>(u=(au8 t l)/\o6 w H):=by
 apply y5 [vt,vl] func131 rfl;obtain⟨b,U,M,j,K⟩:=ay8 ht (n7 _);obtain⟨_,al,_,_,_,g,_,_,_,D,_⟩:=K.st;have T:=D U (n7 _);have Z:=g.isS;have hn:=g.vlen;rw[aa0]at Q;have aa:=ay2 t.args;have G:au8 t l=au9 t.name l [] t.args:=rfl;simp only[eQ,simprocAttr,M,T,Z,hn];refine B4 [1,2,9,10] (σ:=Nat×Value×List B9) (λs f H=>f 11=s.1/\f 5=s.2.1/\s.1<=t.args.length/\B7 (n8 U) H 9 s.2.1 s.2.2/\au9 t.name l [] t.args=au9 t.name l s.2.2 (t.args.drop s.1)/\s.2.2.length<=s.1/\o6 U H) (λs=>t.args.length-s.1) (0,(),[]) ?_ ?_
 .exact⟨rfl,rfl,eE2 _,B7.nil _ _ _,by rw[eM9],eE8 _,t8.refl _⟩
 rintro⟨k,u,h⟩ f w2 ⟨Y,V,W,J,_⟩ ⟨i,F,N,X,d,O,n⟩;simp only at i F N X d O;simp only[eQ,simprocAttr,i,J];refine A7 (λq=>?_) ?_;rotate_left
 .rintro rfl;rw[eN6,au9]at d;simp only[p6,simprocAttr];apply o8 results131;simp only[C9,simprocAttr];exact⟨by rw[G,d],j.trans n⟩
 have r:=g.inS q;obtain⟨sv,A,p⟩:=G1 (P:=prog) (t:=125) g (b7 n) (eD1 q) aM8 aM9 aK0 aa3;rw[aa3]at p;rw[eI2 q,au9]at d;generalize t.args[k]=y at A d;obtain⟨c,wz,I,o,z,B,L⟩:=bi1 (A.mono (b7 n)) (n7 _);obtain⟨_,S,_⟩:=L.ar;have C:=S I (n7 _);have a:=n.trans B;have m:=X.ext B;have E:=D I (b7 a);rcases eD2 y.ref with v|v;rotate_left
 .rw[fh (by rw[v];simp)]at d;simp only[p6,n9,A6,simprocAttr,i,W,r,p,o,z,C,v];exact nx2 (k+1,u,h) ⟨F,so,m,d,so,a⟩
 rw[fi v]at d;simp only[p6,n9,A6,simprocAttr,i,F,W,r,p,o,z,C,v];apply F6 (X0 u h y.name I (m.rw_ (b7 a)) om);rcases eD2 (h.contains y.name)with q1|q1
 .simp only[p6,simprocAttr,q1];apply o8 results131;exact⟨by rw[G,d,q1];rfl,j.trans a⟩
 rcases eD2 (decide (y.name=t.name))with q2|q2
 .simp only[eQ,simprocAttr,q1,q2,V,C,E];apply o8 results131;exact⟨by rw[G,d,q1,q2];rfl,j.trans a⟩
 simp only[eQ,simprocAttr,q1,q2,Y,V,C,E];apply F6 (X0 vl l y.name I (A9.mono (b7 (j.trans a)) hl) om);rcases eD2 (l.contains y.name)with q3|q3
 .simp only[p6,simprocAttr,q3];apply o8 results131;exact⟨by rw[G,d,q1,q2,q3];rfl,j.trans a⟩
 rw[q1,q2,q3]at d;obtain⟨p1,u',w4,p2,p3,p4,p5⟩:=push (e:=22) aF0 rfl m (x:=y.name) (y:=y.name) rfl om om (b7 a);simp only[eQ,simprocAttr,q3,i,F,C,p1,p2];exact nx4 (k+1,u',h++[y.name]) ⟨p3,d,by simp only[eD4,eG3];omega,m.ext2 a p4⟩
def bD0:∀(l:List Pr) (s:Sh) (i:Nat) (it:It),it∈(K8 s i l).l->it∈s.l\/∃(k:Nat) (a:k<l.length),∃x,it∈E5 l[k].body x (i+k:Nat) 0 (-1) 0
 | [],s,i,it,h=>.inl h
 | f::l,s,i,it,h=>by
  rw[K8]at h;rcases bD0 l _ _ it h with h|⟨k,a,x,h⟩
  .simp only[I8]at h;rcases eE0.1 h with h|h
   .exact .inl h
   .exact .inr ⟨0,dG,s.l.length,by simpa using h⟩
  .exact .inr ⟨k+1,by simpa using a,x,by rw[show i+(k+1)=i+1+k by omega];simpa using h⟩
mutual
def cz8:∀(t:St) (k e:Nat) (h i g f c d b a:Int),(ac1 t k h i g f).map (·.s)=(ac1 t e c d b a).map (·.s)
 | .mk id kind labels name proc x has args thn els,k,e,h,i,g,f,c,d,b,a=>by
  rw[U2,U2];simp only[eI4,eG8]
  congr 2
  .exact au0 _ _ _ _ _ _ _ _ _ _ _
  .exact au0 _ _ _ _ _ _ _ _ _ _ _
def au0:∀(l:List St) (k e:Nat) (h i g f c d b a:Int),(E5 l k h i g f).map (·.s)=(E5 l e c d b a).map (·.s)
 | [],_,_,_,_,_,_,_,_,_,_=>by simp[E5]
 | t::l,k,e,h,i,g,f,c,d,b,a=>by
  rw[E5,E5];simp only[eG8]
  congr 1
  .exact cz8 _ _ _ _ _ _ _ _ _ _ _
  .exact au0 _ _ _ _ _ _ _ _ _ _ _
end
def aS2{p}(K:Known p)(hw:C1 p<=1000000){it:It}(b:it∈(i5 p).l)(i:it.s.kind=4):it.s.proc∈p.procs.map (·.name):=by
 rcases bD0 _ _ _ it b with h|⟨k,d,x,h⟩
 .cases h
 .obtain⟨j,_,e⟩:=ab2 p hw k d;have f:it.s∈(E5 p.procs[k].body x (0+k:Nat) 0 (-1) 0).map (·.s):=eF2.2 ⟨it,h,rfl⟩;rw[au0 _ _ j _ _ _ _ k 0 (-1) 0,<-e]at f;obtain⟨c,a,g⟩:=eF2.1 f;have:=(K.proc k d).2.2 c a;rw[g]at this;unfold am9 at this;rw[eG9 i]at this;simp only[Bool.not_true,eO3,eF1]at this;exact eE6.1 this.2.2
def cU1{p}(K:Known p)(n:B9):(W7 p n).length<=1000000000:=by
 unfold W7;split
 .next h=>
  have d:=J5 (l:=G0 ((aO0 (i5 p) n).flatMap λm=>((i5 p).of ((i5 p).pr m)).flatMap λit=>(N0 it.s).filter λv=>p.globals.contains v)) (m:=p.globals) ?_ ?_
  .have:=(cr2 K).2;exact eD7 d om
  .exact(ab4 _).imp fun{a b} hab=>by rintro rfl;rw[Q5]at hab;cases hab
  .intro x c;rw[M6]at c;obtain⟨m,_,c⟩:=eG1.1 c;obtain⟨it,_,c⟩:=eG1.1 c;exact eE6.1 (eF6.1 c).2
 .simp
def cw6{p}(h:(am4 p).1=0):(U7 p).1=0:=by
 unfold am4 at h;split at h
 .simp at h
 .next a=>exact eM6 a
def bO2(v p w)(hv:SV (n8 w) v p)(hw:C1 p<=1000000):p7 prog 81 #[v] w λu g=>(u=af5 (aY9 p)/\o6 w g):=by
 apply y5 [v] func81 rfl;obtain⟨a,w1,a6,aU,ha⟩:=af3 (w:=w) (λ_=>False) hv (λ_ h=>h.elim);obtain⟨vg,vp,hg,hp,ld,_⟩:=L8.pg hv ha;obtain⟨lw,bl⟩:=L8.pg_v hv ha;obtain⟨rb,w2,a4,an,be,aF⟩:=aO1 w1;have a8:w.heap.size<=rb:=eD7 aU.size aF;have k:=aU.trans an;have U:∀g,o6 w2 g->E6 (D9 w1 λ_=>False) (n8 g):=λg h=>A3 (B6 _ _) (b7 (an.trans h));have H:=λ(g:World) (h:o6 w2 g)=>aF9 be h a8 k;simp only[eQ,simprocAttr,a6,a4,lw w2 (U _ (t8.refl _))];refine B3 (aZ2 v p w2 (hv.mono (b7 k)) hw) (λw3 M=>?_);rcases eD2 (decide ((am4 p).1=0))with hsc|hsc;rotate_left
 .obtain⟨w9,s1,s2,s3⟩:=H w3 M (1,0);simp only[eQ,simprocAttr,aE3,hsc,aa4,s1];apply R4 results81 (by simp only[C9,simprocAttr]) s2;exact⟨by rw[aY9,fi (eD6 hsc)],s3⟩
 have K:=bT1 (cw6 (eD3 hsc));obtain⟨bs,br⟩:=cr2 K;have hF:aY9 p=match(i5 p).l.find? λit=>decide (it.s.kind=4) && !au8 it.s (W7 p it.s.proc)with
  | some it=>(8,it.s.id)
  | none=>(0,0):=by rw[aY9,fh (by simpa using hsc)]<;>rfl
 obtain⟨aj,ag,aV⟩:=bi6.new (P:=prog) w3 188;have J:=M.trans aV;have l4:=ld _ (U _ J);have hS:=hp.isS;have hn:=hp.vlen;have bc:w1.heap.size<=w3.heap.size:=(an.trans M).size;have bd:w2.heap.size<=w3.heap.size:=M.size;have bb:w.heap.size<=w3.heap.size:=(k.trans M).size;generalize bL:w3.alloc (.map #[] 0)=w4 at aj ag aV J l4;generalize w3.heap.size=r at aj ag bc bd bb;simp only[eQ,simprocAttr,aE3,hsc,aJ0,aj,l4,hS,hn];refine B4 [1,2,3,15,16] (σ:=Nat×List (B9×Value)) (λs f g=>f 17=s.1/\s.1<=p.procs.length/\bi6 g r s.2/\(∀j (D:j<p.procs.length),j<s.1->∃u,T9 s.2 p.procs[j].name=some u/\R (D9 g λb=>b=r) u (W7 p p.procs[j].name))/\o6 w2 g) (λs=>p.procs.length-s.1) (0,[]) ?_ ?_
 .exact⟨rfl,eE2 _,ag,λj _ h=>om,J⟩
 rintro⟨i,kv⟩ f w5 ⟨e1,e2,e3,a1,a2,_⟩ ⟨Q,a9,G,af,O⟩;simp only at Q a9 G af;simp only[eQ,simprocAttr,Q,a2];refine B2 (λhc=>?_) (λhc=>?_)
 .have n:i<p.procs.length:=by simpa using hc
  have T:=hp.inS n;obtain⟨sv,I,F⟩:=G1 (P:=prog) (t:=68) hp (b7 (k.trans O)) (eD1 n) as1 as2 ao1 N6;rw[N6]at F;have aK:∀j (D:j<p.procs.length),j<i->p.procs[j].name≠p.procs[i].name:=λj D ae e=>by
   have h3:=eK4.1 K.names;exact h3 j i (by simpa using D) (by simpa using n) ae (by simpa using e)
  generalize hy:p.procs[i]=y at I aK;obtain⟨c,wz,x,aB,aO,E,a5⟩:=aM3 (w:=w5) (λb=>b=r) I (λb B=>by subst B;exact G.lt);obtain⟨_,_,_,_,_,_,_,_,_,sdq⟩:=L8.pr I a5;have aJ:=(G.mod E id).mod (o6.drew x) id;have A:o6 w2 x.drew:=O.trans (E.trans (o6.drew x));have aQ:∀g,t8 (λb=>b=r) x.drew g->E6 (D9 x λb=>b=r) (n8 g):=λg h=>F5 (t8.chain (t8.up (o6.drew x)) h λ_ _ B=>B);have aP:∀g,t8 (λb=>b=r) x.drew g->E6 (D9 w1 λ_=>False) (n8 g):=λg h=>G8 (U _ A) h λb B=>by
   subst B;by_cases hq:D9 w1 (λ_=>False) b=none
   .exact hq
   .exfalso
    have:n8 w1 b≠none:=λe=>hq (by rw[E9 (λh=>h)];exact e);have:=Nat.lt_of_not_le λh=>this (aE5 h);omega
  have s1:=sdq (t8 (λb=>b=r) x.drew) x.drew (t8.refl _) aQ;have s2:=bl (t8 (λb=>b=r) x.drew) x.drew (t8.refl _) aP;simp only[p6,n9,A6,simprocAttr,Q,a1,T,F,aB,aO];refine C4 (t8 (λb=>b=r) x.drew) 8 (A8 [0,1,2,3,4,5,6,7]) ?_;simp only[D7,A8,p6,n9,simprocAttr,e1,e3,s1,s2];apply z6 (cv3 v p y.name x.drew (hv.mono (b7 (k.trans A))) hw);rintro u w7 ⟨al,d⟩;obtain⟨w8,bg,ah,o⟩:=(aJ.mod d id).update (P:=prog) da5 dd0 y.name u;refine⟨t8.up d,?_⟩;simp only[ff,simprocAttr,cq6,bg,F2];refine⟨(t8.up d).chain o λ_ _ B=>B,?_⟩;simp only[eQ,simprocAttr,Q];have L:o6 w2 w8:=t8.ext_of (A.trans d) o λb B=>by subst B;omega
  refine U5 (i+1,bd0 kv y.name u) ⟨ah,λj D ae=>?_,L⟩;simp only at ae ⊢;rw[aG0];rcases eH4 j i with h|h
  .obtain⟨u2,V,aN⟩:=af j D h;have aL:=aK j D h;exact⟨u2,by rw[fh aL];exact V,A9.mono (cB1 (t8.chain (t8.up (E.trans ((o6.drew x).trans d))) o λ_ _ B=>B) (λb B=>by subst B;exact G.lt)) aN⟩
  .obtain rfl:j=i:=om
   refine⟨u,by rw[hy,fi rfl],?_⟩;rw[hy];refine al.flatR λb B=>?_;have aD:b≠r:=λe=>by
    subst e;have h1:=aJ.lt;have h2:=D4 (al.free B);omega
   rw[E9 (N:=λb=>b=r) aD];exact o.block b (al.lt B) aD
 have aE:i=p.procs.length:=by simp at hc;omega
 subst aE;simp only[p6,simprocAttr,e1,lw w5 (U _ O)];apply z6 (az7 v p w5 (hv.mono (b7 (k.trans O))) hw);rintro us x ⟨sh,rfl,hsh,E⟩;have A:=O.trans E;obtain⟨vL,bT,bS,hL,bH,bF,bD,aW,_⟩:=hsh.sh;have bk:=aW x (n7 _);have aA:=hL.isS;have aM:=hL.vlen;have bf:=aG5 p;have bE:=co1 p;have aT:=ah2 p hw;have aG:∀it∈(i5 p).l,it.s.kind=4->it.s.proc∈p.procs.map (·.name):=λit ad h4=>aS2 K hw ad h4;generalize(i5 p).l=l at hL aA aM bf aT hF aG;simp only[eQ,simprocAttr,bk,aA,aM];refine B4 [1,2,3,33,34] (σ:=Nat) (λm f g=>f 35=m/\m<=l.length/\(∀j (D:j<l.length),j<m->(decide (l[j].s.kind=4) && !au8 l[j].s (W7 p l[j].s.proc))=false)/\o6 x g) (λm=>l.length-m) 0 ?_ ?_
 .exact⟨rfl,eE2 _,λj _ h=>om,t8.refl _⟩
 rintro m f3 w7 ⟨g1,g2,g3,ax,a3,_⟩ ⟨S,bI,ak,d⟩;rw[e2]at g2;rw[e3]at g3;have ab:=A.trans d;simp only[eQ,simprocAttr,S,a3];refine A7 (λn=>?_) ?_;rotate_left
 .rintro rfl;have C:l.find? (λit=>decide (it.s.kind=4) && !au8 it.s (W7 p it.s.proc))=none:=eL9.2 λit ad=>by
   obtain⟨j,D,rfl⟩:=eK1.1 ad;rw[ak j D D];simp
  rw[C]at hF;obtain⟨w9,s1,s2,s3⟩:=H w7 ab (0,0);simp only[p6,simprocAttr,g2,be9,s1];apply R4 results81 (by simp only[C9,simprocAttr];exact g2) s2;exact⟨by rw[hF],s3⟩
 have T:=hL.inS n;obtain⟨sv,I,F⟩:=G1 (P:=prog) (t:=156) hL (b7 d) (eD1 n) ai4 ai5 ag5 M4;rw[M4]at F;have aS:=aT _ (eE1 n);have aH:=aG _ (eE1 n);obtain⟨c,bW,w8,X,aa,W,aC⟩:=az4 (I.mono (b7 d)) (n7 _);obtain⟨Y,_,_⟩:=aC.it;obtain⟨vt,bh,bj,_⟩:=Y.st_v;obtain⟨_,_,_,_,_,_,_,_,_,aX,_⟩:=Y.st;have L:=ab.trans W;have k2:=aX w8 (n7 _);have k3:=bj w8 (n7 _);have ah:=((G.mod E id).mod d id).mod W id;have Z:∀g,o6 w8 g->(decide (l[m].s.kind=4) && !au8 l[m].s (W7 p l[m].s.proc))=false->∃s:Nat,l.length-s<l.length-m/\(Value.int .i64 (IntKind.i64.wrap ((m:Int)+1))) = .int .i64 s/\s<=l.length/\(∀j (D:j<l.length),j<s->(decide (l[j].s.kind=4) && !au8 l[j].s (W7 p l[j].s.proc))=false)/\o6 x g:=λg bi hq=>by
  refine U5 (m+1) ⟨λj D bG=>?_,d.trans (W.trans bi)⟩;rcases eH4 j m with h|h
  .exact ak j D h
  .obtain rfl:j=m:=om
   exact hq
 rcases eD2 (decide (l[m].s.kind=4))with hk4|hk4;rotate_left
 .simp only[p6,n9,A6,simprocAttr,S,ax,T,F,X,aa,k2,hk4];exact Z w8 (t8.refl _) (by rw[hk4];rfl)
 obtain⟨q,hq,bK,ba⟩:=Y0 (aH (eD3 hk4));obtain⟨u,aR,V⟩:=af q hq hq;rw[ba]at aR V;have aI:=ah.lookup (P:=prog) da5 dd0 (z:=()) cI7 l[m].s.proc;rw[aR,eI9]at aI;simp only[p6,n9,A6,simprocAttr,S,g3,ax,T,F,X,aa,k2,k3,hk4,aI];refine B3 (cS7 vt u l[m].s (W7 p l[m].s.proc) w8 bh (A9.mono (A3 (B6 _ _) (b7 (E.trans (d.trans W)))) V) aS (cU1 K _)) (λw9 ao=>?_);rcases eD2 (au8 l[m].s (W7 p l[m].s.proc))with hsg|hsg
 .simp only[eQ,simprocAttr,hsg,S];exact Z w9 ao (by rw[hk4,hsg];rfl)
 .obtain⟨bV,s1,s2,s3⟩:=H w9 (L.trans ao) (8,l[m].s.id);simp only[eQ,simprocAttr,hsg,aX w9 (b7 ao),g2,aO4,s1];apply R4 results81 (by simp only[C9,simprocAttr];exact g2) s2;have C:l.find? (λit=>decide (it.s.kind=4) && !au8 it.s (W7 p it.s.proc))=some l[m]:=eM8.2 ⟨by rw[hk4,hsg];rfl,m,n,rfl,λj D=>by rw[ak j om D];rfl⟩;rw[C]at hF;exact⟨by rw[hF],s3⟩
def eJ2:=@Option.bind_eq_some_iff
mutual
def di7:∀(t:St) (k:Nat) (g j d c:Int),∀it∈ac1 t k g j d c,(it.next=d\/((k:Int)<it.next/\it.next<=(k:Int)+(ae6 t:Nat)))/\(it.loop=c\/((k:Int)<it.loop/\it.loop<=(k:Int)+(ae6 t:Nat)))
 | .mk id kind labels name proc x has args thn els,k,g,j,d,c,it,h=>by
  rw[U2]at h;rw[aJ7];rcases eF0.1 h with rfl|h
  .exact⟨.inl rfl,.inl rfl⟩
  .have f:∀(l:List St) (b:Nat) (o:k<b) (i:b+B8 l<=k+(1+B8 thn+B8 els)),it∈E5 l b g (k+1) (if kind=6 then((k:Int)+1)else d) (if kind=6 then((k:Int)+1)else c)->(∀it∈E5 l b g (k+1) (if kind=6 then((k:Int)+1)else d) (if kind=6 then((k:Int)+1)else c),(it.next=(if kind=6 then((k:Int)+1)else d)\/((b:Int)<it.next/\it.next<=(b:Int)+(B8 l:Nat)))/\(it.loop=(if kind=6 then((k:Int)+1)else c)\/((b:Int)<it.loop/\it.loop<=(b:Int)+(B8 l:Nat)))) ->
     (it.next=d\/((k:Int)<it.next/\it.next<=(k:Int)+((1+B8 thn+B8 els:Nat):Int)))/\(it.loop=c\/((k:Int)<it.loop/\it.loop<=(k:Int)+((1+B8 thn+B8 els:Nat):Int))):=by
    intro l b o i hm e;obtain⟨a,m⟩:=e it hm;constructor
    .rcases a with a|⟨a,n⟩
     .split at a
      .right;omega
      .exact .inl a
     .right;omega
    .rcases m with a|⟨a,n⟩
     .split at a
      .right;omega
      .exact .inl a
     .right;omega
   simp only[St.thn,St.els];rcases eE0.1 h with h|h
   .exact f thn (k+1) om om h (aS8 thn _ _ _ _ _)
   .refine f els _ ?_ ?_ h (aS8 els _ _ _ _ _)
    .omega
    .simp only[St.thn];omega
def aS8:∀(l:List St) (k:Nat) (e f d c:Int),∀it∈E5 l k e f d c,(it.next=d\/((k:Int)<it.next/\it.next<=(k:Int)+(B8 l:Nat)))/\(it.loop=c\/((k:Int)<it.loop/\it.loop<=(k:Int)+(B8 l:Nat)))
 | [],_,_,_,_,_,it,h=>by simp[E5]at h
 | t::l,k,e,f,d,c,it,h=>by
  rw[E5]at h;rw[B8];rcases eE0.1 h with h|h
  .obtain⟨a,b⟩:=di7 t _ _ _ _ _ it h;constructor
   .rcases a with a|a
    .split at a
     .exact .inl a
     .next g=>
      right;have:=ac0 l;omega
    .right;omega
   .rcases b with a|a
    .exact .inl a
    .right;omega
  .obtain⟨a,b⟩:=aS8 l _ _ _ _ _ it h;rw[aj5]at a b;constructor
   .rcases a with a|a
    .exact .inl a
    .right;omega
   .rcases b with a|a
    .exact .inl a
    .right;omega
end
mutual
def cO2:∀(t:St) (k:Nat) (d e c b:Int),∀it∈ac1 t k d e c b,∀u,(u∈it.s.thn\/u∈it.s.els)->u∈(ac1 t k d e c b).map (·.s)
 | .mk id kind labels name proc x has args thn els,k,d,e,c,b,it,h,u,a=>by
  rw[U2]at h ⊢;simp only[eI4,eG8,eF0,eE0];rcases eF0.1 h with rfl|h
  .simp only[St.thn,St.els]at a;rcases a with a|a
   .exact .inr (.inl (ba4 thn _ _ _ _ _ u a))
   .exact .inr (.inr (ba4 els _ _ _ _ _ u a))
  .rcases eE0.1 h with h|h
   .exact .inr (.inl (aL2 thn _ _ _ _ _ it h u a))
   .exact .inr (.inr (aL2 els _ _ _ _ _ it h u a))
def aL2:∀(l:List St) (k:Nat) (c d b a:Int),∀it∈E5 l k c d b a,∀u,(u∈it.s.thn\/u∈it.s.els)->u∈(E5 l k c d b a).map (·.s)
 | [],_,_,_,_,_,it,h,_,_=>by simp[E5]at h
 | t::l,k,c,d,b,a,it,h,u,hu=>by
  rw[E5]at h ⊢;simp only[eG8,eE0];rcases eE0.1 h with h|h
  .exact .inl (cO2 t _ _ _ _ _ it h u hu)
  .exact .inr (aL2 l _ _ _ _ _ it h u hu)
def ba4:∀(l:List St) (k:Nat) (c d b a:Int),∀u∈l,u∈(E5 l k c d b a).map (·.s)
 | [],_,_,_,_,_,u,h=>by simp at h
 | t::l,k,c,d,b,a,u,h=>by
  rw[E5];simp only[eG8,eE0];rcases eF0.1 h with rfl|h
  .left;cases u;rw[U2];simp
  .exact .inr (ba4 l _ _ _ _ _ u h)
end
def ap7(d)(t:St)(l:List St)(n):J9 (d+1) (t::l) n=(if n+1>200\/t.id≠n+1\/X7 t.labels=false\/O3 t=false then none else(J9 d t.thn (n+1)).bind λm=>J9 d t.els m).bind λm=>J9 (d+1) l m:=by
 rw[J9,foldlM_cons];rfl
mutual
def dz5:∀(t:St) (d:Nat) (n m:Int),t.id=n+1->((J9 d t.thn (n+1)).bind λm=>J9 d t.els m)=some m->m=n+(ae6 t:Nat)/\∀(k:Nat) (f g e b:Int) (j:Nat) (it:It),(ac1 t k f g e b)[j]?=some it->it.s.id=n+1+(j:Nat)
 | .mk id kind labels name proc x has args thn els,d,n,m,hid,h=>by
  simp only[St.id,St.thn,St.els]at hid h;obtain⟨c,i,l⟩:=eJ2.1 h;obtain⟨q,o⟩:=aT5 thn d (n+1) c i;obtain⟨r,p⟩:=aT5 els d c m l;refine⟨by rw[aJ7];simp only[St.thn,St.els];omega,λk f g e b j it a=>?_⟩;rw[U2]at a;cases j with
  | zero=>
   rw[getElem?_cons_zero]at a;obtain rfl:=eF3 a;simp only[St.id];omega
  | succ j=>
   rw[getElem?_cons_succ]at a;rcases eH4 j (B8 thn)with hlt|hge
   .rw[eI7 (by rw[L9];exact hlt)]at a;have:=o _ _ _ _ _ j it a;omega
   .rw[eI8 (by rw[L9];exact hge),L9]at a;have:=p _ _ _ _ _ _ it a;simp only[St.thn]at hge this;omega
def aT5:∀(l:List St) (d:Nat) (n m:Int),J9 d l n=some m->m=n+(B8 l:Nat)/\∀(k:Nat) (g i f e:Int) (j:Nat) (it:It),(E5 l k g i f e)[j]?=some it->it.s.id=n+1+(j:Nat)
 | [],d,n,m,h=>by
  have:m=n:=by
   cases d with
   | zero=>simp[J9]at h;exact h.symm
   | succ d=>rw[J9]at h;simp at h;exact h.symm
  subst this;exact⟨by simp[B8],λk g i f e j it a=>by simp[E5]at a⟩
 | t::l,0,n,m,h=>by simp[J9]at h
 | t::l,d+1,n,m,h=>by
  rw[ap7]at h;obtain⟨o,b,p⟩:=eJ2.1 h;split at b
  .cases b
  .next q=>
   have c:t.id=n+1:=by
    rcases Decidable.em (t.id=n+1)with h|h
    .exact h
    .exact fj (.inr (.inl h)) q
   obtain⟨u,r⟩:=dz5 t d n o c b;obtain⟨v,s⟩:=aT5 l (d+1) o m p;refine⟨by rw[B8];omega,λk g i f e j it a=>?_⟩;rw[E5]at a;rcases eH4 j (ae6 t)with hlt|hge
   .rw[eI7 (by rw[aj5];exact hlt)]at a;exact r _ _ _ _ _ j it a
   .rw[eI8 (by rw[aj5];exact hge),aj5]at a;have:=s _ _ _ _ _ _ it a;omega
end
def bW6:∀(l:List Pr) (s:Sh) (i:Nat),(l.foldlM (λn f=>ac8 f n) (s.l.length:Int)).isSome=true->(∀(j:Nat) (it:It),s.l[j]?=some it->it.s.id=(j:Int)+1)->∀(j:Nat) (it:It),(K8 s i l).l[j]?=some it->it.s.id=(j:Int)+1
 | [],s,i,_,h,j,it,a=>h j it a
 | f::l,s,i,hf,h,j,it,a=>by
  rw[foldlM_cons]at hf;obtain⟨n,e⟩:=eJ0.1 hf;obtain⟨m,hm,d⟩:=eJ2.1 e;unfold ac8 at hm;split at hm
  .cases hm
  .obtain⟨k,g⟩:=aT5 f.body 12 _ _ hm;rw[K8]at a;refine bW6 l (I8 s i f) (i+1) ?_ (λj it a=>?_) j it a
   .simp only[I8,eD4,L9];rw[show((s.l.length+B8 f.body:Nat):Int)=m by omega,d];rfl
   .simp only[I8]at a;rcases eH4 j s.l.length with c|b
    .rw[eI7 c]at a;exact h j it a
    .rw[eI8 b]at a;have:=g _ _ _ _ _ _ it a;omega
def ax6{p}(hm:O1 p=true):∀(j:Nat) (it:It),(i5 p).l[j]?=some it->it.s.id=(j:Int)+1:=by
 simp only[O1,eF1]at hm;exact bW6 p.procs ⟨p,[],[],[]⟩ 0 hm.2 λj it a=>by simp at a
def Rg(x y:Nat)(a:Int):Prop:=a = -1\/((x:Int)<a/\a<=(y:Int))
structure aH0 (p:Pg) (i x y:Nat):Prop where
 ok:ca3 (i5 p) i x y
 ids:∀it∈(i5 p).of i,(x:Int)<it.s.id/\it.s.id<=(y:Int)
 next:∀it∈(i5 p).of i,Rg x y it.next
 loop:∀it∈(i5 p).of i,it.loop=0\/((x:Int)<it.loop/\it.loop<=(y:Int))
 sub:∀it∈(i5 p).of i,∀u,(u∈it.s.thn\/u∈it.s.els)->(x:Int)<u.id/\u.id<=(y:Int)
 at_:∀a:Int,(x:Int)<a->a<=(y:Int)->(i5 p).it a∈(i5 p).of i/\((i5 p).it a).s.id=a/\(i5 p).l[(a-1).toNat]?=some ((i5 p).it a)
def K1{p}(hm:O1 p=true)(hw:C1 p<=1000000)(i)(v:i<p.procs.length):∃x,aH0 p i x (x+B8 p.procs[i].body):=by
 obtain⟨x,b,q⟩:=ab2 p hw i v;have d:=ax6 hm;have o:∀it∈(i5 p).of i,∃j:Nat,j<B8 p.procs[i].body/\(i5 p).l[x+j]?=some it:=λit h=>by
  rw[b.of_]at h;obtain⟨j,m⟩:=getElem?_of_mem h;rw[eN3,eM1]at m;split at m
  .next n=>exact⟨j,om,m⟩
  .cases m
 have k:∀it∈(i5 p).of i,(x:Int)<it.s.id/\it.s.id<=((x+B8 p.procs[i].body:Nat):Int):=λit h=>by
  obtain⟨j,m,e⟩:=o it h;have:=d _ _ e;omega
 have g:=aS8 p.procs[i].body x i 0 (-1) 0;rw[<-q]at g;have f:=aL2 p.procs[i].body x i 0 (-1) 0;rw[<-q]at f;refine⟨x,b,k,λit h=>?_,λit h=>?_,λit h u w=>?_,λa c y=>?_⟩
 .rcases(g it h).1 with c|c
  .exact .inl c
  .exact .inr ⟨c.1,om⟩
 .rcases(g it h).2 with c|c
  .exact .inl c
  .exact .inr ⟨c.1,om⟩
 .obtain⟨s,l,rfl⟩:=eF2.1 (f it h u w);exact k s l
 .have t:=b.len;have n:(a-1).toNat<(i5 p).l.length:=om
  have r:(i5 p).l[(a-1).toNat]?=some ((i5 p).it a):=by
   unfold Sh.it;rw[getD,eD1 n];rfl
  refine⟨?_,?_,r⟩
  .rw[b.of_];apply eF7 (i:=(a-1).toNat-x);rw[eN3,eM1,fi om,show x+((a-1).toNat-x)=(a-1).toNat by omega,r]
  .have:=d _ _ r;omega
def da3{w:World}{b}{e:Int×Int}(h:w.heap[b]?=some (.cells #[e.1,e.2] 80 (0,0))):
  (Instr.loadAt 33 (.pointer (some ⟨b,0,none⟩))).run prog w = .ok e.1 w/\(Instr.loadAt 80 (.pointer (some ⟨b,0,none⟩))).run prog w = .ok (af5 e) w:=
 ⟨F9 (i:=0) h rfl eq9,ad1 h dY4 dZ3 dY7 (by rw[dZ1];rfl)⟩
def dc4{w:World}{b}{e:Int×Int}(h:w.heap[b]?=some (.cells #[e.1,e.2] 80 (0,0)))(a:Int×Int):
  ∃d,(Instr.storeAt 80 (.pointer (some ⟨b,0,none⟩)) (af5 a)).run prog w = .ok () d/\d.heap[b]?=some (.cells #[a.1,a.2] 80 (0,0))/\t8 (λc=>c=b) w d:=
 ad2 (P:=prog) (cs:=#[a.1,a.2]) h dK0 rfl rfl (by simp[Value.oneCell'])
def cn8(v p w)(hv:SV (n8 w) v p)(hw:C1 p<=1000000):p7 prog 46 #[v] w λu f=>(u=af5 (aZ5 p)/\o6 w f):=by
 apply y5 [v] func46 rfl;obtain⟨a,w1,ac,Q,ha⟩:=af3 (w:=w) (λ_=>False) hv (λ_ h=>h.elim);obtain⟨U,aB⟩:=L8.pg_v hv ha;obtain⟨rb,B,ab,m,ag,L⟩:=aO1 w1;have ad:w.heap.size<=rb:=eD7 Q.size L;have c:=Q.trans m;have o:∀f,o6 w1 f->E6 (D9 w1 λ_=>False) (n8 f):=λf h=>A3 (B6 _ _) (b7 h);have D:=λ(f:World) (h:o6 B f)=>aF9 ag h ad c;simp only[eQ,simprocAttr,ac,ab,U B (o _ m)];refine B3 (cV9 v p B (hv.mono (b7 c)) hw) (λw3 t=>?_);rcases eD2 (O1 p)with hmay|hmay;rotate_left
 .obtain⟨w9,x,y,z⟩:=D w3 t (1,0);simp only[eQ,simprocAttr,hmay,aa4,x];apply R4 results46 (by simp only[C9,simprocAttr]) y;exact⟨by rw[aZ5,hmay];rfl,z⟩
 have g:aZ5 p=if(U7 p).1≠0 then U7 p else if(am4 p).1≠0 then am4 p else if(aW4 p).1≠0 then aW4 p else aY9 p:=by
  rw[aZ5,fh (by rw[hmay];simp)]
 simp only[eQ,simprocAttr,hmay,U w3 (o _ (m.trans t))];refine B3 (au7 v p w3 (hv.mono (b7 (c.trans t))) hw) (λw4 aj=>?_);have F:=t.trans aj;obtain⟨K,w5,C,ak,ah,M⟩:=aO1 w4;obtain⟨Z,W,r,ae⟩:=dc4 (e:=(0,0)) ah (U7 p);obtain⟨l6,aA⟩:=da3 r;have i:B.heap.size<=K:=eD7 F.size M;have k:o6 B Z:=t8.ext_of (F.trans ak) ae λb H=>by subst H;exact i
 have q:∀(f:World) (e:Int×Int),o6 B f->f.heap[K]?=some (.cells #[e.1,e.2] 80 (0,0))->aZ5 p=e->∃n,(Instr.loadAt 80 (.pointer (some ⟨K,0,none⟩))).run prog f = .ok (af5 e) f/\(Instr.storeAt 80 (.pointer (some ⟨rb,0,none⟩)) (af5 e)).run prog f = .ok () n/\(Instr.loadAt 80 (.pointer (some ⟨rb,0,none⟩))).run prog n = .ok (af5 e) n/\o6 w n:=λf e hx hh _=>by
  obtain⟨n,h1,h2,h3⟩:=D f hx e;exact⟨n,(da3 hh).2,h1,h2,h3⟩
 rcases eD2 (decide ((U7 p).1=0))with d1|d1;rotate_left
 .rw[fi (eD6 d1)]at g;obtain⟨w9,J,x,y,z⟩:=q Z _ k r g;simp only[eQ,simprocAttr,C,W,l6,d1,J,x];apply R4 results46 (by simp only[C9,simprocAttr]) y;exact⟨by rw[g],z⟩
 rw[fh (by simpa using d1)]at g;simp only[eQ,simprocAttr,C,W,l6,d1,U Z (o _ (m.trans k))];refine B3 (aZ2 v p Z (hv.mono (b7 (c.trans k))) hw) (λw7 R=>?_);obtain⟨w8,X,s,af⟩:=dc4 ((R.block K (eD5.1 r).1 id).trans r) (am4 p);obtain⟨l8,_⟩:=da3 s;have l:o6 B w8:=t8.ext_of (k.trans R) af λb H=>by subst H;exact i
 rcases eD2 (decide ((am4 p).1=0))with d2|d2;rotate_left
 .rw[fi (eD6 d2)]at g;obtain⟨w9,J,x,y,z⟩:=q w8 _ l s g;simp only[eQ,simprocAttr,X,l8,d2,J,x];apply R4 results46 (by simp only[C9,simprocAttr]) y;exact⟨by rw[g],z⟩
 rw[fh (by simpa using d2)]at g;simp only[eQ,simprocAttr,X,l8,d2,U w8 (o _ (m.trans l))];refine B3 (cb6 v p w8 (hv.mono (b7 (c.trans l))) hw) (λw9 S=>?_);obtain⟨A,G,j,O⟩:=dc4 ((S.block K (eD5.1 s).1 id).trans s) (aW4 p);obtain⟨T,_⟩:=da3 j;have d:o6 B A:=t8.ext_of (l.trans S) O λb H=>by subst H;exact i
 rcases eD2 (decide ((aW4 p).1=0))with d3|d3;rotate_left
 .rw[fi (eD6 d3)]at g;obtain⟨an,J,x,y,z⟩:=q A _ d j g;simp only[eQ,simprocAttr,G,T,d3,J,x];apply R4 results46 (by simp only[C9,simprocAttr]) y;exact⟨by rw[g],z⟩
 rw[fh (by simpa using d3)]at g;simp only[eQ,simprocAttr,G,T,d3,U A (o _ (m.trans d))];refine B3 (bO2 v p A (hv.mono (b7 (c.trans d))) hw) (λan E=>?_);obtain⟨Y,V,N,P⟩:=dc4 ((E.block K (eD5.1 j).1 id).trans j) (aY9 p);have I:o6 B Y:=t8.ext_of (d.trans E) P λb H=>by subst H;exact i
 obtain⟨aC,J,x,y,z⟩:=q Y _ I N g;simp only[p6,simprocAttr,V,J,x];apply R4 results46 (by simp only[C9,simprocAttr]) y;exact⟨by rw[g],z⟩
def ak3(v p w)(hv:SV (n8 w) v p)(hw:C1 p<=1000000):p7 prog 13 #[v] w λu j=>(u=(C8 p)/\o6 w j):=by
 apply y5 [v] func13 rfl;obtain⟨a,e,c,b,f⟩:=af3 (w:=w) (λ_=>False) hv (λ_ h=>h.elim);obtain⟨g,i⟩:=L8.pg_v hv f;simp only[eQ,simprocAttr,c,g e (B6 _ _)];refine B3 (cn8 v p e (hv.mono (b7 b)) hw) (λk d=>?_);simp only[eQ,simprocAttr,aE3];exact o8 results13 ⟨rfl,b.trans d⟩
structure E3 (p:Pg):Prop extends Known p where
 fits:∀it∈(i5 p).l,it.s.kind=4->at9 p it.s=true
 single:∀it∈(i5 p).l,it.s.kind=4->au8 it.s (W7 p it.s.proc)=true
 jump:∀i (hi:i<p.procs.length),aI4 (i5 p) p.procs[i] ((i5 p).of i)=none
def bb7{s:Sh}:∀{l:List Pr} {i:Nat},aa6 s i l=none->∀k (a:k<l.length),aI4 s l[k] (s.of (i+k:Nat))=none
 | [],i,_,k,a=>by simp at a
 | f::l,i,h,k,a=>by
  rw[aa6]at h;split at h
  .cases h
  .next b=>
   cases k with
   | zero=>simpa using b
   | succ k=>
    have:=bb7 h k (by simpa using a);rw[show i+1+k=i+(k+1) by omega]at this;simpa using this
def cb7{s:Sh}{f:Pr}{l:List It}{e:Int×Int}(h:aI4 s f l=some e):e.1=7:=by
 unfold aI4 at h;split at h
 .obtain rfl:=eF3 h;rfl
 .split at h
  .obtain rfl:=eF3 h;rfl
  .cases h
def bb6{s:Sh}:∀{l:List Pr} {i:Nat} {e:Int×Int},aa6 s i l=some e->e.1=7
 | [],i,e,h=>by cases h
 | f::l,i,e,h=>by
  rw[aa6]at h;split at h
  .next a=>obtain rfl:=eF3 h;exact cb7 a
  .exact bb6 h
def D6{p}(h:C8 p=true):E3 p:=by
 have h:=eD3 h;unfold aZ5 at h;split at h
 .simp at h
 split at h
 .next c=>exact fj h c
 next c=>
 split at h
 .next a=>exact fj h a
 next a=>
 split at h
 .next b=>exact fj h b
 next b=>
 have c:(U7 p).1=0:=eM6 c;have a:(am4 p).1=0:=eM6 a;have b:(aW4 p).1=0:=eM6 b;refine⟨bT1 c,λit d f=>?_,λit d f=>?_,λi k=>?_⟩
 .unfold am4 at a;rw[fh (by rw[c];simp)]at a;split at a
  .simp at a
  .next g=>
   have:=eL9.1 g it d;rw[eG9 f]at this;simpa using this
 .unfold aY9 at h;rw[fh (by rw[a];simp)]at h;split at h
  .simp at h
  .next g=>
   have:=eL9.1 g it d;rw[eG9 f]at this;simpa using this
 .unfold aW4 at b;rw[fh (by rw[c];simp)]at b;have j:aa6 (i5 p) 0 p.procs=none:=by
   cases hs:aa6 (i5 p) 0 p.procs with
   | none=>rfl
   | some e=>
    rw[hs]at b;have:=bb6 hs;simp at b;omega
  have:=bb7 j i k
  rwa [eH5]at this
def bj6{s:Sh}:∀{l:List It} {a r:List B9},aL3 s a l = .inl r->∀it∈l,aI7 s it=true
 | [],_,_,_,it,h=>by simp at h
 | x::l,a,r,hj,it,h=>by
  rw[aL3]at hj;split at hj
  .cases hj
  .split at hj
   .next b=>
    rcases eF0.1 h with rfl|h
    .exact b
    .exact bj6 hj it h
   .cases hj
def E3.leads{p}(b:E3 p){i}(a:i<p.procs.length):∀it∈(i5 p).of i,aI7 (i5 p) it=true:=by
 have:=b.jump i a;unfold aI4 at this;split at this
 .cases this
 .next h=>exact bj6 h
def ej4{p i x y}(c:aH0 p i x y){b:B9}{a}(h:(i5 p).at i b=some a):Rg x y a:=by
 unfold Sh.at at h;split at h
 .next it hf=>
  obtain rfl:=eF3 h;exact .inr (c.ids it (mem_of_find?_eq_some hf))
 .split at h
  .obtain rfl:=eF3 h;exact .inl rfl
  .cases h
def cp3{p i x y}(c:aH0 p i x y){it:It}(a:it∈(i5 p).of i){o}(b:Rg x y o):Rg x y (aw2 it.s.thn o)/\Rg x y (aw2 it.s.els o):=by
 constructor
 .cases h:it.s.thn with
  | nil=>exact b
  | cons t l=>exact .inr (c.sub it a t (.inl (by rw[h];simp)))
 .cases h:it.s.els with
  | nil=>exact b
  | cons t l=>exact .inr (c.sub it a t (.inr (by rw[h];simp)))
def cZ4{p}(n:E3 p)(hw:C1 p<=1000000){i x y}(l:i<p.procs.length)(b:aH0 p i x y):∀it∈(i5 p).of i,∀t∈(i5 p).goes it,Rg x y t:=by
 intro it hit t ht;have c:=b.next it hit;have k:Rg x y it.s.id:=.inr (b.ids it hit);have E6:=n.leads l it hit;unfold aI7 at E6;unfold Sh.goes at ht;split at ht
 .simp only[eF0,eH6,eM0]at ht;rcases ht with rfl|rfl
  .exact(cp3 b hit c).1
  .exact(cp3 b hit c).2
 split at ht
 .simp only[eF0,eH6,eM0]at ht;rcases ht with rfl|rfl
  .exact(cp3 b hit k).1
  .exact c
 split at ht
 .next f=>
  rw[fi (.inl f)]at E6;have d:it.loop≠0:=by simpa using E6
  simp only[eE7]at ht;subst ht;rcases b.loop it hit with h|h
  .exact fj h d
  .exact b.next _ (b.at_ it.loop h.1 h.2).1
 split at ht
 .next g=>
  rw[fi (.inr g)]at E6;have d:it.loop≠0:=by simpa using E6
  simp only[eE7]at ht;subst ht;rcases b.loop it hit with h|h
  .exact fj h d
  .exact .inr h
 split at ht
 .simp only[eE7]at ht;subst ht;exact .inl rfl
 split at ht
 .next f g _ e=>
  have m:¬(it.s.kind=7\/it.s.kind=8):=λh=>h.elim f g;rw[fh m,fi e]at E6;simp only[eE7]at ht;subst ht;obtain⟨a,j⟩:=eJ0.1 E6;rw[j];rw[az2 p hw i l it hit]at j;exact ej4 b j
 .simp only[eE7]at ht;subst ht;exact c
def bA2{α:Type}(a:α->α->Bool){z:α}:∀(l:List α) (p:α),z∈at6 a p l->z∈l
 | [],p,h=>by simp[at6]at h
 | x::l,p,h=>by
  rw[at6]at h;split at h
  .exact eI1 _ (bA2 a l x h)
  .rcases eF0.1 h with rfl|h
   .simp
   .exact eI1 _ (bA2 a l x h)
def dh7{α:Type}(a:α->α->Bool){z:α}:∀(l:List α),z∈at5 a l->z∈l
 | [],h=>by simp[at5]at h
 | x::l,h=>by
  rw[at5]at h;rcases eF0.1 h with rfl|h
  .simp
  .exact eI1 _ (bA2 a l x h)
def ce2{α:Type}(a:α->α->Bool):∀(l:List α) (p:α),(at6 a p l).length<=l.length
 | [],p=>by simp[at6]
 | x::l,p=>by
  have:=ce2 a l x;rw[at6];split<;>simp only[eG6]<;>omega
def bo2{z:Sp}{l:List Sp}(h:z∈an3 l):z∈l:=(H8 _ _).mem_iff.1 (dh7 _ _ h)
def bo1(l:List Sp):(an3 l).length<=l.length:=by
 unfold an3;rw[<-(H8 dp2 l).length_eq];cases af2 dp2 l with
 | nil=>simp[at5]
 | cons x m=>simp only[at5,eG6];have:=ce2 aB6 m x;omega
def RgS(x y:Nat)(t:Sp):Prop:=(t.src=0\/((x:Int)<t.src/\t.src<=(y:Int)))/\Rg x y t.dst
def cz6{p i x y}(a:aH0 p i x y):Rg x y ((i5 p).first i):=by
 have b:=a.ok.lo;have c:=a.ok.hi;unfold Sh.first atI;simp only[eF4,getD,b,c,eI9];split
 .right;omega
 .exact .inl rfl
def bX8{p}(g:E3 p)(hw:C1 p<=1000000){i x y}(f:i<p.procs.length)(d:aH0 p i x y):∀t∈(i5 p).steps i,RgS x y t:=by
 intro t b;have b:=bo2 b;rcases eF0.1 b with rfl|b
 .exact⟨.inl rfl,cz6 d⟩
 .obtain⟨it,c,b⟩:=eG1.1 b;obtain⟨a,e,rfl⟩:=eF2.1 b;exact⟨.inr (d.ids it c),cZ4 g hw f d it c a e⟩
def cA8(s:Sh)(it:It):(s.goes it).length<=2:=by
 unfold Sh.goes
 repeat' split
 all_goals simp
def eM3:=@getElem?_range
def OkR(nx:List (List Int)):Prop:=∀a,∀b∈F1 nx a,J2 nx.length b=true
def co0{nx:List (List Int)}(n:OkR nx):∀(m:Nat) (l:List Int),l.Nodup->(∀b∈l,J2 nx.length b=true)->nx.length<=l.length+m->∀a∈V2 nx m l,∀b∈F1 nx a,b∈V2 nx m l
 | 0,l,hn,hk,hl,a,ha,b,hb=>by
  rw[V2]at ha ⊢;refine eL3 λp=>?_;have t:(b::l).Nodup:=eQ2.2 ⟨p,hn⟩;have u:=J5 (m:=(range nx.length).map λ(i:Nat)=>(i:Int)) t λc f=>by
   have o:J2 nx.length c=true:=by
    rcases eF0.1 f with rfl|f
    .exact n _ _ hb
    .exact hk c f
   have:=C0.1 o;exact eF2.2 ⟨c.toNat,eH7.2 om,om⟩
  simp only[eG6,eE3,eI3]at u;omega
 | m+1,l,hn,hk,hl,a,ha,b,hb=>by
  rw[V2]at ha ⊢;by_cases he:aW6 nx l=[]
  .have e:l++((l.flatMap (F1 nx)).filter λb=>!l.contains b).eraseDups=l:=by
    show l++aW6 nx l=l;rw[he,eG5]
   rw[e]at ha ⊢;have g:∀c∈l,∀d∈F1 nx c,d∈l:=λc f d j=>eL3 λq=>by
    have:d∈aW6 nx l:=aA7.2 ⟨⟨c,f,j⟩,q⟩;rw[he]at this;simp at this
   have r:∀(k:Nat),V2 nx k l=l:=by
    intro k
    induction k with
    | zero=>rfl
    | succ k v=>rw[V2,e,v]
   rw[r]at ha ⊢;exact g a ha b hb
  .have s:0<(aW6 nx l).length:=List.length_pos_iff.2 he;refine co0 n m (l++aW6 nx l) ?_ (λc f=>?_) (by rw[eD4];omega) a ha b hb
   .rw[eI6];refine⟨hn,bc6 _ _ (eE8 _),λc f d j e=>?_⟩;subst e;exact(aA7.1 j).2 f
   .rcases eE0.1 f with h|h
    .exact hk c h
    .obtain⟨⟨d,_,f⟩,_⟩:=aA7.1 h;exact n _ _ f
def cr4{nx:List (List Int)}(f:OkR nx){a b}(e:J2 nx.length a=true):af9 nx a b=true↔Y6 nx a b:=by
 unfold af9;rw[e,eJ4,eE6];constructor
 .exact λh=>aV5 nx.length [a] (λc d=>by simp at d;subst d;exact .refl) b h
 .intro h
  induction h with
  | refl=>exact bh7 _ _ _ dG
  | step _ d g=>exact co0 f nx.length [a] dG (λc d=>by simp at d;subst d;exact e) dG _ g _ d
def al9(nx:List (List Int))(stop:Nat->Bool):(aL9 nx stop).length=nx.length:=by simp[aL9]
def aG4(nx:List (List Int))(stop:Nat->Bool)(a:Int):F1 (aL9 nx stop) a=if stop a.toNat=true then[]else F1 nx a:=by
 unfold F1;rw[al9];by_cases h:0<=a/\a<nx.length
 .have b:a.toNat<nx.length:=om
  rw[fi h,fi h];unfold aL9;rw[getD,eH2,eM3 b];simp
 .rw[fh h,fh h];simp
def aP5{nx:List (List Int)}(h:OkR nx)(stop:Nat->Bool):OkR (aL9 nx stop):=by
 intro a b c;rw[aG4]at c;rw[al9];split at c
 .simp at c
 .exact h a b c
def ct9{nx:List (List Int)}(h:OkR nx){a b}(c:J2 nx.length a=true)(hw:Y6 nx a b):J2 nx.length b=true:=by
 cases hw with
 | refl=>exact c
 | step _ d=>exact h _ _ d
def bw3{X Y:Rws}(h:leR X Y)(i){x:B9}(a:x∈J8 X i):x∈J8 Y i:=h _ x a
def dw3(p){X Y:Rws}(h:leR X Y)(s:St){x:B9}(a:x∈aq5 p X s):x∈aq5 p Y s:=by
 unfold aq5 at a ⊢;split at a
 .rename_i c;rw[fi c];exact a
 .rename_i c;rw[fh c];split at a
  .rename_i d;rw[fi d];exact a
  .rename_i d;rw[fh d];split at a
   .rename_i e;rw[fi e];exact a
   .rename_i e;rw[fh e];split at a
    .rename_i f;rw[fi f];unfold aE2 at a ⊢;rcases eE0.1 a with a|a
     .rcases eE0.1 a with a|a
      .exact eF9 _ (eF9 _ a)
      .refine eF9 _ (eH0 _ ?_);obtain⟨z,b,rfl⟩:=eF2.1 a;refine eF2.2 ⟨z,?_,rfl⟩;rw[eF6]at b ⊢;refine⟨b.1,?_⟩;rw[eF1,eE6]at b ⊢;exact⟨b.2.1,bw3 h _ b.2.2⟩
     .apply eH0 _;rw[eF6]at a ⊢;exact⟨bw3 h _ a.1,a.2⟩
    .simp at a
def dK1(p){X Y:Rws}(h:leR X Y)(s:St){x:B9}(a:x∈aE0 p X s):x∈aE0 p Y s:=by
 unfold aE0 at a ⊢;rcases eE0.1 a with a|a
 .exact eF9 _ a
 .apply eH0 _;split at a
  .rename_i b;rw[fi b];rcases eE0.1 a with a|a
   .exact eF9 _ a
   .exact eH0 _ (bw3 h _ a)
  .simp at a
def ch3{l:List It}{f g:It->List B9}(h:∀it,∀x∈f it,x∈g it):leR (l.map λit=>G0 (f it)) (l.map λit=>G0 (g it)):=by
 intro i x a;rw[getD,eH2]at a ⊢;cases hi:l[i]? with
 | none=>rw[hi]at a;simp at a
 | some it=>
  rw[hi]at a;simp only[eJ9,eI9]at a ⊢;exact M6.2 (h it x (M6.1 a))
def bI6{n}{f g:Nat->List B9}(h:∀i,i<n->∀x∈f i,x∈g i):leR ((range n).map λi=>G0 (f i)) ((range n).map λi=>G0 (g i)):=by
 intro i x a;rw[getD,eH2]at a ⊢;rcases eH4 i n with b|b
 .rw[eM3 b]at a ⊢;simp only[eJ9,eI9]at a ⊢;exact M6.2 (h i b x (M6.1 a))
 .rw[eL7 (by simpa using b)]at a;simp at a
def bI7{n B}{f:Nat->List B9}(m:Nat->List B9)(h:∀i,i<n->∀x∈f i,x∈m i)(c:∀i,i<n->(m i).length<=B):T7 n B ((range n).map λi=>G0 (f i)):=by
 refine⟨dG,λr b=>?_,λr b=>?_⟩
 .obtain⟨i,_,rfl⟩:=eF2.1 b;exact ab4 _
 .obtain⟨i,d,rfl⟩:=eF2.1 b;have a:=eH7.1 d;exact eD7 (J5 (aJ3 (ab4 _)) λx e=>h i a x (M6.1 e)) (c i a)
def ck5{p i}{n:B9}(h:ak1 p i n=true):n∈am1::(p.globals++(p.procs.getD i cq3).params.map (·.name)):=by
 unfold ak1 W1 at h;rw[eN7,eN7,eE6,eE6]at h;rcases h with(h|h)|h
 .rw[eD3 h];simp
 .simp[h]
 .exact eI1 _ (eH0 _ (eF2.2 ⟨_,h,rfl⟩))
def R9{p}(hm:O1 p=true){i}(j:i<p.procs.length):p.procs[i].params.length<=8:=by
 unfold O1 at hm;rw[eF1]at hm;have e:=hm.2;have c:∀(l:List Pr) (n:Int),(l.foldlM (λn f=>ac8 f n) n).isSome=true->∀f∈l,f.params.length<=8:=by
  intro l
  induction l with
  | nil=>intro n _ f b;simp at b
  | cons g l q=>
   intro n h f b;rw[foldlM_cons]at h;obtain⟨k,o⟩:=eJ0.1 h;obtain⟨m,a,d⟩:=eJ2.1 o;rcases eF0.1 b with rfl|b
   .unfold ac8 at a;split at a
    .cases a
    .rename_i r;omega
   .exact q m (by rw[d];rfl) f b
 exact c _ _ e _ (eE1 j)
def R0{p}(hm:O1 p=true):p.globals.length<=16/\p.procs.length<=16:=by
 unfold O1 at hm;simp only[eF1,eH1]at hm;exact⟨hm.1.1.1,hm.1.1.2⟩
def dp8{p}(hm:O1 p=true){i}(a:i<p.procs.length):(am1::(p.globals++(p.procs.getD i cq3).params.map (·.name))).length<=25:=by
 have b:=R9 hm a;have c:=(R0 hm).1;rw[getD,eD1 a];simp only[eG6,eD4,eE3,eI9];omega
def bu6{p}{defs:Rws}{i}{x:B9}(h:x∈an2 p defs i):ak1 p i x=true:=by
 unfold an2 at h;obtain⟨it,_,h⟩:=eG1.1 h;exact(eF6.1 h).2
def bn1{p}(hm:O1 p=true):aV9 (J0 p) p.procs.length 25 where
 mono X Y h:=by
  refine bI6 λi b x a=>?_;unfold an2 at a ⊢;obtain⟨it,c,a⟩:=eG1.1 a;refine eG1.2 ⟨it,c,?_⟩;rw[eF6]at a ⊢;exact⟨bw3 (ch3 λit x a=>dw3 p h _ a) _ a.1,a.2⟩
 ok X:=bI7 _ (λi b x a=>ck5 (bu6 a)) λi b=>dp8 hm b
section
variable {wy:Wy} {outs:List B9} {uses uses' defs:Rws} {name:B9}
def ch6(b:OkR wy.net)(d:wy.net.length=wy.n.toNat)(e:0<wy.n):aU1 wy outs uses defs name=true↔∃a:Nat,a<wy.n.toNat/\cP5 wy outs uses name a=true/\Y6 (aL9 wy.net (bs0 wy uses defs name)) 0 a:=by
 unfold aU1;rw[eP6];constructor
 .rintro⟨a,c,h⟩;rw[eF1,cr4 (aP5 b _) (by rw[al9,d];exact C0.2 ⟨om,om⟩)]at h;exact⟨a,eH7.1 c,h⟩
 .rintro⟨a,c,h⟩;refine⟨a,eH7.2 c,?_⟩;rw[eF1,cr4 (aP5 b _) (by rw[al9,d];exact C0.2 ⟨om,om⟩)];exact h
def dC5(j:OkR wy.net)(k:wy.net.length=wy.n.toNat)(n:0<wy.n)(p:leR uses uses')(h:aU1 wy outs uses defs name=true):aU1 wy outs uses' defs name=true:=by
 rw[ch6 j k n]at h ⊢;obtain⟨a,o,f,q⟩:=h;have l:∀c,Y6 (aL9 wy.net (bs0 wy uses defs name)) 0 c->Y6 (aL9 wy.net (bs0 wy uses' defs name)) 0 c\/∃b:Nat,b<wy.n.toNat/\cP5 wy outs uses' name b=true/\Y6 (aL9 wy.net (bs0 wy uses' defs name)) 0 b:=by
  intro c e
  induction e with
  | refl=>exact .inl .refl
  | @step b c s e d=>
   rcases d with d|d
   .rw[aG4]at e;split at e
    .simp at e
    .rename_i g;cases hs':bs0 wy uses' defs name b.toNat
     .refine .inl (.step d ?_);rw[aG4,hs',fh dG];exact e
     .right;have i:=ct9 (aP5 j _) (by rw[al9,k];exact C0.2 ⟨om,om⟩) d;rw[al9,k]at i;obtain⟨m,r⟩:=C0.1 i;refine⟨b.toNat,om,?_,by rw[Int.toNat_of_nonneg m];exact d⟩;unfold bs0 at g hs';unfold cP5;by_cases hN:((b.toNat:Nat):Int)=wy.n-1
      .rw[eG9 hN]at g;simp at g
      .rw[eG7 hN]at g hs';rw[fh hN];simp only[eO3,eF1,eN7,not_and,not_or]at g hs';rw[eF1];refine⟨hs'.1,?_⟩;rcases hs'.2 with h|h
       .exact h
       .exact fj h (g hs'.1).2
   .exact .inr d
 rcases l a q with h|h
 .refine⟨a,o,?_,h⟩;unfold cP5 at f ⊢;split at f
  .rename_i hN;rw[fi hN];exact f
  .rename_i hN;rw[fh hN];rw[eF1,eE6]at f ⊢;exact⟨f.1,bw3 p _ f.2⟩
 .exact h
end
def bB6{p}(hm:O1 p=true)(outs defs:Rws)(c:∀i,i<p.procs.length->OkR (F7 (i5 p) i).net/\(F7 (i5 p) i).net.length=(F7 (i5 p) i).n.toNat/\0<(F7 (i5 p) i).n):aV9 (X6 p outs defs) p.procs.length 25 where
 mono X Y h:=by
  refine bI6 λi b x a=>?_;unfold aW3 at a ⊢;rw[eF6]at a ⊢;obtain⟨d,e,f⟩:=c i b;exact⟨a.1,dC5 d e f (ch3 λit x a=>dK1 p h _ a) a.2⟩
 ok X:=bI7 (λ_=>p.globals++[am1]) (λi b x a=>(eF6.1 a).1) λi b=>by
  have:=(R0 hm).1;simp only[eD4,eG3];omega
def E0{n}{l:List Int}:(W2 n l).length=n:=by simp[W2]
def ab1{n}{l:List Int}{b}:A5 (W2 n l) b=true↔J2 n b=true/\b∈l:=by
 unfold A5;rw[E0,eF1];refine and_congr_right λc=>?_;have d:=C0.1 c;have a:b.toNat<n:=om
 have e:((b.toNat:Nat):Int)=b:=om
 simp[W2,getD_eq_getElem?_getD,eH2,eM3 a,e]
def R1{S:List Bool}{b}:b∈af1 S↔A5 S b=true:=by
 unfold af1 A5;simp only[eF2,eF6,eH7,eF1];constructor
 .rintro⟨a,⟨d,c⟩,rfl⟩;exact⟨C0.2 ⟨om,om⟩,by simpa using c⟩
 .rintro⟨d,c⟩;have:=C0.1 d;exact⟨b.toNat,⟨om,c⟩,om⟩
def bU7{S:List Bool}:(af1 S).Nodup:=by
 unfold af1;refine List.Pairwise.map _ (λa b h=>?_) (List.Pairwise.filter _ nodup_range);exact λe=>h om
def G5{nx:List (List Int)}{S:List Bool}:(I0 nx S).length=S.length:=E0
def bJ3{nx:List (List Int)}:∀(m:Nat) (l:List Int),∀b∈V2 nx m l,∃a∈l,Y6 nx a b
 | 0,l,b,hb=>⟨b,hb,.refl⟩
 | m+1,l,b,hb=>by
  rw[V2]at hb;obtain⟨a,c,e⟩:=bJ3 m _ b hb;rcases eE0.1 c with c|c
  .exact⟨a,c,e⟩
  .obtain⟨⟨d,g,f⟩,_⟩:=aA7.1 c;exact⟨d,g,(Y6.one f).trans e⟩
def N2{nx:List (List Int)}{S:List Bool}(j:OkR nx)(k:nx.length=S.length){b}:
  A5 (I0 nx S) b=true↔∃a,A5 S a=true/\Y6 nx a b:=by
 unfold I0;rw[ab1];have e:∀c∈af1 S,J2 nx.length c=true:=λc i=>by rw[k];exact W3 (R1.1 i)
 constructor
 .rintro⟨_,h⟩;obtain⟨a,g,f⟩:=bJ3 _ _ b h;exact⟨a,R1.1 g,f⟩
 .rintro⟨a,g,f⟩;have d:=R1.2 g;refine⟨by rw[<-k];exact ct9 j (e a d) f,?_⟩
  induction f with
  | refl=>exact bh7 _ _ _ d
  | step _ i l=>exact co0 j nx.length _ bU7 e om _ l _ i
def bO6{S T:List Bool}(f:S.length=T.length)(h:∀b,A5 S b=true↔A5 T b=true):S=T:=by
 refine eK8 f λk d e=>?_;have:=h (k:Int);unfold A5 at this;have a:J2 S.length (k:Int)=true:=C0.2 ⟨om,om⟩;have c:J2 T.length (k:Int)=true:=C0.2 ⟨om,om⟩;rw[a,c,eJ4,eJ4]at this;simp only[eF4,getD_eq_getElem?_getD,eD1 d,eD1 e,eI9]at this;exact eO8.2 this
def bq5{V:List Vx}{v:Vx}{a}(h:atV V v=some a):V[a]?=some v:=by
 unfold atV at h;obtain⟨b,c,_⟩:=List.findIdx?_eq_some_iff_getElem.1 h;rw[eD1 b];exact eE9 some (eD3 c)
def dt3{V:List Vx}{v:Vx}{a}(h:atV V v=some a):a<V.length:=(eD8.1 (bq5 h)).1
def Z8{V:List Vx}{v:Vx}:(atV V v).isSome=true↔v∈V:=by
 unfold atV;rw[findIdx?_isSome,eP6];simp
def dN0{V:List Vx}(hn:V.Nodup){v:Vx}{a}(h:V[a]?=some v):atV V v=some a:=by
 have hm:v∈V:=eF7 h;obtain⟨b,e⟩:=eJ0.1 (Z8.2 hm);obtain⟨g,c⟩:=eD8.1 h;obtain⟨i,d⟩:=eD8.1 (bq5 e);have f:=eK4.1 hn;have:a=b:=by
  rcases Nat.lt_trichotomy a b with h|h|h
  .exact fj (c.trans d.symm) (f a b g i h)
  .exact h
  .exact fj (d.trans c.symm) (f b a i g h)
 rw[e,this]
def V1{V:List Vx}(b:0<V.length)(v:Vx):C5 V v<V.length:=by
 unfold C5;cases h:atV V v with
 | none=>exact b
 | some a=>exact dt3 h
def db1{n}{f:Nat->List Int}{a b:Int}:b∈F1 ((range n).map f) a↔J2 n a=true/\b∈f a.toNat:=by
 unfold F1;rw[eE3,eI3];by_cases h:0<=a/\a<(n:Int)
 .have c:a.toNat<n:=om
  rw[fi h,getD_eq_getElem?_getD,eH2,eM3 c];simp[C0.2 h]
 .rw[fh h];simp only[eH6,false_iff];exact λd=>h (C0.1 d.1)
def au3{V:List Vx}{L:List Eg}{ks:List Int}:(V7 V L ks).length=V.length:=by simp[V7]
def Z0{V:List Vx}{L:List Eg}{ks:List Int}:(P9 V L ks).length=V.length:=by simp[P9]
def au2{V:List Vx}{L:List Eg}{ks:List Int}{a b}:b∈F1 (V7 V L ks) a↔J2 V.length a=true/\∃e∈L,e.kind∈ks/\((C5 V e.src:Nat):Int)=a/\((C5 V e.dst:Nat):Int)=b:=by
 unfold V7;rw[db1];refine and_congr_right λh=>?_;have:=C0.1 h;simp only[eF2,eF6,eF1,eE6,eH1];constructor
 .rintro⟨e,⟨c,d,g⟩,f⟩;exact⟨e,c,d,om,f⟩
 .rintro⟨e,c,d,g,f⟩;exact⟨e,⟨c,d,om⟩,f⟩
def bc3{V:List Vx}{L:List Eg}{ks:List Int}{a b}:b∈F1 (P9 V L ks) a↔J2 V.length a=true/\∃e∈L,e.kind∈ks/\((C5 V e.dst:Nat):Int)=a/\((C5 V e.src:Nat):Int)=b:=by
 unfold P9;rw[db1];refine and_congr_right λh=>?_;have:=C0.1 h;simp only[eF2,eF6,eF1,eE6,eH1];constructor
 .rintro⟨e,⟨c,d,g⟩,f⟩;exact⟨e,c,d,om,f⟩
 .rintro⟨e,c,d,g,f⟩;exact⟨e,⟨c,d,om⟩,f⟩
def an1{V:List Vx}(a:0<V.length)(v:Vx):J2 V.length ((C5 V v:Nat):Int)=true:=C0.2 ⟨om,by have:=V1 a v;omega⟩
def aA9{V:List Vx}{L:List Eg}{ks:List Int}(c:0<V.length):OkR (V7 V L ks):=λa b d=>by
 obtain⟨_,e,_,_,_,rfl⟩:=au2.1 d;rw[au3];exact an1 c _
def ae4{V:List Vx}{L:List Eg}{ks:List Int}(c:0<V.length):OkR (P9 V L ks):=λa b d=>by
 obtain⟨_,e,_,_,_,rfl⟩:=bc3.1 d;rw[Z0];exact an1 c _
def ch8{V:List Vx}{L:List Eg}{ks:List Int}(f:0<V.length){a b}:b∈F1 (V7 V L ks) a↔a∈F1 (P9 V L ks) b:=by
 rw[au2,bc3];constructor
 .rintro⟨_,e,c,d,rfl,rfl⟩;exact⟨an1 f _,e,c,d,rfl,rfl⟩
 .rintro⟨_,e,c,d,rfl,rfl⟩;exact⟨an1 f _,e,c,d,rfl,rfl⟩
def U1{V:List Vx}{L:List Eg}{ks:List Int}(e:0<V.length){a b}:Y6 (V7 V L ks) a b↔Y6 (P9 V L ks) b a:=by
 constructor
 .intro h
  induction h with
  | refl=>exact .refl
  | step _ c d=>exact(Y6.one ((ch8 e).1 c)).trans d
 .intro h
  induction h with
  | refl=>exact .refl
  | step _ c d=>exact(Y6.one ((ch8 e).2 c)).trans d
def dZ7(V:List Vx)(L:List Eg)(a b:Int):Prop:=∃m,Y6 (V7 V L [1,2,3,6]) a m/\Y6 (V7 V L [1,2,3,4,5]) m b
def aE7{α:Type}[BEq α][LawfulBEq α]:∀(n:Nat) (l:List α),l.length<=n->l.eraseDups.Nodup
 | _,[],_=>dG
 | 0,x::l,h=>by simp at h
 | n+1,x::l,h=>by
  rw[eraseDups_cons,eQ2];refine⟨λhm=>?_,aE7 n _ (eD7 (eG0 _ _) (by simpa using h))⟩;rw[mem_eraseDups,eF6]at hm;simp at hm
def aA6{V:List Vx}{out}{a:B9}{x e:Eg}:e∈aI0 V out a x↔(x.kind=6/\C5 V x.src=out)/\∃v,V[C5 V x.dst]?=some v/\(⟨v.proc,5,v.id,a⟩:Vx)∈V/\e=⟨⟨v.proc,5,v.id,a⟩,v,3⟩:=by
 unfold aI0;by_cases h:x.kind=(6:Int)/\C5 V x.src=out
 .rw[fi h];cases hv:V[(C5 V x.dst:Nat)]? with
  | none=>simp
  | some v=>
   by_cases h2:(atV V ⟨v.proc,5,v.id,a⟩).isSome=true
   .simp[h2,h,Z8.1 h2]
   .have c:(⟨v.proc,5,v.id,a⟩:Vx)∉V:=λb=>h2 (Z8.2 b);simp[h2,c]
 .rw[fh h];simp only[eH6,false_iff];exact λb=>h b.1
def aK7(V:List Vx)(L:List Eg)(e:Eg):Prop:=
 ∃(a:Nat) (c:Vx) (i:Int) (b:Vx),V[a]?=some c/\c.kind=4/\Y6 (V7 V L [1,2,3]) i (a:Int)/\V[i.toNat]?=some b/\b.kind=3/\∃x∈L,e∈aI0 V a b.slot x
def dC0{V:List Vx}{L:List Eg}{e:Eg}:e∈cs5 V L↔aK7 V L e:=by
 unfold cs5 aK7;simp only[eG1,eH7];have k:∀(b:Nat),0<V.length->∀i:Int,i∈af1 (I0 (P9 V L [1,2,3]) (W2 V.length [(b:Int)]))↔J2 V.length (b:Int)=true/\Y6 (V7 V L [1,2,3]) i (b:Int):=λb f i=>by
  rw[R1,N2 (ae4 f) (by rw[Z0,E0])];constructor
  .rintro⟨a,q,g⟩;obtain⟨j,l⟩:=ab1.1 q;simp at l;subst l;exact⟨j,(U1 f).2 g⟩
  .rintro⟨j,g⟩;exact⟨_,ab1.2 ⟨j,dG⟩,(U1 f).1 g⟩
 constructor
 .rintro⟨b,d,c⟩;have f:0<V.length:=om
  rw[eD1 d]at c;dsimp only at c;by_cases hk:V[b].kind=(4:Int)
  .rw[fh (λh=>h hk)]at c;unfold cs6 at c;obtain⟨i,r,c⟩:=eG1.1 c;obtain⟨_,g⟩:=(k b f i).1 r;cases hvi:V[i.toNat]? with
   | none=>rw[hvi]at c;simp at c
   | some n=>
    rw[hvi]at c;dsimp only at c;by_cases hki:n.kind=(3:Int)
    .rw[fh (λh=>h hki)]at c;obtain⟨x,m,c⟩:=eG1.1 c;exact⟨b,V[b],i,n,eD1 d,hk,g,hvi,hki,x,m,c⟩
    .rw[fi hki]at c;simp at c
  .rw[fi hk]at c;simp at c
 .rintro⟨b,t,i,n,j,l,g,o,p,x,m,c⟩;obtain⟨d,s⟩:=eD8.1 j;have f:0<V.length:=om
  refine⟨b,d,?_⟩;rw[j];dsimp only;rw[fh (λh=>h l)];unfold cs6;refine eG1.2 ⟨i,(k b f i).2 ⟨C0.2 ⟨om,om⟩,g⟩,?_⟩;rw[o];dsimp only;rw[fh (λh=>h p)];exact eG1.2 ⟨x,m,c⟩
def bZ0{V:List Vx}{L M:List Eg}{ks:List Int}(h:∀e∈L,e∈M){a b}(hw:Y6 (V7 V L ks) a b):Y6 (V7 V M ks) a b:=by
 induction hw with
 | refl=>exact .refl
 | step _ i k=>
  obtain⟨c,e,j,d,f,g⟩:=au2.1 i;exact .step k (au2.2 ⟨c,e,h e j,d,f,g⟩)
def aK7.le{V:List Vx}{L M:List Eg}(h:∀e∈L,e∈M){e:Eg}(a:aK7 V L e):aK7 V M e:=by
 obtain⟨b,m,i,l,c,d,j,f,g,x,k,a⟩:=a;exact⟨b,m,i,l,c,d,bZ0 h j,f,g,x,h x k,a⟩
def cm5(V:List Vx)(E S:List Eg):Prop:=∀e,aK7 V (E++S) e->e∈S
def bU1{V:List Vx}{E S:List Eg}{e:Eg}:e∈ag2 V E S↔e∈S\/aK7 V (E++S) e:=by
 unfold ag2;rw[eE0,mem_eraseDups,eF6,dC0];by_cases h:e∈S
 .simp[h]
 .simp[h]
def bS9{V:List Vx}{E C:List Eg}(c:cm5 V E C):∀(k:Nat) (S:List Eg),(∀e∈S,e∈C)->∀e∈I1 (ag2 V E) k S,e∈C
 | 0,S,h,e,he=>h e he
 | k+1,S,h,e,he=>by
  refine bS9 c k _ (λx a=>?_) e he;rcases bU1.1 a with a|a
  .exact h x a
  .refine c x (a.le λy b=>?_);rcases eE0.1 b with b|b
   .exact eF9 _ b
   .exact eH0 _ (h y b)
def cr0(V:List Vx):List Eg:=V.flatMap λa=>V.map λb=>⟨a,b,3⟩
def dn2{V:List Vx}:(cr0 V).length=V.length*V.length:=by
 have:∀(l:List Vx),(l.flatMap λa=>V.map λb=>(⟨a,b,3⟩:Eg)).length=l.length*V.length:=λl=>by
  induction l with
  | nil=>simp
  | cons x l c=>rw[eN2,eD4,c,eE3,eG6,Nat.succ_mul];omega
 exact this V
def aK7.pair{V:List Vx}{L:List Eg}{e:Eg}(h:aK7 V L e):e∈cr0 V:=by
 obtain⟨_,_,_,_,_,_,_,_,_,x,_,a⟩:=h;obtain⟨_,v,b,hm,rfl⟩:=aA6.1 a;exact eG1.2 ⟨_,hm,eF2.2 ⟨v,eF7 b,rfl⟩⟩
def cT3{V:List Vx}{E S:List Eg}(h:S.Nodup):(ag2 V E S).Nodup:=by
 unfold ag2;rw[eI6];refine⟨h,aE7 _ _ (eE8 _),λa d b c e=>?_⟩;subst e;rw[mem_eraseDups,eF6]at c;simp at c;exact c.2 d
def iter_ok{V:List Vx}{E:List Eg}:∀(k:Nat) (S:List Eg),S.Nodup->(∀e∈S,e∈cr0 V)->(I1 (ag2 V E) k S).Nodup/\∀e∈I1 (ag2 V E) k S,e∈cr0 V
 | 0,S,h1,h2=>⟨h1,h2⟩
 | k+1,S,h1,h2=>iter_ok k _ (cT3 h1) λe a=>by
  rcases bU1.1 a with h|h
  .exact h2 e h
  .exact h.pair
def dp3{V:List Vx}{E S:List Eg}(h:ag2 V E S≠S):S.length+1<=(ag2 V E S).length:=by
 unfold ag2 at h ⊢;rw[eD4];cases hz:((cs5 V (E++S)).filter λe=>!S.contains e).eraseDups with
 | nil=>rw[hz]at h;simp at h
 | cons x l=>simp
def cg0{V:List Vx}{E:List Eg}:∃k,k<=V.length*V.length+1/\ag2 V E (I1 (ag2 V E) k [])=I1 (ag2 V E) k []:=by
 refine eL3 λc=>?_;have a:∀k,k<=V.length*V.length+1->k<=(I1 (ag2 V E) k []).length:=by
  intro k
  induction k with
  | zero=>intro _;exact eE2 _
  | succ k g=>
   intro i;rw[af6];have:=dp3 (λb=>c ⟨k,om,b⟩);have:=g om;omega
 have h:=a _ (eE8 _);obtain⟨d,f⟩:=iter_ok (V:=V) (E:=E) (V.length*V.length+1) [] dG (λe b=>by simp at b);have:=J5 d f;rw[dn2]at this;omega
def aM0{V:List Vx}{E:List Eg}:cm5 V E (aD9 V E):=by
 obtain⟨k,c,a⟩:=cg0 (V:=V) (E:=E);unfold aD9;rw[aL1 k _ _ c a];intro e b;rw[<-a];exact bU1.2 (.inr b)
def bo3{V:List Vx}{E C:List Eg}(a:cm5 V E C):∀e∈aD9 V E,e∈C:=by
 obtain⟨k,c,d⟩:=cg0 (V:=V) (E:=E);unfold aD9;rw[aL1 k _ _ c d];exact bS9 a k [] (λe b=>by simp at b)
def dT2{V:List Vx}{E C:List Eg}(a:cm5 V E C)(b:∀e∈C,e∈aD9 V E):∀e,e∈C↔e∈aD9 V E:=λe=>⟨b e,bo3 a e⟩
def ck3{V:List Vx}{E C:List Eg}(c:∀e∈C,e∈aD9 V E){e:Eg}(b:aK7 V (E++C) e):e∈aD9 V E:=aM0 e (b.le λy a=>by
 rcases eE0.1 a with a|a
 .exact eF9 _ a
 .exact eH0 _ (c y a))
def bx9{V:List Vx}{L M:List Eg}{ks:List Int}(h:∀e,e∈L↔e∈M){a b}:Y6 (V7 V L ks) a b↔Y6 (V7 V M ks) a b:=⟨bZ0 λe c=>(h e).1 c,bZ0 λe c=>(h e).2 c⟩
end Go.Proofs.YtpebpfiglfmegaaGreat
namespace Go.Proofs
open Go.Shelf
def Tryz.lySortV_ren:Go.Shelf.Ren:=⟨fun|6=>145|15=>101|14=>205|28=>168|29=>169|20=>263|21=>264|22=>265|23=>266|24=>267|25=>268|26=>269|27=>270|46=>294|47=>221|48=>222|49=>295|50=>296|57=>315|n=>n,fun|22=>35|24=>27|25=>172|3=>3|39=>164|0=>0|53=>238|55=>240|4=>4|46=>231|45=>230|50=>85|5=>5|9=>9|66=>279|70=>283|76=>324|77=>325|n=>n,fun|n=>n⟩
def Tryz.lySortV:Go.Proofs.SlLaysF0.n6 Tryz.prog Tryz.lySortV_ren:={
 mixed:=kr
 f6:=⟨Tryz.f145.name,dR,tT Tryz.func145⟩
 f14:=⟨Tryz.f205.name,dR,tT Tryz.func205⟩
 f15:=tT Tryz.func101
 f20:=⟨Tryz.f263.name,dR,tT Tryz.func263⟩
 f21:=⟨Tryz.f264.name,dR,tT Tryz.func264⟩
 f22:=⟨Tryz.f265.name,dR,tT Tryz.func265⟩
 f23:=⟨Tryz.f266.name,dR,tT Tryz.func266⟩
 f24:=⟨Tryz.f267.name,dR,tT Tryz.func267⟩
 f25:=⟨Tryz.f268.name,dR,tT Tryz.func268⟩
 f26:=⟨Tryz.f269.name,dR,tT Tryz.func269⟩
 f27:=⟨Tryz.f270.name,dR,tT Tryz.func270⟩
 f28:=tT Tryz.func168
 f29:=tT Tryz.func169
 f46:=⟨Tryz.f294.name,dR,tT Tryz.func294⟩
 f47:=tT Tryz.func221
 f48:=tT Tryz.func222
 f49:=⟨Tryz.f295.name,dR,tT Tryz.func295⟩
 f50:=⟨Tryz.f296.name,dR,tT Tryz.func296⟩
 f57:=⟨Tryz.f315.name,dR,tT Tryz.func315⟩
 t0:=Tryz.underlying0
 a0:=Tryz.isAgg0
 z0:=Tryz.sizeOf0
 v0:=Tryz.zeroValue0
 t3:=Tryz.underlying3
 a3:=Tryz.isAgg3
 z3:=Tryz.sizeOf3
 v3:=Tryz.zeroValue3
 t4:=Tryz.underlying4
 a4:=Tryz.isAgg4
 z4:=Tryz.sizeOf4
 v4:=Tryz.zeroValue4
 t5:=Tryz.underlying5
 a5:=Tryz.isAgg5
 z5:=Tryz.sizeOf5
 v5:=Tryz.zeroValue5
 t9:=Tryz.underlying9
 a9:=Tryz.isAgg9
 z9:=Tryz.sizeOf9
 v9:=Tryz.zeroValue9
 t22:=Tryz.underlying35
 a22:=Tryz.isAgg35
 z22:=Tryz.sizeOf35
 v22:=Tryz.zeroValue35
 t25:=Tryz.underlying172
 a25:=Tryz.isAgg172
 z25:=Tryz.sizeOf172
 v25:=Tryz.zeroValue172
 t39:=Tryz.underlying164
 a39:=Tryz.isAgg164
 z39:=Tryz.sizeOf164
 v39:=Tryz.zeroValue164
 t45:=Tryz.underlying230
 a45:=Tryz.isAgg230
 z45:=Tryz.sizeOf230
 v45:=Tryz.zeroValue230
 t46:=Tryz.underlying231
 a46:=Tryz.isAgg231
 z46:=Tryz.sizeOf231
 v46:=Tryz.zeroValue231
 t50:=Tryz.underlying85
 a50:=Tryz.isAgg85
 z50:=Tryz.sizeOf85
 v50:=Tryz.zeroValue85
 t53:=Tryz.underlying238
 a53:=Tryz.isAgg238
 z53:=Tryz.sizeOf238
 v53:=Tryz.zeroValue238
 t55:=Tryz.underlying240
 a55:=Tryz.isAgg240
 z55:=Tryz.sizeOf240
 v55:=Tryz.zeroValue240
 t66:=Tryz.underlying279
 a66:=Tryz.isAgg279
 z66:=Tryz.sizeOf279
 v66:=Tryz.zeroValue279
 t70:=Tryz.underlying283
 a70:=Tryz.isAgg283
 z70:=Tryz.sizeOf283
 v70:=Tryz.zeroValue283
 t76:=Tryz.underlying324
 a76:=Tryz.isAgg324
 z76:=Tryz.sizeOf324
 v76:=Tryz.zeroValue324
 t77:=Tryz.underlying325
 a77:=Tryz.isAgg325
 z77:=Tryz.sizeOf325
 v77:=Tryz.zeroValue325}
def Tryz.lySortF_ren:Go.Shelf.Ren:=⟨fun|6=>215|15=>101|14=>277|28=>168|29=>169|20=>301|21=>302|22=>303|23=>304|24=>305|25=>306|26=>307|27=>308|46=>322|47=>221|48=>222|49=>323|50=>324|57=>339|n=>n,fun|22=>210|24=>213|25=>276|3=>3|39=>164|0=>0|53=>238|55=>240|4=>4|46=>231|45=>230|50=>85|5=>5|9=>9|66=>279|70=>283|76=>324|77=>325|n=>n,fun|n=>n⟩
def Tryz.lySortF:Go.Proofs.SlLaysF0.n6 Tryz.prog Tryz.lySortF_ren:={
 mixed:=kr
 f6:=⟨Tryz.f215.name,dR,tT Tryz.func215⟩
 f14:=⟨Tryz.f277.name,dR,tT Tryz.func277⟩
 f15:=tT Tryz.func101
 f20:=⟨Tryz.f301.name,dR,tT Tryz.func301⟩
 f21:=⟨Tryz.f302.name,dR,tT Tryz.func302⟩
 f22:=⟨Tryz.f303.name,dR,tT Tryz.func303⟩
 f23:=⟨Tryz.f304.name,dR,tT Tryz.func304⟩
 f24:=⟨Tryz.f305.name,dR,tT Tryz.func305⟩
 f25:=⟨Tryz.f306.name,dR,tT Tryz.func306⟩
 f26:=⟨Tryz.f307.name,dR,tT Tryz.func307⟩
 f27:=⟨Tryz.f308.name,dR,tT Tryz.func308⟩
 f28:=tT Tryz.func168
 f29:=tT Tryz.func169
 f46:=⟨Tryz.f322.name,dR,tT Tryz.func322⟩
 f47:=tT Tryz.func221
 f48:=tT Tryz.func222
 f49:=⟨Tryz.f323.name,dR,tT Tryz.func323⟩
 f50:=⟨Tryz.f324.name,dR,tT Tryz.func324⟩
 f57:=⟨Tryz.f339.name,dR,tT Tryz.func339⟩
 t0:=Tryz.underlying0
 a0:=Tryz.isAgg0
 z0:=Tryz.sizeOf0
 v0:=Tryz.zeroValue0
 t3:=Tryz.underlying3
 a3:=Tryz.isAgg3
 z3:=Tryz.sizeOf3
 v3:=Tryz.zeroValue3
 t4:=Tryz.underlying4
 a4:=Tryz.isAgg4
 z4:=Tryz.sizeOf4
 v4:=Tryz.zeroValue4
 t5:=Tryz.underlying5
 a5:=Tryz.isAgg5
 z5:=Tryz.sizeOf5
 v5:=Tryz.zeroValue5
 t9:=Tryz.underlying9
 a9:=Tryz.isAgg9
 z9:=Tryz.sizeOf9
 v9:=Tryz.zeroValue9
 t22:=Tryz.underlying210
 a22:=Tryz.isAgg210
 z22:=Tryz.sizeOf210
 v22:=Tryz.zeroValue210
 t25:=Tryz.underlying276
 a25:=Tryz.isAgg276
 z25:=Tryz.sizeOf276
 v25:=Tryz.zeroValue276
 t39:=Tryz.underlying164
 a39:=Tryz.isAgg164
 z39:=Tryz.sizeOf164
 v39:=Tryz.zeroValue164
 t45:=Tryz.underlying230
 a45:=Tryz.isAgg230
 z45:=Tryz.sizeOf230
 v45:=Tryz.zeroValue230
 t46:=Tryz.underlying231
 a46:=Tryz.isAgg231
 z46:=Tryz.sizeOf231
 v46:=Tryz.zeroValue231
 t50:=Tryz.underlying85
 a50:=Tryz.isAgg85
 z50:=Tryz.sizeOf85
 v50:=Tryz.zeroValue85
 t53:=Tryz.underlying238
 a53:=Tryz.isAgg238
 z53:=Tryz.sizeOf238
 v53:=Tryz.zeroValue238
 t55:=Tryz.underlying240
 a55:=Tryz.isAgg240
 z55:=Tryz.sizeOf240
 v55:=Tryz.zeroValue240
 t66:=Tryz.underlying279
 a66:=Tryz.isAgg279
 z66:=Tryz.sizeOf279
 v66:=Tryz.zeroValue279
 t70:=Tryz.underlying283
 a70:=Tryz.isAgg283
 z70:=Tryz.sizeOf283
 v70:=Tryz.zeroValue283
 t76:=Tryz.underlying324
 a76:=Tryz.isAgg324
 z76:=Tryz.sizeOf324
 v76:=Tryz.zeroValue324
 t77:=Tryz.underlying325
 a77:=Tryz.isAgg325
 z77:=Tryz.sizeOf325
 v77:=Tryz.zeroValue325}
def Tryz.lySortE_ren:Go.Shelf.Ren:=⟨fun|6=>108|15=>101|14=>180|28=>168|29=>169|20=>237|21=>238|22=>239|23=>240|24=>241|25=>242|26=>243|27=>244|46=>283|47=>221|48=>222|49=>284|50=>285|57=>310|n=>n,fun|22=>49|24=>54|25=>173|3=>3|39=>164|0=>0|53=>238|55=>240|4=>4|46=>231|45=>230|50=>85|5=>5|9=>9|66=>279|70=>283|76=>324|77=>325|n=>n,fun|n=>n⟩
def Tryz.lySortE:Go.Proofs.SlLaysF0.n6 Tryz.prog Tryz.lySortE_ren:={
 mixed:=kr
 f6:=⟨Tryz.f108.name,dR,tT Tryz.func108⟩
 f14:=⟨Tryz.f180.name,dR,tT Tryz.func180⟩
 f15:=tT Tryz.func101
 f20:=⟨Tryz.f237.name,dR,tT Tryz.func237⟩
 f21:=⟨Tryz.f238.name,dR,tT Tryz.func238⟩
 f22:=⟨Tryz.f239.name,dR,tT Tryz.func239⟩
 f23:=⟨Tryz.f240.name,dR,tT Tryz.func240⟩
 f24:=⟨Tryz.f241.name,dR,tT Tryz.func241⟩
 f25:=⟨Tryz.f242.name,dR,tT Tryz.func242⟩
 f26:=⟨Tryz.f243.name,dR,tT Tryz.func243⟩
 f27:=⟨Tryz.f244.name,dR,tT Tryz.func244⟩
 f28:=tT Tryz.func168
 f29:=tT Tryz.func169
 f46:=⟨Tryz.f283.name,dR,tT Tryz.func283⟩
 f47:=tT Tryz.func221
 f48:=tT Tryz.func222
 f49:=⟨Tryz.f284.name,dR,tT Tryz.func284⟩
 f50:=⟨Tryz.f285.name,dR,tT Tryz.func285⟩
 f57:=⟨Tryz.f310.name,dR,tT Tryz.func310⟩
 t0:=Tryz.underlying0
 a0:=Tryz.isAgg0
 z0:=Tryz.sizeOf0
 v0:=Tryz.zeroValue0
 t3:=Tryz.underlying3
 a3:=Tryz.isAgg3
 z3:=Tryz.sizeOf3
 v3:=Tryz.zeroValue3
 t4:=Tryz.underlying4
 a4:=Tryz.isAgg4
 z4:=Tryz.sizeOf4
 v4:=Tryz.zeroValue4
 t5:=Tryz.underlying5
 a5:=Tryz.isAgg5
 z5:=Tryz.sizeOf5
 v5:=Tryz.zeroValue5
 t9:=Tryz.underlying9
 a9:=Tryz.isAgg9
 z9:=Tryz.sizeOf9
 v9:=Tryz.zeroValue9
 t22:=Tryz.underlying49
 a22:=Tryz.isAgg49
 z22:=Tryz.sizeOf49
 v22:=Tryz.zeroValue49
 t25:=Tryz.underlying173
 a25:=Tryz.isAgg173
 z25:=Tryz.sizeOf173
 v25:=Tryz.zeroValue173
 t39:=Tryz.underlying164
 a39:=Tryz.isAgg164
 z39:=Tryz.sizeOf164
 v39:=Tryz.zeroValue164
 t45:=Tryz.underlying230
 a45:=Tryz.isAgg230
 z45:=Tryz.sizeOf230
 v45:=Tryz.zeroValue230
 t46:=Tryz.underlying231
 a46:=Tryz.isAgg231
 z46:=Tryz.sizeOf231
 v46:=Tryz.zeroValue231
 t50:=Tryz.underlying85
 a50:=Tryz.isAgg85
 z50:=Tryz.sizeOf85
 v50:=Tryz.zeroValue85
 t53:=Tryz.underlying238
 a53:=Tryz.isAgg238
 z53:=Tryz.sizeOf238
 v53:=Tryz.zeroValue238
 t55:=Tryz.underlying240
 a55:=Tryz.isAgg240
 z55:=Tryz.sizeOf240
 v55:=Tryz.zeroValue240
 t66:=Tryz.underlying279
 a66:=Tryz.isAgg279
 z66:=Tryz.sizeOf279
 v66:=Tryz.zeroValue279
 t70:=Tryz.underlying283
 a70:=Tryz.isAgg283
 z70:=Tryz.sizeOf283
 v70:=Tryz.zeroValue283
 t76:=Tryz.underlying324
 a76:=Tryz.isAgg324
 z76:=Tryz.sizeOf324
 v76:=Tryz.zeroValue324
 t77:=Tryz.underlying325
 a77:=Tryz.isAgg325
 z77:=Tryz.sizeOf325
 v77:=Tryz.zeroValue325}
def Tryz.lySortP_ren:Go.Shelf.Ren:=⟨fun|6=>288|15=>101|14=>311|28=>168|29=>169|20=>325|21=>326|22=>327|23=>328|24=>329|25=>330|26=>331|27=>332|46=>340|47=>221|48=>222|49=>341|50=>342|57=>344|n=>n,fun|22=>222|24=>302|25=>332|3=>3|39=>164|0=>0|53=>238|55=>240|4=>4|46=>231|45=>230|50=>85|5=>5|9=>9|66=>279|70=>283|76=>324|77=>325|n=>n,fun|n=>n⟩
def Tryz.lySortP:Go.Proofs.SlLaysF0.n6 Tryz.prog Tryz.lySortP_ren:={
 mixed:=kr
 f6:=⟨Tryz.f288.name,dR,tT Tryz.func288⟩
 f14:=⟨Tryz.f311.name,dR,tT Tryz.func311⟩
 f15:=tT Tryz.func101
 f20:=⟨Tryz.f325.name,dR,tT Tryz.func325⟩
 f21:=⟨Tryz.f326.name,dR,tT Tryz.func326⟩
 f22:=⟨Tryz.f327.name,dR,tT Tryz.func327⟩
 f23:=⟨Tryz.f328.name,dR,tT Tryz.func328⟩
 f24:=⟨Tryz.f329.name,dR,tT Tryz.func329⟩
 f25:=⟨Tryz.f330.name,dR,tT Tryz.func330⟩
 f26:=⟨Tryz.f331.name,dR,tT Tryz.func331⟩
 f27:=⟨Tryz.f332.name,dR,tT Tryz.func332⟩
 f28:=tT Tryz.func168
 f29:=tT Tryz.func169
 f46:=⟨Tryz.f340.name,dR,tT Tryz.func340⟩
 f47:=tT Tryz.func221
 f48:=tT Tryz.func222
 f49:=⟨Tryz.f341.name,dR,tT Tryz.func341⟩
 f50:=⟨Tryz.f342.name,dR,tT Tryz.func342⟩
 f57:=⟨Tryz.f344.name,dR,tT Tryz.func344⟩
 t0:=Tryz.underlying0
 a0:=Tryz.isAgg0
 z0:=Tryz.sizeOf0
 v0:=Tryz.zeroValue0
 t3:=Tryz.underlying3
 a3:=Tryz.isAgg3
 z3:=Tryz.sizeOf3
 v3:=Tryz.zeroValue3
 t4:=Tryz.underlying4
 a4:=Tryz.isAgg4
 z4:=Tryz.sizeOf4
 v4:=Tryz.zeroValue4
 t5:=Tryz.underlying5
 a5:=Tryz.isAgg5
 z5:=Tryz.sizeOf5
 v5:=Tryz.zeroValue5
 t9:=Tryz.underlying9
 a9:=Tryz.isAgg9
 z9:=Tryz.sizeOf9
 v9:=Tryz.zeroValue9
 t22:=Tryz.underlying222
 a22:=Tryz.isAgg222
 z22:=Tryz.sizeOf222
 v22:=Tryz.zeroValue222
 t25:=Tryz.underlying332
 a25:=Tryz.isAgg332
 z25:=Tryz.sizeOf332
 v25:=Tryz.zeroValue332
 t39:=Tryz.underlying164
 a39:=Tryz.isAgg164
 z39:=Tryz.sizeOf164
 v39:=Tryz.zeroValue164
 t45:=Tryz.underlying230
 a45:=Tryz.isAgg230
 z45:=Tryz.sizeOf230
 v45:=Tryz.zeroValue230
 t46:=Tryz.underlying231
 a46:=Tryz.isAgg231
 z46:=Tryz.sizeOf231
 v46:=Tryz.zeroValue231
 t50:=Tryz.underlying85
 a50:=Tryz.isAgg85
 z50:=Tryz.sizeOf85
 v50:=Tryz.zeroValue85
 t53:=Tryz.underlying238
 a53:=Tryz.isAgg238
 z53:=Tryz.sizeOf238
 v53:=Tryz.zeroValue238
 t55:=Tryz.underlying240
 a55:=Tryz.isAgg240
 z55:=Tryz.sizeOf240
 v55:=Tryz.zeroValue240
 t66:=Tryz.underlying279
 a66:=Tryz.isAgg279
 z66:=Tryz.sizeOf279
 v66:=Tryz.zeroValue279
 t70:=Tryz.underlying283
 a70:=Tryz.isAgg283
 z70:=Tryz.sizeOf283
 v70:=Tryz.zeroValue283
 t76:=Tryz.underlying324
 a76:=Tryz.isAgg324
 z76:=Tryz.sizeOf324
 v76:=Tryz.zeroValue324
 t77:=Tryz.underlying325
 a77:=Tryz.isAgg325
 z77:=Tryz.sizeOf325
 v77:=Tryz.zeroValue325}
end Go.Proofs
namespace Go.Proofs.YtpebpfiglfmegaaGreat
open Go Tryz List IntKind Region
section
variable {α:Type} [A9 α] {P:Program} {h:Hp} {w:World} {t T sz by_:Nat} {v:Value} {x:α}
def cw9(hv:SV h v x)(hw:E6 h (n8 w)):∃a c,(Instr.box T v).run P w = .ok (.pointer (some a)) c/\Gr w c/\At (n8 c) a x:=by
 obtain⟨b,rfl,d⟩:=hv;refine⟨⟨w.heap.size,0,none⟩,w.alloc (.cells (toArray b) T),rfl,Gr.alloc _ _,b,A9.mono (A3 hw (b7 (o6.alloc w (.cells (toArray b) T)))) d,λj u e=>?_⟩;rw[<-ao3,add_lit,eH5,eP9];simpa using e
def dQ8(q:I4 P t T sz by_=true){xs:List Value}{ys:List α}{parts:Array (Nat×Value)}{n}(m:parts.toList=(xs.zipIdx 0).map λp=>(p.2,p.1))
  (b:V4 h (xs.flatMap (·.cells.toList)) ys) (r:∀x∈xs,x.cells.size=sz) (hn:n=xs.length) (a:ys.length=xs.length) (d:xs≠[]) (c:xs.length<=16) (hw:E6 h (n8 w)) :
  ∃v e,(Instr.buildSlice t n parts).run P w = .ok v e/\B7 h e T v ys/\Gr w e:=by
 obtain⟨g,⟨z,f,s⟩,j,u,y,A⟩:=ab3 q;obtain⟨i,k,l⟩:=B1 f;have o:=aJ5 (w:=w) g (by rw[k];rfl) f xs (by rw[j];exact r) d om (eD7 (Nat.mul_le_mul c (show O7 P T<=1000000 by omega)) om) m hn;refine⟨_,_,o,.inr ⟨w.heap.size,n,_,by rw[hn,a],aT4 hw (eE8 _),eH3 w _,om,by rw[hn];simp only[maxLen];omega,?_,?_⟩,Gr.alloc _ _⟩
 .have:=Q9 b;simp only[eO0,this,a,hn]
 .rw[<-Q9 b];simp only[eE4];exact b
def SV.ofN[A0 α](h)(x:α):SV h (.agg (A0.cells x).toArray) x:=⟨_,rfl,(A0.iff_ _ _ _).2 rfl⟩
end
def cD9(s w):p7 prog 182 #[.int .i64 s] w λu a=>(u = .bool false/\a=w):=by
 apply y5 [.int .i64 s] func182 rfl;have b:decide (s=s)=true:=dG
 simp only[eQ,simprocAttr];exact o8 results182 ⟨rfl,rfl⟩
def af0(a b w):p7 prog 112 #[.int .i64 a,.int .i64 b] w λu d=>(u = .int .i64 (O6 a b)/\d=w):=by
 apply y5 [a,b] func112 rfl;simp only[eQ,simprocAttr];apply F6 (cD9 a w);simp only[p6,simprocAttr];apply F6 (cD9 b w);have c:O6 a b=if a<b then -1 else if b<a then 1 else 0:=rfl;rcases eD2 (decide (a<b))with h1|h1
 .simp only[eQ,simprocAttr,h1];apply o8 results112;simp only[C9,simprocAttr];exact⟨by rw[c,fi (eD3 h1)],tt⟩
 rw[fh (eD6 h1)]at c;rcases eD2 (decide (b<a))with h2|h2
 .simp only[eQ,simprocAttr,h1,h2];apply o8 results112;simp only[C9,simprocAttr];exact⟨by rw[c,fi (eD3 h2)],tt⟩
 .simp only[eQ,simprocAttr,h1,h2];apply o8 results112;simp only[C9,simprocAttr];exact⟨by rw[c,fh (eD6 h2)],tt⟩
def aR1(a b:B9)(w):p7 prog 181 #[a,b] w λu g=>(u=(am5 a b)/\g=w):=by
 apply y5 [a,b] func181 rfl;simp only[eQ,simprocAttr];apply F6 (bU3 a w);simp only[p6,simprocAttr];apply F6 (bU3 b w);have f:am5 a b=if ltS a b then -1 else if ltS b a then 1 else 0:=rfl;have c:(!(ltS a b||decide (a=b)))=(!ltS a b&&ltS b a):=by
  cases h1:ltS a b<;>cases h2:ltS b a
  .have:=cq0 h1 h2;subst this;simp
  .have:a≠b:=λe=>by subst e;rw[Q5]at h2;cases h2
   simp[this]
  .rfl
  .rfl
 rcases eD2 (ltS a b)with h1|h1
 .simp only[eQ,simprocAttr,h1];apply o8 results181;simp only[C9,simprocAttr];exact⟨by rw[f,fi h1],tt⟩
 rw[fh (by rw[h1];simp)]at f;rw[h1]at c;simp only[eO3,Bool.not_false,eJ4]at c;have d:E2 prog .gtr 9 a b=some (.bool (ltS b a)):=by rw[dN1,h1,eO3,c]
 rcases eD2 (ltS b a)with h2|h2
 .simp only[eQ,simprocAttr,h1,h2,d];apply o8 results181;simp only[C9,simprocAttr];exact⟨by rw[f,fi h2],tt⟩
 .simp only[eQ,simprocAttr,h1,h2,d];apply o8 results181;simp only[C9,simprocAttr];exact⟨by rw[f,fh (by rw[h2];simp)],tt⟩
def aI6{h v}{l:List Int}{w}(hv:R h v l)(hw:E6 h (n8 w)){k}(a:k<l.length):(Instr.loadAt 3 (I2 v k)).run prog w = .ok (l[k]) w:=
 O4 (P:=prog) (t:=3) hv hw (eD1 a) K7
def cm3(v)(l:List Int)(w)(hv:R (n8 w) v l)(n:l.length<=1000000000):p7 prog 110 #[v] w λu h=>(u=(orF l)/\h=w):=by
 apply y5 [v] func110 rfl;simp only[eQ,simprocAttr,hv.isS,hv.vlen];refine B4 [3,6,7] (σ:=Nat) (λk f h=>f 8=k/\k<=l.length/\orF l=orF (l.drop k)/\h=w) (λk=>l.length-k) 0 ?_ ?_
 .exact⟨rfl,eE2 _,by rw[eM9],rfl⟩
 rintro k f o ⟨e,i,j,_⟩ ⟨g,m,a,rfl⟩;simp only[eQ,simprocAttr,g,j];refine A7 (λc=>?_) ?_;rotate_left
 .rintro rfl;rw[eN6,orF]at a;simp only[p6,simprocAttr,e];apply o8 results110;simp only[C9,simprocAttr];exact⟨by rw[a],tt⟩
 have d:=hv.inS c;have b:=aI6 hv (n7 _) c;rw[eI2 c,orF]at a;generalize l[k]=y at b a;rcases eD2 (decide (y=0))with hq|hq
 .rw[fi (eD3 hq)]at a;simp only[p6,n9,A6,simprocAttr,g,e,i,d,b,hq];exact U5 (k+1) ⟨a,tt⟩
 .rw[fh (eD6 hq)]at a;simp only[p6,n9,A6,simprocAttr,g,e,i,d,b,hq];apply o8 results110;simp only[C9,simprocAttr];exact⟨by rw[a],tt⟩
def az8(a w):p7 prog 217 #[.int .i64 a] w λu b=>(u = .int .i64 (I5 a)/\b=w):=by
 apply y5 [a] func217 rfl;rcases eD2 (decide (a = -1))with h1|h1
 .simp only[eQ,simprocAttr,h1];apply o8 results217;simp only[C9,simprocAttr];exact⟨by rw[I5,fi (eD3 h1)],tt⟩
 .simp only[eQ,simprocAttr,h1];apply o8 results217;simp only[C9,simprocAttr];exact⟨by rw[I5,fh (eD6 h1)],tt⟩
def dp1(x y:Sp)(w):p7 prog 289 #[.agg (A0.cells x).toArray,.agg (A0.cells y).toArray] w λu d=>(u = .int .i64 (spC x y)/\Gr w d):=by
 apply y5 [.agg (A0.cells x).toArray,.agg (A0.cells y).toArray] func289 rfl;obtain⟨a,C,i,k,r⟩:=cw9 (P:=prog) (T:=302) (SV.ofN (n8 w) x) (n7 _);obtain⟨b,c,j,e,s⟩:=cw9 (P:=prog) (T:=302) (SV.ofN (n8 C) y) (n7 _);obtain⟨_,z⟩:=(r.mono (b7 e.ext)).sp;obtain⟨_,A⟩:=s.sp;have t:=z (λd=>Gr c.drew d) c.drew (Gr.refl _) λd h=>b7 ((Gr.drew c).trans h).ext;have v:=A (λd=>Gr c.drew d) c.drew (Gr.refl _) λd h=>b7 ((Gr.drew c).trans h).ext;simp only[eQ,simprocAttr,i,j];refine C4 (λd=>Gr c.drew d) 18 (A8 [0,1,3,4,7,8,10,11,14,15,16,17,2,5,6,9,12,13]) ?_ (hS:=Gr.refl _);simp only[D7,A8,p6,n9,simprocAttr,t,v];refine F6 (az8 _ _) ⟨Gr.refl _,?_⟩;simp only[ff,simprocAttr];refine F6 (az8 _ _) ⟨Gr.refl _,?_⟩;simp only[ff,simprocAttr];refine F6 (af0 _ _ _) ⟨Gr.refl _,?_⟩;simp only[ff,simprocAttr];refine F6 (az8 _ _) ⟨Gr.refl _,?_⟩;simp only[ff,simprocAttr];refine F6 (az8 _ _) ⟨Gr.refl _,?_⟩;simp only[ff,simprocAttr];refine F6 (af0 _ _ _) ⟨Gr.refl _,?_⟩;simp only[ff,simprocAttr];apply F6 (af0 _ _ _);generalize m:[O6 (I5 x.src) (I5 y.src),O6 (I5 x.dst) (I5 y.dst),O6 x.kind y.kind]=l;have q:spC x y=orF l:=by rw[<-m];rfl
 have p:l.length=3:=by rw[<-m];rfl
 obtain⟨B,D,g,o,f⟩:=dQ8 (P:=prog) (w:=c.drew) (h:=n8 c.drew) (α:=Int) (xs:=[.int .i64 (O6 (I5 x.src) (I5 y.src)),.int .i64 (O6 (I5 x.dst) (I5 y.dst)),.int .i64 (O6 x.kind y.kind)]) (ys:=l) (parts:=#[(0,.int .i64 (O6 (I5 x.src) (I5 y.src))),(1,.int .i64 (O6 (I5 x.dst) (I5 y.dst))),(2,.int .i64 (O6 x.kind y.kind))]) (n:=3) V8 rfl (by rw[<-m];exact G6.2 rfl) (by simp[Value.cells]) rfl p dG dG (n7 _);simp only[p6,simprocAttr,g];apply F6 (cm3 B l D (o.rw_ (b7 f.ext)) om);simp only[p6,simprocAttr];apply o8 results289;simp only[C9,simprocAttr];exact⟨by rw[q],k.trans (e.trans ((Gr.drew c).trans f))⟩
def cH9(x y:Sp)(vx vy w)(m:SV (n8 w) vx x)(n:SV (n8 w) vy y):p7 prog 291 #[vx,vy] w λu q=>(u=(aB6 x y)/\o6 w q):=by
 apply y5 [vx,vy] func291 rfl;obtain⟨a,r,e,c,k⟩:=cX2 m (n7 _);obtain⟨b,j,f,d,l⟩:=cX2 (n.mono (b7 c)) (n7 _);obtain⟨o,_⟩:=k.sp;obtain⟨p,_⟩:=l.sp;have h:=o j (b7 d);have i:=p j (n7 _);have g:aB6 x y=(decide (x.src=y.src)&&decide (x.dst=y.dst)):=rfl;rcases eD2 (decide (x.src=y.src))with h1|h1
 .simp only[eQ,simprocAttr,e,f,h,i,h1];apply o8 results291;simp only[C9,simprocAttr];exact⟨by rw[g,h1,eJ4],c.trans d⟩
 .simp only[eQ,simprocAttr,e,f,h,i,h1];apply o8 results291;exact⟨by rw[g,h1];rfl,c.trans d⟩
def dW1:Cm spC:=by
 have h:=(aZ6.key (λx:Sp=>I5 x.src)).lex ((aZ6.key (λx:Sp=>I5 x.dst)).lex ((aZ6.key (λx:Sp=>x.kind)).lex Cm.zero));have e:spC=λx y:Sp=>if O6 (I5 x.src) (I5 y.src)=0 then(if O6 (I5 x.dst) (I5 y.dst)=0 then(if O6 x.kind y.kind=0 then 0 else O6 x.kind y.kind)else O6 (I5 x.dst) (I5 y.dst))else O6 (I5 x.src) (I5 y.src):=by
  funext x y
  simp only[spC,orF]
 rw[e];exact h
def plc(a:Int):Prop:=a<9223372036854775807
def bv7{a b}(c:plc a)(hb:plc b)(h:I5 a=I5 b):a=b:=by
 unfold I5 plc at *;split at h<;>split at h<;>omega
def dT0{l:List Sp}(d:∀x∈l,plc x.src/\plc x.dst):∀a∈l,∀b∈l,decide (spC a b<=0)=true->decide (spC b a<=0)=true->a=b:=by
 intro a e b f g h;have m:=eD3 g;have n:=eD3 h;have o:=dW1.anti a b;have c:spC a b=0:=om
 unfold spC at c;simp only[orF]at c;by_cases q1:O6 (I5 a.src) (I5 b.src)=0
 .rw[fi q1]at c;by_cases q2:O6 (I5 a.dst) (I5 b.dst)=0
  .rw[fi q2]at c;by_cases q3:O6 a.kind b.kind=0
   .have i:=bv7 (d a e).1 (d b f).1 (ak7 q1);have j:=bv7 (d a e).2 (d b f).2 (ak7 q2);have k:=ak7 q3;cases a;cases b;simp_all
   .rw[fh q3]at c;exact fj c q3
  .rw[fh q2]at c;exact fj c q2
 .rw[fh q1]at c;exact fj c q1
def dm2:(Tryz.lySortP_ren.f 6)=288:=kr
def ch1:(Tryz.lySortP_ren.t 24)=302:=kr
def bX1:I4 prog 222 302 3 24=true:=kr
def cH8{h w v}{xs:List Sp}(i:B7 h w 302 v xs)(g:xs.length<=1000000000)(j:∀x∈xs,plc x.src/\plc x.dst):
  Calls prog 288 #[v,.func (.func 289) #[] #[]] w λe a=>∃u,e = .returned u/\(B7 h a 302 v (af2 dp2 xs)/\t8 (B0 v) w a):=by
 rw[<-dm2];have b:∀w,(isAgg (Tryz.lySortP_ren.t 24)).run prog w = .ok true w:=λw=>by
  rw[ch1,al5 _ cU9,cU2]
 have k:∀w,(Go.sizeOf (Tryz.lySortP_ren.t 24)).run prog w = .ok (A9.sz Sp) w:=λw=>by
  rw[ch1,X3 bY3,bo6];rfl
 exact bh1 (P:=prog) (T:=302) Tryz.lySortP b k spC dW1 289 (enters_of func289 kr rfl) (λx y w=>(dp1 x y w).mono λe a ⟨u,c,d,f⟩=>⟨by rw[c,d],f⟩) i g (dT0 j)
section
variable {α:Type} [A9 α] [A0 α] {P:Program} {h:Hp} {w:World} {t T:TypeId} {v:Value} {xs:List α}
def bG8{xs:List α}{k}(a:k<xs.length)(y:α):(xs.set k y).flatMap A0.cells=(xs.flatMap A0.cells).take (k*A9.sz α)++A0.cells y++(xs.flatMap A0.cells).drop (k*A9.sz α+A9.sz α):=by
 have e:xs=xs.take k++(xs[k]::xs.drop (k+1)):=by
  have:=eH8 k xs;rw[eI2 a]at this;exact this.symm
 have f:xs.set k y=xs.take k++(y::xs.drop (k+1)):=by rw[set_eq_take_append_cons_drop,fi a]
 have b:((xs.take k).flatMap A0.cells).length=k*A9.sz α:=by rw[aj4,eE5,eJ7 (Nat.le_of_lt a)]
 rw[f]
 conv=>rhs;rw[e]
 simp only[eN5,eN2];have c:((xs.take k).flatMap A0.cells++(A0.cells xs[k]++(xs.drop (k+1)).flatMap A0.cells)).take (k*A9.sz α)=(xs.take k).flatMap A0.cells:=by rw[<-b,eN4]
 have d:((xs.take k).flatMap A0.cells++(A0.cells xs[k]++(xs.drop (k+1)).flatMap A0.cells)).drop (k*A9.sz α+A9.sz α)=(xs.drop (k+1)).flatMap A0.cells:=by
  rw[<-eG4,<-b,<-aF8 xs[k],<-eD4,drop_left]
 rw[c,d,eG4]
def bn4(I:B7 h w T v xs)(G:(P.info? t).isSome=true)(J:O7 P t=A9.sz α){k}(m:k<xs.length)(y:α):
  ∃j,(Instr.storeAt t (I2 v (k*A9.sz α)) (.agg (A0.cells y).toArray)).run P w = .ok () j/\B7 h j T v (xs.set k y)/\t8 (B0 v) w j:=by
 rcases db5 I with⟨rfl,rfl⟩|⟨b,c,d,rfl,C,D,s,E,n,F⟩
 .simp at m
 have q:k*A9.sz α+A9.sz α<=xs.length*A9.sz α:=by
  have:=eN1 (A9.sz α) (Nat.succ_le_of_lt m);rw[Nat.succ_mul]at this;exact this
 have p:xs.length*A9.sz α<=d.size:=by rw[n];exact eN1 _ s
 have f:(A0.cells y).length=A9.sz α:=aF8 y;obtain⟨j,z,A,B⟩:=cW9 (P:=P) (t:=t) (cs:=A0.cells y) (o:=k*A9.sz α) D (by rw[f];omega) (ad6 y) G (by rw[J,f]);have r:I2 (.slice (some ⟨b,0,none⟩) xs.length c) (k*A9.sz α)=⟨b,k*A9.sz α,none⟩:=by
  show(⟨b,0,none⟩:Addr).add _=_;rw[add_lit,eH5]
 refine⟨j,by rw[r];exact z,?_,B.weaken λ_ _ e=>by subst e;rfl⟩;have a:(xs.set k y).length=xs.length:=dG
 have g:d.toList=xs.flatMap A0.cells++d.toList.drop (xs.length*A9.sz α):=by rw[<-F,eH8]
 have i:=aj4 xs;have:=bu7 (l:=xs.set k y) C A (by rw[a];exact s) E ?_ ?_
 .rw[a]at this;exact this
 .simp only[eO0,eD4,eE5,eK0,eQ6,f,n];rw[n]at p;omega
 .rw[a,toList_toArray,bG8 m,f];have u:d.toList.take (k*A9.sz α)=(xs.flatMap A0.cells).take (k*A9.sz α):=by
   rw[g,eJ6 (by rw[i];omega)]
  have x:d.toList.drop (k*A9.sz α+A9.sz α)=(xs.flatMap A0.cells).drop (k*A9.sz α+A9.sz α)++d.toList.drop (xs.length*A9.sz α):=by
   conv=>lhs;rw[g]
   rw[drop_append_of_le_length (by rw[i];exact q)]
  rw[u,x,<-eG4];have H:((xs.flatMap A0.cells).take (k*A9.sz α)++A0.cells y++(xs.flatMap A0.cells).drop (k*A9.sz α+A9.sz α)).length=xs.length*A9.sz α:=by
   rw[<-bG8 m,aj4,a]
  rw[<-H,eN4]
def bC3(U:B7 h w T v xs){ty}(V:P6 P t=some T){z:Value}(W:I7 P T=some z)(E:z.cells.size=A9.sz α)(C:∀u∈z.cells.toList,u.oneCell'=true){i}(S:i<xs.length):
  ∃n,(Builtin.clear_ #[t] ty #[reS v i xs.length (A9.sz α)]).run P w = .ok (.tuple #[]) n/\B7 h n T (reS v 0 i (A9.sz α)) (xs.take i)/\t8 (B0 v) w n/\∀b,B0 (reS v 0 i (A9.sz α)) b->B0 v b:=by
 rcases db5 U with⟨rfl,rfl⟩|⟨b,c,d,rfl,M,N,O,Q,p,R⟩
 .simp at S
 obtain⟨X,g,a⟩:=B1 W;have D:(zeroValue T).run P w = .ok z w:=by
  unfold zeroValue;simp[Q7,g,a]
 have I:=A9.pos (α:=α);have q:¬c=0:=om
 have r:¬c=i:=om
 have A:reS (.slice (some ⟨b,0,none⟩) xs.length c) i xs.length (A9.sz α) = .slice (some ⟨b,i*A9.sz α,none⟩) (xs.length-i) (c-i):=by
  simp only[reS,fh r,eJ9,add_lit,eH5]
 have j:reS (.slice (some ⟨b,0,none⟩) xs.length c) 0 i (A9.sz α) = .slice (some ⟨b,0,none⟩) i c:=by
  simp only[reS,fh q,eJ9,Nat.zero_mul,add_lit,Nat.sub_zero]
 have k:(Builtin.zeroCells z.cells (xs.length-i)).toList.length=(xs.length-i)*A9.sz α:=by simp[Builtin.zeroCells,E]
 have H:i*A9.sz α+(xs.length-i)*A9.sz α=xs.length*A9.sz α:=by rw[<-eP3];congr 1;omega
 have s:xs.length*A9.sz α<=d.size:=by rw[p];exact eN1 _ O
 obtain⟨n,F,K,L⟩:=bx2 (P:=P) (T:=T) b (i*A9.sz α) (Builtin.zeroCells z.cells (xs.length-i)).toList 0 d w N (by rw[k];omega) (by
  intro u J;simp only[Builtin.zeroCells,Array.toList_map,eF2]at J;obtain⟨m,_,rfl⟩:=J;have hm:m % z.cells.size<z.cells.size:=Nat.mod_lt _ om;rw[getElem!_pos z.cells _ hm];exact C _ dG)
 refine⟨n,?_,?_,L.weaken λ_ _ e=>by subst e;rfl,λY f=>by rw[j]at f;exact f⟩
 .rw[A];unfold Builtin.clear_;have y:∃m,xs.length-i=m+1:=⟨xs.length-i-1,om⟩;obtain⟨m,hm⟩:=y;rw[hm]at F ⊢;simp only[getElem?_toArray,getElem?_cons_zero,eG2,J6,R7 V,eF5,D,F,eH9]
 .rw[j];have o:(xs.take i).length=i:=by rw[eE5];omega
  have:=bu7 (l:=xs.take i) M K (by rw[o];omega) Q ?_ ?_
  .rw[o]at this;exact this
  .simp only[Nat.add_zero,eO0,eD4,eE5,eK0,eQ6,k];rw[p];rw[p]at s;omega
  .rw[o,Nat.add_zero,toList_toArray,eG4,eJ6 (by rw[eE5,eQ6];omega),take_take,Nat.min_self];have:i*A9.sz α<=xs.length*A9.sz α:=eN1 _ om;have G:=eE9 (take (i*A9.sz α)) R;rw[take_take,eJ7 this]at G;rw[G];have B:xs.flatMap A0.cells=(xs.take i).flatMap A0.cells++(xs.drop i).flatMap A0.cells:=by rw[<-eN5,eH8]
   have x:((xs.take i).flatMap A0.cells).length=i*A9.sz α:=by rw[aj4,o]
   rw[B,<-x,eN4]
end
def bU6{P}{K:Fr->World->Prop}{f:Fr}{w:World}{d:Option Nat}{ty:TypeId}{b:String}{a:Array Edge}{x:Operand}{c:Array TypeId}:D1 P none ⟨d,.call {callee:=.builtin .clear,args:=#[x],argTypes:=c},ty,b,a,none⟩ K f w=as8 ((Builtin.clear_ c ty #[ev f x]).run P w) K f d:=by
 simp[D1,aJ2,al2,bz0,bK7]
def bP7{α:Type}(a:α->α->Bool):∀(l:List α) (p y:α),at6 a p (l++[y])=if a y (l.getLast?.getD p)then at6 a p l else at6 a p l++[y]
 | [],p,y=>by
  simp[at6];rfl
 | x::l,p,y=>by
  have c:=bP7 a l x y;have b:((x::l).getLast?.getD p)=l.getLast?.getD x:=by
   cases l with
   | nil=>rfl
   | cons z l=>
    rw[getLast?_cons_cons];cases h:(z::l).getLast? with
    | none=>simp at h
    | some q=>rfl
  rw[eP1,at6,at6,b,c];by_cases h:a x p=true
  .rw[fi h,fi h]
  .rw[fh h,fh h];split<;>simp
def aH5{α:Type}(a:α->α->Bool)(xs:List α){k}(b:k<xs.length)(c:0<k):at5 a (xs.take (k+1))=if a xs[k] xs[k-1]then at5 a (xs.take k)else at5 a (xs.take k)++[xs[k]]:=by
 rw[eD9 b];cases xs with
 | nil=>simp at b
 | cons x l=>
  obtain⟨m,rfl⟩:∃m,k=m+1:=⟨k-1,om⟩;simp only[eP8,eP1,at5,eO5,Nat.add_sub_cancel];rw[bP7];have hm:m<l.length:=by simpa using b
  have:(l.take m).getLast?.getD x=(x::l)[m]'(by simp;omega):=by
   cases m with
   | zero=>rfl
   | succ m=>
    rw[getLast?_eq_getElem?,eE5,eJ7 om,eM1,fi om,eD1 om];simp
  rw[this];split<;>simp
def ao9{α:Type}(a:α->α->Bool)(xs:List α):∀k,k<=xs.length->(∀j (b:j<xs.length),1<=j->j<k->a xs[j] (xs[j-1]' om)=false)->at5 a (xs.take k)=xs.take k
 | 0,_,_=>by simp[at5]
 | 1,h,_=>by
  cases xs with
  | nil=>simp at h
  | cons x l=>simp[at5,at6]
 | k+2,h,hf=>by
  rw[aH5 a xs (k:=k+1) om om,ao9 a xs (k+1) om λj b c d=>hf j b c om];have:=hf (k+1) om om om;simp only[Nat.add_sub_cancel]at this ⊢;rw[fh (by rw[this];simp),eD9 (by omega:k+1<xs.length)]
def cN0{h w v}{xs:List Sp}(o:B7 h w 302 v xs)(hl:xs.length<=1000000000)(hh:E6 h (n8 w)):
  Calls prog 290 #[v,.func (.func 291) #[] #[]] w λe z=>∃u,e = .returned u/\(B7 h z 302 u (at5 aB6 xs)/\t8 (B0 v) w z/\∀b,B0 u b->B0 v b):=by
 apply y5 [v,.func (.func 291) #[] #[]] func290 rfl;have U:=o.isS;have hn:=o.vlen;have a5:=o.vcap;have Q:A9.sz Sp=3:=rfl;rcases eD2 (decide ((xs.length:Int)<2))with G|G
 .simp only[eQ,simprocAttr,U,hn,G];apply o8 results290;simp only[C9,simprocAttr];have D:xs.length<2:=by have:=eD3 G;omega
  have:=ao9 aB6 xs xs.length (eE8 _) λj I h1 G=>om
  rw[eE4]at this;exact⟨by rw[this];exact o,t8.refl _,λb V=>V⟩
 have a0:2<=xs.length:=by have:=eD6 G;omega
 simp only[eQ,simprocAttr,U,hn,G];refine B4 [0,1] (σ:=Nat) (λi f z=>f 5=i/\1<=i/\i<=xs.length/\(∀j (I:j<xs.length),1<=j->j<i->aB6 xs[j] (xs[j-1]' om)=false)/\o6 w z) (λi=>xs.length-i) 1 ?_ ?_
 .exact⟨rfl,dG,om,λj _ h1 G=>om,t8.refl _⟩
 rintro i f n ⟨e0,e1,_⟩ ⟨h5,aZ,a3,O,r⟩;simp only[eQ,simprocAttr,h5,e0,U,hn];refine A7 (λD=>?_) ?_;rotate_left
 .rintro rfl;simp only[p6,simprocAttr,e0];apply o8 results290;simp only[C9,simprocAttr];have:=ao9 aB6 xs xs.length (eE8 _) O;rw[eE4]at this;exact⟨by rw[this];exact o.ext r,t8.up r,λb V=>V⟩
 have J:i-1<xs.length:=om
 have hR:R (n8 n) v xs:=(o.ext r).rw_ (A3 hh (b7 r));have ax:=o.inS D;have Z:=o.inS J;have aD:IntKind.i64.wrap ((i:Int)-1)=((i-1:Nat):Int):=by rw[N7 _ om];omega
 obtain⟨vx,aB,_,sx⟩:=(hR.at_ (eD1 D)).sp_v;obtain⟨vy,aC,_,sy⟩:=(hR.at_ (eD1 J)).sp_v;have s1:=sx (o6 n.drew) n.drew (t8.refl _) λz h=>b7 ((o6.drew n).trans h);have s2:=sy (o6 n.drew) n.drew (t8.refl _) λz h=>b7 ((o6.drew n).trans h);rw[Q]at s1 s2;simp only[p6,simprocAttr];refine C4 (o6 n.drew) 10 (A8 [0,1,2,3,4,5,6,7,8,9]) ?_;simp only[D7,A8,p6,n9,A6,simprocAttr,h5,e0,e1,ax,Z,aD,s1,s2];refine B3 (cH9 _ _ vx vy n.drew (aB.mono (b7 (o6.drew n))) (aC.mono (b7 (o6.drew n)))) (λw3 aF=>?_);have q:=(r.trans (o6.drew n)).trans aF;rcases eD2 (aB6 xs[i] xs[i-1])with hq|hq;rotate_left
 .simp only[eQ,simprocAttr,hq,h5];refine nx4 (i+1) ⟨λj I h1 G=>?_,q⟩;rcases eH4 j i with h|h
  .exact O j I h1 h
  .obtain rfl:j=i:=om
   exact hq
 have c1:decide ((i:Int)<=(xs.length:Int))=true:=by simp;omega
 have c2:decide ((xs.length:Int)<=(vcap v:Int))=true:=by simp;omega
 have hd:∀k:Nat,isS (reS v k xs.length 3)=true/\vlen (reS v k xs.length 3)=xs.length-k:=λk=>by
  rcases o with⟨rfl,rfl⟩|⟨b,c,aY,rfl,_⟩
  .exact⟨rfl,rfl⟩
  .exact⟨rfl,rfl⟩
 obtain⟨ao,az⟩:=hd i;have a4:((xs.length-i:Nat):Int)=(xs.length:Int)-i:=om
 simp only[p6,n9,G7,simprocAttr,hq,h5,e0,U,hn,c1,c2];refine B4 [0,1,6] (σ:=Nat×Nat×List Sp) (λs f z=>f 7=s.1/\f 5=s.2.1/\1<=s.1/\i+s.1<=xs.length/\s.2.1+1<=i+s.1/\s.2.2.length=xs.length/\B7 h z 302 v s.2.2/\(∀j (I:j<xs.length) (L:j<s.2.2.length),i+s.1<=j+1->s.2.2[j]=xs[j])/\s.2.2.take s.2.1=at5 aB6 (xs.take (i+s.1))/\t8 (B0 v) w z) (λs=>xs.length-(i+s.1)) (1,i,xs) ?_ ?_
 .simp only[C9,simprocAttr];refine⟨tt,tt,tt,om,om,tt,o.ext q,λj _ _ _=>tt,?_,t8.up q⟩;rw[aH5 aB6 xs D om,fi hq,ao9 aB6 xs i om O]
 rintro⟨m,c,A⟩ f4 l ⟨g0,g1,g6,_⟩ ⟨T,B,am,aw,ar,y,p,g,d,M⟩;simp only at T B am aw ar y p g d;rw[e0]at g0;rw[e1]at g1;have av:E6 h (n8 l):=G8 hh M λb V=>o.free V;have ab:decide ((m:Int)<((xs.length-i:Nat):Int))=decide (i+m<xs.length):=by rw[eI5];omega
 simp only[eQ,simprocAttr,T,g6,ao,az,ab];refine B2 (λhc=>?_) (λhc=>?_)
 .have E:i+m<xs.length:=eD3 hc;have ay:i+m-1<xs.length:=om
  have an:R (n8 l) v A:=p.rw_ av;have a:=cw0 an (show i<=xs.length by omega) (show xs.length<=A.length by omega);rw[Q]at a;have aH:(A.take xs.length).drop i=A.drop i:=by rw[<-y,eE4]
  rw[aH]at a;have X:(A.drop i)[m]?=some xs[i+m]:=by
   rw[eN3,eD1 om,g (i+m) E om om]
  have Y:(A.drop i)[m-1]?=some xs[i+m-1]:=by
   rw[eN3,show i+(m-1)=i+m-1 by omega,eD1 om,g (i+m-1) ay om om]
  have H:=a.inS (eD8.1 X).1;have aa:=a.inS (eD8.1 Y).1;have aE:IntKind.i64.wrap ((m:Int)-1)=((m-1:Nat):Int):=by rw[N7 _ om];omega
  obtain⟨ux,af,lx,tx⟩:=(a.at_ X).sp_v;obtain⟨uy,aA,_,ty⟩:=(a.at_ Y).sp_v;have t1:=tx (o6 l.drew) l.drew (t8.refl _) λz h=>b7 ((o6.drew l).trans h);have t2:=ty (o6 l.drew) l.drew (t8.refl _) λz h=>b7 ((o6.drew l).trans h);rw[Q]at t1 t2 lx;simp only[p6,simprocAttr];refine C4 (o6 l.drew) 10 (A8 [0,1,2,3,4,5,6,7,8,9]) ?_;simp only[D7,A8,p6,n9,A6,simprocAttr,T,g1,g6,H,aa,aE,t1,t2];refine B3 (cH9 _ _ ux uy l.drew (af.mono (b7 (o6.drew l))) (aA.mono (b7 (o6.drew l)))) (λw5 aG=>?_);have x:=(o6.drew l).trans aG;have ae:=p.ext x;have ac:t8 (B0 v) w w5:=M.chain (t8.up x) λ_ _ h=>h;have C:=aH5 aB6 xs (k:=i+m) E om;rcases eD2 (aB6 xs[i+m] xs[i+m-1])with hq4|hq4
  .rw[fi hq4]at C;simp only[eQ,simprocAttr,hq4,T];refine nx2 (m+1,c,A) ⟨B,so,so,so,y,ae,λj I L h=>g j I L (by simp only at h;omega),?_,ac⟩;simp only[];rw[d,<-C,eO4]
  .rw[fh (by rw[hq4];simp)]at C;have K:c<A.length:=om
   have aI:=lx w5 (b7 x);have ag:ux = .agg (A0.cells xs[i+m]).toArray:=by
    obtain⟨cs,rfl,he⟩:=af;rw[(A0.iff_ _ _ _).1 he]
   obtain⟨w6,S,F,N⟩:=bn4 (P:=prog) (t:=302) ae bY3 bo6 K xs[i+m];rw[<-ag,Q]at S;simp only[p6,n9,A6,simprocAttr,hq4,B,g0,g6,T,H,p.inS K,aI,S];refine⟨(m+1,c+1,A.set c xs[i+m]),so,by simp only[];rw[I9 m],by simp only[];rw[I9 c],so,so,so,by simp only[eK6];exact y,F,λj I L h=>?_,?_,ac.chain N λ_ _ h=>h⟩
   .simp only at h ⊢;rw[getElem_set_ne om];exact g j I om om
   .simp only[];have au:c<(A.set c xs[i+m]).length:=by simpa using K
    rw[eD9 au,getElem_set_self,take_set_of_le (eE8 _),d,<-C,eO4]
 .have E:i+m=xs.length:=by have:=eD6 hc;omega
  rw[E,eE4]at d;have aq:c<A.length:=om
  have c3:decide ((c:Int)<=(xs.length:Int))=true:=by simp;omega
  have c4:decide ((c:Int)<=(vcap v:Int))=true:=by simp;omega
  obtain⟨w6,S,F,N,W⟩:=bC3 (P:=prog) (t:=222) (ty:=0) p rfl dJ8 rfl (by simp[Value.cells,Value.oneCell']) aq;rw[y,Q]at S;rw[Q]at F W;simp only[p6,n9,G7,simprocAttr,bU6,B,g0,U,hn,c2,c3,c4,S];exact o8 results290 ⟨by rw[<-d];exact F,M.chain N λ_ _ h=>h,W⟩
def aS7{h w v}{xs:List Sp}(i:B7 h w 302 v xs)(g:xs.length<=1000000000)(l:E6 h (n8 w))(m:∀x∈xs,plc x.src/\plc x.dst):
  p7 prog 256 #[v] w λu j=>(B7 h j 302 u (an3 xs)/\t8 (B0 v) w j/\∀b,B0 u b->B0 v b):=by
 apply y5 [v] func256 rfl;simp only[eQ,simprocAttr];apply z6 (cH8 i g m);rintro _ n ⟨e,a⟩;simp only[p6,simprocAttr];apply z6 (cN0 e (by rw[(H8 _ _).length_eq];exact g) (G8 l a λb k=>i.free k));rintro u o ⟨f,d,c⟩;simp only[p6,simprocAttr];exact o8 results256 ⟨f,a.chain d λ_ _ h=>h,c⟩
def bB0(v)(l:List St)(o w)(hv:R (n8 w) v l):p7 prog 287 #[v,.int .i64 o] w λu h=>(u = .int .i64 (aw2 l o)/\h=w):=by
 apply y5 [v,o] func287 rfl;have d:=hv.isS;have e:=hv.vlen;cases l with
 | nil=>
  have a:decide ((0:Int)<(([]:List St).length:Int))=false:=dG
  simp only[eQ,simprocAttr,d,e,a];exact o8 results287 ⟨rfl,rfl⟩
 | cons t l=>
  have a:decide ((0:Int)<((t::l).length:Int))=true:=eG9 (by simp only[eG6];omega);have b:=hv.inS (k:=0) dG;obtain⟨_,_,_,_,_,_,_,_,_,c,_⟩:=(hv.at_ (i:=0) rfl).st;have f:=c w (n7 _);have g:A9.sz St=13:=rfl;rw[g,Nat.zero_mul]at f;simp only[p6,n9,A6,simprocAttr,d,e,a,b,f];exact o8 results287 ⟨rfl,rfl⟩
def dx9(a vit p)(it:It)(i x y w)(hs:At (n8 w) a (i5 p))(X:SV (n8 w) vit it)(hr:E3 p)(hw:C1 p<=1000000)(W:i<p.procs.length)(N:aH0 p i x y)(C:it∈(i5 p).of i):
  p7 prog 255 #[a,vit] w λu l=>(B7 (n8 w) l 3 u ((i5 p).goes it)/\o6 w l):=by
 apply y5 [a,vit] func255 rfl;obtain⟨b,d,m,e,U⟩:=cX1 X (n7 _);obtain⟨H,Y,aa⟩:=U.it;obtain⟨_,_,O,ag,_,_,L,V,_,Z,ad⟩:=H.st;have Q:=Y d (n7 _);have E:=Z d (n7 _);have K:=az2 p hw i W it C;rw[K]at Q;have k:∀(t:Int) (l:World),E6 (n8 w) (n8 l)->∃v f,(Instr.buildSlice 45 1 #[(0,t)]).run prog l = .ok v f/\B7 (n8 w) f 3 v [t]/\o6 l f:=λt l E6=>by
  obtain⟨v,f,R,S,T,_⟩:=lit (P:=prog) (w:=l) (h:=n8 w) (α:=Int) (xs:=[t]) (ys:=[t]) (parts:=#[(0,t)]) (n:=1) V8 rfl (G6.2 rfl) (by simp[Value.cells]) rfl rfl dG dG E6;exact⟨v,f,R,S,T⟩
 have A:∀(t G:Int) (l:World),E6 (n8 w) (n8 l)->∃v f,(Instr.buildSlice 45 2 #[(0,t),(1,G)]).run prog l = .ok v f/\B7 (n8 w) f 3 v [t,G]/\o6 l f:=λt G l E6=>by
  obtain⟨v,f,R,S,T,_⟩:=lit (P:=prog) (w:=l) (h:=n8 w) (α:=Int) (xs:=[t,G]) (ys:=[t,G]) (parts:=#[(0,.int .i64 t),(1,.int .i64 G)]) (n:=2) V8 rfl (G6.2 rfl) (by simp[Value.cells]) rfl rfl dG dG E6;exact⟨v,f,R,S,T⟩
 have j:=e.trans (o6.drew d);have s:∀l,o6 d.drew l->E6 (n8 d) (n8 l):=λl h=>b7 ((o6.drew d).trans h);have si:=aa (o6 d.drew) d.drew (t8.refl _) s;have st:=ad (o6 d.drew) d.drew (t8.refl _) s;have g:=show(i5 p).goes it=if it.s.kind=5 then[aw2 it.s.thn it.next,aw2 it.s.els it.next]else if it.s.kind=6 then[aw2 it.s.thn it.s.id,it.next]else if it.s.kind=7 then[((i5 p).it it.loop).next]else if it.s.kind=8 then[it.loop]else if it.s.kind=9 then[-1]else if it.s.kind=10 then[((i5 p).at it.proc it.s.name).getD 0]else[it.next]from rfl;rcases eD2 (decide (it.s.kind=5))with k5|k5
 .rw[fi (eD3 k5)]at g;obtain⟨F,B,o,r,c⟩:=A (aw2 it.s.thn it.next) (aw2 it.s.els it.next) d.drew (b7 j);simp only[eQ,simprocAttr,m,E,k5];refine C4 (o6 d.drew) 11 (A8 [0,1,2,3,4,6,7,8,9,10,5]) ?_;simp only[D7,A8,p6,n9,simprocAttr,si,st];refine F6 (bB0 O it.s.thn it.next d.drew (A9.mono (b7 (o6.drew d)) L)) ⟨t8.refl _,?_⟩;simp only[ff,simprocAttr];apply F6 (bB0 ag it.s.els it.next d.drew (A9.mono (b7 (o6.drew d)) V));simp only[p6,simprocAttr,o];exact o8 results255 ⟨by rw[g];exact r,j.trans c⟩
 rw[fh (eD6 k5)]at g;rcases eD2 (decide (it.s.kind=6))with k6|k6
 .rw[fi (eD3 k6)]at g;obtain⟨F,B,o,r,c⟩:=A (aw2 it.s.thn it.s.id) it.next d.drew (b7 j);simp only[eQ,simprocAttr,m,E,k5,k6];refine C4 (o6 d.drew) 9 (A8 [0,1,2,3,4,5,7,8,6]) ?_;simp only[D7,A8,p6,n9,simprocAttr,si,st];refine F6 (bB0 O it.s.thn it.s.id d.drew (A9.mono (b7 (o6.drew d)) L)) ⟨t8.refl _,?_⟩;simp only[ff,simprocAttr,o];exact o8 results255 ⟨by rw[g];exact r,j.trans c⟩
 rw[fh (eD6 k6)]at g;have E6:=hr.leads W it C;unfold aI7 at E6;rcases eD2 (decide (it.s.kind=7))with k7|k7
 .rw[fi (eD3 k7)]at g;rw[fi (.inl (eD3 k7))]at E6;have J:(x:Int)<it.loop/\it.loop<=(y:Int):=by
   rcases N.loop it C with h|h
   .rw[h]at E6;simp at E6
   .exact h
  obtain⟨_,_,z⟩:=N.at_ it.loop J.1 J.2;obtain⟨F,B,o,r,c⟩:=k ((i5 p).it it.loop).next d.drew (b7 j);obtain⟨vL,ar,aq,hL,_,_,_,_,ac⟩:=(hs.mono (b7 e)).sh;have ss:=ac (o6 d.drew) d.drew (t8.refl _) s;obtain⟨_,_,ab⟩:=(hL.at_ z).it;have sl:=ab (o6 d.drew) d.drew (t8.refl _) s;have hz:A9.sz It=17:=rfl;rw[hz]at sl;have I:=hL.inS ((eD8.1 z).1);have aj:=N.ok.fit;have ak:=N.ok.len;have M:IntKind.i64.wrap (it.loop-1)=(((it.loop-1).toNat:Nat):Int):=by rw[N7 _ om];omega
  generalize(it.loop-1).toNat=q at I sl M;simp only[eQ,simprocAttr,m,E,k5,k6,k7];refine C4 (o6 d.drew) 12 (A8 [0,1,2,3,4,5,6,7,8,9,10,11]) ?_;simp only[D7,A8,p6,n9,A6,simprocAttr,si,ss,sl,I,M,o,F2];refine⟨c,?_⟩;exact o8 results255 ⟨by rw[g];exact r,j.trans c⟩
 rw[fh (eD6 k7)]at g;rcases eD2 (decide (it.s.kind=8))with k8|k8
 .rw[fi (eD3 k8)]at g;obtain⟨F,B,o,r,c⟩:=k it.loop d (b7 e);simp only[eQ,simprocAttr,m,Q,E,k5,k6,k7,k8,o];exact o8 results255 ⟨by rw[g];exact r,e.trans c⟩
 rw[fh (eD6 k8)]at g;rcases eD2 (decide (it.s.kind=9))with k9|k9
 .rw[fi (eD3 k9)]at g;obtain⟨F,B,o,r,c⟩:=k (-1) d (b7 e);simp only[eQ,simprocAttr,m,E,k5,k6,k7,k8,k9,o];exact o8 results255 ⟨by rw[g];exact r,e.trans c⟩
 rw[fh (eD6 k9)]at g;rcases eD2 (decide (it.s.kind=10))with k10|k10
 .rw[fi (eD3 k10),K]at g;simp only[eQ,simprocAttr,m,Q,E,k5,k6,k7,k8,k9,k10];refine B3 (cH1 a (i5 p) i x y it.s.name d (hs.mono (b7 e)) N.ok (by rw[K0];exact W) (ah2 p hw) (by rw[K0];exact aJ6 p hw)) (λB c=>?_);cases hq:(i5 p).at i it.s.name with
  | none=>
   obtain⟨F,w3,o,r,D⟩:=k 0 B (b7 (e.trans c));simp only[p6,simprocAttr,cE6,o];exact o8 results255 ⟨by rw[g,hq];exact r,e.trans (c.trans D)⟩
  | some q=>
   obtain⟨F,w3,o,r,D⟩:=k q B (b7 (e.trans c));simp only[p6,simprocAttr,cE6,o];exact o8 results255 ⟨by rw[g,hq];exact r,e.trans (c.trans D)⟩
 .rw[fh (eD6 k10)]at g;obtain⟨F,B,o,r,c⟩:=k it.next d (b7 e);simp only[eQ,simprocAttr,m,Q,E,k5,k6,k7,k8,k9,k10,o];exact o8 results255 ⟨by rw[g];exact r,e.trans c⟩
def aA0(a b c):D0 prog 302 [(0,.int .i64 a),(1,.int .i64 b),(2,.int .i64 c)]=some (.agg (A0.cells (⟨a,b,c⟩:Sp)).toArray):=by
 simp[D0,ef2,M2,Instr.fill,Value.cells,A0.cells,Sp.cells]
def cy7{α:Type}[A9 α][A0 α]{h}(x:α):A9.enc h (Value.cells (.agg (A0.cells x).toArray)).toList x:=(A0.iff_ _ _ _).2 (by simp[Value.cells])
def cS2{x y}(b:y<=1000000){a}(h:Rg x y a):plc a:=by
 unfold plc;rcases h with h|h<;>omega
def dp4{p}(h:E3 p)(hw:C1 p<=1000000){i x y}(g:i<p.procs.length)(d:aH0 p i x y):∀t∈((⟨0,(i5 p).first i,1⟩:Sp)::((i5 p).of i).flatMap λit=>((i5 p).goes it).map λt=>⟨it.s.id,t,1⟩),plc t.src/\plc t.dst:=by
 intro t c;have e:y<=1000000:=eD7 d.ok.len d.ok.fit;rcases eF0.1 c with rfl|c
 .exact⟨by unfold plc;simp,cS2 e (cz6 d)⟩
 .obtain⟨it,b,c⟩:=eG1.1 c;obtain⟨a,f,rfl⟩:=eF2.1 c;have:=d.ids it b;exact⟨by unfold plc;simp only[];omega,cS2 e (cZ4 h hw g d it b a f)⟩
def df2(a p i x y w)(hs:At (n8 w) a (i5 p))(hr:E3 p)(hw:C1 p<=1000000)(hi:i<p.procs.length)(pt:aH0 p i x y):
  p7 prog 194 #[.pointer (some a),.int .i64 i] w λu m=>(B7 (n8 w) m 302 u ((i5 p).steps i)/\o6 w m):=by
 apply y5 [.pointer (some a),.int .i64 i] func194 rfl;obtain⟨aS,ad⟩:=bI1 p hw i hi;have ab:=cA8 (i5 p);have hF:(i5 p).steps i=an3 (⟨0,(i5 p).first i,1⟩::((i5 p).of i).flatMap λit=>((i5 p).goes it).map λt=>⟨it.s.id,t,1⟩):=rfl;have d:=dp4 hr hw hi pt;simp only[eQ,simprocAttr];refine B3 (cH2 a (i5 p) i x y w hs pt.ok) (λw1 ak=>?_);obtain⟨v0,w2,ae,ag,aI,_⟩:=lit (P:=prog) (w:=w1) (h:=n8 w) (α:=Sp) (xs:=[.agg (A0.cells (⟨0,(i5 p).first i,1⟩:Sp)).toArray]) (ys:=[⟨0,(i5 p).first i,1⟩]) (parts:=#[(0,.agg (A0.cells (⟨0,(i5 p).first i,1⟩:Sp)).toArray)]) (n:=1) bX1 rfl (aj3.2 (by simp[Value.cells])) (by simp[Value.cells,A0.cells,Sp.cells]) rfl rfl dG dG (b7 ak);have O:=ak.trans aI;simp only[p6,simprocAttr,aA0,ae];apply z6 (aQ1 (n8 w) a (i5 p) i x y w2 hs (b7 O) pt.ok);rintro ui w3 ⟨A,al⟩;have ac:=λit ao m (h1:it∈(i5 p).of i) (h2:SV (n8 m) ao it) (h3:At (n8 m) a (i5 p))=>dx9 a ao p it i x y m h3 h2 hr hw hi pt h1;generalize hl:(i5 p).of i=l at A ad hF ac d;have aj:=O.trans al;have ax:=A.isS;have aE:=A.vlen;generalize hB:(λit:It=>((i5 p).goes it).map λt=>(⟨it.s.id,t,1⟩:Sp))=B at hF d;have aw:∀it,(B it).length<=2:=λit=>by rw[<-hB];simp only[eE3];exact ab it
 generalize aX:(⟨0,(i5 p).first i,1⟩:Sp)=s0 at ag hF d;have az:∀k,((l.take k).flatMap B).length<=800000:=λk=>by
  apply eD7 (U3 B 2 _ λx _=>aw x);rw[eE5];omega
 simp only[eQ,simprocAttr,ax,aE];refine B4 [0,17,18] (σ:=Nat×Value) (λs f m=>f 19 = .int .i64 s.1/\f 5=s.2/\s.1<=l.length/\B7 (n8 w) m 302 s.2 (s0::(l.take s.1).flatMap B)/\o6 w m) (λs=>l.length-s.1) (0,v0) ?_ ?_
 .exact⟨rfl,rfl,eE2 _,by simpa using ag.ext al,aj⟩
 rintro⟨j,u⟩ f w5 ⟨e0,ar,au,_⟩ ⟨D,h5,aB,Y,I⟩;simp only at D h5 aB Y;have M:=az j;simp only[eQ,simprocAttr,D,au];refine A7 (λF=>?_) ?_;rotate_left
 .rintro rfl;rw[eE4]at Y M;simp only[p6,simprocAttr,h5];apply z6 (aS7 Y (by simp only[eG6];omega) (b7 I) d);rintro u6 w6 ⟨G,aD,_⟩;simp only[p6,simprocAttr];exact o8 results194 ⟨by rw[hF];exact G,Y.ext2 I aD⟩
 have E:=A.inS F;obtain⟨sv,v,g⟩:=G1 (P:=prog) (t:=156) A (b7 I) (eD1 F) ai4 ai5 ag5 M4;rw[M4]at g;have W:=M1 B l F;have af:=eE1 F;generalize l[j]=it at v W af;obtain⟨c,wz,w6,ay,aG,an,K⟩:=bi2 (w:=w5) (B0 u) v (λb L=>Y.lt L);obtain⟨ldI,_⟩:=L8.it_v v K;obtain⟨us,aH,Z,_,_⟩:=L8.it v K;obtain⟨_,_,_,_,_,_,_,_,_,_,_,aJ,_⟩:=L8.st aH Z;have C:=I.trans an;simp only[p6,n9,A6,simprocAttr,D,e0,ar,E,g,ay,aG,ldI w6 (B6 _ _)];apply z6 (ac it sv w6 af (v.mono (b7 C)) (hs.mono (b7 C)));rintro ug w7 ⟨ah,X⟩;have G:=Y.ext an;have z:R (D9 w7 (B0 u)) ug ((i5 p).goes it):=ah.flatR λb L=>E9 λU=>by
  have h1:=G.lt U;have h2:=D4 (ah.free L);omega
 have V:=G.ext X;have am:=C.trans X;have J:B it=((i5 p).goes it).map λt=>(⟨it.s.id,t,1⟩:Sp):=by rw[<-hB]
 have aa:=ab it;generalize(i5 p).goes it=gl at z J aa;generalize(l.take j).flatMap B=pre at V M W;simp only[eQ,simprocAttr,z.isS,z.vlen];refine B4 [0,7,17,18,19,25,26] (σ:=Nat×Value) (λs f m=>f 27 = .int .i64 s.1/\f 5=s.2/\s.1<=gl.length/\B7 (n8 w) m 302 s.2 (s0::(pre++(gl.take s.1).map λt=>(⟨it.s.id,t,1⟩:Sp)))/\t8 (B0 u) w7 m/\F4 w7 u s.2) (λs=>gl.length-s.1) (0,u) ?_ ?_
 .exact⟨rfl,h5,eE2 _,by simpa using V,t8.refl _,λb L=>.inl L⟩
 rintro⟨k,u8⟩ f8 w8 ⟨q0,q7,a4,a5,aK,aL,aM,_⟩ ⟨S,T,aC,H,q,r⟩;simp only at S T aC H r;have Q:=V.ext2 am q;simp only[eQ,simprocAttr,S,aM];refine A7 (λo=>?_) ?_;rotate_left
 .rintro rfl;rw[eE4,<-J]at H;simp only[eQ,simprocAttr,aK,D];refine nx2 (j+1,u8) ⟨T,om,?_,Q⟩;simp only[];rw[W];exact H
 clear E g;have E:=z.inS o;have g:=aI6 z (F5 q) o;have N:(gl.take (k+1)).map (λt=>(⟨it.s.id,t,1⟩:Sp))=(gl.take k).map (λt=>(⟨it.s.id,t,1⟩:Sp))++[⟨it.s.id,gl[k],1⟩]:=by
  rw[eD9 o,eG8];rfl
 generalize gl[k]=y1 at g N;have k2:=aJ w8 (F5 (t8.chain (t8.up X) q λ_ _ h=>h));obtain⟨p1,u9,w9,p2,p3,p4,p5⟩:=push (e:=222) bX1 rfl H (x:=.agg (A0.cells (⟨it.s.id,y1,1⟩:Sp)).toArray) (y:=⟨it.s.id,y1,1⟩) (cy7 _) (by simp only[eG6,eD4,eE3,eE5];omega) (by simp only[eG6,eD4,eE3,eE5];omega) (b7 Q);simp only[p6,n9,A6,simprocAttr,S,T,q7,aL,E,g,k2,aA0,p1,p2];refine nx4 (k+1,u9) ⟨?_,q.chain p4 λb L U=>?_,λb L=>?_⟩
 .simp only[];rw[N,<-eG4,<-eP1];exact p3
 .rcases r b U with h|h
  .exact h
  .omega
 .rcases p5 b L with h|h
  .exact r b h
  .exact .inr (eD7 q.size h)
section
variable {h k:Hp} {a:Addr} {v:Value} {w:World} {cs:List Value} (N:Nat->Prop)
def dP1{x:Wy}:A9.enc h cs x->∃c b a,cs=([c]:List Value)++([x.proc]:List Value)++([x.n]:List Value)++([b]:List Value)++([a]:List Value)/\R h c x.sp/\R h b x.real/\R h a x.live:=by
 rintro⟨g,i,j,rfl,d,e,f⟩;exact⟨g,i,j,rfl,d,e,f⟩
def At.wy{x:Wy}(k:At h a x):∃d c b,R h d x.sp/\R h c x.real/\R h b x.live/\LW h (λw=>W8 prog w 132 a d/\W8 prog w 3 (a.add 1) x.proc/\W8 prog w 3 (a.add 2) x.n/\W8 prog w 222 (a.add 3) c/\W8 prog w 95 (a.add 4) b)/\SW h (λS=>J4 prog S 132 a d/\J4 prog S 3 (a.add 1) x.proc/\J4 prog S 3 (a.add 2) x.n/\J4 prog S 222 (a.add 3) c/\J4 prog S 95 (a.add 4) b):=by
 obtain⟨cs,l,i⟩:=k;obtain⟨d,c,b,rfl,g,f,e⟩:=dP1 l;exact⟨_,_,_,g,f,e,lsw (λw j=>⟨N8 i rfl bY1 w j,B5 i (o:=1) rfl K7 w j,B5 i (o:=2) rfl K7 w j,B5 i (o:=3) rfl dH2 w j,B5 i (o:=4) rfl aQ5 w j⟩) (sw2 (sw2 (sw2 (sw2 sw1))))⟩
def dO6{x:Bk}:A9.enc h cs x->∃e f a c d b,cs=([e]:List Value)++([f]:List Value)++([a]:List Value)++([c]:List Value)++([d]:List Value)++([b]:List Value)/\R h e x.sp/\R h f x.wp/\R h a x.defs/\R h c x.uses/\R h d x.ins/\R h b x.outs:=by
 rintro⟨n,o,p,q,r,s,rfl,g,i,j,k,l,m⟩;exact⟨n,o,p,q,r,s,rfl,g,i,j,k,l,m⟩
def At.bk{x:Bk}(r:At h a x):∃f g b d e c,R h f x.sp/\R h g x.wp/\R h b x.defs/\R h d x.uses/\R h e x.ins/\R h c x.outs/\LW h (λw=>W8 prog w 132 a f/\W8 prog w 133 (a.add 1) g/\W8 prog w 134 (a.add 2) b/\W8 prog w 134 (a.add 3) d/\W8 prog w 134 (a.add 4) e/\W8 prog w 134 (a.add 5) c)/\SW h (λS=>J4 prog S 132 a f/\J4 prog S 133 (a.add 1) g/\J4 prog S 134 (a.add 2) b/\J4 prog S 134 (a.add 3) d/\J4 prog S 134 (a.add 4) e/\J4 prog S 134 (a.add 5) c):=by
 obtain⟨cs,s,m⟩:=r;obtain⟨f,g,b,d,e,c,rfl,p,q,i,k,l,j⟩:=dO6 s;exact⟨_,_,_,_,_,_,p,q,i,k,l,j,lsw (λw n=>⟨N8 m rfl bY1 w n,B5 m (o:=1) rfl dG6 w n,B5 m (o:=2) rfl aC8 w n,B5 m (o:=3) rfl aC8 w n,B5 m (o:=4) rfl aC8 w n,B5 m (o:=5) rfl aC8 w n⟩) (sw2 (sw2 (sw2 (sw2 (sw2 sw1)))))⟩
end
structure WyOk (p:Pg) (i x y:Nat) (wy:Wy):Prop where
 s:wy.s=i5 p
 proc:wy.proc=(i:Int)
 n:wy.n=(y:Int)-(x:Int)+2
 part:aH0 p i x y
def WyOk.index{p i x y}{wy:Wy}(h:WyOk p i x y wy)(a):wy.index a=if a=0 then 0 else if a = -1 then wy.n-1 else if(x:Int)+1<=a/\a<(y:Int)+1 then a-((x:Int)+1)+1 else -1:=by
 have b:=h.part.ok.lo;have c:=h.part.ok.hi;unfold Wy.index atI;simp only[h.s,h.proc,eF4,getD,b,c,eI9]
def WyOk.place{p i x y}{wy:Wy}(h:WyOk p i x y wy)(a):wy.place a=if a=0 then 0 else if a=wy.n-1 then -1 else(x:Int)+1+a-1:=by
 have b:=h.part.ok.lo;unfold Wy.place atI;simp only[h.s,h.proc,eF4,getD,b,eI9]
def by6(a)(wy:Wy)(p i x y pl w)(O:At (n8 w) a wy)(c:WyOk p i x y wy)(Q : -1<=pl/\pl<=2000000):
  p7 prog 154 #[.pointer (some a),.int .i64 pl] w λu b=>(u = .int .i64 (wy.index pl)/\o6 w b):=by
 refine y5 [.pointer (some a),.int .i64 pl] func154 rfl ?_;obtain⟨vs,_,_,B,_,_,E,s⟩:=O.wy;obtain⟨S,rfl,has⟩:=Ptr.at_ B;have A:At (n8 w) S (i5 p):=by rw[<-c.s];exact has
 obtain⟨Z,t,G,V,l,m,P,R,r⟩:=A.sh;have L:=E w (n7 _);rw[c.proc]at L;have g:=c.index pl;have hN:=c.n;have I:=c.part.ok.le;have J:=c.part.ok.len;have H:=c.part.ok.fit;have k:∀b,o6 w.drew b->E6 (n8 w) (n8 b):=λb h=>b7 ((o6.drew w).trans h);have z:=s (λb=>o6 w.drew b) w.drew (t8.refl _) k;rw[c.proc]at z;have F:=r (λb=>o6 w.drew b) w.drew (t8.refl _) k;have j:=l.inS (eD8.1 c.part.ok.lo).1;have n:=m.inS (eD8.1 c.part.ok.hi).1;have v:∀K f d w0,X8 prog (λb=>o6 w.drew b) (Instr.loadAt 3 (.pointer (some (I2 t i)))) K f d w0=K (G9 f d (.int .i64 ((x:Int)+1))) w0:=λK f d w0=>L5 (w0:=w.drew) (t8.refl _) λb h=>ldI l (k b h) c.part.ok.lo;have D:∀K f d w0,X8 prog (λb=>o6 w.drew b) (Instr.loadAt 3 (.pointer (some (I2 G i)))) K f d w0=K (G9 f d (.int .i64 ((y:Int)+1))) w0:=λK f d w0=>L5 (w0:=w.drew) (t8.refl _) λb h=>ldI m (k b h) c.part.ok.hi;have C:IntKind.i64.wrap (wy.n-1)=wy.n-1:=N7 _ om;rcases eD2 (decide (pl=0))with q0|q0
 .simp only[eQ,simprocAttr,q0];refine o8 results154 ?_;simp only[C9,simprocAttr];exact⟨by rw[g,fi (eD3 q0)],t8.refl _⟩
 rw[fh (eD6 q0)]at g;rcases eD2 (decide (pl = -1))with q1|q1
 .simp only[eQ,simprocAttr,q0,q1,L,C];refine o8 results154 ?_;simp only[C9,simprocAttr];exact⟨by rw[g,fi (eD3 q1)],t8.refl _⟩
 rw[fh (eD6 q1)]at g;have o:IntKind.i64.wrap (pl-((x:Int)+1))=pl-((x:Int)+1):=N7 _ om;have q:IntKind.i64.wrap (pl-((x:Int)+1)+1)=pl-((x:Int)+1)+1:=N7 _ om;generalize N:(x:Int)+1=X at v g o q;generalize W:(y:Int)+1=Y at D g;simp only[eQ,simprocAttr,q0,q1];refine C4 (λb=>o6 w.drew b) 33 (A8 [0,1,2,3,4,5,6,7,8,9,10,11,12,13,14,15,16,17,18,19,20,21,22,23,24,25,26,27,28,29,30,31,32]) ?_;rcases eD2 (decide (X<=pl))with q2|q2
 .rcases eD2 (decide (pl<Y))with q3|q3
  .have e:∀b,o6 w.drew.drew b->E6 (n8 w) (n8 b):=λb h=>b7 ((o6.drew w).trans ((o6.drew w.drew).trans h));have M:=s (λb=>o6 w.drew.drew b) w.drew.drew (t8.refl _) e;rw[c.proc]at M;have T:=r (λb=>o6 w.drew.drew b) w.drew.drew (t8.refl _) e;have U:∀K f d w0,X8 prog (λb=>o6 w.drew.drew b) (Instr.loadAt 3 (.pointer (some (I2 t i)))) K f d w0=K (G9 f d (.int .i64 X)) w0:=λK f d w0=>L5 (w0:=w.drew.drew) (t8.refl _) λb h=>by rw[<-N];exact ldI l (e b h) c.part.ok.lo
   simp only[D7,A8,p6,n9,A6,simprocAttr,z,F,v,D,j,n,q2,q3];refine C4 (λb=>o6 w.drew.drew b) 17 (A8 [0,1,2,3,4,5,6,7,8,9,10,11,12,13,14,15,16]) ?_;simp only[D7,A8,p6,n9,A6,simprocAttr,M,T,U,j,o,q];refine o8 results154 ?_;simp only[C9,simprocAttr];exact⟨by rw[g,fi ⟨eD3 q2,eD3 q3⟩],(o6.drew w).trans (o6.drew _)⟩
  .simp only[D7,A8,p6,n9,A6,simprocAttr,z,F,v,D,j,n,q2,q3];refine o8 results154 ?_;simp only[C9,simprocAttr];exact⟨by rw[g,fh (λh=>eD6 q3 h.2)],o6.drew w⟩
 .simp only[D7,A8,p6,n9,A6,simprocAttr,z,F,v,j,q2];refine o8 results154 ?_;simp only[C9,simprocAttr];exact⟨by rw[g,fh (λh=>eD6 q2 h.1)],o6.drew w⟩
def aq0(a)(wy:Wy)(p i x y k w)(E:At (n8 w) a wy)(b:WyOk p i x y wy)(N:0<=k/\k<=2000000):
  p7 prog 209 #[.pointer (some a),.int .i64 k] w λu c=>(u=(wy.place k)/\o6 w c):=by
 apply y5 [a,k] func209 rfl;obtain⟨P,_,_,o,_,_,q,s⟩:=E.wy;obtain⟨J,rfl,has⟩:=Ptr.at_ o;have n:At (n8 w) J (i5 p):=by rw[<-b.s];exact has
 obtain⟨O,t,K,L,f,G,F,H,r⟩:=n.sh;have C:=q w (n7 _);have e:=b.place k;have hN:=b.n;have z:=b.part.ok.le;have A:=b.part.ok.len;have v:=b.part.ok.fit;have d:∀c,o6 w.drew c->E6 (n8 w) (n8 c):=λc h=>b7 ((o6.drew w).trans h);have D:=s (o6 w.drew) w.drew (t8.refl _) d;rw[b.proc]at D;have I:=r (o6 w.drew) w.drew (t8.refl _) d;have m:=f.inS (eD8.1 b.part.ok.lo).1;have B:J4 prog (λc=>o6 w.drew c) 3 (I2 t i) (.int .i64 ((x:Int)+1)):=sdx λc h=>ldI f (d c h) b.part.ok.lo;have l:IntKind.i64.wrap (wy.n-1)=wy.n-1:=N7 _ om;have g:IntKind.i64.wrap ((x:Int)+1+k)=(x:Int)+1+k:=N7 _ om;have j:IntKind.i64.wrap ((x:Int)+1+k-1)=(x:Int)+1+k-1:=N7 _ om;rcases eD2 (decide (k=0))with q0|q0
 .simp only[eQ,simprocAttr,q0];apply o8 results209;simp only[C9,simprocAttr];exact⟨by rw[e,fi (eD3 q0)],t8.refl _⟩
 rw[fh (eD6 q0)]at e;rcases eD2 (decide (k=wy.n-1))with q1|q1
 .simp only[eQ,simprocAttr,q0,q1,C,l];apply o8 results209;simp only[C9,simprocAttr];exact⟨by rw[e,fi (eD3 q1)],t8.refl _⟩
 rw[fh (eD6 q1)]at e;generalize M:(x:Int)+1=X at B e g j;simp only[eQ,simprocAttr,q0,q1,C,l];refine C4 (o6 w.drew) 17 (A8 [0,1,2,3,4,5,6,7,8,9,10,11,12,13,14,15,16]) ?_;simp only[D7,A8,p6,n9,A6,simprocAttr,D,I,B,m,g,j];apply o8 results209;simp only[C9,simprocAttr];exact⟨by rw[e],o6.drew w⟩
def WyOk.index_rg{p i x y}{wy:Wy}(h:WyOk p i x y wy){a}(b:a=0\/Rg x y a):0<=wy.index a/\wy.index a<wy.n:=by
 have c:=h.n;have d:=h.part.ok.le;rw[h.index];rcases b with b|b|b
 .rw[fi b];omega
 .rw[fh om,fi b];omega
 .rw[fh om,fh om,fi om];omega
def be6(a)(wy:Wy)(p i x y pl w)(s:At (n8 w) a wy)(c:WyOk p i x y wy)(m:(x:Int)<pl/\pl<=(y:Int))(C:(wy.live.length:Int)=wy.n):
  p7 prog 98 #[a,.int .i64 pl] w λu l=>(u = .bool (wy.lives pl)/\o6 w l):=by
 apply y5 [a,pl] func98 rfl;obtain⟨_,_,D,_,_,j,A,o⟩:=s.wy;have t:=c.part.ok.fit;have v:=c.part.ok.len;have n:∀l,o6 w.drew l->E6 (n8 w) (n8 l):=λl h=>b7 ((o6.drew w).trans h);have B:=o (o6 w.drew) w.drew (t8.refl _) n;have z:=c.index_rg (.inr (.inr m));have b:(wy.index pl).toNat<wy.live.length:=om
 have f:=j.inS b;have e:wy.index pl=(((wy.index pl).toNat:Nat):Int):=om
 have r:wy.lives pl=wy.live[(wy.index pl).toNat]:=by
  unfold Wy.lives atB;rw[getD,eD1 b];rfl
 simp only[eQ,simprocAttr];refine C4 (o6 w.drew) 7 (A8 [0,1,2,3,4,5,6]) ?_;simp only[D7,A8,p6,n9,simprocAttr,B];refine B3 (by6 a wy p i x y pl w.drew (s.mono (b7 (o6.drew w))) c om) (λE k=>⟨k,?_⟩);have d:=(o6.drew w).trans k;have g:=ldB j (b7 d) b;rw[e];generalize(wy.index pl).toNat=q at b f g r;simp only[D7,p6,n9,A6,simprocAttr,f,g];apply o8 results98;simp only[C9,simprocAttr];exact⟨by rw[r],d⟩
def cn4(a b):D0 prog 208 [(0,.int .i64 a),(1,.int .i64 b)]=some (.agg #[.int .i64 a,.int .i64 b]):=by
 simp[D0,ee8,M2,Instr.fill,Value.cells]
def dW2{h}(a b):A9.enc h (Value.cells (.agg #[.int .i64 a,.int .i64 b])).toList ((a,b):Int×Int):=⟨[a],[b],rfl,rfl,rfl⟩
def aF6(a)(wy:Wy)(p i x y v)(l:List Sp)(w)(S:At (n8 w) a wy)(m:WyOk p i x y wy)(hv:R (n8 w) v l)(Y:∀t∈l,RgS x y t)(Z:l.length<=10000000):
  p7 prog 207 #[.pointer (some a),v] w λu A=>(B7 (n8 w) A 208 u (wy.pairs l)/\o6 w A):=by
 apply y5 [.pointer (some a),v] func207 rfl;have T:=m.part.ok.fit;have U:=m.part.ok.len;have X:wy.pairs l=l.map λt=>(wy.index t.src,wy.index t.dst):=rfl;simp only[eQ,simprocAttr,hv.isS,hv.vlen];refine B4 [0,8,9] (σ:=Nat×Value) (λs f A=>f 10 = .int .i64 s.1/\f 5=s.2/\s.1<=l.length/\B7 (n8 w) A 208 s.2 ((l.take s.1).map λt=>(wy.index t.src,wy.index t.dst))/\o6 w A) (λs=>l.length-s.1) (0,.slice none 0 0) ?_ ?_
 .exact⟨rfl,rfl,eE2 _,by simpa using B7.nil _ _ _,t8.refl _⟩
 rintro⟨k,u⟩ f w2 ⟨e0,V,W,_⟩ ⟨g,H,N,G,n⟩;simp only at g H N G;simp only[eQ,simprocAttr,g,W];refine A7 (λj=>?_) ?_;rotate_left
 .rintro rfl;rw[eE4]at G;simp only[p6,simprocAttr,H];exact o8 results207 ⟨by rw[X];exact G,n⟩
 have M:=hv.inS j;obtain⟨sv,D,B⟩:=G1 (P:=prog) (t:=302) hv (b7 n) (eD1 j) cU2 cU9 bY3 bo6;rw[bo6]at B;have E:(l.take (k+1)).map (λt=>(wy.index t.src,wy.index t.dst))=(l.take k).map (λt=>(wy.index t.src,wy.index t.dst))++[(wy.index l[k].src,wy.index l[k].dst)]:=by
  rw[eD9 j,eG8];rfl
 have r:=Y _ (eE1 j);generalize l[k]=s at D E r;obtain⟨c,wz,z,I,O,F,J⟩:=dU1 (D.mono (b7 n)) (n7 _);obtain⟨_,Q⟩:=J.sp;have s1:=Q (o6 z.drew) z.drew (t8.refl _) λA h=>b7 ((o6.drew z).trans h);have d:=n.trans (F.trans (o6.drew z));have K : -1<=s.src/\s.src<=2000000:=by
  rcases r.1 with h|h<;>omega
 have L : -1<=s.dst/\s.dst<=2000000:=by
  rcases r.2 with h|h<;>omega
 simp only[p6,n9,A6,simprocAttr,g,V,M,B,I,O];refine C4 (o6 z.drew) 11 (A8 [0,1,2,3,5,6,7,4,8,9,10]) ?_;simp only[D7,A8,p6,n9,simprocAttr,s1,e0];refine B3 (by6 a wy p i x y s.src z.drew (S.mono (b7 d)) m K) (λw5 b=>⟨b,?_⟩);simp only[ff,simprocAttr];refine B3 (by6 a wy p i x y s.dst w5 (S.mono (b7 (d.trans b))) m L) (λw6 o=>⟨b.trans o,?_⟩);have q:=d.trans (b.trans o);have C:=G.ext (F.trans ((o6.drew z).trans (b.trans o)));obtain⟨p1,u7,w7,p2,p3,p4,p5⟩:=push (e:=206) ep6 rfl C (x:=.agg #[.int .i64 (wy.index s.src),.int .i64 (wy.index s.dst)]) (y:=(wy.index s.src,wy.index s.dst)) (dW2 _ _) (by simp only[eE3,eE5];omega) (by simp only[eE3,eE5];omega) (b7 q);simp only[ff,simprocAttr,cn4,p1,F2];refine⟨b.trans (o.trans (o6.alloc _ _)),?_⟩;simp only[eQ,simprocAttr,H,g,p2];exact nx4 (k+1,u7) ⟨by rw[E];exact p3,C.ext2 q p4⟩
def bR7(a)(wy:Wy)(p i x y v)(l:List Sp)(w)(o:At (n8 w) a wy)(b:WyOk p i x y wy)(g:(i5 p).l.length<=200)(hv:R (n8 w) v l)(z:∀t∈l,RgS x y t)(f:l.length<=10000000):
  p7 prog 195 #[a,v] w λu d=>(GR (n8 d) u (aA8 wy.n.toNat (wy.pairs l)).1 (aA8 wy.n.toNat (wy.pairs l)).2/\o6 w d):=by
 apply y5 [a,v] func195 rfl;obtain⟨_,_,_,_,_,_,B,n⟩:=o.wy;have m:∀d,o6 w.drew d->E6 (n8 w) (n8 d):=λd h=>b7 ((o6.drew w).trans h);have r:=b.part.ok.len;have D:=b.n;have q:=b.part.ok.le;have j:wy.n=((wy.n.toNat:Nat):Int):=om
 have A:(wy.pairs l).length=l.length:=eE3 _;simp only[eQ,simprocAttr];refine C4 (o6 w.drew) 7 (A8 [0,1,2,3,4,5,6]) ?_;simp only[D7,A8,p6,n9,simprocAttr,n (o6 w.drew) w.drew (t8.refl _) m];apply z6 (aF6 a wy p i x y v l w.drew (o.mono (b7 (o6.drew w))) b (A9.mono (b7 (o6.drew w)) hv) z f);rintro u C ⟨k,c⟩;refine⟨c,?_⟩;rw[j];simp only[D7,p6,n9,simprocAttr];apply z6 (db2 wy.n.toNat u (wy.pairs l) C om (k.rw_ (b7 c)) om);rintro E F ⟨⟨M,s⟩,e⟩;simp only[p6,simprocAttr];exact o8 results195 ⟨s.read (b7 e),((o6.drew w).trans c).trans e⟩
mutual
def dB2:∀(t:St) (d:Nat) (n m:Int),n<=200->((J9 d t.thn n).bind λm=>J9 d t.els m)=some m->m<=200
 | .mk id kind labels name proc x has args thn els,d,n,m,hn,h=>by
  simp only[St.thn,St.els]at h;obtain⟨a,b,c⟩:=eJ2.1 h;exact bg0 els d a m (bg0 thn d n a hn b) c
def bg0:∀(l:List St) (d:Nat) (n m:Int),n<=200->J9 d l n=some m->m<=200
 | [],d,n,m,hn,h=>by
  cases d with
  | zero=>simp[J9]at h;omega
  | succ d=>rw[J9]at h;simp at h;omega
 | t::l,0,n,m,hn,h=>by simp[J9]at h
 | t::l,d+1,n,m,hn,h=>by
  rw[ap7]at h;obtain⟨b,a,c⟩:=eJ2.1 h;split at a
  .cases a
  .next f=>
   have e:n+1<=200:=by
    rcases Int.lt_or_le 200 (n+1)with h|h
    .exact fj (.inl h) f
    .exact h
   exact bg0 l (d+1) b m (dB2 t d (n+1) b e a) c
end
def cF5:∀(l:List Pr) (n:Int),n<=200->(l.foldlM (λn f=>ac8 f n) n).isSome=true->n+((l.map λf=>B8 f.body).sum:Nat)<=200
 | [],n,hn,_=>by simpa using hn
 | f::l,n,hn,h=>by
  rw[foldlM_cons]at h;obtain⟨k,c⟩:=eJ0.1 h;obtain⟨m,hm,a⟩:=eJ2.1 c;unfold ac8 at hm;split at hm
  .cases hm
  .have e:=(aT5 f.body 12 n m hm).1;have b:=bg0 f.body 12 n m hn hm;have:=cF5 l m b (by rw[a];rfl);rw[eI4,eO9];omega
def I3{p}(hm:O1 p=true):(i5 p).l.length<=200:=by
 rw[aG5];simp only[O1,eF1]at hm;have:=cF5 p.procs 0 om hm.2;unfold bi8;omega
def es2{w:World}{gb sh}{wy:Wy}{vr vl}(a:w.heap[gb]?=some (.cells #[sh,wy.proc,wy.n,vr,vl] 224 (0,0)))(e:At (n8 w) sh wy.s)(d:R (n8 w) vr wy.real)(c:R (n8 w) vl wy.live):At (n8 w) ⟨gb,0,none⟩ wy:=by
 refine⟨[sh,wy.proc,wy.n,vr,vl],⟨_,_,_,rfl,e.ptr,d,c⟩,λj u b=>?_⟩;rw[<-ao3,add_lit,eH5,eL6 w gb j _ 224 (0,0) a];simpa using b
def dv0(s v:Value)(i n)(c:s.cells=#[s])(hv:v.cells=#[v]):D0 prog 224 [(0,s),(1,.int .i64 i),(2,.int .i64 n),(3,v)]=some (.agg #[s,.int .i64 i,.int .i64 n,v,.slice none 0 0]):=by
 have a:(Value.int .i64 i).cells=#[.int .i64 i]:=rfl;have b:(Value.int .i64 n).cells=#[.int .i64 n]:=rfl;simp[D0,ef1,M2,Instr.fill,c,hv,a,b]
def aw1(s:Sh)(i:Nat):Wy:=⟨s,i,atI s.hi i-atI s.lo i+2,s.steps i,replicate (atI s.hi i-atI s.lo i+2).toNat false⟩
def dV0{p i x y}(a:aH0 p i x y):WyOk p i x y (aw1 (i5 p) i):=by
 refine⟨rfl,rfl,?_,a⟩;unfold aw1 atI;simp only[eF4,getD,a.ok.lo,a.ok.hi,eI9];omega
def dd5{p i x y}(a:aH0 p i x y):WyOk p i x y (F7 (i5 p) i):=by
 refine⟨rfl,rfl,?_,a⟩;unfold F7 atI;simp only[eF4,getD,a.ok.lo,a.ok.hi,eI9];omega
theorem ck7(s:Sh)(i):(F7 s i).live=cg7 (aA8 (aw1 s i).n.toNat ((aw1 s i).pairs (s.steps i))).1:=rfl
def cc0{p i x y}(a:aH0 p i x y):((F7 (i5 p) i).live.length:Int)=(F7 (i5 p) i).n:=by
 have c:=(dd5 a).n;have d:=a.ok.le;have b:(F7 (i5 p) i).n=(aw1 (i5 p) i).n:=rfl;rw[ck7,b];unfold cg7;rw[eE3,eI3,(ax2 _ _).nx.len];omega
def bD4{p}(hw:C1 p<=1000000){i}(b:i<p.procs.length):((i5 p).steps i).length<=800001:=by
 obtain⟨_,a⟩:=bI1 p hw i b;apply eD7 (bo1 _);rw[eG6];have:=U3 (λit:It=>((i5 p).goes it).map λt=>(⟨it.s.id,t,1⟩:Sp)) 2 ((i5 p).of i) λit _=>by rw[eE3];exact cA8 _ _
 omega
def cV5(a p i x y w)(hs:At (n8 w) a (i5 p))(hr:E3 p)(hw:C1 p<=1000000)(hi:i<p.procs.length)(Q:aH0 p i x y):p7 prog 132 #[a,i] w λu d=>(∃c F E,u = .pointer (some ⟨c,0,none⟩)/\d.heap[c]?=some (.cells #[a,i,(F7 (i5 p) i).n,F,E] 224 (0,0))/\w.heap.size<=c/\B7 (n8 w) d 302 F ((i5 p).steps i)/\B7 (n8 w) d 4 E (F7 (i5 p) i).live/\o6 w d):=by
 apply y5 [a,i] func132 rfl;have am:=I3 hr.may;have bk:=Q.ok.len;have bj:=Q.ok.le;obtain⟨vL,bh,bg,hL,aA,ax,bo,bu,bf⟩:=hs.sh;have ag:∀d,o6 w.drew d->E6 (n8 w) (n8 d):=λd h=>b7 ((o6.drew w).trans h);have s2:=bf (o6 w.drew) w.drew (t8.refl _) ag;have a3:=aA.inS (eD8.1 Q.ok.lo).1;have a4:=ax.inS (eD8.1 Q.ok.hi).1;have k1:J4 prog (λd=>o6 w.drew d) 3 (I2 bh i) (.int .i64 ((x:Int)+1)):=sdx λd h=>ldI aA (ag d h) Q.ok.lo;have k2:J4 prog (λd=>o6 w.drew d) 3 (I2 bg i) (.int .i64 ((y:Int)+1)):=sdx λd h=>ldI ax (ag d h) Q.ok.hi;have aE:=dV0 Q;have hn:=aE.n;have aj:IntKind.i64.wrap ((y:Int)+1-((x:Int)+1))=(y:Int)+1-((x:Int)+1):=N7 _ om;have ak:IntKind.i64.wrap ((y:Int)+1-((x:Int)+1)+2)=(aw1 (i5 p) i).n:=by rw[N7 _ om];omega
 have a7:(aw1 (i5 p) i).n=(((aw1 (i5 p) i).n.toNat:Nat):Int):=om
 generalize hX:(x:Int)+1=X at k1 aj ak;generalize hY:(y:Int)+1=Y at k2 aj ak;simp only[eQ,simprocAttr];refine C4 (o6 w.drew) 21 (A8 [0,1,2,3,4,5,6,7,8,9,10,11,12,13,14,15,16,17,18,19,20]) ?_;simp only[D7,A8,p6,n9,A6,simprocAttr,s2,k1,k2,a3,a4,aj,ak];apply z6 (df2 a p i x y w.drew (hs.mono (b7 (o6.drew w))) hr hw hi Q);rintro F w2 ⟨M,aK⟩;refine⟨aK,?_⟩;have K:=(o6.drew w).trans aK;have aU:=M.isS;obtain⟨c,S,aq,aL,Z,U⟩:∃c S,(Instr.box 224 (.agg #[a,i,(aw1 (i5 p) i).n,F,()])).run prog w2 = .ok (.pointer (some ⟨c,0,none⟩)) S/\o6 w2 S/\S.heap[c]?=some (.cells #[a,i,(aw1 (i5 p) i).n,F,()] 224 (0,0))/\w2.heap.size<=c:=
  ⟨_,_,rfl,o6.alloc _ _,eH3 w2 _,eE8 _⟩
 have W:=K.trans aL;have ab:c<S.heap.size:=(eD5.1 Z).1;obtain⟨E,w4,aB,af,al,au,_⟩:=mk (P:=prog) (w:=S) (h:=n8 S) (α:=Bool) bw9 Y5 (y:=false) rfl (n:=(aw1 (i5 p) i).n.toNat) om om (n7 _);rw[<-a7]at aB;have aX:w4.heap[c]?=some (.cells #[a,i,(aw1 (i5 p) i).n,F,()] 224 (0,0)):=(al.block c ab id).trans Z;have aw:∀b,B0 E b->b≠c:=λb g e=>by have:=au b g;omega
 obtain⟨T,s5,aY,ae⟩:=ai1 (P:=prog) (t:=95) (i:=4) (x:=E) aX dG (G3 af.isS) (aa9 af.isS) (B1 ck6).choose_spec.1 (by rw[<-F8 (B1 ck6).choose_spec.1];exact dc8);have A:T.heap[c]?=some (.cells #[a,i,(aw1 (i5 p) i).n,F,E] 224 (0,0)):=by simpa using aY
 have o:o6 w T:=t8.ext_of (W.trans al) ae λb g=>by subst g;exact eD7 K.size U
 have B:B7 (n8 w) T 4 E (replicate (aw1 (i5 p) i).n.toNat false):=(af.back W).mod ae λb g=>aw b g;have H:B7 (n8 w) T 302 F ((i5 p).steps i):=(((M.backN (o6.drew w)).ext aL).ext al).mod ae λb g e=>by
  subst e;have:=M.lt g;omega
 have bc:(Instr.loadAt 3 (.pointer (some ⟨c,2,none⟩))).run prog S = .ok ((aw1 (i5 p) i).n) S:=F9 (i:=2) Z rfl K7;have bd:(Instr.loadAt 222 (.pointer (some ⟨c,3,none⟩))).run prog T = .ok F T:=F9 (i:=3) A rfl dH2;have ap:At (n8 T) ⟨c,0,none⟩ (aw1 (i5 p) i):=es2 A (hs.mono (b7 o)) (H.rw_ (b7 o)) (B.rw_ (b7 o));have aI:=bX8 hr hw hi Q;have bs:=bD4 hw hi;simp only[D7,p6,n9,simprocAttr,dv0 a F i (aw1 (i5 p) i).n rfl (G3 aU),aq,bc,aB,s5,bd];refine z6 (bR7 ⟨c,0,none⟩ (aw1 (i5 p) i) p i x y F _ T ap aE am (H.rw_ (b7 o)) aI om) ?_;rintro ug w6 ⟨ac,aM⟩;obtain⟨vz,w7,az,a8,O,_⟩:=lit (P:=prog) (w:=w6) (h:=n8 w6) (α:=Int) (xs:=[(0:Int)]) (ys:=[0]) (parts:=#[(0,(0:Int))]) (n:=1) V8 rfl (G6.2 rfl) (by simp[Value.cells]) rfl rfl dG dG (n7 _);have v:=(ax2 (aw1 (i5 p) i).n.toNat ((aw1 (i5 p) i).pairs ((i5 p).steps i))).nx;have z:(F7 (i5 p) i).live=cg7 (aA8 (aw1 (i5 p) i).n.toNat ((aw1 (i5 p) i).pairs ((i5 p).steps i))).1:=ck7 _ _;generalize(aA8 (aw1 (i5 p) i).n.toNat ((aw1 (i5 p) i).pairs ((i5 p).steps i))).1=nx at ac v z;generalize(aA8 (aw1 (i5 p) i).n.toNat ((aw1 (i5 p) i).pairs ((i5 p).steps i))).2=pv at ac;have aC:=v.len;have l:H1 nx.length nx:=by rw[aC];exact v
 have aF:J2 nx.length 0=true:=C0.2 ⟨om,om⟩;simp only[p6,simprocAttr,az];apply z6 (df1 ug nx pv vz [0] w7 (ac.mono (b7 O)) l om (a8.rw_ (b7 O)) dG);rintro ur w8 ⟨⟨r,D,J⟩,bb⟩;have s:=aM.trans (O.trans bb);have V:=B.ext s;have N:R (D9 w8 (B0 E)) ur r:=D.flatR λb g=>E9 λaW=>by
  have h1:=B.lt aW;have h2:=D4 (D.free g);have:=(aM.trans O).size;omega
 have aH:∀b∈r,J2 nx.length b=true:=λb g=>((J.mem b).1 g).ok l;have br:r.length<=nx.length:=by
  have:=aV3 (n:=nx.length) (m:=0) J.le (λb g=>C0.1 (aH b g)) om;omega
 have a6:=dQ9 l aF J;rw[a6]at z;have ao:=N.isS;have aD:=N.vlen;have aZ:∀d,t8 (B0 E) w8 d->d.heap[c]?=some (.cells #[a,i,(aw1 (i5 p) i).n,F,E] 224 (0,0)):=λd hm=>by
  have av:c<T.heap.size:=(eD5.1 A).1;have a1:c<w8.heap.size:=eK3 av s.size;rw[hm.block c a1 λg=>aw c g rfl,s.block c av id,A]
 have aG:replicate (aw1 (i5 p) i).n.toNat false=(range nx.length).map λ(b:Nat)=>(([]:List Int)).contains (b:Int):=by
  rw[aC];apply eK8
  .simp
  .intro j h1 h2;simp
 rw[aG]at V;simp only[eQ,simprocAttr,ao,aD];refine B4 [5,46,47] (σ:=Nat) (λk f d=>f 48=k/\k<=r.length/\B7 (n8 w) d 4 E ((range nx.length).map λ(b:Nat)=>(r.take k).contains (b:Int))/\t8 (B0 E) w8 d) (λk=>r.length-k) 0 ?_ ?_
 .exact⟨rfl,eE2 _,by simpa using V,t8.refl _⟩
 rintro k f w9 ⟨e5,aQ,aR,_⟩ ⟨an,bq,C,G⟩;have ar:=aZ w9 G;simp only[eQ,simprocAttr,an,aR];refine A7 (λL=>?_) ?_
 .have a5:=N.inS L;have ad:=aI6 N (F5 G) L;have bp:=C0.1 (aH _ (eE1 L));have aa:r[k]=((r[k].toNat:Nat):Int):=om
  have ah:∀b:Int,(r.take (k+1)).contains b=((r.take k).contains b||decide (b=r[k])):=λb=>by
   rw[eD9 L,eO8,eN7,eE6,eE6,eE0,eE7,decide_eq_true_iff]
  have I:r[k].toNat<nx.length:=om
  rw[aa]at ad ah;generalize r[k].toNat=q at ad ah I;have l9:(Instr.loadAt 95 (.pointer (some ⟨c,4,none⟩))).run prog w9 = .ok E w9:=F9 (i:=4) ar rfl aQ5;have ay:=C.inS (k:=q) (by simpa using I);obtain⟨bC,s1,s2,s3,s4⟩:=G4 (P:=prog) (t:=4) C rfl (k:=q) (by simpa using I) (x:=true) (y:=true) rfl rfl (B1 Y5).choose_spec.1 (by rw[<-F8 (B1 Y5).choose_spec.1];exact aK1);simp only[p6,n9,A6,simprocAttr,an,e5,aQ,a5,ad,l9,ay,s1];refine U5 (k+1) ⟨?_,G.chain s3 λ_ _ h=>h⟩;have a0:((range nx.length).map λ(b:Nat)=>(r.take k).contains (b:Int)).set q true=(range nx.length).map λ(b:Nat)=>(r.take (k+1)).contains (b:Int):=by
   apply eK8
   .simp
   .intro j h1 h2;rw[getElem_set];simp only[eL1,eQ3,ah];by_cases hjq:q=j
    .subst hjq;simp
    .rw[fh hjq];have:decide ((j:Int)=(q:Int))=false:=by simp;omega
     rw[this,Bool.or_false]
  rw[<-a0];exact s2
 .rintro rfl;rw[eE4,<-z]at C;simp only[p6,simprocAttr,e5];apply o8 results132;simp only[C9,simprocAttr];have aJ:o6 w w9:=t8.ext_of (o.trans s) G λb g=>D4 (B.free g);have D:B7 (n8 w) w8 302 F ((i5 p).steps i):=H.ext s;refine⟨c,F,E,tt,ar,eD7 K.size U,D.mod G λb g aV=>?_,C,aJ⟩;have h1:=au b aV;have h2:=M.lt g;omega
instance:A0 (Int×Int):=⟨λp=>[.int .i64 p.1,.int .i64 p.2],λh cs x=>by
 constructor
 .rintro⟨c1,c2,rfl,h1,h2⟩;have e1:c1=[Value.int .i64 x.1]:=h1;have e2:c2=[Value.int .i64 x.2]:=h2;rw[e1,e2];rfl
 .rintro rfl;exact⟨[.int .i64 x.1],[.int .i64 x.2],rfl,rfl,rfl⟩⟩
def E1.nil{α:Type}[A9 α](h w T T'):E1 h w T T' () ([]:List Raw) ([]:List (List α)):=
 ⟨B7.nil _ _ _,rfl,λi u b h=>by simp at h,λi j u a _ h=>by simp at h,λi u h=>by simp at h⟩
def E1.push{α:Type}[A9 α]{h w w' T T' v v'}{us:List Raw}{l:List (List α)}(g:E1 h w T T' v us l){u'}{xs:List α}(C:B7 h w T' u' xs)(s:∀b,B0 u' b->¬Q6 v us b)
  (A:B7 h w' T v' (us++[⟨u'⟩])) (hm:t8 (B0 v) w w') (z:F4 w v v'):E1 h w' T T' v' (us++[⟨u'⟩]) (l++[xs]):=by
 have f:∀(j:Nat) (x:Raw),(us++[(⟨u'⟩:Raw)])[j]?=some x->(j=us.length/\x=⟨u'⟩)\/us[j]?=some x:=by
  intro j x c;rcases eH4 j us.length with i|u
  .rw[eI7 i]at c;exact .inr c
  .rw[eI8 u]at c;cases hq:j-us.length with
   | zero=>rw[hq]at c;simp at c;exact .inl ⟨om,c.symm⟩
   | succ q=>rw[hq]at c;simp at c
 have o:∀(j:Nat) (x:Raw),us[j]?=some x->∀b,B0 x.v b->b<w.heap.size/\¬B0 v b:=λj x c b e=>⟨g.lt (.inr ⟨x,eF7 c,e⟩),g.off j x c b e⟩;have p:∀b,B0 v' b->B0 v b\/w.heap.size<=b:=z;refine⟨A,by simp[g.len],?_,?_,?_⟩
 .intro j x F c r;rcases f j x c with⟨rfl,rfl⟩|d
  .rw[g.len,eI8 (eE8 _)]at r;simp at r;subst r;exact C.mod hm λb e a=>s b e (.inl a)
  .have i:j<l.length:=by rw[<-g.len];exact(eD8.1 d).1
   rw[eI7 i]at r;exact(g.row j x F d r).mod hm λb e=>g.off j x d b e
 .intro j k x y m c E b e a;rcases f j x c with⟨rfl,rfl⟩|d<;>rcases f k y E with⟨rfl,rfl⟩|n
  .exact m rfl
  .exact s b e (.inr ⟨y,eF7 n,a⟩)
  .exact s b a (.inr ⟨x,eF7 d,e⟩)
  .exact g.apart j k x y m d n b e a
 .intro j x c b e a;rcases f j x c with⟨rfl,rfl⟩|d
  .rcases p b a with t|t
   .exact s b e (.inl t)
   .have:=C.lt e;omega
  .obtain⟨t,D⟩:=o j x d b e;rcases p b a with B|B
   .exact D B
   .omega
def aj6(n:Nat)(l:List Int):List Bool:=(range n).map λ(b:Nat)=>l.contains (b:Int)
def ah6(n)(l:List Int):(aj6 n l).length=n:=by simp[aj6]
def aL4{n}{l m:List Int}(h:∀x,x∈l↔x∈m):aj6 n l=aj6 n m:=by
 refine map_congr_left λb _=>?_;rw[eO8,eE6,eE6];exact h _
def ch4(n):aj6 n []=replicate n false:=by
 apply eK8
 .simp[aj6]
 .intro j a b;simp[aj6]
def bg3{n}(l:List Int){q}(c:q<n):(aj6 n l).set q true=aj6 n ((q:Int)::l):=by
 apply eK8
 .simp[aj6]
 .intro j a b;rw[getElem_set];simp only[aj6,eL1,eQ3];by_cases hjq:q=j
  .subst hjq;simp
  .rw[fh hjq,contains_cons];have:((j:Int)==(q:Int))=false:=by simp;omega
   rw[this,eO3]
def dm4{n}(l:List Int){q}(a:q<n):(aj6 n l)[q]?=some (l.contains (q:Int)):=by
 simp[aj6,a]
section
variable {P:Program} {Q:Exit->Fr->World->Prop} {K:Fr->World->Prop} {f:Fr} {w:World} {ops:Array Oper}
def ei8:CW P .skip Q f w=Q .normal f w:=propext eL8
def et1{a b}:CW P (.seq a b) Q f w=CW P a (aj9 (CW P b Q) Q) f w:=propext eL8
def dq8{c a b}:CW P (.cond c a b) Q f w=aZ7 (ev f c) (CW P a Q) (CW P b Q) f w:=propext eL8
def eg5{id a}:CW P (.block id a) Q f w=CW P a (ai2 id Q) f w:=propext eL8
def ei7{a}:CW P (.loop a) Q f w=cv9 (CW P a) Q f w:=propext eL8
def ei5{id}:CW P (.region id ops true) Q f w=dr3 P ops (Q .normal) f w:=propext eL8
def ei6{id}:CW P (.exit id) Q f w=Q (.exit id) f w:=propext eL8
def et0:CW P .ret Q f w=Q .ret f w:=propext eL8
def eq5:aj9 K Q .normal f w=K f w:=propext eL8
def eq6:aj9 K Q .ret f w=Q .ret f w:=propext eL8
def eq7{i}:aj9 K Q (.exit i) f w=Q (.exit i) f w:=propext eL8
def eh1{i}:ai2 i Q .normal f w=Q .normal f w:=propext eL8
def eh2{i}:ai2 i Q .ret f w=Q .ret f w:=propext eL8
def eh3{i j}:ai2 i Q (.exit j) f w=if j=i then Q .normal f w else Q (.exit j) f w:=propext eL8
def ek9{A B:Fr->World->Prop}:aZ7 true A B f w=A f w:=propext eL8
def ek8{A B:Fr->World->Prop}:aZ7 false A B f w=B f w:=propext eL8
end
def i4:=zJ (zJ (zJ (zJ (zJ (zJ @et1 @ei8) (zJ @dq8 (zJ @eg5 @ei7))) (zJ (zJ @es9 @ei5) (zJ @ei6 (zJ @et0 @eq5)))) (zJ (zJ (zJ @eq4 @eq6) (zJ @eq7 (zJ @eh1 @eh0))) (zJ (zJ @eh2 @eh3) (zJ @ek9 (zJ @ek8 @et4))))) (zJ (zJ (zJ (zJ @ew9 @eA9) (zJ @ei2 (zJ @ev8 @ei3))) (zJ (zJ @ev9 @ez4) (zJ @eB4 (zJ @dR9 @eo2)))) (zJ (zJ (zJ @dS0 @eo3) (zJ @eo4 (zJ @ed7 @dX1))) (zJ (zJ @dX0 @eo1) (zJ @ez6 (zJ @ez5 @ed6)))))) (zJ (zJ (zJ (zJ (zJ @ez8 @ez7) (zJ @ev6 (zJ @dL9 @en1))) (zJ (zJ @ey9 @dR6) (zJ @ei1 (zJ @ed0 @ey4)))) (zJ (zJ (zJ @ez0 @ei0) (zJ @ev5 (zJ @en4 @ev4))) (zJ (zJ @ev.eq_1 @ev.eq_2) (zJ @ev.eq_3 (zJ @ev.eq_4 @G9.eq_1))))) (zJ (zJ (zJ (zJ @G9.eq_2 @eA8) (zJ @ez1 (zJ @ez9 @eA0))) (zJ (zJ @List.map_cons.{0,0} @List.map_nil.{0,0}) (zJ @List.map_toArray.{0,0} (zJ @cw5.eq_1 @cw5.eq_2)))) (zJ (zJ (zJ @eb7 @eu6) (zJ @eu7 (zJ @dy3.eq_1 @List.getElem?_toArray.{0}))) (zJ (zJ @List.getElem?_cons_zero.{0} (zJ @List.getElem?_cons_succ.{0} @Option.bind_some.{0,0})) (zJ @Option.some.injEq.{0} (zJ @eK7 @Bool.true_eq_false))))))
def fe:=zJ @D7 (zJ @i4 @n9)
def eY:=zJ @D7 @i4
def eF:=zJ @i4 @n9
structure aw0 (p:Pg) (i x y:Nat) (wy:Wy):Prop extends WyOk p i x y wy where
 real:wy.real=(i5 p).steps i
 live:(wy.live.length:Int)=wy.n
def V3{p i x y}(a:aH0 p i x y):aw0 p i x y (F7 (i5 p) i):=⟨dd5 a,rfl,cc0 a⟩
def bu9{p i x y}{wy:Wy}(h:WyOk p i x y wy){l:List Sp}(c:∀t∈l,RgS x y t):∀t∈wy.pairs l,(0<=t.1/\t.1<wy.n)/\(0<=t.2/\t.2<wy.n):=by
 intro t e;obtain⟨s,d,rfl⟩:=eF2.1 e;have b:=c s d;refine⟨h.index_rg ?_,h.index_rg (.inr b.2)⟩;rcases b.1 with a|a
 .exact .inl a
 .exact .inr (.inr a)
def dD9{nx:List (List Int)}(c:H1 nx.length nx):∀k,k<nx.length->0<=atI (au5 nx) (k:Nat)/\atI (au5 nx) (k:Nat)<(nx.length:Int):=by
 intro k a;have:atI (au5 nx) (k:Nat)=((((range nx.length).find? λb=>af9 nx (k:Nat) (b:Nat)&&af9 nx (b:Nat) (k:Nat)).getD 0:Nat):Int):=by
  unfold atI;rw[eF4,getD,eD1 (by simp[au5,a])];simp[au5]
 rw[this];cases hf:(range nx.length).find? λb=>af9 nx (k:Nat) (b:Nat)&&af9 nx (b:Nat) (k:Nat)with
 | none=>simp;omega
 | some q=>
  have:=mem_of_find?_eq_some hf;rw[eH7]at this;simp;omega
def aR8{l:List Int}{k}(a:k<l.length):atI l (k:Nat)=l[k]:=by
 unfold atI;rw[eF4,getD,eD1 a];rfl
def dB0{h v}{l:List (Int×Int)}{w}(hv:R h v l)(hw:E6 h (n8 w)){k}{x:Int×Int}(a:l[k]?=some x):(Instr.loadAt 208 (.pointer (some (I2 v (k*2))))).run prog w = .ok (.agg #[.int .i64 x.1,.int .i64 x.2]) w:=
 cp9 (P:=prog) (t:=208) hv hw a dG9 dI7 cU4 bY4
def dK4{w}(a b):∃c e d,(Instr.alloc 208 true (.tuple #[])).run prog w = .ok (.pointer (some ⟨c,0,none⟩)) e/\(Instr.storeAt 208 (.pointer (some ⟨c,0,none⟩)) (.agg #[.int .i64 a,.int .i64 b])).run prog e = .ok () d/\o6 w d/\d.heap[c]?=some (.cells #[.int .i64 a,.int .i64 b] 208 (0,0))/\w.heap.size<=c:=by
 obtain⟨f,g⟩:=aE6 (P:=prog) (w:=w) (T:=208) dJ4 rfl (cs:=#[.int .i64 a,.int .i64 b]) rfl (by simp[Value.oneCell']);exact⟨_,_,_,f,g,o6.alloc _ _,eH3 w _,eE8 _⟩
def aF3{w d:World}{c a b}(h:w.heap[c]?=some (.cells #[.int .i64 a,.int .i64 b] 208 (0,0))){M:Nat->Prop}(hm:t8 M w d)(f:¬M c):
  (Instr.loadAt 3 (.pointer (some ⟨c,0,none⟩))).run prog d = .ok (.int .i64 a) d/\(Instr.loadAt 3 (.pointer (some ⟨c,1,none⟩))).run prog d = .ok (.int .i64 b) d:=by
 have e:=(hm.block c (eD5.1 h).1 f).trans h;exact⟨F9 (i:=0) e rfl K7,F9 (i:=1) e rfl K7⟩
def aJ1(a:List Int)(n:Int)(b:List (Int×Int)):List Int:=atI a 0::atI a (n-1)::(b.filter λt=>!decide (atI a t.1=atI a t.2)).map λt=>atI a t.1
def cR3(a:List Int)(n)(b:List (Int×Int))(t:Int×Int)(x):x∈aJ1 a n (b++[t])↔x∈aJ1 a n b\/(decide (atI a t.1=atI a t.2)=false/\x=atI a t.1):=by
 unfold aJ1;rw[eJ8,eG8];by_cases h:atI a t.1=atI a t.2
 .simp[h]
 .simp[h,or_assoc]
def df4(a)(wy:Wy)(p i x y w)(ha:At (n8 w) a wy)(hr:E3 p)(hw:C1 p<=1000000)(hi:i<p.procs.length)(D:aw0 p i x y wy):
  p7 prog 297 #[.pointer (some a)] w λu g=>(R (n8 g) u wy.traps/\o6 w g):=by
 apply y5 [.pointer (some a)] func297 rfl;obtain⟨_,vr,_,_,a4,_,a6,cq⟩:=ha.wy;have lw:=a6 w (n7 _);rw[D.real]at a4;have bc:=I3 hr.may;have cE:=D.part.ok.len;have cD:=D.part.ok.le;have hn:=D.n;have ak:=bX8 hr hw hi D.part;have c2:=bD4 hw hi;have aK:=bu9 D.toWyOk ak;have cf:(wy.pairs ((i5 p).steps i)).length=((i5 p).steps i).length:=eE3 _;have hF:wy.traps=((range (au5 (aA8 wy.n.toNat (wy.pairs ((i5 p).steps i))).1).length).filter λ(i':Nat)=>decide (atI (au5 (aA8 wy.n.toNat (wy.pairs ((i5 p).steps i))).1) (i':Int)=(i':Int)) && !(aJ1 (au5 (aA8 wy.n.toNat (wy.pairs ((i5 p).steps i))).1) wy.n (wy.pairs ((i5 p).steps i))).contains (i':Int)).map λ(i':Nat)=>((range (au5 (aA8 wy.n.toNat (wy.pairs ((i5 p).steps i))).1).length).filter λ(j:Nat)=>decide (atI (au5 (aA8 wy.n.toNat (wy.pairs ((i5 p).steps i))).1) (j:Int)=(i':Int))).map λ(j:Nat)=>wy.place (j:Int):=by
  unfold Wy.traps;rw[D.real];rfl
 simp only[eQ,simprocAttr,lw];apply z6 (bR7 a wy p i x y vr _ w ha D.toWyOk bc a4 ak om);rintro ug w2 ⟨aS,ci⟩;have A:=ax2 wy.n.toNat (wy.pairs ((i5 p).steps i));generalize cg:wy.pairs ((i5 p).steps i)=V at aK cf hF aS A;have ac:=A.nx.len;simp only[p6,simprocAttr];apply z6 (df0 ug _ _ w2 aS (by rw[ac];exact A) om);rintro up w4 ⟨⟨q,bu,L,bv⟩,bB⟩;have K:H1 (aA8 wy.n.toNat V).1.length (aA8 wy.n.toNat V).1:=by rw[ac];exact A.nx
 have cd:=dS2 K L bv;subst cd;have E:=dD9 K;rw[L,ac]at hF;rw[ac]at L E;generalize au5 (aA8 wy.n.toNat V).1=d at bu hF E L;clear bv K ac A aS;have S:=ci.trans bB;have B:R (n8 w4) up d:=bu.rw_ (b7 bB);have be:=B.isS;have br:=B.vlen;have cl:=a6 w4 (b7 S);have ca:wy.n=((wy.n.toNat:Nat):Int):=om
 have bQ:2<=wy.n.toNat:=om
 obtain⟨vo,w5,a0,J,bC,_,_⟩:=mk (P:=prog) (w:=w4) (h:=n8 w4) (α:=Bool) bw9 Y5 (y:=false) rfl (n:=wy.n.toNat) om om (n7 _);rw[<-ca]at a0;generalize hM:wy.n.toNat=M at a0 J hF E L bQ;have cZ:wy.n=(M:Int):=om
 rw[<-ch4]at J;have cb:=E 0 om;have cc:=E (M-1) om;rw[aR8 om]at cb cc;have bl:=B.inS (k:=0) om;have bm:=B.inS (k:=M-1) om;have bs:=J.inS (k:=d[0].toNat) (by rw[ah6];omega);have bt:=J.inS (k:=d[M-1].toNat) (by rw[ah6];omega);have ch:IntKind.i64.wrap (wy.n-1)=((M-1:Nat):Int):=by rw[N7 _ om];omega
 have aJ:=J.ext (o6.drew w5);obtain⟨w6,s1,a1,bq,_⟩:=G4 (P:=prog) (t:=4) aJ rfl (k:=d[0].toNat) (by rw[ah6];omega) (x:=.bool true) (y:=true) rfl rfl (B1 Y5).choose_spec.1 (by rw[<-F8 (B1 Y5).choose_spec.1];exact aK1);rw[bg3 _ om]at a1;obtain⟨w7,s2,af,b6,_⟩:=G4 (P:=prog) (t:=4) a1 rfl (k:=d[M-1].toNat) (by rw[ah6];omega) (x:=.bool true) (y:=true) rfl rfl (B1 Y5).choose_spec.1 (by rw[<-F8 (B1 Y5).choose_spec.1];exact aK1);rw[bg3 _ om]at af;have b0:aj6 M [((d[M-1].toNat:Nat):Int),((d[0].toNat:Nat):Int)]=aj6 M (aJ1 d wy.n []):=by
  refine aL4 λz=>?_;unfold aJ1;have e0:atI d 0=d[0]:=by have:=aR8 (l:=d) (k:=0) om;simpa using this
  have e1:atI d (wy.n-1)=d[M-1]:=by rw[show wy.n-1=((M-1:Nat):Int) by omega,aR8 om]
  rw[e0,e1];simp only[filter_nil,map_nil,eF0,eH6,eM0];rw[show((d[M-1].toNat:Nat):Int)=d[M-1] by omega,show((d[0].toNat:Nat):Int)=d[0] by omega,or_comm]
 rw[b0]at af;have aG:t8 (B0 vo) w5.drew w7:=bq.chain b6 λ_ _ h=>h;have a3:∀g,t8 (B0 vo) w5.drew g->E6 (n8 w4) (n8 g):=λg h=>G8 (b7 (bC.trans (o6.drew w5))) h λb hb=>J.free hb;have k0:J4 prog (λg=>t8 (B0 vo) w5.drew g) 3 (I2 up 0) (.int .i64 d[0]):=sdx λg h=>aI6 B (a3 g h) (k:=0) om;have k1:J4 prog (λg=>t8 (B0 vo) w5.drew g) 3 (I2 up (M-1)) (.int .i64 d[M-1]):=sdx λg h=>aI6 B (a3 g h) (k:=M-1) om;have cr:=cq (t8 (B0 vo) w5.drew) w5.drew (t8.refl _) λg h=>A3 (b7 S) (a3 g h);have bY:d[0]=((d[0].toNat:Nat):Int):=om
 have bZ:d[M-1]=((d[M-1].toNat:Nat):Int):=om
 rw[bY]at k0;rw[bZ]at k1;generalize d[0].toNat=P0 at k0 bs s1;generalize d[M-1].toNat=P1 at k1 bt s2;simp only[eQ,simprocAttr,cl,a0];refine C4 (t8 (B0 vo) w5.drew) 17 (A8 [0,1,2,3,4,5,6,7,8,9,10,11,12,13,14,15,16]) ?_;simp only[D7,A8,p6,n9,A6,simprocAttr,k0,k1,cr,bl,bm,ch,bs,bt,s1,s2,F2];refine⟨bq,aG,?_⟩;have aO:o6 w4 w7:=t8.ext_of (bC.trans (o6.drew w5)) aG λb hb=>D4 (J.free hb);have ap:=S.trans aO;simp only[p6,simprocAttr,a6 w7 (b7 ap)];apply z6 (aF6 a wy p i x y vr _ w7 (ha.mono (b7 ap)) D.toWyOk (A9.mono (b7 ap) a4) ak om);rw[cg];rintro uq w8 ⟨ah,bD⟩;have a2:=af.ext bD;have ao:R (D9 w8 (B0 vo)) uq V:=ah.flatRN λb hb=>E9 λbX=>by
  have h1:=af.lt bX;have h2:=D4 (ah.free hb);omega
 simp only[eQ,simprocAttr,ao.isS,ao.vlen];refine B4 [0,3,4,43,44] (σ:=Nat) (λk f g=>f 45 = .int .i64 k/\k<=V.length/\B7 (n8 w4) g 4 vo (aj6 M (aJ1 d wy.n (V.take k)))/\t8 (B0 vo) w8 g) (λk=>V.length-k) 0 ?_ ?_
 .exact⟨rfl,eE2 _,by simpa using a2,t8.refl _⟩
 rintro k f w9 ⟨e0,e3,e4,a9,bO,_⟩ ⟨Y,c0,ag,aZ⟩;have U:=a2.ext2 (aO.trans bD) aZ;simp only[eQ,simprocAttr,Y,bO];refine A7 (λC=>?_) ?_
 .have bk:=ao.inS C;have aA:=dB0 ao (F5 aZ) (eD1 C);have bz:=eD9 C;obtain⟨bw,bx⟩:=aK _ (eE1 C);generalize V[k]=t at aA bz bw bx;obtain⟨z1,z2⟩:=t;simp only at bw bx aA;obtain⟨Q1,rfl⟩:∃Q:Nat,z1=(Q:Int):=⟨z1.toNat,om⟩;obtain⟨Q2,rfl⟩:∃Q:Nat,z2=(Q:Int):=⟨z2.toNat,om⟩;obtain⟨c,wz,r,bf,al,aq,bh,b2⟩:=dK4 (w:=w9) (Q1:Int) (Q2:Int);have N:=U.trans (aq.trans (o6.drew r));have ad:=λg (h:o6 r.drew g)=>aF3 bh (M:=λ_=>False) ((o6.drew r).trans h) id;have t0:J4 prog (λg=>o6 r.drew g) 3 ⟨c,0,none⟩ (.int .i64 (Q1:Int)):=sdx λg h=>(ad g h).1;have t1:J4 prog (λg=>o6 r.drew g) 3 ⟨c,1,none⟩ (.int .i64 (Q2:Int)):=sdx λg h=>(ad g h).2;have az:Q1<d.length:=om
  have aV:Q2<d.length:=om
  have aT:=B.inS az;have bi:=B.inS aV;have g1:=aR8 az;have g2:=aR8 aV;have u1:J4 prog (λg=>o6 r.drew g) 3 (I2 up Q1) (.int .i64 (atI d Q1)):=sdx λg h=>by rw[g1];exact aI6 B (b7 (N.trans h)) az
  have u2:J4 prog (λg=>o6 r.drew g) 3 (I2 up Q2) (.int .i64 (atI d Q2)):=sdx λg h=>by rw[g2];exact aI6 B (b7 (N.trans h)) aV
  have v1:(Instr.loadAt 3 (.pointer (some (I2 up Q1)))).run prog r.drew = .ok (.int .i64 (atI d Q1)) r.drew:=by rw[g1];exact aI6 B (b7 N) az
  have ce:=E Q1 om;have ae:=ag.ext (aq.trans (o6.drew r));have b5:=(ad r.drew (t8.refl _)).1;have X:=λz=>cR3 d wy.n (V.take k) ((Q1:Int),(Q2:Int)) z;rw[<-bz]at X;simp only at X;generalize atI d (Q1:Int)=A1 at u1 v1 ce X;generalize atI d (Q2:Int)=A2 at u2 X;obtain⟨A1,rfl⟩:∃Q:Nat,A1=(Q:Int):=⟨A1.toNat,om⟩;have aH:t8 (B0 vo) w8 r.drew:=aZ.chain (t8.up (aq.trans (o6.drew r))) λ_ _ h=>h;rcases eD2 (decide ((A1:Int)=A2))with hq|hq
  .simp only[p6,n9,A6,simprocAttr,Y,a9,bk,aA,bf,al];refine C4 (o6 r.drew) 11 (A8 [0,1,2,3,4,5,6,7,8,9,10]) ?_;simp only[D7,A8,p6,n9,A6,simprocAttr,e3,t0,t1,u1,u2,aT,bi,hq,Y];refine U5 (k+1) ⟨?_,aH⟩;have:aj6 M (aJ1 d wy.n (V.take (k+1)))=aj6 M (aJ1 d wy.n (V.take k)):=aL4 λz=>by rw[X z,hq];simp
   rw[this];exact ae
  .have bn:=ae.inS (k:=A1) (by rw[ah6];omega);obtain⟨aD,s1,aI,bp,_⟩:=G4 (P:=prog) (t:=4) ae rfl (k:=A1) (by rw[ah6];omega) (x:=.bool true) (y:=true) rfl rfl (B1 Y5).choose_spec.1 (by rw[<-F8 (B1 Y5).choose_spec.1];exact aK1);rw[bg3 _ om]at aI;simp only[p6,n9,A6,simprocAttr,Y,a9,bk,aA,bf,al];refine C4 (o6 r.drew) 11 (A8 [0,1,2,3,4,5,6,7,8,9,10]) ?_;simp only[D7,A8,p6,n9,A6,simprocAttr,e3,t0,t1,u1,u2,aT,bi,hq];simp only[p6,n9,A6,simprocAttr,e4,Y,b5,v1,aT,bn,s1];refine U5 (k+1) ⟨?_,aH.chain bp λ_ _ h=>h⟩;have:aj6 M (aJ1 d wy.n (V.take (k+1)))=aj6 M ((A1:Int)::aJ1 d wy.n (V.take k)):=aL4 λz=>by rw[X z,hq,eF0];simp[or_comm]
   rw[this];exact aI
 rintro rfl;rw[eE4]at ag;generalize c1:aJ1 d wy.n V=op at ag hF;have bA:R (n8 w9) vo (aj6 M op):=ag.rw_ (b7 U);have aN:=S.trans U;have aM:R (n8 w9) up d:=A9.mono (b7 U) B;have bV:=ha.mono (b7 aN);generalize bR:(λ(i':Nat)=>decide (atI d (i':Int)=(i':Int)) && !op.contains (i':Int))=Pr at hF;generalize bU:(λ(i':Nat)=>((range M).filter λ(j:Nat)=>decide (atI d (j:Int)=(i':Int))).map λ(j:Nat)=>wy.place (j:Int))=Rw at hF;clear ag a2 af a1 aJ J ao ah;simp only[eF,simprocAttr,e3,be,br];refine B4 [0,3,4,68,69] (σ:=Nat×Value×List Raw) (λs f g=>f 70 = .int .i64 s.1/\f 7=s.2.1/\s.1<=M/\E1 (n8 w9) g 45 3 s.2.1 s.2.2 (((range s.1).filter Pr).map Rw)/\o6 w9 g) (λs=>M-s.1) (0,.slice none 0 0,[]) ?_ ?_
 .exact⟨rfl,rfl,eE2 _,by simpa using E1.nil _ _ _ _,t8.refl _⟩
 rintro⟨m,v,us⟩ f2 aD ⟨g0,g3,g4,cX,bb,_⟩ ⟨W,h7,b8,H,F⟩;simp only at W h7 b8 H;rw[e0]at g0;rw[e3]at g3;rw[e4]at g4;rw[L]at bb;have a5:=aN.trans F;have an:∀q:Nat,((range (q+1)).filter Pr).map Rw=((range q).filter Pr).map Rw++if Pr q then[Rw q]else[]:=λq=>by
  rw[eO6,eJ8,eG8]
  congr 1
  by_cases h:Pr q=true<;>simp[h]
 simp only[eF,simprocAttr,W,bb];refine A7 (λC=>?_) ?_;rotate_left
 .rintro rfl;simp only[i4,simprocAttr,h7];exact o8 results297 ⟨by rw[hF];exact H.ro (b7 F),a5⟩
 have aX:m<d.length:=om
 have aU:=B.inS aX;have aF:=λg (h:o6 w9 g)=>aI6 aM (b7 h) aX;rw[<-aR8 aX]at aF;have aC:=aF aD F;have O:Pr m=(decide (atI d (m:Int)=(m:Int)) && !op.contains (m:Int)):=by rw[<-bR]
 have aj:Pr m=false->∃s:Nat×Value×List Raw,M-s.1<M-m/\(Value.int .i64 (IntKind.i64.wrap ((m:Int)+1))) = .int .i64 s.1/\v=s.2.1/\s.1<=M/\E1 (n8 w9) aD 45 3 s.2.1 s.2.2 (((range s.1).filter Pr).map Rw)/\o6 w9 aD:=λh=>by
  refine nx4 (m+1,v,us) ⟨?_,F⟩;simp only[];rw[an,h,fh dG,eG5];exact H
 generalize cY:atI d (m:Int)=Am at aC O;rcases eD2 (decide (Am=(m:Int)))with q1|q1;rotate_left
 .simp only[i4,n9,A6,simprocAttr,W,h7,g3,aU,aC,q1];exact aj (by rw[O,q1];rfl)
 have bo:=bA.inS (k:=m) (by rw[ah6];exact C);have aY:=ldB bA (b7 F) (k:=m) (by rw[ah6];exact C);have b3:(aj6 M op)[m]'(by rw[ah6];exact C)=op.contains (m:Int):=by
  have:=dm4 op C;rw[eD1 (by rw[ah6];exact C)]at this;exact eF3 this
 rw[b3]at aY;rcases eD2 (op.contains (m:Int))with q2|q2
 .simp only[i4,n9,A6,simprocAttr,W,h7,g3,g4,aU,aC,q1,bo,aY,q2];exact aj (by rw[O,q1,q2];rfl)
 have bS:Pr m=true:=by rw[O,q1,q2];rfl
 have bT:Rw m=((range M).filter λ(j:Nat)=>decide (atI d (j:Int)=(m:Int))).map λ(j:Nat)=>wy.place (j:Int):=by rw[<-bU]
 simp only[i4,n9,A6,simprocAttr,W,g3,g4,aU,aC,q1,bo,aY,q2,be,br];refine B4 [0,3,4,7,8,68,69,70,85,86] (σ:=Nat×Value) (λs f g=>f 87 = .int .i64 s.1/\f 9=s.2/\s.1<=M/\B7 (n8 w9) g 3 s.2 (((range s.1).filter λ(j:Nat)=>decide (atI d (j:Int)=(m:Int))).map λ(j:Nat)=>wy.place (j:Int))/\(∀b,B0 s.2 b->¬Q6 v us b)/\E1 (n8 w9) g 45 3 v us (((range m).filter Pr).map Rw)/\o6 w9 g) (λs=>M-s.1) (0,.slice none 0 0) ?_ ?_
 .exact⟨rfl,rfl,eE2 _,by simpa using B7.nil _ _ _,λb hb=>fj hb E7,H,F⟩
 rintro⟨j,ul⟩ f3 cv ⟨r0,r3,r4,r7,r8,c4,c5,cp,c6,bF,_⟩ ⟨Z,h9,b4,I,ab,o,G⟩;simp only at Z h9 b4 I ab;rw[L]at bF;rw[g0]at r0;rw[g3]at r3;rw[h7]at r7;have cB:(((range j).filter λ(j:Nat)=>decide (atI d (j:Int)=(m:Int))).map λ(j:Nat)=>wy.place (j:Int)).length<=j:=by
  rw[eE3];exact eD7 (eG0 _ _) dG
 have b1:us.length<=m:=by
  rw[o.len,eE3];exact eD7 (eG0 _ _) dG
 simp only[eF,simprocAttr,Z,bF];refine A7 (λcF=>?_) ?_
 .have aW:j<d.length:=om
  have bj:=B.inS aW;have aB:=aI6 aM (b7 G) aW;rw[<-aR8 aW]at aB;have am:(((range (j+1)).filter λ(j:Nat)=>decide (atI d (j:Int)=(m:Int))).map λ(j:Nat)=>wy.place (j:Int))=(((range j).filter λ(j:Nat)=>decide (atI d (j:Int)=(m:Int))).map λ(j:Nat)=>wy.place (j:Int))++if decide (atI d (j:Int)=(m:Int))then[wy.place (j:Int)]else[]:=by
   rw[eO6,eJ8,eG8]
   congr 1
   cases h:decide (atI d (j:Int)=(m:Int))<;>simp[h]
  generalize atI d (j:Int)=Aj at aB am;rcases eD2 (decide (Aj=(m:Int)))with q3|q3
  .simp only[i4,n9,A6,simprocAttr,Z,r0,r3,r8,bj,aB,q3];refine B3 (aq0 a wy p i x y (j:Int) cv (bV.mono (b7 G)) D.toWyOk om) (λcw T=>?_);have ar:=G.trans T;obtain⟨p1,cu,da,p2,p3,p4,p5⟩:=push (e:=45) V8 rfl (I.ext T) (x:=.int .i64 (wy.place (j:Int))) (y:=wy.place (j:Int)) rfl om om (b7 ar);simp only[Value.cells]at p1 p2;have aL:=o.ext T;simp only[eF,simprocAttr,Z,h9,p1,p2];refine nx4 (j+1,cu) ⟨?_,λb hb bg=>?_,aL.mod p4 λb hb bW=>ab b bW hb,(I.ext T).ext2 ar p4⟩
   .simp only[];rw[am,q3,fi rfl];exact p3
   .rcases p5 b hb with h|h
    .exact ab b h bg
    .have:=aL.lt bg;omega
  .simp only[i4,n9,A6,simprocAttr,Z,r3,r8,bj,aB,q3];refine nx2 (j+1,ul) ⟨h9,om,?_,ab,o,G⟩;simp only[];rw[am,q3,fh dG,eG5];exact I
 .rintro rfl;rw[<-bT]at I;obtain⟨p1,v',cw,p2,p3,p4,p5⟩:=push (e:=261) cS8 rfl o.outer (x:=ul) (y:=(⟨ul⟩:Raw)) (by rw[G3 I.isS];exact⟨rfl,aa9 I.isS⟩) om om (b7 G);simp only[eF,simprocAttr,h9,r7,cp,W,p1,p2];refine nx4 (m+1,v',us++[⟨ul⟩]) ⟨?_,o.outer.ext2 G p4⟩;simp only[];rw[an,bS,fi rfl];exact o.push I ab p3 p4 p5
def cI4{p i x y}{wy:Wy}(b:aw0 p i x y wy):∃a op:List Int,wy.traps=((range a.length).filter λ(c:Nat)=>decide (atI a (c:Int)=(c:Int)) && !op.contains (c:Int)).map (λ(c:Nat)=>((range a.length).filter λ(j:Nat)=>decide (atI a (j:Int)=(c:Int))).map λ(j:Nat)=>wy.place (j:Int))/\(a.length:Int)=wy.n/\atI a 0∈op/\atI a (wy.n-1)∈op:=by
 refine⟨au5 (aA8 wy.n.toNat (wy.pairs wy.real)).1,aJ1 (au5 (aA8 wy.n.toNat (wy.pairs wy.real)).1) wy.n (wy.pairs wy.real),rfl,?_,?_,?_⟩
 .have d:=(ax2 wy.n.toNat (wy.pairs wy.real)).nx.len;have e:=b.n;have f:=b.part.ok.le;unfold au5;rw[eE3,eI3,d];omega
 .simp[aJ1]
 .simp[aJ1]
def cI5{p i x y}{wy:Wy}(a:aw0 p i x y wy):∀l∈wy.traps,∀id∈l,(x:Int)<id/\id<=(y:Int):=by
 obtain⟨m,op,e,s,n,o⟩:=cI4 a;intro l hm id hid;rw[e]at hm;obtain⟨k,g,rfl⟩:=eF2.1 hm;obtain⟨j,f,rfl⟩:=eF2.1 hid;rw[eF6,eH7]at g f;have c:=eD3 f.2;have b:(k:Int)∉op:=by
  have:=g.2;rw[eF1]at this;intro hm;have q:=eE6.2 hm;rw[q]at this;simp at this
 have t:=a.n;have h:=a.part.ok.le;rw[a.toWyOk.place];have r:j≠0:=λe=>by
  subst e;apply b;rw[<-c];simpa using n
 have d:(j:Int)≠wy.n-1:=λe=>by
  apply b;rw[<-c,e];exact o
 rw[fh om,fh d];omega
def ck4{p i x y}{wy:Wy}(b:aw0 p i x y wy):(wy.traps.length:Int)<=wy.n/\∀l∈wy.traps,(l.length:Int)<=wy.n:=by
 obtain⟨a,op,e,h,d,f⟩:=cI4 b;rw[e];constructor
 .rw[eE3];have:=eG0 (λ(c:Nat)=>decide (atI a (c:Int)=(c:Int)) && !op.contains (c:Int)) (range a.length);rw[eI3]at this;omega
 .intro l hm;obtain⟨k,g,rfl⟩:=eF2.1 hm;rw[eE3];have:=eG0 (λ(j:Nat)=>decide (atI a (j:Int)=(k:Int))) (range a.length);rw[eI3]at this;omega
def dU5{p i x y}{wy:Wy}(b:aw0 p i x y wy):∀t∈wy.virtual,RgS x y t:=by
 intro t c;obtain⟨l,d,c⟩:=eG1.1 c;obtain⟨id,a,rfl⟩:=eF2.1 c;exact⟨.inr (cI5 b l d id (eF6.1 a).1),.inl rfl⟩
def dK5{p i x y}{wy:Wy}(a:aw0 p i x y wy)(b:(i5 p).l.length<=200):wy.virtual.length<=202*202:=by
 obtain⟨f,d⟩:=ck4 a;have g:=a.n;have c:=a.part.ok.len;have:=U3 (λl:List Int=>(l.filter λid=>decide ((wy.s.it id).s.kind=10)).map λid=>(⟨id,-1,3⟩:Sp)) 202 wy.traps λl e=>by
  rw[eE3];apply eD7 (eG0 _ _);have:=d l e;omega
 apply eD7 this;exact eN1 _ om
def bK3(a)(wy:Wy)(p i x y w)(ha:At (n8 w) a wy)(hr:E3 p)(hw:C1 p<=1000000)(hi:i<p.procs.length)(b:aw0 p i x y wy):
  p7 prog 273 #[a] w λu L=>(B7 (n8 w) L 302 u wy.virtual/\o6 w L):=by
 apply y5 [a] func273 rfl;obtain⟨vs,_,_,aq,_,_,av,_⟩:=ha.wy;obtain⟨sh,rfl,has⟩:=Ptr.at_ aq;have ao:At (n8 w) sh (i5 p):=by rw[<-b.s];exact has
 obtain⟨vL,_,_,hL,_,_,_,ar,_⟩:=ao.sh;have aA:=I3 hr.may;have aF:=b.part.ok.len;have hn:=b.n;have W:=cI5 b;obtain⟨ap,v⟩:=ck4 b;have hF:wy.virtual=wy.traps.flatMap λl=>(l.filter λid=>decide (((i5 p).it id).s.kind=10)).map λid=>(⟨id,-1,3⟩:Sp):=by unfold Wy.virtual;rw[b.s]
 simp only[eF,simprocAttr];apply z6 (df4 a wy p i x y w ha hr hw hi b);rintro ut w2 ⟨A,O⟩;generalize wy.traps=K at A hF W ap v;have af:=A.isS;have an:=A.vlen;generalize hB:(λl:List Int=>(l.filter λid=>decide (((i5 p).it id).s.kind=10)).map λid=>(⟨id,-1,3⟩:Sp))=B at hF;have ad:∀l∈K,(B l).length<=202:=λl hl=>by
  rw[<-hB,eE3];apply eD7 (eG0 _ _);have:=v l hl;omega
 have ag:∀k,((K.take k).flatMap B).length<=202*202:=λk=>by
  refine eD7 (U3 B 202 _ λl hl=>ad l (eL5 hl)) (eN1 _ ?_);rw[eE5];omega
 simp only[eF,simprocAttr,af,an];refine B4 [0,9,10] (σ:=Nat×Value) (λs f L=>f 11=s.1/\f 3=s.2/\s.1<=K.length/\B7 (n8 w2) L 302 s.2 ((K.take s.1).flatMap B)/\o6 w2 L) (λs=>K.length-s.1) (0,()) ?_ ?_
 .exact⟨rfl,rfl,eE2 _,by simpa using B7.nil _ _ _,t8.refl _⟩
 rintro⟨j,u⟩ f w5 ⟨e0,e9,ab,_⟩ ⟨F,h3,aj,U,Q⟩;simp only at F h3 aj U;have V:=ag j;simp only[eF,simprocAttr,F,ab];refine A7 (λr=>?_) ?_;rotate_left
 .rintro rfl;rw[eE4]at U;simp only[i4,simprocAttr,h3];exact o8 results273 ⟨by rw[hF];exact U.backN O,O.trans Q⟩
 have o:=A.inS r;obtain⟨ul,z,ah⟩:=R.row A (eD1 r);have g:=M0 (P:=prog) (t:=45) ah (b7 Q) ao0;have N:=M1 B K r;have J:=W _ (eE1 r);have am:=v _ (eE1 r);generalize K[j]=l at z N J am;have S:B l=(l.filter λid=>decide (((i5 p).it id).s.kind=10)).map λid=>(⟨id,-1,3⟩:Sp):=by rw[<-hB]
 generalize(K.take j).flatMap B=pre at U V N;simp only[i4,n9,A6,simprocAttr,F,e9,o,g,z.isS,z.vlen];refine B4 [0,9,10,11,15,16] (σ:=Nat×Value) (λs f L=>f 17=s.1/\f 3=s.2/\s.1<=l.length/\B7 (n8 w2) L 302 s.2 (pre++((l.take s.1).filter λid=>decide (((i5 p).it id).s.kind=10)).map λid=>(⟨id,-1,3⟩:Sp))/\o6 w2 L) (λs=>l.length-s.1) (0,u) ?_ ?_
 .exact⟨rfl,h3,eE2 _,by simpa using U,Q⟩
 rintro⟨k,u6⟩ f6 w6 ⟨q0,q9,aP,ax,Z,ay,_⟩ ⟨G,H,ak,m,n⟩;simp only at G H ak m;rw[e0]at q0;have D:=O.trans n;have aE:((l.take k).filter λid=>decide (((i5 p).it id).s.kind=10)).length<=k:=eD7 (eG0 _ _) (by rw[eE5];omega);simp only[eF,simprocAttr,G,ay];refine A7 (λc=>?_) ?_;rotate_left
 .rintro rfl;rw[eE4,<-S]at m;simp only[eF,simprocAttr,ax,F];refine nx2 (j+1,u6) ⟨H,om,?_,n⟩;simp only[];rw[N];exact m
 clear o g;have o:=z.inS c;have g:=aI6 z (b7 n) c;have M:=J _ (eE1 c);have d:((l.take (k+1)).filter λid=>decide (((i5 p).it id).s.kind=10)).map (λid=>(⟨id,-1,3⟩:Sp))=((l.take k).filter λid=>decide (((i5 p).it id).s.kind=10)).map (λid=>(⟨id,-1,3⟩:Sp))++if decide (((i5 p).it l[k]).s.kind=10)then[⟨l[k],-1,3⟩]else[]:=by
  rw[eD9 c,eJ8,eG8]
  congr 1
  cases h:decide (((i5 p).it l[k]).s.kind=10)<;>simp[h]
 generalize l[k]=id at g M d;obtain⟨_,_,I⟩:=b.part.at_ id M.1 M.2;have Y:=av w6 (b7 D);have X:=ar w6 (b7 D);obtain⟨T,_,_⟩:=(hL.at_ I).it;obtain⟨_,_,_,_,_,_,_,_,_,au,_⟩:=T.st;have E:=au w6 (b7 D);have hz:A9.sz It=17:=rfl;rw[hz]at E;have q:=hL.inS ((eD8.1 I).1);have C:IntKind.i64.wrap (id-1)=(((id-1).toNat:Nat):Int):=by rw[N7 _ om];omega
 generalize(id-1).toNat=qq at E q C;generalize((i5 p).it id).s.kind=kk at E d;rcases eD2 (decide (kk=10))with hq|hq
 .obtain⟨p1,u7,w7,p2,p3,p4,p5⟩:=push (e:=222) bX1 rfl m (x:=.agg (A0.cells (⟨id,-1,3⟩:Sp)).toArray) (y:=⟨id,-1,3⟩) (cy7 _) (by simp only[eD4,eE3];omega) (by simp only[eD4,eE3];omega) (b7 n);simp only[i4,n9,A6,simprocAttr,G,H,q0,Z,o,g,Y,X,C,q,E,hq,aA0,p1,p2];refine nx4 (k+1,u7) ⟨?_,m.ext2 n p4⟩;simp only[];rw[d,hq,fi rfl,<-eG4];exact p3
 .simp only[i4,n9,A6,simprocAttr,G,H,q0,Z,o,g,Y,X,C,q,E,hq];refine nx4 (k+1,u6) ⟨?_,n⟩;simp only[];rw[d,hq,fh dG,eG5];exact m
def dc0{x y}(a:y<=1000000){t:Sp}(h:RgS x y t):plc t.src/\plc t.dst:=
 ⟨by rcases h.1 with h|h<;>unfold plc<;>omega,cS2 a h.2⟩
def el2{p i x y}(a:aH0 p i x y):y<=1000000:=eD7 a.ok.len a.ok.fit
def dK6{p i x y}{wy:Wy}(d:E3 p)(hw:C1 p<=1000000)(c:i<p.procs.length)(a:aw0 p i x y wy):∀t∈wy.virtual++wy.real,RgS x y t:=by
 intro t b;rcases eE0.1 b with b|b
 .exact dU5 a t b
 .rw[a.real]at b;exact bX8 d hw c a.part t b
def ct7{p i x y}{wy:Wy}(c:E3 p)(hw:C1 p<=1000000)(b:i<p.procs.length)(a:aw0 p i x y wy):wy.virtual.length+wy.real.length<=1000000:=by
 have d:=dK5 a (I3 c.may);have e:=bD4 hw b;rw[a.real];omega
def co3{p i x y}{wy:Wy}(c:E3 p)(hw:C1 p<=1000000)(b:i<p.procs.length)(a:aw0 p i x y wy):∀t∈wy.data,RgS x y t:=λt d=>dK6 c hw b a t (bo2 d)
def br0{p i x y}{wy:Wy}(c:E3 p)(hw:C1 p<=1000000)(b:i<p.procs.length)(a:aw0 p i x y wy):wy.data.length<=1000000:=by
 have h:=ct7 c hw b a;apply eD7 (bo1 _);rw[eD4];exact h
def cu7(a)(wy:Wy)(p i x y w)(q:At (n8 w) a wy)(k:E3 p)(hw:C1 p<=1000000)(d:i<p.procs.length)(b:aw0 p i x y wy):
  p7 prog 210 #[a] w λu o=>(B7 (n8 w) o 302 u wy.data/\o6 w o):=by
 apply y5 [a] func210 rfl;obtain⟨_,H,_,_,m,_,B,n⟩:=q.wy;obtain⟨_,_,_,D,_⟩:=n (o6 w.drew) w.drew (t8.refl _) λo h=>b7 ((o6.drew w).trans h);have r:=ct7 k hw d b;have l:=dK6 k hw d b;have A:=el2 b.part;simp only[eF,simprocAttr];refine C4 (o6 w.drew) 6 (A8 [0,2,3,4,5,1]) ?_;simp only[D7,A8,i4,n9,simprocAttr,D];apply z6 (bK3 a wy p i x y w.drew (q.mono (b7 (o6.drew w))) k hw d b);rintro u I ⟨g,c⟩;refine⟨c,?_⟩;obtain⟨F,J,C,s,v,E⟩:=W6 (P:=prog) (t:=222) (e:=222) bX1 rfl g (A9.mono (b7 (o6.drew w)) m) om om (b7 c);simp only[eY,simprocAttr,C];apply z6 (aS7 s (by simp only[eD4];omega) (b7 (g.ext2 c v)) λt z=>dc0 A (l t z));rintro G K ⟨j,f,_⟩;simp only[i4,simprocAttr];exact o8 results210 ⟨j.backN (o6.drew w),(o6.drew w).trans (s.ext2 (g.ext2 c v) f)⟩
def dt5{p i x y}{wy:Wy}(e:E3 p)(hw:C1 p<=1000000)(d:i<p.procs.length)(b:aw0 p i x y wy):∀t∈wy.virtual++wy.real++[⟨0,-1,2⟩]++((i5 p).of i).flatMap Y9,RgS x y t:=by
 intro t a;rcases eE0.1 a with a|a
 .rcases eE0.1 a with a|a
  .exact dK6 e hw d b t a
  .obtain rfl:=eE7.1 a;exact⟨.inl rfl,.inl rfl⟩
 .obtain⟨it,c,a⟩:=eG1.1 a;unfold Y9 at a;split at a
  .obtain rfl:=eE7.1 a;exact⟨.inr (b.part.ids it c),b.part.next it c⟩
  .simp at a
def bT0(it:It):(Y9 it).length<=1:=by
 unfold Y9;split<;>simp
def cV8(a)(wy:Wy)(p i x y w)(ha:At (n8 w) a wy)(hr:E3 p)(hw:C1 p<=1000000)(hi:i<p.procs.length)(g:aw0 p i x y wy):
  p7 prog 208 #[a] w λu Q=>(B7 (n8 w) Q 302 u wy.aug/\o6 w Q):=by
 apply y5 [a] func208 rfl;obtain⟨vs,vr,_,az,ay,_,_,ae⟩:=ha.wy;obtain⟨sh,rfl,has⟩:=Ptr.at_ az;have aw:At (n8 w) sh (i5 p):=by rw[<-g.s];exact has
 obtain⟨_,_,_,sr,_⟩:=ae (o6 w.drew) w.drew (t8.refl _) λQ h=>b7 ((o6.drew w).trans h);have aD:=ct7 hr hw hi g;have K:=dt5 hr hw hi g;have hy:=el2 g.part;have hF:wy.aug=an3 (wy.virtual++wy.real++[⟨0,-1,2⟩]++((i5 p).of i).flatMap Y9):=by unfold Wy.aug;rw[g.s,g.proc]
 simp only[eF,simprocAttr];refine C4 (o6 w.drew) 6 (A8 [0,2,3,4,5,1]) ?_;simp only[D7,A8,i4,n9,simprocAttr,sr];apply z6 (bK3 a wy p i x y w.drew (ha.mono (b7 (o6.drew w))) hr hw hi g);rintro u w2 ⟨o,M⟩;refine⟨M,?_⟩;obtain⟨u3,w3,S,O,T,p4⟩:=W6 (P:=prog) (t:=222) (e:=222) bX1 rfl o (A9.mono (b7 (o6.drew w)) ay) om om (b7 M);have aa:=o.ext2 M T;obtain⟨q1,u4,R,q2,q3,q4,q5⟩:=push (e:=222) bX1 rfl O (x:=.agg (A0.cells (⟨0,-1,2⟩:Sp)).toArray) (y:=⟨0,-1,2⟩) (cy7 _) (by simp only[eD4];omega) (by simp only[eD4];omega) (b7 aa);have ab:=(o6.drew w).trans (O.ext2 aa q4);have X:=q3.backN (o6.drew w);have I:(wy.virtual++wy.real++[(⟨0,-1,2⟩:Sp)]).length<=1000001:=by simp only[eD4,eG3];omega
 generalize wy.virtual++wy.real++[(⟨0,-1,2⟩:Sp)]=F at X hF K I;obtain⟨z1,z2,_,_,_⟩:=ae (o6 R.drew) R.drew (t8.refl _) λQ h=>b7 (ab.trans ((o6.drew R).trans h));simp only[eY,simprocAttr,S,aA0,q1,q2];refine C4 (o6 R.drew) 11 (A8 [0,1,2,3,4,5,6,7,10,8,9]) ?_;simp only[D7,A8,i4,n9,simprocAttr,z1,z2];have G:=ab.trans (o6.drew R);rw[g.proc];apply z6 (aQ1 (n8 w) sh (i5 p) i x y R.drew aw (b7 G) g.part.ok);rintro ui w5 ⟨C,N⟩;refine⟨N,?_⟩;have al:=C.isS;have W:=C.vlen;have an:=(bI1 p hw i hi).2;generalize hl:(i5 p).of i=l at C hF K W an;have Z:=G.trans N;have ar:=X.ext ((o6.drew R).trans N);have am:∀k,((l.take k).flatMap Y9).length<=400000:=λk=>by
  apply eD7 (U3 Y9 1 _ λx _=>bT0 x);rw[eE5];omega
 simp only[fe,simprocAttr,al,W];refine B4 [0,25,26] (σ:=Nat×Value) (λs f Q=>f 27=s.1/\f 3=s.2/\s.1<=l.length/\B7 (n8 w) Q 302 s.2 (F++(l.take s.1).flatMap Y9)/\o6 w Q) (λs=>l.length-s.1) (0,u4) ?_ ?_
 .exact⟨rfl,rfl,eE2 _,by simpa using ar,Z⟩
 rintro⟨j,u⟩ f w6 ⟨e0,v,aj,_⟩ ⟨m,H,ap,o,E⟩;simp only at m H ap o;have Y:=am j;simp only[eF,simprocAttr,m,aj];refine A7 (λJ=>?_) ?_;rotate_left
 .rintro rfl;rw[eE4]at o Y;simp only[i4,simprocAttr,H];apply z6 (aS7 o (by simp only[eD4];omega) (b7 E) λt ht=>dc0 hy (K t ht));rintro u6 w7 ⟨au,aq,_⟩;simp only[i4,simprocAttr];exact o8 results208 ⟨by rw[hF];exact au,o.ext2 E aq⟩
 have A:=C.inS J;obtain⟨sv,L,q⟩:=G1 (P:=prog) (t:=156) C (b7 E) (eD1 J) ai4 ai5 ag5 M4;rw[M4]at q;have r:=M1 Y9 l J;generalize l[j]=it at L r;obtain⟨c,wz,w7,z,B,n,U⟩:=bi2 (w:=w6) (B0 u) L (λb hb=>o.lt hb);obtain⟨us,ax,V,ldI,_⟩:=L8.it L U;obtain⟨_,_,_,_,_,_,_,_,_,_,_,aA,_⟩:=L8.st ax V;have d:=E.trans n;have k1:=aA w7 (B6 _ _);have k2:=ldI w7 (B6 _ _);have D:(it.s.kind=7\/it.s.kind=8\/it.s.kind=9\/it.s.kind=10)->Y9 it=[⟨it.s.id,it.next,2⟩]:=λh=>by unfold Y9;rw[fi h]
 have aG:(F++(l.take j).flatMap Y9).length<=2000000:=by rw[eD4];omega
 obtain⟨S,u7,w8,O,T,p4,p5⟩:=push (e:=222) bX1 rfl (o.ext n) (x:=.agg (A0.cells (⟨it.s.id,it.next,2⟩:Sp)).toArray) (y:=⟨it.s.id,it.next,2⟩) (cy7 _) om om (b7 d);rcases eD2 (decide (it.s.kind=7))with k7|k7
 .simp only[i4,n9,A6,simprocAttr,m,H,v,A,q,z,B,k1,k2,k7,aA0,S,O];refine nx4 (j+1,u7) ⟨?_,(o.ext n).ext2 d p4⟩;simp only[];rw[r,D (by have:=eD3 k7;omega),<-eG4];exact T
 rcases eD2 (decide (it.s.kind=8))with k8|k8
 .simp only[i4,n9,A6,simprocAttr,m,H,v,A,q,z,B,k1,k2,k7,k8,aA0,S,O];refine nx4 (j+1,u7) ⟨?_,(o.ext n).ext2 d p4⟩;simp only[];rw[r,D (by have:=eD3 k8;omega),<-eG4];exact T
 rcases eD2 (decide (it.s.kind=9))with k9|k9
 .simp only[i4,n9,A6,simprocAttr,m,H,v,A,q,z,B,k1,k2,k7,k8,k9,aA0,S,O];refine nx4 (j+1,u7) ⟨?_,(o.ext n).ext2 d p4⟩;simp only[];rw[r,D (by have:=eD3 k9;omega),<-eG4];exact T
 rcases eD2 (decide (it.s.kind=10))with k10|k10
 .simp only[i4,n9,A6,simprocAttr,m,H,v,A,q,z,B,k1,k2,k7,k8,k9,k10,aA0,S,O];refine nx4 (j+1,u7) ⟨?_,(o.ext n).ext2 d p4⟩;simp only[];rw[r,D (by have:=eD3 k10;omega),<-eG4];exact T
 simp only[i4,n9,A6,simprocAttr,m,H,v,A,q,z,B,k1,k7,k8,k9,k10];refine nx4 (j+1,u) ⟨?_,d⟩;simp only[];have ao:Y9 it=[]:=by
  unfold Y9;rw[fh];have:=eD6 k7;have:=eD6 k8;have:=eD6 k9;have:=eD6 k10;omega
 rw[r,ao,eG5];exact o.ext n
def O0:=zJ (zJ (zJ (zJ (zJ (zJ @bM9 @et2) (zJ @es5 @ei4)) (zJ (zJ @es8 @ew5) (zJ @es6 (zJ @es7 @ew6)))) (zJ (zJ (zJ @ew2 @eq4) (zJ @ew3 (zJ @ew4 @ej7))) (zJ (zJ @eh0 @ej8) (zJ @ej9 (zJ @eu9 @eu8))))) (zJ (zJ (zJ (zJ @ex0 @eB0) (zJ @eB5 (zJ @ei2 @ev8))) (zJ (zJ @ei3 @ev9) (zJ @ez4 (zJ @eB4 @dR9)))) (zJ (zJ (zJ @eo2 @dS0) (zJ @eo3 (zJ @eo4 @ed7))) (zJ (zJ @dX1 @dX0) (zJ @eo1 (zJ @ez6 @ez5)))))) (zJ (zJ (zJ (zJ (zJ @ed6 @ez8) (zJ @ez7 (zJ @ev6 @dL9))) (zJ (zJ @en1 @ey9) (zJ @dR6 (zJ @ei1 @ed0)))) (zJ (zJ (zJ @ey4 @ez0) (zJ @ei0 (zJ @ev5 @en4))) (zJ (zJ @ev4 @ev.eq_1) (zJ @ev.eq_2 (zJ @ev.eq_3 @ev.eq_4))))) (zJ (zJ (zJ (zJ @G9.eq_1 @G9.eq_2) (zJ @eA8 (zJ @ez1 @ew0))) (zJ (zJ @ew1 @List.map_cons.{0,0}) (zJ @List.map_nil.{0,0} (zJ @List.map_toArray.{0,0} @cw5.eq_1)))) (zJ (zJ (zJ @cw5.eq_2 @eh7) (zJ @dy3.eq_1 (zJ @List.getElem?_toArray.{0} @List.getElem?_cons_zero.{0}))) (zJ (zJ @List.getElem?_cons_succ.{0} @Option.bind_some.{0,0}) (zJ @Option.some.injEq.{0} (zJ @eK7 @Bool.true_eq_false))))))
def zVB:=zJ (zJ (zJ (zJ @Option.map_some.{0,0} (zJ @Option.map_none.{0,0} @Int.toNat_zero)) (zJ (zJ @Option.isNone_none.{0} @Option.isNone_some.{0}) (zJ @O9 @co8.eq_1))) (zJ (zJ @co8.eq_2 (zJ @dN8.eq_1 @bG1.eq_1)) (zJ (zJ @bG1.eq_2 @dC1.eq_1) (zJ @dB8.eq_1 @TY)))) (zJ (zJ (zJ @Option.isSome_some.{0} (zJ @eJ4 @Bool.and_true)) (zJ (zJ @eM2 @eF4) (zJ @ey1 @Int.cast_ofNat_Int))) (zJ (zJ @decide_true (zJ @add_lit @eH5)) (zJ (zJ @Nat.zero_mul @Nat.one_mul) (zJ @Bool.not_true @Bool.not_false))))
def bF1{a:List W}{i}(h:i<a.length):a[i]?=some (a.getD i 0#64):=by simp[getD,h]
def ee0:I4 prog 355 240 1 8=true:=kr
def dS4(h v)(a:List W)(f w)(j:B7 h w 240 v a)(l:f / 64<a.length)(m:f<1000000000000):
  p7 prog 317 #[v,f] w λu r=>(u=(!X9 a f)/\B7 h r 240 v (dn5 a f)/\t8 (B0 v) w r):=by
 apply y5 [v,f] func317 rfl;have b:=j.inS l;have o:=bF1 l;have d:=E8 (P:=prog) (t:=240) j o aD0;simp only[L6.val]at d;have p:=cn5 (P:=prog) (t:=3) f m;have q:=dv3 (P:=prog) (t:=3) f;have hm:f % 64<64:=Nat.mod_lt _ dR;have g:X9 a f=(a.getD (f / 64) 0#64).getLsbD (f % 64):=rfl;have n:dn5 a f=a.set (f / 64) (a.getD (f / 64) 0#64 ||| (1#64 <<< (f % 64))):=rfl;rw[g,n];generalize f / 64=i at *;generalize f % 64=k at *;generalize a.getD i 0#64=x at *;have z:=dv4 (P:=prog) (t:=240) x k hm;have A:=dv1 (P:=prog) (t:=240) x k;have B:=ea8 (P:=prog) (t:=240) (x.getLsbD k);have C:=eb1 (P:=prog) (t:=240) k hm;have D:=dv2 (P:=prog) (t:=240) x (1#64 <<< k);have c:=o6.drew w;obtain⟨I,E,F,G,H⟩:=G4 (P:=prog) (t:=240) (j.ext c) rfl (k:=i) l (x:=.int .u64 (((x ||| 1#64 <<< k).toNat:Nat):Int)) (y:=(x ||| 1#64 <<< k)) rfl rfl (B1 aV8).choose_spec.1 (by rw[<-F8 (B1 aV8).choose_spec.1];exact ct3);simp only[O0,zVB,A6,simprocAttr,p,q,z,A,B,b,d];apply C4 (λs=>s=w.drew) 8 (A8 [0,1,2,3,4,5,6,7]);simp only[D7,A8,O0,zVB,A6,simprocAttr,p,b];refine⟨.int .u64 (x.toNat:Nat),λs e=>by subst e;exact E8 (j.ext c) o aD0,?_⟩;simp only[D7,O0,zVB,A6,simprocAttr,q,C,D,b,E];exact o8 results317 ⟨rfl,F,(c.weaken λ_ _ h=>h.elim).trans G⟩
def an8(a:List W)(k:Nat):List Int:=((range k).filter (X9 a)).map λ(i:Nat)=>(i:Int)
def cQ3(a:List W)(k):an8 a (k+1)=if X9 a k then an8 a k++[(k:Int)]else an8 a k:=by
 unfold an8;rw[eO6,eJ8,eG8];cases h:X9 a k<;>simp[h]
def dl7(a:List W)(k):(an8 a k).length<=k:=by
 unfold an8;rw[eE3];exact eD7 (eG0 _ _) dG
def dB4(v)(a:List W)(most w)(hv:R (n8 w) v a)(E:most<=1000000)(D:∀f,f<most->f / 64<a.length):
  p7 prog 321 #[v,most] w λu d=>(B7 (n8 w) d 3 u (an8 a most)/\o6 w d):=by
 apply y5 [v,most] func321 rfl;simp only[P8,Y7,simprocAttr];refine B4 [0,1] (σ:=Nat) (λk f d=>f 6=k/\k<=most/\B7 (n8 w) d 3 (f 5) (an8 a k)/\o6 w d) (λk=>most-k) 0 ?_ ?_
 .exact⟨rfl,eE2 _,B7.nil _ _ _,t8.refl _⟩
 .rintro k f d ⟨e0,B,_⟩ ⟨m,C,n,l⟩;simp only[P8,E2,I6,simprocAttr,m,B];refine A7 (λp=>?_) ?_
  .have h:=D k p;have o:=hv.inS h;have j:=O4 (P:=prog) (t:=240) hv (b7 l) (bF1 h) aD0;simp only[L6.val]at j;have H:=cn5 (P:=prog) (t:=3) k om;have I:=dv3 (P:=prog) (t:=3) k;have q:k % 64<64:=Nat.mod_lt _ dR;have g:X9 a k=(a.getD (k / 64) 0#64).getLsbD (k % 64):=rfl;have c:=cQ3 a k;rw[g]at c;generalize k / 64=i at *;generalize k % 64=b at *;generalize a.getD i 0#64=x at *;have J:=dv4 (P:=prog) (t:=240) x b q;have K:=dv1 (P:=prog) (t:=240) x b;have L:=ea9 (P:=prog) (t:=240) (x.getLsbD b);have A:E2 prog .add 3 k (1:Int)=some (.int .i64 ((k+1:Nat):Int)):=by
    simp only[E2,I6,eK2];rw[I9 k]
   generalize x.getLsbD b=t at *;simp only[O0,zVB,A6,simprocAttr,H,I,J,K,L,o,j,e0,m];cases t
   .simp only[O0,simprocAttr,m,A];refine U5 (k+1) ⟨?_,l⟩;rw[c,fh dG];exact n
   .have r:=dl7 a k;obtain⟨s,N,O,z,F,G,M⟩:=push (e:=45) V8 rfl n (x:=k) (y:=(k:Int)) rfl om om (b7 l);simp only[Value.cells]at s z;simp only[O0,simprocAttr,m,A,s,z];refine U5 (k+1) ⟨?_,n.ext2 l G⟩;rw[c,fi rfl];exact F
  .rintro rfl;simp only[P8,simprocAttr];exact o8 results321 ⟨n,l⟩
def aW2(b c:List W)(k:Nat):List W:=(orB b c).take k++b.drop k
def cP3(b c:List W):aW2 b c 0=b:=by simp[aW2]
def dj9{b c:List W}(a:b.length=c.length):aW2 b c b.length=orB b c:=by
 unfold aW2;rw[eN6,eG5,eI0];rw[cq9 a];exact eE8 _
def dk0{b c:List W}(a:b.length=c.length)(k):(aW2 b c k).length=b.length:=by
 simp[aW2,orB,a];omega
def dy4{b c:List W}(a:b.length=c.length){k}(d:k<b.length):(aW2 b c k)[k]?=some (b.getD k 0#64):=by
 unfold aW2;rw[eI8 (by simp[orB,a];omega)];have:k-((orB b c).take k).length=0:=by simp[orB,a];omega
 rw[this,eN3];simp[getD,d]
def cP2{b c:List W}(g:b.length=c.length){k}(f:k<b.length):(aW2 b c k).set k (b.getD k 0#64 ||| c.getD k 0#64)=aW2 b c (k+1):=by
 have e:(orB b c).length=b.length:=cq9 g;apply eQ4;intro i;rw[getElem?_set];unfold aW2;have a:((orB b c).take k).length=k:=by rw[eE5,e];omega
 have d:((orB b c).take (k+1)).length=k+1:=by rw[eE5,e];omega
 by_cases h1:k=i
 .subst h1;rw[fi rfl,fi (by rw[eD4,a,eK0];omega),eI7 (by rw[d];omega),getElem?_take_of_lt om,eD1 (by rw[e];exact f)];unfold orB;rw[getElem_zipWith];simp[getD,f,show k<c.length by omega]
 .rw[fh h1];by_cases h2:i<k
  .rw[eI7 (by rw[a];exact h2),eI7 (by rw[d];omega),getElem?_take_of_lt h2,getElem?_take_of_lt om]
  .rw[eI8 (by rw[a];omega),eI8 (by rw[d];omega),a,d,eN3,eN3]
   congr 1;omega
def cQ8{b c:List W}(d:b.length=c.length){k}(a:k<b.length):aw3 (b.take (k+1)) (c.take (k+1))=(aw3 (b.take k) (c.take k)||((c.getD k 0#64 &&& ~~~(b.getD k 0#64):W) != 0#64)):=by
 unfold aw3;rw[eD9 a,eD9 (show k<c.length by omega),zipWith_append (by simp;omega),any_append];simp[getD,a,show k<c.length by omega]
def dA3(h v u)(b c:List W)(w)(H:B7 h w 240 v b)(hw:E6 h (n8 w))(I:R h u c)(A:b.length=c.length)(O:b.length<=1000000):
  p7 prog 320 #[v,u] w λr a=>(r=(aw3 b c)/\B7 h a 240 v (orB b c)/\t8 (B0 v) w a):=by
 apply y5 [v,u] func320 rfl;simp only[P8,Y7,ad8,simprocAttr,H.isS,H.vlen];refine B4 [0,1,6,7] (σ:=Nat) (λk f a=>f 8=k/\k<=b.length/\f 4=(aw3 (b.take k) (c.take k))/\B7 h a 240 v (aW2 b c k)/\t8 (B0 v) w a) (λk=>b.length-k) 0 ?_ ?_
 .simp only[C9,simprocAttr];exact⟨by first|rfl|trivial,eE2 _,by simp[aw3],by rw[cP3];exact H,t8.refl _⟩
 .rintro k f a ⟨e0,J,e6,U,_⟩ ⟨B,Y,G,l,M⟩;simp only[P8,E2,I6,simprocAttr,B,U];refine A7 (λq=>?_) ?_
  .have X:=dk0 A k;have g:=l.inS (k:=k) om;have i:=I.inS (k:=k) om;have o:=dy4 A q;have p:=bF1 (show k<c.length by omega);have s:=cP2 A q;have C:=cQ8 A q;generalize b.getD k 0#64=x at *;generalize c.getD k 0#64=y at *;have L:E6 h (n8 a):=G8 hw M λb V=>H.free V;have K:=o6.drew a;have n:=o6.drew a.drew;have E:E6 h (n8 a.drew):=A3 L (b7 K);have m:E6 h (n8 a.drew.drew):=A3 E (b7 n);have D:=l.ext K;have j:=D.ext n;have q1:=cd2 (P:=prog) (t:=240) y x;have q2:=eb0 (P:=prog) (t:=240) (y &&& ~~~x);have Q:=dv2 (P:=prog) (t:=240) x y;have S:E2 prog .add 3 k (1:Int)=some (.int .i64 ((k+1:Nat):Int)):=by
    simp only[E2,I6,eK2];rw[I9 k]
   generalize hz:(y &&& ~~~x != 0#64)=z at *;obtain⟨w2,T,N,s3,s4⟩:=G4 (P:=prog) (t:=240) j rfl (k:=k) om (x:=.int .u64 (((x ||| y).toNat:Nat):Int)) (y:=(x ||| y)) rfl rfl (B1 aV8).choose_spec.1 (by rw[<-F8 (B1 aV8).choose_spec.1];exact ct3);rw[s]at N;have F:t8 (B0 v) w w2:=(M.trans ((K.trans n).weaken λ_ _ h=>h.elim)).trans s3;generalize Z:aw3 (b.take k) (c.take k)=m0 at *;cases m0
   .simp only[O0,simprocAttr,B];apply C4 (λd=>d=a.drew) 10 (A8 [0,1,2,3,4,5,6,7,8,9]);simp only[D7,A8,O0,zVB,A6,simprocAttr,G,J,i];refine⟨.int .u64 (y.toNat:Nat),λd e=>by subst e;exact O4 (P:=prog) (t:=240) I E p aD0,?_⟩;simp only[D7,O0,zVB,A6,simprocAttr,e0,g];refine⟨.int .u64 (x.toNat:Nat),λd e=>by subst e;exact E8 D o aD0,?_⟩;simp only[D7,O0,simprocAttr,q1,q2];apply C4 (λd=>d=a.drew.drew) 8 (A8 [0,1,2,3,4,5,6,7]);simp only[D7,A8,O0,zVB,A6,simprocAttr,e0,g];refine⟨.int .u64 (x.toNat:Nat),λd e=>by subst e;exact E8 j o aD0,?_⟩;simp only[D7,O0,zVB,A6,simprocAttr,J,i];refine⟨.int .u64 (y.toNat:Nat),λd e=>by subst e;exact O4 (P:=prog) (t:=240) I m p aD0,?_⟩;simp only[D7,O0,zVB,A6,simprocAttr,Q,g,T,B,S];exact U5 (k+1) ⟨by rw[C];simp,N,F⟩
   .simp only[O0,simprocAttr,B];apply C4 (λd=>d=a.drew) 10 (A8 [0,1,2,3,4,5,6,7,8,9]);simp only[D7,A8,O0,simprocAttr,G];apply C4 (λd=>d=a.drew.drew) 8 (A8 [0,1,2,3,4,5,6,7]);simp only[D7,A8,O0,zVB,A6,simprocAttr,e0,g];refine⟨.int .u64 (x.toNat:Nat),λd e=>by subst e;exact E8 j o aD0,?_⟩;simp only[D7,O0,zVB,A6,simprocAttr,J,i];refine⟨.int .u64 (y.toNat:Nat),λd e=>by subst e;exact O4 (P:=prog) (t:=240) I m p aD0,?_⟩;simp only[D7,O0,zVB,A6,simprocAttr,Q,g,T,B,S];exact U5 (k+1) ⟨by rw[C];simp,N,F⟩
  .rintro rfl;rw[dj9 A]at l;rw[eE4,A,eE4]at G;simp only[P8,simprocAttr,G];exact o8 results320 ⟨rfl,l,M⟩
def eL0:=@getElem?_set_self
def dX9:I4 prog 338 355 1 24=true:=kr
def E1.put{P:Program}{α:Type}[A9 α]{h w w1 T T' t v}{us:List Raw}{e:List (List α)}(l:E1 h w T T' v us e){i}{u:Raw}(g:us[i]?=some u){u'}{xs:List α}
  (hm:t8 (B0 u.v) w w1) (n:B7 h w1 T' u' xs) (hv:F4 w u.v u') {d:TypeInfo} (c:P.info? t=some d) (q:d.size=1) :
  ∃a,(Instr.storeAt t (I2 v i) u').run P w1 = .ok () a/\E1 h a T T' v (us.set i ⟨u'⟩) (e.set i xs)/\t8 (B0 v) w1 a/\a.heap.size=w1.heap.size:=by
 have m:=n.isS;have j:i<us.length:=(eD8.1 g).1;have k:B7 h w1 T v us:=l.outer.mod hm λb p f=>l.off i u g b f p;obtain⟨a,r,s,o,z⟩:=G4 (P:=P) (t:=t) k rfl j (x:=u') (y:=(⟨u'⟩:Raw)) ⟨rfl,aa9 m⟩ (G3 m) c q;exact⟨a,r,l.set g hm n hv o s,o,z⟩
def ar6{α:Type}[A9 α]{h w T T' v n}(e:B7 h w T v (replicate n F0)):E1 h w T T' v (replicate n F0) (replicate n ([]:List α)):=by
 have d:∀(i:Nat) (u:Raw),(replicate n F0)[i]?=some u->u=F0:=λi u a=>eK9 (eF7 a);refine⟨e,dG,λi u k a f=>?_,λi j u g _ a _ b c=>?_,λi u a b c=>?_⟩
 .rw[d i u a,eK9 (eF7 f)];exact B7.nil _ _ _
 .rw[d i u a]at c;exact fj c E7
 .rw[d i u a]at c;exact fj c E7
def ej0(most:Nat)(x:List Int)(b:List W):Prop:=b.length=most / 64+1/\∀f:Nat,X9 b f=true↔(f:Int)∈x
def br5(l:List (List Int))(most:Nat):Prop:=∀x∈l,∀f∈x,0<=f/\f<most
def dr9(most:Nat)(l:List (List Int))(a:List (List W)):Prop:=a.length=l.length/\∀(i:Nat) (x:List Int),l[i]?=some x->∃b,a[i]?=some b/\ej0 most x b
def cH0(v:Value)(l:List (List Int))(most:Nat)(w)(hv:R (n8 w) v l)(a7:most<=1000000)(hl:l.length<=1000000)(aI:∀x∈l,x.length<=1000000000):
  p7 prog 298 #[v,.int .i64 most] w λu K=>((∃ub ok,u = .tuple #[ub,.bool ok]/\(ok=true->br5 l most/\∃m,R (n8 K) ub m/\dr9 most l m)/\(ok=false->¬br5 l most))/\o6 w K):=by
 apply y5 [v,most] func298 rfl;have hz:A9.enc (n8 w) (Value.slice none 0 0).cells.toList F0:=⟨rfl,rfl⟩;obtain⟨u0,w0,aJ,aL,aO,a4,_⟩:=mk (P:=prog) (w:=w) (h:=n8 w) dX9 bE5 (α:=Raw) (y:=F0) hz (n:=l.length) om om (n7 _);have N:E1 (n8 w) w0 355 240 u0 (replicate l.length F0) (replicate l.length ([]:List W)):=ar6 aL;simp only[P8,Y7,ad8,simprocAttr,hv.isS,hv.vlen,aJ];refine B4 [0,1,6,14,15] (σ:=Nat) (λi f K=>f 16=i/\i<=l.length/\(∃us m,E1 (n8 w) K 355 240 u0 us m/\m.length=l.length/\(∀(j:Nat) (x:List Int),j<i->l[j]?=some x->((∃b,m[j]?=some b/\ej0 most x b)/\∀f∈x,0<=f/\f<most)))/\o6 w K) (λi=>l.length-i) 0 ?_ ?_
 .exact⟨rfl,eE2 _,⟨_,_,N,dG,λj x L=>om⟩,aO⟩
 .rintro i f K ⟨e0,e1,e6,ab,ac,_⟩ ⟨V,a5,⟨us,m,d,X,B⟩,Z⟩;simp only[P8,E2,I6,simprocAttr,V,ac];refine A7 (λs=>?_) ?_
  .have aG:=hv.inS s;obtain⟨ux,H,aE⟩:=hv.row (eD1 s);have am:=M0 (P:=prog) (t:=45) aE (b7 Z) ao0;have p:l[i]∈l:=eE1 s;have U:l[i]?=some l[i]:=eD1 s;generalize l[i]=x at H p U;have a8:=aI x p;have aB:=H.isS;have aK:=H.vlen;have q1:=cn5 (P:=prog) (t:=3) most om;have q2:E2 prog .add 3 (most / 64:Nat) (1:Int)=some (.int .i64 ((most / 64+1:Nat):Int)):=by
    simp only[E2,I6,eK2];rw[I9 _]
   obtain⟨ur,w1,ap,aM,au,aF,_⟩:=mk (P:=prog) (w:=K) (h:=n8 w) ee0 aV8 (α:=W) (y:=0#64) rfl (n:=most / 64+1) om om (b7 Z);have aZ:us.length=l.length:=by rw[d.len,X]
   have ar:us[i]?=some (us[i]' om):=eD1 _;generalize us[i]' om=u at ar;obtain⟨w2,s1,s2,s3,s4⟩:=d.put (P:=prog) (t:=355) ar (au.weaken λ_ _ h=>h.elim) aM (λb hb=>.inr (aF b hb)) (B1 bE5).choose_spec.1 (by rw[<-F8 (B1 bE5).choose_spec.1];exact cU8);have aP:o6 w w2:=t8.ext_of (Z.trans au) s3 λb hb=>by
    have:=d.outer.free hb;exact eQ7 λs=>by simp[n8,s]at this
   have aj:=d.outer.inS (k:=i) om;have o:(us.set i ⟨ur⟩)[i]?=some (⟨ur⟩:Raw):=eL0 om;generalize aY:us.set i ⟨ur⟩=ax at *;generalize ao:most / 64=av at *;simp only[O0,zVB,A6,ad8,simprocAttr,V,ab,e6,e1,aG,am,q1,q2,ap,aj,s1,aB,aK];refine E4 [0,1,6,7,14,15,16,28,29] (σ:=Nat) (λk f K=>f 30=k/\k<=x.length/\(∃g b,E1 (n8 w) K 355 240 u0 ax g/\g.length=l.length/\(∀j:Nat,j≠i->g[j]?=m[j]?)/\g[i]?=some b/\b.length=av+1/\(∀f:Nat,X9 b f=true↔(f:Int)∈x.take k)/\∀f∈x.take k,0<=f/\f<most)/\o6 w K) (λk=>x.length-k) 0 ?_ ?_
   .refine⟨rfl,eE2 _,⟨_,replicate (av+1) 0#64,s2,by simp[X],λj L=>eN0 (λe=>L e.symm),eL0 om,dG,λf=>by rw[cB0];simp,dG⟩,aP⟩
   .rintro k f w3 hk ⟨E,a6,⟨g,b,a,Q,S,af,A,z,G⟩,I⟩;simp only[eF8,C9,simprocAttr]at hk;simp only[e0,e1,e6,ab,ac,V]at hk;obtain⟨i0,i1,i6,i7,ba,bb,aS,aa,aT,_⟩:=hk;simp only[P8,E2,I6,simprocAttr,E,aT];refine A7 (λM=>?_) ?_
    .have F:=H.inS M;have q:=O4 (P:=prog) (t:=3) H (b7 I) (eD1 M) K7;simp only[L6.val]at q;have C:x[k]∈x:=eE1 M;have Y:x.take (k+1)=x.take k++[x[k]]:=eD9 M;generalize x[k]=J at q C Y;by_cases hlo:J<0
     .have d0:decide (J<0)=true:=by simpa using hlo
      simp only[P8,Y7,E2,I6,A6,simprocAttr,E,aa,F,q,d0];exact Q0 results298 ⟨⟨_,false,rfl,(λh=>(by cases h)),(λ_ D=>(by have:=D x p J C;omega))⟩,I⟩
     .have d0:decide (J<0)=false:=by simpa using hlo
      by_cases hhi:J≥most
      .have d1:decide (J≥(most:Int))=true:=by simpa using hhi
       simp only[P8,Y7,E2,I6,A6,simprocAttr,E,aa,i1,F,q,d0,d1];exact Q0 results298 ⟨⟨_,false,rfl,(λh=>(by cases h)),(λ_ D=>(by have:=D x p J C;omega))⟩,I⟩
      .have d1:decide (J≥(most:Int))=false:=by simpa using hhi
       obtain⟨fn,ag⟩:∃fn:Nat,J=fn:=⟨J.toNat,om⟩;have ak:=a.outer.inS (k:=i) (by rw[a.len];omega);have al:=aU9 (P:=prog) (t:=355) a o bE0;have aq:=a.row i ⟨ur⟩ b o af
       have ah:fn / 64<b.length:=by rw[A];have:fn<most:=om
                                    have:=Nat.div_le_div_right (c:=64) (Nat.le_of_lt this);omega
       have T:=dS4 (n8 w) ur b fn w3 aq ah om;rw[<-ag]at T;simp only[P8,Y7,E2,I6,A6,simprocAttr,E,aa,i1,i6,i7,F,q,d0,d1,ak,al];apply z6 T;rintro r w4 ⟨hr,aN,an⟩;have aQ:o6 w w4:=t8.ext_of I an λb hb=>by
        have:=aq.free hb;exact eQ7 λs=>by simp[n8,s]at this
       have O:=a.write o an aN;simp only[P8,E2,I6,simprocAttr,E];refine U5 (k+1) ⟨⟨_,_,O,by simp[Q],λj L=>?_,eL0 om,by rw[dE2,A],λf=>?_,λf D=>?_⟩,aQ⟩
       .rw[eN0 (λe=>L e.symm)];exact S j L
       .rw[dy8 ah,Y,eN7,z f,eE0,eE7,eH1];constructor
        .rintro(h|h)
         .exact .inr (by rw[h,ag])
         .exact .inl h
        .rintro(h|h)
         .exact .inr h
         .exact .inl om
       .rw[Y,eE0,eE7]at D;rcases D with D|D
        .exact G f D
        .subst D;exact⟨om,om⟩
    .rintro rfl;rw[eE4]at z G;simp only[P8,E2,I6,simprocAttr,aS];refine U5 (i+1) ⟨⟨ax,g,a,Q,λj y L hy=>?_⟩,I⟩;by_cases hji:j=i
     .subst hji;rw[U]at hy;obtain rfl:=eF3 hy;exact⟨⟨b,af,by rw[A,ao],z⟩,G⟩
     .obtain⟨⟨b',aC,aD⟩,h3⟩:=B j y om hy;exact⟨⟨b',by rw[S j hji];exact aC,aD⟩,h3⟩
  .rintro rfl;simp only[P8,simprocAttr,e6];apply Q0 results298;simp only[C9,simprocAttr];refine⟨⟨_,true,rfl,λ_=>⟨λx Z f D=>?_,m,d.ro (b7 Z),X,λi x hi=>?_⟩,(λh=>(by cases h))⟩,Z⟩
   .obtain⟨j,L⟩:=eM7.1 Z;exact(B j x (eD8.1 L).1 L).2 f D
   .exact(B i x (eD8.1 hi).1 hi).1
def bu2(n)(l:List (Int×Int)):(as7 n l).length=n:=by simp[as7]
def bU4{n}(l:List (Int×Int)){q}(a:q<n):(as7 n l)[q]?=some ((l.filter λt=>decide (t.1=(q:Int))).map (·.2)):=by simp[as7,a]
def cE0(n):as7 n []=replicate n []:=by
 apply eK8
 .simp[as7]
 .intro j a b;simp[as7]
def ch7{n}(l:List (Int×Int)){q}(d:q<n)(b):as7 n (l++[((q:Int),b)])=(as7 n l).set q (((l.filter λt=>decide (t.1=(q:Int))).map (·.2))++[b]):=by
 apply eK8
 .simp[as7]
 .intro j a c;rw[getElem_set];simp only[as7,eL1,eQ3,eJ8,eG8];by_cases hjq:q=j
  .subst hjq;simp[]
  .rw[fh hjq];have:decide ((q:Int)=(j:Int))=false:=by simp;omega
   simp[this]
def aU2(l:List (Int×Int))(q:Nat):((l.filter λt=>decide (t.1=(q:Int))).map (·.2)).length<=l.length:=by
 rw[eE3];exact eG0 _ _
def bu3{n}{l:List (Int×Int)}{x:List Int}(d:x∈as7 n l):x.length<=l.length/\∀b∈x,∃t∈l,t.2=b:=by
 obtain⟨q,_,rfl⟩:=eF2.1 d;refine⟨aU2 l q,λb a=>?_⟩;obtain⟨t,c,rfl⟩:=eF2.1 a;exact⟨t,(eF6.1 c).1,rfl⟩
def bV5{P h w T t v}{us:List Raw}(e:B7 h w T v us){i}{u:Raw}(d:us[i]?=some u)(f:L7 P t=false):
  (Instr.loadAt t (I2 v i)).run P w = .ok u.v w:=by
 obtain⟨g,⟨c,_⟩,b⟩:=e.get d;have:=b 0 u.v (by rw[c];rfl);rw[O9]at this;have a:(i*A9.sz Raw)=i:=eM2 i;rw[a]at this;exact ab0 f this
def bP9{p i x y}{wy:Wy}(c:E3 p)(hw:C1 p<=1000000)(b:i<p.procs.length)(a:aw0 p i x y wy):∀t∈wy.pairs wy.data,(0<=t.1/\t.1<wy.n)/\(0<=t.2/\t.2<wy.n):=bu9 a.toWyOk (co3 c hw b a)
def cF6{v u'}{us:List Raw}{i b}(h:Q6 v (us.set i ⟨u'⟩) b):Q6 v us b\/B0 u' b:=by
 rcases h with h|⟨u,c,a⟩
 .exact .inl (.inl h)
 .rcases eM5 c with h|rfl
  .exact .inl (.inr ⟨u,h,a⟩)
  .exact .inr a
def dM2(a)(wy:Wy)(p i x y w)(ha:At (n8 w) a wy)(X:E3 p)(hw:C1 p<=1000000)(hi:i<p.procs.length)(d:aw0 p i x y wy):
  p7 prog 200 #[a] w λu l=>(R (n8 l) u wy.net/\o6 w l):=by
 apply y5 [a] func200 rfl;obtain⟨_,_,_,_,_,_,aD,_⟩:=ha.wy;have lw:=aD w (n7 _);have aG:=I3 X.may;have aL:=d.part.ok.len;have aK:=d.part.ok.le;have hn:=d.n;have aV:=br0 X hw hi d;have ar:=co3 X hw hi d;have U:=bP9 X hw hi d;have T:wy.n=((wy.n.toNat:Nat):Int):=om
 have aA:(wy.pairs wy.data).length=wy.data.length:=eE3 _;have hF:wy.net=as7 wy.n.toNat (wy.pairs wy.data):=rfl;generalize hM:wy.n.toNat=M at hF T;have hz:A9.enc (n8 w) (Value.slice none 0 0).cells.toList F0:=⟨rfl,rfl⟩;obtain⟨v,w1,S,ay,H,aI,_⟩:=mk (P:=prog) (w:=w) (h:=n8 w) cS8 av6 (α:=Raw) (y:=F0) hz (n:=M) om om (n7 _);rw[<-T]at S;have Y:E1 (n8 w) w1 45 3 v (replicate M F0) (as7 M []):=by rw[cE0];exact ar6 ay
 simp only[eF,simprocAttr,lw,S];apply z6 (cu7 a wy p i x y w1 (ha.mono (b7 H)) X hw hi d);rintro ud w2 ⟨az,r⟩;simp only[i4,simprocAttr];apply z6 (aF6 a wy p i x y ud _ w2 (ha.mono (b7 (H.trans r))) d.toWyOk (az.rw_ (b7 r)) ar om);rintro uq w3 ⟨G,af⟩;have Z:=Y.ext (r.trans af);have O:∀b,Q6 v (replicate M F0) b->b<w2.heap.size:=λb g=>(Y.ext r).lt g;generalize wy.pairs wy.data=J at G hF U aA;have D:R (D9 w3 (Q6 v (replicate M F0))) uq J:=G.flatRN λb g=>E9 λaq=>by
  have h1:=O b aq;have h2:=D4 (G.free g);omega
 simp only[eF,simprocAttr,D.isS,D.vlen];refine B4 [0,3,14,15] (σ:=Nat×List Raw) (λs f l=>f 16=s.1/\s.1<=J.length/\E1 (n8 w) l 45 3 v s.2 (as7 M (J.take s.1))/\t8 (Q6 v (replicate M F0)) w3 l/\(∀b,Q6 v s.2 b->Q6 v (replicate M F0) b\/w3.heap.size<=b)) (λs=>J.length-s.1) (0,replicate M F0) ?_ ?_
 .exact⟨rfl,eE2 _,by simpa using Z,t8.refl _,λb g=>.inl g⟩
 rintro⟨k,us⟩ f w4 ⟨e0,e3,ak,al,_⟩ ⟨A,aw,m,C,j⟩;simp only at A aw m j;have q:o6 w w4:=t8.ext_of (H.trans (r.trans af)) C λb g=>D4 (Z.free g);simp only[eF,simprocAttr,A,al];refine A7 (λB=>?_) ?_;rotate_left
 .rintro rfl;rw[eE4]at m;simp only[i4,simprocAttr,e3];exact o8 results200 ⟨by rw[hF];exact m.ro (b7 q),q⟩
 have av:=D.inS B;have F:=dB0 D (F5 C) (eD1 B);have ad:=eD9 B;obtain⟨V,W⟩:=U _ (eE1 B);generalize J[k]=t at F ad V W;obtain⟨z1,z2⟩:=t;simp only at V W F;obtain⟨Q,rfl⟩:∃Q:Nat,z1=(Q:Int):=⟨z1.toNat,om⟩;have hQ:Q<M:=om
 obtain⟨c,wz,z,ao,ac,E,au,aJ⟩:=dK4 (w:=w4) (Q:Int) z2;have o:=m.ext (E.trans (o6.drew z));have aW:us.length=M:=by rw[m.len,bu2]
 obtain⟨u,I⟩:∃u,us[Q]?=some u:=⟨us[Q]' om,eD1 om⟩;have ab:=o.row Q u _ I (bU4 _ hQ);have aC:=aU2 (J.take k) Q;rw[eE5]at aC;have L:¬B0 u.v c:=λg=>by
  have:=m.lt (.inr ⟨u,eF7 I,g⟩);omega
 have K:z.drew.heap[c]?=some (.cells #[Q,z2] 208 (0,0)):=au;have t0:J4 prog (λl=>t8 (B0 u.v) z.drew l) 3 ⟨c,0,none⟩ Q:=sdx λl h=>(aF3 K h L).1;have t1:J4 prog (λl=>t8 (B0 u.v) z.drew l) 3 ⟨c,1,none⟩ z2:=sdx λl h=>(aF3 K h L).2;have t2:J4 prog (λl=>t8 (B0 u.v) z.drew l) 45 (I2 v Q) u.v:=sdx λl h=>bV5 (o.outer.mod h λb g ap=>o.off Q u I b ap g) I ao0;have aU:=o.outer.isS;have N:=o.outer.inS (k:=Q) om;have ae:=q.trans (E.trans (o6.drew z));obtain⟨p1,u6,w6,p2,p3,p4,p5⟩:=push (e:=45) V8 rfl ab (x:=z2) (y:=z2) rfl om om (b7 ae);simp only[Value.cells]at p1 p2;obtain⟨w7,s1,aB,ax,_⟩:=o.put (P:=prog) (t:=45) I p4 p3 p5 (B1 av6).choose_spec.1 (by rw[<-F8 (B1 av6).choose_spec.1];exact bK0);simp only[i4,n9,A6,simprocAttr,A,ak,av,F,ao,ac];refine C4 (t8 (B0 u.v) z.drew) 12 (A8 [0,1,2,3,4,5,6,7,8,9,10,11]) ?_;simp only[D7,A8,i4,n9,A6,simprocAttr,e3,t0,t1,t2,N,p1,p2,F2];refine⟨t8.up (o6.alloc _ _),p4,?_⟩;simp only[eF,simprocAttr,s1,A];have aa:∀b,B0 u.v b->Q6 v us b:=λb g=>.inr ⟨u,eF7 I,g⟩;have aM:w3.heap.size<=z.drew.heap.size:=eD7 C.size ((E.trans (o6.drew z)).size);refine U5 (k+1,us.set Q ⟨u6⟩) ⟨?_,?_,λb g=>?_⟩
 .simp only[];rw[ad,ch7 _ hQ];exact aB
 .refine(C.chain (t8.up (M:=λ_=>False) (E.trans (o6.drew z))) λ_ _ h=>h.elim).chain (t8.trans (M:=λb=>B0 u.v b\/B0 v b) (p4.weaken λb _ h=>.inl h) (ax.weaken λb _ h=>.inr h)) (λb g h=>?_);rcases h with h|h
  .exact(j b (aa b h)).resolve_right om
  .exact .inl h
 .rcases cF6 g with h|h
  .exact j b h
  .rcases p5 b h with h|h
   .exact j b (aa b h)
   .exact .inr om
def cb0(r:List Bool):Nat:=r.count true
def aP0(f:List (List Bool)):Nat:=(f.map cb0).sum
def cY0:∀(r s:List Bool),s.length=r.length->(∀i,s.getD i false=true->r.getD i false=true)->cb0 s<=cb0 r/\(s≠r->cb0 s<cb0 r)
 | [],[],_,_=>by simp[cb0]
 | x::r,y::s,hl,h=>by
  have c:=cY0 r s (by simpa using hl) λi b=>by have:=h (i+1);simpa using this (by simpa using b)
  have a:=h 0;simp only[getD_cons_zero]at a;unfold cb0 at c ⊢;simp only[count_cons];cases x<;>cases y<;>simp_all
  all_goals omega
def cx9:∀(f:List (List Bool)) (a:Nat) (l:List Bool) (b:a<f.length),aP0 (f.set a l)+cb0 f[a]=aP0 f+cb0 l
 | x::f,0,l,_=>by simp[aP0];omega
 | x::f,a+1,l,b=>by
  have:=cx9 f a l (by simpa using b);simp only[aP0,set_cons_succ,eI4,eO9,eO5]at *;omega
structure SqM (n:Nat) (f:List (List Bool)):Prop where
 len:f.length=n
 row:∀r∈f,r.length=n
def SqM.get{n}{f:List (List Bool)}(h:SqM n f){a}(b:a<n):f[a]?=some (f.getD a [])/\(f.getD a []).length=n:=by
 have:a<f.length:=by rw[h.len];exact b
 rw[getD,eD1 this];exact⟨rfl,h.row _ (eE1 this)⟩
def mAt(f:List (List Bool))(a b:Nat):Bool:=(f.getD a []).getD b false
def ar8(f:List (List Bool))(l:List Int):(al8 f l).length=f.length:=by simp[al8]
def bW5{n}{f:List (List Bool)}(h:SqM n f)(l:List Int){b}(hb:b<n):(al8 f l).getD b false=l.all λa=>mAt f a.toNat b:=by
 unfold al8;rw[getD,eH2,eM3 (by rw[h.len];exact hb)];simp only[eJ9,eI9];unfold atB mAt;simp
def ac4(next:List (List Int))(f:List (List Bool))(a:Nat):List Bool:=(al8 f (next.getD a [])).set a true
def aU8(next:List (List Int))(f:List (List Bool))(a):(ac4 next f a).length=f.length:=by simp[ac4,ar8]
def bh6{n}{next:List (List Int)}{f:List (List Bool)}(h:SqM n f){a b}(d:a<n):(ac4 next f a).getD b false=(decide (b<n)&&(decide (a=b)||(next.getD a []).all λc=>mAt f c.toNat b)):=by
 unfold ac4;by_cases hb:b<n
 .by_cases hab:a=b
  .subst hab;rw[getD,eL0 (by rw[ar8,h.len];exact hb)];simp[hb]
  .rw[getD,eN0 hab];have:=bW5 h (next.getD a []) hb;rw[getD]at this;rw[this];simp[hb,hab]
 .rw[getD,eL7 (by rw[eK6,ar8,h.len];omega)];simp[hb]
def cu8(n:Nat)(next:List (List Int))(f:List (List Bool)):Prop:=∀a,a+1<n->∀b,(ac4 next f a).getD b false=true->mAt f a b=true
def W5(n):SqM n (V0 n):=⟨by simp[V0],λr b=>by
 obtain⟨a,_,rfl⟩:=eF2.1 b;simp⟩
def bm4{n a b}(d:a<n)(hb:b<n):mAt (V0 n) a b=(decide (a+1<n)||decide (a=b)):=by
 have c:(V0 n).getD a []=(range n).map λb=>decide (a+1<n)||decide (a=b):=by
  unfold V0;rw[getD,eH2,eM3 d];rfl
 unfold mAt;rw[c,getD,eH2,eM3 hb];rfl
def bb0(n)(next:List (List Int)):cu8 n next (V0 n):=by
 intro a d b c;rw[bh6 (W5 n) om]at c;have:b<n:=by
  rw[eF1]at c;exact eD3 c.1
 rw[bm4 om this];simp[d]
def bL7(n):∀(f:List (List Bool)),(∀r∈f,r.length=n)->aP0 f<=f.length*n
 | [],_=>by simp[aP0]
 | r::f,h=>by
  have d:=bL7 n f λs b=>h s (by simp[b]);have c:cb0 r<=n:=by
   have:=count_le_length (a:=true) (l:=r);rw[h r dG]at this;exact this
  simp only[aP0,eI4,eO9,eG6]at *;rw[eP3];omega
def bd3{α:Type}{f:List α}{a}{l d:α}(c)(b:a<f.length):(f.set a l).getD c d=if a=c then l else f.getD c d:=by
 by_cases h:a=c
 .subst h;simp[getD,b]
 .rw[fh h,getD,getD,eN0 h]
def cG9{α:Type}{f:List α}{a}{l:α}(h:f[a]?=some l):f.set a l=f:=by
 apply eQ4;intro i;by_cases hi:a=i
 .subst hi;rw[eL0 (eD8.1 h).1,h]
 .rw[eN0 hi]
def bX7{n}{next:List (List Int)}{f:List (List Bool)}(i:SqM n f)(k:cu8 n next f){a}(s:a+1<n):
  SqM n (ac2 next f a)/\cu8 n next (ac2 next f a)/\(ac4 next f a=f.getD a []->ac2 next f a=f)/\(ac4 next f a≠f.getD a []->aP0 (ac2 next f a)<aP0 f):=by
 have d:a<f.length:=by rw[i.len];omega
 have e:ac2 next f a=f.set a (ac4 next f a):=rfl
 rw[e];obtain⟨v,m⟩:=i.get (a:=a) om;have j:SqM n (f.set a (ac4 next f a)):=⟨by rw[eK6,i.len],λr w=>by
  rcases eM5 w with h|h
  .exact i.row r h
  .rw[h,aU8,i.len]⟩
 have E6:∀c b,mAt (f.set a (ac4 next f a)) c b=true->mAt f c b=true:=by
  intro c b h;unfold mAt at h ⊢;rw[bd3 c d]at h;split at h
  .next g=>subst g;exact k a s b h
  .exact h
 have hm:=cx9 f a (ac4 next f a) d;have l:f[a]=f.getD a []:=by rw[getD,eD1 d];rfl
 obtain⟨_,o⟩:=cY0 (f.getD a []) (ac4 next f a) (by rw[aU8,i.len,m]) λb t=>k a s b t;refine⟨j,?_,λh=>by rw[h];exact cG9 v,λh=>by have:=o h;rw[l]at hm;omega⟩;intro c u b h;rw[bh6 j om]at h;have p:(ac4 next f c).getD b false=true:=by
  rw[bh6 i om];rw[eF1,eN7]at h ⊢;refine⟨h.1,h.2.imp id λq=>?_⟩;rw[eJ1]at q ⊢;exact λx y=>E6 _ _ (q x y)
 unfold mAt;rw[bd3 c d];split
 .next g=>subst g;exact p
 .exact k c u b p
def aT1{next:List (List Int)}{m}{f:List (List Bool)}(h:J7 next f m=f):∀k,X5 next m k f=f
 | 0=>rfl
 | k+1=>by rw[X5,h,aT1 h k]
def bb1(next:List (List Int))(m):∀(j k:Nat) (f:List (List Bool)),X5 next m (j+k) f=X5 next m k (X5 next m j f)
 | 0,k,f=>by rw[eH5];rfl
 | j+1,k,f=>by rw[show j+1+k=(j+k)+1 by omega,X5,X5,bb1 next m j k]
def az3{α:Type}{l:List α}{d x:α}{n b}(e:l.length=n)(hb:b<n)(c:l[b]?=some x):(l.take b++replicate (n-b) d).set b x=l.take (b+1)++replicate (n-(b+1)) d:=by
 have a:(l.take b).length=b:=by rw[eE5];omega
 rw[set_append_right _ _ om,a,Nat.sub_self,show n-b=(n-(b+1))+1 by omega,replicate_succ,set_cons_zero,eQ5,c];simp
def ay1{P t z}(c:I7 P t=some z)(b:O7 P t=1):∃i,P.info? t=some i/\i.size=1:=by
 obtain⟨i,a,d⟩:=B1 c;exact⟨i,a,by rw[<-F8 a];exact b⟩
def cS6(vf vs n)(g:List (List Bool))(l:List Int)(w)(hf:R (n8 w) vf g)(hs:R (n8 w) vs l)(T:SqM n g)(hl:∀c∈l,0<=c/\c<(n:Int))(hn:n<=1000000)(aR:l.length<=1000000000):
  p7 prog 271 #[vf,vs] w λu E=>(B7 (n8 w) E 4 u (al8 g l)/\o6 w E):=by
 apply y5 [vf,vs] func271 rfl;have ah:=hf.isS;have S:=hf.vlen;rw[T.len]at S;have aj:=hs.isS;have av:=hs.vlen;obtain⟨ib,K,A⟩:=ay1 (P:=prog) Y5 aK1;obtain⟨vo,w1,aq,ho,ay,_,_⟩:=mk (P:=prog) (w:=w) (h:=n8 w) (α:=Bool) bw9 Y5 (y:=false) rfl (n:=n) om om (n7 _);have au:vlen vo=n:=by rw[ho.vlen,eJ3]
 have U:(al8 g l).length=n:=by rw[ar8,T.len]
 simp only[eF,simprocAttr,ah,S,aq,ho.isS,au];refine B4 [0,1,5,13] (σ:=Nat) (λb f E=>f 14=b/\b<=n/\B7 (n8 w) E 4 vo ((al8 g l).take b++replicate (n-b) false)/\o6 w E) (λb=>n-b) 0 ?_ ?_
 .exact⟨rfl,eE2 _,by simpa using ho,ay⟩
 rintro b f w2 ⟨e0,e1,e5,I,_⟩ ⟨F,aL,p,Z⟩;simp only[eF,simprocAttr,F,I];refine A7 (λQ=>?_) ?_;rotate_left
 .rintro rfl;rw[Nat.sub_self,replicate_zero,eG5,<-U,eE4]at p;simp only[i4,simprocAttr,e5];exact o8 results271 ⟨p,Z⟩
 have j:=az3 (d:=false) U Q (eD1 om);have ak:(al8 g l)[b]' om=l.all λa=>mAt g a.toNat b:=by
  have:=bW5 T l Q;rw[getD,eD1 om]at this;exact this
 rw[ak]at j;have hX:((al8 g l).take b++replicate (n-b) false).length=n:=by rw[eD4,eE5,eJ3];omega
 generalize(al8 g l).take b++replicate (n-b) false=X at p j hX;have an:=p.inS (k:=b) om;obtain⟨w3,s1,ax,ao,_⟩:=G4 (P:=prog) (t:=4) p rfl (k:=b) om (x:=true) (y:=true) rfl rfl K A;have az:=p.ext2 Z ao;simp only[i4,n9,A6,simprocAttr,F,e1,e5,an,s1,aj,av];refine B4 [0,1,5,6,13,14,20,21] (σ:=Nat) (λk f E=>f 22=k/\k<=l.length/\B7 (n8 w) E 4 vo (X.set b ((l.take k).all λa=>mAt g a.toNat b))/\o6 w E) (λk=>l.length-k) 0 ?_ ?_
 .exact⟨rfl,eE2 _,by simpa using ax,az⟩
 rintro k f2 w4 ⟨r0,r1,r5,r6,aA,ab,ac,aB,_⟩ ⟨G,aP,q,v⟩;rw[e0]at r0;rw[e5]at r5;rw[I]at aA;rw[F]at ab;simp only[eF,simprocAttr,G,aB];refine A7 (λo=>?_) ?_;rotate_left
 .rintro rfl;rw[eE4,j]at q;simp only[eF,simprocAttr,ab];refine U5 (b+1) ⟨q,v⟩
 have B:=hs.inS o;have H:=aI6 hs (b7 v) o;have am:=hl _ (eE1 o);have W:=eD9 o;generalize l[k]=c at H am W;obtain⟨C,rfl⟩:∃C:Nat,c=(C:Int):=⟨c.toNat,om⟩;obtain⟨hg,aN⟩:=T.get (a:=C) om;obtain⟨uc,Y,al⟩:=R.row hf hg;have N:=M0 (P:=prog) (t:=95) al (b7 v) aQ5;have M:=hf.inS (k:=C) (by rw[T.len];omega);have L:=Y.inS (k:=b) om;have s:=ldB Y (b7 v) (k:=b) om;have ar:(g.getD C [])[b]' om=mAt g C b:=by
  have hh:∀r:List Bool,∀h:b<r.length,r[b]=r.getD b false:=λr h=>by simp[getD,h]
  exact hh _ _
 rw[ar]at s;have D:=q.inS (k:=b) (by rw[eK6];omega);have O:=E8 (P:=prog) (t:=4) q (k:=b) (eL0 om) ag4;have e:(l.take (k+1)).all (λa=>mAt g a.toNat b)=((l.take k).all (λa=>mAt g a.toNat b)&&mAt g C b):=by
  rw[W,all_append];simp
 obtain⟨w5,s2,z,ap,_⟩:=G4 (P:=prog) (t:=4) q rfl (k:=b) (by rw[eK6];omega) (x:=((l.take (k+1)).all (λa=>mAt g a.toNat b))) (y:=(l.take (k+1)).all (λa=>mAt g a.toNat b)) rfl rfl K A;rw[set_set]at z;have aa:=q.ext2 v ap;have i:(Instr.loadAt 4 (I2 vo b)).run prog w4 = .ok ((l.take k).all λa=>mAt g a.toNat b) w4:=O;generalize J:(l.take (k+1)).all (λa=>mAt g a.toNat b)=V' at e s2 z;generalize(l.take k).all (λa=>mAt g a.toNat b)=V at i e;generalize mAt g C b=m at s e;rcases eD2 V with hV|hV<;>subst hV
 .have:V'=m:=by simpa using e
  subst this;simp only[i4,n9,A6,simprocAttr,G,r0,r5,r6,ac,B,H,D,i,M,N,L,s,s2];refine U5 (k+1) ⟨by rw[J];exact z,aa⟩
 .have:V'=false:=by simpa using e
  subst this;simp only[i4,n9,A6,simprocAttr,G,r5,r6,ac,B,H,D,i,s2];refine U5 (k+1) ⟨by rw[J];exact z,aa⟩
end Go.Proofs.YtpebpfiglfmegaaGreat

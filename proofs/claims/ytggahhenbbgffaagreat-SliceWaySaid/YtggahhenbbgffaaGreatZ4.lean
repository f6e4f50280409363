/- What the functions of the program do, for every input; plain facts. No condition, no statement of its own. Part 4. -/
import Derived.ArgAppend
import Derived.Test.YtggahhenbbgffaaGreatZ3
set_option maxRecDepth 1000000
set_option maxHeartbeats 8000000
set_option linter.unusedVariables false
set_option linter.unusedSimpArgs false
set_option linter.unnecessarySimpa false
set_option linter.defProp false
namespace Go.Proofs.YtggahhenbbgffaaGreat
open Go Tryz
def bf9(n:Nat)(l:List (Int×Int)):(ak6 n l).length=n:=by simp[ak6]
def bF5{n:Nat}(l:List (Int×Int)){q:Nat}(a:q<n):(ak6 n l)[q]?=some ((l.filter λt=>decide (t.1=(q:Int))).map (·.2)):=by simp[ak6,a]
def cl1(n:Nat):ak6 n []=List.replicate n []:=by
 apply em6
 .simp[ak6]
 .intro j a b;simp[ak6]
def bR3{n:Nat}(l:List (Int×Int)){q:Nat}(d:q<n)(b:Int):ak6 n (l++[((q:Int),b)])=(ak6 n l).set q (((l.filter λt=>decide (t.1=(q:Int))).map (·.2))++[b]):=by
 apply em6
 .simp[ak6]
 .intro j a c;rw[List.getElem_set];simp only[ak6,em7,es1,el7,ei4];by_cases hjq:q=j
  .subst hjq;simp[]
  .rw[if_neg hjq];have:decide ((q:Int)=(j:Int))=false:=by simp;omega
   simp[this]
def aJ3(l:List (Int×Int))(q:Nat):((l.filter λt=>decide (t.1=(q:Int))).map (·.2)).length<=l.length:=by
 rw[eg5];exact eh9 _ _
def bg0{n:Nat}{l:List (Int×Int)}{x:List Int}(d:x∈ak6 n l):x.length<=l.length/\∀b∈x,∃t∈l,t.2=b:=by
 obtain⟨q,_,rfl⟩:=eh4.1 d;refine⟨aJ3 l q,λb a=>?_⟩;obtain⟨t,c,rfl⟩:=eh4.1 a;exact⟨t,(eh8.1 c).1,rfl⟩
def bG6{P:Program}{h:Hp}{w:World}{T t:TypeId}{v:Value}{us:List X9}(e:B0 h w T v us){i:Nat}{u:X9}(d:us[i]?=some u)(f:J5 P t=false):
  (Instr.loadAt t (.pointer (some (G9 v i)))).run P w = .ok u.v w:=by
 obtain⟨g,⟨c,_⟩,b⟩:=e.get d;have:=b 0 u.v (by rw[c];rfl);rw[M4]at this;have a:(i*A3.sz X9)=i:=en3 i;rw[a]at this;exact U9 f this
def bB3{p:Pg}{i x y:Nat}{wy:Wy}(c:D3 p)(hw:B7 p<=1000000)(b:i<p.procs.length)(a:am8 p i x y wy):∀t∈wy.pairs wy.data,(0<=t.1/\t.1<wy.n)/\(0<=t.2/\t.2<wy.n):=bg7 a.toWyOk (bW8 c hw b a)
def cm4{v u':Value}{us:List X9}{i b:Nat}(h:N2 v (us.set i ⟨u'⟩) b):N2 v us b\/A0 u' b:=by
 rcases h with h|⟨u,c,a⟩
 .exact .inl (.inl h)
 .rcases en6 c with h|rfl
  .exact .inl (.inr ⟨u,h,a⟩)
  .exact .inr a
def dp0(a:Addr)(wy:Wy)(p:Pg)(i x y:Nat)(w:World)(ha:At (m8 w) a wy)(Z:D3 p)(hw:B7 p<=1000000)(hi:i<p.procs.length)(g:am8 p i x y wy):
  o9 prog 173 #[.pointer (some a)] w λu l=>(R (m8 l) u wy.net/\o6 w l):=by
 refine p9 [.pointer (some a)] func173 rfl ?_;obtain⟨_,_,_,_,_,_,aF,_⟩:=ha.wy;have lw:=aF w (n7 _);have aI:=H7 Z.may;have aN:=g.part.ok.len;have aM:=g.part.ok.le;have hn:=g.n;have aX:=bd7 Z hw hi g;have av:=bW8 Z hw hi g;have W:=bB3 Z hw hi g;have V:wy.n=((wy.n.toNat:Nat):Int):=by omega
 have aC:(wy.pairs wy.data).length=wy.data.length:=eg5 _;have hF:wy.net=ak6 wy.n.toNat (wy.pairs wy.data):=rfl;generalize hM:wy.n.toNat=M at hF V;have hz:A3.enc (m8 w) (Value.slice none 0 0).cells.toList D2:=⟨rfl,rfl⟩;obtain⟨A,w1,U,aA,I,aK,_⟩:=mk (P:=prog) (w:=w) (h:=m8 w) cz8 am6 (α:=X9) (y:=D2) hz (n:=M) (by omega) (by omega) (n7 _);rw[<-V]at U;have aa:E2 (m8 w) w1 24 3 A (List.replicate M D2) (ak6 M []):=by rw[cl1];exact ak0 aA
 simp only[i5,n9,simprocAttr,lw,U];refine t8 (cd2 a wy p i x y w1 (ha.mono (b7 I)) Z hw hi g) ?_;rintro ud w2 ⟨aB,z⟩;simp only[i5,simprocAttr];refine t8 (av2 a wy p i x y ud _ w2 (ha.mono (b7 (I.trans z))) g.toWyOk (aB.rw_ (b7 z)) av (by omega)) ?_;rintro uq w3 ⟨H,ah⟩;have ab:=aa.ext (z.trans ah);have T:∀b,N2 A (List.replicate M D2) b->b<w2.heap.size:=λb j=>(aa.ext z).lt j;generalize wy.pairs wy.data=L at H hF W aC;have E:R (C1 w3 (N2 A (List.replicate M D2))) uq L:=H.flatRN λb j=>E4 λau=>by
  have h1:=T b au;have h2:=D1 (H.free j);omega
 simp only[i5,n9,simprocAttr,E.isS,E.vlen];refine A6 [0,3,14,15] (σ:=Nat×List X9) (λs f l=>f 16 = .int .i64 s.1/\s.1<=L.length/\E2 (m8 w) l 24 3 A s.2 (ak6 M (L.take s.1))/\o8 (N2 A (List.replicate M D2)) w3 l/\(∀b,N2 A s.2 b->N2 A (List.replicate M D2) b\/w3.heap.size<=b)) (λs=>L.length-s.1) (0,List.replicate M D2) ?_ ?_
 .exact⟨rfl,eg3 _,by simpa using ab,o8.refl _,λb j=>.inl j⟩
 rintro⟨k,us⟩ f w4 ⟨e0,e3,am,an,_⟩ ⟨B,ay,o,D,m⟩;simp only at B ay o m;have v:o6 w w4:=o8.ext_of (I.trans (z.trans ah)) D λb j=>D1 (ab.free j);simp only[i5,n9,simprocAttr,B,an];refine y5 (λC=>?_) ?_;rotate_left
 .rintro rfl;rw[eg4]at o;simp only[i5,simprocAttr,e3];exact o7 results173 ⟨by rw[hF];exact o.ro (b7 v),v⟩
 have ax:=E.inS C;have G:=df2 E (D8 D) (ef1 C);have af:=ef8 C;obtain⟨X,Y⟩:=W _ (eg2 C);generalize L[k]=t at G af X Y;obtain⟨z1,z2⟩:=t;simp only at X Y G;obtain⟨Q,rfl⟩:∃Q:Nat,z1=(Q:Int):=⟨z1.toNat,by omega⟩;have hQ:Q<M:=by omega
 obtain⟨c,wz,r,aq,ae,F,aw,aL⟩:=dn2 (w:=w4) (Q:Int) z2;have q:=o.ext (F.trans (o6.drew r));have aY:us.length=M:=by rw[o.len,bf9]
 obtain⟨u,J⟩:∃u,us[Q]?=some u:=⟨us[Q]'(by omega),ef1 (by omega)⟩;have ad:=q.row Q u _ J (bF5 _ hQ);have aE:=aJ3 (L.take k) Q;rw[eg0]at aE;have O:¬A0 u.v c:=λj=>by
  have:=o.lt (.inr ⟨u,eh3 J,j⟩);omega
 have N:r.drew.heap[c]?=some (.cells #[.int .i64 (Q:Int),.int .i64 z2] 205 (0,0)):=aw;have t0:∀K f d w0,F7 prog (λl=>o8 (A0 u.v) r.drew l) (Instr.loadAt 3 (.pointer (some ⟨c,0,none⟩))) K f d w0=K (C9 f d (.int .i64 (Q:Int))) w0:=λK f d w0=>C0 (w0:=r.drew) (o8.refl _) λl h=>(au9 N h O).1;have t1:∀K f d w0,F7 prog (λl=>o8 (A0 u.v) r.drew l) (Instr.loadAt 3 (.pointer (some ⟨c,1,none⟩))) K f d w0=K (C9 f d (.int .i64 z2)) w0:=λK f d w0=>C0 (w0:=r.drew) (o8.refl _) λl h=>(au9 N h O).2;have t2:∀K f d w0,F7 prog (λl=>o8 (A0 u.v) r.drew l) (Instr.loadAt 24 (.pointer (some (G9 A Q)))) K f d w0=K (C9 f d u.v) w0:=λK f d w0=>C0 (w0:=r.drew) (o8.refl _) λl h=>bG6 (q.outer.mod h λb j ar=>q.off Q u J b ar j) J ah2;have aW:=q.outer.isS;have S:=q.outer.inS (k:=Q) (by omega);have ag:=v.trans (F.trans (o6.drew r));obtain⟨p1,u6,w6,p2,p3,p4,p5⟩:=push (e:=24) V4 rfl ad (x:=.int .i64 z2) (y:=z2) rfl (by omega) (by omega) (b7 ag);simp only[Value.cells]at p1 p2;obtain⟨w7,s1,aD,az,_⟩:=q.put (P:=prog) (t:=24) J p4 p3 p5 (z7 am6).choose_spec.1 (by rw[<-E1 (z7 am6).choose_spec.1];exact bv7);simp only[i5,n9,y4,simprocAttr,B,am,ax,G,aq,ae];refine B9 (λl=>o8 (A0 u.v) r.drew l) 12 (A5 [0,1,2,3,4,5,6,7,8,9,10,11]) ?_;simp only[D0,A5,i5,n9,y4,simprocAttr,e3,t0,t1,t2,S,p1,p2,F2];refine⟨o8.up (o6.alloc _ _),p4,?_⟩;simp only[i5,n9,simprocAttr,s1,B];have ac:∀b,A0 u.v b->N2 A us b:=λb j=>.inr ⟨u,eh3 J,j⟩;have aO:w3.heap.size<=r.drew.heap.size:=ef9 D.size ((F.trans (o6.drew r)).size);refine T4 (k+1,us.set Q ⟨u6⟩) ⟨?_,?_,λb j=>?_⟩
 .simp only[];rw[af,bR3 _ hQ];exact aD
 .refine(D.chain (o8.up (M:=λ_=>False) (F.trans (o6.drew r))) λ_ _ h=>h.elim).chain (o8.trans (M:=λb=>A0 u.v b\/A0 A b) (p4.weaken λb _ h=>.inl h) (az.weaken λb _ h=>.inr h)) (λb j h=>?_);rcases h with h|h
  .exact(m b (ac b h)).resolve_right (by omega)
  .exact .inl h
 .rcases cm4 j with h|h
  .exact m b h
  .rcases p5 b h with h|h
   .exact m b (ac b h)
   .exact .inr (by omega)
def bL4(r:List Bool):Nat:=r.count true
def aD9(f:List (List Bool)):Nat:=(f.map bL4).sum
def cE7:∀(r s:List Bool),s.length=r.length->(∀i,s.getD i false=true->r.getD i false=true)->bL4 s<=bL4 r/\(s≠r->bL4 s<bL4 r)
 | [],[],_,_=>by simp[bL4]
 | x::r,y::s,hl,h=>by
  have c:=cE7 r s (by simpa using hl) λi b=>by have:=h (i+1);simpa using this (by simpa using b)
  have a:=h 0;simp only[List.getD_cons_zero]at a;unfold bL4 at c ⊢;simp only[List.count_cons];cases x<;>cases y<;>simp_all
  all_goals omega
def cf3:∀(f:List (List Bool)) (a:Nat) (l:List Bool) (b:a<f.length),aD9 (f.set a l)+bL4 f[a]=aD9 f+bL4 l
 | x::f,0,l,_=>by simp[aD9];omega
 | x::f,a+1,l,b=>by
  have:=cf3 f a l (by simpa using b);simp only[aD9,List.set_cons_succ,ej9,eq8,ep9]at *;omega
structure SqM (n:Nat) (f:List (List Bool)):Prop where
 len:f.length=n
 row:∀r∈f,r.length=n
def SqM.get{n:Nat}{f:List (List Bool)}(h:SqM n f){a:Nat}(b:a<n):f[a]?=some (f.getD a [])/\(f.getD a []).length=n:=by
 have:a<f.length:=by rw[h.len];exact b
 rw[List.getD,ef1 this];exact⟨rfl,h.row _ (eg2 this)⟩
def mAt(f:List (List Bool))(a b:Nat):Bool:=(f.getD a []).getD b false
def ak2(f:List (List Bool))(l:List Int):(ae5 f l).length=f.length:=by simp[ae5]
def bH5{n:Nat}{f:List (List Bool)}(h:SqM n f)(l:List Int){b:Nat}(hb:b<n):(ae5 f l).getD b false=l.all λa=>mAt f a.toNat b:=by
 unfold ae5;rw[List.getD,ei9,eo0 (by rw[h.len];exact hb)];simp only[el5,ek4];unfold atB mAt;simp
def W3(next:List (List Int))(f:List (List Bool))(a:Nat):List Bool:=(ae5 f (next.getD a [])).set a true
def aK1(next:List (List Int))(f:List (List Bool))(a:Nat):(W3 next f a).length=f.length:=by simp[W3,ak2]
def aV0{n:Nat}{next:List (List Int)}{f:List (List Bool)}(h:SqM n f){a b:Nat}(d:a<n):(W3 next f a).getD b false=(decide (b<n)&&(decide (a=b)||(next.getD a []).all λc=>mAt f c.toNat b)):=by
 unfold W3;by_cases hb:b<n
 .by_cases hab:a=b
  .subst hab;rw[List.getD,en0 (by rw[ak2,h.len];exact hb)];simp[hb]
  .rw[List.getD,eo1 hab];have:=bH5 h (next.getD a []) hb;rw[List.getD]at this;rw[this];simp[hb,hab]
 .rw[List.getD,eo4 (by rw[en4,ak2,h.len];omega)];simp[hb]
def cd3(n:Nat)(next:List (List Int))(f:List (List Bool)):Prop:=∀a,a+1<n->∀b,(W3 next f a).getD b false=true->mAt f a b=true
def R6(n:Nat):SqM n (Q5 n):=⟨by simp[Q5],λr b=>by
 obtain⟨a,_,rfl⟩:=eh4.1 b;simp⟩
def aZ7{n a b:Nat}(d:a<n)(hb:b<n):mAt (Q5 n) a b=(decide (a+1<n)||decide (a=b)):=by
 have c:(Q5 n).getD a []=(List.range n).map λb=>decide (a+1<n)||decide (a=b):=by
  unfold Q5;rw[List.getD,ei9,eo0 d];rfl
 unfold mAt;rw[c,List.getD,ei9,eo0 hb];rfl
def aP8(n:Nat)(next:List (List Int)):cd3 n next (Q5 n):=by
 intro a d b c;rw[aV0 (R6 n) (by omega)]at c;have:b<n:=by
  rw[eh5]at c;exact ef3 c.1
 rw[aZ7 (by omega) this];simp[d]
def bx8(n:Nat):∀(f:List (List Bool)),(∀r∈f,r.length=n)->aD9 f<=f.length*n
 | [],_=>by simp[aD9]
 | r::f,h=>by
  have d:=bx8 n f λs b=>h s (by simp[b]);have c:bL4 r<=n:=by
   have:=List.count_le_length (a:=true) (l:=r);rw[h r (by simp)]at this;exact this
  simp only[aD9,ej9,eq8,ei2]at *;rw[er2];omega
def aR8{α:Type}{f:List α}{a:Nat}{l d:α}(c:Nat)(b:a<f.length):(f.set a l).getD c d=if a=c then l else f.getD c d:=by
 by_cases h:a=c
 .subst h;simp[List.getD,b]
 .rw[if_neg h,List.getD,List.getD,eo1 h]
def cn5{α:Type}{f:List α}{a:Nat}{l:α}(h:f[a]?=some l):f.set a l=f:=by
 apply es6;intro i;by_cases hi:a=i
 .subst hi;rw[en0 (ef6.1 h).1,h]
 .rw[eo1 hi]
def bI7{n:Nat}{next:List (List Int)}{f:List (List Bool)}(i:SqM n f)(k:cd3 n next f){a:Nat}(s:a+1<n):
  SqM n (W1 next f a)/\cd3 n next (W1 next f a)/\(W3 next f a=f.getD a []->W1 next f a=f)/\(W3 next f a≠f.getD a []->aD9 (W1 next f a)<aD9 f):=by
 have d:a<f.length:=by rw[i.len];omega
 have e:W1 next f a=f.set a (W3 next f a):=rfl
 rw[e];obtain⟨v,m⟩:=i.get (a:=a) (by omega);have j:SqM n (f.set a (W3 next f a)):=⟨by rw[en4,i.len],λr w=>by
  rcases en6 w with h|h
  .exact i.row r h
  .rw[h,aK1,i.len]⟩
 have B8:∀c b,mAt (f.set a (W3 next f a)) c b=true->mAt f c b=true:=by
  intro c b h;unfold mAt at h ⊢;rw[aR8 c d]at h;split at h
  .next g=>subst g;exact k a s b h
  .exact h
 have hm:=cf3 f a (W3 next f a) d;have l:f[a]=f.getD a []:=by rw[List.getD,ef1 d];rfl
 obtain⟨_,o⟩:=cE7 (f.getD a []) (W3 next f a) (by rw[aK1,i.len,m]) λb t=>k a s b t;refine⟨j,?_,λh=>by rw[h];exact cn5 v,λh=>by have:=o h;rw[l]at hm;omega⟩;intro c u b h;rw[aV0 j (by omega)]at h;have p:(W3 next f c).getD b false=true:=by
  rw[aV0 i (by omega)];rw[eh5,eq6]at h ⊢;refine⟨h.1,h.2.imp id λq=>?_⟩;rw[en8]at q ⊢;exact λx y=>B8 _ _ (q x y)
 unfold mAt;rw[aR8 c d];split
 .next g=>subst g;exact p
 .exact k c u b p
def aI1{next:List (List Int)}{m:Nat}{f:List (List Bool)}(h:H5 next f m=f):∀k,S6 next m k f=f
 | 0=>rfl
 | k+1=>by rw[S6,h,aI1 h k]
def aP9(next:List (List Int))(m:Nat):∀(j k:Nat) (f:List (List Bool)),S6 next m (j+k) f=S6 next m k (S6 next m j f)
 | 0,k,f=>by rw[ej1];rfl
 | j+1,k,f=>by rw[show j+1+k=(j+k)+1 by omega,S6,S6,aP9 next m j k]
def ap7{α:Type}{l:List α}{d x:α}{n b:Nat}(e:l.length=n)(hb:b<n)(c:l[b]?=some x):(l.take b++List.replicate (n-b) d).set b x=l.take (b+1)++List.replicate (n-(b+1)) d:=by
 have a:(l.take b).length=b:=by rw[eg0];omega
 rw[List.set_append_right _ _ (by omega),a,Nat.sub_self,show n-b=(n-(b+1))+1 by omega,List.replicate_succ,List.set_cons_zero,es3,c];simp
def aA6{P:Program}{t:TypeId}{z:Value}(c:H3 P t=some z)(b:N0 P t=1):∃i,P.info? t=some i/\i.size=1:=by
 obtain⟨i,a,d⟩:=z7 c;exact⟨i,a,by rw[<-E1 a];exact b⟩
def cz6(vf vs:Value)(n:Nat)(g:List (List Bool))(l:List Int)(w:World)(hf:R (m8 w) vf g)(hs:R (m8 w) vs l)(T:SqM n g)(hl:∀c∈l,0<=c/\c<(n:Int))(hn:n<=1000000)(aS:l.length<=1000000000):
  o9 prog 231 #[vf,vs] w λu E=>(B0 (m8 w) E 4 u (ae5 g l)/\o6 w E):=by
 refine p9 [vf,vs] func231 rfl ?_;have ah:=hf.isS;have S:=hf.vlen;rw[T.len]at S;have aj:=hs.isS;have av:=hs.vlen;obtain⟨ib,K,A⟩:=aA6 (P:=prog) W5 aG0;obtain⟨vo,w1,aq,ho,ay,_,_⟩:=mk (P:=prog) (w:=w) (h:=m8 w) (α:=Bool) bI1 W5 (y:=false) rfl (n:=n) (by omega) (by omega) (n7 _);have au:vlen vo=n:=by rw[ho.vlen,ek9]
 have U:(ae5 g l).length=n:=by rw[ak2,T.len]
 simp only[i5,n9,simprocAttr,ah,S,aq,ho.isS,au];refine A6 [0,1,5,13] (σ:=Nat) (λb f E=>f 14 = .int .i64 b/\b<=n/\B0 (m8 w) E 4 vo ((ae5 g l).take b++List.replicate (n-b) false)/\o6 w E) (λb=>n-b) 0 ?_ ?_
 .exact⟨rfl,eg3 _,by simpa using ho,ay⟩
 rintro b f w2 ⟨e0,e1,e5,I,_⟩ ⟨F,aM,p,Z⟩;simp only[i5,n9,simprocAttr,F,I];refine y5 (λQ=>?_) ?_;rotate_left
 .rintro rfl;rw[Nat.sub_self,List.replicate_zero,ei5,<-U,eg4]at p;simp only[i5,simprocAttr,e5];exact o7 results231 ⟨p,Z⟩
 have j:=ap7 (d:=false) U Q (ef1 (by omega));have ak:(ae5 g l)[b]'(by omega)=l.all λa=>mAt g a.toNat b:=by
  have:=bH5 T l Q;rw[List.getD,ef1 (by omega)]at this;exact this
 rw[ak]at j;have hX:((ae5 g l).take b++List.replicate (n-b) false).length=n:=by rw[ef4,eg0,ek9];omega
 generalize(ae5 g l).take b++List.replicate (n-b) false=X at p j hX;have an:=p.inS (k:=b) (by omega);obtain⟨w3,s1,ax,ao,_⟩:=F1 (P:=prog) (t:=4) p rfl (k:=b) (by omega) (x:=.bool true) (y:=true) rfl rfl K A;have az:=p.ext2 Z ao;simp only[i5,n9,y4,simprocAttr,F,e1,e5,an,s1,aj,av];refine A6 [0,1,5,6,13,14,20,21] (σ:=Nat) (λk f E=>f 22 = .int .i64 k/\k<=l.length/\B0 (m8 w) E 4 vo (X.set b ((l.take k).all λa=>mAt g a.toNat b))/\o6 w E) (λk=>l.length-k) 0 ?_ ?_
 .exact⟨rfl,eg3 _,by simpa using ax,az⟩
 rintro k f2 w4 ⟨r0,r1,r5,r6,aA,ab,ac,aB,_⟩ ⟨G,aQ,q,v⟩;rw[e0]at r0;rw[e5]at r5;rw[I]at aA;rw[F]at ab;simp only[i5,n9,simprocAttr,G,aB];refine y5 (λo=>?_) ?_;rotate_left
 .rintro rfl;rw[eg4,j]at q;simp only[i5,n9,simprocAttr,ab];refine T4 (b+1) ⟨q,v⟩
 have B:=hs.inS o;have H:=aC3 hs (b7 v) o;have am:=hl _ (eg2 o);have W:=ef8 o;generalize l[k]=c at H am W;obtain⟨C,rfl⟩:∃C:Nat,c=(C:Int):=⟨c.toNat,by omega⟩;obtain⟨hg,aO⟩:=T.get (a:=C) (by omega);obtain⟨uc,Y,al⟩:=R.row hf hg;have N:=J1 (P:=prog) (t:=95) al (b7 v) aM6;have M:=hf.inS (k:=C) (by rw[T.len];omega);have L:=Y.inS (k:=b) (by omega);have s:=ldB Y (b7 v) (k:=b) (by omega);have ar:(g.getD C [])[b]'(by omega)=mAt g C b:=by
  have hh:∀r:List Bool,∀h:b<r.length,r[b]=r.getD b false:=λr h=>by simp[List.getD,h]
  exact hh _ _
 rw[ar]at s;have D:=q.inS (k:=b) (by rw[en4];omega);have O:=D6 (P:=prog) (t:=4) q (k:=b) (en0 (by omega)) ah3;have e:(l.take (k+1)).all (λa=>mAt g a.toNat b)=((l.take k).all (λa=>mAt g a.toNat b)&&mAt g C b):=by
  rw[W,List.all_append];simp
 obtain⟨w5,s2,z,ap,_⟩:=F1 (P:=prog) (t:=4) q rfl (k:=b) (by rw[en4];omega) (x:=.bool ((l.take (k+1)).all (λa=>mAt g a.toNat b))) (y:=(l.take (k+1)).all (λa=>mAt g a.toNat b)) rfl rfl K A;rw[List.set_set]at z;have aa:=q.ext2 v ap;have i:(Instr.loadAt 4 (.pointer (some (G9 vo b)))).run prog w4 = .ok (.bool ((l.take k).all λa=>mAt g a.toNat b)) w4:=O;generalize J:(l.take (k+1)).all (λa=>mAt g a.toNat b)=V' at e s2 z;generalize(l.take k).all (λa=>mAt g a.toNat b)=V at i e;generalize mAt g C b=m at s e;rcases ef2 V with hV|hV<;>subst hV
 .have:V'=m:=by simpa using e
  subst this;simp only[i5,n9,y4,simprocAttr,G,r0,r5,r6,ac,B,H,D,i,M,N,L,s,s2];refine T4 (k+1) ⟨by rw[J];exact z,aa⟩
 .have:V'=false:=by simpa using e
  subst this;simp only[i5,n9,y4,simprocAttr,G,r5,r6,ac,B,H,D,i,s2];refine T4 (k+1) ⟨by rw[J];exact z,aa⟩
def dB3:G0 prog 249 95 1 24=true:=by decide +kernel
def cD5{p:Pg}{i x y:Nat}{wy:Wy}(d:D3 p)(hw:B7 p<=1000000)(b:i<p.procs.length)(a:am8 p i x y wy):wy.aug.length<=2000000:=by
 have c:wy.aug=ag2 (wy.virtual++wy.real++[⟨0,-1,2⟩]++((d9 p).of i).flatMap T5):=by unfold Wy.aug;rw[a.s,a.proc]
 have e:=cc5 d hw b a;have f:=(bt6 p hw i b).2;have g:=P4 T5 1 ((d9 p).of i) λx _=>bD9 x;rw[c];refine ef9 (bb7 _) ?_;simp only[ef4,ei6];omega
def bV9{p:Pg}{i x y:Nat}{wy:Wy}(e:D3 p)(hw:B7 p<=1000000)(d:i<p.procs.length)(a:am8 p i x y wy):∀t∈wy.aug,RgS x y t:=by
 have c:wy.aug=ag2 (wy.virtual++wy.real++[⟨0,-1,2⟩]++((d9 p).of i).flatMap T5):=by unfold Wy.aug;rw[a.s,a.proc]
 intro t b;rw[c]at b;exact cY5 e hw d a t (bb8 b)
def cr1(a:Addr)(wy:Wy)(p:Pg)(i x y:Nat)(w:World)(ha:At (m8 w) a wy)(hr:D3 p)(hw:B7 p<=1000000)(hi:i<p.procs.length)(S:am8 p i x y wy):
  o9 prog 181 #[.pointer (some a)] w λu m=>(R (m8 m) u wy.follow/\o6 w m):=by
 refine p9 [.pointer (some a)] func181 rfl ?_;obtain⟨_,_,_,_,_,_,aQ,cQ⟩:=ha.wy;have lw:=aQ w (n7 _);have c1:=H7 hr.may;have c7:=S.part.ok.len;have c6:=S.part.ok.le;have hn:=S.n;have cq:=cD5 hr hw hi S;have a6:=bV9 hr hw hi S;have aL:=bg7 S.toWyOk a6;have aJ:wy.n=((wy.n.toNat:Nat):Int):=by omega
 have bI:(wy.pairs wy.aug).length=wy.aug.length:=eg5 _;have hF:wy.follow=S6 (ak6 wy.n.toNat (wy.pairs wy.aug)) (wy.n.toNat-1) (wy.n.toNat*wy.n.toNat+1) (Q5 wy.n.toNat):=rfl;have a3:wy.n.toNat<=202:=by omega
 have ci:2<=wy.n.toNat:=by omega
 generalize hM:wy.n.toNat=M at hF aJ a3 ci;have hz:A3.enc (m8 w) (Value.slice none 0 0).cells.toList D2:=⟨rfl,rfl⟩;obtain⟨vo,w1,aj,bG,aO,br,_⟩:=mk (P:=prog) (w:=w) (h:=m8 w) cz8 am6 (α:=X9) (y:=D2) hz (n:=M) (by omega) (by omega) (n7 _);rw[<-aJ]at aj;have bf:E2 (m8 w) w1 24 3 vo (List.replicate M D2) (ak6 M []):=by rw[cl1];exact ak0 bG
 simp only[i5,n9,simprocAttr,lw,aj];refine t8 (cC8 a wy p i x y w1 (ha.mono (b7 aO)) hr hw hi S) ?_;rintro ud w2 ⟨bH,am⟩;simp only[i5,simprocAttr];refine t8 (av2 a wy p i x y ud _ w2 (ha.mono (b7 (aO.trans am))) S.toWyOk (bH.rw_ (b7 am)) a6 (by omega)) ?_;rintro uq w3 ⟨aK,bi⟩;have bg:=bf.ext (am.trans bi);have N:∀b,N2 vo (List.replicate M D2) b->b<w2.heap.size:=λb z=>(bf.ext am).lt z;generalize wy.pairs wy.aug=ps at aK hF aL bI;have aB:R (C1 w3 (N2 vo (List.replicate M D2))) uq ps:=aK.flatRN λb z=>E4 λco=>by
  have h1:=N b co;have h2:=D1 (aK.free z);omega
 have bm:=aB.isS;have bE:=aB.vlen;simp only[i5,n9,simprocAttr,bm,bE];refine A6 [0,3,20,21] (σ:=Nat×List X9) (λs f m=>f 22 = .int .i64 s.1/\s.1<=ps.length/\E2 (m8 w) m 24 3 vo s.2 (ak6 M (ps.take s.1))/\o8 (N2 vo (List.replicate M D2)) w3 m/\(∀b,N2 vo s.2 b->N2 vo (List.replicate M D2) b\/w3.heap.size<=b)) (λs=>ps.length-s.1) (0,List.replicate M D2) ?_ ?_
 .simp only[B3,simprocAttr];exact⟨by trivial,eg3 _,by simpa using bg,o8.refl _,λb z=>.inl z⟩
 rintro⟨k,us⟩ f L ⟨e0,e3,cd,ce,_⟩ ⟨aE,bx,ab,ax,O⟩;simp only at aE bx ab O;have D:o6 w L:=o8.ext_of (aO.trans (am.trans bi)) ax λb z=>D1 (bg.free z);simp only[i5,n9,simprocAttr,aE,ce];refine y5 (λaa=>?_) ?_
 .have a9:=aB.inS aa;have ba:=df2 aB (D8 ax) (ef1 aa);have bV:=ef8 aa;obtain⟨bJ,bK⟩:=aL _ (eg2 aa);generalize ps[k]=t at ba bV bJ bK;obtain⟨z1,z2⟩:=t;simp only at bJ bK ba;obtain⟨Q,rfl⟩:∃Q:Nat,z1=(Q:Int):=⟨z1.toNat,by omega⟩;have hQ:Q<M:=by omega
  obtain⟨c,wz,w5,cm,bT,an,cs,c5⟩:=dn2 (w:=L) (Q:Int) z2;have T:=ab.ext (an.trans (o6.drew w5));have cB:us.length=M:=by rw[ab.len,bf9]
  obtain⟨u,hu⟩:∃u,us[Q]?=some u:=⟨us[Q]'(by omega),ef1 (by omega)⟩;have C:=T.row Q u _ hu (bF5 _ hQ);have aM:=aJ3 (ps.take k) Q;rw[eg0]at aM;have bq:¬A0 u.v c:=λz=>by
   have:=ab.lt (.inr ⟨u,eh3 hu,z⟩);omega
  have bn:w5.drew.heap[c]?=some (.cells #[.int .i64 (Q:Int),.int .i64 z2] 205 (0,0)):=cs;have t0:∀K f d w0,F7 prog (λm=>o8 (A0 u.v) w5.drew m) (Instr.loadAt 3 (.pointer (some ⟨c,0,none⟩))) K f d w0=K (C9 f d (.int .i64 (Q:Int))) w0:=λK f d w0=>C0 (w0:=w5.drew) (o8.refl _) λm h=>(au9 bn h bq).1;have t1:∀K f d w0,F7 prog (λm=>o8 (A0 u.v) w5.drew m) (Instr.loadAt 3 (.pointer (some ⟨c,1,none⟩))) K f d w0=K (C9 f d (.int .i64 z2)) w0:=λK f d w0=>C0 (w0:=w5.drew) (o8.refl _) λm h=>(au9 bn h bq).2;have t2:∀K f d w0,F7 prog (λm=>o8 (A0 u.v) w5.drew m) (Instr.loadAt 24 (.pointer (some (G9 vo Q)))) K f d w0=K (C9 f d u.v) w0:=λK f d w0=>C0 (w0:=w5.drew) (o8.refl _) λm h=>bG6 (T.outer.mod h λb z cn=>T.off Q u hu b cn z) hu ah2;have dm:=T.outer.isS;have bw:=T.outer.inS (k:=Q) (by omega);have bY:=D.trans (an.trans (o6.drew w5));obtain⟨p1,u6,w6,p2,p3,p4,p5⟩:=push (e:=24) V4 rfl C (x:=.int .i64 z2) (y:=z2) rfl (by omega) (by omega) (b7 bY);simp only[Value.cells]at p1 p2;obtain⟨w7,s1,aA,cv,_⟩:=T.put (P:=prog) (t:=24) hu p4 p3 p5 (z7 am6).choose_spec.1 (by rw[<-E1 (z7 am6).choose_spec.1];exact bv7);simp only[i5,n9,y4,simprocAttr,aE,cd,a9,ba,cm,bT];refine B9 (λm=>o8 (A0 u.v) w5.drew m) 12 (A5 [0,1,2,3,4,5,6,7,8,9,10,11]) ?_;simp only[D0,A5,i5,n9,y4,simprocAttr,e3,t0,t1,t2,bw,p1,p2,F2];refine⟨o8.up (o6.alloc _ _),p4,?_⟩;simp only[i5,n9,simprocAttr,s1,aE];have bO:∀b,A0 u.v b->N2 vo us b:=λb z=>.inr ⟨u,eh3 hu,z⟩;have c8:w3.heap.size<=w5.drew.heap.size:=ef9 ax.size ((an.trans (o6.drew w5)).size);refine T4 (k+1,us.set Q ⟨u6⟩) ⟨?_,?_,λb z=>?_⟩
  .simp only[];rw[bV,bR3 _ hQ];exact aA
  .refine(ax.chain (o8.up (M:=λ_=>False) (an.trans (o6.drew w5))) λ_ _ h=>h.elim).chain (o8.trans (M:=λb=>A0 u.v b\/A0 vo b) (p4.weaken λb _ h=>.inl h) (cv.weaken λb _ h=>.inr h)) (λb z h=>?_);rcases h with h|h
   .exact(O b (bO b h)).resolve_right (by omega)
   .exact .inl h
  .rcases cm4 z with h|h
   .exact O b h
   .rcases p5 b h with h|h
    .exact O b (bO b h)
    .exact .inr (by omega)
 rintro rfl;rw[eg4]at ab;have bb:=ab.ro (b7 D);have bZ:∀a∈ak6 M ps,∀b∈a,0<=b/\b<(M:Int):=λa ha b z=>by
  obtain⟨t,ht,rfl⟩:=(bg0 ha).2 b z;have:=(aL t ht).2;omega
 have bD:∀a∈ak6 M ps,a.length<=2000000:=λa ha=>by have:=(bg0 ha).1;omega
 have bF:=bf9 M ps;generalize ak6 M ps=E at bb bZ bD bF hF;clear ab ax O aB aK bg bf bG aj bH N bi am aO aL bI a6 cq;clear lw bx bm bE br;have lw:=aQ L (b7 D);have cG:A3.enc (m8 L) (Value.slice none 0 0).cells.toList D2:=⟨rfl,rfl⟩;obtain⟨vf,w5,aj,bc,an,_,_⟩:=mk (P:=prog) (w:=L) (h:=m8 L) dB3 bT7 (α:=X9) (y:=D2) cG (n:=M) (by omega) (by omega) (n7 _);rw[<-aJ]at aj;have T:=ak0 (α:=Bool) (T':=4) bc;have cx:vlen vf=M:=by rw[bc.vlen,ek9]
 simp only[i5,n9,simprocAttr,e0,lw,aj,bc.isS,cx];obtain⟨ib,bt,aV⟩:=aA6 (P:=prog) W5 aG0;obtain⟨dt,aW,av⟩:=aA6 (P:=prog) bT7 cJ5;have a7:(Q5 M).length=M:=(R6 M).len;refine A6 [0,3,6,46] (σ:=Nat×List X9) (λs f m=>f 47 = .int .i64 s.1/\s.1<=M/\E2 (m8 L) m 95 4 vf s.2 ((Q5 M).take s.1++List.replicate (M-s.1) [])/\o6 L m) (λs=>M-s.1) (0,List.replicate M D2) ?_ ?_
 .simp only[B3,simprocAttr];exact⟨by trivial,eg3 _,by simpa using T,an⟩
 rintro⟨g,ap⟩ f2 w6 ⟨g0,g3,g6,bl,_⟩ ⟨aF,cu,H,aP⟩;simp only at aF cu H;rw[e0]at g0;rw[e3]at g3;have cJ:=aQ w6 (b7 (D.trans aP));simp only[i5,n9,simprocAttr,aF,bl];refine y5 (λaa=>?_) ?_
 .obtain⟨vr,w7,a0,be,Y,bs,_⟩:=mk (P:=prog) (w:=w6) (h:=m8 L) (α:=Bool) bI1 W5 (y:=false) rfl (n:=M) (by omega) (by omega) (b7 aP);rw[<-aJ]at a0;have cB:ap.length=M:=by rw[H.len,ef4,eg0,ek9];omega
  obtain⟨u,hu⟩:∃u,ap[g]?=some u:=⟨ap[g]'(by omega),ef1 (by omega)⟩;have a9:=H.outer.inS (k:=g) (by omega);obtain⟨w8,s1,o,cw,_⟩:=H.put (P:=prog) (t:=95) hu (o8.up Y) be (λb z=>.inr (bs b z)) aW av;have I:o6 L w8:=(H.outer.ext Y).ext2 (aP.trans Y) cw;have ac:(ap.set g ⟨vr⟩)[g]?=some ⟨vr⟩:=en0 (by omega);have aw:=bG6 (P:=prog) (t:=95) o.outer ac aM6;have ck:=be.isS;have cy:vlen vr=M:=by rw[be.vlen,ek9]
  obtain⟨rk,bh⟩:∃r,(Q5 M)[g]?=some r:=⟨_,ef1 (by omega)⟩;have aM:rk.length=M:=(R6 M).row rk (eh3 bh);have bN:∀b (z:b<M),rk[b]?=some (decide (g+1<M)||decide (g=b)):=λb z=>by
   have:=aZ7 aa z;unfold mAt at this;rw[List.getD,List.getD,bh,ek4,ef1 (by omega)]at this;rw[ef1 (by omega)];exact eg8 some this
  have ay:=ap7 (d:=([]:List Bool)) a7 aa bh;have cl:((Q5 M).take g++List.replicate (M-g) ([]:List Bool)).length=M:=by rw[ef4,eg0,ek9];omega
  generalize(Q5 M).take g++List.replicate (M-g) ([]:List Bool)=X at H o ay cl;generalize hU:ap.set g ⟨vr⟩=U at o ac;simp only[i5,n9,y4,simprocAttr,aF,g0,g6,cJ,a0,a9,s1,aw,ck,cy];refine A6 [0,3,6,7,46,47,62] (σ:=Nat) (λb f m=>f 63 = .int .i64 b/\b<=M/\E2 (m8 L) m 95 4 vf U (X.set g (rk.take b++List.replicate (M-b) false))/\o6 L m) (λb=>M-b) 0 ?_ ?_
  .simp only[B3,simprocAttr];exact⟨by trivial,eg3 _,by simpa using o,I⟩
  rintro b f3 w9 ⟨q0,q3,q6,q7,cN,b0,cP,_⟩ ⟨ar,dp,W,ao⟩;rw[g0]at q0;rw[g3]at q3;rw[g6]at q6;rw[aF]at b0;rw[bl]at cN;simp only[i5,n9,simprocAttr,ar,cP];refine y5 (λN=>?_) ?_;rotate_left
  .rintro rfl;rw[Nat.sub_self,List.replicate_zero,ei5,<-aM,eg4,ay]at W;simp only[i5,n9,simprocAttr,b0];refine T4 (g+1,U) ⟨W,ao⟩
  have ak:=ap7 (d:=false) aM N (bN b N);have cj:(rk.take b++List.replicate (M-b) false).length=M:=by rw[ef4,eg0,ek9];omega
  generalize rk.take b++List.replicate (M-b) false=r at W ak cj;have C:=(W.ext (o6.drew w9)).row g _ r ac (en0 (by omega));simp only at C;have aY:=C.inS (k:=b) (by omega);have bX:IntKind.i64.wrap (wy.n-1)=((M-1:Nat):Int):=by rw[M2 _ (by omega)];omega
  have sw:=cQ (λm=>o6 w9.drew m) w9.drew (o8.refl _) λm h=>b7 (D.trans (ao.trans ((o6.drew w9).trans h)));have tr:∀K f d w0,F7 prog (λm=>o6 w9.drew m) (Instr.loadAt 95 (.pointer (some (G9 vf g)))) K f d w0=K (C9 f d vr) w0:=λK f d w0=>C0 (w0:=w9.drew) (o8.refl _) λm h=>bG6 (W.outer.ext ((o6.drew w9).trans h)) ac aM6;have aX:=W.outer.inS (k:=g) (ef6.1 ac).1;have hV:(decide (g+1<M)||decide (g=b))=(decide ((g:Int)<((M-1:Nat):Int))||decide ((g:Int)=(b:Int))):=by
   congr 1
   .rw[ek8];omega
   .rw[ek8];omega
  rw[hV]at ak;have bS:=λV:Bool=>F1 (P:=prog) (t:=4) C rfl (k:=b) (by omega) (x:=.bool V) (y:=V) rfl rfl bt aV;rcases ef2 (decide ((g:Int)<((M-1:Nat):Int)))with hq|hq
  .rw[hq,er8]at ak;obtain⟨aq,s2,az,B,_⟩:=bS true;have v:=(W.ext (o6.drew w9)).write ac B az;rw[List.set_set,ak]at v;have q:o6 L aq:=C.ext2 (ao.trans (o6.drew w9)) B;simp only[i5,simprocAttr,ar];refine B9 (λm=>o6 w9.drew m) 17 (A5 [0,1,2,3,4,5,6,7,8,9,10,11,12,13,14,15,16]) ?_;simp only[D0,A5,i5,n9,y4,simprocAttr,q0,q6,q7,sw,tr,aX,bX,hq];simp only[i5,n9,simprocAttr,aY,s2,ar];refine T4 (b+1) ⟨v,q⟩
  .rw[hq,er3]at ak;obtain⟨aq,s2,az,B,_⟩:=bS (decide ((g:Int)=(b:Int)));have v:=(W.ext (o6.drew w9)).write ac B az;rw[List.set_set,ak]at v;have q:o6 L aq:=C.ext2 (ao.trans (o6.drew w9)) B;simp only[i5,simprocAttr,ar];refine B9 (λm=>o6 w9.drew m) 17 (A5 [0,1,2,3,4,5,6,7,8,9,10,11,12,13,14,15,16]) ?_;simp only[D0,A5,i5,n9,y4,simprocAttr,q0,q6,q7,sw,tr,aX,bX,hq];simp only[i5,n9,simprocAttr,aY,s2,ar];refine T4 (b+1) ⟨v,q⟩
 rintro rfl;rw[Nat.sub_self,List.replicate_zero,ei5]at H;rw[ej5 (by rw[a7];exact eg6 _)]at H;have bL:=H;have cF:=aP;generalize ap=cW at bL;simp only[i5,simprocAttr];refine A6 [0,3,6] (σ:=(Nat×List X9)×(List (List Bool)×Bool)) (λs f m=>f 9 = .bool s.2.2/\E2 (m8 L) m 95 4 vf s.1.2 s.2.1/\o6 L m/\s.2.1=S6 E (g-1) s.1.1 (Q5 g)/\SqM g s.2.1/\cd3 g E s.2.1/\aD9 s.2.1+s.1.1<=g*g/\(s.2.2=false->H5 E s.2.1 (g-1)=s.2.1)) (λs=>if s.2.2 then aD9 s.2.1+1 else 0) ((0,cW),(Q5 g,true)) ?_ ?_
 .simp only[B3,simprocAttr];refine⟨by trivial,bL,cF,rfl,R6 _,aP8 _ _,?_,λh=>by cases h⟩;have:=bx8 g (Q5 g) (R6 g).row;rw[a7]at this;simpa using this
 rintro⟨⟨K,cX⟩,fm,tu⟩ f7 w7 ⟨j0,j3,j6,_⟩ ⟨h9,aA,Y,aI,bR,aT,bo,aU⟩;simp only at h9 aA aI bR aT bo aU;rw[g0]at j0;rw[g3]at j3;rw[g6]at j6;have cK:=aQ w7 (b7 (D.trans Y));simp only[i5,simprocAttr,h9];refine A4 (λht=>?_) (λht=>?_);rotate_left
 .have a8:=aU ht;have bP:wy.follow=fm:=by
   rw[hF,show g*g+1=K+(g*g+1-K) by omega,aP9,<-aI,aI1 a8]
  simp only[i5,simprocAttr,j6];exact o7 results181 ⟨by rw[bP];exact aA.ro (b7 Y),D.trans Y⟩
 subst ht;have cE:IntKind.i64.wrap (wy.n-2)=((g-1:Nat):Int)-1:=by rw[M2 _ (by omega)];omega
 simp only[i5,n9,simprocAttr,j0,cK,cE];refine A6 [0,3,6] (σ:=(Nat×List X9)×(List (List Bool)×Bool)) (λs f m=>f 10 = .int .i64 ((s.1.1:Int)-1)/\s.1.1+1<=g/\f 9 = .bool s.2.2/\E2 (m8 L) m 95 4 vf s.1.2 s.2.1/\o6 L m/\H5 E s.2.1 s.1.1=H5 E fm (g-1)/\SqM g s.2.1/\cd3 g E s.2.1/\(s.2.2=false->s.2.1=fm)/\(s.2.2=true->aD9 s.2.1<aD9 fm)) (λs=>s.1.1) ((g-1,cX),(fm,false)) ?_ ?_
 .simp only[B3,simprocAttr];exact⟨by trivial,by omega,by trivial,aA,Y,by trivial,bR,aT,λ_=>by trivial,λh=>by cases h⟩
 rintro⟨⟨J,ae⟩,gm,tv⟩ f8 w8 ⟨m0,m3,m6,_⟩ ⟨Z,hJ,aG,o,I,al,l,A,aH,aN⟩;simp only at Z hJ aG o al l A aH aN;rw[j0]at m0;rw[j3]at m3;rw[j6]at m6;simp only[i5,n9,simprocAttr,Z];refine A4 (λa5=>?_) (λa5=>?_);rotate_left
 .have ch:J=0:=by simp at a5;omega
  subst ch;have a1:gm=H5 E fm (g-1):=al;cases tv with
  | false=>
   have e:=aH rfl;have a8:H5 E fm (g-1)=fm:=by rw[<-a1];exact e
   simp only[i5,n9,simprocAttr];refine⟨((K,ae),gm,false),by simp,aG,o,I,by rw[e];exact aI,l,A,by rw[e];exact bo,λ_=>?_⟩;simp only[];rw[e];exact a8
  | true=>
   have e:=aN rfl;simp only[i5,n9,simprocAttr];refine⟨((K+1,ae),gm,true),by simp;omega,aG,o,I,?_,l,A,by simp only[];omega,λh=>by cases h⟩;simp only[];rw[aP9,<-aI,a1];rfl
 obtain⟨j,rfl⟩:∃j,J=j+1:=⟨J-1,by simp at a5;omega⟩;have hj:j+1<g:=hJ;have au:((j+1:Nat):Int)-1=(j:Int):=by omega
 rw[au]at Z;obtain⟨un,cC,bp⟩:=R.row bb (show E[j]?=some (E.getD j []) by rw[List.getD,ef1 (by omega)];rfl);have bC:E.getD j []∈E:=by rw[List.getD,ef1 (by omega)];exact eg2 _
 have bz:=J1 (P:=prog) (t:=24) bp (b7 I) ah2;simp only[i5,n9,y4,simprocAttr,au,Z,m3,m6,bb.inS (k:=j) (by omega),bz];refine t8 (cz6 vf un g gm (E.getD j []) w8 (o.ro (b7 I)) (A3.mono (b7 I) cC) l (bZ _ bC) (by omega) (by have:=bD _ bC;omega)) ?_;rintro ul w9 ⟨bd,ao⟩;have bv:=bd.inS (k:=j) (by rw[ak2,l.len];omega);obtain⟨aq,s1,G,B,_⟩:=F1 (P:=prog) (t:=4) bd rfl (k:=j) (by rw[ak2,l.len];omega) (x:=.bool true) (y:=true) rfl rfl bt aV;have bB:(ae5 gm (E.getD j [])).set j true=W3 E gm j:=rfl;rw[bB]at G;have q:o6 w8 aq:=bd.ext2 ao B;have ad:=I.trans q;have v:=o.ext q;have aS:=v.ro (b7 ad);obtain⟨hg,cr⟩:=l.get (a:=j) (by omega);obtain⟨ur,cD,cp⟩:=R.row aS hg;have aw:=J1 (P:=prog) (t:=95) cp (n7 _) aM6;have bu:=aS.inS (k:=j) (by rw[l.len];omega);simp only[i5,n9,y4,simprocAttr,bv,s1,Z,m6,bu,aw];refine t8 (cu0 ul ur (W3 E gm j) (gm.getD j []) aq (G.rw_ (b7 q)) cD (by rw[aK1,l.len];omega) (by rw[cr];omega)) ?_;rintro _ dF ⟨rfl,F⟩;obtain⟨cR,cS,cT,cU⟩:=bI7 l A hj;have bQ:H5 E gm (j+1)=H5 E (W1 E gm j) j:=rfl;rw[bQ]at al;have bW:IntKind.i64.wrap ((j:Int)-1)=(j:Int)-1:=M2 _ (by omega);rcases ef2 (decide (W3 E gm j=gm.getD j []))with he|he
 .have cz:=cT (ef3 he);rw[cz]at al;simp only[i5,n9,simprocAttr,he,Z,bW];refine⟨((j,ae),gm,tv),by simp,by trivial,by simp only[];omega,aG,v.ext F,ad.trans F,al,l,A,aH,aN⟩
 .have aZ:=cU (ef7 he);have c9:ae.length=g:=by rw[o.len,l.len]
  obtain⟨u8,cA⟩:∃u,ae[j]?=some u:=⟨ae[j]'(by omega),ef1 (by omega)⟩;obtain⟨dG,s2,bM,bA,_⟩:=o.put (P:=prog) (t:=95) cA (o8.up (q.trans F)) ((G.ext F).back I) (λb z=>.inr (D1 (G.free z))) aW av;simp only[i5,n9,y4,simprocAttr,he,m6,o.outer.inS (k:=j) (by omega),s2,Z,bW];refine⟨((j,ae.set j ⟨ul⟩),W1 E gm j,true),by simp,by trivial,by simp only[];omega,by trivial,bM,(o.outer.ext (q.trans F)).ext2 (ad.trans F) bA,al,cR,cS,(λh=>by cases h),λ_=>?_⟩;simp only[];cases tv with
  | false=>rw[aH rfl]at aZ ⊢;exact aZ
  | true=>have:=aN rfl;omega
def bL7{n:Nat}{next:List (List Int)}{f:List (List Bool)}(b:SqM n f)(a:Nat):SqM n (W1 next f a):=by
 have e:W1 next f a=f.set a (W3 next f a):=rfl
 rw[e];refine⟨by rw[en4,b.len],λr c=>?_⟩;rcases en6 c with h|h
 .exact b.row r h
 .rw[h,aK1,b.len]
def aQ1{n:Nat}{next:List (List Int)}:∀(m:Nat) {f:List (List Bool)},SqM n f->SqM n (H5 next f m)
 | 0,_,h=>h
 | m+1,_,h=>aQ1 m (bL7 h m)
def bC8{n:Nat}{next:List (List Int)}{m:Nat}:∀(k:Nat) {f:List (List Bool)},SqM n f->SqM n (S6 next m k f)
 | 0,_,h=>h
 | k+1,_,h=>bC8 k (aQ1 m h)
def cP7(wy:Wy):SqM wy.n.toNat wy.follow:=by
 unfold Wy.follow;exact bC8 _ (R6 _)
def ak5(f:List (List Bool))(M:Nat)(l:List (Int×Int))(a b:Nat):Bool:=decide (1<=b)&&decide (b+1<M)&&l.any λt=>decide (t.1=(a:Int))&&(mAt f t.2.toNat b&&(decide (a=b) || !mAt f a b))
def cO4(f:List (List Bool))(M:Nat)(l:List (Int×Int))(t:Int×Int)(a b:Nat):ak5 f M (l++[t]) a b=(ak5 f M l a b||(decide (1<=b)&&decide (b+1<M)&&decide (t.1=(a:Int))&&(mAt f t.2.toNat b&&(decide (a=b) || !mAt f a b)))):=by
 unfold ak5;rw[List.any_append];cases decide (1<=b)<;>cases decide (b+1<M)<;>simp
def aH5{wy:Wy}{M:Nat}(d:wy.n=(M:Int)):wy.decides=(List.range M).flatMap λa=>((List.range M).filter λb=>ak5 wy.follow M (wy.pairs wy.aug) a b).map λ(b:Nat)=>(wy.place (a:Int),wy.place (b:Int)):=by
 unfold Wy.decides;simp only[];rw[d,eh6]
 congr 1
 funext a
 congr 1
 refine List.filter_congr λb e=>?_;unfold ak5;have c:decide ((b:Int)<(M:Int)-1)=decide (b+1<M):=by rw[ek8];omega
 rw[c];refine eg8 (λg=>decide (1<=b)&&decide (b+1<M)&&(wy.pairs wy.aug).any g) (funext λt=>?_);unfold atB mAt;rw[eh6,Bool.and_assoc]
theorem bX7{α:Type}{l:List α}{k:Nat}{d x:α}(h:l[k]?=some x):l.getD k d=x:=by rw[List.getD,h];rfl
def cd4(a:Addr)(wy:Wy)(p:Pg)(i x y:Nat)(w:World)(ha:At (m8 w) a wy)(hr:D3 p)(hw:B7 p<=1000000)(hi:i<p.procs.length)(E:am8 p i x y wy):
  o9 prog 134 #[.pointer (some a)] w λu Z=>(B0 (m8 w) Z 205 u wy.decides/\o6 w Z):=by
 refine p9 [.pointer (some a)] func134 rfl ?_;obtain⟨_,_,_,_,_,_,bi,dy⟩:=ha.wy;have cX:=H7 hr.may;have c6:=E.part.ok.len;have c5:=E.part.ok.le;have hn:=E.n;have dm:=cD5 hr hw hi E;have bv:=bV9 hr hw hi E;have bI:=bg7 E.toWyOk bv;have cA:(wy.pairs wy.aug).length=wy.aug.length:=eg5 _;have aS:wy.n=((wy.n.toNat:Nat):Int):=by omega
 have I:=cP7 wy;have a5:wy.n.toNat<=202:=by omega
 have cg:2<=wy.n.toNat:=by omega
 generalize hM:wy.n.toNat=M at aS a5 cg I;have hF:=aH5 aS;simp only[i5,n9,simprocAttr];refine t8 (cr1 a wy p i x y w ha hr hw hi E) ?_;rintro vf w1 ⟨aG,aq⟩;generalize wy.follow=g at aG hF I;have cJ:=bi w1 (b7 aq);have hz:A3.enc (m8 w1) (Value.slice none 0 0).cells.toList D2:=⟨rfl,rfl⟩;obtain⟨vo,w2,bE,L,cG,_,_⟩:=mk (P:=prog) (w:=w1) (h:=m8 w1) dB3 bT7 (α:=X9) (y:=D2) hz (n:=M) (by omega) (by omega) (n7 _);rw[<-aS]at bE;have bM:=ak0 (α:=Bool) (T':=4) L;have bn:=L.isS;have bG:vlen vo=M:=by rw[L.vlen,ek9]
 obtain⟨ib,cs,bz⟩:=aA6 (P:=prog) W5 aG0;obtain⟨dr,bA,ba⟩:=aA6 (P:=prog) bT7 cJ5;have bV:(List.replicate M (List.replicate M false)).length=M:=ek9;simp only[i5,n9,simprocAttr,cJ,bE,bn,bG];refine A6 [0,3,4,21] (σ:=Nat×List X9) (λs f Z=>f 22 = .int .i64 s.1/\s.1<=M/\E2 (m8 w1) Z 95 4 vo s.2 ((List.replicate M (List.replicate M false)).take s.1++List.replicate (M-s.1) [])/\o6 w1 Z) (λs=>M-s.1) (0,List.replicate M D2) ?_ ?_
 .exact⟨rfl,eg3 _,by simpa using bM,cG⟩
 rintro⟨k,us⟩ f w3 ⟨e0,e3,e4,ca,_⟩ ⟨a3,ct,N,ar⟩;simp only at a3 ct N;have cK:=bi w3 (b7 (aq.trans ar));simp only[i5,n9,simprocAttr,a3,ca];refine y5 (λaa=>?_) ?_
 .obtain⟨vr,w4,a0,cy,O,bw,_⟩:=mk (P:=prog) (w:=w3) (h:=m8 w1) (α:=Bool) bI1 W5 (y:=false) rfl (n:=M) (by omega) (by omega) (b7 ar);rw[<-aS]at a0;have cE:us.length=M:=by rw[N.len,ef4,eg0,ek9,ek9];omega
  obtain⟨u,hu⟩:∃u,us[k]?=some u:=⟨us[k]'(by omega),ef1 (by omega)⟩;have bb:=N.outer.inS (k:=k) (by omega);obtain⟨w5,s1,ab,cu,_⟩:=N.put (P:=prog) (t:=95) hu (o8.up O) cy (λb hb=>.inr (bw b hb)) bA ba;rw[ap7 (d:=([]:List Bool)) bV aa (by rw[eq3,if_pos aa])]at ab;simp only[i5,n9,y4,simprocAttr,a3,e0,e4,cK,a0,bb,s1];refine T4 (k+1,us.set k ⟨vr⟩) ⟨ab,(N.outer.ext O).ext2 (ar.trans O) cu⟩
 rintro rfl;rw[Nat.sub_self,List.replicate_zero,ei5,ej5 (by rw[bV];exact eg6 _)]at N;simp only[i5,simprocAttr,e0];refine t8 (cC8 a wy p i x y w3 (ha.mono (b7 (aq.trans ar))) hr hw hi E) ?_;rintro ud w4 ⟨bH,O⟩;simp only[i5,simprocAttr];refine t8 (av2 a wy p i x y ud _ w4 (ha.mono (b7 (aq.trans (ar.trans O)))) E.toWyOk (bH.rw_ (b7 O)) bv (by omega)) ?_;rintro uq w5 ⟨aT,bU⟩;have ab:=N.ext (O.trans bU);generalize wy.pairs wy.aug=l at aT hF bI cA;have bS:=ar.trans (O.trans bU);have aF:R (C1 w5 (N2 vo us)) uq l:=aT.flatRN λb hb=>E4 λck=>by
  have S:=(N.ext O).lt ck;have h2:=D1 (aT.free hb);omega
 have aj:∀b,N2 vo us b->m8 w1 b=none:=λb hb=>ab.free hb;have cE:us.length=k:=by rw[ab.len,ek9]
 have ci:=aF.isS;have cw:=aF.vlen;have bs:∀A B,A<k->B<k->mAt (List.replicate k (List.replicate k false)) A B=ak5 g k [] A B:=λA B hA hB=>by
  unfold mAt ak5;rw[bX7 (show(List.replicate k (List.replicate k false))[A]?=some (List.replicate k false) by rw[eq3,if_pos hA]),bX7 (show(List.replicate k false)[B]?=some false by rw[eq3,if_pos hB])];simp
 have bO:SqM k (List.replicate k (List.replicate k false)):=⟨ek9,λr hr=>by rw[em9 hr,ek9]⟩;simp only[i5,n9,simprocAttr,ci,cw];refine A6 [0,3,4,37,38] (σ:=Nat×List (List Bool)) (λs f Z=>f 39 = .int .i64 s.1/\s.1<=l.length/\E2 (m8 w1) Z 95 4 vo us s.2/\o8 (N2 vo us) w5 Z/\SqM k s.2/\∀A B,A<k->B<k->mAt s.2 A B=ak5 g k (l.take s.1) A B) (λs=>l.length-s.1) (0,List.replicate k (List.replicate k false)) ?_ ?_
 .exact⟨rfl,eg3 _,ab,o8.refl _,bO,by simpa using bs⟩
 rintro⟨q,X⟩ f6 w6 ⟨g0,g3,g4,cc,cd,_⟩ ⟨aM,cB,aC,aR,W,ay⟩;simp only at aM cB aC W ay;rw[e0]at g0;rw[e3]at g3;rw[e4]at g4;have aJ:o6 w1 w6:=o8.ext_of bS aR λb hb=>D1 (aj b hb);simp only[i5,n9,simprocAttr,aM,cd];refine y5 (λaa=>?_) ?_
 .have bb:=aF.inS aa;have bc:=df2 aF (D8 aR) (ef1 aa);have bQ:=ef8 aa;obtain⟨bK,bL⟩:=bI _ (eg2 aa);generalize l[q]=t at bc bQ bK bL;obtain⟨z1,z2⟩:=t;simp only at bK bL bc;obtain⟨A,rfl⟩:∃Q:Nat,z1=(Q:Int):=⟨z1.toNat,by omega⟩;obtain⟨C,rfl⟩:∃Q:Nat,z2=(Q:Int):=⟨z2.toNat,by omega⟩;have hA:A<k:=by omega
  have hC:C<k:=by omega
  have aQ:∀A' B,ak5 g k (l.take (q+1)) A' B=(ak5 g k (l.take q) A' B||(decide (1<=B)&&decide (B+1<k)&&decide (A=A')&&(mAt g C B&&(decide (A'=B) || !mAt g A' B)))):=λA' B=>by
   rw[bQ,cO4];simp only[eh6];have:decide ((A:Int)=(A':Int))=decide (A=A'):=by rw[ek8];omega
   rw[this]
  obtain⟨c,wz,w7,cj,bP,bg,bx,c3⟩:=dn2 (w:=w6) (A:Int) (C:Int);have cC:=aC.ext bg;have cm:¬N2 vo us c:=λhb=>by
   have:=aC.lt hb;omega
  have bT:=aJ.trans bg;have bC:o8 (N2 vo us) w5 w7:=aR.chain (o8.up (M:=λ_=>False) bg) λ_ _ h=>h.elim;obtain⟨a8,az⟩:=W.get hA;obtain⟨uA,aU⟩:∃u,us[A]?=some u:=⟨us[A]'(by omega),ef1 (by omega)⟩;obtain⟨cr,c2⟩:=I.get hC;obtain⟨cq,c1⟩:=I.get hA;obtain⟨uC,bR,cl⟩:=R.row aG cr;obtain⟨dA,ac,aP⟩:=R.row aG cq;have K:=aG.inS (k:=C) (by rw[I.len];exact hC);have aA:=aG.inS (k:=A) (by rw[I.len];exact hA);have cF:IntKind.i64.wrap (wy.n-1)=((k-1:Nat):Int):=by rw[M2 _ (by omega)];omega
  simp only[i5,n9,y4,simprocAttr,aM,cc,bb,bc,cj,bP,au9 bx (M:=λ_=>False) (o8.refl w7) id];refine D9 [0,3,4,7,8,37,38,39] (σ:=Nat×List Bool) (λs f Z=>f 9 = .int .i64 s.1/\1<=s.1/\s.1+1<=k/\E2 (m8 w1) Z 95 4 vo us (X.set A s.2)/\o8 (N2 vo us) w7 Z/\s.2.length=k/\∀B,B<k->s.2.getD B false=if B<s.1 then ak5 g k (l.take (q+1)) A B else ak5 g k (l.take q) A B) (λs=>k-s.1) (1,X.getD A []) ?_ ?_
  .simp only[B3,simprocAttr];refine⟨by trivial,by simp,by omega,by rw[cn5 a8];exact cC,o8.refl _,az,λB hB=>?_⟩;have S:=ay A B hA hB;unfold mAt at S;rw[S];split
   .next di=>
    have:B=0:=by omega
    subst this;rw[aQ];simp
   .rfl
  rintro⟨b,r⟩ f8 w8 hk ⟨h9,bt,a6,V,ao,ap,aD⟩;simp only at h9 bt a6 V ap aD;simp only[ei3,B3,simprocAttr]at hk;obtain⟨j0,j3,j4,j7,j8,ds,dt,bX,_⟩:=hk;rw[g0]at j0;rw[g3]at j3;rw[g4]at j4;rw[aM]at bX;have Y:o6 w1 w8:=o8.ext_of bT ao λb hb=>D1 (aj b hb);have cL:=bi w8 (b7 (aq.trans Y));have af:=au9 bx ao cm;have ah:=J1 (P:=prog) (t:=95) cl (b7 Y) aM6;have ag:=J1 (P:=prog) (t:=95) aP (b7 Y) aM6;simp only[i5,n9,simprocAttr,j0,h9,cL,cF];refine A4 (λa7=>?_) (λa7=>?_);rotate_left
  .have dk:b+1=k:=by simp at a7;omega
   have br:∀B,B<k->r.getD B false=ak5 g k (l.take (q+1)) A B:=λB hB=>by
    rw[aD B hB];split
    .rfl
    .rw[aQ];have:decide (B+1<k)=false:=by simp;omega
     rw[this];simp
   simp only[i5,n9,simprocAttr,bX];refine T4 (q+1,X.set A r) ⟨V,bC.chain ao λ_ _ h=>h,⟨by rw[en4,W.len],λs hs=>?_⟩,λA' B ce hB=>?_⟩
   .rcases en6 hs with h|h
    .exact W.row s h
    .rw[h];exact ap
   .unfold mAt;simp only[];rw[aR8 A' (by rw[W.len];exact hA)];split
    .next a4=>subst a4;exact br B hB
    .next a4=>
     have S:=ay A' B ce hB;unfold mAt at S;rw[S,aQ];simp[a4]
  have bB:b+1<k:=by
   have:=ef3 a7;omega
  have bu:b<k:=by omega
  have ae:=bR.inS (k:=b) (by omega);have j:=ldB bR (b7 Y) (k:=b) (by omega);have J:=ac.inS (k:=b) (by omega);have o:=ldB ac (b7 Y) (k:=b) (by omega);have a9:∀r:List Bool,∀h:b<r.length,r[b]=r.getD b false:=λr h=>by simp[List.getD,h]
  rw[a9]at j o;have cv:(g.getD C []).getD b false=mAt g C b:=rfl;have bd:(g.getD A []).getD b false=mAt g A b:=rfl;rw[cv]at j;rw[bd]at o;have cD:(X.set A r)[A]?=some r:=en0 (by rw[W.len];exact hA);have a1:=V.row A uA r aU cD;have bN:=aD b bu;rw[if_neg (Nat.lt_irrefl _)]at bN;have m:=aQ A b;have cn:decide (1<=b)=true:=by simpa using bt
  have co:decide (b+1<k)=true:=by simpa using bB
  rw[cn,co]at m;simp only[decide_true,em1]at m;have F:(mAt g C b&&(decide (A=b) || !mAt g A b))=false->∀B,B<k->r.getD B false=if B<b+1 then ak5 g k (l.take (q+1)) A B else ak5 g k (l.take q) A B:=λhf B hB=>by
   rw[aD B hB];by_cases S:B<b
   .rw[if_pos S,if_pos (by omega)]
   .rw[if_neg S];by_cases h2:B=b
    .subst h2;rw[if_pos (by omega),m,hf,Bool.or_false]
    .rw[if_neg (by omega)]
  have v:(mAt g C b&&(decide (A=b) || !mAt g A b))=true->∀B,B<k->(r.set b true).getD B false=if B<b+1 then ak5 g k (l.take (q+1)) A B else ak5 g k (l.take q) A B:=λhf B hB=>by
   rw[aR8 B (by omega)];by_cases S:b=B
   .subst S;rw[if_pos rfl,if_pos (by omega),m,hf,er9]
   .rw[if_neg S,aD B hB];by_cases h2:B<b
    .rw[if_pos h2,if_pos (by omega)]
    .rw[if_neg h2,if_neg (by omega)]
  have aV:IntKind.i64.wrap ((b:Int)+1)=((b+1:Nat):Int):=H8 b;obtain⟨w9,s1,cx,bD,_⟩:=F1 (P:=prog) (t:=4) a1 rfl (k:=b) (by omega) (x:=.bool true) (y:=true) rfl rfl cs bz;have bf:=V.write aU bD cx;rw[List.set_set]at bf;have aZ:o8 (N2 vo us) w7 w9:=ao.chain bD λz _ h=>.inr ⟨uA,eh3 aU,h⟩;have aY:=bG6 (P:=prog) (t:=95) V.outer aU aM6;have aX:=V.outer.inS (k:=A) (by omega);have T:=a1.inS (k:=b) (by omega);have aO:decide ((A:Int)=(b:Int))=decide (A=b):=by rw[ek8];omega
  generalize mAt g C b=vC at j F v m;generalize mAt g A b=vA at o F v m;generalize dl:decide (A=b)=dd at aO F v m;rcases ef2 vC with S|S<;>subst S;rotate_left
  .simp only[i5,n9,y4,simprocAttr,j3,j7,h9,af,K,ah,ae,j,aV];refine nx4 (b+1,r) ⟨V,ao,ap,F rfl⟩
  rcases ef2 dd with h2|h2<;>subst h2
  .simp only[i5,n9,y4,simprocAttr,j3,j4,j7,j8,h9,af,K,ah,ae,j,aO,aV,aX,aY,T,s1];refine nx4 (b+1,r.set b true) ⟨bf,aZ,by rw[en4];exact ap,v rfl⟩
  rcases ef2 vA with h3|h3<;>subst h3
  .simp only[i5,n9,y4,simprocAttr,j3,j7,j8,h9,af,K,ah,ae,j,aO,aV,aA,ag,J,o];refine nx4 (b+1,r) ⟨V,ao,ap,F rfl⟩
  .simp only[i5,n9,y4,simprocAttr,j3,j4,j7,j8,h9,af,K,ah,ae,j,aO,aV,aA,ag,J,o,aX,aY,T,s1];refine nx4 (b+1,r.set b true) ⟨bf,aZ,by rw[en4];exact ap,v rfl⟩
 rintro rfl;rw[eg4]at ay;have bo:=aC.ro (b7 aJ);have aH:=aq.trans aJ;have bq:=ha.mono (b7 aH);clear aC aR aF aT ab N bM bH;generalize hG:(λa:Nat=>((List.range k).filter λb=>ak5 g k l a b).map λ(b:Nat)=>(wy.place (a:Int),wy.place (b:Int)))=G at hF;have bm:∀A,G A=((List.range k).filter λb=>ak5 g k l A b).map λ(b:Nat)=>(wy.place (A:Int),wy.place (b:Int)):=λA=>by rw[<-hG]
 have cf:∀A,(G A).length<=k:=λA=>by
  rw[bm,eg5];exact ef9 (eh9 _ _) (by simp)
 have bJ:∀A,A<=k->((List.range A).flatMap G).length<=202*202:=λA hA=>ef9 (P4 G k _ λx _=>cf x) (by rw[ek6];exact Nat.mul_le_mul (by omega) (by omega));simp only[i5,n9,simprocAttr,g4,bn,bG];refine A6 [0,4,85] (σ:=Nat×Value) (λs f Z=>f 86 = .int .i64 s.1/\f 10=s.2/\s.1<=k/\B0 (m8 w6) Z 205 s.2 ((List.range s.1).flatMap G)/\o6 w6 Z) (λs=>k-s.1) (0,.slice none 0 0) ?_ ?_
 .exact⟨rfl,rfl,eg3 _,by simpa using B0.nil _ _ _,o8.refl _⟩
 rintro⟨A,u⟩ f9 w9 ⟨m0,m4,bY,_⟩ ⟨aN,a2,bl,ho,bh⟩;simp only at aN a2 bl ho;rw[g0]at m0;rw[g4]at m4;simp only[i5,n9,simprocAttr,aN,bY];refine y5 (λhA=>?_) ?_;rotate_left
 .rintro rfl;simp only[i5,simprocAttr,a2];exact o7 results134 ⟨by rw[hF];exact ho.backN aH,aH.trans bh⟩
 obtain⟨a8,az⟩:=W.get hA;obtain⟨uA,ac,aP⟩:=R.row bo a8;have ag:=J1 (P:=prog) (t:=95) aP (b7 bh) aM6;have J:=bo.inS (k:=A) (by rw[W.len];exact hA);have ch:=ac.isS;have bF:=ac.vlen;rw[az]at bF;have cz:=bJ A bl;have ak:(List.range (A+1)).flatMap G=(List.range A).flatMap G++G A:=by rw[eq1,eo8];simp
 generalize(List.range A).flatMap G=pre at ho cz ak;simp only[i5,n9,y4,simprocAttr,aN,m4,J,ag,ch,bF];refine A6 [0,4,11,85,86,93] (σ:=Nat×Value) (λs f Z=>f 94 = .int .i64 s.1/\f 10=s.2/\s.1<=k/\B0 (m8 w6) Z 205 s.2 (pre++((List.range s.1).filter λb=>ak5 g k l A b).map λ(b:Nat)=>(wy.place (A:Int),wy.place (b:Int)))/\o6 w6 Z) (λs=>k-s.1) (0,u) ?_ ?_
 .exact⟨rfl,a2,eg3 _,by simpa using ho,bh⟩
 rintro⟨b,u2⟩ dh cS ⟨n0,n4,bZ,cP,b0,cQ,_⟩ ⟨ax,ad,a6,L,H⟩;simp only at ax ad a6 L;rw[m0]at n0;rw[m4]at n4;rw[bY]at cP;rw[aN]at b0;have c0:(((List.range b).filter λb=>ak5 g k l A b).map λ(b:Nat)=>(wy.place (A:Int),wy.place (b:Int))).length<=b:=by
  rw[eg5];exact ef9 (eh9 _ _) (by simp)
 simp only[i5,n9,simprocAttr,ax,cQ];refine y5 (λhb=>?_) ?_;rotate_left
 .rintro rfl;simp only[i5,n9,simprocAttr,b0];refine nx2 (A+1,u2) ⟨ad,by omega,?_,H⟩;simp only[];rw[ak,bm];exact L
 have T:=ac.inS (k:=b) (by omega);have U:=ldB ac (b7 H) (k:=b) (by omega);have a9:∀r:List Bool,∀h:b<r.length,r[b]=r.getD b false:=λr h=>by simp[List.getD,h]
 rw[a9]at U;have bd:(X.getD A []).getD b false=ak5 g k l A b:=ay A b hA hb;rw[bd]at U;have aE:(((List.range (b+1)).filter λb=>ak5 g k l A b).map λ(b:Nat)=>(wy.place (A:Int),wy.place (b:Int)))=(((List.range b).filter λb=>ak5 g k l A b).map λ(b:Nat)=>(wy.place (A:Int),wy.place (b:Int)))++if ak5 g k l A b then[(wy.place (A:Int),wy.place (b:Int))]else[]:=by
  rw[eq1,el7,ei4]
  congr 1
  cases h:ak5 g k l A b<;>simp[h]
 have aB:=J1 (P:=prog) (t:=95) aP (b7 H) aM6;generalize ak5 g k l A b=D at U aE;rcases ef2 D with S|S<;>subst S;rotate_left
 .simp only[i5,n9,y4,simprocAttr,ax,n4,bZ,J,aB,T,U];refine nx2 (b+1,u2) ⟨ad,by omega,?_,H⟩;simp only[];rw[aE,if_neg (by simp),ei5];exact L
 .simp only[i5,n9,y4,simprocAttr,ax,ad,n0,n4,bZ,J,aB,T,U];refine B2 (ad3 a wy p i x y (A:Int) cS (bq.mono (b7 H)) E.toWyOk (by omega)) (λcT al=>?_);simp only[i5,simprocAttr,n0];refine B2 (ad3 a wy p i x y (b:Int) cT (bq.mono (b7 (H.trans al))) E.toWyOk (by omega)) (λdG aI=>?_);have aK:=H.trans (al.trans aI);obtain⟨p1,u',dH,p2,p3,p4,p5⟩:=push (e:=203) dR7 rfl (L.ext (al.trans aI)) (x:=.agg #[.int .i64 (wy.place (A:Int)),.int .i64 (wy.place (b:Int))]) (y:=(wy.place (A:Int),wy.place (b:Int))) (dz8 _ _) (by rw[ef4];omega) (by rw[ef4];omega) (b7 aK);simp only[i5,n9,simprocAttr,ax,bW2,p1,p2];refine nx4 (b+1,u') ⟨?_,(L.ext (al.trans aI)).ext2 aK p4⟩;simp only[];rw[aE,if_pos rfl,<-ei0];exact p3
def ch0{α:Type}(P:α->Bool):∀(l:List α) (i:Nat) {f:α},l.find? P=some f->∃k,l[k]?=some f/\ad6 P i l=((i+k:Nat):Int)
 | [],i,f,h=>by simp at h
 | x::l,i,f,h=>by
  rw[List.find?_cons]at h;rw[ad6];split at h
  .next a=>exact⟨0,by simpa using h,by rw[if_pos a];rfl⟩
  .next a=>
   obtain⟨k,b,c⟩:=ch0 P l (i+1) h;exact⟨k+1,by simpa using b,by rw[if_neg (by simp[a]),c];congr 1;omega⟩
structure aC0 (p:Pg) (s:St) (k:Nat):Prop where
 lt:k<p.procs.length
 idx:af8 p.procs s.proc=(k:Int)
 fn:dE7 p s.proc=p.procs[k]
 len:p.procs[k].params.length=s.args.length
 ref:∀j (h1:j<s.args.length) (h2:j<p.procs[k].params.length),p.procs[k].params[j].ref=s.args[j].ref
def cK8{α β:Type}(g:α×β->Bool):∀(l:List α) (m:List β),(l.zip m).all g=true->∀j (a:j<l.length) (b:j<m.length),g (l[j],m[j])=true
 | x::l,y::m,h,0,_,_=>by
  simp only[List.zip_cons_cons,List.all_cons,eh5]at h;exact h.1
 | x::l,y::m,h,j+1,a,b=>by
  simp only[List.zip_cons_cons,List.all_cons,eh5]at h;exact cK8 g l m h.2 j (by simpa using a) (by simpa using b)
def Y6{p:Pg}{s:St}(h:al4 p s=true):∃k,aC0 p s k:=by
 unfold al4 at h;rw[eh5]at h;cases hf:p.procs.find? λf=>decide (f.name=s.proc)with
 | none=>rw[hf]at h;simp at h
 | some f=>
  rw[hf]at h;obtain⟨k,c,d⟩:=ch0 _ p.procs 0 hf;obtain⟨e,rfl⟩:=ef6.1 c;have b:=h.2;unfold bH0 at b;simp only[eh5,ei8]at b;have a:af8 p.procs s.proc=(k:Int):=by unfold af8;rw[d];simp
  refine⟨k,e,a,?_,b.1,λj c d=>?_⟩
  .unfold dE7;rw[a,eh6,List.getD,ef1 e];rfl
  .have:=cK8 _ _ _ b.2 j d c;simpa using this
def aC0.pr{p:Pg}{s:St}{k:Nat}(h:aC0 p s k):(d9 p).pr s.proc=(k:Int):=by
 unfold Sh.pr;rw[K5];exact h.idx
def bh9{α:Type}{l:List (List α)}{k:Nat}(a:k<l.length):H6 l (k:Int)=l[k]:=by
 unfold H6;rw[eh6,List.getD,ef1 a];rfl
def cT9{α:Type}{l:List (List α)}{k:Nat}(a:k<l.length):l[k]?=some (H6 l (k:Int)):=by
 rw[bh9 a,ef1 a]
def cj4{P:Program}{c:Code}{Q:Exit->Fr->World->Prop}{f:Fr}{w:World}(a:List Nat)(J:Fr->World->Prop)
  (k:CW P c (ad0 J Q) f w) (l:∀b d,(∀i∈a,b i=f i)->J b d->Q .normal b d) (j:a.all (λi=>!(wrC c).contains i)=true:=by decide +kernel):CW P c Q f w:=by
 refine cW7 c (ad0 J Q) _ f w (λe b d m h=>?_) k;have g:∀i∈a,b i=f i:=λi n=>m i λhm=>by
  have:=en8.1 j i n;simp[hm]at this
 cases e
 case normal=>exact l b d g h
 all_goals exact h
structure cL1 (p:Pg) (b:Bk):Prop where
 s:b.s=d9 p
 outs:O7 p.procs.length 25 b.outs
 ins:O7 p.procs.length 25 b.ins
def O7.row{n B:Nat}{X:Rws}(h:O7 n B X){k:Nat}(d:k<n):X[k]?=some (H6 X (k:Int))/\(H6 X (k:Int)).Pairwise (λa b=>ltS a b=true)/\(H6 X (k:Int)).length<=B:=by
 have c:k<X.length:=by rw[h.len];exact d
 have e:=bh9 c;exact⟨cT9 c,by rw[e];exact h.rise _ (eg2 c),by rw[e];exact h.few _ (eg2 c)⟩
def ao3{h:Hp}{w:World}{v:Value}{l:List A9}(k:B0 h w 9 v l)(g:l.length<=1000000000):
  o9 prog 119 #[v] w λu i=>(B0 h i 9 u (E3 l)/\o8 (A0 v) w i/\E9 w v u):=by
 refine p9 [v] func119 rfl ?_;simp only[i5,n9,simprocAttr];refine t8 (ao2 k g) ?_;rintro _ m ⟨e,a⟩;simp only[i5,simprocAttr];refine t8 (bl6 e (by rw[X8];exact g)) ?_;rintro u n ⟨f,c,d⟩;simp only[i5,simprocAttr];refine o7 results119 ⟨f,a.chain c λ_ _ h=>h,λb j=>?_⟩;rcases d b j with h|h
 .exact .inl h
 .exact .inr (ef9 a.size h)
def At.book{p:Pg}{h:Hp}{a:Addr}{b:Bk}(t:At h a b)(u:b.s=d9 p):∃(c:Addr) (g i j k l:Value),At h c (d9 p)/\R h g b.wp/\R h i b.defs/\R h j b.uses/\R h k b.ins/\R h l b.outs /\
  (∀w,B8 h (m8 w)->(Instr.loadAt 116 (.pointer (some a))).run prog w = .ok (.pointer (some c)) w/\(Instr.loadAt 134 (.pointer (some (a.add 1)))).run prog w = .ok g w/\(Instr.loadAt 135 (.pointer (some (a.add 2)))).run prog w = .ok i w/\(Instr.loadAt 135 (.pointer (some (a.add 3)))).run prog w = .ok j w/\(Instr.loadAt 135 (.pointer (some (a.add 4)))).run prog w = .ok k w/\(Instr.loadAt 135 (.pointer (some (a.add 5)))).run prog w = .ok l w) /\
  (∀(S:World->Prop) (y:World),S y->(∀w,S w->B8 h (m8 w))->(∀K f d w,F7 prog S (Instr.loadAt 116 (.pointer (some a))) K f d w=K (C9 f d (.pointer (some c))) w)/\(∀K f d w,F7 prog S (Instr.loadAt 134 (.pointer (some (a.add 1)))) K f d w=K (C9 f d g) w)/\(∀K f d w,F7 prog S (Instr.loadAt 135 (.pointer (some (a.add 2)))) K f d w=K (C9 f d i) w)/\(∀K f d w,F7 prog S (Instr.loadAt 135 (.pointer (some (a.add 3)))) K f d w=K (C9 f d j) w)/\(∀K f d w,F7 prog S (Instr.loadAt 135 (.pointer (some (a.add 4)))) K f d w=K (C9 f d k) w)/\(∀K f d w,F7 prog S (Instr.loadAt 135 (.pointer (some (a.add 5)))) K f d w=K (C9 f d l) w)):=by
 obtain⟨z,g,i,j,k,l,m,n,o,q,r,s,v,x⟩:=t.bk;obtain⟨c,rfl,has⟩:=Ptr.at_ m;have e:At h c (d9 p):=by rw[<-u];exact has
 exact⟨c,g,i,j,k,l,e,n,o,q,r,s,v,x⟩
def bH2{P:Program}{h:Hp}{v u:Value}{t:TypeId}{k:Nat}(c:M7 h (G9 v k)=some u)(e:J5 P t=false)(S:World->Prop)(w0:World)(b:S w0)(hS:∀w,S w->B8 h (m8 w)):
  ∀K f d w,F7 P S (Instr.loadAt t (.pointer (some (G9 v k)))) K f d w=K (C9 f d u) w:=λK f d w=>C0 b λg a=>J1 c (hS g a) e
def aY5(a:Addr)(b:Bk)(p:Pg)(n:A9)(w:World)(i:At (m8 w) a b)(j:b.s=d9 p)(d:M8 p=true):
  o9 prog 169 #[.pointer (some a),p6 n] w λu m=>(u = .bool (R2 p n)/\m=w):=by
 refine p9 [.pointer (some a),p6 n] func169 rfl ?_;obtain⟨o,_,_,_,_,_,has,_,_,_,_,_,f,_⟩:=i.book j;obtain⟨_,_,_,_,_,_,c,_,_⟩:=has.sh;rw[K5]at c;obtain⟨l,q,e,k,g,_⟩:=c.pg;have h:R2 p n=(decide (n=ofA #[36,105,110])||p.globals.contains n):=rfl;rcases ef2 (decide (n=ofA #[36,105,110]))with h1|h1
 .simp only[i5,n9,simprocAttr,h1];exact o7 results169 ⟨by rw[h,h1];rfl,rfl⟩
 .simp only[i5,n9,simprocAttr,h1,f w (n7 _),g w (n7 _)];refine E6 (S1 l p.globals n w e (by have:=(T0 d).1;omega)) ?_;simp only[i5,simprocAttr];exact o7 results169 ⟨by rw[h,h1];rfl,rfl⟩
def aw9(a:Addr)(b:Bk)(p:Pg)(v:Value)(s:St)(w:World)(o:At (m8 w) a b)(q:b.s=d9 p)(j:M8 p=true)(hv:SV (m8 w) v s):
  o9 prog 172 #[.pointer (some a),v] w λu e=>(u = .int .i64 ((d9 p).pr s.proc)/\o6 w e):=by
 refine p9 [.pointer (some a),v] func172 rfl ?_;obtain⟨x,_,_,_,_,_,has,_,_,_,_,_,_,m⟩:=o.book q;obtain⟨c,f,i,k,g⟩:=au2 hv (n7 _);obtain⟨_,_,_,_,_,_,_,_,_,_,n⟩:=g.st;have d:=k.trans (o6.drew f);have r:=n (λe=>o6 f.drew e) f.drew (o8.refl _) λe h=>b7 ((o6.drew f).trans h);have t:=m (λe=>o6 f.drew e) f.drew (o8.refl _) λe h=>b7 (d.trans h);simp only[i5,n9,simprocAttr,i];refine B9 (λe=>o6 f.drew e) 6 (A5 [0,1,2,3,4,5]) ?_;simp only[D0,A5,i5,n9,simprocAttr,r,t];refine B2 (ai7 x (d9 p) s.proc f.drew (has.mono (b7 d)) (by rw[K5];have:=(T0 j).2;omega)) (λy l=>?_);simp only[i5,simprocAttr];exact o7 results172 ⟨rfl,d.trans l⟩
def dn9:=zJ (zJ (zJ (zJ (zJ (zJ @dV1 @dL3) (zJ @dJ2 (zJ @dL2 @dU9))) (zJ (zJ @dL0 @dL1) (zJ @dV0 (zJ @dS5 @dS4)))) (zJ (zJ (zJ @dS6 @dS7) (zJ @dJ7 (zJ @dJ6 @dJ8))) (zJ (zJ @dJ9 @dN3) (zJ @dN2 (zJ @dV4 @dY9))))) (zJ (zJ (zJ (zJ @ec9 @dK7) (zJ @dX9 (zJ @dK8 @dY0))) (zJ (zJ @eb4 @ed4) (zJ @dv3 (zJ @dQ4 @dv4)))) (zJ (zJ (zJ @dQ5 @dQ6) (zJ @dG4 (zJ @dA9 @dA8))) (zJ (zJ @dQ3 @eb6) (zJ @eb5 (zJ @dG3 @eb8)))))) (zJ (zJ (zJ (zJ (zJ @eb7 @dX7) (zJ @do5 (zJ @dP3 @ea9))) (zJ (zJ @dv0 @dK6) (zJ @dF8 (zJ @ea3 @eb0)))) (zJ (zJ (zJ @dK5 @dX6) (zJ @dP6 (zJ @dX5 @ev.eq_1))) (zJ (zJ @ev.eq_2 @ev.eq_3) (zJ @ev.eq_4 (zJ @C9.eq_1 @C9.eq_2))))) (zJ (zJ (zJ (zJ @ec8 @eb1) (zJ @eb9 (zJ @ec0 @List.map_cons.{0,0}))) (zJ (zJ @List.map_nil.{0,0} @List.map_toArray.{0,0}) (zJ @ce3.eq_1 (zJ @ce3.eq_2 @dE8)))) (zJ (zJ (zJ @dW6 @dW7) (zJ @dc9.eq_1 (zJ @List.getElem?_toArray.{0} @List.getElem?_cons_zero.{0}))) (zJ (zJ @List.getElem?_cons_succ.{0} @Option.bind_some.{0,0}) (zJ @Option.some.injEq.{0} (zJ @em5 @Bool.true_eq_false))))))
def aP4{α β:Type}(P:α->Bool)(g:α->β)(l:List α){k:Nat}(a:k<l.length):((l.take (k+1)).filter P).map g=((l.take k).filter P).map g++if P l[k]then[g l[k]]else[]:=by
 rw[ef8 a,el7,ei4]
 congr 1
 cases h:P l[k]<;>simp[h]
def aq5{α:Type}(P:α->Bool)(l:List α){k:Nat}(a:k<l.length):(l.take (k+1)).filter P=(l.take k).filter P++if P l[k]then[l[k]]else[]:=by
 rw[ef8 a,el7]
 congr 1
 cases h:P l[k]<;>simp[h]
def pushS{h:Hp}{w:World}{v:Value}{l:List A9}(c:B0 h w 9 v l)(x:A9)(d:l.length<=100000000)(hw:B8 h (m8 w)){e:TypeId}:
  (Instr.buildSlice 31 1 #[(0,p6 x)]).run prog w = .ok (.slice (some ⟨w.heap.size,0,none⟩) 1 1) (w.alloc (.cells #[p6 x] 9)) /\
  ∃a b,(Builtin.append_ #[31,31] e #[v,.slice (some ⟨w.heap.size,0,none⟩) 1 1]).run prog (w.alloc (.cells #[p6 x] 9)) = .ok a b/\B0 h b 9 a (l++[x])/\o8 (A0 v) w b/\E9 w v a:=by
 have:=push (P:=prog) (e:=e) az7 rfl c (x:=p6 x) (y:=x) rfl (by omega) (by omega) hw;exact this
def cs7(a:Addr)(b:Bk)(p:Pg)(v:Value)(s:St)(w:World)(ha:At (m8 w) a b)(V:cL1 p b)(an:M8 p=true)(hv:SV (m8 w) v s)(bE:U1 s<=1000000)(az:al4 p s=true):
  o9 prog 168 #[.pointer (some a),v] w λu l=>(B0 (m8 w) l 9 u (au3 p b.outs s)/\o6 w l):=by
 refine p9 [.pointer (some a),v] func168 rfl ?_;obtain⟨k,y⟩:=Y6 az;have bo:=y.lt;obtain⟨sh,_,_,_,_,vo,has,_,_,_,_,aG,ba,bc⟩:=ha.book V.s;obtain⟨_,_,_,_,_,_,aF,_,_⟩:=has.sh;rw[K5]at aF;obtain⟨vg,vp,bD,aH,bH,be⟩:=aF.pg;obtain⟨O,N,ay⟩:=V.outs.row y.lt;have bC:=T9 an y.lt;have hF:au3 p b.outs s=(if s.name=e0 then[]else[s.name])++(((s.args.zip p.procs[k].params).filter λx=>x.1.ref&&(H6 b.outs (k:Int)).contains x.2.name).map λx=>x.1.name)++(H6 b.outs (k:Int)).filter (R2 p):=by
  unfold au3;rw[y.fn,y.idx]
 have a3:=y.pr;generalize H6 b.outs (k:Int)=g at O N ay hF;obtain⟨uo,Q,ax⟩:=R.row aG O;have ab:=aG.inS (k:=k) (ef6.1 O).1;have aa:=aH.at_ (i:=k) (x:=p.procs[k]) (ef1 y.lt);have aC:=aH.inS (k:=k) y.lt;have a7:A3.sz Pr=5:=rfl;rw[a7]at aa;obtain⟨bP,_,_,_,af,_,_,_,bI,bf⟩:=aa.pr;obtain⟨c,H,a0,G,au⟩:=au2 hv (n7 _);obtain⟨_,va,_,_,_,X,_,_,_,aM,_⟩:=au.st;obtain⟨sv,W,aN,_⟩:=au.st_v;have l1:=aM H (n7 _);have bp:=y.len;generalize ak:(if s.name=e0 then[]else[s.name])=L1 at hF;have bl:L1.length<=1:=by rw[<-ak];split<;>simp
 simp only[dn9,n9,simprocAttr,a0,l1];refine cj4 [0,3] (λf' l=>B0 (m8 H) l 9 (f' 5) L1/\o6 H l) ?_ ?_
 .rcases ef2 (decide (s.name=ofA #[]))with I|I
  .simp only[i5,n9,simprocAttr,I];refine⟨?_,o8.refl _⟩;rw[<-ak,if_pos (ef3 I)];exact B0.nil _ _ _
  .obtain⟨p1,u2,w2,p2,p3,p4,p5⟩:=pushS (e:=31) (B0.nil (m8 H) H 9) s.name (by simp) (n7 _);simp only[i5,n9,simprocAttr,I,l1,p1,p2];refine⟨?_,(B0.nil (α:=A9) (m8 H) H 9).ext2 (o8.refl _) p4⟩;rw[<-ak,if_neg (ef7 I)];exact p3
 rintro f w2 hk ⟨ho,T⟩;simp only[ei3,B3,simprocAttr]at hk;obtain⟨aq,e3,_⟩:=hk;have l2:=aN w2 (b7 T);have aI:=G.trans T;generalize h5:f 5=u2 at ho;simp only[i5,simprocAttr,aq,e3,l2];refine B2 (aw9 a b p sv s w2 (ha.mono (b7 aI)) V.s an (W.mono (b7 T))) (λw3 ap=>?_);rw[a3];have bF:(s.args.zip p.procs[k].params).length=s.args.length:=by rw[List.length_zip];omega
 have aJ:=T.trans ap;simp only[i5,n9,simprocAttr,e3,aM w3 (b7 (T.trans ap)),X.isS,X.vlen];refine A6 [0,3,6,23,24] (σ:=Nat×Value) (λo f l=>f 25 = .int .i64 o.1/\f 5=o.2/\o.1<=s.args.length/\B0 (m8 H) l 9 o.2 (L1++(((s.args.zip p.procs[k].params).take o.1).filter λx=>x.1.ref&&g.contains x.2.name).map λx=>x.1.name)/\o6 H l) (λo=>s.args.length-o.1) (0,u2) ?_ ?_
 .exact⟨rfl,h5,eg3 _,by simpa using ho.ext ap,aJ⟩
 rintro⟨j,u⟩ f2 w4 ⟨g0,g3,g6,ar,aX,_⟩ ⟨A,J,a2,M,C⟩;simp only at A J a2 M;rw[aq]at g0;have S:=G.trans C;have aw:((((s.args.zip p.procs[k].params).take j).filter λx=>x.1.ref&&g.contains x.2.name).map λx=>x.1.name).length<=j:=by
  rw[eg5];refine ef9 (eh9 _ _) ?_;rw[eg0];omega
 simp only[i5,n9,simprocAttr,A,aX];refine y5 (λE=>?_) ?_
 .have ad:j<p.procs[k].params.length:=by omega
  have aE:j<(s.args.zip p.procs[k].params).length:=by omega
  have aB:=X.inS E;obtain⟨sv,W,am⟩:=F5 (P:=prog) (t:=124) X (b7 C) (ef1 E) aS1 aS2 aL1 aa8;rw[aa8]at am;have m:=aP4 (λx:Ar×Pa=>x.1.ref&&g.contains x.2.name) (λx=>x.1.name) _ aE;rw[List.getElem_zip]at m;simp only at m;have B:=af.at_ (i:=j) (x:=p.procs[k].params[j]) (ef1 ad);have al:=af.inS (k:=j) ad;have a6:A3.sz Pa=2:=rfl;rw[a6]at B;obtain⟨aL,aj⟩:=B.pa;generalize p.procs[k].params[j]=pa at B aL aj m;generalize s.args[j]=ag at W m;obtain⟨d,wz,r,Z,ae,aK,av⟩:=bj8 (W.mono (b7 C)) (n7 _);obtain⟨_,bb,bd⟩:=av.ar;have ah:=S.trans (aK.trans (o6.drew r));have t1:=bd (λl=>o6 r.drew l) r.drew (o8.refl _) λl h=>b7 ((o6.drew r).trans h);have hh:∀l,o6 r.drew l->B8 (m8 w) (m8 l):=λl h=>b7 (ah.trans h);have t2:=bc (λl=>o6 r.drew l) r.drew (o8.refl _) hh;have t3:=be (λl=>o6 r.drew l) r.drew (o8.refl _) hh;have t4:=bf (λl=>o6 r.drew l) r.drew (o8.refl _) hh;have t5:=aj (λl=>o6 r.drew l) r.drew (o8.refl _) hh;have t6:=bH2 (P:=prog) (t:=31) ax P8 (λl=>o6 r.drew l) r.drew (o8.refl _) hh;have D:=aK.trans (o6.drew r);have ao:=M.ext D;have L:(ag.ref&&g.contains pa.name)=false->∀Y,o6 r.drew Y->∃o:Nat×Value,s.args.length-o.1<s.args.length-j/\(Value.int .i64 (IntKind.i64.wrap ((j:Int)+1)) = .int .i64 o.1/\u=o.2/\o.1<=s.args.length/\B0 (m8 H) Y 9 o.2 (L1++(((s.args.zip p.procs[k].params).take o.1).filter λx=>x.1.ref&&g.contains x.2.name).map λx=>x.1.name)/\o6 H Y):=λhf Y z=>by
   refine nx4 (j+1,u) ⟨?_,C.trans (D.trans z)⟩;simp only[];rw[m,hf,if_neg (by simp),ei5];exact ao.ext z
  rcases ef2 ag.ref with I|I;rotate_left
  .rw[I]at t1;simp only[i5,n9,y4,simprocAttr,A,ar,aB,am,Z,ae];refine B9 (λl=>o6 r.drew l) 26 (A5 [0,1,2,3,4,5,6,7,8,9,10,11,12,13,14,15,16,17,18,19,20,21,22,23,24,25]) ?_;simp only[D0,A5,i5,n9,simprocAttr,t1,A,J];exact L (by rw[I];rfl) _ (o8.refl _)
  .rw[I]at t1;simp only[i5,n9,y4,simprocAttr,A,ar,aB,am,Z,ae];refine B9 (λl=>o6 r.drew l) 26 (A5 [0,1,2,3,4,5,6,7,8,9,10,11,12,13,14,15,16,17,18,19,20,21,22,23,24,25]) ?_;simp only[D0,A5,i5,n9,y4,simprocAttr,t1,t2,t3,t4,t5,t6,ab,aC,al,g0,g6];refine E6 (aj8 uo g pa.name r.drew (A3.mono (b7 ah) Q) (by omega) N) ?_;have a1:(ag.ref&&g.contains pa.name)=g.contains pa.name:=by rw[I];rfl
   rw[a1]at m L;rcases ef2 (g.contains pa.name)with h2|h2;rotate_left
   .simp only[i5,n9,simprocAttr,h2,A,J];exact L h2 _ (o8.refl _)
   .obtain⟨p1,u6,Y,p2,p3,p4,p5⟩:=pushS (e:=31) ao ag.name (by rw[ef4];omega) (b7 (C.trans D));simp only[i5,n9,simprocAttr,h2,A,J,bb r.drew (b7 (o6.drew r)),p1,p2];refine nx4 (j+1,u6) ⟨?_,ao.ext2 (C.trans D) p4⟩;simp only[];rw[m,h2,if_pos rfl,<-ei0];exact p3
 rintro rfl;rw[show(s.args.zip p.procs[k].params).take s.args.length=s.args.zip p.procs[k].params from ej5 (by omega)]at M;rw[show(s.args.zip p.procs[k].params).take s.args.length=s.args.zip p.procs[k].params from ej5 (by omega)]at aw;generalize aY:L1++((s.args.zip p.procs[k].params).filter λx=>x.1.ref&&g.contains x.2.name).map (λx=>x.1.name)=L2 at M hF;have bm:L2.length<=9:=by rw[<-aY,ef4];omega
 have a4:=J1 (P:=prog) (t:=31) ax (b7 S) P8;simp only[i5,n9,y4,simprocAttr,g0,g6,ba w4 (b7 S),ab,a4,Q.isS,Q.vlen];refine A6 [0,70,71] (σ:=Nat×Value) (λo f l=>f 72 = .int .i64 o.1/\f 5=o.2/\o.1<=g.length/\B0 (m8 H) l 9 o.2 (L2++(g.take o.1).filter (R2 p))/\o6 H l) (λo=>g.length-o.1) (0,u) ?_ ?_
 .exact⟨rfl,J,eg3 _,by simpa using M,C⟩
 rintro⟨q,u6⟩ f6 Y ⟨j0,a8,a9,_⟩ ⟨K,U,a5,F,z⟩;simp only at K U a5 F;rw[g0]at j0;simp only[i5,n9,simprocAttr,K,a9];refine y5 (λE=>?_) ?_;rotate_left
 .rintro rfl;rw[eg4]at F;simp only[i5,simprocAttr,U];exact o7 results168 ⟨by rw[hF];exact F.back G,G.trans z⟩
 have aD:=Q.inS E;have ac:(Instr.loadAt 9 (.pointer (some (G9 uo q)))).run prog Y = .ok (p6 g[q]) Y:=N7 (P:=prog) (α:=A9) (xs:=g) Q (b7 (G.trans z)) (ef1 E) Z2;have m:=aq5 (R2 p) g E;have bA:((g.take q).filter (R2 p)).length<=25:=ef9 (eh9 _ _) (by rw[eg0];omega);generalize g[q]=n at ac m;simp only[i5,n9,y4,simprocAttr,K,j0,a8,aD,ac];refine E6 (aY5 a b p n Y (ha.mono (b7 (G.trans z))) V.s an) ?_;rcases ef2 (R2 p n)with h2|h2;rotate_left
 .simp only[i5,n9,simprocAttr,h2,K];refine nx2 (q+1,u6) ⟨U,by omega,?_,z⟩;simp only[];rw[m,h2,if_neg (by simp),ei5];exact F
 .obtain⟨p1,u7,w7,p2,p3,p4,p5⟩:=pushS (e:=31) F n (by rw[ef4];omega) (b7 z);simp only[i5,n9,simprocAttr,h2,K,U,p1,p2];refine nx4 (q+1,u7) ⟨?_,F.ext2 z p4⟩;simp only[];rw[m,h2,if_pos rfl,<-ei0];exact p3
def cH1(x:A9)(w:World){h:Hp}(hw:B8 h (m8 w)):∃v a,(Instr.buildSlice 31 1 #[(0,p6 x)]).run prog w = .ok v a/\B0 h a 9 v [x]/\o6 w a/\(∀b,A0 v b->w.heap.size<=b):=
 lit (P:=prog) (w:=w) (h:=h) (α:=A9) (xs:=[p6 x]) (ys:=[x]) (parts:=#[(0,p6 x)]) (n:=1) az7 rfl (aE0.2 rfl) (by simp[p6,Value.cells]) rfl rfl (by simp) (by simp) hw
def dO3(x y:A9)(w:World){h:Hp}(hw:B8 h (m8 w)):∃v a,(Instr.buildSlice 31 2 #[(0,p6 x),(1,p6 y)]).run prog w = .ok v a/\B0 h a 9 v [x,y]/\o6 w a/\(∀b,A0 v b->w.heap.size<=b):=
 lit (P:=prog) (w:=w) (h:=h) (α:=A9) (xs:=[p6 x,p6 y]) (ys:=[x,y]) (parts:=#[(0,p6 x),(1,p6 y)]) (n:=2) az7 rfl (aE0.2 rfl) (by simp[p6,Value.cells]) rfl rfl (by simp) (by simp) hw
def da9(a:Addr)(b:Bk)(p:Pg)(v:Value)(s:St)(w:World)(D:At (m8 w) a b)(x:cL1 p b)(r:M8 p=true)(hv:SV (m8 w) v s)(z:U1 s<=1000000)(j:s.kind=4->al4 p s=true):
  o9 prog 120 #[.pointer (some a),v] w λu C=>(B0 (m8 w) C 9 u (aj5 p b.outs s)/\o6 w C):=by
 refine p9 [.pointer (some a),v] func120 rfl ?_;obtain⟨c,g,f,d,i⟩:=au2 hv (n7 _);obtain⟨_,H,_,_,_,E,_,_,_,B,_⟩:=i.st;obtain⟨G,y,l,_⟩:=i.st_v;have k:=B g (n7 _);have F:=l g (n7 _);have e:aj5 p b.outs s=if s.kind=1 then[s.name]else if s.kind=2 then[s.name,af1]else if s.kind=9 then[U2]else if s.kind=4 then au3 p b.outs s else[]:=rfl;rcases ef2 (decide (s.kind=1))with k1|k1
 .rw[if_pos (ef3 k1)]at e;obtain⟨u,q,m,n,o,_⟩:=cH1 s.name g (b7 d);simp only[i5,n9,simprocAttr,f,k,k1,m];exact o7 results120 ⟨by rw[e];exact n,d.trans o⟩
 rw[if_neg (ef7 k1)]at e;rcases ef2 (decide (s.kind=2))with k2|k2
 .rw[if_pos (ef3 k2)]at e;obtain⟨u,q,m,n,o,_⟩:=dO3 s.name af1 g (b7 d);have h:(Instr.buildSlice 31 2 #[(0,p6 s.name),(1,.string ⟨#[36,105,110]⟩)]).run prog g = .ok u q:=m;simp only[i5,n9,simprocAttr,f,k,k1,k2,h];exact o7 results120 ⟨by rw[e];exact n,d.trans o⟩
 rw[if_neg (ef7 k2)]at e;rcases ef2 (decide (s.kind=9))with k9|k9
 .rw[if_pos (ef3 k9)]at e;obtain⟨u,q,m,n,o,_⟩:=cH1 U2 g (b7 d);have h:(Instr.buildSlice 31 1 #[(0,.string ⟨#[36,114,101,116]⟩)]).run prog g = .ok u q:=m;simp only[i5,n9,simprocAttr,f,k,k1,k2,k9,h];exact o7 results120 ⟨by rw[e];exact n,d.trans o⟩
 rw[if_neg (ef7 k9)]at e;rcases ef2 (decide (s.kind=4))with k4|k4
 .rw[if_pos (ef3 k4)]at e;simp only[i5,n9,simprocAttr,f,k,k1,k2,k9,k4,F];refine t8 (cs7 a b p G s g (D.mono (b7 d)) x r y z (j (ef3 k4))) ?_;rintro u q ⟨t,A⟩;simp only[i5,simprocAttr];exact o7 results120 ⟨by rw[e];exact t.back d,d.trans A⟩
 rw[if_neg (ef7 k4)]at e;simp only[i5,n9,simprocAttr,f,k,k1,k2,k9,k4];exact o7 results120 ⟨by rw[e];exact B0.nil _ _ _,d⟩
def dn0(a:Addr)(b:Bk)(p:Pg)(v:Value)(s:St)(w:World)(ha:At (m8 w) a b)(X:cL1 p b)(aU:M8 p=true)(hv:SV (m8 w) v s)(aZ:U1 s<=1000000)(ak:s.kind=4->al4 p s=true):
  o9 prog 123 #[.pointer (some a),v] w λu g=>(B0 (m8 w) g 9 u (au0 p b.ins s)/\o6 w g):=by
 refine p9 [.pointer (some a),v] func123 rfl ?_;obtain⟨sh,_,_,_,vi,_,has,_,_,_,ar,_,bB,bb⟩:=ha.book X.s;obtain⟨c,D,aM,A,af⟩:=au2 hv (n7 _);obtain⟨_,va,_,_,_,I,_,_,ah,ay,bE⟩:=af.st;obtain⟨sv,z,bj,az⟩:=af.st_v;obtain⟨ux,aY,a2,_⟩:=ah.ex_v;have a4:=a2 D (n7 _);have av:=aZ;rw[V7]at av;have bv:=ai6 s.x;have bs:=aw7 s.args;have bt:=Q0 s.args;simp only[i5,n9,simprocAttr,aM,a4];refine t8 (ax1 ux s.x D aY (by omega)) ?_;rintro u2 w2 ⟨T,J⟩;have l2:=ay w2 (b7 J);generalize q:ai5 s.x++(if s.kind=2 then[af1]else[])=P1;have bg:P1.length<=Y0 s.x+1:=by
  rw[<-q,ef4];have:(if s.kind=2 then[af1]else[]).length<=1:=by split<;>simp
  omega
 have hF:au0 p b.ins s=P1++if s.kind=4 then s.args.flatMap M6++H6 b.ins (af8 p.procs s.proc)else[]:=by rw[<-q];rfl
 simp only[dn9,n9,simprocAttr,l2];refine cj4 [0,3] (λf' g=>B0 (m8 D) g 9 (f' 5) P1/\o6 D g) ?_ ?_
 .rcases ef2 (decide (s.kind=2))with k2|k2
  .rw[if_pos (ef3 k2)]at q;obtain⟨p1,u3,w3,p2,p3,p4,p5⟩:=pushS (e:=31) T af1 (by omega) (b7 J);have a7:(Instr.buildSlice 31 1 #[(0,.string ⟨#[36,105,110]⟩)]).run prog w2=_:=p1;simp only[i5,simprocAttr,k2,a7,p2];exact⟨by rw[<-q];exact p3,T.ext2 J p4⟩
  .rw[if_neg (ef7 k2)]at q;simp only[i5,simprocAttr,k2];exact⟨by rw[<-q];simpa using T,J⟩
 rintro f w3 L ⟨U,Z⟩;simp only[ei3,B3,simprocAttr]at L;obtain⟨aF,e3,_⟩:=L;generalize h5:f 5=u3 at U;have l3:=ay w3 (b7 Z);rcases ef2 (decide (s.kind=4))with k4|k4;rotate_left
 .rw[if_neg (ef7 k4),ei5]at hF;simp only[i5,n9,simprocAttr,e3,l3,k4,h5];exact o7 results123 ⟨by rw[hF];exact U.back A,A.trans Z⟩
 rw[if_pos (ef3 k4)]at hF;obtain⟨k,S⟩:=Y6 (ak (ef3 k4));have aL:=I.isS;have aV:=I.vlen;simp only[i5,n9,simprocAttr,e3,l3,k4,aL,aV];refine D9 [0,3,22,23] (σ:=Nat×Value) (λs' f g=>f 24 = .int .i64 s'.1/\f 5=s'.2/\s'.1<=s.args.length/\B0 (m8 D) g 9 s'.2 (P1++(s.args.take s'.1).flatMap M6)/\o6 D g) (λs'=>s.args.length-s'.1) (0,u3) ?_ ?_
 .simp only[B3,simprocAttr];exact⟨by trivial,h5,eg3 _,by simpa using U,Z⟩
 rintro⟨j,u⟩ f2 r L ⟨E,F,aS,n,aa⟩;simp only at E F aS n;simp only[ei3,B3,simprocAttr]at L;obtain⟨g0,g3,aI,aJ,_⟩:=L;rw[aF]at g0;rw[e3]at g3;have M:((s.args.take j).flatMap M6).length<=ah4 s.args:=ef9 (Q0 _) (az9 _ _);simp only[i5,n9,simprocAttr,E,aJ];refine A4 (λhc=>?_) (λhc=>?_)
 .have G:j<s.args.length:=by simpa using hc
  have aR:=I.inS G;obtain⟨sv,z,an⟩:=F5 (P:=prog) (t:=124) I (b7 aa) (ef1 G) aS1 aS2 aL1 aa8;rw[aa8]at an;have H:=I9 M6 s.args G;have au:=aW2 (eg2 G);have i:((s.args.take (j+1)).flatMap M6).length<=ah4 s.args:=ef9 (Q0 _) (az9 _ _);rw[H]at i;generalize s.args[j]=y at z H au i;have K:M6 y=(if y.ref then[y.name]else[])++ai5 y.x:=rfl;rw[K]at i;simp only[ef4]at i;generalize(s.args.take j).flatMap M6=pre at n M i H;obtain⟨d,wz,w5,ae,ap,m,ag⟩:=cJ9 (w:=r) (A0 u) z (λb Q=>n.lt Q);obtain⟨uy,aq,O,a1,_⟩:=I6.ar z ag;obtain⟨a3,_⟩:=I6.ex_v aq O;have V:=n.ext m;have N:=aa.trans m;have l5:=a1 w5 (A8 _ _);have bu:(if y.ref=true then[y.name]else[]).length<=1:=by split<;>simp
  simp only[dn9,n9,y4,simprocAttr,E,aI,aR,an,ae,ap,l5];refine cj4 [0,3,7,22,23,24] (λf' g=>B0 (m8 D) g 9 (f' 5) (P1++pre++if y.ref then[y.name]else[])/\o8 (A0 u) w5 g) ?_ ?_
  .rcases ef2 y.ref with h1|h1
   .obtain⟨p1,u6,w6,p2,p3,p4,p5⟩:=pushS (e:=31) V y.name (by simp only[ef4];omega) (b7 N);rw[h1]at l5;simp only[i5,n9,simprocAttr,h1,l5,F,p1,p2];exact⟨p3,p4⟩
   .simp only[i5,simprocAttr,h1,F];exact⟨by simpa using V,o8.refl _⟩
  rintro f6 w6 L ⟨W,ao⟩;simp only[ei3,B3,simprocAttr]at L;obtain⟨j0,j3,j7,bw,bx,ax,_⟩:=L;rw[E]at ax;generalize aK:f6 5=u6 at W;have B:o6 D w6:=o8.ext_of N ao λb Q=>D1 (V.free Q);have a5:=a3 w6 (D8 ao);simp only[i5,n9,simprocAttr,aK,j7,a5];refine t8 (ax1 uy y.x w6 (aq.mono (b7 B)) (by unfold at0 at au;omega)) ?_;rintro u8 w8 ⟨aW,C⟩;obtain⟨u9,w9,c1,c2,c3,c4⟩:=ar3 (P:=prog) (e:=31) az7 (W.ext C) (aW.rw_ (b7 C)) (n7 _) (by simp only[ef4];omega) (by simp only[ef4];omega) (b7 (B.trans C));have aw:o6 D w9:=o8.ext_of (B.trans C) c3 λb Q=>D1 ((W.ext C).free Q);simp only[i5,n9,simprocAttr,c1,ax];refine⟨(j+1,u9),by omega,eg8 _ (H8 j (by omega)),by trivial,by omega,?_,aw⟩;simp only[];rw[H,K];simp only[ei0]at c2 ⊢;exact c2
 have aP:j=s.args.length:=by simp at hc;omega
 subst aP;rw[eg4]at n M;obtain⟨x,Y,aj⟩:=X.ins.row S.lt;rw[S.idx]at hF;have aT:=S.pr;generalize H6 b.ins (k:Int)=bD at x Y aj hF;obtain⟨ui,aX,aO⟩:=R.row ar x;have am:=ar.inS (k:=k) (ef6.1 x).1;have l:=aa.trans (o6.drew r);have o:=A.trans l;have aQ:∀g,o6 r.drew g->B8 (m8 D) (m8 g):=λg h=>b7 (l.trans h);have al:∀g,o6 r.drew g->B8 (m8 w) (m8 g):=λg h=>b7 (o.trans h);have t1:=bb (λg=>o6 r.drew g) r.drew (o8.refl _) al;have t2:=az (λg=>o6 r.drew g) r.drew (o8.refl _) aQ;have t3:=bH2 (P:=prog) (t:=31) aO P8 (λg=>o6 r.drew g) r.drew (o8.refl _) al;simp only[i5,simprocAttr];refine B9 (λg=>o6 r.drew g) 10 (A5 [0,1,2,3,4,5,6,7,8,9]) ?_;simp only[D0,A5,i5,n9,simprocAttr,g0,g3,F,t1,t2];refine B2 (aw9 a b p sv s r.drew (ha.mono (b7 o)) X.s aU (z.mono (b7 l))) (λw5 m=>⟨m,?_⟩);rw[aT];obtain⟨u9,w9,c1,c2,c3,c4⟩:=ar3 (P:=prog) (e:=31) az7 (n.ext ((o6.drew r).trans m)) aX (b7 (o.trans m)) (by simp only[ef4];omega) (by simp only[ef4];omega) (b7 (l.trans m));simp only[D0,i5,n9,y4,simprocAttr,am,t3,c1];refine o7 results123 ?_;simp only[B3,simprocAttr];refine⟨?_,A.trans (o8.ext_of (l.trans m) c3 λb Q=>D1 (n.free Q))⟩;rw[hF,<-ei0];exact c2.back A
instance:p8 Pa:=⟨Pa.cells,λ_ _ _=>en7⟩
def SV.N{α:Type}[A3 α][p8 α]{h:Hp}{v:Value}{x:α}(hv:SV h v x):v = .agg (p8.cells x).toArray:=by
 obtain⟨b,rfl,a⟩:=hv;rw[(p8.iff_ _ _ _).1 a]
def L8{P:Program}{op:BinOp}{t:TypeId}{a b:Array Value}:C4 P op t (.agg a) (.agg b)=none:=by
 cases op<;>rfl
def cd9(v:Value)(l:List Pa)(x:Pa)(w:World)(hv:R (m8 w) v l)(U:l.length<=1000000000):
  o9 prog 210 #[v,.agg x.cells.toArray] w λu e=>(u = .int .i64 (ad6 (λy=>decide (x=y)) 0 l)/\o6 w e):=by
 refine p9 [v,.agg x.cells.toArray] func210 rfl ?_;have N:=hv.isS;have Q:=hv.vlen;obtain⟨c,L,C,p,B⟩:=cD9 (SV.ofN (m8 w) x) (n7 _);obtain⟨W,E,_,H⟩:=B.pa_v;obtain rfl:=E.N;have r:(Instr.box 78 (.agg x.cells.toArray)).run prog w = .ok (.pointer (some c)) L:=C;simp only[i5,n9,simprocAttr,r,N,Q];refine A6 [0,3,6,7] (σ:=Nat) (λk f e=>f 8 = .int .i64 k/\k<=l.length/\(∀j (m:j<l.length),j<k->decide (x=l[j])=false)/\o6 L e) (λk=>l.length-k) 0 ?_ ?_
 .exact⟨rfl,eg3 _,λj _ h=>by omega,o8.refl _⟩
 rintro k f q ⟨e0,I,T,M,_⟩ ⟨A,P,o,z⟩;simp only[i5,n9,simprocAttr,A,M];refine y5 (λn=>?_) ?_;rotate_left
 .rintro rfl;simp only[i5,simprocAttr];refine o7 results210 ?_;simp only[B3,simprocAttr];exact⟨by rw[aE4 _ _ _ (by1 λj m=>o j m m)],p.trans z⟩
 have s:=hv.inS n;have d:=z.trans (o6.drew q);have J:=H (λe=>o6 q.drew e) q.drew (o8.refl _) λe h=>b7 (d.trans h);have g:=hv.at_ (i:=k) (x:=l[k]) (ef1 n);have F:A3.sz Pa=2:=rfl;rw[F]at g;obtain⟨V,D,_,G⟩:=g.pa_v;obtain rfl:=D.N;have K:=G (λe=>o6 q.drew e) q.drew (o8.refl _) λe h=>b7 (p.trans (d.trans h));have t:=λS a b=>dE6 S a b x l[k];rcases ef2 (decide (x=l[k]))with hq|hq
 .simp only[i5,simprocAttr,A];refine B9 (λe=>o6 q.drew e) 5 (A5 [0,1,2,3,4]) ?_;simp only[D0,A5,i5,n9,y4,simprocAttr,e0,I,s,J,K];simp only[i5,simprocAttr,L8,p8.cells,t,hq];refine o7 results210 ?_;simp only[B3,simprocAttr];exact⟨by rw[ay0 _ l 0 k n (λj m=>o j (by omega) m) hq,ej1],p.trans d⟩
 .simp only[i5,simprocAttr,A];refine B9 (λe=>o6 q.drew e) 5 (A5 [0,1,2,3,4]) ?_;simp only[D0,A5,i5,n9,y4,simprocAttr,e0,I,s,J,K];simp only[i5,n9,simprocAttr,L8,p8.cells,t,hq,A];refine T4 (k+1) ⟨λj m O=>?_,d⟩;rcases ej6 j k with h|h
  .exact o j m h
  .obtain rfl:j=k:=by omega
   exact hq
def ci8{α:Type}(P:α->Bool):∀(l:List α) (i:Nat),decide (0<=ad6 P i l)=l.any P
 | [],i=>by simp[ad6]
 | x::l,i=>by
  rw[ad6,List.any_cons];split
  .next h=>simp[h]
  .next h=>rw[ci8 P l (i+1)];simp[h]
theorem cY2{α:Type}[DecidableEq α](x:α):∀l:List α,(l.any λy=>decide (x=y))=l.contains x
 | []=>rfl
 | y::l=>by
  rw[List.any_cons,cY2 x l,List.contains_cons];rfl
def cQ5(v:Value)(l:List Pa)(x:Pa)(w:World)(hv:R (m8 w) v l)(j:l.length<=1000000000):
  o9 prog 170 #[v,.agg x.cells.toArray] w λu k=>(u = .bool (l.contains x)/\o6 w k):=by
 refine p9 [v,.agg x.cells.toArray] func170 rfl ?_;obtain⟨c,i,e,b,d⟩:=cD9 (SV.ofN (m8 w) x) (n7 _);obtain⟨m,f,h,_⟩:=d.pa_v;obtain rfl:=f.N;have a:(Instr.box 78 (.agg x.cells.toArray)).run prog w = .ok (.pointer (some c)) i:=e;simp only[i5,n9,simprocAttr,a,h i (n7 _)];refine B2 (cd9 v l x i (A3.mono (b7 b) hv) j) (λn g=>?_);simp only[i5,n9,simprocAttr];refine o7 results170 ?_;simp only[B3,simprocAttr];exact⟨by rw[ci8,cY2],b.trans g⟩
def as5{α:Type}[A3 α]{h:Hp}{v:Value}{l:List (Ptr α)}(hv:R h v l){k:Nat}{p:Ptr α}(g:l[k]?=some p):∃a,M7 h (G9 v k)=some (.pointer (some a))/\At h a p.to:=by
 obtain⟨_,i,f,e⟩:=hv.get g;obtain⟨a,b,rfl,c,d⟩:=f;have:=e 0 _ rfl;rw[M4,show k*A3.sz (Ptr α)=k from en3 k]at this;exact⟨a,this,b,c,d⟩
def cZ4(n:A9)(b:Bool):B6 prog 78 [(0,p6 n),(1,.bool b)]=some (.agg (Pa.cells ⟨n,b⟩).toArray):=by
 simp[B6,dl0,J9,Instr.fill,Value.cells,p6,Pa.cells]
def bl9{α β:Type}(P:α->Bool)(g:α->List β):∀l:List α,(l.filter P).flatMap g=l.flatMap λx=>if P x then g x else[]
 | []=>rfl
 | x::l=>by
  rw[List.filter_cons,ep2,<-bl9 P g l];cases h:P x<;>simp
def V6{p:Pg}{i:Nat}(a:i<p.procs.length):(J2 p)[i]?=some (D7 (d9 p) i):=by
 unfold J2;rw[ei9,eo0 a];rfl
def dh7(a:Addr)(b:Bk)(p:Pg)(i:Nat)(w:World)(ha:At (m8 w) a b)(aM:cL1 p b)(W:b.ways=J2 p)(M:O7 (d9 p).l.length 100 b.defs)(hr:D3 p)(hw:B7 p<=1000000)(hi:i<p.procs.length):
  o9 prog 121 #[.pointer (some a),.int .i64 i] w λu g=>(B0 (m8 w) g 9 u (ag1 p b.defs i)/\o6 w g):=by
 refine p9 [.pointer (some a),.int .i64 i] func121 rfl ?_;obtain⟨x,pt⟩:=I1 hr.may hw i hi;have au:=O8 pt;generalize x+A7 p.procs[i].body=y at pt au;have bw:=H7 hr.may;have bA:=pt.ok.len;obtain⟨sh,vw,vd,_,_,_,has,aT,aR,_,_,_,aV,aW⟩:=ha.book aM.s;obtain⟨_,_,_,_,_,_,aN,_,_⟩:=has.sh;rw[K5]at aN;obtain⟨vg,vp,bG,aS,bn,bO⟩:=aN.pg;obtain⟨aw,ba,aC⟩:=as5 (hv:=aT) (k:=i) (p:=⟨D7 (d9 p) i⟩) (by unfold Bk.wp;rw[W,ei9,V6 hi];rfl);simp only at aC;have aH:=aT.inS (k:=i) (by unfold Bk.wp;rw[W];unfold J2;simpa using hi);have lb:=aV w (n7 _);have lp:=bn w (n7 _);have C:=aS.inS hi;obtain⟨sv,T,o⟩:=F5 (P:=prog) (t:=75) aS (n7 _) (ef1 hi) at8 at9 ar9 Q9;rw[Q9]at o;have bf:=T9 hr.may hi;have U:∀n,ad1 p i n=(R2 p n||p.procs[i].params.contains ⟨n,true⟩):=λn=>by
  unfold ad1;rw[List.getD,ef1 hi];rfl
 obtain⟨c,wz,G,a7,aP,v,aA⟩:=aV8 T (n7 _);obtain⟨bu,_,_,_,ag,_,_,_,bo,_⟩:=aA.pr;have bm:=aV G (b7 v);generalize p.procs[i].params=ae at U ag bf;simp only[i5,n9,y4,simprocAttr,lb,lp,C,o,a7,aP,bm];refine t8 (aF6 (m8 w) sh (d9 p) i x y G has (b7 v) pt.ok) ?_;rintro ui w3 ⟨V,bi⟩;have N:=pt.ids;have ap:((d9 p).of i).length<=200:=by
  have:=pt.ok.of_;rw[this,el6,eg0];omega
 have hF:ag1 p b.defs i=((d9 p).of i).flatMap λit=>if(D7 (d9 p) i).lives it.s.id then(H6 b.defs (it.s.id-1)).filter (ad1 p i)else[]:=by
  unfold ag1;rw[bl9]
 generalize a5:(λit:It=>if(D7 (d9 p) i).lives it.s.id then(H6 b.defs (it.s.id-1)).filter (ad1 p i)else[])=H at hF;have hH:∀it,H it=if(D7 (d9 p) i).lives it.s.id then(H6 b.defs (it.s.id-1)).filter (ad1 p i)else[]:=λit=>by rw[<-a5]
 have B:∀it∈(d9 p).of i,∃q:Nat,it.s.id-1=(q:Int)/\q<(d9 p).l.length:=λit ao=>by
  have:=N it ao;exact⟨(it.s.id-1).toNat,by omega,by omega⟩
 generalize(d9 p).of i=l at V hF N ap B;have a6:∀it∈l,(H it).length<=100:=λit ao=>by
  rw[hH];split
  .obtain⟨q,e,hq⟩:=B it ao;rw[e];exact ef9 (eh9 _ _) (M.row hq).2.2
  .simp
 have a8:∀k,((l.take k).flatMap H).length<=20000:=λk=>by
  refine ef9 (P4 H 100 _ λx hx=>a6 x (em8 hx)) ?_;rw[eg0];have:min k l.length<=200:=by omega
  omega
 simp only[i5,n9,simprocAttr,V.isS,V.vlen];refine A6 [0,1,6,27,28] (σ:=Nat×Value) (λs f g=>f 29 = .int .i64 s.1/\f 5=s.2/\s.1<=l.length/\B0 (m8 G) g 9 s.2 ((l.take s.1).flatMap H)/\o6 G g) (λs=>l.length-s.1) (0,.slice none 0 0) ?_ ?_
 .exact⟨rfl,rfl,eg3 _,by simpa using B0.nil _ _ _,bi⟩
 rintro⟨k,u⟩ f w4 ⟨e0,e1,e6,a2,a3,_⟩ ⟨K,h5,bc,ho,ad⟩;simp only at K h5 bc ho;have aO:=a8 k;simp only[i5,n9,simprocAttr,K,a3];refine y5 (λZ=>?_) ?_;rotate_left
 .rintro rfl;rw[eg4]at ho;simp only[i5,simprocAttr,h5];exact o7 results121 ⟨by rw[hF];exact ho.back v,v.trans ad⟩
 clear C o aP T;have C:=V.inS Z;obtain⟨sv,T,o⟩:=F5 (P:=prog) (t:=150) V (b7 (v.trans ad)) (ef1 Z) aa7 aa9 Z3 J3;rw[J3]at o;have aa:=I9 H l Z;have af:=eg2 Z;have aG:=N _ af;obtain⟨q,aq,hq⟩:=B _ af;have E:=hH l[k];generalize l[k]=it at T aa aG aq E;generalize(l.take k).flatMap H=pre at ho aO aa;obtain⟨d,bV,I,ay,aQ,bj,az⟩:=ap8 (T.mono (b7 (v.trans ad))) (n7 _);obtain⟨aB,_,_⟩:=az.it;obtain⟨_,_,_,_,_,_,_,_,_,_,aX⟩:=aB.st;have am:=bj.trans (o6.drew I);have ak:=ad.trans am;have ah:=v.trans ak;have aE:∀g,o6 I.drew g->B8 (m8 w) (m8 g):=λg h=>b7 (ah.trans h);have t1:=aX (λg=>o6 I.drew g) I.drew (o8.refl _) λg h=>b7 ((o6.drew I).trans h);have t3:=bH2 (P:=prog) (t:=114) ba as8 (λg=>o6 I.drew g) I.drew (o8.refl _) aE;simp only[i5,n9,y4,simprocAttr,K,a2,C,o,ay,aQ];refine B9 (λg=>o6 I.drew g) 10 (A5 [0,1,2,3,4,5,6,7,8,9]) ?_;simp only[D0,A5,i5,n9,y4,simprocAttr,e0,e1,t1,aW (λg=>o6 I.drew g) I.drew (o8.refl _) aE,t3,aH];refine B2 (aS6 aw (D7 (d9 p) i) p i x y it.s.id I.drew (aC.mono (b7 ah)) au.toWyOk aG au.live) (λY av=>?_);have al:=ak.trans av;have aK:=(ho.ext am).ext av;generalize(D7 (d9 p) i).lives it.s.id=lv at E;rcases ef2 lv with aI|aI<;>subst aI;rotate_left
 .simp only[i5,n9,simprocAttr,K,h5];refine nx4 (k+1,u) ⟨?_,al⟩;simp only[];rw[aa,E,if_neg (by simp),ei5];exact aK
 rw[if_pos rfl,aq]at E;obtain⟨S,_,aD⟩:=M.row hq;generalize H6 b.defs (q:Int)=j at S aD E;obtain⟨ud,ac,a9⟩:=R.row aR S;have X:=al.trans (o6.drew Y);have aF:∀g,o6 Y.drew g->B8 (m8 w) (m8 g):=λg h=>b7 ((v.trans X).trans h);have t4:=aX (λg=>o6 Y.drew g) Y.drew (o8.refl _) λg h=>b7 ((o6.drew I).trans (av.trans ((o6.drew Y).trans h)));have t6:=bH2 (P:=prog) (t:=31) a9 P8 (λg=>o6 Y.drew g) Y.drew (o8.refl _) aF;have bh:IntKind.i64.wrap (it.s.id-1)=(q:Int):=by rw[aq];exact M2 _ (by omega)
 have aL:=aK.ext (o6.drew Y);simp only[i5,n9,simprocAttr];refine B9 (λg=>o6 Y.drew g) 12 (A5 [0,1,2,3,4,5,6,7,8,9,10,11]) ?_;simp only[D0,A5,i5,n9,y4,simprocAttr,e0,t4,aW (λg=>o6 Y.drew g) Y.drew (o8.refl _) aF,t6,bh,aR.inS (ef6.1 S).1,ac.isS,ac.vlen];refine A6 [0,1,6,27,28,29,54,55] (σ:=Nat×Value) (λs f g=>f 56 = .int .i64 s.1/\f 5=s.2/\s.1<=j.length/\B0 (m8 G) g 9 s.2 (pre++(j.take s.1).filter (ad1 p i))/\o6 G g) (λs=>j.length-s.1) (0,u) ?_ ?_
 .exact⟨rfl,h5,eg3 _,by simpa using aL,X⟩
 rintro⟨m,u7⟩ f7 w7 ⟨j0,j1,j6,bJ,bK,aU,bk,bl,_⟩ ⟨D,L,bd,A,z⟩;simp only at D L bd A;rw[e0]at j0;rw[e1]at j1;rw[e6]at j6;rw[K]at aU;have aj:=v.trans z;have bF:((j.take m).filter (ad1 p i)).length<=100:=ef9 (eh9 _ _) (by rw[eg0];omega);simp only[i5,n9,simprocAttr,D,bl];refine y5 (λO=>?_) ?_;rotate_left
 .rintro rfl;rw[eg4]at A;simp only[i5,n9,simprocAttr,aU];refine nx2 (k+1,u7) ⟨L,by omega,?_,z⟩;simp only[];rw[aa,E];exact A
 clear C o;have C:=ac.inS O;have o:=ldS ac (b7 aj) O;have ab:=aq5 (ad1 p i) j O;generalize j[m]=n at o ab;rw[U]at ab;have ar:(R2 p n||ae.contains ⟨n,true⟩)=false->∀J,o6 w7 J->∃F:Nat×Value,j.length-F.1<j.length-m/\(Value.int .i64 (IntKind.i64.wrap ((m:Int)+1)) = .int .i64 F.1/\u7=F.2/\F.1<=j.length/\B0 (m8 G) J 9 F.2 (pre++(j.take F.1).filter (ad1 p i))/\o6 G J):=λhf J r=>by
  refine nx4 (m+1,u7) ⟨?_,z.trans r⟩;simp only[];rw[ab,hf,if_neg (by simp),ei5];exact A.ext r
 have Q:(R2 p n||ae.contains ⟨n,true⟩)=true->∀u8 J,B0 (m8 G) J 9 u8 (pre++(j.take m).filter (ad1 p i)++[n])->o6 G J->∃F:Nat×Value,j.length-F.1<j.length-m/\(Value.int .i64 (IntKind.i64.wrap ((m:Int)+1)) = .int .i64 F.1/\u8=F.2/\F.1<=j.length/\B0 (m8 G) J 9 F.2 (pre++(j.take F.1).filter (ad1 p i))/\o6 G J):=λhf u8 J be r=>by
  refine nx4 (m+1,u8) ⟨?_,r⟩;simp only[];rw[ab,hf,if_pos rfl,<-ei0];exact be
 simp only[i5,n9,y4,simprocAttr,D,j0,bk,C,o];refine E6 (aY5 a b p n w7 (ha.mono (b7 aj)) aM.s hr.may) ?_;rcases ef2 (R2 p n)with h1|h1
 .obtain⟨p1,u8,J,p2,p3,p4,p5⟩:=pushS (e:=31) A n (by rw[ef4];omega) (b7 z);simp only[i5,n9,simprocAttr,h1,D,L,p1,p2];exact Q (by rw[h1];rfl) _ _ p3 (A.ext2 z p4)
 .simp only[i5,n9,simprocAttr,h1,j6,bo w7 (b7 z),cZ4];refine B2 (cQ5 bu ae ⟨n,true⟩ w7 (A3.mono (b7 z) ag) (by omega)) (λJ r=>?_);rcases ef2 (ae.contains ⟨n,true⟩)with h2|h2
  .obtain⟨p1,u9,w9,p2,p3,p4,p5⟩:=pushS (e:=31) (A.ext r) n (by rw[ef4];omega) (b7 (z.trans r));simp only[i5,n9,simprocAttr,h2,D,L,p1,p2];exact Q (by rw[h1,h2];rfl) _ _ p3 ((A.ext r).ext2 (z.trans r) p4)
  .simp only[i5,n9,simprocAttr,h2,D,L];exact ar (by rw[h1,h2];rfl) _ r
structure NJ (M:Nat) (nx:List (List Int)) (hit:Nat->Bool) (todo:List Int) (seen:List Bool) (x:Int->Prop):Prop where
 len:seen.length=M
 td:∀c∈todo,I2 M c=true/\Z5 nx 0 c
 done:∀c:Int,I2 M c=true->(c=0\/B1 seen c=true)->c∈todo\/x c\/(hit c.toNat=false/\∀d∈D4 nx c,B1 seen d=true)
section
variable {M:Nat} {nx:List (List Int)} {hit:Nat->Bool} {todo:List Int} {seen:List Bool} {x:Int->Prop}
def NJ.start(b:I2 M 0=true):NJ M nx hit [0] (List.replicate M false) (λ_=>False):=by
 refine⟨by simp,λc a=>?_,λc _ a=>?_⟩
 .simp at a;subst a;exact⟨b,.refl⟩
 .rcases a with rfl|a
  .exact .inl (by simp)
  .rw[aD4]at a;cases a
def NJ.pop{c:Int}(h:NJ M nx hit (todo++[c]) seen (λ_=>False)):NJ M nx hit todo seen (λd=>d=c)/\I2 M c=true/\Z5 nx 0 c:=by
 refine⟨⟨h.len,λd e=>h.td d (ei1 _ e),λd e f=>?_⟩,h.td c (by simp)⟩;rcases h.done d e f with a|a|a
 .rcases eg1.1 a with b|b
  .exact .inl b
  .exact .inr (.inl (by simpa using b))
 .exact a.elim
 .exact .inr (.inr a)
def NJ.close{c:Int}(h:NJ M nx hit todo seen (λd=>d=c))(e:hit c.toNat=false)(f:∀d∈D4 nx c,B1 seen d=true):NJ M nx hit todo seen (λ_=>False):=by
 refine⟨h.len,h.td,λd b g=>?_⟩;rcases h.done d b g with a|a|a
 .exact .inl a
 .subst a;exact .inr (.inr ⟨e,f⟩)
 .exact .inr (.inr a)
def NJ.push{d:Int}(h:NJ M nx hit todo seen x)(i:I2 M d=true)(hw:Z5 nx 0 d):NJ M nx hit (todo++[d]) (seen.set d.toNat true) x:=by
 have j:I2 seen.length d=true:=by rw[h.len];exact i
 have b:∀e,B1 seen e=true->B1 (seen.set d.toNat true) e=true:=λe g=>by
  rw[O6 j];split
  .rfl
  .exact g
 refine⟨by rw[en4,h.len],λc a=>?_,λc a k=>?_⟩
 .rcases eg1.1 a with a|a
  .exact h.td c a
  .simp at a;subst a;exact⟨i,hw⟩
 .by_cases hcd:c=d
  .subst hcd;exact .inl (by simp)
  .rw[O6 j,if_neg hcd]at k;rcases h.done c a k with f|f|f
   .exact .inl (ei1 _ f)
   .exact .inr (.inl f)
   .exact .inr (.inr ⟨f.1,λe g=>b e (f.2 e g)⟩)
def NJ.fin(h:NJ M nx hit [] seen (λ_=>False))(e:OkR nx)(l:nx.length=M)(j:I2 M 0=true):∀c,Z5 nx 0 c->hit c.toNat=false:=by
 have f:∀c,Z5 nx 0 c->I2 M c=true/\(c=0\/B1 seen c=true):=λc d=>by
  induction d with
  | refl=>exact⟨j,.inl rfl⟩
  | step _ g i=>
   refine⟨by rw[<-l];exact e _ _ g,.inr ?_⟩;rcases h.done _ i.1 i.2 with a|a|a
   .simp at a
   .exact a.elim
   .exact a.2 _ g
 intro c d;obtain⟨a,k⟩:=f c d;rcases h.done c a k with b|b|b
 .simp at b
 .exact b.elim
 .exact b.1
end
def bE1{α:Type}{l:List α}{n:Nat}(h:l.length=n+1):∃(t:List α) (c:α),l=t++[c]/\t.length=n/\l[n]?=some c/\l.take n=t:=by
 have a:n<l.length:=by omega
 refine⟨l.take n,l[n],?_,by rw[eg0];omega,ef1 a,rfl⟩;have:=ef8 a;rw[<-this,ej5 (by omega)]
def cm1{α:Type}[A3 α]{h:Hp}{w:World}{T:TypeId}{v:Value}{xs:List α}(t:B0 h w T v xs){i:Nat}(n:i<=xs.length){sz:Nat}:
  B0 h w T (reS v 0 i sz) (xs.take i)/\∀b,A0 (reS v 0 i sz) b↔A0 v b:=by
 rcases t with⟨rfl,rfl⟩|⟨b,c,d,rfl,p,q,y,r,s,l⟩
 .have:i=0:=by simpa using n
  subst this;exact⟨.inl ⟨rfl,rfl⟩,λb=>en7⟩
 .have e:reS (.slice (some ⟨b,0,none⟩) xs.length c) 0 i sz = .slice (some ⟨b,0,none⟩) i c:=by
   simp only[reS,Nat.zero_mul,el5,Nat.sub_zero,M4,ite_self]
  rw[e];have f:(xs.take i).length=i:=by rw[eg0];omega
  refine⟨.inr ⟨b,c,d,by rw[f],p,q,by omega,r,s,?_⟩,λu=>en7⟩;rw[f];have o:xs=xs.take i++xs.drop i:=(ej2 i xs).symm;rw[o]at l;obtain⟨g,x,j,k,_⟩:=ac3 _ _ l;have a:=O5 k;rw[f]at a;rw[<-o]at j;have:d.toList.take (i*A3.sz α)=g:=by
   have m:(d.toList.take (xs.length*A3.sz α)).take (i*A3.sz α)=g:=by rw[j,<-a,eo6]
   rw[List.take_take,el2 (eo2 _ n)]at m;exact m
  rw[this];exact k
def dg4{p:Pg}{i x y:Nat}{wy:Wy}(k:D3 p)(hw:B7 p<=1000000)(h:i<p.procs.length)(c:am8 p i x y wy):OkR wy.net/\wy.net.length=wy.n.toNat/\∀r∈wy.net,r.length<=1000000:=by
 have g:=bB3 k hw h c;have l:=bd7 k hw h c;have j:wy.net.length=wy.n.toNat:=bf9 _ _;have e:wy.net=ak6 wy.n.toNat (wy.pairs wy.data):=rfl;refine⟨λa b f=>?_,j,λr d=>?_⟩
 .unfold D4 at f;split at f
  .next q=>
   have hm:wy.net.getD a.toNat []∈wy.net:=by
    rw[List.getD,ef1 (by omega)];exact eg2 _
   rw[e]at hm;obtain⟨t,m,rfl⟩:=(bg0 hm).2 b f;have:=(g t m).2;rw[j];exact B4.2 ⟨by omega,by omega⟩
  .simp at f
 .rw[e]at d;have n:=(bg0 d).1;have o:(wy.pairs wy.data).length=wy.data.length:=eg5 _;omega
def cS7(a:Addr)(b:Bk)(p:Pg)(i:Nat)(vn:Value)(name:A9)(w:World)(ha:At (m8 w) a b)(bE:cL1 p b)(av:b.ways=J2 p)(a1:O7 (d9 p).l.length 100 b.defs)(a6:O7 (d9 p).l.length 2000000 b.uses)
  (hr:D3 p) (hw:B7 p<=1000000) (hi:i<p.procs.length) (a7:R (m8 w) vn (D7 (d9 p) i).net) :
  o9 prog 175 #[.pointer (some a),.int .i64 i,vn,p6 name] w λu w'=>(u = .bool (aJ2 (D7 (d9 p) i) (H6 b.outs i) b.uses b.defs name)/\o6 w w'):=by
 refine p9 [.pointer (some a),.int .i64 i,vn,p6 name] func175 rfl ?_;obtain⟨x,pt⟩:=I1 hr.may hw i hi;have ad:=O8 pt;generalize x+A7 p.procs[i].body=y at pt ad;have cU:=H7 hr.may;have cY:=pt.ok.len;have cX:=pt.ok.le;have hn:=ad.n;obtain⟨Z,ap,bC⟩:=dg4 hr hw hi ad;obtain⟨sh,vw,vd,vu,_,vo,has,bR,bO,bQ,_,bP,a9,_⟩:=ha.book bE.s;obtain⟨aw,cn,aA⟩:=as5 (hv:=bR) (k:=i) (p:=⟨D7 (d9 p) i⟩) (by unfold Bk.wp;rw[av,ei9,V6 hi];rfl);simp only at aA;have bv:=bR.inS (k:=i) (by unfold Bk.wp;rw[av];unfold J2;simpa using hi);obtain⟨aq,aF,cA⟩:=bE.outs.row hi;generalize D7 (d9 p) i=o at ad hn Z ap bC a7 aA ⊢;have bB:o.n=((o.n.toNat:Nat):Int):=by omega
 have cd:2<=o.n.toNat:=by omega
 have aX:o.n.toNat<=202:=by omega
 have aG:=ad.toWyOk.place;have Q:=bR2 (outs:=H6 b.outs i) (uses:=b.uses) (defs:=b.defs) (name:=name) Z ap (by omega);have aL:∀c:Nat,cw4 o (H6 b.outs i) b.uses name c=if(c:Int)=o.n-1 then(H6 b.outs i).contains name else !decide (c=0)&&(H6 b.uses (o.place c-1)).contains name:=λc=>rfl;have al:∀c:Nat,be7 o b.uses b.defs name c=(decide ((c:Int)=o.n-1) || !decide (c=0)&&((H6 b.uses (o.place c-1)).contains name||(H6 b.defs (o.place c-1)).contains name)):=λc=>rfl;generalize cw4 o (H6 b.outs i) b.uses name=O at Q aL;generalize be7 o b.uses b.defs name=F at Q al;generalize aJ2 o (H6 b.outs i) b.uses b.defs name=ba at Q ⊢;obtain⟨uo,cJ,cl⟩:=R.row bP aq;have bu:=bP.inS (ef6.1 aq).1;have aR:=aF1 Z F;have aH:=ae6 o.net F;have ar:=aw2 o.net F;rw[ap]at aH;generalize aB7 o.net F=nx at Q aR aH ar;obtain⟨_,_,_,_,_,_,bZ,_⟩:=aA.wy;generalize hM:o.n.toNat=M at Q ap aH bB cd aX;have h0:I2 M 0=true:=B4.2 ⟨by omega,by omega⟩;obtain⟨ib,cq,bq⟩:=aA6 (P:=prog) W5 aG0;have lb:=a9 w (n7 _);have lw:=bZ w (n7 _);have cy:=J1 (P:=prog) (t:=114) cn (n7 _) as8;obtain⟨vs,w1,bz,bG,bU,cW,_⟩:=mk (P:=prog) (w:=w) (h:=m8 w) (α:=Bool) bI1 W5 (y:=false) rfl (n:=M) (by omega) (by omega) (n7 _);rw[<-bB]at bz;obtain⟨vt,w2,ct,cB,bV,bo⟩:=lit (P:=prog) (w:=w1) (h:=m8 w) (α:=Int) (xs:=[.int .i64 0]) (ys:=[0]) (parts:=#[(0,.int .i64 0)]) (n:=1) V4 rfl (G4.2 rfl) (by simp[Value.cells]) rfl rfl (by simp) (by simp) (b7 bU);have aS:IntKind.i64.wrap (o.n-1)=((M-1:Nat):Int):=by rw[M2 _ (by omega)];omega
 simp only[i5,n9,y4,simprocAttr,lb,bv,cy,lw,bz,ct];refine A6 [0,1,2,3,9,10] (σ:=Value×List Int×List Bool) (λs f w'=>f 11=s.1/\B0 (m8 w) w' 3 s.1 s.2.1/\B0 (m8 w) w' 4 vs s.2.2/\(∀b,A0 s.1 b->¬A0 vs b)/\o6 w w'/\NJ M nx O s.2.1 s.2.2 (λ_=>False)/\s.2.1.length+s.2.2.count false<=203) (λs=>s.2.1.length+s.2.2.count false) (vt,[0],List.replicate M false) ?_ ?_
 .simp only[B3,simprocAttr];refine⟨by trivial,cB,bG.ext bV,λb hb aB=>?_,bU.trans bV,NJ.start h0,by simp only[ei6];have:=List.count_le_length (a:=false) (l:=List.replicate M false);rw[ek9]at this;omega⟩;have:=bG.lt aB;have:=bo b hb;omega
 rintro⟨v,L,r⟩ f w3 ⟨e0,e1,e2,e3,e9,ca,_⟩ ⟨ay,ho,aa,bm,E,hJ,ce⟩;simp only at ay ho aa bm hJ ce;have aY:=ho.isS;have aD:=ho.vlen;have cV:=ho.vcap;have cE:=hJ.len;simp only[i5,n9,simprocAttr,ay,aY,aD];refine A4 (λhc=>?_) (λhc=>?_);rotate_left
 .have cF:L=[]:=by
   have:¬(0:Int)<(L.length:Int):=by simpa using hc
   exact List.length_eq_zero_iff.1 (by omega)
  subst cF;have cz:=hJ.fin aR aH h0;have bL:ba=false:=by
   cases hrs:ba with
   | false=>rfl
   | true=>
    obtain⟨c,dd,cg,ch⟩:=Q.1 hrs;have:=cz _ ch;rw[eh6,cg]at this;cases this
  simp only[i5,simprocAttr];refine o7 results175 ?_;simp only[B3,simprocAttr];exact⟨by rw[bL],E⟩
 obtain⟨n,bA⟩:∃n,L.length=n+1:=⟨L.length-1,by have:(0:Int)<(L.length:Int):=by simpa using hc
                                              omega⟩
 obtain⟨td,c,rfl,dl,cG,cH⟩:=bE1 bA;obtain⟨bh,ck,aK⟩:=hJ.pop;obtain⟨dc,de⟩:=B4.1 ck;obtain⟨C,rfl⟩:∃C:Nat,c=(C:Int):=⟨c.toNat,by omega⟩;have cb:C<M:=by omega
 have bS:IntKind.i64.wrap (((n+1:Nat):Int)-1)=(n:Int):=by rw[M2 _ (by omega)];omega
 rw[bA]at aD;have br:=ho.inS (k:=n) (by omega);have bw:(Instr.loadAt 3 (.pointer (some (G9 v n)))).run prog w3 = .ok (.int .i64 (C:Int)) w3:=D6 (P:=prog) ho cG G3;obtain⟨J,bk⟩:=cm1 (sz:=1) ho (i:=n) (by omega);rw[cH]at J;have ag:decide ((n:Int)<=(vcap v:Int))=true:=by simp;omega
 have X:∀b,A0 (reS v 0 n 1) b->¬A0 vs b:=λb hb=>bm b ((bk b).1 hb);have b0:=bZ w3 (b7 E);have cM:=a9 w3 (b7 E);have cw:=J1 (P:=prog) (t:=31) cl (b7 E) P8;generalize bN:reS v 0 n 1=v2 at J X;have ao:td.length+r.count false<(td++[(C:Int)]).length+r.count false:=by rw[ef4];simp
 have aJ:td.length+r.count false<=203:=by omega
 have B:=aL C;have z:=al C;have S:=ar (C:Int);rw[eh6]at S;have aj:F C=true->O C=false->NJ M nx O td r (λ_=>False):=λH h2=>bh.close h2 (by rw[S,if_pos H];simp);have aT:O C=true->ba=true:=λH=>Q.2 ⟨C,cb,H,aK⟩;have bg:decide ((C:Int)=((M-1:Nat):Int))=decide ((C:Int)=o.n-1):=by rw[ek8];omega
 rcases ef2 (decide ((C:Int)=((M-1:Nat):Int)))with hq|hq
 .have ac:(C:Int)=o.n-1:=by rw[bg]at hq;exact ef3 hq
  rw[if_pos ac]at B;rw[ek5 ac]at z;simp only[i5,n9,y4,J0,simprocAttr,ay,aY,aD,bS,br,bw,ag,bN,e9,b0,aS,hq,e0,e1,e3,cM,bu,cw];refine E6 (aj8 uo _ name w3 (A3.mono (b7 E) cJ) (by omega) aF) ?_;rw[<-B];rcases ef2 (O C)with H|H
  .simp only[i5,simprocAttr,H];refine o7 results175 ?_;simp only[B3,simprocAttr];exact⟨by rw[aT H],E⟩
  .simp only[i5,simprocAttr,H];exact⟨(v2,td,r),ao,by trivial,J,aa,X,E,aj z H,aJ⟩
 have ac:¬(C:Int)=o.n-1:=by rw[bg]at hq;exact ef7 hq
 rw[if_neg ac]at B;rw[el3 ac,er3]at z;simp only[dn9,n9,y4,J0,simprocAttr,ay,aY,aD,bS,br,bw,ag,bN,e9,b0,aS];rw[cW6];simp only[dn9,n9,simprocAttr,hq];refine cj4 [0,1,2,3,9,10,11,12] (λf' w'=>O C=false/\F C=false/\o6 w3 w') ?_ ?_
 .rcases Nat.eq_zero_or_pos C with aW|aW
  .subst aW;simp only[i5,n9,simprocAttr];exact⟨by rw[B];simp,by rw[z];simp,o8.refl _⟩
  .have co:decide ((0:Int)<(C:Int))=true:=by simpa using aW
   have bf:(!decide (C=0))=true:=by simp;omega
   obtain⟨q,bJ,bI⟩:∃q:Nat,o.place (C:Int)-1=(q:Int)/\q<(d9 p).l.length:=by
    refine⟨x+C-1,?_,by omega⟩;rw[aG,if_neg (by omega),if_neg ac];omega
   have bT:IntKind.i64.wrap (o.place (C:Int)-1)=(q:Int):=by rw[bJ];exact M2 _ (by omega)
   rw[bJ,bf,em1]at B z;obtain⟨V,ab,a5⟩:=a6.row bI;obtain⟨N,Y,a2⟩:=a1.row bI;generalize H6 b.uses (q:Int)=ur at V ab a5 B z;generalize H6 b.defs (q:Int)=dr at N Y a2 z;obtain⟨uu,cK,cm⟩:=R.row bQ V;obtain⟨ud,cI,cj⟩:=R.row bO N;have bt:=bO.inS (ef6.1 N).1;simp only[i5,simprocAttr,co,e9];refine B2 (ad3 aw o p i x y (C:Int) w3 (aA.mono (b7 E)) ad.toWyOk (by omega)) (λw4 K=>?_);have g:=E.trans K;have bY:=a9 w4 (b7 g);have cx:=J1 (P:=prog) (t:=31) cm (b7 g) P8;have cu:=J1 (P:=prog) (t:=31) cj (b7 g) P8;simp only[i5,n9,y4,simprocAttr,e0,e3,bY,bT,bQ.inS (ef6.1 V).1,cx];refine E6 (aj8 uu ur name w4 (A3.mono (b7 g) cK) (by omega) ab) ?_;rcases ef2 (ur.contains name)with H|H
   .simp only[i5,simprocAttr,H];refine o7 results175 ?_;simp only[B3,simprocAttr];exact⟨by rw[aT (by rw[B];exact H)],g⟩
   rw[H]at B;rw[H,er3]at z;simp only[i5,n9,y4,simprocAttr,H,e0,e3,bY,bT,bt,cu];refine E6 (aj8 ud dr name w4 (A3.mono (b7 g) cI) (by omega) Y) ?_;rcases ef2 (dr.contains name)with h2|h2
   .rw[h2]at z;simp only[i5,simprocAttr,h2];exact⟨(v2,td,r),ao,by trivial,J.ext K,aa.ext K,X,g,aj z B,aJ⟩
   .rw[h2]at z;simp only[i5,simprocAttr,h2];exact⟨B,z,K⟩
 rintro f4 w4 hk ⟨cp,cs,K⟩;simp only[ei3,B3,simprocAttr]at hk;obtain⟨r0,r1,r2,r3,r9,b1,cN,cO,_⟩:=hk;rw[e0]at r0;rw[e1]at r1;rw[e2]at r2;rw[e3]at r3;rw[e9]at r9;rw[ca]at b1;rw[cs,if_neg (by simp)]at S;have bK:D4 o.net (C:Int)=o.net.getD C []:=by
  unfold D4;rw[if_pos ⟨by omega,by omega⟩,eh6]
 rw[bK]at S;have a3:o.net[C]?=some (o.net.getD C []):=by rw[List.getD,ef1 (by omega)];rfl
 have cD:=bC _ (eh3 a3);have bs:=a7.inS (ef6.1 a3).1;obtain⟨uR,au,ci⟩:=R.row a7 a3;have bM:∀d∈o.net.getD C [],I2 M d=true:=λd hd=>by
  have:=Z (C:Int) d (by rw[bK];exact hd);rw[ap]at this;exact this
 generalize o.net.getD C []=I at S cD au bM;have g:=E.trans K;have cv:=J1 (P:=prog) (t:=24) ci (b7 g) ah2;simp only[i5,n9,y4,simprocAttr,r2,cO,bs,cv,au.isS,au.vlen];refine A6 [0,1,2,3,9,10,87,88] (σ:=(Nat×Value)×(List Int×List Bool)) (λs f w'=>f 89 = .int .i64 s.1.1/\f 11=s.1.2/\s.1.1<=I.length/\B0 (m8 w) w' 3 s.1.2 s.2.1/\B0 (m8 w) w' 4 vs s.2.2/\(∀b,A0 s.1.2 b->¬A0 vs b)/\o6 w w'/\NJ M nx O s.2.1 s.2.2 (λd=>d=(C:Int))/\(∀j (hj:j<I.length),j<s.1.1->B1 s.2.2 I[j]=true)/\s.2.1.length+s.2.2.count false=td.length+r.count false) (λs=>I.length-s.1.1) ((0,v2),(td,r)) ?_ ?_
 .simp only[B3,simprocAttr];exact⟨by trivial,cN,eg3 _,J.ext K,aa.ext K,X,g,bh,λj hj h=>by omega,by trivial⟩
 rintro⟨⟨j,v6⟩,bb,m⟩ f6 w6 ⟨j0,j1,j2,j3,j9,a8,bX,cL,_⟩ ⟨az,W,cr,aE,A,G,aI,af,T,ah⟩;simp only at az W cr aE A G af T ah;rw[r0]at j0;rw[r1]at j1;rw[r2]at j2;rw[r3]at j3;rw[r9]at j9;rw[b1]at a8;simp only[i5,n9,simprocAttr,az,cL];refine y5 (λaC=>?_) ?_;rotate_left
 .rintro rfl;have cc:=af.close (by rw[eh6];exact cp) (λd hd=>by
   rw[S]at hd;obtain⟨k,hk,rfl⟩:=em3.1 hd;exact T k hk hk)
  simp only[i5,simprocAttr];exact⟨(v6,bb,m),by simp only[];omega,W,aE,A,G,aI,cc,by simp only[];omega⟩
 have aN:=au.inS aC;have an:=aC3 au (b7 aI) aC;have ak:=bM _ (eg2 aC);have bn:I[j]∈D4 nx (C:Int):=by rw[S];exact eg2 aC
 have U:∀sn:List Bool,(∀e,B1 m e=true->B1 sn e=true)->B1 sn I[j]=true->∀k (hk:k<I.length),k<j+1->B1 sn I[k]=true:=λsn hm hd k hk dj=>by
  rcases ej6 k j with h|h
  .exact hm _ (T k hk h)
  .obtain rfl:k=j:=by omega
   exact hd
 generalize I[j]=d at an ak bn U;obtain⟨df,dg⟩:=B4.1 ak;obtain⟨D,rfl⟩:∃D:Nat,d=(D:Int):=⟨d.toNat,by omega⟩;have aQ:=af.len;have ae:D<m.length:=by omega
 have aM:=A.inS ae;have am:(Instr.loadAt 4 (.pointer (some (G9 vs D)))).run prog w6 = .ok (.bool m[D]) w6:=D6 (P:=prog) A (ef1 ae) ah3;have bj:B1 m (D:Int)=m[D]:=by
  rw[(O0 (by rw[aQ];exact ak)).2,eh6,List.getD,ef1 ae];rfl
 have a0:=ac1 (l:=m) ae;generalize m[D]=sb at am bj a0;rcases ef2 sb with H|H<;>subst H
 .simp only[i5,n9,y4,simprocAttr,az,a8,bX,aN,an,aM,am];exact nx2 ((j+1,v6),(bb,m)) ⟨W,by simp only[];omega,aE,A,G,aI,af,U m (λ_ h=>h) bj,ah⟩
 .have a0:=a0 rfl;obtain⟨w7,s1,aP,bx,_⟩:=F1 (P:=prog) (t:=4) A rfl ae (x:=.bool true) (y:=true) rfl rfl cq bq;have bD:=aE.mod bx G;have bW:=A.ext2 aI bx;obtain⟨p1,u8,w8,p2,p3,p4,p5⟩:=push (P:=prog) (t:=24) (e:=24) V4 rfl bD (x:=.int .i64 (D:Int)) (y:=(D:Int)) rfl (by omega) (by omega) (b7 bW);simp only[Value.cells]at p1 p2;have bH:=aP.mod p4 λb hb h=>G b h hb;have bi:=af.push ak (Z5.step aK bn);rw[eh6]at bi;have bF:I2 m.length (D:Int)=true:=by rw[aQ];exact ak
  have bl:∀e,B1 (m.set D true) e=if e=(D:Int)then true else B1 m e:=λe=>by
   have:=O6 (l:=m) (a:=(D:Int)) (b:=e) (v:=true) bF;rw[eh6]at this;exact this
  simp only[i5,n9,y4,simprocAttr,az,W,a8,bX,aN,an,aM,am,s1,p1,p2];refine nx4 ((j+1,u8),(bb++[(D:Int)],m.set D true)) ⟨p3,bH,λb hb aB=>?_,bD.ext2 bW p4,bi,U _ (λe he=>?_) ?_,?_⟩
  .rcases p5 b hb with h|h
   .exact G b h aB
   .have:=aP.lt aB;omega
  .rw[bl];split
   .rfl
   .exact he
  .rw[bl,if_pos rfl]
  .simp only[ef4,ei6];omega
def dt6(a:Addr)(b:Bk)(p:Pg)(i:Nat)(w:World)(ha:At (m8 w) a b)(I:cL1 p b)(c:b.ways=J2 p)(q:O7 (d9 p).l.length 100 b.defs)(z:O7 (d9 p).l.length 2000000 b.uses)
  (S:D3 p) (hw:B7 p<=1000000) (E:i<p.procs.length) :
  o9 prog 124 #[.pointer (some a),.int .i64 i] w λu Q=>(B0 (m8 w) Q 9 u (aL8 p b.outs b.uses b.defs i)/\o6 w Q):=by
 refine p9 [.pointer (some a),.int .i64 i] func124 rfl ?_;obtain⟨x,pt⟩:=I1 S.may hw i E;have L:=O8 pt;generalize x+A7 p.procs[i].body=y at pt L;obtain⟨sh,vw,_,_,_,_,has,K,_,_,_,_,O,_⟩:=ha.book I.s;obtain⟨_,_,_,_,_,_,J,_,_⟩:=has.sh;rw[K5]at J;obtain⟨vg,vp,ac,ap,ad,_⟩:=J.pg;obtain⟨aw,X,C⟩:=as5 (hv:=K) (k:=i) (p:=⟨D7 (d9 p) i⟩) (by unfold Bk.wp;rw[c,ei9,V6 E];rfl);simp only at C;have F:=K.inS (k:=i) (by unfold Bk.wp;rw[c];unfold J2;simpa using E);have ao:=(T0 S.may).1;have aa:=J1 (P:=prog) (t:=114) X (n7 _) as8;simp only[i5,n9,y4,simprocAttr,O w (n7 _),F,aa];refine t8 (dp0 aw (D7 (d9 p) i) p i x y w C S hw E L) ?_;rintro un T ⟨ab,m⟩;simp only[i5,n9,simprocAttr,O T (b7 m),ad T (b7 m)];refine t8 (ax4 vg p.globals T (A3.mono (b7 m) ac) (by omega)) ?_;rintro uc w3 ⟨H,N⟩;obtain⟨p1,ul,w4,p2,p3,p4,p5⟩:=pushS (e:=31) H af1 (by omega) (b7 N);have ae:(Instr.buildSlice 31 1 #[(0,.string ⟨#[36,105,110]⟩)]).run prog w3=_:=p1;have d:o6 T w4:=H.ext2 N p4;have l:=p3.rw_ (b7 d);have W:aL8 p b.outs b.uses b.defs i=(p.globals++[af1]).filter (aJ2 (D7 (d9 p) i) (H6 b.outs i) b.uses b.defs):=rfl;have D:(p.globals++[af1]).length<=17:=by rw[ef4,ei6];omega
 generalize p.globals++[af1]=A at l W D;generalize hP:aJ2 (D7 (d9 p) i) (H6 b.outs i) b.uses b.defs=P at W;simp only[i5,n9,simprocAttr,ae,p2,l.isS,l.vlen];refine A6 [0,1,6,27,28] (σ:=Nat×Value) (λs f Q=>f 29 = .int .i64 s.1/\f 5=s.2/\s.1<=A.length/\B0 (m8 w4) Q 9 s.2 ((A.take s.1).filter P)/\o6 w4 Q) (λs=>A.length-s.1) (0,.slice none 0 0) ?_ ?_
 .exact⟨rfl,rfl,eg3 _,by simpa using B0.nil _ _ _,o8.refl _⟩
 rintro⟨k,u⟩ f w5 ⟨e0,e1,e6,U,V,_⟩ ⟨j,R,Z,B,g⟩;simp only at j R Z B;have o:=m.trans (d.trans g);have M:=d.trans g;simp only[i5,n9,simprocAttr,j,V];refine y5 (λr=>?_) ?_;rotate_left
 .rintro rfl;rw[eg4]at B;simp only[i5,simprocAttr,R];exact o7 results124 ⟨by rw[W];exact B.back (m.trans d),o⟩
 have Y:=l.inS r;have G:=ldS l (b7 g) r;have v:=aq5 P A r;have an:((A.take k).filter P).length<=17:=ef9 (eh9 _ _) (by rw[eg0];omega);generalize A[k]=n at G v;simp only[i5,n9,y4,simprocAttr,j,e0,e1,e6,U,Y,G];refine B2 (cS7 a b p i un n w5 (ha.mono (b7 o)) I c q z S hw E (A3.mono (b7 M) ab)) (λw6 h=>?_);rw[hP];rcases ef2 (P n)with h1|h1
 .obtain⟨q1,u7,w7,q2,q3,q4,q5⟩:=pushS (e:=31) (B.ext h) n (by omega) (b7 (g.trans h));simp only[i5,n9,simprocAttr,h1,j,R,q1,q2];refine nx4 (k+1,u7) ⟨?_,(B.ext h).ext2 (g.trans h) q4⟩;simp only[];rw[v,h1,if_pos rfl];exact q3
 .simp only[i5,n9,simprocAttr,h1,j,R];refine nx4 (k+1,u) ⟨?_,g.trans h⟩;simp only[];rw[v,h1,if_neg (by simp),ei5];exact B.ext h
def nB(a:Nat)(c d:Value)(Z:Nat->Prop)(b:Nat):Prop:=b=a\/A0 c b\/A0 d b\/Z b
structure BM {α β:Type} [A3 α] [A3 β] (H:Hp) (w0 wz w:World) (Z:Nat->Prop) (gb:Nat) (TB TX TY:TypeId) (cells:Value->Array Value) (vx vy:Value) (xs:List α) (ys:List β):Prop where
 ext:o6 w0 w
 ge:w0.heap.size<=gb
 cb:w.heap[gb]?=some (.cells (cells vx) TB (0,0))
 ox:B0 (C1 w (nB gb vx vy Z)) w TX vx xs
 oy:B0 (C1 w (nB gb vx vy Z)) w TY vy ys
 dx:∀b,A0 vx b->w0.heap.size<=b/\b≠gb/\¬A0 vy b/\¬Z b
 dy:∀b,A0 vy b->w0.heap.size<=b/\b≠gb/\¬Z b
 dz:∀b,Z b->b≠gb/\b<wz.heap.size
 zk:∀b,Z b->w.heap[b]?=wz.heap[b]?
 sz:wz.heap.size<=w.heap.size
 base:B8 H (C1 w (nB gb vx vy Z))
section
variable {α β:Type} [A3 α] [A3 β] {H:Hp} {w0 wz w:World} {Z:Nat->Prop} {gb:Nat} {TB TX TY:TypeId} {cells:Value->Array Value} {vx vy:Value} {xs:List α} {ys:List β} {P:Program}
def BM.lt(s:BM H w0 wz w Z gb TB TX TY cells vx vy xs ys){b:Nat}(h:nB gb vx vy Z b):b<w.heap.size:=by
 rcases h with rfl|h|h|h
 .exact(ef5.1 s.cb).1
 .exact s.ox.lt h
 .exact s.oy.lt h
 .have:=(s.dz b h).2;have:=s.sz;omega
def BM.more(s:BM H w0 wz w Z gb TB TX TY cells vx vy xs ys){c:World}(a:o6 w c):BM H w0 wz c Z gb TB TX TY cells vx vy xs ys:=by
 have d:B8 (C1 w (nB gb vx vy Z)) (C1 c (nB gb vx vy Z)):=K0 a (λ_ h=>h.elim) λb h=>.inl h;have hN:∀(v:Value),(∀b,A0 v b->nB gb vx vy Z b)->∀b,A0 v b->C1 c (nB gb vx vy Z) b=none:=λv f b e=>F9 (f b e);exact⟨s.ext.trans a,s.ge,(a.block gb (ef5.1 s.cb).1 id).trans s.cb,(s.ox.ext a).up d (hN vx λb h=>.inr (.inl h)),(s.oy.ext a).up d (hN vy λb h=>.inr (.inr (.inl h))),s.dx,s.dy,s.dz,
  λb h=>(a.block b (s.lt (.inr (.inr (.inr h)))) id).trans (s.zk b h),ef9 s.sz a.size,p7 s.base d⟩
def BM.fresh(s:BM H w0 wz w Z gb TB TX TY cells vx vy xs ys){d:Type}[M5 d]{c:World}{T:TypeId}{u:Value}{l:List d}(a:B0 (m8 w) c T u l):R (C1 c (nB gb vx vy Z)) u l:=
 (a.down (h:=λ_=>none) (λ_ _ h=>by cases h)).ro (λ_ _ h=>by cases h) λb e=>E4 λh=>by
  have f:=s.lt h;have g:=D1 (a.free e);omega
def BM.reset(s:BM H w0 wz w Z gb TB TX TY cells vx vy xs ys){ix:Nat}(i:ix<(cells vx).size)(e:∀v l,(cells v).setIfInBounds ix l=cells l){t:TypeId}{f:TypeInfo}(d:P.info? t=some f)(n:f.size=1):
  ∃g,(Instr.storeAt t (.pointer (some ⟨gb,ix,none⟩)) (.slice none 0 0)).run P w = .ok () g/\BM H w0 wz g Z gb TB TX TY cells (.slice none 0 0) vy ([]:List α) ys:=by
 obtain⟨g,m,j,c⟩:=af3 (P:=P) (t:=t) (x:=.slice none 0 0) s.cb i rfl rfl d n;rw[e]at j;have k:B8 (C1 w (nB gb vx vy Z)) (C1 g (nB gb (.slice none 0 0) vy Z)):=K0 c (λb h=>.inl h) λb h=>by
  rcases h with h|h|h
  .exact .inl (.inl h)
  .exact absurd h D5
  .exact .inl (.inr (.inr h))
 refine⟨g,m,o8.ext_of s.ext c λb a=>by subst a;exact s.ge,s.ge,j,B0.nil _ _ _,?_,λb a=>absurd a D5,s.dy,s.dz,λb h=>(c.block b (s.lt (.inr (.inr (.inr h)))) (s.dz b h).1).trans (s.zk b h),ef9 s.sz c.size,p7 s.base k⟩;exact(s.oy.mod c λb a=>(s.dy b a).2.1).up k λb a=>F9 (.inr (.inr (.inl a)))
def BM.push(s:BM H w0 wz w Z gb TB TX TY cells vx vy xs ys){t e:TypeId}{sz by_:Nat}(u:G0 P t TX sz by_=true)(z:A3.sz α=sz){x:Value}{y:α}(G:A3.enc (C1 w (nB gb vx vy Z)) x.cells.toList y)
  (E:xs.length+1<=1000000000000) (hb:(xs.length+1)*by_<=140737488355328) {ix:Nat} (r:ix<(cells vx).size) (n:∀v a,(cells v).setIfInBounds ix a=cells a) {p:TypeInfo} (m:P.info? t=some p) (F:p.size=1) :
  (Instr.buildSlice t 1 #[(0,x)]).run P w = .ok (.slice (some ⟨w.heap.size,0,none⟩) 1 1) (w.alloc (.cells x.cells TX)) /\
  ∃a f c,(Builtin.append_ #[t,t] e #[vx,.slice (some ⟨w.heap.size,0,none⟩) 1 1]).run P (w.alloc (.cells x.cells TX)) = .ok a f/\(Instr.storeAt t (.pointer (some ⟨gb,ix,none⟩)) a).run P f = .ok () c /\
   BM H w0 wz c Z gb TB TX TY cells a vy (xs++[y]) ys/\o8 (A0 vx) w f:=by
 obtain⟨I,a,f,J,B,i,C⟩:=Go.Proofs.YtggahhenbbgffaaGreat.push (P:=P) (e:=e) u z s.ox G E hb (A8 _ _);have q:f.heap[gb]?=some (.cells (cells vx) TB (0,0)):=(i.block gb (ef5.1 s.cb).1 λh=>(s.dx gb h).2.1 rfl).trans s.cb;obtain⟨c,D,g,l⟩:=af3 (P:=P) (t:=t) (x:=a) q r (F0 B.isS) (X1 B.isS) m F;rw[n]at g;have A:o6 w0 f:=o8.ext_of s.ext i λb hb=>(s.dx b hb).1;have j:B8 (C1 w (nB gb vx vy Z)) (C1 f (nB gb a vy Z)):=K0 i (λb h=>.inr (.inl h)) λb h=>by
  rcases h with h|h|h
  .exact .inl (.inl h)
  .rcases C b h with h|h
   .exact .inl (.inr (.inl h))
   .exact .inr h
  .exact .inl (.inr (.inr h))
 have k:B8 (C1 f (nB gb a vy Z)) (C1 c (nB gb a vy Z)):=K0 l (λb h=>.inl h) λb h=>.inl h;have d:=λb (h:nB gb vx vy Z b)=>s.lt h;have o:∀b,A0 a b->w0.heap.size<=b/\b≠gb/\¬A0 vy b/\¬Z b:=λb hb=>by
  rcases C b hb with h|h
  .exact s.dx b h
  .refine⟨ef9 s.ext.size h,λe=>?_,λg=>?_,λg=>?_⟩
   .have:=d b (.inl e);omega
   .have:=d b (.inr (.inr (.inl g)));omega
   .have:=d b (.inr (.inr (.inr g)));omega
 refine⟨I,a,f,c,J,D,⟨o8.ext_of A l λb hb=>by subst hb;exact s.ge,s.ge,g,?_,?_,o,s.dy,s.dz,λb h=>?_,ef9 s.sz (ef9 i.size l.size),p7 s.base (p7 j k)⟩,i⟩
 .exact(B.mod l λb hb=>(o b hb).2.1).up (p7 j k) λb hb=>F9 (.inr (.inl hb))
 .exact((s.oy.mod i λb hb h=>(s.dx b h).2.2.1 hb).mod l λb hb=>(s.dy b hb).2.1).up (p7 j k) λb hb=>F9 (.inr (.inr (.inl hb)))
 .have hb:=d b (.inr (.inr (.inr h)));exact(l.block b (el8 hb i.size) (s.dz b h).1).trans ((i.block b hb λg=>(s.dx b g).2.2.2 h).trans (s.zk b h))
def BM.set(s:BM H w0 wz w Z gb TB TX TY cells vx vy xs ys)(o:A3.sz β=1){k:Nat}(j:k<ys.length){u:Value}{y:β}(n:A3.enc (C1 w (nB gb vx vy Z)) [u] y)(m:u.cells=#[u]){t:TypeId}{e:TypeInfo}(d:P.info? t=some e)(l:e.size=1):
  ∃f,(Instr.storeAt t (.pointer (some (G9 vy k))) u).run P w = .ok () f/\BM H w0 wz f Z gb TB TX TY cells vx vy xs (ys.set k y):=by
 obtain⟨f,p,q,c,_⟩:=F1 (P:=P) (t:=t) s.oy o j (x:=u) n m d l;have g:B8 (C1 w (nB gb vx vy Z)) (C1 f (nB gb vx vy Z)):=K0 c (λb h=>.inr (.inr (.inl h))) λb h=>.inl h;refine⟨f,p,o8.ext_of s.ext c λb a=>(s.dy b a).1,s.ge,(c.block gb (ef5.1 s.cb).1 λh=>(s.dy gb h).2.1 rfl).trans s.cb,?_,?_,s.dx,s.dy,s.dz,λb h=>(c.block b (s.lt (.inr (.inr (.inr h)))) λi=>(s.dy b i).2.2 h).trans (s.zk b h),ef9 s.sz c.size,p7 s.base g⟩
 .exact(s.ox.mod c λb a h=>(s.dx b a).2.2.1 h).up g λb a=>F9 (.inr (.inl a))
 .exact q.up g λb a=>F9 (.inr (.inr (.inl a)))
def BM.rx(s:BM H w0 wz w Z gb TB TX TY cells vx vy xs ys):R (m8 w) vx xs:=s.ox.rw_ (A8 _ _)
def BM.ry(s:BM H w0 wz w Z gb TB TX TY cells vx vy xs ys):R (m8 w) vy ys:=s.oy.rw_ (A8 _ _)
def BM.hb(s:BM H w0 wz w Z gb TB TX TY cells vx vy xs ys):B8 H (m8 w):=p7 s.base (A8 _ _)
end
def bO8{α:Type}[A3 α]{h k:Hp}:∀{n:Nat} {b:List Value},Q8 h b (List.replicate n ([]:List α))->Q8 k b (List.replicate n ([]:List α))
 | 0,_,e=>e
 | n+1,b,⟨c1,c2,e,h1,h2⟩=>⟨c1,c2,e,by
   obtain⟨a,m,c,i,l,o,f,d,p⟩:=h1;refine⟨a,m,c,i,l,o,f,d,λj v g=>?_⟩;have:f=[]:=d;rw[this]at g;simp at g,bO8 h2⟩
def B0.renil{α:Type}[A3 α]{h k:Hp}{w e:World}{T:TypeId}{v:Value}{n:Nat}(m:B0 h w T v (List.replicate n ([]:List α)))(l:∀b,A0 v b->k b=none)(hw:∀b,A0 v b->e.heap[b]?=w.heap[b]?):B0 k e T v (List.replicate n ([]:List α)):=by
 rcases m with⟨rfl,d⟩|⟨b,c,a,rfl,o,d,f,g,i,j⟩
 .exact .inl ⟨rfl,d⟩
 .exact .inr ⟨b,c,a,rfl,l b rfl,(hw b rfl).trans d,f,g,i,bO8 j⟩
def aR7{n B:Nat}{X:Rws}(h:O7 n B X)(i:Int):(H6 X i).length<=B:=by
 unfold H6;rw[List.getD];cases hx:X[i.toNat]? with
 | none=>simp
 | some r=>exact h.few r (eh3 hx)
def aT0{p:Pg}(hm:M8 p=true){n:Nat}{X:Rws}(h:O7 n 25 X){s:St}(d:s.kind=4->al4 p s=true):(aj5 p X s).length<=100:=by
 unfold aj5;split
 .simp
 split
 .simp
 split
 .simp
 split
 .rename_i b;obtain⟨k,a⟩:=Y6 (d b);have e:=T9 hm a.lt;have f:=a.len;unfold au3;rw[a.fn];have g:=aR7 h (af8 p.procs s.proc);have c:=eh9 (λx:Ar×Pa=>x.1.ref&&(H6 X (af8 p.procs s.proc)).contains x.2.name) (s.args.zip (p.procs[k]'a.lt).params);rw[List.length_zip]at c;have i:=eh9 (R2 p) (H6 X (af8 p.procs s.proc));have j:(if s.name=e0 then([]:List A9)else[s.name]).length<=1:=by split<;>simp
  simp only[ef4,eg5];omega
 .simp
def bp4{p:Pg}{n:Nat}{X:Rws}(h:O7 n 25 X){s:St}(hw:U1 s<=1000000):(au0 p X s).length<=2000000:=by
 rw[V7]at hw;have a:=ai6 s.x;have b:=Q0 s.args;have c:=aR7 h (af8 p.procs s.proc);unfold au0;simp only[ef4];have d:(if s.kind=2 then[af1]else[]).length<=1:=by split<;>simp
 have e:(if s.kind=4 then s.args.flatMap M6++H6 X (af8 p.procs s.proc)else[]).length<=ah4 s.args+25:=by
  split
  .rw[ef4];omega
  .simp
 omega
def bi2{l:List It}{f:It->List A9}{B:Nat}(c:∀it∈l,(f it).length<=B):O7 l.length B (l.map λit=>E3 (f it)):=by
 refine⟨by simp,λr b=>?_,λr b=>?_⟩
 .obtain⟨it,_,rfl⟩:=eh4.1 b;exact V5 _
 .obtain⟨it,a,rfl⟩:=eh4.1 b;exact ef9 (aB6 _) (c it a)
def ba3(new old:Rws)(i:Nat):Rws:=new.take i++old.drop i
section
variable {new old:Rws} {n i:Nat}
def bY6(a:new.length=n)(b:old.length=n):(ba3 new old i).length=n:=by
 unfold ba3;rw[ef4,eg0,el6];omega
def ck9:ba3 new old 0=old:=by simp[ba3]
def cH3(a:new.length=n)(b:old.length=n):ba3 new old n=new:=by
 unfold ba3;rw[ej5 (by omega),List.drop_eq_nil_of_le (by omega),ei5]
def cH4(a:new.length=n)(b:i<n):(ba3 new old i)[i]?=old[i]?:=by
 unfold ba3;rw[ek7 (by rw[eg0];omega),eg0,eo3]
 congr 1;omega
def cH5(c:new.length=n)(d:old.length=n)(e:i<n){x:List A9}(b:new[i]?=some x):(ba3 new old i).set i x=ba3 new old (i+1):=by
 unfold ba3;have a:(new.take i).length=i:=by rw[eg0];omega
 rw[List.set_append_right _ _ (by omega),a,Nat.sub_self,ej8 (by omega),List.set_cons_zero,es3,b];simp
def dg1{B:Nat}(c:O7 n B new)(d:O7 n B old):O7 n B (ba3 new old i):=by
 have b:∀r∈ba3 new old i,r∈new\/r∈old:=λr a=>by
  rcases eg1.1 a with h|h
  .exact .inl (em8 h)
  .exact .inr (er4 h)
 exact⟨bY6 c.len d.len,λr a=>(b r a).elim (c.rise r) (d.rise r),λr a=>(b r a).elim (c.few r) (d.few r)⟩
end
def cI9:G0 prog 135 31 1 24=true:=by kernel_rfl
def dS0:G0 prog 134 114 1 8=true:=by kernel_rfl
def cY6(s vi a:Value)(d:s.cells=#[s])(b:vi.cells=#[vi])(c:a.cells=#[a]):B6 prog 137 [(0,s),(4,vi),(5,a)]=some (.agg #[s,.slice none 0 0,.slice none 0 0,.slice none 0 0,vi,a]):=by
 simp[B6,dH1,J9,Instr.fill,d,b,c]
def SBs(d:Nat)(e c a:Value)(b:Nat):Prop:=b=d\/A0 e b\/A0 c b\/A0 a b
def ShS.lts{h:Hp}{w:World}{d:Nat}{i vp e c a:Value}{L:List It}{g f:List Int}(s:ShS h w d i vp e c a L g f){b:Nat}(hb:SBs d e c a b):b<w.heap.size:=by
 rcases hb with rfl|hb|hb|hb
 .exact s.lt
 .exact s.oL.lt hb
 .exact s.oLo.lt hb
 .exact s.oHi.lt hb
def bl2{k:Hp}{a j:Nat}{cs:Array Value}{T:TypeId}{b:Nat×Nat}{u:Value}(d:k a=some (.cells cs T b))(c:cs[j]?=some u):M7 k ((⟨a,0,none⟩:Addr).add j)=some u:=by
 rw[add_lit,ej1];unfold M7;rw[d];simpa using c
def ShS.atK{h k:Hp}{w:World}{g:Nat}{f vp i d c:Value}{L:List It}{m l:List Int}{p:Pg}(s:ShS h w g f vp i d c L m l)(e:B8 h k)(a:∀b,SBs g i d c b->k b=w.heap[b]?)(n:R h f p.globals)(q:R h vp p.procs):At k ⟨g,0,none⟩ (⟨p,L,m,l⟩:Sh):=by
 refine⟨[f,vp,i,d,c],⟨[f,vp],i,d,c,rfl,⟨f,vp,rfl,A3.mono e n,A3.mono e q⟩,s.oL.ro e λb h=>a b (.inr (.inl h)),s.oLo.ro e λb h=>a b (.inr (.inr (.inl h))),s.oHi.ro e λb h=>a b (.inr (.inr (.inr h)))⟩,λj u o=>?_⟩;exact bl2 ((a g (.inl rfl)).trans s.cell) (by simpa using o)
def dJ1{k:Hp}{d:Nat}{a:Addr}{wy:Wy}{c b:Value}(e:k d=some (.cells #[.pointer (some a),.int .i64 wy.proc,.int .i64 wy.n,c,b] 119 (0,0)))(i:At k a wy.s)(h:R k c wy.real)(g:R k b wy.live):At k ⟨d,0,none⟩ wy:=
 ⟨[.pointer (some a),.int .i64 wy.proc,.int .i64 wy.n,c,b],⟨_,_,_,rfl,i.ptr,h,g⟩,λj u f=>bl2 e (by simpa using f)⟩
def BM.freshN{α β:Type}[A3 α][A3 β]{H:Hp}{w0 n w:World}{Z:Nat->Prop}{d:Nat}{j k TY:TypeId}{a:Value->Array Value}{f g:Value}{xs:List α}{ys:List β}(s:BM H w0 n w Z d j k TY a f g xs ys){c:Type}[A3 c][p8 c]{i:World}{T:TypeId}{u:Value}{l:List c}(e:B0 (m8 w) i T u l):R (C1 i (nB d f g Z)) u l:=
 e.flatRN λb m=>E4 λh=>by
  have o:=s.lt h;have p:=D1 (e.free m);omega
def cU4(p:Pg):d9 p=⟨p,(d9 p).l,(d9 p).lo,(d9 p).hi⟩:=by
 have:=K5 p;cases hq:d9 p;rw[hq]at this;simp only at this;rw[this]
structure NI (wd w:World) (p:Pg) (us vi vo:Value):Prop where
 sh:∃gs vg vp vL vLo vHi,us = .pointer (some ⟨gs,0,none⟩)/\ShS (m8 wd) w gs vg vp vL vLo vHi (d9 p).l (d9 p).lo (d9 p).hi/\R (m8 wd) vg p.globals/\R (m8 wd) vp p.procs/\∀b,SBs gs vL vLo vHi b->wd.heap.size<=b/\¬A0 vi b/\¬A0 vo b
 oi:B0 (m8 wd) w 31 vi (List.replicate p.procs.length ([]:List A9))
 oo:B0 (m8 wd) w 31 vo (List.replicate p.procs.length ([]:List A9))
 gi:∀b,A0 vi b->wd.heap.size<=b/\¬A0 vo b
 go:∀b,A0 vo b->wd.heap.size<=b
 ext:o6 wd w
def NI.mk'{a w:World}{p:Pg}{f:Nat}{v vp u e d vi x:Value}(g k i l j m:Nat)(t:ShS (m8 a) w f v vp u e d (d9 p).l (d9 p).lo (d9 p).hi)(B:R (m8 a) v p.globals)(C:R (m8 a) vp p.procs)
  (n:∀b,SBs f u e d b->g<=b/\b<k) (o:∀b,A0 vi b->i<=b/\b<l) (q:∀b,A0 x b->j<=b/\b<m) (y:k<=i\/l<=g) (z:k<=j\/m<=g) (A:l<=j\/m<=i) (E:a.heap.size<=g/\a.heap.size<=i/\a.heap.size<=j)
  (r:B0 (m8 a) w 31 vi (List.replicate p.procs.length ([]:List A9))) (s:B0 (m8 a) w 31 x (List.replicate p.procs.length ([]:List A9))) (D:o6 a w):NI a w p (.pointer (some ⟨f,0,none⟩)) vi x:=by
 refine⟨⟨f,v,vp,u,e,d,rfl,t,B,C,λb c=>⟨?_,λh=>?_,λh=>?_⟩⟩,r,s,λb c=>⟨?_,λh=>?_⟩,λb c=>?_,D⟩
 .have:=n b c;omega
 .have:=n b c;have:=o b h;omega
 .have:=n b c;have:=q b h;omega
 .have:=o b c;omega
 .have:=o b c;have:=q b h;omega
 .have:=q b c;omega
def cy7{p:Pg}(hm:M8 p=true){D:Rws}(b:O7 (d9 p).l.length 100 D)(a:(d9 p).l.length<=200)(i:Nat)(hw:B7 p<=1000000)(f:i<p.procs.length):(ag1 p D i).length<=20000:=by
 have e:ag1 p D i=((d9 p).of i).flatMap λit=>if(D7 (d9 p) i).lives it.s.id then(H6 D (it.s.id-1)).filter (ad1 p i)else[]:=by
  unfold ag1;rw[bl9]
 rw[e];have c:=P4 (λit:It=>if(D7 (d9 p) i).lives it.s.id then(H6 D (it.s.id-1)).filter (ad1 p i)else[]) 100 ((d9 p).of i) λit _=>by
  split
  .exact ef9 (eh9 _ _) (aR7 b _)
  .simp
 have d:((d9 p).of i).length<=200:=by
  unfold Sh.of;rw[el6,eg0];omega
 omega
def cR0{p:Pg}(hm:M8 p=true)(O U D:Rws)(i:Nat):(aL8 p O U D i).length<=17:=by
 unfold aL8;refine ef9 (eh9 _ _) ?_;have:=(T0 hm).1;rw[ef4,ei6];omega
def cy1{p:Pg}(c:D3 p)(hw:B7 p<=1000000)(i:Nat)(b:i<p.procs.length):OkR (D7 (d9 p) i).net/\(D7 (d9 p) i).net.length=(D7 (d9 p) i).n.toNat/\0<(D7 (d9 p) i).n:=by
 obtain⟨x,d⟩:=I1 c.may hw i b;have a:=O8 d;obtain⟨e,f,_⟩:=dg4 c hw b a;have g:=a.n;have:=d.ok.le;exact⟨e,f,by omega⟩
def dz2{w:World}{g:Nat}{a:Addr}{f c e vi d:Value}{b:Bk}(o:w.heap[g]?=some (.cells #[.pointer (some a),f,c,e,vi,d] 137 (0,0)))(h:At (m8 w) a b.s)(i:R (m8 w) f b.wp)(k:R (m8 w) c b.defs)(l:R (m8 w) e b.uses)(m:R (m8 w) vi b.ins)(n:R (m8 w) d b.outs):At (m8 w) ⟨g,0,none⟩ b:=
 ⟨[.pointer (some a),f,c,e,vi,d],⟨_,_,_,_,_,_,rfl,h.ptr,i,k,l,m,n⟩,λj u p=>bl2 o (by simpa using p)⟩
def dp1(v:Value)(p:Pg)(w:World)(hv:SV (m8 w) v p)(hw:B7 p<=1000000):
  o9 prog 73 #[v] w λu j=>((E0 p=false->u = .pointer none)/\(E0 p=true->∃ad,u = .pointer (some ad)/\At (m8 j) ad (i4 p))/\o6 w j):=by
 refine p9 [v] func73 rfl ?_;obtain⟨c,w1,dY,dt,cp⟩:=Q4 hv (n7 _);obtain⟨sp,dp,dA,dE⟩:=cp.pg_v;obtain⟨eM,eN,er,cv,cP,ec⟩:=cp.pg;have l1:=dA w1 (n7 _);simp only[i5,n9,simprocAttr,dY,l1];refine B2 (S5 sp p w1 dp hw) (λG du=>?_);rcases ef2 (E0 p)with hR|hR;rotate_left
 .simp only[i5,n9,simprocAttr,hR];exact o7 results73 ⟨λ_=>rfl,λh=>(by cases h),dt.trans du⟩
 have hr:=G6 hR;obtain⟨eo,eq⟩:=T0 hr.may;have X:=du.trans (o6.drew G);have a8:=cv.isS;have bg:=cv.vlen;have t1:=dE (λj=>o6 G.drew j) G.drew (o8.refl _) λj h=>b7 (X.trans h);have t2:=ec (λj=>o6 G.drew j) G.drew (o8.refl _) λj h=>b7 (X.trans h);have aM:=dp.mono (b7 X);have hz:A3.enc (m8 G.drew) (Value.slice none 0 0).cells.toList ([]:List A9):=aN0 _;have aQ:=λ(wa:World) (ha:o6 G.drew wa)=>mk (P:=prog) (w:=wa) (h:=m8 G.drew) (α:=List A9) cI9 cp7 (y:=[]) hz (n:=p.procs.length) (by omega) (by omega) (b7 ha);simp only[i5,n9,simprocAttr,hR];refine bB5 [1] (λj=>o6 G.drew j) 10 (.op 0 (.op 2 (.op 3 (.op 4 (.op 6 (.op 7 (.op 8 (.fork [1,5,9] (λi=>if i=1 then(.fork [5,9] (λi=>if i=5 then(A5 [9])else(A5 [5])))else if i=5 then(.fork [1,9] (λi=>if i=1 then(A5 [9])else(A5 [1])))else(.fork [1,5] (λi=>if i=1 then(A5 [5])else(A5 [1]))))))))))))
  (λf' j=>NI G.drew j p (f' 19) (f' 23) (f' 27)) (by decide +kernel) (by decide +kernel) (o8.refl _) ?_ ?_
 .simp only[D0,A5,i5,n9,simprocAttr,t1,t2,a8,bg];refine V1 (by decide +kernel) (λi hi=>?_);simp only[eh0,ek1,eq2]at hi;rcases hi with rfl|rfl|rfl
  .simp only[D0,i5,simprocAttr];refine t8 (aj2 (m8 G.drew) sp p G.drew aM (n7 _) hw) ?_;rintro _ wA ⟨S,vg,vp,vL,ay,ax,rfl,J,hg,ak,F,aD,g⟩;refine⟨g,?_⟩;have av:∀b,SBs S vL ay ax b->G.drew.heap.size<=b/\b<wA.heap.size:=λb a=>⟨by rcases a with rfl|a;exact F;exact aD b a,J.lts a⟩;obtain⟨va,wB,m1,o1,E,f1,_⟩:=aQ wA g;obtain⟨vb,wC,m2,o2,T,f2,_⟩:=aQ wB (g.trans E);have dn:=(J.ext E).ext T;refine V1 (by decide +kernel) (λi hi=>?_);simp only[eh0,ek1,eq2]at hi;rcases hi with rfl|rfl
   .simp only[D0,i5,simprocAttr,m1,m2,F2];exact⟨g.trans E,(g.trans E).trans T,NI.mk' _ _ wA.heap.size wB.heap.size wB.heap.size wC.heap.size dn hg ak av (λb a=>⟨f1 b a,o1.lt a⟩) (λb a=>⟨f2 b a,o2.lt a⟩) (.inl (eg6 _)) (.inl E.size) (.inl (eg6 _)) ⟨eg6 _,g.size,ef9 g.size E.size⟩ (o1.ext T) o2 ((g.trans E).trans T)⟩
   .simp only[D0,i5,simprocAttr,m1,m2,F2];exact⟨g.trans E,(g.trans E).trans T,NI.mk' _ _ wB.heap.size wC.heap.size wA.heap.size wB.heap.size dn hg ak av (λb a=>⟨f2 b a,o2.lt a⟩) (λb a=>⟨f1 b a,o1.lt a⟩) (.inl E.size) (.inl (eg6 _)) (.inr (eg6 _)) ⟨eg6 _,ef9 g.size E.size,g.size⟩ o2 (o1.ext T) ((g.trans E).trans T)⟩
  .obtain⟨va,wB,m1,o1,E,f1,_⟩:=aQ G.drew (o8.refl _);simp only[D0,i5,simprocAttr,m1,F2];refine⟨E,?_⟩;refine V1 (by decide +kernel) (λi hi=>?_);simp only[eh0,ek1,eq2]at hi;rcases hi with rfl|rfl
   .simp only[D0,i5,simprocAttr];refine t8 (aj2 (m8 G.drew) sp p wB aM (b7 E) hw) ?_;rintro _ wA ⟨S,vg,vp,vL,ay,ax,rfl,J,hg,ak,F,aD,g⟩;have av:∀b,SBs S vL ay ax b->wB.heap.size<=b/\b<wA.heap.size:=λb a=>⟨by rcases a with rfl|a;exact F;exact aD b a,J.lts a⟩;obtain⟨vb,wC,m2,o2,T,f2,_⟩:=aQ wA (E.trans g);refine⟨E.trans g,?_⟩;simp only[D0,i5,simprocAttr,m2,F2];exact⟨(E.trans g).trans T,NI.mk' _ _ G.drew.heap.size wB.heap.size wA.heap.size wC.heap.size (J.ext T) hg ak av (λb a=>⟨f1 b a,o1.lt a⟩) (λb a=>⟨f2 b a,o2.lt a⟩) (.inr (eg6 _)) (.inl (eg6 _)) (.inl g.size) ⟨E.size,eg6 _,ef9 E.size g.size⟩ ((o1.ext g).ext T) o2 ((E.trans g).trans T)⟩
   .obtain⟨vb,wC,m2,o2,T,f2,_⟩:=aQ wB E;simp only[D0,i5,simprocAttr,m2,F2];refine⟨E.trans T,?_⟩;refine t8 (aj2 (m8 G.drew) sp p wC aM (b7 (E.trans T)) hw) ?_;rintro _ wA ⟨S,vg,vp,vL,ay,ax,rfl,J,hg,ak,F,aD,g⟩;have av:∀b,SBs S vL ay ax b->wC.heap.size<=b/\b<wA.heap.size:=λb a=>⟨by rcases a with rfl|a;exact F;exact aD b a,J.lts a⟩;refine⟨(E.trans T).trans g,?_⟩;simp only[D0,i5,simprocAttr];exact NI.mk' _ _ G.drew.heap.size wB.heap.size wB.heap.size wC.heap.size J hg ak av (λb a=>⟨f1 b a,o1.lt a⟩) (λb a=>⟨f2 b a,o2.lt a⟩) (.inr T.size) (.inr (eg6 _)) (.inl (eg6 _)) ⟨(E.trans T).size,eg6 _,E.size⟩ ((o1.ext T).ext g) (o2.ext g) ((E.trans T).trans g)
  .obtain⟨va,wB,m1,o1,E,f1,_⟩:=aQ G.drew (o8.refl _);simp only[D0,i5,simprocAttr,m1,F2];refine⟨E,?_⟩;refine V1 (by decide +kernel) (λi hi=>?_);simp only[eh0,ek1,eq2]at hi;rcases hi with rfl|rfl
   .simp only[D0,i5,simprocAttr];refine t8 (aj2 (m8 G.drew) sp p wB aM (b7 E) hw) ?_;rintro _ wA ⟨S,vg,vp,vL,ay,ax,rfl,J,hg,ak,F,aD,g⟩;have av:∀b,SBs S vL ay ax b->wB.heap.size<=b/\b<wA.heap.size:=λb a=>⟨by rcases a with rfl|a;exact F;exact aD b a,J.lts a⟩;obtain⟨vb,wC,m2,o2,T,f2,_⟩:=aQ wA (E.trans g);refine⟨E.trans g,?_⟩;simp only[D0,i5,simprocAttr,m2,F2];exact⟨(E.trans g).trans T,NI.mk' _ _ wA.heap.size wC.heap.size G.drew.heap.size wB.heap.size (J.ext T) hg ak av (λb a=>⟨f2 b a,o2.lt a⟩) (λb a=>⟨f1 b a,o1.lt a⟩) (.inl (eg6 _)) (.inr (eg6 _)) (.inr g.size) ⟨E.size,ef9 E.size g.size,eg6 _⟩ o2 ((o1.ext g).ext T) ((E.trans g).trans T)⟩
   .obtain⟨vb,wC,m2,o2,T,f2,_⟩:=aQ wB E;simp only[D0,i5,simprocAttr,m2,F2];refine⟨E.trans T,?_⟩;refine t8 (aj2 (m8 G.drew) sp p wC aM (b7 (E.trans T)) hw) ?_;rintro _ wA ⟨S,vg,vp,vL,ay,ax,rfl,J,hg,ak,F,aD,g⟩;have av:∀b,SBs S vL ay ax b->wC.heap.size<=b/\b<wA.heap.size:=λb a=>⟨by rcases a with rfl|a;exact F;exact aD b a,J.lts a⟩;refine⟨(E.trans T).trans g,?_⟩;simp only[D0,i5,simprocAttr];exact NI.mk' _ _ wB.heap.size wC.heap.size G.drew.heap.size wB.heap.size J hg ak av (λb a=>⟨f2 b a,o2.lt a⟩) (λb a=>⟨f1 b a,o1.lt a⟩) (.inr (eg6 _)) (.inr T.size) (.inr (eg6 _)) ⟨(E.trans T).size,E.size,eg6 _⟩ (o2.ext g) ((o1.ext T).ext g) ((E.trans T).trans g)
 rintro f w3 hk dV;simp only[ei3,B3,simprocAttr]at hk;obtain⟨e1,_⟩:=hk;obtain⟨⟨S,vg,vp,vL,ay,ax,dR,J,hg,ak,b9⟩,a0,bs,bH,b5,ca⟩:=dV;generalize dS:f 23=A at a0 bs bH b5 b9;generalize dT:f 27=C at a0 bs bH b5 b9;obtain⟨z,w4,dg,a2,dZ,dh⟩:∃z w4,(Instr.box 137 (.agg #[.pointer (some ⟨S,0,none⟩),.slice none 0 0,.slice none 0 0,.slice none 0 0,A,C])).run prog w3 = .ok (.pointer (some ⟨z,0,none⟩)) w4/\o6 w3 w4/\w4.heap[z]?=some (.cells #[.pointer (some ⟨S,0,none⟩),.slice none 0 0,.slice none 0 0,.slice none 0 0,A,C] 137 (0,0))/\w3.heap.size<=z:=
  ⟨_,_,rfl,o6.alloc _ _,ej0 w3 _,eg6 _⟩
 have cJ:G.drew.heap.size<=z:=ef9 ca.size dh;have bp:∀b,(A0 A b\/A0 C b)->G.drew.heap.size<=b/\b<w3.heap.size:=λb h=>by
  rcases h with h|h
  .exact⟨(bH b h).1,a0.lt h⟩
  .exact⟨b5 b h,bs.lt h⟩
 have da:∀b,nB z (.slice none 0 0) (.slice none 0 0) (λb=>A0 A b\/A0 C b) b->b=z\/A0 A b\/A0 C b:=λb h=>by
  rcases h with h|h|h|h
  .exact .inl h
  .exact absurd h D5
  .exact absurd h D5
  .exact .inr h
 have bB:At (C1 w4 (nB z (.slice none 0 0) (.slice none 0 0) (λb=>A0 A b\/A0 C b))) ⟨S,0,none⟩ (d9 p):=by
  rw[cU4];refine(J.ext a2).atK (aT6 (ca.trans a2) λb a=>?_) (λb a=>E4 λh=>?_) hg ak
  .rcases da b a with h|h
   .omega
   .exact(bp b h).1
  .rcases da b h with h|h|h
   .have:=J.lts a;omega
   .exact(b9 b a).2.1 h
   .exact(b9 b a).2.2 h
 have c6:BM (α:=Ptr Wy) (β:=List A9) (C1 w4 (nB z (.slice none 0 0) (.slice none 0 0) (λb=>A0 A b\/A0 C b))) G.drew w4 w4 (λb=>A0 A b\/A0 C b) z 137 114 31 (λv=>#[.pointer (some ⟨S,0,none⟩),v,.slice none 0 0,.slice none 0 0,A,C]) (.slice none 0 0) (.slice none 0 0) [] []:=
  ⟨ca.trans a2,cJ,dZ,B0.nil _ _ _,B0.nil _ _ _,λb h=>absurd h D5,λb h=>absurd h D5,λb h=>⟨by have:=(bp b h).2;omega,el8 (bp b h).2 a2.size⟩,λ_ _=>rfl,eg6 _,n7 _⟩
 have dv:=X.trans (ca.trans a2);have eb:=cP w4 (b7 dv);obtain⟨iw,d1,di⟩:=aA6 (P:=prog) dI7 dI1;obtain⟨il,b8,be⟩:=aA6 (P:=prog) dI8 dI2;obtain⟨iS,b6,bd⟩:=aA6 (P:=prog) cp7 dl5;have dW:=a0.isS;have dX:=bs.isS;simp only[D0,i5,n9,simprocAttr,dR,dS,dT,cY6 (.pointer (some ⟨S,0,none⟩)) A C rfl (F0 dW) (F0 dX),dg,e1,eb,a8,bg];refine D9 [1,3,32] (σ:=Nat×Value) (λs f j=>f 33 = .int .i64 s.1/\s.1<=p.procs.length/\BM (α:=Ptr Wy) (β:=List A9) (C1 w4 (nB z (.slice none 0 0) (.slice none 0 0) (λb=>A0 A b\/A0 C b))) G.drew w4 j (λb=>A0 A b\/A0 C b) z 137 114 31 (λv=>#[.pointer (some ⟨S,0,none⟩),v,.slice none 0 0,.slice none 0 0,A,C]) s.2 (.slice none 0 0) (((J2 p).take s.1).map λw=>⟨w⟩) []) (λs=>p.procs.length-s.1) (0,.slice none 0 0) ?_ ?_
 .simp only[B3,simprocAttr];exact⟨by trivial,eg3 _,by simpa using c6⟩
 clear c6;rintro⟨k,vx⟩ f5 w5 hk ⟨bZ,d2,s5⟩;simp only at bZ d2 s5;simp only[ei3,B3,simprocAttr]at hk;obtain⟨g1,g3,dP,_⟩:=hk;rw[e1]at g1;simp only[i5,n9,simprocAttr,bZ,dP];refine A4 (λhc=>?_) (λhc=>?_)
 .have q:k<p.procs.length:=by simpa using hc
  obtain⟨x,pt⟩:=I1 hr.may hw k q;have d7:(J2 p).length=p.procs.length:=by unfold J2;simp
  have aG:((J2 p).take (k+1)).map (λw=>(⟨w⟩:Ptr Wy))=((J2 p).take k).map (λw=>(⟨w⟩:Ptr Wy))++[⟨D7 (d9 p) k⟩]:=by
   rw[es3,V6 q,ei4];rfl
  have sd:=s5.more (o6.drew w5);have bq:∀j,o8 (A0 vx) w5.drew j->j.heap[z]?=some (.cells #[.pointer (some ⟨S,0,none⟩),vx,.slice none 0 0,.slice none 0 0,A,C] 137 (0,0)):=λj hm=>(hm.block z (ef5.1 sd.cb).1 λh=>(sd.dx z h).2.1 rfl).trans sd.cb;have k0:∀K f d w0,F7 prog (λj=>o8 (A0 vx) w5.drew j) (Instr.loadAt 116 (.pointer (some ⟨z,0,none⟩))) K f d w0=K (C9 f d (.pointer (some ⟨S,0,none⟩))) w0:=λK f d w0=>C0 (w0:=w5.drew) (o8.refl _) λj h=>E7 (i:=0) (bq j h) rfl bc1;have k1:∀K f d w0,F7 prog (λj=>o8 (A0 vx) w5.drew j) (Instr.loadAt 134 (.pointer (some ⟨z,1,none⟩))) K f d w0=K (C9 f d vx) w0:=λK f d w0=>C0 (w0:=w5.drew) (o8.refl _) λj h=>E7 (i:=1) (bq j h) rfl cB2;simp only[i5,simprocAttr,bZ];refine B9 (λj=>o8 (A0 vx) w5.drew j) 13 (A5 [0,1,2,3,4,5,6,7,8,9,10,11,12]) ?_;simp only[D0,A5,i5,n9,simprocAttr,g3,k0,k1];refine t8 (bK0 ⟨S,0,none⟩ p k x _ w5.drew (bB.mono sd.hb) hr hw q pt) ?_;rintro _ w6 ⟨gw,vr,vl,rfl,d0,ep,d5,d4,cb⟩;refine⟨o8.up cb,?_⟩;have s6:=sd.more cb;have d3:¬nB z vx (.slice none 0 0) (λb=>A0 A b\/A0 C b) gw:=λh=>by have:=sd.lt h;omega
  have df:At (C1 w6 (nB z vx (.slice none 0 0) (λb=>A0 A b\/A0 C b))) ⟨gw,0,none⟩ (D7 (d9 p) k):=dJ1 (wy:=D7 (d9 p) k) ((E4 d3).trans d0) (bB.mono s6.base) (sd.freshN d5) (sd.fresh d4);obtain⟨p1,ef,w7,w8,p2,p3,O,p4⟩:=s6.push (P:=prog) (e:=134) dS0 rfl (x:=.pointer (some ⟨gw,0,none⟩)) (y:=(⟨D7 (d9 p) k⟩:Ptr Wy)) df.ptr (by rw[eg5,eg0];omega) (by rw[eg5,eg0];omega) (ix:=1) (by simp) (λv v'=>by simp) d1 di;simp only[Value.cells]at p1 p2;simp only[D0,i5,n9,simprocAttr,p1,p2,F2];refine⟨(o8.up cb).trans (o8.up (o6.alloc _ _)),(o8.up cb).trans p4,?_⟩;simp only[i5,n9,simprocAttr,bZ,p3];refine⟨(k+1,ef),by omega,eg8 _ (H8 k (by omega)),by omega,?_⟩;simp only[];rw[aG];exact O
 have F:k=p.procs.length:=by simp at hc;omega
 subst F;have d7:(J2 p).length=p.procs.length:=by unfold J2;simp
 rw[ej5 (by omega)]at s5;have db:∀b,nB z (.slice none 0 0) C (A0 A) b->nB z vx (.slice none 0 0) (λb=>A0 A b\/A0 C b) b:=λb h=>by
  rcases h with h|h|h|h
  .exact .inl h
  .exact absurd h D5
  .exact .inr (.inr (.inr (.inr h)))
  .exact .inr (.inr (.inr (.inl h)))
 have cr:B8 (C1 w5 (nB z vx (.slice none 0 0) (λb=>A0 A b\/A0 C b))) (C1 w5 (nB z (.slice none 0 0) C (A0 A))):=K0 (M:=λ_=>False) (o8.refl w5) (λ_ h=>h.elim) λb h=>.inl (db b h);have aT:=(bB.mono s5.base).mono cr;have cw:R (C1 w5 (nB z (.slice none 0 0) C (A0 A))) vx ((J2 p).map λw=>(⟨w⟩:Ptr Wy)):=s5.ox.ro cr λb a=>E4 λh=>by
  have hd:=s5.dx b a;rcases h with h|h|h|h
  .exact hd.2.1 h
  .exact D5 h
  .exact hd.2.2.2 (.inr h)
  .exact hd.2.2.2 (.inl h)
 have dm:B0 (C1 w5 (nB z (.slice none 0 0) C (A0 A))) w5 31 C (List.replicate p.procs.length ([]:List A9)):=bs.renil (λb a=>F9 (.inr (.inr (.inl a)))) λb a=>(s5.zk b (.inr a)).trans (a2.block b (bs.lt a) id);have cu:∀b,A0 A b->w5.heap[b]?=w3.heap[b]?:=λb a=>(s5.zk b (.inl a)).trans (a2.block b (a0.lt a) id);have c7:BM (α:=List A9) (β:=List A9) (C1 w5 (nB z (.slice none 0 0) C (A0 A))) G.drew w5 w5 (A0 A) z 137 31 31 (λv=>#[.pointer (some ⟨S,0,none⟩),vx,v,.slice none 0 0,A,C]) (.slice none 0 0) C [] (List.replicate p.procs.length []):=
  ⟨s5.ext,cJ,s5.cb,B0.nil _ _ _,dm,λb h=>absurd h D5,λb a=>⟨b5 b a,by have:=(bp b (.inr a)).2;omega,λh=>(bH b h).2 a⟩,λb a=>⟨by have:=(bp b (.inl a)).2;omega,s5.lt (.inr (.inr (.inr (.inl a))))⟩,λ_ _=>rfl,eg6 _,n7 _⟩
 have d6:∀j,(∀b,A0 A b->j.heap[b]?=w5.heap[b]?)->R (m8 j) A (List.replicate p.procs.length ([]:List A9)):=λj h=>(a0.renil (k:=λ_=>none) (λ_ _=>rfl) λb a=>(h b a).trans (cu b a)).rw_ λ_ _ h=>by cases h
 clear s5;have cq:∀(j:World) (vd:Value) (xs ys:Rws),BM (α:=List A9) (β:=List A9) (C1 w5 (nB z (.slice none 0 0) C (A0 A))) G.drew w5 j (A0 A) z 137 31 31 (λv=>#[.pointer (some ⟨S,0,none⟩),vx,v,.slice none 0 0,A,C]) vd C xs ys->At (m8 j) ⟨z,0,none⟩ (⟨d9 p,J2 p,xs,[],List.replicate p.procs.length [],ys⟩:Bk):=λj vd xs ys s=>dz2 s.cb (aT.mono s.hb) (A3.mono s.hb cw) s.rx (aN0 _) (d6 j s.zk) s.ry;obtain⟨_,_,_,bh,_,_,_,dy,_⟩:=aT.sh;have c5:=H7 hr.may;have bK:=am0 p hw;have bz:aL5 (G8 p) p.procs.length 25:=ba4 hr.may;simp only[i5,simprocAttr];refine D9 [1,3] (σ:=(Value×Nat)×(Bool×Rws)) (λs f j=>f 5 = .bool s.2.1/\BM (α:=List A9) (β:=List A9) (C1 w5 (nB z (.slice none 0 0) C (A0 A))) G.drew w5 j (A0 A) z 137 31 31 (λv=>#[.pointer (some ⟨S,0,none⟩),vx,v,.slice none 0 0,A,C]) s.1.1 C s.2.2 (G7 (G8 p) s.1.2 (List.replicate p.procs.length []))/\s.1.2<=aF8 (G7 (G8 p) s.1.2 (List.replicate p.procs.length []))/\(s.2.1=false->G8 p (G7 (G8 p) s.1.2 (List.replicate p.procs.length []))=G7 (G8 p) s.1.2 (List.replicate p.procs.length [])/\s.2.2=J8 p (G7 (G8 p) s.1.2 (List.replicate p.procs.length [])))) (λs=>if s.2.1 then p.procs.length*25+2-aF8 (G7 (G8 p) s.1.2 (List.replicate p.procs.length []))else 0) ((.slice none 0 0,0),(true,[])) ?_ ?_
 .simp only[B3,simprocAttr];exact⟨by trivial,c7,eg3 _,λh=>by cases h⟩
 clear c7;rintro⟨⟨vx2,K2⟩,eG,eR⟩ ex H hk ⟨cs,Y,cj,aC⟩;simp only at cs Y cj aC;simp only[ei3,B3,simprocAttr]at hk;obtain⟨cC,bX,_⟩:=hk;rw[g1]at cC;rw[g3]at bX;have W:=bz.iter_ok K2;have I:=bz.ok (G7 (G8 p) K2 (List.replicate p.procs.length []));have a7:=bz.more K2;have em:=bz.bound K2;have cF:=bz.bound (K2+1);have aK:=ac7 (G8 p) K2 (List.replicate p.procs.length []);simp only[i5,simprocAttr,cs];refine A4 (λhc=>?_) (λhc=>?_)
 .subst hc;clear aC;generalize ba:G7 (G8 p) K2 (List.replicate p.procs.length [])=Z at *;generalize cl:G8 p Z=Q2 at *;obtain⟨cS,z2,ce⟩:=Y.reset (P:=prog) (t:=135) (ix:=2) (by simp) (λv v'=>by simp) b8 be;have dw:(Instr.loadAt 116 (.pointer (some ⟨z,0,none⟩))).run prog cS = .ok (.pointer (some ⟨S,0,none⟩)) cS:=E7 (i:=0) ce.cb rfl bc1;have cx:=dy cS ce.hb;simp only[add_lit,ej1]at cx;have dd:=bh.isS;have dj:=bh.vlen;simp only[i5,n9,simprocAttr,bX,z2,dw,cx,dd,dj];refine D9 [1,3,5,62,63] (σ:=Nat×Value) (λs f j=>f 64 = .int .i64 s.1/\s.1<=(d9 p).l.length/\BM (α:=List A9) (β:=List A9) (C1 w5 (nB z (.slice none 0 0) C (A0 A))) G.drew w5 j (A0 A) z 137 31 31 (λv=>#[.pointer (some ⟨S,0,none⟩),vx,v,.slice none 0 0,A,C]) s.2 C (((d9 p).l.take s.1).map λit=>E3 (aj5 p Z it.s)) Z) (λs=>(d9 p).l.length-s.1) (0,.slice none 0 0) ?_ ?_
  .simp only[B3,simprocAttr];exact⟨by trivial,eg3 _,ce⟩
  clear ce Y;rintro⟨m,vd⟩ f7 w7 hk ⟨aF,bN,s7⟩;simp only at aF bN s7;simp only[ei3,B3,simprocAttr]at hk;obtain⟨b1,b3,bm,bl,bn,_⟩:=hk;rw[cC]at b1;rw[bX]at b3;simp only[i5,n9,simprocAttr,aF,bn];refine A4 (λhc=>?_) (λhc=>?_)
  .have q:m<(d9 p).l.length:=by simpa using hc
   have cK:=bh.inS q;obtain⟨sv,a1,bL⟩:=F5 (P:=prog) (t:=150) bh (s7.hb) (ef1 q) aa7 aa9 Z3 J3;rw[J3]at bL;have aG:((d9 p).l.take (m+1)).map (λit=>E3 (aj5 p Z it.s))=((d9 p).l.take m).map (λit=>E3 (aj5 p Z it.s))++[E3 (aj5 p Z (d9 p).l[m].s)]:=by
    rw[ef8 q,ei4];rfl
   have ag:=hr.fits _ (eg2 q);have aA:=bK _ (eg2 q);have aX:((((d9 p).l.take m).map λit=>E3 (aj5 p Z it.s))).length<=200:=by rw[eg5,eg0];omega
   generalize(d9 p).l[m]=it at a1 aG ag aA;generalize((d9 p).l.take m).map (λit=>E3 (aj5 p Z it.s))=xs at s7 aG aX;obtain⟨d,eh,w8,cI,cM,cO,bD⟩:=aV9 (w:=w7) (A0 vd) a1 (λb a=>s7.ox.lt a);obtain⟨us,bQ,bE,_,_⟩:=I6.it a1 bD;have O:=(s7.more cO).more (o6.drew w8);have bq:∀j,o8 (A0 vd) w8.drew j->j.heap[z]?=some (.cells ((λv=>#[.pointer (some ⟨S,0,none⟩),vx,v,.slice none 0 0,A,C]) vd) 137 (0,0)):=λj hm=>(hm.block z (ef5.1 O.cb).1 λh=>(O.dx z h).2.1 rfl).trans O.cb;have k2:∀K f d w0,F7 prog (λj=>o8 (A0 vd) w8.drew j) (Instr.loadAt 135 (.pointer (some ⟨z,2,none⟩))) K f d w0=K (C9 f d vd) w0:=λK f d w0=>C0 (w0:=w8.drew) (o8.refl _) λj h=>E7 (i:=2) (bq j h) rfl ag4;have k3:=(I6.st_v bQ bE).2 (λj=>o8 (A0 vd) w8.drew j) w8.drew (o8.refl _) λj h=>D8 ((o8.up (M:=A0 vd) (o6.drew w8)).trans h);simp only[i5,n9,y4,simprocAttr,aF,bl,cK,bL,cI,cM];refine B9 (λj=>o8 (A0 vd) w8.drew j) 12 (A5 [0,1,2,3,4,5,6,7,8,9,10,11]) ?_;simp only[D0,A5,i5,n9,simprocAttr,b3,k2,k3];refine t8 (da9 ⟨z,0,none⟩ ⟨d9 p,J2 p,_,[],List.replicate p.procs.length [],_⟩ p us it.s w8.drew (cq _ _ _ _ O) ⟨rfl,W,bG7 _ _⟩ hr.may (bQ.mono O.hb) aA ag) ?_;rintro u9 w9 ⟨ap,aH⟩;refine⟨o8.up aH,?_⟩;simp only[D0,i5,simprocAttr];refine t8 (ao3 ap (ef9 (aT0 hr.may W ag) (by decide))) ?_;rintro ar Q ⟨B,am,_⟩;have D:o6 w8.drew Q:=ap.ext2 aH am;refine⟨o8.up D,?_⟩;have L:=O.more D;obtain⟨p1,cR,a6,bS,p2,p3,N,p4⟩:=L.push (P:=prog) (e:=135) cI9 rfl (x:=ar) (y:=E3 (aj5 p Z it.s)) (by rw[F0 B.isS];exact O.fresh B) (by omega) (by omega) (ix:=2) (by simp) (λv v'=>by simp) b8 be;rw[F0 B.isS]at p1 p2;simp only[D0,i5,n9,simprocAttr,p1,p2,F2];refine⟨(o8.up D).trans (o8.up (o6.alloc _ _)),(o8.up D).trans p4,?_⟩;simp only[i5,n9,simprocAttr,aF,p3];refine⟨(m+1,cR),by omega,eg8 _ (H8 m (by omega)),by omega,?_⟩;simp only[];rw[aG];exact N
  have F:m=(d9 p).l.length:=by simp at hc;omega
  subst F;rw[eg4]at s7;have bx:((d9 p).l.map λit=>E3 (aj5 p Z it.s))=J8 p Z:=rfl;rw[bx]at s7;have aI:O7 (d9 p).l.length 100 (J8 p Z):=bi2 λit bJ=>aT0 hr.may W (hr.fits it bJ);have cQ:=cP w7 (b7 (X.trans s7.ext));simp only[i5,n9,simprocAttr,b1,cQ,a8,bg];refine D9 [1,3,85] (σ:=Nat×Bool) (λs f j=>f 86 = .int .i64 s.1/\s.1<=p.procs.length/\f 5 = .bool s.2/\BM (α:=List A9) (β:=List A9) (C1 w5 (nB z (.slice none 0 0) C (A0 A))) G.drew w5 j (A0 A) z 137 31 31 (λv=>#[.pointer (some ⟨S,0,none⟩),vx,v,.slice none 0 0,A,C]) vd C (J8 p Z) (ba3 Q2 Z s.1)/\(s.2=false->Q2.take s.1=Z.take s.1)/\(s.2=true->Q2≠Z)) (λs=>p.procs.length-s.1) (0,false) ?_ ?_
  .simp only[B3,simprocAttr];exact⟨by trivial,eg3 _,bm,by rw[ck9];exact s7,λ_=>by simp,λh=>by cases h⟩
  clear s7;rintro⟨i,mo⟩ f8 w8 hk ⟨ah,bI,ao,O,aE,aZ⟩;simp only at ah bI ao O aE aZ;simp only[ei3,B3,simprocAttr]at hk;obtain⟨c1,c3,cn,_⟩:=hk;rw[b1]at c1;rw[b3]at c3;simp only[i5,n9,simprocAttr,ah,cn];refine A4 (λhc=>?_) (λhc=>?_);rotate_left
  .have F:i=p.procs.length:=by simp at hc;omega
   subst F;rw[cH3 I.len W.len]at O;rw[ej5 (by rw[I.len];exact eg6 _),ej5 (by rw[W.len];exact eg6 _)]at aE;cases mo with
   | false=>
    have e:=aE rfl;simp only[i5,simprocAttr];refine⟨((vd,K2),(false,J8 p Z)),?_,ao,?_,?_,λ_=>?_⟩
    .simp only[ba];simp;omega
    .simp only[ba];rw[e]at O;exact O
    .simp only[ba];exact cj
    .simp only[ba];exact⟨cl.trans e,trivial⟩
   | true=>
    have e:=aZ rfl;have q:=a7 e;rw[aK]at q cF;simp only[i5,simprocAttr];refine⟨((vd,K2+1),(true,J8 p Z)),?_,ao,?_,?_,λh=>by cases h⟩
    .simp only[aK];simp;omega
    .simp only[aK];exact O
    .simp only[aK];omega
  have q:i<p.procs.length:=by simpa using hc
  have aq:Q2[i]?=some (E3 (ag1 p (J8 p Z) i)):=by
   rw[<-cl];unfold G8;rw[ei9,eo0 q];rfl
  have a3:Z[i]?=some (Z[i]'(by rw[W.len];exact q)):=ef1 _;have an:=cH4 (old:=Z) I.len q;rw[a3]at an;have aY:=cH5 I.len W.len q aq;have cL:=dg1 (i:=i) I W;have bN:=bY6 (i:=i) I.len W.len;have bO:Q2.take (i+1)=Q2.take i++[E3 (ag1 p (J8 p Z) i)]:=by rw[es3,aq];rfl
  have bP:Z.take (i+1)=Z.take i++[Z[i]'(by rw[W.len];exact q)]:=by rw[es3,a3];rfl
  simp only[i5,simprocAttr,ah,c3];refine t8 (dh7 ⟨z,0,none⟩ ⟨d9 p,J2 p,_,[],List.replicate p.procs.length [],_⟩ p i w8 (cq _ _ _ _ O) ⟨rfl,cL,bG7 _ _⟩ rfl aI hr hw q) ?_;rintro u9 w9 ⟨ap,aH⟩;simp only[i5,simprocAttr];refine t8 (ao3 ap (ef9 (cy7 hr.may aI c5 i hw q) (by decide))) ?_;rintro ar Q ⟨B,am,_⟩;have D:o6 w8 Q:=ap.ext2 aH am;have L:=O.more D;have aB:(E3 (ag1 p (J8 p Z) i)).length<=25:=I.few _ (eh3 aq);have aU:(Z[i]'(by rw[W.len];exact q)).length<=25:=W.few _ (eg2 _);have aO:=a3;generalize Z[i]'(by rw[W.len];exact q)=yi at an bP aU aO;generalize E3 (ag1 p (J8 p Z) i)=qi at aq aY bO B aB;have bG:=O.fresh B;have aa:=L.oy.inS (k:=i) (by omega);cases mo with
  | true=>
   obtain⟨bS,q1,N⟩:=L.set (P:=prog) (t:=31) rfl (k:=i) (by omega) (u:=ar) (y:=qi) bG (F0 B.isS) b6 bd;rw[aY]at N;have a4:(Instr.loadAt 135 (.pointer (some ⟨z,5,none⟩))).run prog Q = .ok C Q:=E7 (i:=5) L.cb rfl ag4;simp only[i5,n9,y4,simprocAttr,ao,ah,c3,a4,aa,q1];refine⟨(i+1,true),by omega,eg8 _ (H8 i (by omega)),by omega,by trivial,N,(λh=>by cases h),λ_=>aZ rfl⟩
  | false=>
   obtain⟨ur,cN,bM⟩:=bt7 (P:=prog) (t:=31) L.oy an P8;have a4:(Instr.loadAt 135 (.pointer (some ⟨z,5,none⟩))).run prog Q = .ok C Q:=E7 (i:=5) L.cb rfl ag4;simp only[i5,n9,y4,simprocAttr,ao,c3,a4,aa,bM];refine t8 (bC3 ar ur qi yi Q (B.rw_ (b7 D)) (A3.mono (A8 _ _) cN) (by omega) (by omega)) ?_;rintro _ a6 ⟨rfl,aN⟩;have bR:=L.more aN;have aW:=A3.mono (K0 aN (λ_ h=>h.elim) λb h=>.inl h) bG;obtain⟨bS,q1,N⟩:=bR.set (P:=prog) (t:=31) rfl (k:=i) (by omega) (u:=ar) (y:=qi) aW (F0 B.isS) b6 bd;rw[aY]at N;have aP:(Instr.loadAt 135 (.pointer (some ⟨z,5,none⟩))).run prog a6 = .ok C a6:=E7 (i:=5) bR.cb rfl ag4;rcases ef2 (decide (qi=yi))with he|he
   .have e:=ef3 he;simp only[i5,n9,y4,simprocAttr,he,ah,c3,aP,aa,q1];refine⟨(i+1,false),by omega,eg8 _ (H8 i (by omega)),by omega,by trivial,N,λ_=>?_,λh=>by cases h⟩;simp only[];rw[bO,bP,aE rfl,e]
   .have e:=ef7 he;simp only[i5,n9,y4,simprocAttr,he,ah,c3,aP,aa,q1];refine⟨(i+1,true),by omega,eg8 _ (H8 i (by omega)),by omega,by trivial,N,(λh=>by cases h),λ_ h=>e ?_⟩;have h1:=eg8 (λl:Rws=>l[i]?) h;simp only[aq,aO]at h1;exact eh1 h1
 have aL:=aC hc;have dc:K8 p=G7 (G8 p) K2 (List.replicate p.procs.length []):=aH6 K2 1000 _ (by omega) aL.1;rw[<-dc]at Y aL W;rw[aL.2]at Y;have cH:=W;have dU:O7 (d9 p).l.length 100 (J8 p (K8 p)):=bi2 λit bJ=>aT0 hr.may cH (hr.fits it bJ);clear aC aL a7 aK I;generalize co:K8 p=o at *;generalize ci:J8 p o=r at *;have bf:B8 (C1 H (nB z vx2 C (A0 A))) (C1 H (nB z (.slice none 0 0) A (λ_=>False))):=K0 (M:=λ_=>False) (o8.refl H) (λ_ h=>h.elim) λb h=>.inl (by
  rcases h with h|h|h|h
  .exact .inl h
  .exact absurd h D5
  .exact .inr (.inr (.inr h))
  .exact h.elim)
 have bC:=(aT.mono Y.base).mono bf;have ds:=A3.mono bf (A3.mono Y.base cw);have dq:R (C1 H (nB z (.slice none 0 0) A (λ_=>False))) vx2 r:=Y.ox.ro bf λb a=>E4 λh=>by
  have hd:=Y.dx b a;rcases h with h|h|h|h
  .exact hd.2.1 h
  .exact D5 h
  .exact hd.2.2.2 h
  .exact h.elim
 have dr:R (C1 H (nB z (.slice none 0 0) A (λ_=>False))) C o:=Y.oy.ro bf λb a=>E4 λh=>by
  have hd:=Y.dy b a;rcases h with h|h|h|h
  .exact hd.2.1 h
  .exact D5 h
  .exact hd.2.2 h
  .exact h.elim
 have dl:B0 (C1 H (nB z (.slice none 0 0) A (λ_=>False))) H 31 A (List.replicate p.procs.length ([]:List A9)):=a0.renil (λb a=>F9 (.inr (.inr (.inl a)))) λb a=>(Y.zk b a).trans (cu b a);have c8:BM (α:=List A9) (β:=List A9) (C1 H (nB z (.slice none 0 0) A (λ_=>False))) G.drew H H (λ_=>False) z 137 31 31 (λv=>#[.pointer (some ⟨S,0,none⟩),vx,vx2,v,A,C]) (.slice none 0 0) A [] (List.replicate p.procs.length []):=
  ⟨Y.ext,cJ,Y.cb,B0.nil _ _ _,dl,λb h=>absurd h D5,λb a=>⟨(bH b a).1,by have:=(bp b (.inl a)).2;omega,id⟩,λb a=>a.elim,λb a=>a.elim,eg6 _,n7 _⟩
 clear Y;have bF:∀(j:World) (vd:Value) (xs ys:Rws),BM (α:=List A9) (β:=List A9) (C1 H (nB z (.slice none 0 0) A (λ_=>False))) G.drew H j (λ_=>False) z 137 31 31 (λv=>#[.pointer (some ⟨S,0,none⟩),vx,vx2,v,A,C]) vd A xs ys->At (m8 j) ⟨z,0,none⟩ (⟨d9 p,J2 p,r,xs,ys,o⟩:Bk):=λj vd xs ys s=>dz2 s.cb (bC.mono s.hb) (A3.mono s.hb ds) (A3.mono s.hb dq) s.rx s.ry (A3.mono s.hb dr);obtain⟨_,_,_,bi,_,_,_,dz,_⟩:=bC.sh;have bA:aL5 (S7 p o r) p.procs.length 25:=bm4 hr.may o r λi hi=>cy1 hr hw i hi;simp only[i5,simprocAttr];refine D9 [1,3] (σ:=(Value×Nat)×(Bool×Rws)) (λs f j=>f 10 = .bool s.2.1/\BM (α:=List A9) (β:=List A9) (C1 H (nB z (.slice none 0 0) A (λ_=>False))) G.drew H j (λ_=>False) z 137 31 31 (λv=>#[.pointer (some ⟨S,0,none⟩),vx,vx2,v,A,C]) s.1.1 A s.2.2 (G7 (S7 p o r) s.1.2 (List.replicate p.procs.length []))/\s.1.2<=aF8 (G7 (S7 p o r) s.1.2 (List.replicate p.procs.length []))/\(s.2.1=false->S7 p o r (G7 (S7 p o r) s.1.2 (List.replicate p.procs.length []))=G7 (S7 p o r) s.1.2 (List.replicate p.procs.length [])/\s.2.2=R0 p (G7 (S7 p o r) s.1.2 (List.replicate p.procs.length [])))) (λs=>if s.2.1 then p.procs.length*25+2-aF8 (G7 (S7 p o r) s.1.2 (List.replicate p.procs.length []))else 0) ((.slice none 0 0,0),(true,[])) ?_ ?_
 .simp only[B3,simprocAttr];exact⟨by trivial,c8,eg3 _,λh=>by cases h⟩
 clear c8;rintro⟨⟨eO,K3⟩,eH,eS⟩ ey eP hk ⟨ct,a5,ck,aV⟩;simp only at ct a5 ck aV;simp only[ei3,B3,simprocAttr]at hk;obtain⟨c2,bY,_⟩:=hk;rw[cC]at c2;rw[bX]at bY;have ae:=bA.iter_ok K3;have V:=bA.ok (G7 (S7 p o r) K3 (List.replicate p.procs.length []));have b0:=bA.more K3;have en:=bA.bound K3;have cG:=bA.bound (K3+1);have a9:=ac7 (S7 p o r) K3 (List.replicate p.procs.length []);simp only[i5,simprocAttr,ct];refine A4 (λhc=>?_) (λhc=>?_)
 .subst hc;clear aV;generalize bc:G7 (S7 p o r) K3 (List.replicate p.procs.length [])=U at *;generalize cm:S7 p o r U=Q3 at *;obtain⟨cT,z3,cf⟩:=a5.reset (P:=prog) (t:=135) (ix:=3) (by simp) (λv v'=>by simp) b8 be;have dx:(Instr.loadAt 116 (.pointer (some ⟨z,0,none⟩))).run prog cT = .ok (.pointer (some ⟨S,0,none⟩)) cT:=E7 (i:=0) cf.cb rfl bc1;have cy:=dz cT cf.hb;simp only[add_lit,ej1]at cy;have de:=bi.isS;have dk:=bi.vlen;simp only[i5,n9,simprocAttr,bY,z3,dx,cy,de,dk];refine D9 [1,3,10,124,125] (σ:=Nat×Value) (λs f j=>f 126 = .int .i64 s.1/\s.1<=(d9 p).l.length/\BM (α:=List A9) (β:=List A9) (C1 H (nB z (.slice none 0 0) A (λ_=>False))) G.drew H j (λ_=>False) z 137 31 31 (λv=>#[.pointer (some ⟨S,0,none⟩),vx,vx2,v,A,C]) s.2 A (((d9 p).l.take s.1).map λit=>E3 (au0 p U it.s)) U) (λs=>(d9 p).l.length-s.1) (0,.slice none 0 0) ?_ ?_
  .simp only[B3,simprocAttr];exact⟨by trivial,eg3 _,cf⟩
  clear cf a5;rintro⟨m,vd⟩ f7 w7 hk ⟨aF,bN,s7⟩;simp only at aF bN s7;simp only[ei3,B3,simprocAttr]at hk;obtain⟨b1,b3,bm,bl,bn,_⟩:=hk;rw[c2]at b1;rw[bY]at b3;simp only[i5,n9,simprocAttr,aF,bn];refine A4 (λhc=>?_) (λhc=>?_)
  .have q:m<(d9 p).l.length:=by simpa using hc
   have cK:=bi.inS q;obtain⟨sv,a1,bL⟩:=F5 (P:=prog) (t:=150) bi (s7.hb) (ef1 q) aa7 aa9 Z3 J3;rw[J3]at bL;have aG:((d9 p).l.take (m+1)).map (λit=>E3 (au0 p U it.s))=((d9 p).l.take m).map (λit=>E3 (au0 p U it.s))++[E3 (au0 p U (d9 p).l[m].s)]:=by
    rw[ef8 q,ei4];rfl
   have ag:=hr.fits _ (eg2 q);have aA:=bK _ (eg2 q);have aX:((((d9 p).l.take m).map λit=>E3 (au0 p U it.s))).length<=200:=by rw[eg5,eg0];omega
   generalize(d9 p).l[m]=it at a1 aG ag aA;generalize((d9 p).l.take m).map (λit=>E3 (au0 p U it.s))=xs at s7 aG aX;obtain⟨d,eh,w8,cI,cM,cO,bD⟩:=aV9 (w:=w7) (A0 vd) a1 (λb a=>s7.ox.lt a);obtain⟨us,bQ,bE,_,_⟩:=I6.it a1 bD;have O:=(s7.more cO).more (o6.drew w8);have bq:∀j,o8 (A0 vd) w8.drew j->j.heap[z]?=some (.cells ((λv=>#[.pointer (some ⟨S,0,none⟩),vx,vx2,v,A,C]) vd) 137 (0,0)):=λj hm=>(hm.block z (ef5.1 O.cb).1 λh=>(O.dx z h).2.1 rfl).trans O.cb;have k2:∀K f d w0,F7 prog (λj=>o8 (A0 vd) w8.drew j) (Instr.loadAt 135 (.pointer (some ⟨z,3,none⟩))) K f d w0=K (C9 f d vd) w0:=λK f d w0=>C0 (w0:=w8.drew) (o8.refl _) λj h=>E7 (i:=3) (bq j h) rfl ag4;have k3:=(I6.st_v bQ bE).2 (λj=>o8 (A0 vd) w8.drew j) w8.drew (o8.refl _) λj h=>D8 ((o8.up (M:=A0 vd) (o6.drew w8)).trans h);simp only[i5,n9,y4,simprocAttr,aF,bl,cK,bL,cI,cM];refine B9 (λj=>o8 (A0 vd) w8.drew j) 12 (A5 [0,1,2,3,4,5,6,7,8,9,10,11]) ?_;simp only[D0,A5,i5,n9,simprocAttr,b3,k2,k3];refine t8 (dn0 ⟨z,0,none⟩ ⟨d9 p,J2 p,r,_,_,o⟩ p us it.s w8.drew (bF _ _ _ _ O) ⟨rfl,cH,ae⟩ hr.may (bQ.mono O.hb) aA ag) ?_;rintro u9 w9 ⟨ap,aH⟩;refine⟨o8.up aH,?_⟩;simp only[D0,i5,simprocAttr];refine t8 (ao3 ap (ef9 (bp4 ae aA) (by decide))) ?_;rintro ar Q ⟨B,am,_⟩;have D:o6 w8.drew Q:=ap.ext2 aH am;refine⟨o8.up D,?_⟩;have L:=O.more D;obtain⟨p1,cR,a6,bS,p2,p3,N,p4⟩:=L.push (P:=prog) (e:=135) cI9 rfl (x:=ar) (y:=E3 (au0 p U it.s)) (by rw[F0 B.isS];exact O.fresh B) (by omega) (by omega) (ix:=3) (by simp) (λv v'=>by simp) b8 be;rw[F0 B.isS]at p1 p2;simp only[D0,i5,n9,simprocAttr,p1,p2,F2];refine⟨(o8.up D).trans (o8.up (o6.alloc _ _)),(o8.up D).trans p4,?_⟩;simp only[i5,n9,simprocAttr,aF,p3];refine⟨(m+1,cR),by omega,eg8 _ (H8 m (by omega)),by omega,?_⟩;simp only[];rw[aG];exact N
  have F:m=(d9 p).l.length:=by simp at hc;omega
  subst F;rw[eg4]at s7;have bx:((d9 p).l.map λit=>E3 (au0 p U it.s))=R0 p U:=rfl;rw[bx]at s7;have aI:O7 (d9 p).l.length 2000000 (R0 p U):=bi2 λit bJ=>bp4 ae (bK it bJ);have cQ:=cP w7 (b7 (X.trans s7.ext));simp only[i5,n9,simprocAttr,b1,cQ,a8,bg];refine D9 [1,3,147] (σ:=Nat×Bool) (λs f j=>f 148 = .int .i64 s.1/\s.1<=p.procs.length/\f 10 = .bool s.2/\BM (α:=List A9) (β:=List A9) (C1 H (nB z (.slice none 0 0) A (λ_=>False))) G.drew H j (λ_=>False) z 137 31 31 (λv=>#[.pointer (some ⟨S,0,none⟩),vx,vx2,v,A,C]) vd A (R0 p U) (ba3 Q3 U s.1)/\(s.2=false->Q3.take s.1=U.take s.1)/\(s.2=true->Q3≠U)) (λs=>p.procs.length-s.1) (0,false) ?_ ?_
  .simp only[B3,simprocAttr];exact⟨by trivial,eg3 _,bm,by rw[ck9];exact s7,λ_=>by simp,λh=>by cases h⟩
  clear s7;rintro⟨i,mo⟩ f8 w8 hk ⟨ah,bI,ao,O,aE,aZ⟩;simp only at ah bI ao O aE aZ;simp only[ei3,B3,simprocAttr]at hk;obtain⟨c1,c3,cn,_⟩:=hk;rw[b1]at c1;rw[b3]at c3;simp only[i5,n9,simprocAttr,ah,cn];refine A4 (λhc=>?_) (λhc=>?_);rotate_left
  .have F:i=p.procs.length:=by simp at hc;omega
   subst F;rw[cH3 V.len ae.len]at O;rw[ej5 (by rw[V.len];exact eg6 _),ej5 (by rw[ae.len];exact eg6 _)]at aE;cases mo with
   | false=>
    have e:=aE rfl;simp only[i5,simprocAttr];refine⟨((vd,K3),(false,R0 p U)),?_,ao,?_,?_,λ_=>?_⟩
    .simp only[bc];simp;omega
    .simp only[bc];rw[e]at O;exact O
    .simp only[bc];exact ck
    .simp only[bc];exact⟨cm.trans e,trivial⟩
   | true=>
    have e:=aZ rfl;have q:=b0 e;rw[a9]at q cG;simp only[i5,simprocAttr];refine⟨((vd,K3+1),(true,R0 p U)),?_,ao,?_,?_,λh=>by cases h⟩
    .simp only[a9];simp;omega
    .simp only[a9];exact O
    .simp only[a9];omega
  have q:i<p.procs.length:=by simpa using hc
  have aq:Q3[i]?=some (E3 (aL8 p o (R0 p U) r i)):=by
   rw[<-cm];unfold S7;rw[ei9,eo0 q];rfl
  have a3:U[i]?=some (U[i]'(by rw[ae.len];exact q)):=ef1 _;have an:=cH4 (old:=U) V.len q;rw[a3]at an;have aY:=cH5 V.len ae.len q aq;have cL:=dg1 (i:=i) V ae;have bN:=bY6 (i:=i) V.len ae.len;have bO:Q3.take (i+1)=Q3.take i++[E3 (aL8 p o (R0 p U) r i)]:=by rw[es3,aq];rfl
  have bP:U.take (i+1)=U.take i++[U[i]'(by rw[ae.len];exact q)]:=by rw[es3,a3];rfl
  simp only[i5,simprocAttr,ah,c3];refine t8 (dt6 ⟨z,0,none⟩ ⟨d9 p,J2 p,r,_,_,o⟩ p i w8 (bF _ _ _ _ O) ⟨rfl,cH,cL⟩ rfl dU aI hr hw q) ?_;rintro u9 w9 ⟨ap,aH⟩;simp only[i5,simprocAttr];refine t8 (ao3 ap (ef9 (cR0 hr.may o (R0 p U) r i) (by decide))) ?_;rintro ar Q ⟨B,am,_⟩;have D:o6 w8 Q:=ap.ext2 aH am;have L:=O.more D;have aB:(E3 (aL8 p o (R0 p U) r i)).length<=25:=V.few _ (eh3 aq);have aU:(U[i]'(by rw[ae.len];exact q)).length<=25:=ae.few _ (eg2 _);have aO:=a3;generalize U[i]'(by rw[ae.len];exact q)=yi at an bP aU aO;generalize E3 (aL8 p o (R0 p U) r i)=qi at aq aY bO B aB;have bG:=O.fresh B;have aa:=L.oy.inS (k:=i) (by omega);cases mo with
  | true=>
   obtain⟨bS,q1,N⟩:=L.set (P:=prog) (t:=31) rfl (k:=i) (by omega) (u:=ar) (y:=qi) bG (F0 B.isS) b6 bd;rw[aY]at N;have a4:(Instr.loadAt 135 (.pointer (some ⟨z,4,none⟩))).run prog Q = .ok A Q:=E7 (i:=4) L.cb rfl ag4;simp only[i5,n9,y4,simprocAttr,ao,ah,c3,a4,aa,q1];refine⟨(i+1,true),by omega,eg8 _ (H8 i (by omega)),by omega,by trivial,N,(λh=>by cases h),λ_=>aZ rfl⟩
  | false=>
   obtain⟨ur,cN,bM⟩:=bt7 (P:=prog) (t:=31) L.oy an P8;have a4:(Instr.loadAt 135 (.pointer (some ⟨z,4,none⟩))).run prog Q = .ok A Q:=E7 (i:=4) L.cb rfl ag4;simp only[i5,n9,y4,simprocAttr,ao,c3,a4,aa,bM];refine t8 (bC3 ar ur qi yi Q (B.rw_ (b7 D)) (A3.mono (A8 _ _) cN) (by omega) (by omega)) ?_;rintro _ a6 ⟨rfl,aN⟩;have bR:=L.more aN;have aW:=A3.mono (K0 aN (λ_ h=>h.elim) λb h=>.inl h) bG;obtain⟨bS,q1,N⟩:=bR.set (P:=prog) (t:=31) rfl (k:=i) (by omega) (u:=ar) (y:=qi) aW (F0 B.isS) b6 bd;rw[aY]at N;have aP:(Instr.loadAt 135 (.pointer (some ⟨z,4,none⟩))).run prog a6 = .ok A a6:=E7 (i:=4) bR.cb rfl ag4;rcases ef2 (decide (qi=yi))with he|he
   .have e:=ef3 he;simp only[i5,n9,y4,simprocAttr,he,ah,c3,aP,aa,q1];refine⟨(i+1,false),by omega,eg8 _ (H8 i (by omega)),by omega,by trivial,N,λ_=>?_,λh=>by cases h⟩;simp only[];rw[bO,bP,aE rfl,e]
   .have e:=ef7 he;simp only[i5,n9,y4,simprocAttr,he,ah,c3,aP,aa,q1];refine⟨(i+1,true),by omega,eg8 _ (H8 i (by omega)),by omega,by trivial,N,(λh=>by cases h),λ_ h=>e ?_⟩;have h1:=eg8 (λl:Rws=>l[i]?) h;simp only[aq,aO]at h1;exact eh1 h1
 have aL:=aV hc;have c9:af9 p=G7 (S7 p o r) K3 (List.replicate p.procs.length []):=by
  unfold af9;rw[co,ci];exact aH6 K3 1000 _ (by omega) aL.1
 rw[<-c9]at a5 aL;rw[aL.2]at a5;have b4:i4 p=⟨d9 p,J2 p,r,R0 p (af9 p),af9 p,o⟩:=by
  unfold i4;rw[co,ci]
 simp only[i5,simprocAttr,bY];exact o7 results73 ⟨λh=>(by cases h),λ_=>⟨_,rfl,by rw[b4];exact bF _ _ _ _ a5⟩,dt.trans (X.trans a5.ext)⟩
def bF8{p:Pg}(hm:M8 p=true):∃k,K8 p=G7 (G8 p) k (List.replicate p.procs.length [])/\G8 p (K8 p)=K8 p:=by
 have c:=ba4 hm;have g:=(T0 hm).2;have a:∀m,(∃k,k<=m/\G8 p (G7 (G8 p) k (List.replicate p.procs.length []))=G7 (G8 p) k (List.replicate p.procs.length []))\/m<=aF8 (G7 (G8 p) m (List.replicate p.procs.length [])):=λm=>by
  induction m with
  | zero=>exact .inr (eg3 _)
  | succ m d=>
   rcases d with⟨k,f,e⟩|d
   .exact .inl ⟨k,by omega,e⟩
   .by_cases e:G8 p (G7 (G8 p) m (List.replicate p.procs.length []))=G7 (G8 p) m (List.replicate p.procs.length [])
    .exact .inl ⟨m,by omega,e⟩
    .have:=c.more m e;exact .inr (by omega)
 rcases a 500 with⟨k,f,e⟩|h
 .have b:K8 p=G7 (G8 p) k (List.replicate p.procs.length []):=aH6 k 1000 _ (by omega) e;exact⟨k,b,by rw[b];exact e⟩
 .have:=c.bound 500;omega
def cG6{p:Pg}(b:D3 p)(hw:B7 p<=1000000):∃k,af9 p=G7 (S7 p (K8 p) (J8 p (K8 p))) k (List.replicate p.procs.length [])/\S7 p (K8 p) (J8 p (K8 p)) (af9 p)=af9 p:=by
 have a:=bm4 b.may (K8 p) (J8 p (K8 p)) λi j=>cy1 b hw i j;have n:=(T0 b.may).2;generalize g:S7 p (K8 p) (J8 p (K8 p))=G at a;have c:∀m,(∃k,k<=m/\G (G7 G k (List.replicate p.procs.length []))=G7 G k (List.replicate p.procs.length []))\/m<=aF8 (G7 G m (List.replicate p.procs.length [])):=λm=>by
  induction m with
  | zero=>exact .inr (eg3 _)
  | succ m f=>
   rcases f with⟨k,l,e⟩|f
   .exact .inl ⟨k,by omega,e⟩
   .by_cases e:G (G7 G m (List.replicate p.procs.length []))=G7 G m (List.replicate p.procs.length [])
    .exact .inl ⟨m,by omega,e⟩
    .have:=a.more m e;exact .inr (by omega)
 rcases c 500 with⟨k,l,e⟩|h
 .have d:af9 p=G7 G k (List.replicate p.procs.length []):=by
   unfold af9;rw[g];exact aH6 k 1000 _ (by omega) e
  exact⟨k,d,by rw[d];exact e⟩
 .have:=a.bound 500;omega
def aF2{p:Pg}(hm:M8 p=true):O7 p.procs.length 25 (K8 p):=by
 obtain⟨k,e,_⟩:=bF8 hm;rw[e];exact(ba4 hm).iter_ok k
def aT7{p:Pg}(a:D3 p)(hw:B7 p<=1000000):O7 p.procs.length 25 (af9 p):=by
 obtain⟨k,e,_⟩:=cG6 a hw;rw[e];exact(bm4 a.may (K8 p) (J8 p (K8 p)) λi b=>cy1 a hw i b).iter_ok k
def bN3{p:Pg}(b:D3 p)(hw:B7 p<=1000000):O7 (d9 p).l.length 100 (i4 p).defs:=bi2 λit a=>aT0 b.may (aF2 b.may) (b.fits it a)
def bN4{p:Pg}(b:D3 p)(hw:B7 p<=1000000):O7 (d9 p).l.length 2000000 (i4 p).uses:=bi2 λit a=>bp4 (aT7 b hw) (am0 p hw it a)
def L9{p:Pg}{i:Nat}(a:i<p.procs.length):(i4 p).way (i:Int)=D7 (d9 p) i:=by
 unfold Bk.way;rw[eh6];exact bX7 (V6 a)
def M3{p:Pg}{i:Nat}(a:i<p.procs.length):(i4 p).s.fn (i:Int)=p.procs[i]:=by
 have e:(i4 p).s=d9 p:=rfl;rw[e];unfold Sh.fn;rw[K5,eh6,List.getD,ef1 a];rfl
def aE6{α β:Type}(g:α->β)(l:List α){k:Nat}(a:k<l.length):(l.take (k+1)).map g=(l.take k).map g++[g l[k]]:=by
 rw[ef8 a,ei4];rfl
def an9{p:Pg}{i x y:Nat}{wy:Wy}(a:am8 p i x y wy){k:Nat}(b:k≠0)(d:(k:Int)<wy.n-1):∃q:Nat,wy.place (k:Int)-1=(q:Int)/\q<(d9 p).l.length/\wy.place (k:Int)=(q:Int)+1/\(x:Int)<(q:Int)+1/\(q:Int)+1<=(y:Int):=by
 have f:=a.n;have c:=a.part.ok.len;have e:wy.place (k:Int)=(x:Int)+1+k-1:=by
  rw[a.toWyOk.place,if_neg (by omega),if_neg (by omega)]
 exact⟨x+k-1,by omega,by omega,by omega,by omega,by omega⟩
def cL6(h:Hp)(a:Addr)(p:Pg)(i k:Nat)(w:World)(ha:At h a (i4 p))(L:B8 h (m8 w))(hr:D3 p)(hw:B7 p<=1000000)(E:i<p.procs.length)(hk:(k:Int)<(D7 (d9 p) i).n):
  o9 prog 234 #[.pointer (some a),.int .i64 i,.int .i64 k] w λu o=>(R (aW6 h w o) u ((i4 p).gives i k)/\o6 w o):=by
 refine p9 [.pointer (some a),.int .i64 i,.int .i64 k] func234 rfl ?_;obtain⟨x,pt⟩:=I1 hr.may hw i E;have A:=O8 pt;generalize x+A7 p.procs[i].body=y at pt A;have be:=H7 hr.may;have r:(i4 p).gives (i:Int) (k:Int)=if(k:Int)=0 then E3 (H6 (af9 p) (i:Int)++p.procs[i].params.map (·.name))else if(k:Int)=(D7 (d9 p) i).n-1\/atB (D7 (d9 p) i).live (k:Int)=false then[]else H6 (J8 p (K8 p)) ((D7 (d9 p) i).place (k:Int)-1):=by
  unfold Bk.gives;rw[L9 E,M3 E];rfl
 obtain⟨sh,vw,vd,_,vi,_,has,ar,ao,_,ap,_,au,bc⟩:=ha.book rfl;obtain⟨_,_,_,_,_,_,aj,_,_⟩:=has.sh;rw[K5]at aj;obtain⟨vg,vp,bn,aq,a6,bu⟩:=aj.pg;obtain⟨aw,aJ,D⟩:=as5 (hv:=ar) (k:=i) (p:=⟨D7 (d9 p) i⟩) (by show((J2 p).map λw=>(⟨w⟩:Ptr Wy))[i]?=_;rw[ei9,V6 E];rfl);simp only at D;have v:=ar.inS (k:=i) (by show i<((J2 p).map λw=>(⟨w⟩:Ptr Wy)).length;unfold J2;simpa using E);have lb:=au w L;have F:=J1 (P:=prog) (t:=114) aJ L as8;have c:∀o,o6 w o->B8 h (m8 o):=λo hx=>p7 L (b7 hx);have hn:=A.n;have bf:=pt.ok.len;rcases Nat.eq_zero_or_pos k with ag|ag
 .subst ag;rw[if_pos (by trivial)]at r;obtain⟨C,W,ac⟩:=(aT7 hr hw).row E;generalize H6 (af9 p) (i:Int)=J at C W ac r;obtain⟨ui,a0,aI⟩:=R.row ap (show(i4 p).ins[i]?=some J from C);have ae:=ap.inS (k:=i) (show i<(af9 p).length from(ef6.1 C).1);have aQ:=J1 (P:=prog) (t:=31) aI L P8;simp only[i5,n9,y4,simprocAttr,lb,v,F,ae,aQ];refine t8 (ax4 ui J w (A3.mono L a0) (by omega)) ?_;rintro u2 w2 ⟨aU,H⟩;have a4:=au w2 (c w2 H);have a9:=a6 w2 (c w2 H);have K:=aq.at_ (i:=i) (x:=p.procs[i]) (ef1 E);have af:=aq.inS (k:=i) E;have a3:A3.sz Pr=5:=rfl;rw[a3]at K;obtain⟨bA,_,_,_,l,_,_,_,a7,_⟩:=K.pr;have ba:=a7 w2 (c w2 H);have aW:=T9 hr.may E;generalize p.procs[i].params=n at l aW r;have aE:=l.isS;have aT:=l.vlen;simp only[i5,n9,y4,simprocAttr,a4,a9,af,ba,aE,aT];refine D9 [40,41] (σ:=Nat×Value) (λs f o=>f 42 = .int .i64 s.1/\f 8=s.2/\s.1<=n.length/\B0 (m8 w) o 9 s.2 (J++(n.take s.1).map (·.name))/\o6 w o) (λs=>n.length-s.1) (0,u2) ?_ ?_
  .simp only[B3,simprocAttr];exact⟨by trivial,by trivial,eg3 _,by simpa using aU,H⟩
  rintro⟨j,u⟩ f w3 hk ⟨O,h8,aN,ho,m⟩;simp only at O h8 aN ho;simp only[ei3,B3,simprocAttr]at hk;obtain⟨aB,aC,_⟩:=hk;simp only[i5,n9,simprocAttr,O,aC];refine A4 (λhc=>?_) (λhc=>?_)
  .have V:j<n.length:=by simpa using hc
   have aM:=l.inS V;obtain⟨sv,am,ah⟩:=F5 (P:=prog) (t:=78) l (c w3 m) (ef1 V) bJ1 bJ7 bv6 az8;rw[az8]at ah;have an:=aE6 (λq:Pa=>q.name) n V;generalize n[j]=pa at am an;obtain⟨d,wz,w4,aF,aY,I,Q⟩:=aV7 (am.mono (c w3 m)) (n7 _);obtain⟨a5,_⟩:=Q.pa;have l4:=a5 w4 (n7 _);obtain⟨p1,u5,w5,p2,p3,p4,p5⟩:=pushS (e:=31) (ho.ext I) pa.name (by rw[ef4,eg5,eg0];omega) (b7 (m.trans I));simp only[i5,n9,y4,simprocAttr,O,h8,aB,aM,ah,aF,aY,l4,p1,p2];refine⟨(j+1,u5),by omega,eg8 _ (H8 j (by omega)),by trivial,by omega,?_,(ho.ext I).ext2 (m.trans I) p4⟩;simp only[];rw[an,<-ei0];exact p3
  .have aL:j=n.length:=by simp at hc;omega
   subst aL;rw[eg4]at ho;simp only[i5,simprocAttr,h8];refine t8 (ao3 ho (by rw[ef4,eg5];omega)) ?_;rintro u6 w6 ⟨aV,aR,_⟩;simp only[i5,simprocAttr];refine o7 results234 ?_;simp only[B3,simprocAttr];have e:(i4 p).gives (i:Int) 0=E3 (J++n.map (·.name)):=r;exact⟨by rw[e];exact aV.upR,ho.ext2 m aR⟩
 have B:decide ((k:Int)=0)=false:=by simp;omega
 rw[if_neg (by omega)]at r;have z:=λh0 aO=>an9 A (k:=k) h0 aO;have U:=A.live;obtain⟨_,_,vl,_,_,X,a8,bd⟩:=D.wy;have lw:=a8 w L;have G:IntKind.i64.wrap ((D7 (d9 p) i).n-1)=(D7 (d9 p) i).n-1:=M2 _ (by omega);generalize bj:D7 (d9 p) i=Z at A hn r z U X lw G hk D bd;rcases ef2 (decide ((k:Int)=Z.n-1))with hq|hq
 .rw[if_pos (.inl (ef3 hq))]at r;simp only[i5,n9,y4,simprocAttr,lb,v,F,B,lw,G,hq];exact o7 results234 ⟨by rw[r];exact aN0 _,o8.refl _⟩
 have T:k<Z.live.length:=by omega
 have M:=X.inS T;have g:=ldB X L T;have Q:Z.live[k]=atB Z.live (k:Int):=by
  unfold atB;rw[eh6,List.getD,ef1 T];rfl
 rw[Q]at g;have aS:=ef7 hq;rcases ef2 (atB Z.live (k:Int))with hl|hl;rotate_left
 .rw[if_pos (.inr hl)]at r;rw[hl]at g;simp only[i5,n9,y4,simprocAttr,lb,v,F,B,lw,G,hq,M,g];exact o7 results234 ⟨by rw[r];exact aN0 _,o8.refl _⟩
 rw[if_neg (by rw[hl];simp[aS])]at r;rw[hl]at g;obtain⟨q,ak,aX,bm,_⟩:=z (by omega) (by omega);rw[ak]at r;obtain⟨S,av,aK⟩:=(bN3 hr hw).row aX;have b:(J8 p (K8 p))[q]?=some (H6 (J8 p (K8 p)) (q:Int)):=S;generalize H6 (J8 p (K8 p)) (q:Int)=dr at b r;obtain⟨ud,aZ,aH⟩:=R.row ao (show(i4 p).defs[q]?=some dr from b);have ad:=ao.inS (k:=q) (show q<(J8 p (K8 p)).length from(ef6.1 b).1);have Y:=o6.drew w;have t1:=bc (λo=>o6 w.drew o) w.drew (o8.refl _) λo hx=>c o (Y.trans hx);simp only[i5,n9,y4,simprocAttr,lb,v,F,B,lw,G,hq,M,g];refine B9 (λo=>o6 w.drew o) 8 (A5 [0,1,2,3,4,5,6,7]) ?_;simp only[D0,A5,i5,n9,simprocAttr,t1];refine B2 (ad3 aw Z p i x y (k:Int) w.drew (D.mono (c _ Y)) A.toWyOk (by omega)) (λw3 m=>⟨m,?_⟩);have a1:IntKind.i64.wrap (Z.place (k:Int)-1)=(q:Int):=by rw[ak];exact M2 _ (by omega)
 have N:=Y.trans m;have aP:=J1 (P:=prog) (t:=31) aH (c w3 N) P8;simp only[D0,i5,n9,y4,simprocAttr,a1,ad,aP];exact o7 results234 ⟨by rw[r];exact A3.mono (bm1 L) aZ,N⟩
def cM2(h:Hp)(a:Addr)(p:Pg)(i k:Nat)(w:World)(ha:At h a (i4 p))(v:B8 h (m8 w))(Y:D3 p)(hw:B7 p<=1000000)(K:i<p.procs.length)(hk:(k:Int)<(D7 (d9 p) i).n):
  o9 prog 186 #[.pointer (some a),.int .i64 i,.int .i64 k] w λu l=>(R (aW6 h w l) u ((i4 p).takes i k)/\o6 w l):=by
 refine p9 [.pointer (some a),.int .i64 i,.int .i64 k] func186 rfl ?_;obtain⟨x,pt⟩:=I1 Y.may hw i K;have j:=O8 pt;generalize x+A7 p.procs[i].body=y at pt j;have aB:=H7 Y.may;have g:(i4 p).takes (i:Int) (k:Int)=if(k:Int)=(D7 (d9 p) i).n-1 then E3 (H6 (K8 p) (i:Int)++[U2])else if(k:Int)=0\/atB (D7 (d9 p) i).live (k:Int)=false then[]else H6 (R0 p (af9 p)) ((D7 (d9 p) i).place (k:Int)-1):=by
  unfold Bk.takes;rw[L9 K];rfl
 obtain⟨sh,vw,_,vu,_,vo,has,T,_,S,_,Q,av,az⟩:=ha.book rfl;obtain⟨aw,af,o⟩:=as5 (hv:=T) (k:=i) (p:=⟨D7 (d9 p) i⟩) (by show((J2 p).map λw=>(⟨w⟩:Ptr Wy))[i]?=_;rw[ei9,V6 K];rfl);simp only at o;have d:=T.inS (k:=i) (by show i<((J2 p).map λw=>(⟨w⟩:Ptr Wy)).length;unfold J2;simpa using K);have Z:=av w v;have r:=J1 (P:=prog) (t:=114) af v as8;have C:∀l,o6 w l->B8 h (m8 l):=λl hx=>p7 v (b7 hx);have hn:=j.n;have aD:=pt.ok.len;have aC:=pt.ok.le;have f:=λs ag=>an9 j (k:=k) s ag;have E:=j.live;obtain⟨_,_,vl,_,_,G,ax,aA⟩:=o.wy;have W:=ax w v;have n:IntKind.i64.wrap ((D7 (d9 p) i).n-1)=(D7 (d9 p) i).n-1:=M2 _ (by omega);generalize aH:D7 (d9 p) i=I at j hn g f E G W n hk o aA;rcases ef2 (decide ((k:Int)=I.n-1))with hq|hq
 .rw[if_pos (ef3 hq)]at g;obtain⟨m,F,J⟩:=(aF2 Y.may).row K;generalize H6 (K8 p) (i:Int)=X at m F J g;obtain⟨ui,aq,ae⟩:=R.row Q (show(i4 p).outs[i]?=some X from m);have M:=Q.inS (k:=i) (show i<(K8 p).length from(ef6.1 m).1);have aj:=J1 (P:=prog) (t:=31) ae v P8;simp only[i5,n9,y4,simprocAttr,Z,d,r,W,n,hq,M,aj];refine t8 (ax4 ui X w (A3.mono v aq) (by omega)) ?_;rintro u2 w2 ⟨N,U⟩;obtain⟨p1,u5,w5,p2,p3,p4,p5⟩:=pushS (e:=31) N U2 (by omega) (b7 U);have ay:(Instr.buildSlice 31 1 #[(0,.string ⟨#[36,114,101,116]⟩)]).run prog w2=_:=p1;simp only[i5,simprocAttr,ay,p2];refine t8 (ao3 p3 (by rw[ef4,ei6];omega)) ?_;rintro u6 w6 ⟨am,ak,_⟩;simp only[i5,simprocAttr];exact o7 results186 ⟨by rw[g];exact am.upR,p3.ext2 (N.ext2 U p4) ak⟩
 have al:=ef7 hq;rw[if_neg al]at g;rcases ef2 (decide ((k:Int)=0))with s|s
 .rw[if_pos (.inl (ef3 s))]at g;simp only[i5,n9,y4,simprocAttr,Z,d,r,W,n,hq,s];exact o7 results186 ⟨by rw[g];exact aN0 _,o8.refl _⟩
 have ab:=ef7 s;have D:k<I.live.length:=by omega
 have z:=G.inS D;have c:=ldB G v D;have ac:I.live[k]=atB I.live (k:Int):=by
  unfold atB;rw[eh6,List.getD,ef1 D];rfl
 rw[ac]at c;rcases ef2 (atB I.live (k:Int))with hl|hl;rotate_left
 .rw[if_pos (.inr hl)]at g;rw[hl]at c;simp only[i5,n9,y4,simprocAttr,Z,d,r,s,W,n,hq,z,c];exact o7 results186 ⟨by rw[g];exact aN0 _,o8.refl _⟩
 rw[if_neg (λan=>an.elim ab λe=>by rw[hl]at e;cases e)]at g;rw[hl]at c;obtain⟨q,O,ao,aL,_⟩:=f (by omega) (by omega);rw[O]at g;obtain⟨B,_,_⟩:=(bN4 Y hw).row ao;have b:(R0 p (af9 p))[q]?=some (H6 (R0 p (af9 p)) (q:Int)):=B;generalize H6 (R0 p (af9 p)) (q:Int)=dr at b g;obtain⟨ud,ap,ad⟩:=R.row S (show(i4 p).uses[q]?=some dr from b);have L:=S.inS (k:=q) (show q<(R0 p (af9 p)).length from(ef6.1 b).1);have H:=o6.drew w;have t1:=az (λl=>o6 w.drew l) w.drew (o8.refl _) λl hx=>C l (H.trans hx);simp only[i5,n9,y4,simprocAttr,Z,d,r,s,W,n,hq,z,c];refine B9 (λl=>o6 w.drew l) 8 (A5 [0,1,2,3,4,5,6,7]) ?_;simp only[D0,A5,i5,n9,simprocAttr,t1];refine B2 (ad3 aw I p i x y (k:Int) w.drew (o.mono (C _ H)) j.toWyOk (by omega)) (λw3 V=>⟨V,?_⟩);have ar:IntKind.i64.wrap (I.place (k:Int)-1)=(q:Int):=by rw[O];exact M2 _ (by omega)
 have A:=H.trans V;have ah:=J1 (P:=prog) (t:=31) ad (C w3 A) P8;simp only[D0,i5,n9,y4,simprocAttr,ar,L,ah];exact o7 results186 ⟨by rw[g];exact A3.mono (bm1 v) ap,A⟩
def cT1{α:Type}{l:List α}(h:l.Nodup){i j:Nat}(c:i<l.length)(d:j<l.length)(e:l[i]=l[j]):i=j:=by
 refine eq5 λa=>?_;have b:=em0.1 h;rcases Nat.lt_or_gt_of_ne a with h|h
 .exact b i j c d h e
 .exact b j i d c h e.symm
def aJ1{n:A9}(h:T8 n=true):n≠af1/\n≠U2/\n≠e0:=by
 refine⟨?_,?_,?_⟩<;>rintro rfl<;>exact absurd h (by decide)
def cb3:af1≠U2/\af1≠e0/\U2≠e0:=by decide
def bh2{p:Pg}(hm:M8 p=true){i:Nat}(e:i<p.procs.length):∃n m,X6 p.procs[i] n=some m:=by
 unfold M8 at hm;rw[eh5]at hm;have b:∀(l:List Pr) (n:Int),(l.foldlM (λn f=>X6 f n) n).isSome=true->∀f∈l,∃n m,X6 f n=some m:=by
  intro l
  induction l with
  | nil=>intro n _ f a;simp at a
  | cons g l o=>
   intro n h f a;rw[List.foldlM_cons]at h;obtain⟨k,j⟩:=el1.1 h;obtain⟨m,c,d⟩:=el4.1 j;rcases eh0.1 a with rfl|a
   .exact⟨n,m,c⟩
   .exact o m (by rw[d];rfl) f a
 exact b _ _ hm.2 _ (eg2 e)
def aB3{f:Pr}{n m:Int}(h:X6 f n=some m):T8 f.name=true/\(∀a∈f.params,T8 a.name=true)/\(∀v∈f.vars,T8 v=true)/\I4 12 f.body n=some m:=by
 unfold X6 at h;split at h
 .cases h
 .rename_i b;simp only[not_or,Bool.not_eq_false]at b;refine⟨b.2.2.1,?_,?_,h⟩
  .have:=b.2.2.2.2.2;rw[en8]at this;exact this
  .have:=b.2.2.2.1;unfold ai4 at this;rw[en8]at this;exact this
def ck4{p:Pg}(hm:M8 p=true){i:Nat}(e:i<p.procs.length):T8 p.procs[i].name=true/\(∀a∈p.procs[i].params,T8 a.name=true)/\(∀v∈p.procs[i].vars,T8 v=true):=by
 obtain⟨n,m,h⟩:=bh2 hm e;obtain⟨b,c,d,_⟩:=aB3 h;exact⟨b,c,d⟩
def ck3{p:Pg}(hm:M8 p=true):∀n∈p.globals,T8 n=true:=by
 unfold M8 at hm;simp only[eh5]at hm;have:=hm.1.2;unfold ai4 at this;rw[en8]at this;exact this
mutual
def ds9:∀(t:St) (d:Nat) (n m:Int),R3 t=true->((I4 d t.thn n).bind λm=>I4 d t.els m)=some m->∀(k:Nat) (f g e b:Int),∀it∈W0 t k f g e b,R3 it.s=true
 | .mk id kind labels name proc x has args thn els,d,n,m,hf,h,k,f,g,e,b,it,a=>by
  simp only[St.thn,St.els]at h;obtain⟨c,i,j⟩:=el4.1 h;rw[P3]at a;rcases eh0.1 a with rfl|a
  .exact hf
  .rcases eg1.1 a with a|a
   .exact be3 thn d n c i _ _ _ _ _ it a
   .exact be3 els d c m j _ _ _ _ _ it a
def be3:∀(l:List St) (d:Nat) (n m:Int),I4 d l n=some m->∀(k:Nat) (e f c b:Int),∀it∈C8 l k e f c b,R3 it.s=true
 | [],d,n,m,h,k,e,f,c,b,it,a=>by simp[C8]at a
 | t::l,0,n,m,h,k,e,f,c,b,it,a=>by simp[I4]at h
 | t::l,d+1,n,m,h,k,e,f,c,b,it,a=>by
  rw[ao1]at h;obtain⟨j,g,o⟩:=el4.1 h;split at g
  .cases g
  .rename_i i;simp only[not_or,Bool.not_eq_false]at i;rw[C8]at a;rcases eg1.1 a with a|a
   .exact ds9 t d (n+1) j i.2.2.2 g _ _ _ _ _ it a
   .exact be3 l (d+1) j m o _ _ _ _ _ it a
end
def cx7{p:Pg}(hm:M8 p=true){i:Nat}(b:i<p.procs.length)(hw:B7 p<=1000000):∀it∈(d9 p).of i,R3 it.s=true:=by
 obtain⟨x,_,a⟩:=V2 p hw i b;obtain⟨n,m,h⟩:=bh2 hm b;intro it hit;rw[a]at hit;exact be3 _ _ _ _ (aB3 h).2.2.2 _ _ _ _ _ it hit
def br4{s:St}(h:R3 s=true):∀a∈s.args,a.ref=true->T8 a.name=true:=by
 unfold R3 at h;split at h
 .cases h
 .simp only[eh5]at h;have:=h.2;unfold aT5 at this;rw[en8]at this;intro a b c;have:=this a b;rw[eh5]at this;have:=this.1;unfold ac9 at this;rw[c]at this;simpa using this
def bt3{p:Pg}(hm:M8 p=true){it:It}(a:it∈(d9 p).l):(d9 p).l[(it.s.id-1).toNat]?=some it/\(d9 p).it it.s.id=it/\1<=it.s.id:=by
 obtain⟨j,b⟩:=eo5.1 a;have h:=aw3 hm j it b;have e:(it.s.id-1).toNat=j:=by omega
 refine⟨by rw[e];exact b,?_,by omega⟩;unfold Sh.it;rw[e,List.getD,b];rfl
def aW9{p:Pg}{i x y:Nat}(b:as2 p i x y){it:It}(a:it∈(d9 p).of i):it∈(d9 p).l:=by
 rw[b.ok.of_]at a;exact em8 (er4 a)
def cg0{p:Pg}(hm:M8 p=true)(X:Rws){it:It}(a:it∈(d9 p).l):H6 (J8 p X) (it.s.id-1)=E3 (aj5 p X it.s):=by
 unfold H6 J8;rw[List.getD,ei9,(bt3 hm a).1];rfl
def bz9:∀(l a:List A9),∃t,U3 a l=a++t
 | [],a=>⟨[],by simp[U3]⟩
 | n::l,a=>by
  rw[U3];obtain⟨t,e⟩:=bz9 l (if a.contains n then a else a++[n]);rw[e];split
  .exact⟨t,rfl⟩
  .exact⟨n::t,by simp⟩
def aZ1(g:A9->List A9):∀(m i:Nat) (a:List A9),∀x∈a,x∈R5 g m i a
 | 0,i,a,x,h=>h
 | m+1,i,a,x,h=>by
  rw[R5];split
  .exact h
  .exact aZ1 g m (i+1) _ x ((ax2 _ _ _).2 (.inl h))
def aC1{g:A9->List A9}{names:List A9}(q:∀m∈names,∀x∈g m,x∈names):∀(m i:Nat) (a:List A9),a.Nodup->(∀x∈a,x∈names)->names.length+1<=i+m->i<=a.length ->
  (∀k y,k<i->a[k]?=some y->∀x∈g y,x∈a)->∀y∈R5 g m i a,∀x∈g y,x∈R5 g m i a
 | 0,i,a,hn,hs,hl,hi,hc=>by
  have:=J6 hn hs;omega
 | m+1,i,a,hn,hs,hl,hi,hc=>by
  rw[R5];split
  .rename_i h;intro y e x b;obtain⟨k,l⟩:=eo5.1 e;have:=(ef6.1 l).1;have:=List.getElem?_eq_none_iff.1 h;exact hc k y (by omega) l x b
  .rename_i n h;obtain⟨f,j⟩:=ef6.1 h;have o:n∈names:=hs n (j ▸ eg2 f);obtain⟨t,p⟩:=bz9 (g n) a;refine aC1 q m (i+1) _ (aG7 _ _ hn) (λx b=>?_) (by omega) (by rw[p,ef4];omega) λk y l e x b=>?_
   .rcases(ax2 _ _ _).1 b with b|b
    .exact hs x b
    .exact q n o x b
   .have c:a[k]?=some y:=by
     rw[p,ek3 (by omega)]at e;exact e
    refine(ax2 _ _ _).2 ?_;rcases ej6 k i with d|d
    .exact .inl (hc k y d c x b)
    .obtain rfl:k=i:=by omega
     rw[h]at c;obtain rfl:=eh1 c;exact .inr b
def bA1{s:Sh}{n x:A9}:x∈aD2 s n↔x∈R5 (ak9 s) (s.p.procs.length+1) 0 [n]:=(W4 _).mem_iff
def bN0(s:Sh)(n:A9):n∈aD2 s n:=bA1.2 (aZ1 _ _ _ _ _ (by simp))
def bq5{p:Pg}(K:Known p){n:A9}(hn:n∈p.procs.map (·.name)):∀y∈aD2 (d9 p) n,∀x∈ak9 (d9 p) y,x∈aD2 (d9 p) n:=by
 intro y b x a;rw[bA1]at b ⊢;refine aC1 (names:=p.procs.map (·.name)) (λm hm x a=>aO6 K hm a) _ _ _ (by simp) (λx a=>?_) (by rw[K5];simp) (by simp) (λk y c=>by omega) y b x a;simp only[eh2]at a;subst a;exact hn
def cr8{p:Pg}(K:Known p){n m:A9}(hn:n∈p.procs.map (·.name))(hm:m∈aD2 (d9 p) n):∀x∈aD2 (d9 p) m,x∈aD2 (d9 p) n:=by
 intro x a;rw[bA1]at a;exact(aH4 (names:=aD2 (d9 p) n) (bq5 K hn) _ _ _ (by simp) (λx a=>by
  simp only[eh2]at a;subst a;exact hm)).2 x a
def cm9{p:Pg}(h:E0 p=true):(P6 p).1=0:=by
 have h:=ef3 h;unfold aO7 at h;split at h
 .simp at h
 split at h
 .rename_i a;exact absurd h a
 .rename_i a;exact eq5 a
def bo2{p:Pg}(h:(P6 p).1=0){n v:A9}(hn:n∈p.procs.map (·.name)):v∈R8 p n↔∃m∈aD2 (d9 p) n,∃it∈(d9 p).of ((d9 p).pr m),v∈L6 it.s/\v∈p.globals:=by
 have a:aQ6 p n=true:=by
  unfold aQ6;obtain⟨q,b,rfl⟩:=eh4.1 hn;rw[ek5 h,em1,es5];exact⟨q,b,by simp⟩
 unfold R8;rw[if_pos a];simp only[J7,ei7,eh8,eg7]
def dk0{p:Pg}(h:(P6 p).1=0)(K:Known p){n m v:A9}(hn:n∈p.procs.map (·.name))(hm:m∈aD2 (d9 p) n)(a:m∈p.procs.map (·.name))(hv:v∈R8 p m):v∈R8 p n:=by
 rw[bo2 h a]at hv;rw[bo2 h hn];obtain⟨q,b,r⟩:=hv;exact⟨q,cr8 K hn hm q b,r⟩
def bt5{p:Pg}(K:Known p){i:Nat}(b:i<p.procs.length):(d9 p).pr p.procs[i].name=(i:Int):=by
 obtain⟨k,d,e,f⟩:=T3 (p:=p) (n:=p.procs[i].name) (eh4.2 ⟨_,eg2 b,rfl⟩);rw[e];have a:k=i:=by
  have c:(p.procs.map (·.name))[k]'(by simpa using d)=(p.procs.map (·.name))[i]'(by simpa using b):=by simp[f]
  exact cT1 K.names _ _ c
 rw[a]
def cy8{p:Pg}(h:(P6 p).1=0)(g:D3 p)(hw:B7 p<=1000000):∀(k i:Nat) (j:i<p.procs.length) (n:A9),n∈H6 (G7 (G8 p) k (List.replicate p.procs.length [])) (i:Int)->n∈p.globals->n∈R8 p p.procs[i].name:=by
 intro k
 induction k with
 | zero=>
  intro i j n a _;rw[G7,bh9 (by simpa using j)]at a;simp at a
 | succ k w=>
  intro i j n a u;rw[ac7]at a;generalize G7 (G8 p) k (List.replicate p.procs.length [])=X at w a;have o:p.procs[i].name∈p.procs.map (·.name):=eh4.2 ⟨_,eg2 j,rfl⟩;rw[bh9 (by unfold G8;simpa using j)]at a;unfold G8 at a;rw[em7,es1,J7]at a;unfold ag1 at a;obtain⟨it,d,a⟩:=ei7.1 a;have d:=(eh8.1 d).1;have a:=(eh8.1 a).1;obtain⟨x,s⟩:=I1 g.may hw i j;rw[cg0 g.may X (aW9 s d),J7]at a;have m:=aJ1 (ck3 g.may n u);have b:n∈L6 it.s->n∈R8 p p.procs[i].name:=λE=>by
   rw[bo2 h o];exact⟨_,bN0 _ _,it,by rw[bt5 g.toKnown j];exact d,E,u⟩
  have f:it.s.kind≠10->n=it.s.name->n∈L6 it.s:=λl e=>by
   unfold L6;rw[if_pos ⟨l,by rw[<-e];exact m.2.2⟩,e];simp
  unfold aj5 at a;split at a
  .rename_i l;exact b (f (by omega) (by simpa using a))
  split at a
  .rename_i l;simp only[eh0,ek1,eq2]at a;rcases a with e|e
   .exact b (f (by omega) e)
   .exact absurd e m.1
  split at a
  .simp only[eh2]at a;exact absurd a m.2.1
  split at a
  .rename_i l;unfold au3 at a;rcases eg1.1 a with a|a
   .rcases eg1.1 a with a|a
    .split at a
     .simp at a
     .exact b (f (by omega) (by simpa using a))
    .obtain⟨z,v,rfl⟩:=eh4.1 a;obtain⟨v,q⟩:=eh8.1 v;rw[eh5]at q;refine b ?_;unfold L6;refine ej4 _ (ei7.2 ⟨z.1,(List.of_mem_zip v).1,?_⟩);unfold M6;rw[if_pos q.1];simp
   .have a:=(eh8.1 a).1;obtain⟨c,r⟩:=Y6 (g.fits it (aW9 s d) l);rw[r.idx]at a;have D:=r.lt;have t:p.procs[c].name=it.s.proc:=by
     obtain⟨y,C,A,B⟩:=T3 (aH2 g.toKnown hw (aW9 s d) l);rw[r.pr]at A;obtain rfl:c=y:=by omega
     exact B
    have:=w c r.lt n a u;rw[t]at this;refine dk0 h g.toKnown o (bq5 g.toKnown o _ (bN0 _ _) _ ?_) (aH2 g.toKnown hw (aW9 s d) l) this;unfold ak9;rw[J7,bt5 g.toKnown j];exact eh4.2 ⟨it,eh8.2 ⟨d,by simpa using l⟩,rfl⟩
  .simp at a
def cl6{p:Pg}(a:E0 p=true)(hw:B7 p<=1000000){i:Nat}(c:i<p.procs.length){n:A9}(hn:n∈H6 (K8 p) (i:Int))(b:n∈p.globals):n∈R8 p p.procs[i].name:=by
 obtain⟨k,e,_⟩:=bF8 (G6 a).may;rw[e]at hn;exact cy8 (cm9 a) (G6 a) hw k i c n hn b
def bb4{name:A9}{d:List A9}:∀{l:List Ar} {f:List A9},am2 name d f l=true->(∀(j:Nat) (a:Ar),l[j]?=some a->a.ref=true->a.name∉f/\a.name≠name/\a.name∉d) /\
  ∀(j k:Nat) (a b:Ar),l[j]?=some a->l[k]?=some b->a.ref=true->b.ref=true->a.name=b.name->j=k
 | [],f,_=>⟨λj a h=>by simp at h,λj k a b h=>by simp at h⟩
 | c::l,f,h=>by
  rw[am2]at h;by_cases hr:c.ref=true
  .rw[if_pos hr]at h;split at h
   .cases h
   .rename_i p;have p:=ep7.2 p;simp only[Bool.or_eq_false_iff,es2]at p;obtain⟨⟨t,v⟩,u⟩:=p;obtain⟨o,s⟩:=bb4 h;have q:c.name∉f:=λhm=>by rw[eg7.2 hm]at t;cases t
    have r:c.name∉d:=λhm=>by rw[eg7.2 hm]at u;cases u
    refine⟨λj a g i=>?_,λj k a b g m i n e=>?_⟩
    .cases j with
     | zero=>
      obtain rfl:c=a:=by simpa using g
      exact⟨q,v,r⟩
     | succ j=>
      obtain⟨w,x⟩:=o j a (by simpa using g) i;exact⟨λhm=>w (ei1 _ hm),x⟩
    .cases j with
     | zero=>
      obtain rfl:c=a:=by simpa using g
      cases k with
      | zero=>rfl
      | succ k=>
       have:=(o k b (by simpa using m) n).1;exact absurd (ej4 _ (by rw[e];simp)) this
     | succ j=>
      cases k with
      | zero=>
       obtain rfl:c=b:=by simpa using m
       have:=(o j a (by simpa using g) i).1;exact absurd (ej4 _ (by rw[e];simp)) this
      | succ k=>rw[s j k a b (by simpa using g) (by simpa using m) i n e]
  .rw[if_neg hr]at h;obtain⟨o,s⟩:=bb4 h;refine⟨λj a g i=>?_,λj k a b g m i n e=>?_⟩
   .cases j with
    | zero=>
     obtain rfl:c=a:=by simpa using g
     exact absurd i hr
    | succ j=>exact o j a (by simpa using g) i
   .cases j with
    | zero=>
     obtain rfl:c=a:=by simpa using g
     exact absurd i hr
    | succ j=>
     cases k with
     | zero=>
      obtain rfl:c=b:=by simpa using m
      exact absurd n hr
     | succ k=>rw[s j k a b (by simpa using g) (by simpa using m) i n e]
def dE9:ap4 prog 133=true:=by kernel_rfl
def cP9(x y:Fw)(w:World):o9 prog 190 #[.agg (p8.cells x).toArray,.agg (p8.cells y).toArray] w λu d=>(u = .int .i64 (fwC x y)/\Gr w d):=by
 refine p9 [.agg (p8.cells x).toArray,.agg (p8.cells y).toArray] func190 rfl ?_;obtain⟨a,C,i,k,r⟩:=ce7 (P:=prog) (T:=210) (SV.ofN (m8 w) x) (n7 _);obtain⟨b,c,j,e,s⟩:=ce7 (P:=prog) (T:=210) (SV.ofN (m8 C) y) (n7 _);obtain⟨_,z⟩:=(r.mono (b7 e.ext)).fw;obtain⟨_,A⟩:=s.fw;have t:=z (λd=>Gr c.drew d) c.drew (Gr.refl _) λd h=>b7 ((Gr.drew c).trans h).ext;have v:=A (λd=>Gr c.drew d) c.drew (Gr.refl _) λd h=>b7 ((Gr.drew c).trans h).ext;simp only[i5,n9,simprocAttr,i,j];refine B9 (λd=>Gr c.drew d) 18 (A5 [0,1,3,4,7,8,10,11,14,15,16,17,2,5,6,9,12,13]) ?_ (hS:=Gr.refl _);simp only[D0,A5,i5,n9,simprocAttr,t,v];refine E6 (aq2 _ _) ⟨Gr.refl _,?_⟩;simp only[D0,i5,simprocAttr];refine E6 (aq2 _ _) ⟨Gr.refl _,?_⟩;simp only[D0,i5,simprocAttr];refine E6 (Y1 _ _ _) ⟨Gr.refl _,?_⟩;simp only[D0,i5,simprocAttr];refine E6 (aq2 _ _) ⟨Gr.refl _,?_⟩;simp only[D0,i5,simprocAttr];refine E6 (aq2 _ _) ⟨Gr.refl _,?_⟩;simp only[D0,i5,simprocAttr];refine E6 (Y1 _ _ _) ⟨Gr.refl _,?_⟩;simp only[D0,i5,simprocAttr];refine E6 (aG5 _ _ _) ?_;generalize m:[M1 (F8 x.src) (F8 y.src),M1 (F8 x.dst) (F8 y.dst),af4 x.var y.var]=l;have q:fwC x y=orF l:=by rw[<-m];rfl
 have p:l.length=3:=by rw[<-m];rfl
 obtain⟨B,D,g,o,f⟩:=du3 (P:=prog) (w:=c.drew) (h:=m8 c.drew) (α:=Int) (xs:=[.int .i64 (M1 (F8 x.src) (F8 y.src)),.int .i64 (M1 (F8 x.dst) (F8 y.dst)),.int .i64 (af4 x.var y.var)]) (ys:=l) (parts:=#[(0,.int .i64 (M1 (F8 x.src) (F8 y.src))),(1,.int .i64 (M1 (F8 x.dst) (F8 y.dst))),(2,.int .i64 (af4 x.var y.var))]) (n:=3) V4 rfl (by rw[<-m];exact G4.2 rfl) (by simp[Value.cells]) rfl p (by simp) (by simp) (n7 _);simp only[i5,simprocAttr,g];refine E6 (bV2 B l D (o.rw_ (b7 f.ext)) (by omega)) ?_;simp only[i5,simprocAttr];refine o7 results190 ?_;simp only[B3,simprocAttr];exact⟨by rw[q],k.trans (e.trans ((Gr.drew c).trans f))⟩
def bk4(x y:Vx)(w:World):o9 prog 133 #[.agg (p8.cells x).toArray,.agg (p8.cells y).toArray] w λu d=>(u = .int .i64 (vxC x y)/\Gr w d):=by
 refine p9 [.agg (p8.cells x).toArray,.agg (p8.cells y).toArray] func133 rfl ?_;obtain⟨a,C,i,k,r⟩:=ce7 (P:=prog) (T:=26) (SV.ofN (m8 w) x) (n7 _);obtain⟨b,c,j,e,s⟩:=ce7 (P:=prog) (T:=26) (SV.ofN (m8 C) y) (n7 _);obtain⟨_,z⟩:=(r.mono (b7 e.ext)).vx;obtain⟨_,A⟩:=s.vx;have t:=z (λd=>Gr c.drew d) c.drew (Gr.refl _) λd h=>b7 ((Gr.drew c).trans h).ext;have v:=A (λd=>Gr c.drew d) c.drew (Gr.refl _) λd h=>b7 ((Gr.drew c).trans h).ext;simp only[i5,n9,simprocAttr,i,j];refine B9 (λd=>Gr c.drew d) 19 (A5 [0,1,2,3,5,6,7,8,10,11,12,13,15,16,17,18,4,9,14]) ?_ (hS:=Gr.refl _);simp only[D0,A5,i5,n9,simprocAttr,t,v];refine E6 (aG5 _ _ _) ⟨Gr.refl _,?_⟩;simp only[D0,i5,simprocAttr];refine E6 (Y1 _ _ _) ⟨Gr.refl _,?_⟩;simp only[D0,i5,simprocAttr];refine E6 (Y1 _ _ _) ⟨Gr.refl _,?_⟩;simp only[D0,i5,simprocAttr];refine E6 (aG5 _ _ _) ?_;generalize m:[af4 x.proc y.proc,M1 x.kind y.kind,M1 x.id y.id,af4 x.slot y.slot]=l;have q:vxC x y=orF l:=by rw[<-m];rfl
 have p:l.length=4:=by rw[<-m];rfl
 obtain⟨B,D,g,o,f⟩:=du3 (P:=prog) (w:=c.drew) (h:=m8 c.drew) (α:=Int) (xs:=[.int .i64 (af4 x.proc y.proc),.int .i64 (M1 x.kind y.kind),.int .i64 (M1 x.id y.id),.int .i64 (af4 x.slot y.slot)]) (ys:=l) (parts:=#[(0,.int .i64 (af4 x.proc y.proc)),(1,.int .i64 (M1 x.kind y.kind)),(2,.int .i64 (M1 x.id y.id)),(3,.int .i64 (af4 x.slot y.slot))]) (n:=4) V4 rfl (by rw[<-m];exact G4.2 rfl) (by simp[Value.cells]) rfl p (by simp) (by simp) (n7 _);simp only[i5,simprocAttr,g];refine E6 (bV2 B l D (o.rw_ (b7 f.ext)) (by omega)) ?_;simp only[i5,simprocAttr];refine o7 results133 ?_;simp only[B3,simprocAttr];exact⟨by rw[q],k.trans (e.trans ((Gr.drew c).trans f))⟩
def dz5{P:Program}{k:Nat}{args:List Value}{w:World}{K:Fr->World->Prop}{f:Fr}{d:Option Nat}{v:Value}(hb:ap4 P k=true)
  (h:Calls P k args.toArray w λe a=>∃u,e = .returned u/\(u=v/\Gr w a)) (c:∀a,Gr w a->K (C9 f d v) a):aC9 P k args w K f d:=
 t8 (hb:=hb) h λu a ⟨e,b⟩=>by subst e;exact c a b
def cO6(x y:Eg)(w:World):o9 prog 141 #[.agg (p8.cells x).toArray,.agg (p8.cells y).toArray] w λu c=>(u = .int .i64 (egC x y)/\Gr w c):=by
 refine p9 [.agg (p8.cells x).toArray,.agg (p8.cells y).toArray] func141 rfl ?_;obtain⟨a,Z,o,q,O⟩:=ce7 (P:=prog) (T:=66) (SV.ofN (m8 w) x) (n7 _);obtain⟨b,d,p,i,Q⟩:=ce7 (P:=prog) (T:=66) (SV.ofN (m8 Z) y) (n7 _);obtain⟨E,D,_,R⟩:=(O.mono (b7 i.ext)).eg;obtain⟨G,F,_,S⟩:=Q.eg;obtain⟨U,t,_,I⟩:=E.vx_v;obtain⟨V,A,_,J⟩:=D.vx_v;obtain⟨W,B,_,K⟩:=G.vx_v;obtain⟨X,C,_,L⟩:=F.vx_v;have hN:∀{v:Value} {z:Vx},SV (m8 d) v z->v = .agg (p8.cells z).toArray:=fun{v z} ⟨cs,e,h1⟩=>by rw[e,(p8.iff_ _ _ _).1 h1]
 obtain rfl:=hN t;obtain rfl:=hN A;obtain rfl:=hN B;obtain rfl:=hN C;have g:∀c,Gr d.drew c->B8 (m8 d) (m8 c):=λc h=>b7 ((Gr.drew d).trans h).ext;simp only[i5,n9,simprocAttr,o,p];refine B9 (λc=>Gr d.drew c) 14 (A5 [0,1,2,3,5,6,7,8,10,11,12,13,4,9]) ?_ (hS:=Gr.refl _);simp only[D0,A5,i5,n9,simprocAttr,R (λc=>Gr d.drew c) d.drew (Gr.refl _) g,S (λc=>Gr d.drew c) d.drew (Gr.refl _) g,I (λc=>Gr d.drew c) d.drew (Gr.refl _) g,J (λc=>Gr d.drew c) d.drew (Gr.refl _) g,K (λc=>Gr d.drew c) d.drew (Gr.refl _) g,L (λc=>Gr d.drew c) d.drew (Gr.refl _) g];refine dz5 dE9 (bk4 x.src y.src _) (λw3 f=>⟨f,?_⟩);simp only[D0,i5,simprocAttr];refine dz5 dE9 (bk4 x.dst y.dst _) (λH j=>⟨f.trans j,?_⟩);simp only[D0,i5,simprocAttr];refine E6 (Y1 _ _ _) ?_;generalize r:[vxC x.src y.src,vxC x.dst y.dst,M1 x.kind y.kind]=l;have N:egC x y=orF l:=by rw[<-r];rfl
 have M:l.length=3:=by rw[<-r];rfl
 obtain⟨Y,w5,m,s,k⟩:=du3 (P:=prog) (w:=H) (h:=m8 H) (α:=Int) (xs:=[.int .i64 (vxC x.src y.src),.int .i64 (vxC x.dst y.dst),.int .i64 (M1 x.kind y.kind)]) (ys:=l) (parts:=#[(0,.int .i64 (vxC x.src y.src)),(1,.int .i64 (vxC x.dst y.dst)),(2,.int .i64 (M1 x.kind y.kind))]) (n:=3) V4 rfl (by rw[<-r];exact G4.2 rfl) (by simp[Value.cells]) rfl M (by simp) (by simp) (n7 _);simp only[i5,simprocAttr,m];refine E6 (bV2 Y l w5 (s.rw_ (b7 k.ext)) (by omega)) ?_;simp only[i5,simprocAttr];refine o7 results141 ?_;simp only[B3,simprocAttr];exact⟨by rw[N],q.trans (i.trans ((Gr.drew d).trans ((f.trans j).trans k)))⟩
def or3(a b c:Int):orF [a,b,c]=if a=0 then(if b=0 then(if c=0 then 0 else c)else b)else a:=by simp only[orF]
def or4(a b c d:Int):orF [a,b,c,d]=if a=0 then(if b=0 then(if c=0 then(if d=0 then 0 else d)else c)else b)else a:=by simp only[orF]
def cf2:Cm fwC:=by
 have h:=(aO8.key (λx:Fw=>F8 x.src)).lex ((aO8.key (λx:Fw=>F8 x.dst)).lex ((ct3.key (λx:Fw=>x.var)).lex Cm.zero));have e:fwC=λx y:Fw=>if M1 (F8 x.src) (F8 y.src)=0 then(if M1 (F8 x.dst) (F8 y.dst)=0 then(if af4 x.var y.var=0 then 0 else af4 x.var y.var)else M1 (F8 x.dst) (F8 y.dst))else M1 (F8 x.src) (F8 y.src):=by
  funext x y
  exact or3 _ _ _
 rw[e];exact h
def aX0:Cm vxC:=by
 have h:=(ct3.key (λx:Vx=>x.proc)).lex ((aO8.key (λx:Vx=>x.kind)).lex ((aO8.key (λx:Vx=>x.id)).lex ((ct3.key (λx:Vx=>x.slot)).lex Cm.zero)));have e:vxC=λx y:Vx=>if af4 x.proc y.proc=0 then(if M1 x.kind y.kind=0 then(if M1 x.id y.id=0 then(if af4 x.slot y.slot=0 then 0 else af4 x.slot y.slot)else M1 x.id y.id)else M1 x.kind y.kind)else af4 x.proc y.proc:=by
  funext x y
  exact or4 _ _ _ _
 rw[e];exact h
def dz6:Cm egC:=by
 have h:=(aX0.key (λx:Eg=>x.src)).lex ((aX0.key (λx:Eg=>x.dst)).lex ((aO8.key (λx:Eg=>x.kind)).lex Cm.zero));have e:egC=λx y:Eg=>if vxC x.src y.src=0 then(if vxC x.dst y.dst=0 then(if M1 x.kind y.kind=0 then 0 else M1 x.kind y.kind)else vxC x.dst y.dst)else vxC x.src y.src:=by
  funext x y
  exact or3 _ _ _
 rw[e];exact h
def ch8{a b:Fw}(c:plc a.src/\plc a.dst)(d:plc b.src/\plc b.dst)(h:fwC a b=0):a=b:=by
 unfold fwC at h;rw[or3]at h;by_cases q1:M1 (F8 a.src) (F8 b.src)=0
 .rw[if_pos q1]at h;by_cases q2:M1 (F8 a.dst) (F8 b.dst)=0
  .rw[if_pos q2]at h;by_cases q3:af4 a.var b.var=0
   .have e:=bh5 c.1 d.1 (ad4 q1);have f:=bh5 c.2 d.2 (ad4 q2);have g:=aD8 q3;cases a;cases b;simp_all
   .rw[if_neg q3]at h;exact absurd h q3
  .rw[if_neg q2]at h;exact absurd h q2
 .rw[if_neg q1]at h;exact absurd h q1
def aG2{a b:Vx}(h:vxC a b=0):a=b:=by
 unfold vxC at h;rw[or4]at h;by_cases q1:af4 a.proc b.proc=0
 .rw[if_pos q1]at h;by_cases q2:M1 a.kind b.kind=0
  .rw[if_pos q2]at h;by_cases q3:M1 a.id b.id=0
   .rw[if_pos q3]at h;by_cases q4:af4 a.slot b.slot=0
    .have c:=aD8 q1;have d:=ad4 q2;have e:=ad4 q3;have f:=aD8 q4;cases a;cases b;simp_all
    .rw[if_neg q4]at h;exact absurd h q4
   .rw[if_neg q3]at h;exact absurd h q3
  .rw[if_neg q2]at h;exact absurd h q2
 .rw[if_neg q1]at h;exact absurd h q1
def db3{a b:Eg}(h:egC a b=0):a=b:=by
 unfold egC at h;rw[or3]at h;by_cases q1:vxC a.src b.src=0
 .rw[if_pos q1]at h;by_cases q2:vxC a.dst b.dst=0
  .rw[if_pos q2]at h;by_cases q3:M1 a.kind b.kind=0
   .have c:=aG2 q1;have d:=aG2 q2;have e:=ad4 q3;cases a;cases b;simp_all
   .rw[if_neg q3]at h;exact absurd h q3
  .rw[if_neg q2]at h;exact absurd h q2
 .rw[if_neg q1]at h;exact absurd h q1
def Cm.eq0{α:Type}{c:α->α->Int}(h:Cm c){a b:α}(d:decide (c a b<=0)=true)(e:decide (c b a<=0)=true):c a b=0:=by
 have f:=ef3 d;have g:=ef3 e;have i:=h.anti a b;omega
def dR5:G0 prog 207 210 3 32=true:=by kernel_rfl
def at7:G0 prog 22 26 4 48=true:=by kernel_rfl
def bT1:G0 prog 54 66 9 104=true:=by kernel_rfl
def cS2:(Tryz.lySortF_ren.f 6)=189:=by kernel_rfl
def bQ6:(Tryz.lySortF_ren.t 24)=210:=by kernel_rfl
def cA0{h:Hp}{w:World}{v:Value}{xs:List Fw}(k:B0 h w 210 v xs)(j:xs.length<=1000000000)(l:∀a∈xs,∀b∈xs,decide (fwC a b<=0)=true->decide (fwC b a<=0)=true->a=b):
  Calls prog 189 #[v,.func (.func 190) #[] #[]] w λe c=>∃u,e = .returned u/\(B0 h c 210 v (Y4 bL8 xs)/\o8 (A0 v) w c):=by
 rw[<-cS2];have d:∀w,(isAgg (Tryz.lySortF_ren.t 24)).run prog w = .ok true w:=λw=>by
  rw[bQ6,ae2 _ dl7,dk3]
 have m:∀w,(Go.sizeOf (Tryz.lySortF_ren.t 24)).run prog w = .ok (A3.sz Fw) w:=λw=>by
  rw[bQ6,S3 cB5,bJ6];rfl
 exact aU5 (P:=prog) (T:=210) Tryz.lySortF d m fwC cf2 190 (enters_of func190 (by kernel_rfl) rfl) (λx y w=>(cP9 x y w).mono λe c ⟨u,f,g,i⟩=>⟨by rw[f,g],i⟩) k j l
def cS4:(Tryz.lySortV_ren.f 6)=132:=by kernel_rfl
def bQ8:(Tryz.lySortV_ren.t 24)=26:=by kernel_rfl
def cA1{h:Hp}{w:World}{v:Value}{xs:List Vx}(k:B0 h w 26 v xs)(j:xs.length<=1000000000)(l:∀a∈xs,∀b∈xs,decide (vxC a b<=0)=true->decide (vxC b a<=0)=true->a=b):
  Calls prog 132 #[v,.func (.func 133) #[] #[]] w λe c=>∃u,e = .returned u/\(B0 h c 26 v (Y4 cW0 xs)/\o8 (A0 v) w c):=by
 rw[<-cS4];have d:∀w,(isAgg (Tryz.lySortV_ren.t 24)).run prog w = .ok true w:=λw=>by
  rw[bQ8,ae2 _ as0,ar8]
 have m:∀w,(Go.sizeOf (Tryz.lySortV_ren.t 24)).run prog w = .ok (A3.sz Vx) w:=λw=>by
  rw[bQ8,S3 am4,N6];rfl
 exact aU5 (P:=prog) (T:=26) Tryz.lySortV d m vxC aX0 133 (enters_of func133 (by kernel_rfl) rfl) (λx y w=>(bk4 x y w).mono λe c ⟨u,f,g,i⟩=>⟨by rw[f,g],i⟩) k j l
def cS1:(Tryz.lySortE_ren.f 6)=140:=by kernel_rfl
def bQ5:(Tryz.lySortE_ren.t 24)=66:=by kernel_rfl
def co4{h:Hp}{w:World}{v:Value}{xs:List Eg}(k:B0 h w 66 v xs)(j:xs.length<=1000000000)(l:∀a∈xs,∀b∈xs,decide (egC a b<=0)=true->decide (egC b a<=0)=true->a=b):
  Calls prog 140 #[v,.func (.func 141) #[] #[]] w λe c=>∃u,e = .returned u/\(B0 h c 66 v (Y4 cO7 xs)/\o8 (A0 v) w c):=by
 rw[<-cS1];have d:∀w,(isAgg (Tryz.lySortE_ren.t 24)).run prog w = .ok true w:=λw=>by
  rw[bQ5,ae2 _ bv8,bv5]
 have m:∀w,(Go.sizeOf (Tryz.lySortE_ren.t 24)).run prog w = .ok (A3.sz Eg) w:=λw=>by
  rw[bQ5,S3 aY1,an3];rfl
 exact aU5 (P:=prog) (T:=66) Tryz.lySortE d m egC dz6 141 (enters_of func141 (by kernel_rfl) rfl) (λx y w=>(cO6 x y w).mono λe c ⟨u,f,g,i⟩=>⟨by rw[f,g],i⟩) k j l
def F3.rowlen{n:Nat}{l:List (List Int)}(h:F3 n l)(a:Int):(D4 l a).length<=n:=by
 have:=aK7 (n:=n) (m:=0) (h.row a).1 (λy b=>B4.1 ((h.row a).2 y b)) (by omega);omega
inductive aD0 (nx gen kill:List (List Int)):Int->Nat->Prop
 | gen {a b:Int} {f:Nat}:b∈D4 nx a->(f:Int)∈D4 gen a->aD0 nx gen kill b f
 | step {a b:Int} {f:Nat}:b∈D4 nx a->aD0 nx gen kill a f->(f:Int)∉D4 kill a->aD0 nx gen kill b f
def wAt(a:List (List W))(b:Int):List W:=a.getD b.toNat []
def aq6(a:List (List W))(b:Int)(f:Nat):Bool:=T2 (wAt a b) f
def dy1{c:List (List W)}{n:Nat}(g:c.length=n){a b:Int}(d:I2 n a=true)(hb:I2 n b=true)(r:List W):wAt (c.set a.toNat r) b=if b=a then r else wAt c b:=by
 have e:=B4.1 d;have f:=B4.1 hb;unfold wAt;simp only[List.getD];by_cases h:b=a
 .subst h;rw[if_pos rfl,en0 (by omega)];rfl
 .rw[if_neg h,eo1 (by omega)]
def aq1{b:List (List W)}{n:Nat}(e:b.length=n){a:Int}(c:I2 n a=true):b[a.toNat]?=some (wAt b a):=by
 have d:=B4.1 c;unfold wAt;have:a.toNat<b.length:=by omega
 simp[List.getD,this]
def bL3(most:Nat)(r:List W):Nat:=(List.range most).countP (T2 r)
def aR4(most:Nat)(a:List (List W)):Nat:=(a.map (bL3 most)).sum
def dr2(most:Nat)(r:List W):bL3 most r<=most:=by
 have:=List.countP_le_length (p:=T2 r) (l:=List.range most);rw[ek6]at this;exact this
def bg9(most:Nat):∀a:List (List W),aR4 most a<=a.length*most
 | []=>by simp[aR4]
 | r::a=>by
  have b:=bg9 most a;have c:=dr2 most r;simp only[aR4,ej9,eq8,ei2]at *;rw[er2];omega
def bh0(most:Nat):∀(a:List (List W)) (i:Nat) (r b:List W),a[i]?=some r->aR4 most (a.set i b)+bL3 most r=aR4 most a+bL3 most b
 | [],i,r,b,h=>by simp at h
 | x::a,0,r,b,h=>by
  simp at h;subst h;simp only[aR4,List.set_cons_zero,ej9,eq8];omega
 | x::a,i+1,r,b,h=>by
  have:=bh0 most a i r b (by simpa using h);simp only[aR4,List.set_cons_succ,ej9,eq8]at *;omega
def bB2{p q:Nat->Bool}{m:Nat}:∀{l:List Nat},(∀x,p x=true->q x=true)->m∈l->q m=true->p m=false->l.countP p<l.countP q
 | [],_,h,_,_=>by cases h
 | x::l,hqp,h,hp,hq=>by
  have B8:l.countP p<=l.countP q:=List.countP_mono_left λx _=>hqp x;rw[List.countP_cons,List.countP_cons];by_cases hx:m=x
  .subst hx;simp[hp,hq];omega
  .have hm:m∈l:=by
    rcases eh0.1 h with h|h
    .exact absurd h hx
    .exact h
   have:=bB2 hqp hm hp hq;by_cases h1:p x=true
   .simp[h1,hqp x h1];omega
   .simp only[h1,em5,en5];split<;>omega
def bA9{most:Nat}{b c:List W}(a:b.length=c.length)(g:∀f,T2 c f=true->f<most)(hm:an2 b c=true):bL3 most b<bL3 most (orB b c):=by
 obtain⟨f,d,e⟩:=(bR1 a).1 hm;exact bB2 (m:=f) (λx h=>by rw[aI2 a,h];rfl) (ej7.2 (g f d)) (by rw[aI2 a,d];simp) e
def dv2{b c:List W}(a:b.length=c.length)(hm:an2 b c=false)(f:Nat):T2 (orB b c) f=T2 b f:=by
 rw[aI2 a];cases hb:T2 b f
 .cases hc:T2 c f
  .rfl
  .have:=(bR1 a).2 ⟨f,hc,hb⟩;rw[hm]at this;cases this
 .rfl
def cd8(c b:List (List Int))(d:List (List W))(a:Int)(f:Nat):Prop:=(f:Int)∈D4 c a\/(aq6 d a f=true/\(f:Int)∉D4 b a)
section
variable (nx gen kill:List (List Int)) (most:Nat)
structure SB (ins:List (List W)) (todo:List Int) (waits:List Bool):Prop where
 ilen:ins.length=nx.length
 rlen:∀r∈ins,r.length=most / 64+1
 wlen:waits.length=nx.length
 ok:∀a∈todo,I2 nx.length a=true
 wt:∀a,B1 waits a=true↔a∈todo
 nodup:todo.Nodup
 sound:∀b f,I2 nx.length b=true->aq6 ins b f=true->aD0 nx gen kill b f
 low:∀b f,I2 nx.length b=true->aq6 ins b f=true->f<most
def cW9(c:List (List W))(a:Int):Prop:=∀b∈D4 nx a,∀f,cd8 gen kill c a f->aq6 c b f=true
structure SI (ins:List (List W)) (todo:List Int) (waits:List Bool) (T:Nat):Prop extends SB nx gen kill most ins todo waits where
 closed:∀a,I2 nx.length a=true->B1 waits a=false->cW9 nx gen kill ins a
 few:T+todo.length<=nx.length+aR4 most ins
 many:nx.length<=T+todo.length
structure SJ (a:Int) (goes:List W) (k:Nat) (ins:List (List W)) (todo:List Int) (waits:List Bool) (T:Nat):Prop extends SB nx gen kill most ins todo waits where
 closed:∀c,I2 nx.length c=true->c≠a->B1 waits c=false->cW9 nx gen kill ins c
 mine:B1 waits a=false->∀f,T2 goes f=true↔cd8 gen kill ins a f
 done:∀b∈(D4 nx a).take k,∀f,T2 goes f=true->aq6 ins b f=true
 few:T+todo.length<=nx.length+aR4 most ins
 many:nx.length<=T+todo.length
end
section
variable {nx gen kill:List (List Int)} {most:Nat} {ins:List (List W)} {todo:List Int} {waits:List Bool} {T:Nat} {a:Int} {goes:List W} {k:Nat}
def SI.start(c:ins=List.replicate nx.length (List.replicate (most / 64+1) 0#64))(d:∀a,a∈todo↔I2 nx.length a=true)(k:todo.Nodup)(m:todo.length=nx.length)(hw:waits=List.replicate nx.length true):SI nx gen kill most ins todo waits 0:=by
 have i:∀b f,I2 nx.length b=true->aq6 ins b f=false:=by
  intro b f e;have:=B4.1 e;subst c;unfold aq6 wAt;simp only[List.getD,eq3];rw[if_pos (by omega)];exact ci3
 have g:∀b,B1 waits b=true↔I2 nx.length b=true:=by
  intro b;subst hw;constructor
  .intro h;have:=V8 h;simpa using this
  .intro h;have n:=(O0 (l:=List.replicate nx.length true) (b:=b) (by simpa using h)).2;rw[n];have:=B4.1 h;simp only[List.getD,eq3];rw[if_pos (by omega)];rfl
 refine⟨⟨by subst c;simp,λr o=>?_,by subst hw;simp,λa j=>(d a).1 j,λa=>by rw[g,d],k,(λb f e h=>(by rw[i b f e]at h;cases h)),(λb f e h=>(by rw[i b f e]at h;cases h))⟩,λa j h=>?_,by omega,by omega⟩
 .subst c;rw[em9 o];simp
 .have:=(g a).2 j;rw[h]at this;cases this
def SI.pop{d:List Int}(h:SI nx gen kill most ins (a::d) waits T)(n:∀f,T2 goes f=true↔cd8 gen kill ins a f):SJ nx gen kill most a goes 0 ins d (waits.set a.toNat false) (T+1):=by
 have l:I2 nx.length a=true:=h.ok a (by simp);have j:∀b,B1 (waits.set a.toNat false) b=if b=a then false else B1 waits b:=λb=>O6 (by rw[h.wlen];exact l);have g:=es0.1 h.nodup;refine⟨⟨h.ilen,h.rlen,by simp[h.wlen],λb e=>h.ok b (by simp[e]),λb=>?_,g.2,h.sound,h.low⟩,λc m i k=>?_,λ_=>n,λb e=>by simp at e,?_,?_⟩
 .rw[j];by_cases e:b=a
  .subst e;simp[g.1]
  .rw[if_neg e,h.wt];simp[e]
 .rw[j,if_neg i]at k;exact h.closed c m k
 .have:=h.few;simp only[ei2]at this;omega
 .have:=h.many;simp only[ei2]at this;omega
def SJ.core{b:Int}(q:F3 nx.length nx)(h:SJ nx gen kill most a goes k ins todo waits T)(B:goes.length=most / 64+1)(C:∀f,T2 goes f=true->f<most/\∀b∈D4 nx a,aD0 nx gen kill b f)(hb:(D4 nx a)[k]?=some b)(w:I2 nx.length b=true)
  {i:List Int} {g:List Bool} (L:g.length=nx.length) (J:∀a∈i,I2 nx.length a=true) (M:∀c,B1 g c=true↔c∈i) (I:i.Nodup) (u:∀c,B1 g c=false->B1 waits c=false)
  (y:an2 (wAt ins b) goes=true->B1 g b=true) (A:T+i.length<=nx.length+aR4 most (ins.set b.toNat (orB (wAt ins b) goes))) (x:nx.length<=T+i.length) :
  SJ nx gen kill most a goes (k+1) (ins.set b.toNat (orB (wAt ins b) goes)) i g T:=by
 have s:(wAt ins b).length=goes.length:=by rw[B];exact h.rlen _ (eh3 (aq1 h.ilen w))
 have z:b∈D4 nx a:=eh3 hb;have m:∀c f,I2 nx.length c=true->aq6 (ins.set b.toNat (orB (wAt ins b) goes)) c f=if c=b then(aq6 ins b f||T2 goes f)else aq6 ins c f:=by
  intro c f l;unfold aq6;rw[dy1 h.ilen w l];by_cases e:c=b
  .rw[if_pos e,if_pos e,aI2 s]
  .rw[if_neg e,if_neg e]
 have v:∀c f,I2 nx.length c=true->aq6 ins c f=true->aq6 (ins.set b.toNat (orB (wAt ins b) goes)) c f=true:=by
  intro c f l o;rw[m c f l];split
  .rename_i e;subst e;rw[o];rfl
  .exact o
 have E:∀c,I2 nx.length c=true->B1 g c=false->∀f,aq6 (ins.set b.toNat (orB (wAt ins b) goes)) c f=aq6 ins c f:=by
  intro c l t f;rw[m c f l];split
  .rename_i e;subst e;have hm:an2 (wAt ins c) goes=false:=by
    cases e:an2 (wAt ins c) goes
    .rfl
    .rw[y e]at t;cases t
   have:=dv2 s hm f;rw[aI2 s]at this;exact this
  .rfl
 have D:∀c d,d∈D4 nx c->I2 nx.length c=true:=by
  intro c d n;cases e:I2 nx.length c
  .rw[bh8 e]at n;cases n
  .rfl
 have j:∀c,I2 nx.length c=true->B1 g c=false->∀f,cd8 gen kill (ins.set b.toNat (orB (wAt ins b) goes)) c f↔cd8 gen kill ins c f:=by
  intro c l t f;unfold cd8;rw[E c l t f]
 refine⟨⟨by simp[h.ilen],λr Q=>?_,L,J,M,I,λc f l o=>?_,λc f l o=>?_⟩,λc l F t d n f P=>?_,λt f=>?_,λd n f N=>?_,A,x⟩
 .rcases en6 Q with p|p
  .exact h.rlen r p
  .rw[p,bZ5 s,s,B]
 .rw[m c f l]at o;split at o
  .rename_i e;subst e;rcases Bool.or_eq_true_iff.1 o with p|p
   .exact h.sound _ f l p
   .exact(C f p).2 _ z
  .exact h.sound c f l o
 .rw[m c f l]at o;split at o
  .rename_i e;subst e;rcases Bool.or_eq_true_iff.1 o with p|p
   .exact h.low _ f l p
   .exact(C f p).1
  .exact h.low c f l o
 .have G:=h.closed c l F (u c t) d n f ((j c l t f).1 P);have H:I2 nx.length d=true:=(q.row c).2 d n;exact v d f H G
 .have O:I2 nx.length a=true:=D a b z;rw[j a O t f];exact h.mine (u a t) f
 .have K:(D4 nx a).take (k+1)=(D4 nx a).take k++[b]:=by
   rw[es3,hb];rfl
  rw[K,eg1,eh2]at n;rcases n with n|n
  .exact v d f ((q.row a).2 d (em8 n)) (h.done d n f N)
  .subst n;rw[m d f w,if_pos rfl,N,er9]
def SJ.old{b:Int}(d:F3 nx.length nx)(h:SJ nx gen kill most a goes k ins todo waits T)(g:goes.length=most / 64+1)(i:∀f,T2 goes f=true->f<most/\∀b∈D4 nx a,aD0 nx gen kill b f)(hb:(D4 nx a)[k]?=some b)(c:I2 nx.length b=true)
  (e:an2 (wAt ins b) goes=false\/B1 waits b=true):SJ nx gen kill most a goes (k+1) (ins.set b.toNat (orB (wAt ins b) goes)) todo waits T:=by
 have j:(wAt ins b).length=goes.length:=by rw[g];exact h.rlen _ (eh3 (aq1 h.ilen c))
 have n:=bh0 most ins b.toNat (wAt ins b) (orB (wAt ins b) goes) (aq1 h.ilen c);have B8:bL3 most (wAt ins b)<=bL3 most (orB (wAt ins b) goes):=List.countP_mono_left λx _ m=>by rw[aI2 j,m];rfl
 refine h.core d g i hb c h.wlen h.ok h.wt h.nodup (λ_ l=>l) (λhm=>?_) (by have:=h.few;omega) h.many;rcases e with e|e
 .rw[hm]at e;cases e
 .exact e
def SJ.new{b:Int}(i:F3 nx.length nx)(h:SJ nx gen kill most a goes k ins todo waits T)(j:goes.length=most / 64+1)(l:∀f,T2 goes f=true->f<most/\∀b∈D4 nx a,aD0 nx gen kill b f)(hb:(D4 nx a)[k]?=some b)(d:I2 nx.length b=true)
  (hm:an2 (wAt ins b) goes=true) (m:B1 waits b=false):SJ nx gen kill most a goes (k+1) (ins.set b.toNat (orB (wAt ins b) goes)) (todo++[b]) (waits.set b.toNat true) T:=by
 have o:(wAt ins b).length=goes.length:=by rw[j];exact h.rlen _ (eh3 (aq1 h.ilen d))
 have v:=bh0 most ins b.toNat (wAt ins b) (orB (wAt ins b) goes) (aq1 h.ilen d);have t:=bA9 (most:=most) o (λf r=>(l f r).1) hm;have p:∀c,B1 (waits.set b.toNat true) c=if c=b then true else B1 waits c:=λc=>O6 (by rw[h.wlen];exact d);have n:b∉todo:=λs=>by rw[(h.wt b).2 s]at m;cases m
 refine h.core i j l hb d (by simp[h.wlen]) (λc g=>?_) (λc=>?_) ?_ (λc g=>?_) (λ_=>by rw[p,if_pos rfl]) ?_ ?_
 .rcases eg1.1 g with g|g
  .exact h.ok c g
  .simp at g;subst g;exact d
 .rw[p];by_cases e:c=b
  .subst e;simp
  .rw[if_neg e,h.wt];simp[e]
 .refine ek2.2 ⟨h.nodup,by simp,?_⟩;intro x u y q e;simp at q;subst q;subst e;exact n u
 .rw[p]at g;split at g
  .cases g
  .exact g
 .have:=h.few;simp only[ef4,ei2,em2];omega
 .have:=h.many;simp only[ef4,ei2,em2];omega
def SJ.pot{b:Int}(h:SJ nx gen kill most a goes k ins todo waits T)(e:goes.length=most / 64+1)(g:∀f,T2 goes f=true->f<most/\∀b∈D4 nx a,aD0 nx gen kill b f)(c:I2 nx.length b=true):
  aR4 most ins<=aR4 most (ins.set b.toNat (orB (wAt ins b) goes))/\(an2 (wAt ins b) goes=true->aR4 most ins+1<=aR4 most (ins.set b.toNat (orB (wAt ins b) goes))):=by
 have d:(wAt ins b).length=goes.length:=by rw[e];exact h.rlen _ (eh3 (aq1 h.ilen c))
 have m:=bh0 most ins b.toNat (wAt ins b) (orB (wAt ins b) goes) (aq1 h.ilen c);have B8:bL3 most (wAt ins b)<=bL3 most (orB (wAt ins b) goes):=List.countP_mono_left λx _ l=>by rw[aI2 d,l];rfl
 refine⟨by omega,λhm=>?_⟩;have j:=bA9 (most:=most) d (λf i=>(g f i).1) hm;omega
def SJ.fin(h:SJ nx gen kill most a goes k ins todo waits T)(l:k=(D4 nx a).length):SI nx gen kill most ins todo waits T:=by
 refine⟨h.toSB,λc g b=>?_,h.few,h.many⟩;by_cases e:c=a
 .subst e;intro d i f j;refine h.done d ?_ f ((h.mine b f).2 j);rw[l,eg4];exact i
 .exact h.closed c g e b
def SI.fin(k:F3 nx.length nx)(h:SI nx gen kill most ins [] waits T):(∀b f,I2 nx.length b=true->(aq6 ins b f=true↔aD0 nx gen kill b f))/\nx.length<=T/\T<=nx.length+nx.length*most:=by
 have n:∀a,B1 waits a=false:=λa=>by
  cases e:B1 waits a
  .rfl
  .have:=(h.wt a).1 e;cases this
 have g:∀c d,d∈D4 nx c->I2 nx.length c=true:=by
  intro c d m;cases e:I2 nx.length c
  .rw[bh8 e]at m;cases m
  .rfl
 refine⟨λb f l=>⟨h.sound b f l,λp=>?_⟩,by simpa using h.many,?_⟩
 .clear l
  induction p with
  | gen i j=>exact h.closed _ (g _ _ i) (n _) _ i _ (.inl j)
  | step i _ o q=>exact h.closed _ (g _ _ i) (n _) _ i _ (.inr ⟨q,o⟩)
 .have i:=h.few;have j:=bg9 most ins;rw[h.ilen]at j;simp only[em2]at i;omega
def dA4(n most:Nat)(ins:List (List W))(todo:List Int):Nat:=(n*most-aR4 most ins)+todo.length
end
def bu7{nx:List (List Int)}{a b:Int}(h:b∈D4 nx a):0<=a/\a<nx.length:=by
 unfold D4 at h;split at h
 .next c=>exact c
 .simp at h
def cO0{nx s y:List (List Int)}{g:List Nat}(v:∀(a:Int) (f:Nat),(f:Int)∈D4 s a↔∃A:Nat,g[f]?=some A/\a=(A:Int))(w:∀(a:Int) (f:Nat),f<g.length->((f:Int)∈D4 y a↔∃A∈g,a=(A:Int)))
  {f A:Nat} (p:g[f]?=some A) (c:Int):aD0 nx s y c f↔∃d∈D4 nx (A:Int),Z5 (aB7 nx λq=>g.contains q) d c:=by
 have k:f<g.length:=(ef6.1 p).1;constructor
 .intro h;generalize u:f=F at h
  induction h with
  | @gen a b B m l=>
   subst u;obtain⟨z,t,rfl⟩:=(v _ _).1 l;rw[p]at t;obtain rfl:=eh1 t;exact⟨b,m,.refl⟩
  | @step a b B m i e r=>
   subst u;obtain⟨d,o,n⟩:=r rfl;refine⟨d,o,.step n ?_⟩;have D:=bu7 m;rw[aw2,if_neg]
   .exact m
   .intro j;rw[eg7]at j;exact e ((w a f k).2 ⟨a.toNat,j,by omega⟩)
 .rintro⟨d,o,n⟩
  induction n with
  | refl=>exact .gen o ((v _ _).2 ⟨A,p,rfl⟩)
  | @step b c n i r=>
   rw[aw2]at i;split at i
   .simp at i
   .next x=>
    refine .step i r λe=>?_;obtain⟨z,C,rfl⟩:=(w b f k).1 e;rw[eh6]at x;exact x (eg7.2 C)
def ct4{nx:List (List Int)}(a:OkR nx){b:List Nat}{A c:Nat}:bl3 nx b A c=true↔∃d∈D4 nx (A:Int),Z5 (aB7 nx λq=>b.contains q) d (c:Int):=by
 unfold bl3;rw[es5];constructor
 .rintro⟨d,e,h⟩;exact⟨d,e,(ca0 (aF1 a _) (by rw[ae6];exact a _ _ e)).1 h⟩
 .rintro⟨d,e,h⟩;exact⟨d,e,(ca0 (aF1 a _) (by rw[ae6];exact a _ _ e)).2 h⟩
def ak1(a:List Nat)(g:Nat->List Int)(n:Nat):Nat->List (List Int)
 | 0=>List.replicate n []
 | k+1=>(ak1 a g n k).set (a.getD k 0) (g k)
def aa4(a:List Nat)(g:Nat->List Int)(n:Nat):∀k,(ak1 a g n k).length=n
 | 0=>by simp[ak1]
 | k+1=>by rw[ak1,en4,aa4 a g n k]
def aF5{b:List Nat}{g:Nat->List Int}{n:Nat}(m:b.Nodup)(d:∀a∈b,a<n):∀k,k<=b.length->∀(a:Nat) (r:List Int),(ak1 b g n k)[a]?=some r->(∃f,f<k/\b[f]?=some a/\r=g f)\/((∀f,f<k->b[f]?≠some a)/\r=[])
 | 0,_,a,r,h=>by
  rw[ak1]at h;exact .inr ⟨λf p=>by omega,em9 (eh3 h)⟩
 | k+1,hk,a,r,h=>by
  have c:k<b.length:=by omega
  have l:b.getD k 0=b[k]:=by rw[List.getD,ef1 c];rfl
  rw[ak1,l]at h;by_cases ha:b[k]=a
  .subst ha;rw[en0 (by rw[aa4];exact d _ (eg2 c))]at h;exact .inl ⟨k,by omega,ef1 c,(eh1 h).symm⟩
  .rw[eo1 ha]at h;rcases aF5 m d k (by omega) a r h with⟨f,p,i,j⟩|⟨i,j⟩
   .exact .inl ⟨f,by omega,i,j⟩
   .refine .inr ⟨λf p=>?_,j⟩;rcases ej6 f k with o|o
    .exact i f o
    .obtain rfl:f=k:=by omega
     rw[ef1 c];exact λe=>ha (eh1 e)
def bS7{b:List Nat}{g:Nat->List Int}{n:Nat}(e:b.Nodup)(d:∀a∈b,a<n)(a x:Int):x∈D4 (ak1 b g n b.length) a↔∃(f A:Nat),b[f]?=some A/\a=(A:Int)/\x∈g f:=by
 constructor
 .intro h;obtain⟨t,u⟩:=bu7 h;unfold D4 at h;rw[if_pos ⟨t,u⟩]at h;have c:(ak1 b g n b.length)[a.toNat]?=some ((ak1 b g n b.length).getD a.toNat []):=by
   rw[List.getD,ef1 (by omega)];rfl
  rcases aF5 e d _ (eg6 _) _ _ c with⟨f,k,i,j⟩|⟨_,j⟩
  .rw[j]at h;exact⟨f,a.toNat,i,by omega,h⟩
  .rw[j]at h;simp at h
 .rintro⟨f,A,k,rfl,y⟩;have v:=d A (eh3 k);have m:f<b.length:=(ef6.1 k).1;unfold D4;rw[aa4,if_pos ⟨by omega,by omega⟩,eh6];have c:(ak1 b g n b.length)[A]?=some ((ak1 b g n b.length).getD A []):=by
   rw[List.getD,ef1 (by rw[aa4];exact v)];rfl
  rcases aF5 e d _ (eg6 _) _ _ c with⟨l,w,i,j⟩|⟨i,_⟩
  .have:f=l:=by
    obtain⟨o,p⟩:=ef6.1 k;obtain⟨q,r⟩:=ef6.1 i;have s:=em0.1 e;rcases Nat.lt_trichotomy f l with h|h|h
    .exact absurd (p.trans r.symm) (s f l o q h)
    .exact h
    .exact absurd (r.trans p.symm) (s l f q o h)
   subst this;rw[j];exact y
  .exact absurd k (i f m)
structure GM (h:Hp) (w0 w:World) (r:Nat) (kv:List (A9×Value)) (G:A9->List Int):Prop where
 map:aW4 w r kv
 ge:w0.heap.size<=r
 ext:o6 w0 w
 row:∀n v,O9 kv n=some v->B0 h w 3 v (G n)/\G n≠[]
 no:∀n,O9 kv n=none->G n=[]
 apart:∀n m v u,n≠m->O9 kv n=some v->O9 kv m=some u->∀b,A0 v b->¬A0 u b
 off:∀n v,O9 kv n=some v->∀b,A0 v b->b≠r/\w0.heap.size<=b
def GM.N(r:Nat)(kv:List (A9×Value))(b:Nat):Prop:=b=r\/∃n v,O9 kv n=some v/\A0 v b
section
variable {h:Hp} {w0 w:World} {r:Nat} {kv:List (A9×Value)} {G:A9->List Int}
def GM.more(s:GM h w0 w r kv G){b:World}(a:o6 w b):GM h w0 b r kv G:=
 ⟨s.map.mod a id,s.ge,s.ext.trans a,λn v e=>⟨(s.row n v e).1.ext a,(s.row n v e).2⟩,s.no,s.apart,s.off⟩
def GM.lt(s:GM h w0 w r kv G){b:Nat}(hb:GM.N r kv b):b<w.heap.size:=by
 rcases hb with rfl|⟨n,v,e,hb⟩
 .exact s.map.lt
 .exact(s.row n v e).1.lt hb
def GM.nge(s:GM h w0 w r kv G){b:Nat}(hb:GM.N r kv b):w0.heap.size<=b:=by
 rcases hb with rfl|⟨n,v,e,hb⟩
 .exact s.ge
 .exact(s.off n v e b hb).2
def GM.push(s:GM h w0 w r kv G)(M:B8 h (m8 w))(n:A9)(a:Int)(V:(G n).length<=100000000){P:Program}(U:P=prog){e:TypeId}:
  (Instr.lookup 253 (.map (some r)) (p6 n) false).run prog w = .ok ((O9 kv n).getD (.slice none 0 0)) w /\
  (Instr.buildSlice 24 1 #[(0,.int .i64 a)]).run prog w = .ok (.slice (some ⟨w.heap.size,0,none⟩) 1 1) (w.alloc (.cells #[.int .i64 a] 3)) /\
  ∃p D l,(Builtin.append_ #[24,24] e #[(O9 kv n).getD (.slice none 0 0),.slice (some ⟨w.heap.size,0,none⟩) 1 1]).run prog (w.alloc (.cells #[.int .i64 a] 3)) = .ok p D /\
   (Instr.mapUpdate 253 (.map (some r)) (p6 n) p).run prog D = .ok () l/\GM h w0 l r (aR6 kv n p) (λm=>if m=n then G n++[a]else G m)/\o8 (GM.N r kv) w l/\(∀b,GM.N r (aR6 kv n p) b->GM.N r kv b\/w.heap.size<=b):=by
 have L:prog.underlying 253=some (.map 9 24):=Tryz.underlying253;have K:prog.underlying 9=some .string:=Tryz.underlying9;have F:=s.map.lookup (P:=prog) L K am6 n;have I:B0 h w 3 ((O9 kv n).getD (.slice none 0 0)) (G n):=by
  cases he:O9 kv n with
  | none=>rw[s.no n he];exact B0.nil _ _ _
  | some v=>exact(s.row n v he).1
 have g:∀b,A0 ((O9 kv n).getD (.slice none 0 0)) b->∃v,O9 kv n=some v/\A0 v b:=λb c=>by
  cases he:O9 kv n with
  | none=>rw[he]at c;exact absurd c D5
  | some v=>rw[he]at c;exact⟨v,rfl,c⟩
 obtain⟨N,p,D,O,Q,B,J⟩:=Go.Proofs.YtggahhenbbgffaaGreat.push (P:=prog) (t:=24) (e:=e) V4 rfl I (x:=.int .i64 a) (y:=a) rfl (by omega) (by omega) M;have H:=s.map.mod B λc=>by
  obtain⟨v,e,c⟩:=g r c;exact(s.off n v e r c).1 rfl
 obtain⟨l,R,S,C⟩:=H.update (P:=prog) L K n p;refine⟨F,N,p,D,l,O,R,?_,?_,?_⟩
 .have A:∀b,A0 p b->b≠r/\w0.heap.size<=b:=λb c=>by
   rcases J b c with d|d
   .obtain⟨v,e,d⟩:=g b d;exact s.off n v e b d
   .have:=s.map.lt;have:=s.ext.size;exact⟨by omega,by omega⟩
  have z:∀m u,m≠n->O9 kv m=some u->∀b,A0 u b->¬A0 p b:=λm u j e b c f=>by
   rcases J b f with d|d
   .obtain⟨v,o,d⟩:=g b d;exact s.apart m n u v j e o b c d
   .have:=(s.row m u e).1.lt c;omega
  refine⟨S,s.ge,o8.ext_of (o8.ext_of s.ext B λb c=>?_) C λb c=>by subst c;exact s.ge,λm v e=>?_,λm e=>?_,λm k v u j q o b c f=>?_,λm v e b c=>?_⟩
  .obtain⟨v,e,c⟩:=g b c;exact(s.off n v e b c).2
  .rw[av8]at e;split at e
   .next i=>
    obtain rfl:=eh1 e;subst i;simp only[em4];exact⟨Q.mod C λb c=>(A b c).1,by simp⟩
   .next i=>
    simp only[i,en5];refine⟨((s.row m v e).1.mod B λb c f=>?_).mod C λb c=>(s.off m v e b c).1,(s.row m v e).2⟩;obtain⟨T,o,f⟩:=g b f;exact s.apart m n v T i e o b c f
  .rw[av8]at e;split at e
   .cases e
   .next i=>simp only[i,en5];exact s.no m e
  .rw[av8]at q o;split at q
   .next d=>
    obtain rfl:=eh1 q;rw[if_neg (λE=>j (d.trans E.symm))]at o;exact z k u (λE=>j (d.trans E.symm)) o b f c
   .next d=>
    split at o
    .obtain rfl:=eh1 o;exact z m v d q b c f
    .exact s.apart m k v u j q o b c f
  .rw[av8]at e;split at e
   .obtain rfl:=eh1 e;exact A b c
   .exact s.off m v e b c
 .exact o8.trans (B.weaken λb _ c=>by
   obtain⟨v,e,c⟩:=g b c;exact .inr ⟨n,v,e,c⟩) (C.weaken λb _ c=>.inl c)
 .intro b c;rcases c with d|⟨m,v,e,c⟩
  .exact .inl (.inl d)
  .rw[av8]at e;split at e
   .obtain rfl:=eh1 e;rcases J b c with d|d
    .obtain⟨v,e,d⟩:=g b d;exact .inl (.inr ⟨n,v,e,d⟩)
    .exact .inr d
   .exact .inl (.inr ⟨m,v,e,c⟩)
end
def aZ8{p:Pg}{i:Nat}(f:D3 p)(hw:B7 p<=1000000)(d:i<p.procs.length){k:Nat}(s:(k:Int)<(D7 (d9 p) i).n):((i4 p).gives (i:Int) (k:Int)).Pairwise (λa b=>ltS a b=true)/\((i4 p).gives (i:Int) (k:Int)).length<=100:=by
 obtain⟨x,m⟩:=I1 f.may hw i d;have c:=O8 m;generalize x+A7 p.procs[i].body=y at m c;unfold Bk.gives;rw[L9 d,M3 d];split
 .refine⟨V5 _,ef9 (aB6 _) ?_⟩;have l:=aR7 (aT7 f hw) (i:Int);have r:=T9 f.may d;rw[ef4,eg5];have e:H6 (i4 p).ins (i:Int)=H6 (af9 p) (i:Int):=rfl;rw[e];omega
 .next o=>
  split
  .exact⟨List.Pairwise.nil,by simp⟩
  .next l=>
   have n:¬(k:Int)=(D7 (d9 p) i).n-1:=λh=>l (.inl h);obtain⟨q,j,g,_⟩:=an9 c (k:=k) (by omega) (by omega);rw[j];exact((bN3 f hw).row g).2
def dc3(p:Pg)(i:Nat)(n:A9):List Int:=((i4 p).givers (i:Int) n).map λ(a:Nat)=>(a:Int)
def cQ0(a:Addr)(p:Pg)(i:Nat)(w:World)(ha:At (m8 w) a (i4 p))(hr:D3 p)(hw:B7 p<=1000000)(N:i<p.procs.length):
  o9 prog 185 #[.pointer (some a),.int .i64 i] w λu O=>(∃r K c,u = .tuple #[.map (some r),.int .i64 c]/\GM (m8 w) w O r K (dc3 p i)):=by
 refine p9 [.pointer (some a),.int .i64 i] func185 rfl ?_;obtain⟨x,pt⟩:=I1 hr.may hw i N;have ac:=O8 pt;generalize x+A7 p.procs[i].body=y at pt ac;have aN:=H7 hr.may;have hn:=ac.n;have aR:=pt.ok.len;have aQ:=pt.ok.le;have H:=λk (hk:((k:Nat):Int)<(D7 (d9 p) i).n)=>aZ8 hr hw N hk;have j:=λ(k:Nat) (wa:World) (hh:B8 (m8 w) (m8 wa)) (hk:(k:Int)<(D7 (d9 p) i).n)=>cL6 (m8 w) a p i k wa ha hh hr hw N hk;have C:∀n,dc3 p i n=((List.range (D7 (d9 p) i).n.toNat).filter λ(a:Nat)=>((i4 p).gives (i:Int) (a:Int)).contains n).map λ(a:Nat)=>(a:Int):=λn=>by
  unfold dc3 Bk.givers;rw[L9 N]
 obtain⟨sh,vw,_,_,_,_,has,ab,_,_,_,_,aI,_⟩:=ha.book rfl;obtain⟨aw,ax,T⟩:=as5 (hv:=ab) (k:=i) (p:=⟨D7 (d9 p) i⟩) (by show((J2 p).map λw=>(⟨w⟩:Ptr Wy))[i]?=_;rw[ei9,V6 N];rfl);simp only at T;have V:=ab.inS (k:=i) (by show i<((J2 p).map λw=>(⟨w⟩:Ptr Wy)).length;unfold J2;simpa using N);obtain⟨_,_,_,_,_,_,ag,_⟩:=T.wy;obtain⟨Y,X,A⟩:=aW4.new (P:=prog) w 253;generalize a0:w.alloc (.map #[] 0)=w1 at Y X A;have an:GM (m8 w) w w1 w.heap.size [] (λ_=>[]):=⟨X,eg6 _,A,λn v e=>by simp[O9]at e,λ_ _=>rfl,λn m v u _ e=>by simp[O9]at e,λn v e=>by simp[O9]at e⟩;generalize ao:(λk:Nat=>(i4 p).gives (i:Int) (k:Int))=g at *;have ap:∀k:Nat,(i4 p).gives (i:Int) (k:Int)=g k:=λk=>by rw[<-ao]
 simp only[ap]at H j C;generalize(D7 (d9 p) i).n=wn at hn H j C ag;obtain⟨M,rfl⟩:∃M:Nat,wn=(M:Int):=⟨wn.toNat,by omega⟩;rw[eh6]at C;have aC:=J1 (P:=prog) (t:=114) ax (b7 A) as8;simp only[i5,n9,y4,simprocAttr,aJ6,Y,aI w1 (b7 A),V,aC,ag w1 (b7 A)];have aq:∀k,(λn=>((List.range k).filter λ(a:Nat)=>(g a).contains n).map (λ(a:Nat)=>(a:Int))++if((g k).take (g k).length).contains n then[(k:Int)]else[])=λn=>((List.range (k+1)).filter λ(a:Nat)=>(g a).contains n).map λ(a:Nat)=>(a:Int):=λk=>by
  funext n
  rw[eg4,eq1,el7,ei4]
  congr 1
  rw[List.filter_cons,List.filter_nil];cases(g k).contains n<;>rfl
 refine A6 [0,1,4,19] (σ:=Nat×List (A9×Value)) (λs f O=>f 20 = .int .i64 s.1/\s.1<=M/\(∃c:Int,f 5 = .int .i64 c)/\GM (m8 w) w O w.heap.size s.2 (λn=>((List.range s.1).filter λ(a:Nat)=>(g a).contains n).map λ(a:Nat)=>(a:Int))) (λs=>M-s.1) (0,[]) ?_ ?_
 .exact⟨rfl,eg3 _,⟨0,by trivial⟩,an⟩
 rintro⟨k,K⟩ f w5 ⟨e0,e1,e4,Q,_⟩ ⟨B,aA,⟨c,h5⟩,L⟩;simp only at B aA L;simp only[i5,n9,simprocAttr,B,Q];refine y5 (λaX=>?_) ?_;rotate_left
 .rintro rfl;simp only[i5,simprocAttr,e4,h5];refine W7 results185 ?_;simp only[B3,simprocAttr];refine⟨w.heap.size,K,c,by trivial,?_⟩;have:dc3 p i=λn=>((List.range k).filter λ(a:Nat)=>(g a).contains n).map λ(a:Nat)=>(a:Int):=by funext n;exact C n
  rw[this];exact L
 obtain⟨o,U⟩:=H k (by omega);have D:=aq k;simp only[i5,simprocAttr,B,e0,e1];refine t8 (j k w5 (b7 L.ext) (by omega)) ?_;rintro u w6 ⟨hu,ad⟩;have s6:=L.more ad;have z:R (C1 w6 (GM.N w.heap.size K)) u (g k):=A3.mono (cG5 (b7 L.ext) ad λb G=>⟨L.lt G,bf0 (L.nge G)⟩) hu;have Z:=az0 o;generalize g k=d at z o U D Z;simp only[i5,n9,simprocAttr,z.isS,z.vlen];refine A6 [0,1,4,6,19,20,26,27] (σ:=Nat×List (A9×Value)) (λs f O=>f 28 = .int .i64 s.1/\s.1<=d.length/\(∃c:Int,f 5 = .int .i64 c)/\GM (m8 w) w O w.heap.size s.2 (λn=>((List.range k).filter λ(a:Nat)=>(g a).contains n).map (λ(a:Nat)=>(a:Int))++if(d.take s.1).contains n then[(k:Int)]else[])/\o8 (GM.N w.heap.size K) w6 O/\(∀b,GM.N w.heap.size s.2 b->GM.N w.heap.size K b\/w6.heap.size<=b)) (λs=>d.length-s.1) (0,K) ?_ ?_
 .refine⟨rfl,eg3 _,⟨c,h5⟩,?_,o8.refl _,λb G=>.inl G⟩;simp only[ep6,List.contains_nil,em5,en5,ei5];exact s6
 rintro⟨q,af⟩ f7 w7 ⟨j0,j1,j4,j6,aF,ae,aG,aH,_⟩ ⟨E,aE,⟨c7,S⟩,s7,I,F⟩;simp only at E aE s7 F;rw[e0]at j0;rw[e1]at j1;rw[e4]at j4;rw[Q]at aF;rw[B]at ae;simp only[i5,n9,simprocAttr,E,aH];refine y5 (λl=>?_) ?_;rotate_left
 .rintro rfl;rw[D]at s7;simp only[i5,n9,simprocAttr,ae];exact T4 (k+1,af) ⟨⟨c7,S⟩,s7⟩
 have ay:=z.inS l;have W:=ldS z (D8 I) l;have J:=ef8 l;have aa:(d.take q).contains d[q]=false:=by
  cases h:(d.take q).contains d[q]
  .rfl
  .exfalso
   have h1:=eg7.1 h;have h2:(d.take (q+1)).Nodup:=Z.sublist (List.take_sublist _ _);rw[J,ek2]at h2;exact h2.2.2 _ h1 _ (by simp) rfl
 generalize d[q]=n at W J aa;have aB:(((List.range k).filter λ(a:Nat)=>(g a).contains n).map (λ(a:Nat)=>(a:Int))++if(d.take q).contains n then[(k:Int)]else[]).length<=1000:=by
  rw[ef4,eg5];have h1:=eh9 (λ(a:Nat)=>(g a).contains n) (List.range k);rw[ek6]at h1;have h2:(if(d.take q).contains n then[(k:Int)]else[]).length<=1:=by split<;>simp
  omega
 obtain⟨q1,q2,v',w8,w9,q3,q4,s9,aD,au⟩:=s7.push (b7 s7.ext) n (k:Int) (by omega) rfl (e:=24);have ar:(λm=>if m=n then(((List.range k).filter λ(a:Nat)=>(g a).contains n).map (λ(a:Nat)=>(a:Int))++if(d.take q).contains n then[(k:Int)]else[])++[(k:Int)]else((List.range k).filter λ(a:Nat)=>(g a).contains m).map (λ(a:Nat)=>(a:Int))++if(d.take q).contains m then[(k:Int)]else[])=λm=>((List.range k).filter λ(a:Nat)=>(g a).contains m).map (λ(a:Nat)=>(a:Int))++if(d.take (q+1)).contains m then[(k:Int)]else[]:=by
  funext m
  have av:(d.take (q+1)).contains m=((d.take q).contains m||decide (m=n)):=by
   rw[J,eq7,eq6,eg7,eg7,eg1,eh2,decide_eq_true_iff]
  rw[av];split
  .next h=>subst h;rw[aa];simp
  .next h=>simp[h]
 rw[ar]at s9;simp only[i5,n9,y4,simprocAttr,E,S,j4,j6,aG,ay,W,q1,q2,q3,aJ7,q4];exact T4 (q+1,aR6 af n v') ⟨⟨_,by trivial⟩,s9,I.chain aD (λb G h=>(F b h).resolve_right (by omega)),λb G=>(au b G).elim (F b) λh=>.inr (ef9 I.size h)⟩
def cA8{p:Pg}{i:Nat}(g:D3 p)(hw:B7 p<=1000000)(j:i<p.procs.length){k:Nat}(r:(k:Int)<(D7 (d9 p) i).n):((i4 p).takes (i:Int) (k:Int)).Pairwise (λa b=>ltS a b=true)/\((i4 p).takes (i:Int) (k:Int)).length<=2000000:=by
 obtain⟨x,l⟩:=I1 g.may hw i j;have c:=O8 l;generalize x+A7 p.procs[i].body=y at l c;unfold Bk.takes;rw[L9 j];split
 .refine⟨V5 _,ef9 (aB6 _) ?_⟩;have o:=aR7 (aF2 g.may) (i:Int);rw[ef4,ei6];have e:H6 (i4 p).outs (i:Int)=H6 (K8 p) (i:Int):=rfl;rw[e];omega
 .next o=>
  split
  .exact⟨List.Pairwise.nil,by simp⟩
  .next m=>
   have n:¬(k:Int)=0:=λh=>m (.inl h);obtain⟨q,f,d,_⟩:=an9 c (k:=k) (by omega) (by omega);rw[f];exact((bN4 g hw).row d).2
def at5(b:Bk)(i:Int)(n:A9)(c:Nat):List Nat:=(List.range (b.givers i n).length).filter λf=>bl3 (b.nx i) (b.givers i n) ((b.givers i n).getD f 0) c
def af6(b:Bk)(i:Int)(n:A9)(c:Nat)(f:Nat):List Fw:=if(b.takes i c).contains n then[⟨(b.way i).place (((b.givers i n).getD f 0:Nat):Int),(b.way i).place c,n⟩]else[]
def aL6(b:Bk)(i:Int)(n:A9)(c:Nat):List Fw:=(at5 b i n c).flatMap (af6 b i n c)
def at4(b:Bk)(i:Int)(n:A9):List Fw:=(List.range (b.way i).n.toNat).flatMap (aL6 b i n)
def be6(b:Bk)(i:Int)(n:A9):(b.givers i n).Nodup:=by
 unfold Bk.givers;exact List.nodup_range.filter _
def ad8{b:Bk}{i:Int}{n:A9}{x:Fw}:x∈at4 b i n↔∃a c:Nat,a∈b.givers i n/\c<(b.way i).n.toNat/\(b.takes i c).contains n=true/\bl3 (b.nx i) (b.givers i n) a c=true/\x=⟨(b.way i).place a,(b.way i).place c,n⟩:=by
 unfold at4 aL6 af6 at5;simp only[ei7,ej7,eh8];constructor
 .rintro⟨c,h,f,⟨e,d⟩,g⟩;split at g
  .next j=>
   rw[eh2]at g;refine⟨(b.givers i n).getD f 0,c,?_,h,j,d,g⟩;rw[List.getD,ef1 e];exact eg2 e
  .simp at g
 .rintro⟨a,c,l,h,j,d,rfl⟩;obtain⟨f,e,rfl⟩:=em3.1 l;have k:(b.givers i n).getD f 0=(b.givers i n)[f]:=by rw[List.getD,ef1 e];rfl
  exact⟨c,h,f,⟨e,by rw[k];exact d⟩,by rw[if_pos j,k];simp⟩
def aU1{b:Bk}{i:Int}{x:Fw}:x∈b.flow0 i↔∃n,x∈at4 b i n:=by
 unfold Bk.flow0;simp only[ei7,ej7,eh4,eh8,eh5,ad8];constructor
 .rintro⟨a,e,n,h,c,⟨f,g,d⟩,rfl⟩;refine⟨n,a,c,?_,f,g,d,rfl⟩;unfold Bk.givers;rw[eh8,ej7,eg7];exact⟨e,h⟩
 .rintro⟨n,a,c,e,f,g,d,rfl⟩;unfold Bk.givers at e;rw[eh8,ej7,eg7]at e;exact⟨a,e.1,n,e.2,c,⟨f,g,d⟩,rfl⟩
def ay7{α β:Type}{f:α->List β}:∀{l:List α},l.Nodup->(∀a∈l,(f a).Nodup)->(∀a∈l,∀b∈l,∀x,x∈f a->x∈f b->a=b)->(l.flatMap f).Nodup
 | [],_,_,_=>by simp
 | a::l,hn,h1,h2=>by
  rw[es0]at hn;rw[ep2,ek2];refine⟨h1 a (by simp),ay7 hn.2 (λb d=>h1 b (by simp[d])) (λb d c h=>h2 b (by simp[d]) c (by simp[h])),λx i y j e=>?_⟩;subst e;obtain⟨b,d,g⟩:=ei7.1 j;have:=h2 a (by simp) b (by simp[d]) x i g;subst this;exact hn.1 d
def bM6(w:Wy):Prop:=∀a c:Nat,a<w.n.toNat->c<w.n.toNat->w.place a=w.place c->a=c
def cy3{l:List Nat}(h:l.Nodup){f a:Nat}(d:f<l.length)(b:a<l.length)(e:l.getD f 0=l.getD a 0):f=a:=by
 have g:l.getD f 0=l[f]:=by rw[List.getD,ef1 d];rfl
 have i:l.getD a 0=l[a]:=by rw[List.getD,ef1 b];rfl
 rw[g,i]at e;have c:=em0.1 h;rcases Nat.lt_trichotomy f a with h|h|h
 .exact absurd e (c f a d b h)
 .exact h
 .exact absurd e.symm (c a f b d h)
def bP5{l:List Nat}{f:Nat}(a:f<l.length):l.getD f 0∈l:=by
 rw[List.getD,ef1 a];exact eg2 a
def aj9(b:Bk)(i:Int)(n:A9):∀a∈b.givers i n,a<(b.way i).n.toNat:=λa c=>by
 unfold Bk.givers at c;exact ej7.1 (eh8.1 c).1
def aJ0{b:Bk}{i:Int}{n:A9}{c f:Nat}{x:Fw}(h:x∈af6 b i n c f):x.src=(b.way i).place (((b.givers i n).getD f 0:Nat):Int)/\x.dst=(b.way i).place c:=by
 unfold af6 at h;split at h
 .rw[eh2]at h;subst h;exact⟨rfl,rfl⟩
 .simp at h
def ch5{b:Bk}{i:Int}(m:bM6 (b.way i))(n:A9):(at4 b i n).Nodup:=by
 unfold at4;refine ay7 List.nodup_range (λc k=>?_) λc k p h x d a=>?_
 .unfold aL6;refine ay7 (List.nodup_range.filter _) (λf l=>?_) λf l o j x d a=>?_
  .unfold af6;split<;>simp
  .have e:=ej7.1 (eh8.1 l).1;have g:=ej7.1 (eh8.1 j).1;exact cy3 (be6 b i n) e g (m _ _ (aj9 b i n _ (bP5 e)) (aj9 b i n _ (bP5 g)) ((aJ0 d).1.symm.trans (aJ0 a).1))
 .unfold aL6 at d a;obtain⟨f,_,d⟩:=ei7.1 d;obtain⟨o,_,a⟩:=ei7.1 a;exact m _ _ (ej7.1 k) (ej7.1 h) ((aJ0 d).2.symm.trans (aJ0 a).2)
def ch4{b:Bk}{i:Int}(k:bM6 (b.way i))(l:∀a:Nat,a<(b.way i).n.toNat->(b.gives i a).Nodup):(b.flow0 i).Nodup:=by
 unfold Bk.flow0;refine ay7 List.nodup_range (λa g=>?_) λa g q h x f d=>?_
 .refine ay7 (l a (ej7.1 g)) (λn m=>?_) λn m p o x f d=>?_
  .rw[List.Nodup,List.pairwise_map];refine List.Pairwise.imp_of_mem (fun{c j} hc hc' hne e=>?_) (List.nodup_range.filter _);exact hne (k _ _ (ej7.1 (eh8.1 hc).1) (ej7.1 (eh8.1 hc').1) (eg8 Fw.dst e))
  .obtain⟨c,_,rfl⟩:=eh4.1 f;obtain⟨j,_,e⟩:=eh4.1 d;exact(eg8 Fw.var e).symm
 .obtain⟨n,_,f⟩:=ei7.1 f;obtain⟨p,_,d⟩:=ei7.1 d;obtain⟨c,_,rfl⟩:=eh4.1 f;obtain⟨j,_,e⟩:=eh4.1 d;exact(k _ _ (ej7.1 h) (ej7.1 g) (eg8 Fw.src e)).symm
def cv3{b:Bk}{i:Int}(k:bM6 (b.way i))(l:∀a:Nat,a<(b.way i).n.toNat->(b.gives i a).Nodup){c:List A9}(m:c.Nodup)(d:∀n,b.givers i n≠[]->n∈c):(c.flatMap (at4 b i)).Perm (b.flow0 i):=by
 have f:(c.flatMap (at4 b i)).Nodup:=ay7 m (λn _=>ch5 k n) λn _ p _ x o g=>by
  obtain⟨_,_,_,_,_,_,rfl⟩:=ad8.1 o;obtain⟨_,_,_,_,_,_,e⟩:=ad8.1 g;exact eg8 Fw.var e
 rw[List.perm_ext_iff_of_nodup f (ch4 k l)];intro x;rw[aU1,ei7];constructor
 .rintro⟨n,_,h⟩;exact⟨n,h⟩
 .rintro⟨n,h⟩;refine⟨n,d n λe=>?_,h⟩;obtain⟨a,_,j,_⟩:=ad8.1 h;rw[e]at j;simp at j
def dc0{b:Bk}{i:Int}(u:bM6 (b.way i))(t:∀a:Nat,a<(b.way i).n.toNat->(b.gives i a).Nodup)(e:∀a:Nat,a<(b.way i).n.toNat->plc ((b.way i).place a)){l:List Fw}(h:l.Perm (b.flow0 i)):Y4 bL8 l=b.flows i:=by
 have d:∀x∈b.flow0 i,plc x.src/\plc x.dst:=λx r=>by
  obtain⟨n,h⟩:=aU1.1 r;obtain⟨a,c,g,q,_,_,rfl⟩:=ad8.1 h;have m:a<(b.way i).n.toNat:=by
   unfold Bk.givers at g;exact ej7.1 (eh8.1 g).1
  exact⟨e a m,e c q⟩
 have o:∀a b:Fw,bL8 a b=true\/bL8 b a=true:=λa b=>cf2.total a b;have f:∀a b c:Fw,bL8 a b=true->bL8 b c=true->bL8 a c=true:=λa b c j k=>ek5 (cf2.trans a b c (ef3 j) (ef3 k));unfold Bk.flows;refine aK8 (le:=bL8) ((G1 _ _).trans (h.trans (G1 _ _).symm)) (λa g s p j k=>?_) (am3 (λa _ b _=>o a b) λa _ b _ c _=>f a b c) (am3 (λa _ b _=>o a b) λa _ b _ c _=>f a b c);exact ch8 (d _ (h.mem_iff.1 ((G1 _ _).mem_iff.1 g))) (d _ (h.mem_iff.1 ((G1 _ _).mem_iff.1 p))) (cf2.eq0 j k)
def ch9{kv:List (A9×Value)}(hn:(kv.map (·.1)).Nodup){n:A9}{v:Value}(h:(n,v)∈kv):O9 kv n=some v:=by
 induction kv with
 | nil=>simp at h
 | cons p l b=>
  rw[ej9,es0]at hn;rcases eh0.1 h with rfl|h
  .simp[O9]
  .have a:p.1≠n:=λe=>hn.1 (by rw[e];exact eh4.2 ⟨_,h,rfl⟩);have:=b hn.2 h;simp only[O9]at this ⊢;simp[a,this]
def dc2{kv:List (A9×Value)}{n:A9}{v:Value}(h:O9 kv n=some v):(n,v)∈kv:=by
 unfold O9 at h;obtain⟨p,a,rfl⟩:=Option.map_eq_some_iff.1 h;have b:=List.find?_some a;have c:=ef3 b;subst c;exact List.mem_of_find?_eq_some a
def aT3{α β:Type}{f:α->List β}{B:Nat}:∀{l:List α},(∀a∈l,(f a).length<=B)->(l.flatMap f).length<=l.length*B
 | [],_=>by simp
 | a::l,h=>by
  rw[ep2,ef4,ei2,er2,Nat.one_mul];have d:=h a (by simp);have e:=aT3 (l:=l) (f:=f) (B:=B) λb c=>h b (by simp[c]);omega
def cv8(b:Bk)(i:Int)(n:A9):(b.givers i n).length<=(b.way i).n.toNat:=by
 unfold Bk.givers;exact ef9 (eh9 _ _) (by simp)
def bP4(b:Bk)(i:Int)(n:A9)(c:Nat):(at5 b i n c).length<=(b.way i).n.toNat:=by
 unfold at5;refine ef9 (eh9 _ _) ?_;rw[ek6];exact cv8 b i n
def bC6(b:Bk)(i:Int)(n:A9)(c f:Nat):(af6 b i n c f).length<=1:=by
 unfold af6;split<;>simp
def cv0(b:Bk)(i:Int)(n:A9)(c q:Nat):(((at5 b i n c).take q).flatMap (af6 b i n c)).length<=(b.way i).n.toNat:=by
 have a:=aT3 (l:=(at5 b i n c).take q) (f:=af6 b i n c) (B:=1) λf _=>bC6 b i n c f;have d:=bP4 b i n c;have e:((at5 b i n c).take q).length<=(at5 b i n c).length:=by rw[eg0];omega
 omega
def cP3(b:Bk)(i:Int)(n:A9)(c:Nat):(aL6 b i n c).length<=(b.way i).n.toNat:=by
 have h:=cv0 b i n c (at5 b i n c).length;rw[eg4]at h;exact h
def bC5(b:Bk)(i:Int)(n:A9)(c:Nat):((List.range c).flatMap (aL6 b i n)).length<=c*(b.way i).n.toNat:=by
 have a:=aT3 (l:=List.range c) (f:=aL6 b i n) (B:=(b.way i).n.toNat) λc _=>cP3 b i n c
 rwa [ek6]at a
def cP4(b:Bk)(i:Int)(n:A9):(at4 b i n).length<=(b.way i).n.toNat*(b.way i).n.toNat:=bC5 b i n _
def de8{b:Bk}{i:Int}{c:List A9}(j:c.Nodup)(e:∀n∈c,b.givers i n≠[])(h:∀a:Nat,a<(b.way i).n.toNat->(b.gives i a).length<=100):c.length<=(b.way i).n.toNat*100:=by
 have g:=aT3 (l:=List.range (b.way i).n.toNat) (f:=λ(a:Nat)=>b.gives i (a:Int)) (B:=100) λa d=>h a (ej7.1 d);rw[ek6]at g;refine ef9 (J6 j λn k=>?_) g;obtain⟨a,d⟩:=List.exists_mem_of_ne_nil _ (e n k);unfold Bk.givers at d;rw[eh8,eg7]at d;exact ei7.2 ⟨a,d.1,d.2⟩
def dG5{p:Pg}{i x y:Nat}{wy:Wy}(h:WyOk p i x y wy)(b:(d9 p).l.length<=200):bM6 wy:=λa c g j e=>by
 have k:=h.n;have d:=h.part.ok.len;have f:=h.part.ok.le;rw[h.place,h.place]at e;split at e<;>split at e<;>first|omega|(split at e<;>first|omega|(split at e<;>omega))
def dG6{p:Pg}{i x y:Nat}{wy:Wy}(h:WyOk p i x y wy)(b:(d9 p).l.length<=200)(a:Nat)(e:a<wy.n.toNat):plc (wy.place a):=by
 have f:=h.n;have c:=h.part.ok.len;have d:=h.part.ok.le;rw[h.place];unfold plc;split
 .omega
 .split<;>omega
def cP5{b:Bk}{i:Int}(d:∀a:Nat,a<(b.way i).n.toNat->plc ((b.way i).place a)){n m:A9}{s t:Fw}(l:s∈at4 b i n)(o:t∈at4 b i m)(g:decide (fwC s t<=0)=true)(h:decide (fwC t s<=0)=true):s=t:=by
 obtain⟨a,c,j,k,_,_,rfl⟩:=ad8.1 l;obtain⟨p,q,e,f,_,_,rfl⟩:=ad8.1 o;exact ch8 ⟨d _ (aj9 _ _ _ _ j),d _ k⟩ ⟨d _ (aj9 _ _ _ _ e),d _ f⟩ (cf2.eq0 g h)
def cZ0(s d:Int)(n:A9):B6 prog 210 [(0,.int .i64 s),(1,.int .i64 d),(2,p6 n)]=some (.agg (p8.cells (⟨s,d,n⟩:Fw)).toArray):=by
 simp[B6,dH6,J9,Instr.fill,Value.cells,p6];rfl
def aM2(T:Nat->List A9)(M k:Nat):List (List A9):=(List.range M).map λc=>if c<k then T c else[]
def bn3(T:Nat->List A9)(M k:Nat):(aM2 T M k).length=M:=by simp[aM2]
def cz5(T:Nat->List A9)(M:Nat):List.replicate M []=aM2 T M 0:=by
 apply em6
 .simp[aM2]
 .intro i a b;simp[aM2]
def cU1{T:Nat->List A9}{M k:Nat}:(aM2 T M k).set k (T k)=aM2 T M (k+1):=by
 apply em6
 .simp[aM2]
 .intro i a b;rw[List.getElem_set];simp only[aM2,em7,es1];split
  .next h=>subst h;rw[if_pos (by omega)]
  .next h=>
   by_cases h3:i<k
   .rw[if_pos h3,if_pos (by omega)]
   .rw[if_neg h3,if_neg (by omega)]
def cU0{T:Nat->List A9}{M c:Nat}(a:c<M):(aM2 T M M)[c]?=some (T c):=by
 simp only[aM2,ei9,eo0 a,el5,if_pos a]
def di9{l:List (List Int)}{c:Nat}(a:c<l.length):l[c]?=some (D4 l c):=by
 unfold D4;rw[if_pos ⟨by omega,by omega⟩,eh6,List.getD,ef1 a];rfl
def keyN(kv:List (A9×Value))(j:Nat):A9:=match kv[j]? with
 | some q=>q.1
 | none=>e0
def bf2{kv:List (A9×Value)}{j:Nat}{q:A9×Value}(h:kv[j]?=some q):keyN kv j=q.1:=by
 unfold keyN;rw[h]
def de7{kv:List (A9×Value)}(hn:(kv.map (·.1)).Nodup){j q:Nat}(b:j<kv.length)(c:q<kv.length)(e:keyN kv j=keyN kv q):j=q:=by
 rw[bf2 (ef1 b),bf2 (ef1 c)]at e;have h:=em0.1 hn;rcases Nat.lt_trichotomy j q with a|a|a
 .exact absurd (by rw[em7,em7];exact e) (h j q (by simpa using b) (by simpa using c) a)
 .exact a
 .exact absurd (by rw[em7,em7];exact e.symm) (h q j (by simpa using c) (by simpa using b) a)
def bG5{n:Nat}(f:Nat->List A9){i:Nat}(a:i<n):H6 ((List.range n).map f) (i:Int)=f i:=by
 unfold H6;rw[eh6,List.getD,ei9,eo0 a];rfl
def aa2{l:List A9}{x:A9}:x∈W8 l↔x∈l:=(W4 l).mem_iff
section
variable {p:Pg} {i:Nat}
def cl7(hm:M8 p=true)(a:i<p.procs.length):H6 (K8 p) (i:Int)=E3 (ag1 p (J8 p (K8 p)) i):=by
 obtain⟨_,_,e⟩:=bF8 hm
 conv=>lhs;rw[<-e]
 exact bG5 _ a
def cG7(b:D3 p)(hw:B7 p<=1000000)(a:i<p.procs.length):H6 (af9 p) (i:Int)=E3 (aL8 p (K8 p) (R0 p (af9 p)) (J8 p (K8 p)) i):=by
 obtain⟨_,_,e⟩:=cG6 b hw
 conv=>lhs;rw[<-e]
 exact bG5 _ a
def bm9(hm:M8 p=true)(b:i<p.procs.length){n:A9}(hn:n∈H6 (K8 p) (i:Int)):n=af1\/T8 n=true:=by
 rw[cl7 hm b,J7]at hn;have:=bT6 (bg4 hn);rw[List.getD,ef1 b]at this;simp only[eh0,eg1,eh4,ek4]at this;rcases this with h|h|⟨a,c,rfl⟩
 .exact .inl h
 .exact .inr (ck3 hm n h)
 .exact .inr ((ck4 hm b).2.1 a c)
def de4(b:D3 p)(hw:B7 p<=1000000)(a:i<p.procs.length){n:A9}(hn:n∈H6 (af9 p) (i:Int)):n∈p.globals\/n=af1:=by
 rw[cG7 b hw a,J7]at hn;unfold aL8 at hn;simpa using(eh8.1 hn).1
def cI8{l:List A9}(h:l.Pairwise (λa b=>ltS a b=true)):l.Nodup:=az0 h
def bb6(a:i<p.procs.length):(i4 p).slotsIn (i:Int)=W8 (H6 (af9 p) (i:Int)++p.procs[i].params.map (·.name)):=by
 unfold Bk.slotsIn;rw[M3 a];rfl
theorem bu8:(i4 p).slotsOut (i:Int)=W8 (H6 (K8 p) (i:Int)++[U2]):=rfl
def aX9(d:D3 p)(hw:B7 p<=1000000)(c:i<p.procs.length):((i4 p).slotsIn (i:Int)).Nodup:=by
 rw[bb6 c,(W4 _).nodup_iff,ek2];obtain⟨f,g,_⟩:=d.proc i c;unfold bw7 at f g;refine⟨by rw[cG7 d hw c];exact cI8 (V5 _),(ek2.1 f).1,λa k b j e=>?_⟩;subst e;rcases de4 d hw c k with h|h
 .exact g a (ei1 _ j) h
 .obtain⟨q,l,e⟩:=eh4.1 j;exact(aJ1 ((ck4 d.may c).2.1 q l)).1 (by rw[e,h])
def az6(hm:M8 p=true)(d:i<p.procs.length):((i4 p).slotsOut (i:Int)).Nodup:=by
 rw[bu8,(W4 _).nodup_iff,ek2];refine⟨by rw[cl7 hm d];exact cI8 (V5 _),by simp,λa f b c e=>?_⟩;subst e;simp only[eh2]at c;rcases bm9 hm d f with h|h
 .exact cb3.1 (by rw[<-h,c])
 .exact(aJ1 h).2.1 c
def co0(hm:M8 p=true):(d9 p).l.Nodup:=by
 refine em0.2 λj k b d c e=>?_;have a:=aw3 hm j _ (ef1 b);have f:=aw3 hm k _ (ef1 d);rw[e]at a;omega
def dh1(hm:M8 p=true){x y:Nat}(a:as2 p i x y):((d9 p).of i).Nodup:=by
 rw[a.ok.of_];exact((co0 hm).sublist (List.take_sublist _ _)).sublist (List.drop_sublist _ _)
end
def N4{b:Bk}{i:Int}{v:Vx}:v∈b.vert0 i↔v=⟨(b.s.fn i).name,1,0,e0⟩\/(∃n∈b.slotsIn i,v=⟨(b.s.fn i).name,3,0,n⟩)\/(∃n∈b.slotsOut i,v=⟨(b.s.fn i).name,4,0,n⟩) \/
  ∃it∈b.s.of i,v=⟨(b.s.fn i).name,2,it.s.id,e0⟩\/(it.s.kind=4/\((∃n∈b.slotsIn (b.s.pr it.s.proc),v=⟨(b.s.fn i).name,5,it.s.id,n⟩)\/∃n∈b.callOut it.s,v=⟨(b.s.fn i).name,6,it.s.id,n⟩)):=by
 unfold Bk.vert0;simp only[eg1,eh2,eh4,ei7,List.mem_ite_nil_right];constructor
 .rintro(((h|⟨n,c,h⟩)|⟨n,c,h⟩)|⟨it,a,h|⟨d,⟨n,c,h⟩|⟨n,c,h⟩⟩⟩)
  .exact .inl h
  .exact .inr (.inl ⟨n,c,h.symm⟩)
  .exact .inr (.inr (.inl ⟨n,c,h.symm⟩))
  .exact .inr (.inr (.inr ⟨it,a,.inl h⟩))
  .exact .inr (.inr (.inr ⟨it,a,.inr ⟨d,.inl ⟨n,c,h.symm⟩⟩⟩))
  .exact .inr (.inr (.inr ⟨it,a,.inr ⟨d,.inr ⟨n,c,h.symm⟩⟩⟩))
 .rintro(h|⟨n,c,h⟩|⟨n,c,h⟩|⟨it,a,h|⟨d,⟨n,c,h⟩|⟨n,c,h⟩⟩⟩)
  .exact .inl (.inl (.inl h))
  .exact .inl (.inl (.inr ⟨n,c,h.symm⟩))
  .exact .inl (.inr ⟨n,c,h.symm⟩)
  .exact .inr ⟨it,a,.inl h⟩
  .exact .inr ⟨it,a,.inr ⟨d,.inl ⟨n,c,h.symm⟩⟩⟩
  .exact .inr ⟨it,a,.inr ⟨d,.inr ⟨n,c,h.symm⟩⟩⟩
def aJ4{α β:Type}{f:α->β}(c:∀a b,f a=f b->a=b){l:List α}(h:l.Nodup):(l.map f).Nodup:=by
 induction l with
 | nil=>simp
 | cons x l g=>
  rw[es0]at h;rw[ej9,es0];refine⟨λhm=>?_,g h.2⟩;obtain⟨y,d,e⟩:=eh4.1 hm;exact h.1 (c _ _ e ▸ d)
section
variable {p:Pg} {i x y:Nat}
def bL1(d:D3 p){it:It}(b:it∈(d9 p).l)(f:it.s.kind=4):((i4 p).callOut it.s).Nodup:=by
 obtain⟨c,a⟩:=Y6 (d.fits it b f);have e:(i4 p).s.pr it.s.proc=(c:Int):=a.pr;unfold Bk.callOut;rw[e];split
 .exact(az6 d.may a.lt).sublist List.filter_sublist
 .exact az6 d.may a.lt
def cp9(l:D3 p)(hw:B7 p<=1000000)(C:i<p.procs.length)(r:as2 p i x y):((i4 p).vert0 (i:Int)).Nodup:=by
 unfold Bk.vert0;generalize((i4 p).s.fn (i:Int)).name=q;have D:(i4 p).s=d9 p:=rfl;rw[D];have o:∀it∈(d9 p).of i,1<=it.s.id/\(d9 p).it it.s.id=it:=λit g=>⟨(bt3 l.may (aW9 r g)).2.2,(bt3 l.may (aW9 r g)).2.1⟩;have j:∀it:It,∀v:Vx,v∈([⟨q,2,it.s.id,e0⟩]++if it.s.kind=4 then(((i4 p).slotsIn ((d9 p).pr it.s.proc)).map λn=>(⟨q,5,it.s.id,n⟩:Vx))++((i4 p).callOut it.s).map λn=>(⟨q,6,it.s.id,n⟩:Vx)else[])->v.id=it.s.id:=by
  intro it v s;simp only[eg1,eh2,List.mem_ite_nil_right,eh4]at s;rcases s with rfl|⟨_,⟨n,_,rfl⟩|⟨n,_,rfl⟩⟩<;>rfl
 rw[ek2,ek2,ek2];refine⟨⟨⟨by simp,aJ4 (λa b h=>by simpa using h) (aX9 l hw C),?_⟩,aJ4 (λa b h=>by simpa using h) (az6 l.may C),?_⟩,?_,?_⟩
 .rintro a d b f rfl;simp only[eh2,eh4]at d f;obtain⟨n,_,e⟩:=f;rw[d]at e;simp at e
 .rintro a d b f rfl;simp only[eg1,eh2,eh4]at d f;obtain⟨n,_,e⟩:=f;rcases d with d|⟨m,_,d⟩
  .rw[d]at e;simp at e
  .rw[<-d]at e;simp at e
 .refine ay7 (dh1 l.may r) (λit g=>?_) λa d b f v t u=>?_
  .rw[ek2];refine⟨by simp,?_,?_⟩
   .split
    .rename_i A;obtain⟨c,B⟩:=Y6 (l.fits it (aW9 r g) A);rw[ek2];refine⟨aJ4 (λa b h=>by simpa using h) ?_,aJ4 (λa b h=>by simpa using h) (bL1 l (aW9 r g) A),?_⟩
     .rw[B.pr];exact aX9 l hw B.lt
     .rintro a d b f rfl;simp only[eh4]at d f;obtain⟨n,_,e⟩:=d;obtain⟨m,_,w⟩:=f;rw[<-e]at w;simp at w
    .simp
   .rintro a d b f rfl;simp only[eh2,List.mem_ite_nil_right,eg1,eh4]at d f;subst d;obtain⟨_,⟨n,_,e⟩|⟨n,_,e⟩⟩:=f<;>simp at e
  .have k:=j a v t;have z:=j b v u;rw[<-(o a d).2,<-(o b f).2,<-k,<-z]
 .rintro a d b f rfl;obtain⟨it,g,s⟩:=ei7.1 f;have k:=j it a s;have z:=(o it g).1;simp only[eg1,eh2,eh4]at d;rcases d with(d|⟨n,_,d⟩)|⟨n,_,d⟩
  .rw[d]at k;simp only at k;omega
  .rw[<-d]at k;simp only at k;omega
  .rw[<-d]at k;simp only at k;omega
def aV4(hm:M8 p=true)(c:as2 p i x y){d:Int}(a:(x:Int)<d)(b:d<=(y:Int)):(⟨((i4 p).s.fn (i:Int)).name,2,d,e0⟩:Vx)∈(i4 p).vert0 (i:Int):=by
 rw[N4];obtain⟨e,f,_⟩:=c.at_ d a b;exact .inr (.inr (.inr ⟨_,e,.inl (by rw[f])⟩))
def bB4{wy:Wy}(q:D3 p)(hw:B7 p<=1000000)(o:i<p.procs.length)(c:am8 p i x y wy):∀d∈wy.decides,(d.1=0\/((x:Int)<d.1/\d.1<=(y:Int)))/\((x:Int)<d.2/\d.2<=(y:Int)):=by
 have B:=c.n;have B8:=c.part.ok.le;have n:wy.n=((y-x+2:Nat):Int):=by omega
 rw[aH5 n];intro d g;obtain⟨a,A,g⟩:=ei7.1 g;obtain⟨b,k,rfl⟩:=eh4.1 g;obtain⟨k,f⟩:=eh8.1 k;unfold ak5 at f;simp only[eh5,ei8,es5]at f;obtain⟨⟨u,v⟩,t,m,e,_⟩:=f;have l:(a:Int)<wy.n-1:=by
  unfold Wy.pairs at m;obtain⟨s,r,rfl⟩:=eh4.1 m;have j:=(bV9 q hw o c s r).1;simp only at e;rw[<-e,c.toWyOk.index];rcases j with h|⟨w,z⟩
  .rw[if_pos h];omega
  .rw[if_neg (by omega),if_neg (by omega),if_pos (by omega)];omega
 simp only;rw[c.toWyOk.place,c.toWyOk.place];constructor
 .by_cases h0:(a:Int)=0
  .rw[if_pos h0];exact .inl rfl
  .rw[if_neg h0,if_neg (by omega)];right;omega
 .rw[if_neg (by omega),if_neg (by omega)];omega
def aX1(f:D3 p){it:It}(d:it∈(d9 p).l)(g:it.s.kind=4){c:Nat}(b:aC0 p it.s c){n:A9}(hn:n∈H6 (K8 p) (c:Int)):n∈(i4 p).callOut it.s:=by
 have e:(i4 p).s.pr it.s.proc=(c:Int):=b.pr;unfold Bk.callOut;rw[e];have hm:n∈(i4 p).slotsOut (c:Int):=by
  rw[bu8,aa2];exact ei1 _ hn
 have a:n≠U2:=by
  rcases bm9 f.may b.lt hn with h|h
  .rw[h];exact cb3.1
  .exact(aJ1 h).2.1
 split
 .exact eh8.2 ⟨hm,by simp[a]⟩
 .exact hm
def cK9{α β:Type}{l:List α}{m:List β}{z:α×β}(h:z∈l.zip m):∃j:Nat,l[j]?=some z.1/\m[j]?=some z.2:=by
 obtain⟨j,a⟩:=eo5.1 h;rw[List.getElem?_zip_eq_some]at a;exact⟨j,a⟩
def dc4(X:E0 p=true)(hw:B7 p<=1000000)(Y:i<p.procs.length)(L:as2 p i x y){a:Nat}(ha:(a:Int)<(D7 (d9 p) i).n){n:A9}(t:n∈(i4 p).gives (i:Int) (a:Int)):
  (i4 p).giver ((i4 p).s.fn (i:Int)).name ((D7 (d9 p) i).place (a:Int)) n∈(i4 p).vert0 (i:Int):=by
 have u:=G6 X;have H:=O8 L;have I:(i4 p).s=d9 p:=rfl;unfold Bk.gives at t;rw[L9 Y]at t;unfold Bk.giver;by_cases h0:(a:Int)=0
 .rw[if_pos h0,J7]at t;rw[if_pos (by rw[H.toWyOk.place,if_pos h0]),N4];refine .inr (.inl ⟨n,?_,rfl⟩);unfold Bk.slotsIn;rw[aa2];exact t
 .rw[if_neg h0]at t;split at t
  .simp at t
  .rename_i hc;have ah:¬(a:Int)=(D7 (d9 p) i).n-1:=λh=>hc (.inl h);obtain⟨q,N,W,B,e4,e5⟩:=an9 H (k:=a) (by omega) (by omega);obtain⟨J,M,q3⟩:=L.at_ ((D7 (d9 p) i).place (a:Int)) (by rw[B];omega) (by rw[B];omega);rw[if_neg (by omega),I];generalize ak:(D7 (d9 p) i).place (a:Int)=pl at t N B J M q3;generalize Z:(d9 p).it pl=it at J M q3;have f:=aW9 L J;have d:n∈E3 (aj5 p (K8 p) it.s):=by
    rw[<-cg0 u.may (K8 p) f,M];exact t
   rw[J7]at d;have D:=cx7 u.may Y hw it J;by_cases h4:it.s.kind=4
   .rw[if_neg (by simpa using h4)];obtain⟨c,b⟩:=Y6 (u.fits it f h4);have aj:=b.lt;have l:((i4 p).callee it.s).params=p.procs[c].params:=by
     unfold Bk.callee;rw[I,b.pr,<-I,M3 b.lt]
    have r:=bb4 (show am2 it.s.name (R8 p it.s.proc) [] it.s.args=true from u.single it f h4);have P:p.procs[c].name=it.s.proc:=by
     obtain⟨c',ag,N,W⟩:=T3 (aH2 u.toKnown hw f h4);rw[b.pr]at N;obtain rfl:c=c':=by omega
     exact W
    have o:∀m,m∈(i4 p).callOut it.s->(⟨((d9 p).fn (i:Int)).name,6,pl,m⟩:Vx)∈(i4 p).vert0 (i:Int):=λm hm=>by
     rw[N4];exact .inr (.inr (.inr ⟨it,J,.inr ⟨h4,.inr ⟨m,hm,by rw[M,I]⟩⟩⟩))
    unfold aj5 at d;rw[if_neg (by omega),if_neg (by omega),if_neg (by omega),if_pos h4]at d;unfold au3 at d;rw[b.idx,b.fn]at d;by_cases hname:it.s.name=n
    .rw[if_pos hname];refine o _ ?_;have T:it.s.name≠e0:=by
      intro C;rw[hname]at C;rcases eg1.1 d with h|h
      .rcases eg1.1 h with h|h
       .rw[hname,if_pos C]at h;simp at h
       .obtain⟨z,s,A⟩:=eh4.1 h;obtain⟨s,g⟩:=eh8.1 s;rw[eh5]at g;exact(aJ1 (br4 D z.1 (List.of_mem_zip s).1 g.1)).2.2 (by rw[A,C])
      .have:=(eh8.1 h).1;rcases bm9 u.may b.lt this with h|h
       .exact cb3.2.1 (by rw[<-h,C])
       .exact(aJ1 h).2.2 C
     unfold Bk.callOut;rw[if_neg T];unfold Bk.slotsOut;rw[aa2];simp
    .rw[if_neg hname,l];have d:(∃z∈it.s.args.zip p.procs[c].params,z.1.ref=true/\z.2.name∈H6 (K8 p) (c:Int)/\z.1.name=n)\/(n∈H6 (K8 p) (c:Int)/\R2 p n=true):=by
      rcases eg1.1 d with h|h
      .rcases eg1.1 h with h|h
       .split at h
        .simp at h
        .simp only[eh2]at h;exact absurd h.symm hname
       .obtain⟨z,s,A⟩:=eh4.1 h;obtain⟨s,g⟩:=eh8.1 s;rw[eh5,eg7]at g;exact .inl ⟨z,s,g.1,g.2,A⟩
      .exact .inr (eh8.1 h)
     split
     .rename_i z K;have s:=List.mem_of_find?_eq_some K;have e:=List.find?_some K;rw[eh5,ei8]at e;refine o _ ?_;obtain⟨j,E,Q⟩:=cK9 s;rcases d with⟨z',w,U,r2,V⟩|⟨O,v⟩
      .obtain⟨k,S,F⟩:=cK9 w;have R:=r.2 j k _ _ E S e.1 U (by rw[e.2,V]);subst R;rw[Q]at F;rw[eh1 F];exact aX1 u f h4 b r2
      .exfalso
       have G:=br4 D z.1 (List.of_mem_zip s).1 e.1;rw[e.2]at G;unfold R2 at v;rw[eq6,eg7,ei8]at v;rcases v with v|v
       .exact(aJ1 G).1 v
       .have:=(r.1 j _ E e.1).2.2;rw[e.2,<-P]at this;exact this (cl6 X hw b.lt O v)
     .rename_i K;refine o _ ?_;rcases d with⟨z',w,U,r2,V⟩|⟨O,v⟩
      .have:=ep4.1 K z' w;simp[U,V]at this
      .exact aX1 u f h4 b O
   .rw[if_pos h4,<-I];exact aV4 u.may L (by rw[B];omega) (by rw[B];omega)
def cV7(F:E0 p=true)(hw:B7 p<=1000000)(J:i<p.procs.length)(r:as2 p i x y){a:Nat}(Q:(a:Int)<(D7 (d9 p) i).n){n:A9}(f:n∈(i4 p).takes (i:Int) (a:Int)):
  ∀v∈(i4 p).takers ((i4 p).s.fn (i:Int)).name ((D7 (d9 p) i).place (a:Int)) n,v∈(i4 p).vert0 (i:Int):=by
 have B:=G6 F;have j:=O8 r;have l:(i4 p).s=d9 p:=rfl;have K:=j.n;have B8:=r.ok.le;intro v d;unfold Bk.takes at f;rw[L9 J]at f;unfold Bk.takers at d;by_cases h0:(a:Int)=(D7 (d9 p) i).n-1
 .rw[if_pos h0,J7]at f;rw[if_pos (by rw[j.toWyOk.place,if_neg (by omega),if_pos h0])]at d;simp only[eh2]at d;subst d;rw[N4];refine .inr (.inr (.inl ⟨n,?_,rfl⟩));unfold Bk.slotsOut;rw[aa2];exact f
 .rw[if_neg h0]at f;split at f
  .simp at f
  .rename_i G;have H:¬(a:Int)=0:=λh=>G (.inl h);obtain⟨q,E,N,o,O,P⟩:=an9 j (k:=a) (by omega) (by omega);obtain⟨s,u,D⟩:=r.at_ ((D7 (d9 p) i).place (a:Int)) (by rw[o];omega) (by rw[o];omega);rw[if_neg (by omega),l]at d;generalize L:(D7 (d9 p) i).place (a:Int)=C at d f E o s u D;generalize A:(d9 p).it C=it at d s u D;have t:=aW9 r s;by_cases h4:it.s.kind=4
   .rw[if_neg (by simpa using h4)]at d;obtain⟨c,b⟩:=Y6 (B.fits it t h4);have I:=b.lt;have e:((i4 p).callee it.s).params=p.procs[c].params:=by
     unfold Bk.callee;rw[l,b.pr,<-l,M3 b.lt]
    have g:∀m,m∈(i4 p).slotsIn (c:Int)->(⟨((d9 p).fn (i:Int)).name,5,C,m⟩:Vx)∈(i4 p).vert0 (i:Int):=λm hm=>by
     rw[N4];refine .inr (.inr (.inr ⟨it,s,.inr ⟨h4,.inl ⟨m,?_,by rw[u,l]⟩⟩⟩));rw[l,b.pr];exact hm
    rw[e,b.pr]at d;rcases eg1.1 d with h|h
    .obtain⟨z,M,rfl⟩:=eh4.1 h;refine g _ ?_;rw[bb6 b.lt,aa2];exact ej4 _ (eh4.2 ⟨_,(List.of_mem_zip (eh8.1 M).1).2,rfl⟩)
    .split at h
     .rename_i w;simp only[eh2]at h;subst h;refine g _ ?_;rw[eh5,eg7]at w;rw[bb6 b.lt,aa2];exact ei1 _ w.2
     .simp at h
   .rw[if_pos h4]at d;simp only[eh2]at d;subst d;rw[<-l];exact aV4 B.may r (by rw[o];omega) (by rw[o];omega)
def db2(w:E0 p=true)(hw:B7 p<=1000000)(k:i<p.procs.length):∀e∈(i4 p).edge0 (i:Int),e.src∈(i4 p).vert0 (i:Int)/\e.dst∈(i4 p).vert0 (i:Int)/\(e.kind=1\/e.kind=2):=by
 have m:=G6 w;obtain⟨x,h⟩:=I1 m.may hw i k;have s:=O8 h;have j:(⟨((i4 p).s.fn (i:Int)).name,1,0,e0⟩:Vx)∈(i4 p).vert0 (i:Int):=N4.2 (.inl rfl);intro e b;unfold Bk.edge0 at b;rw[L9 k]at b;rcases eg1.1 b with b|b
 .rcases eg1.1 b with b|b
  .obtain⟨d,E,rfl⟩:=eh4.1 b;obtain⟨o,B,C⟩:=bB4 m hw k s d E;unfold af5;refine⟨?_,aV4 m.may h B C,.inl rfl⟩;simp only;split
   .exact j
   .rename_i z;rcases o with o|⟨o,u⟩
    .exact absurd o z
    .exact aV4 m.may h o u
  .obtain⟨v,g,b⟩:=ei7.1 b;have g:v∈(i4 p).vert0 (i:Int):=(G1 _ _).mem_iff.1 g;unfold I5 at b;split at b
   .simp only[eh2]at b;subst b;exact⟨j,g,.inl rfl⟩
   .split at b
    .rename_i t;simp only[eh2]at b;subst b;refine⟨?_,g,.inl rfl⟩;simp only;rw[N4]at g;rcases g with rfl|⟨n,_,rfl⟩|⟨n,_,rfl⟩|⟨it,r,rfl|⟨_,⟨n,_,rfl⟩|⟨n,_,rfl⟩⟩⟩
     .simp at t
     .simp at t
     .simp at t
     .simp at t
     .have:=h.ids it r;exact aV4 m.may h this.1 this.2
     .have:=h.ids it r;exact aV4 m.may h this.1 this.2
    .simp at b
 .obtain⟨f,l,b⟩:=ei7.1 b;obtain⟨v,g,rfl⟩:=eh4.1 b;have l:f∈(i4 p).flow0 (i:Int):=(G1 _ _).mem_iff.1 l;rw[aU1]at l;obtain⟨n,l⟩:=l;rw[ad8]at l;obtain⟨a,c,q,D,A,_,rfl⟩:=l;rw[L9 k]at D g;have y:=aj9 _ _ _ a q;rw[L9 k]at y;have q:=(eh8.1 q).2;rw[eg7]at q A;have F:=s.n;rw[L9 k];exact⟨dc4 w hw k h (by omega) q,cV7 w hw k h (by omega) A v g,.inr rfl⟩
end
def cf4{α:Type}[DecidableEq α]{le:α->α->Prop}(i:∀a b c,le a b->le b c->le a c)(d:∀a b,le a b->le b a->a=b):∀{l:List α},l.Pairwise le->(I0 l).Pairwise λa b=>le a b/\a≠b
 | [],_=>by simp[I0]
 | [x],_=>by simp[I0]
 | x::y::l,h=>by
  rw[el0]at h;have j:=cf4 i d h.2;rw[I0];split
  .exact j
  .rename_i f;rw[el0];refine⟨λz g=>?_,j⟩;rw[an5]at g;refine⟨h.1 z g,λe=>?_⟩;subst e;rcases eh0.1 g with e|g
   .exact f e
   .exact f (d _ _ (h.1 y (by simp)) ((el0.1 h.2).1 x g))
def S9(a b:Vx):Bool:=if a.proc≠b.proc then ltS a.proc b.proc else if a.kind≠b.kind then decide (a.kind<b.kind)else if a.id≠b.id then decide (a.id<b.id)else ltS a.slot b.slot
def cE5{a b:Int}(h:a≠b):M1 a b≠0:=λe=>h (ad4 e)
def dr1{a b:A9}(h:a≠b):af4 a b≠0:=λe=>h (aD8 e)
def bO1(a:Int):M1 a a=0:=by unfold M1;simp
def cN8(a:A9):af4 a a=0:=by unfold af4;simp[N1]
def cE4{a b:Int}:decide (M1 a b<0)=decide (a<b):=by
 unfold M1;by_cases h:a<b
 .simp[h]
 .rw[if_neg h];split<;>simp[h]
def cE6{a b:A9}:decide (af4 a b<0)=ltS a b:=by
 unfold af4;cases h:ltS a b
 .simp only[em5,en5];split<;>simp
 .simp
def aQ8(a b:Vx):S9 a b=decide (vxC a b<0):=by
 unfold S9 vxC;rw[or4];by_cases h1:a.proc=b.proc
 .rw[if_neg (by simpa using h1),h1,cN8,if_pos rfl];by_cases h2:a.kind=b.kind
  .rw[if_neg (by simpa using h2),h2,bO1,if_pos rfl];by_cases h3:a.id=b.id
   .rw[if_neg (by simpa using h3),h3,bO1,if_pos rfl];by_cases h4:af4 a.slot b.slot=0
    .rw[if_pos h4,aD8 h4,N1];rfl
    .rw[if_neg h4,cE6]
   .rw[if_pos h3,if_neg (cE5 h3),cE4]
  .rw[if_pos h2,if_neg (cE5 h2),cE4]
 .rw[if_pos h1,if_neg (dr1 h1),cE6]
def dn5(a:Vx):vxC a a=0:=aX0.refl a
section
variable {α:Type} {c:α->α->Int}
def Cm.letr(h:Cm c){x y z:α}(a:c x y<=0)(b:c y z<=0):c x z<=0:=h.trans x y z a b
def dj3(h:Cm c)(l:List α):(Y4 (λa b=>decide (c a b<=0)) l).Pairwise λa b=>c a b<=0:=by
 have:=am3 (le:=λa b=>decide (c a b<=0)) (l:=l) (λa _ b _=>h.total a b) λa _ b _ d _ e f=>ek5 (h.letr (ef3 e) (ef3 f));exact this.imp λh=>ef3 h
end
def cC2{b:Bk}{i:Int}(hn:(b.vert0 i).Nodup):(b.verts i).Pairwise λu v=>S9 u v=true:=by
 have c:(b.verts i).Pairwise λu v=>vxC u v<=0:=dj3 aX0 _;have a:(b.verts i).Pairwise λu v=>u≠v:=((G1 cW0 _).nodup_iff.2 hn);refine(c.and a).imp fun{u v} ⟨c,a⟩=>?_;rw[aQ8];refine ek5 ?_;have:vxC u v≠0:=λe=>a (aG2 e);omega
def bm6{b:Bk}{i:Int}{e:Eg}:e∈b.edges i↔e∈b.edge0 i:=by
 unfold Bk.edges aC5;rw[an5,(G1 cO7 _).mem_iff]
def an6{b:Bk}{i:Int}{v:Vx}:v∈b.verts i↔v∈b.vert0 i:=(G1 cW0 _).mem_iff
def ah8(h:Hp)(w:World)(T:TypeId)(v:Value)(xs:List Int):Prop:=
 (v = .slice none 0 0/\xs=[]) \/
 ∃b d c a,v = .slice (some ⟨b,d,none⟩) xs.length c/\h b=none/\w.heap[b]?=some (.cells a T (0,0))/\xs.length<=c/\c<=maxLen/\d+c<=a.size /\
  ∀(j:Nat) (x:Int),xs[j]?=some x->a[d+j]?=some (.int .i64 x)
section
variable {P:Program} {h:Hp} {w:World} {t T:TypeId} {v:Value} {xs:List Int}
def B0.toQ(t:B0 h w T v xs):ah8 h w T v xs:=by
 rcases t with s|⟨b,c,a,rfl,k,m,n,o,p,f⟩
 .exact .inl s
 .have q:a.size=c:=by rw[p];exact en3 c
  have d:a.toList.take xs.length=P5 xs:=G4.1 (by
   have:xs.length*A3.sz Int=xs.length:=en3 _;rw[this]at f;exact f)
  refine .inr ⟨b,0,c,a,rfl,k,m,n,o,by omega,λj x i=>?_⟩;have e:=(ef6.1 i).1;have g:=eg8 (λl=>l[j]?) d;simp only[List.getElem?_take_of_lt e]at g;rw[ej1];have r:a[j]?=a.toList[j]?:=by simp
  rw[r,g];simp[P5,i]
def ah8.isS(d:ah8 h w T v xs):isS v=true:=by
 rcases d with⟨rfl,rfl⟩|⟨b,e,c,a,rfl,_⟩<;>rfl
def ah8.vlen(d:ah8 h w T v xs):vlen v=xs.length:=by
 rcases d with⟨rfl,rfl⟩|⟨b,e,c,a,rfl,_⟩<;>rfl
def ah8.vcap(e:ah8 h w T v xs):xs.length<=vcap v:=by
 rcases e with⟨rfl,rfl⟩|⟨b,f,c,a,rfl,_,_,d,_⟩
 .simp
 .exact d
def ah8.inS(e:ah8 h w T v xs){k:Nat}(a:k<xs.length):inS v k=true:=by
 rcases e with⟨rfl,rfl⟩|⟨b,f,c,d,rfl,_⟩
 .simp at a
 .simp[Go.Proofs.YtggahhenbbgffaaGreat.inS,a]
def ah8.free(e:ah8 h w T v xs){b:Nat}(hb:A0 v b):h b=none:=by
 rcases e with⟨rfl,_⟩|⟨g,f,c,a,rfl,d,_⟩
 .exact absurd hb D5
 .simp[A0,Value.ownBlock]at hb;subst hb;exact d
def ah8.lt(e:ah8 h w T v xs){b:Nat}(hb:A0 v b):b<w.heap.size:=by
 rcases e with⟨rfl,_⟩|⟨g,f,c,a,rfl,i,d,_⟩
 .exact absurd hb D5
 .simp[A0,Value.ownBlock]at hb;subst hb;exact(ef5.1 d).1
def ah8.mod{M:Nat->Prop}{g:World}(l:ah8 h w T v xs)(hm:o8 M w g)(j:∀b,A0 v b->¬M b):ah8 h g T v xs:=by
 rcases l with k|⟨b,e,c,d,rfl,i,f,a⟩
 .exact .inl k
 .exact .inr ⟨b,e,c,d,rfl,i,(hm.block b (ef5.1 f).1 (j b rfl)).trans f,a⟩
def ah8.ext{a:World}(b:ah8 h w T v xs)(hm:o6 w a):ah8 h a T v xs:=b.mod hm λ_ _=>id
def ah8.head{x:Int}{a:List Int}(i:ah8 h w T v (x::a))(j:J5 P t=false):(Instr.loadAt t (.pointer (some (G9 v 0)))).run P w = .ok (.int .i64 x) w:=by
 rcases i with⟨_,k⟩|⟨b,e,c,d,rfl,l,f,m,n,o,g⟩
 .cases k
 .refine U9 j ?_;simp only[G9,M4];rw[en2 w b e d T (0,0) f];exact g 0 x rfl
def ah8.tail{x:Int}{a:List Int}(o:ah8 h w T v (x::a)):ah8 h w T (reS v 1 (a.length+1) 1) a/\∀b,A0 (reS v 1 (a.length+1) 1) b↔A0 v b:=by
 rcases o with⟨_,q⟩|⟨b,d,c,f,rfl,i,k,m,r,s,n⟩
 .cases q
 .simp only[ei2]at m;have e:(⟨b,d,none⟩:Addr).add (1*1)=⟨b,d+1,none⟩:=by unfold Addr.add;split<;>simp_all
  by_cases hc:c=1
  .subst hc;have p:a=[]:=List.eq_nil_of_length_eq_zero (by omega);subst p;refine⟨.inr ⟨b,d,0,f,rfl,i,k,eg6 _,eg3 _,by omega,λj y g=>by simp at g⟩,λl=>en7⟩
  .refine⟨.inr ⟨b,d+1,c-1,f,?_,i,k,by omega,by omega,by omega,λj y g=>?_⟩,λl=>?_⟩
   .simp[reS,hc,e]
   .have:=n (j+1) y (by simpa using g);rw[<-this];congr 1;omega
   .simp[reS,hc,e,A0,Value.ownBlock]
def ah8.push{e:TypeId}{by_:Nat}(Q:G0 P t T 1 by_=true)(ho:ah8 h w T v xs)(y:Int)
  (hl:xs.length+1<=1000000000000) (hb:(xs.length+1)*by_<=140737488355328) (hw:B8 h (m8 w)) :
  (Instr.buildSlice t 1 #[(0,.int .i64 y)]).run P w = .ok (.slice (some ⟨w.heap.size,0,none⟩) 1 1) (w.alloc (.cells #[.int .i64 y] T)) /\
  ∃s A,(Builtin.append_ #[t,t] e #[v,.slice (some ⟨w.heap.size,0,none⟩) 1 1]).run P (w.alloc (.cells #[.int .i64 y] T)) = .ok s A/\ah8 h A T s (xs++[y])/\o8 (A0 v) w A/\E9 w v s:=by
 have l:=Go.Proofs.YtggahhenbbgffaaGreat.push (e:=e) (α:=Int) Q rfl (B0.nil h w T) (x:=.int .i64 y) (y:=y) rfl (by simp) (by simp only[em2,ej1]at *;have:=eo2 by_ (show 1<=xs.length+1 by omega);omega) hw;simp only[Value.cells,ep1]at l;refine⟨l.1,?_⟩;rcases ho with⟨rfl,rfl⟩|⟨b,a,c,g,rfl,X,N,h3,Y,Z,O⟩
 .obtain⟨s,A,L,M,k3,k4⟩:=l.2;exact⟨s,A,L,by simpa using M.toQ,k3,k4⟩
 .obtain⟨s1,⟨z,hz,K⟩,q,S,s5,s6⟩:=V3 Q;obtain⟨i,B,G⟩:=z7 hz;rw[E1 B]at q;rw[aD6 B]at S;have R:=O4 s1;have p:=o6.alloc w (.cells #[.int .i64 y] T);have D:b<w.heap.size:=(ef5.1 N).1;have m:(w.alloc (.cells #[.int .i64 y] T)).heap[b]?=some (.cells g T (0,0)):=(p.block b D id).trans N;have k:∀j u,[Value.int .i64 y][j]?=some u->(w.alloc (.cells #[.int .i64 y] T)).cell? ((⟨w.heap.size,0,none⟩:Addr).add j)=some u:=by
   intro j u d;have C:(⟨w.heap.size,0,none⟩:Addr).add j=⟨w.heap.size,j,none⟩:=by unfold Addr.add;split<;>simp_all
   rw[C,er7];simpa using d
  generalize J:w.alloc (.cells #[.int .i64 y] T)=f at *;by_cases hroom:xs.length+1<=c
  .have r:=run_append_room_cells (P:=P) f t e T i R B b a xs.length c ⟨w.heap.size,0,none⟩ 1 1 [.int .i64 y] (by simp[q]) k (by simp[Value.oneCell']) hroom
    (λj d=>by
     simp only[ei2,em2]at d;rw[q,en2 f b _ g T (0,0) m,ep5 (by omega)];rfl)
    (λj _=>frozen_of_row f b _ g T m)
   rw[q,en3]at r;simp only[World.setCells]at r;refine⟨_,_,r,.inr ⟨b,a,c,g.setIfInBounds (a+xs.length) (.int .i64 y),by simp,X,heap_setCell_same f b (a+xs.length) g T _ m,by simpa using hroom,Y,by simpa using Z,λj x d=>?_⟩,?_,λU n=>.inl n⟩
   .rw[Array.getElem?_setIfInBounds];by_cases hjx:j<xs.length
    .rw[ek3 hjx]at d;rw[if_neg (by omega)];exact O j x d
    .rw[ek7 (by omega)]at d;have H:j-xs.length=0:=by
      have:=(ef6.1 d).1;simp at this;omega
     rw[H]at d;simp at d;subst d;rw[if_pos (by omega),if_pos (by omega)]
   .exact(p.weaken λ_ _ h=>h.elim).trans (o8.setCell _ _ _ (by simp[A0,Value.ownBlock]))
  .have o:∀j u,((P5 xs))[j]?=some u->f.cell? ((⟨b,a,none⟩:Addr).add j)=some u:=by
    intro j u d;have C:(⟨b,a,none⟩:Addr).add j=⟨b,a+j,none⟩:=by unfold Addr.add;split<;>simp_all
    rw[C,en2 f b (a+j) g T (0,0) m];simp only[P5,ei9]at d;obtain⟨x,L,M⟩:=Option.map_eq_some_iff.1 d;rw[O j x L,<-M]
   have r:=run_append_grow (P:=P) f t e T i z R B G ⟨b,a,none⟩ xs.length c (P5 xs) (by simp[P5,q]) o ⟨w.heap.size,0,none⟩ 1 1 [.int .i64 y] (by simp[q]) k (by omega)
    (by omega) (growslice_fits (by omega) (by rw[S];exact hb))
   have F:=grownCap_ge f (xs.length+1) c T;have E:=grownCap_le_maxLen f (xs.length+1) c T (by simp only[maxLen];omega);have aa:f.heap.size=w.heap.size+1:=by rw[<-J];simp
   refine⟨_,_,r,.inr ⟨f.heap.size,0,_,_,by simp,aI3 hw (by omega),ej0 f.drew _,by simpa using F,E,?_,λj x d=>?_⟩,?_,λU n=>?_⟩
   .simp only[Array.size_append,ep3,size_zeroCells,K,P5,eg5,ei2,em2];omega
   .rw[ej1];have I:=(ef6.1 d).1;simp only[ef4,ei2,em2]at I;have V:((P5 xs).toArray++#[Value.int .i64 y])=(P5 (xs++[y])).toArray:=by simp[P5]
    have W:([Value.int .i64 y].toArray)=#[Value.int .i64 y]:=rfl;rw[Array.getElem?_append_left (by simp[P5];omega),W,V,List.getElem?_toArray];simp only[P5,ei9,d];rfl
   .refine(p.weaken λ_ _ h=>h.elim).trans ?_;exact o8.trans ((o6.drew f).weaken (λ_ _ h=>h.elim)) ((o6.alloc f.drew _).weaken (λ_ _ h=>h.elim))
   .simp[A0,Value.ownBlock]at n;exact .inr (by omega)
end
section
variable {P:Program} {h:Hp} {w:World} {t T:TypeId} {v:Value}
def ah8.set{xs:List Int}(A:ah8 h w T v xs){k:Nat}(l:k<xs.length)(y:Int){f:TypeInfo}(d:P.info? t=some f)(B:f.size=1):
  ∃g,(Instr.storeAt t (.pointer (some (G9 v k))) (.int .i64 y)).run P w = .ok () g/\ah8 h g T v (xs.set k y)/\o8 (A0 v) w g:=by
 rcases A with⟨rfl,rfl⟩|⟨b,a,c,m,rfl,n,o,p,q,r,s⟩
 .simp at l
 .have u:(⟨b,a,.none⟩:Addr).add k=⟨b,a+k,.none⟩:=by unfold Addr.add;split<;>simp_all
  obtain⟨g,C,D,E⟩:=af3 (P:=P) (t:=t) (i:=a+k) (x:=.int .i64 y) o (by omega) rfl rfl d B;refine⟨g,by simp only[G9,u];exact C,.inr ⟨b,a,c,_,by simp,n,D,by simpa using p,q,by simpa using r,λj x e=>?_⟩,E.weaken λF _ z=>by subst z;rfl⟩;rw[Array.getElem?_setIfInBounds];rw[List.getElem?_set]at e;by_cases hkj:k=j
  .subst hkj;rw[if_pos rfl,if_pos l]at e;obtain rfl:=eh1 e;rw[if_pos rfl,if_pos (by omega)]
  .rw[if_neg hkj]at e;rw[if_neg (by omega)];exact s j x e
end
structure ST (w0 w:World) (rb gb:Nat) (ui uw vt:Value) (us:List X9) (ins:List (List W)) (waits:List Bool) (todo:List Int) (T:Int):Prop where
 rows:E2 (m8 w0) w 332 167 ui us ins
 wts:B0 (m8 w0) w 4 uw waits
 q:ah8 (m8 w0) w 3 vt todo
 cg:w.heap[gb]?=some (.cells #[.slice none 0 0,.int .i64 T] 295 (0,0))
 cr:w.heap[rb]?=some (.cells #[.slice none 0 0,.int .i64 0] 295 (0,0))
 d1:∀b,N2 ui us b->¬A0 vt b/\¬A0 uw b/\b≠gb/\b≠rb
 d2:∀b,A0 vt b->¬A0 uw b/\b≠gb/\b≠rb
 d3:∀b,A0 uw b->b≠gb/\b≠rb
 d4:gb≠rb
 ext:o6 w0 w
 fg:w0.heap.size<=gb
 frb:w0.heap.size<=rb
section
variable {w0 w:World} {rb gb:Nat} {ui uw vt:Value} {us:List X9} {ins:List (List W)} {waits:List Bool} {todo:List Int} {T:Int}
def ST.lg(s:ST w0 w rb gb ui uw vt us ins waits todo T):gb<w.heap.size:=(ef5.1 s.cg).1
def ST.lr(s:ST w0 w rb gb ui uw vt us ins waits todo T):rb<w.heap.size:=(ef5.1 s.cr).1
def ST.ge(s:ST w0 w rb gb ui uw vt us ins waits todo T){b:Nat}(hb:m8 w0 b=none):w0.heap.size<=b:=
 es7 λa=>by simp[m8,a]at hb
def ST.more(s:ST w0 w rb gb ui uw vt us ins waits todo T){b:World}(a:o6 w b):ST w0 b rb gb ui uw vt us ins waits todo T:=
 ⟨s.rows.ext a,s.wts.ext a,s.q.ext a,(a.block gb s.lg id).trans s.cg,(a.block rb s.lr id).trans s.cr,s.d1,s.d2,s.d3,s.d4,s.ext.trans a,s.fg,s.frb⟩
def ST.wait{P:Program}{t:TypeId}(s:ST w0 w rb gb ui uw vt us ins waits todo T){k:Nat}(g:k<waits.length)(y:Bool){d:TypeInfo}(c:P.info? t=some d)(i:d.size=1):
  ∃f,(Instr.storeAt t (.pointer (some (G9 uw k))) (.bool y)).run P w = .ok () f/\ST w0 f rb gb ui uw vt us ins (waits.set k y) todo T:=by
 obtain⟨f,j,l,e,m⟩:=F1 (P:=P) (t:=t) s.wts rfl g (x:=.bool y) (y:=y) rfl rfl c i;refine⟨f,j,s.rows.mod e λb a=>(s.d1 b a).2.1,l,s.q.mod e λb a=>(s.d2 b a).1,(e.block gb s.lg λh=>(s.d3 gb h).1 rfl).trans s.cg,(e.block rb s.lr λh=>(s.d3 rb h).2 rfl).trans s.cr,s.d1,s.d2,s.d3,s.d4,o8.ext_of s.ext e λb a=>s.ge (s.wts.free a),s.fg,s.frb⟩
def ST.wait2{P:Program}{t:TypeId}(s:ST w0 w rb gb ui uw vt us ins waits todo T){k:Nat}(g:k<waits.length)(y:Bool){e:TypeInfo}(d:P.info? t=some e)(i:e.size=1):
  ∃f,(Instr.storeAt t (.pointer (some (G9 uw k))) (.bool y)).run P w = .ok () f/\ST w0 f rb gb ui uw vt us ins (waits.set k y) todo T/\o8 (A0 uw) w f:=by
 obtain⟨f,j,l,a,m⟩:=F1 (P:=P) (t:=t) s.wts rfl g (x:=.bool y) (y:=y) rfl rfl d i;refine⟨f,j,⟨s.rows.mod a λb c=>(s.d1 b c).2.1,l,s.q.mod a λb c=>(s.d2 b c).1,(a.block gb s.lg λh=>(s.d3 gb h).1 rfl).trans s.cg,(a.block rb s.lr λh=>(s.d3 rb h).2 rfl).trans s.cr,s.d1,s.d2,s.d3,s.d4,o8.ext_of s.ext a λb c=>s.ge (s.wts.free c),s.fg,s.frb⟩,a⟩
def ST.times{P:Program}{t:TypeId}(s:ST w0 w rb gb ui uw vt us ins waits todo T)(T':Int){d:TypeInfo}(c:P.info? t=some d)(g:d.size=1):
  ∃f,(Instr.storeAt t (.pointer (some ⟨gb,1,none⟩)) (.int .i64 T')).run P w = .ok () f/\ST w0 f rb gb ui uw vt us ins waits todo T':=by
 obtain⟨f,j,k,e⟩:=af3 (P:=P) (t:=t) (i:=1) (x:=.int .i64 T') s.cg (by simp) rfl rfl c g;refine⟨f,j,s.rows.mod e λb a=>(s.d1 b a).2.2.1,s.wts.mod e λb a=>(s.d3 b a).1,s.q.mod e λb a=>(s.d2 b a).2.1,k,(e.block rb s.lr λh=>s.d4 h.symm).trans s.cr,s.d1,s.d2,s.d3,s.d4,o8.ext_of s.ext e λb a=>by subst a;exact s.fg,s.fg,s.frb⟩
def ST.tail{x:Int}{a:List Int}(s:ST w0 w rb gb ui uw vt us ins waits (x::a) T):ST w0 w rb gb ui uw (reS vt 1 (a.length+1) 1) us ins waits a T:=by
 obtain⟨e,d⟩:=s.q.tail;exact⟨s.rows,s.wts,e,s.cg,s.cr,λb c=>⟨λh=>(s.d1 b c).1 ((d b).1 h),(s.d1 b c).2⟩,λb c=>s.d2 b ((d b).1 c),s.d3,s.d4,s.ext,s.fg,s.frb⟩
def ST.push{P:Program}{t e:TypeId}{by_:Nat}(g:G0 P t 3 1 by_=true)(s:ST w0 w rb gb ui uw vt us ins waits todo T)(y:Int)(n:todo.length+1<=1000000000000)(hb:(todo.length+1)*by_<=140737488355328):
  (Instr.buildSlice t 1 #[(0,.int .i64 y)]).run P w = .ok (.slice (some ⟨w.heap.size,0,none⟩) 1 1) (w.alloc (.cells #[.int .i64 y] 3)) /\
  ∃c d,(Builtin.append_ #[t,t] e #[vt,.slice (some ⟨w.heap.size,0,none⟩) 1 1]).run P (w.alloc (.cells #[.int .i64 y] 3)) = .ok c d/\ST w0 d rb gb ui uw c us ins waits (todo++[y]) T:=by
 obtain⟨j,c,d,k,l,a,i⟩:=s.q.push (e:=e) g y n hb (b7 s.ext);refine⟨j,c,d,k,s.rows.mod a λb hb=>(s.d1 b hb).1,s.wts.mod a λb hb f=>(s.d2 b f).1 hb,l,(a.block gb s.lg λh=>(s.d2 gb h).2.1 rfl).trans s.cg,(a.block rb s.lr λh=>(s.d2 rb h).2.2 rfl).trans s.cr,λb hb=>⟨λh=>?_,(s.d1 b hb).2⟩,λb hb=>?_,s.d3,s.d4,o8.ext_of s.ext a λb hb=>s.ge (s.q.free hb),s.fg,s.frb⟩
 .rcases i b h with h|h
  .exact(s.d1 b hb).1 h
  .have:=s.rows.lt hb;omega
 .rcases i b hb with h|h
  .exact s.d2 b h
  .exact⟨λm=>by have:=s.wts.lt m;omega,by have:=s.lg;omega,by have:=s.lr;omega⟩
def ST.push2{P:Program}{t e:TypeId}{by_:Nat}(i:G0 P t 3 1 by_=true)(s:ST w0 w rb gb ui uw vt us ins waits todo T)(y:Int)(n:todo.length+1<=1000000000000)(hb:(todo.length+1)*by_<=140737488355328):
  (Instr.buildSlice t 1 #[(0,.int .i64 y)]).run P w = .ok (.slice (some ⟨w.heap.size,0,none⟩) 1 1) (w.alloc (.cells #[.int .i64 y] 3)) /\
  ∃c d,(Builtin.append_ #[t,t] e #[vt,.slice (some ⟨w.heap.size,0,none⟩) 1 1]).run P (w.alloc (.cells #[.int .i64 y] 3)) = .ok c d/\ST w0 d rb gb ui uw c us ins waits (todo++[y]) T/\o8 (A0 vt) w d/\E9 w vt c:=by
 obtain⟨j,c,d,k,l,a,f⟩:=s.q.push (e:=e) i y n hb (b7 s.ext);refine⟨j,c,d,k,⟨s.rows.mod a λb hb=>(s.d1 b hb).1,s.wts.mod a λb hb g=>(s.d2 b g).1 hb,l,(a.block gb s.lg λh=>(s.d2 gb h).2.1 rfl).trans s.cg,(a.block rb s.lr λh=>(s.d2 rb h).2.2 rfl).trans s.cr,λb hb=>⟨λh=>?_,(s.d1 b hb).2⟩,λb hb=>?_,s.d3,s.d4,o8.ext_of s.ext a λb hb=>s.ge (s.q.free hb),s.fg,s.frb⟩,a,f⟩
 .rcases f b h with h|h
  .exact(s.d1 b hb).1 h
  .have:=s.rows.lt hb;omega
 .rcases f b hb with h|h
  .exact s.d2 b h
  .exact⟨λm=>by have:=s.wts.lt m;omega,by have:=s.lg;omega,by have:=s.lr;omega⟩
def ST.row(s:ST w0 w rb gb ui uw vt us ins waits todo T){e:World}{i:Nat}{u:X9}(f:us[i]?=some u){r:List W}(hm:o8 (A0 u.v) w e)(g:B0 (m8 w0) e 167 u.v r):ST w0 e rb gb ui uw vt us (ins.set i r) waits todo T:=by
 have d:∀b,A0 u.v b->N2 ui us b:=λb a=>.inr ⟨u,eh3 f,a⟩;exact⟨s.rows.write f hm g,s.wts.mod hm λb a c=>(s.d1 b (d b c)).2.1 a,s.q.mod hm λb a c=>(s.d1 b (d b c)).1 a,(hm.block gb s.lg λh=>(s.d1 gb (d gb h)).2.2.1 rfl).trans s.cg,(hm.block rb s.lr λh=>(s.d1 rb (d rb h)).2.2.2 rfl).trans s.cr,s.d1,s.d2,s.d3,s.d4,o8.ext_of s.ext hm λb a=>s.ge (s.rows.free (d b a)),s.fg,s.frb⟩
def ST.put{P:Program}{t:TypeId}(s:ST w0 w rb gb ui uw vt us ins waits todo T){n:World}(p:o6 w n){i:Nat}{u:X9}(q:us[i]?=some u){u':Value}{r:List W}(v:B0 (m8 w0) n 167 u' r)(o:∀b,A0 u' b->w.heap.size<=b){g:TypeInfo}(e:P.info? t=some g)(y:g.size=1):
  ∃k,(Instr.storeAt t (.pointer (some (G9 ui i))) u').run P n = .ok () k/\ST w0 k rb gb ui uw vt (us.set i ⟨u'⟩) (ins.set i r) waits todo T:=by
 obtain⟨k,z,A,j,C⟩:=s.rows.put (P:=P) (t:=t) q (p.weaken λ_ _ h=>h.elim) v (λb a=>.inr (o b a)) e y;have f:∀b,A0 ui b->N2 ui us b:=λb a=>.inl a;have d:=s.more p;refine⟨k,z,A,d.wts.mod j λb a c=>(s.d1 b (f b c)).2.1 a,d.q.mod j λb a c=>(s.d1 b (f b c)).1 a,(j.block gb d.lg λh=>(s.d1 gb (f gb h)).2.2.1 rfl).trans d.cg,(j.block rb d.lr λh=>(s.d1 rb (f rb h)).2.2.2 rfl).trans d.cr,λb a=>?_,s.d2,s.d3,s.d4,o8.ext_of d.ext j λb a=>s.ge (s.rows.free (f b a)),s.fg,s.frb⟩;rcases a with a|⟨x,m,a⟩
 .exact s.d1 b (.inl a)
 .rcases en6 m with h|h
  .exact s.d1 b (.inr ⟨x,h,a⟩)
  .subst h;have B:=o b a;exact⟨λl=>by have:=s.q.lt l;omega,λl=>by have:=s.wts.lt l;omega,by have:=s.lg;omega,by have:=s.lr;omega⟩
def ST.qset{P:Program}{t:TypeId}(s:ST w0 w rb gb ui uw vt us ins waits todo T){k:Nat}(l:k<todo.length)(y:Int){e:TypeInfo}(d:P.info? t=some e)(m:e.size=1):
  ∃f,(Instr.storeAt t (.pointer (some (G9 vt k))) (.int .i64 y)).run P w = .ok () f/\ST w0 f rb gb ui uw vt us ins waits (todo.set k y) T:=by
 obtain⟨f,i,j,a⟩:=s.q.set (P:=P) (t:=t) l y d m;exact⟨f,i,s.rows.mod a λb c=>(s.d1 b c).1,s.wts.mod a λb c g=>(s.d2 b g).1 c,j,(a.block gb s.lg λh=>(s.d2 gb h).2.1 rfl).trans s.cg,(a.block rb s.lr λh=>(s.d2 rb h).2.2 rfl).trans s.cr,s.d1,s.d2,s.d3,s.d4,o8.ext_of s.ext a λb c=>s.ge (s.q.free c),s.fg,s.frb⟩
end
end Go.Proofs.YtggahhenbbgffaaGreat

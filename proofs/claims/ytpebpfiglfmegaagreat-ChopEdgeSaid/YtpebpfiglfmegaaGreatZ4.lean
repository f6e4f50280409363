/- What the functions of the program do, for every input; plain facts. No condition, no statement of its own. Part 4. -/
import Derived.ArgAppend
import Derived.Test.YtpebpfiglfmegaaGreatZ3
set_option maxRecDepth 1000000
set_option maxHeartbeats 8000000
set_option linter.unusedVariables false
set_option linter.unusedSimpArgs false
set_option linter.unnecessarySimpa false
set_option linter.defProp false
namespace Go.Proofs.YtpebpfiglfmegaaGreat
open Go Tryz
def bN6(r:List Bool):Nat:=r.count true
def bo8(f:List (List Bool)):Nat:=(f.map bN6).sum
def cH8:∀(r s:List Bool),s.length=r.length->(∀i,s.getD i false=true->r.getD i false=true)->bN6 s<=bN6 r/\(s≠r->bN6 s<bN6 r)
 | [],[],_,_=>by simp[bN6]
 | x::r,y::s,hl,h=>by
  have c:=cH8 r s (by simpa using hl) λi b=>by have:=h (i+1);simpa using this (by simpa using b)
  have a:=h 0;simp only[List.getD_cons_zero]at a;unfold bN6 at c ⊢;simp only[List.count_cons];cases x<;>cases y<;>simp_all
  all_goals omega
def cj0:∀(f:List (List Bool)) (a:Nat) (l:List Bool) (b:a<f.length),bo8 (f.set a l)+bN6 f[a]=bo8 f+bN6 l
 | x::f,0,l,_=>by simp[bo8];omega
 | x::f,a+1,l,b=>by
  have:=cj0 f a l (by simpa using b);simp only[bo8,List.set_cons_succ,en8,eu6,eu1]at *;omega
structure SqM (n:Nat) (f:List (List Bool)):Prop where
 len:f.length=n
 row:∀r∈f,r.length=n
def SqM.get{n:Nat}{f:List (List Bool)}(h:SqM n f){a:Nat}(b:a<n):f[a]?=some (f.getD a [])/\(f.getD a []).length=n:=by
 have:a<f.length:=by rw[h.len];exact b
 rw[List.getD,ej0 this];exact⟨rfl,h.row _ (ek0 this)⟩
def mAt(f:List (List Bool))(a b:Nat):Bool:=(f.getD a []).getD b false
def am5(f:List (List Bool))(l:List Int):(ah0 f l).length=f.length:=by simp[ah0]
def bJ7{n:Nat}{f:List (List Bool)}(h:SqM n f)(l:List Int){b:Nat}(hb:b<n):(ah0 f l).getD b false=l.all λa=>mAt f a.toNat b:=by
 unfold ah0;rw[List.getD,em8,er5 (by rw[h.len];exact hb)];simp only[ep0,eo5];unfold atB mAt;simp
def ae7(next:List (List Int))(f:List (List Bool))(a:Nat):List Bool:=(ah0 f (next.getD a [])).set a true
def aN4(next:List (List Int))(f:List (List Bool))(a:Nat):(ae7 next f a).length=f.length:=by simp[ae7,am5]
def br3{n:Nat}{next:List (List Int)}{f:List (List Bool)}(h:SqM n f){a b:Nat}(d:a<n):(ae7 next f a).getD b false=(decide (b<n)&&(decide (a=b)||(next.getD a []).all λc=>mAt f c.toNat b)):=by
 unfold ae7;by_cases hb:b<n
 .by_cases hab:a=b
  .subst hab;rw[List.getD,eq8 (by rw[am5,h.len];exact hb)];simp[hb]
  .rw[List.getD,es2 hab];have:=bJ7 h (next.getD a []) hb;rw[List.getD]at this;rw[this];simp[hb,hab]
 .rw[List.getD,er3 (by rw[eq3,am5,h.len];omega)];simp[hb]
def cZ5(n:Nat)(next:List (List Int))(f:List (List Bool)):Prop:=∀a,a+1<n->∀b,(ae7 next f a).getD b false=true->mAt f a b=true
def ap9(n:Nat):SqM n (Y7 n):=⟨by simp[Y7],λr b=>by
 obtain⟨a,_,rfl⟩:=el2.1 b;simp⟩
def bF6{n a b:Nat}(d:a<n)(hb:b<n):mAt (Y7 n) a b=(decide (a+1<n)||decide (a=b)):=by
 have c:(Y7 n).getD a []=(List.range n).map λb=>decide (a+1<n)||decide (a=b):=by
  unfold Y7;rw[List.getD,em8,er5 d];rfl
 unfold mAt;rw[c,List.getD,em8,er5 hb];rfl
def cl0(n:Nat)(next:List (List Int)):cZ5 n next (Y7 n):=by
 intro a d b c;rw[br3 (ap9 n) om]at c;have:b<n:=by
  rw[el3]at c;exact ej3 c.1
 rw[bF6 om this];simp[d]
def cH7(n:Nat):∀(f:List (List Bool)),(∀r∈f,r.length=n)->bo8 f<=f.length*n
 | [],_=>by simp[bo8]
 | r::f,h=>by
  have d:=cH7 n f λs b=>h s (by simp[b]);have c:bN6 r<=n:=by
   have:=List.count_le_length (a:=true) (l:=r);rw[h r dP]at this;exact this
  simp only[bo8,en8,eu6,em1]at *;rw[ev0];omega
def bl1{α:Type}{f:List α}{a:Nat}{l d:α}(c:Nat)(b:a<f.length):(f.set a l).getD c d=if a=c then l else f.getD c d:=by
 by_cases h:a=c
 .subst h;simp[List.getD,b]
 .rw[if_neg h,List.getD,List.getD,es2 h]
def cr3{α:Type}{f:List α}{a:Nat}{l:α}(h:f[a]?=some l):f.set a l=f:=by
 apply ev9;intro i;by_cases hi:a=i
 .subst hi;rw[eq8 (ej5.1 h).1,h]
 .rw[es2 hi]
def cD1{n:Nat}{next:List (List Int)}{f:List (List Bool)}(i:SqM n f)(k:cZ5 n next f){a:Nat}(s:a+1<n):
  SqM n (X8 next f a)/\cZ5 n next (X8 next f a)/\(ae7 next f a=f.getD a []->X8 next f a=f)/\(ae7 next f a≠f.getD a []->bo8 (X8 next f a)<bo8 f):=by
 have d:a<f.length:=by rw[i.len];omega
 have e:X8 next f a=f.set a (ae7 next f a):=rfl
 rw[e];obtain⟨v,m⟩:=i.get (a:=a) om;have j:SqM n (f.set a (ae7 next f a)):=⟨by rw[eq3,i.len],λr w=>by
  rcases es0 w with h|h
  .exact i.row r h
  .rw[h,aN4,i.len]⟩
 have E2:∀c b,mAt (f.set a (ae7 next f a)) c b=true->mAt f c b=true:=by
  intro c b h;unfold mAt at h ⊢;rw[bl1 c d]at h;split at h
  .next g=>subst g;exact k a s b h
  .exact h
 have hm:=cj0 f a (ae7 next f a) d;have l:f[a]=f.getD a []:=by rw[List.getD,ej0 d];rfl
 obtain⟨_,o⟩:=cH8 (f.getD a []) (ae7 next f a) (by rw[aN4,i.len,m]) λb t=>k a s b t;refine⟨j,?_,λh=>by rw[h];exact cr3 v,λh=>by have:=o h;rw[l]at hm;omega⟩;intro c u b h;rw[br3 j om]at h;have p:(ae7 next f c).getD b false=true:=by
  rw[br3 i om];rw[el3,eu2]at h ⊢;refine⟨h.1,h.2.imp id λq=>?_⟩;rw[eq9]at q ⊢;exact λx y=>E2 _ _ (q x y)
 unfold mAt;rw[bl1 c d];split
 .next g=>subst g;exact p
 .exact k c u b p
def bh1{next:List (List Int)}{m:Nat}{f:List (List Bool)}(h:R1 next f m=f):∀k,aj4 next m k f=f
 | 0=>rfl
 | k+1=>by rw[aj4,h,bh1 h k]
def aT0(next:List (List Int))(m:Nat):∀(j k:Nat) (f:List (List Bool)),aj4 next m (j+k) f=aj4 next m k (aj4 next m j f)
 | 0,k,f=>by rw[en0];rfl
 | j+1,k,f=>by rw[show j+1+k=(j+k)+1 by omega,aj4,aj4,aT0 next m j k]
def ar9{α:Type}{l:List α}{d x:α}{n b:Nat}(e:l.length=n)(hb:b<n)(c:l[b]?=some x):(l.take b++List.replicate (n-b) d).set b x=l.take (b+1)++List.replicate (n-(b+1)) d:=by
 have a:(l.take b).length=b:=by rw[ek3];omega
 rw[List.set_append_right _ _ om,a,Nat.sub_self,show n-b=(n-(b+1))+1 by omega,List.replicate_succ,List.set_cons_zero,ew0,c];simp
def av3{P:Program}{t:TypeId}{z:Value}(c:I4 P t=some z)(b:N6 P t=1):∃i,P.info? t=some i/\i.size=1:=by
 obtain⟨i,a,d⟩:=A4 c;exact⟨i,a,by rw[<-F0 a];exact b⟩
def cC3(vf vs:Value)(n:Nat)(g:List (List Bool))(l:List Int)(w:World)(hf:R (i5 w) vf g)(hs:R (i5 w) vs l)(T:SqM n g)(hl:∀c∈l,0<=c/\c<(n:Int))(hn:n<=1000000)(aS:l.length<=1000000000):
  y5 prog 271 #[vf,vs] w λu E=>(B0 (i5 w) E 4 u (ah0 g l)/\o6 w E):=by
 refine z6 [vf,vs] func271 rfl ?_;have ah:=hf.isS;have S:=hf.vlen;rw[T.len]at S;have aj:=hs.isS;have av:=hs.vlen;obtain⟨ib,K,A⟩:=av3 (P:=prog) V4 aE0;obtain⟨vo,w1,aq,ho,ay,_,_⟩:=mk (P:=prog) (w:=w) (h:=i5 w) (α:=Bool) bl6 V4 (y:=false) rfl (n:=n) om om (n7 _);have au:vlen vo=n:=by rw[ho.vlen,eo7]
 have U:(ah0 g l).length=n:=by rw[am5,T.len]
 simp only[eH,simprocAttr,ah,S,aq,ho.isS,au];refine A9 [0,1,5,13] (σ:=Nat) (λb f E=>f 14 = .int .i64 b/\b<=n/\B0 (i5 w) E 4 vo ((ah0 g l).take b++List.replicate (n-b) false)/\o6 w E) (λb=>n-b) 0 ?_ ?_
 .exact⟨rfl,ek1 _,by simpa using ho,ay⟩
 rintro b f w2 ⟨e0,e1,e5,I,_⟩ ⟨F,aM,p,Z⟩;simp only[eH,simprocAttr,F,I];refine A3 (λQ=>?_) ?_;rotate_left
 .rintro rfl;rw[Nat.sub_self,List.replicate_zero,em5,<-U,ek4]at p;simp only[i4,simprocAttr,e5];exact o8 results271 ⟨p,Z⟩
 have j:=ar9 (d:=false) U Q (ej0 om);have ak:(ah0 g l)[b]' om=l.all λa=>mAt g a.toNat b:=by
  have:=bJ7 T l Q;rw[List.getD,ej0 om]at this;exact this
 rw[ak]at j;have hX:((ah0 g l).take b++List.replicate (n-b) false).length=n:=by rw[ej2,ek3,eo7];omega
 generalize(ah0 g l).take b++List.replicate (n-b) false=X at p j hX;have an:=p.inS (k:=b) om;obtain⟨w3,s1,ax,ao,_⟩:=F9 (P:=prog) (t:=4) p rfl (k:=b) om (x:=.bool true) (y:=true) rfl rfl K A;have az:=p.ext2 Z ao;simp only[i4,n9,A0,simprocAttr,F,e1,e5,an,s1,aj,av];refine A9 [0,1,5,6,13,14,20,21] (σ:=Nat) (λk f E=>f 22 = .int .i64 k/\k<=l.length/\B0 (i5 w) E 4 vo (X.set b ((l.take k).all λa=>mAt g a.toNat b))/\o6 w E) (λk=>l.length-k) 0 ?_ ?_
 .exact⟨rfl,ek1 _,by simpa using ax,az⟩
 rintro k f2 w4 ⟨r0,r1,r5,r6,aA,ab,ac,aB,_⟩ ⟨G,aQ,q,v⟩;rw[e0]at r0;rw[e5]at r5;rw[I]at aA;rw[F]at ab;simp only[eH,simprocAttr,G,aB];refine A3 (λo=>?_) ?_;rotate_left
 .rintro rfl;rw[ek4,j]at q;simp only[eH,simprocAttr,ab];refine V1 (b+1) ⟨q,v⟩
 have B:=hs.inS o;have H:=aI7 hs (b7 v) o;have am:=hl _ (ek0 o);have W:=ej8 o;generalize l[k]=c at H am W;obtain⟨C,rfl⟩:∃C:Nat,c=(C:Int):=⟨c.toNat,om⟩;obtain⟨hg,aO⟩:=T.get (a:=C) om;obtain⟨uc,Y,al⟩:=R.row hf hg;have N:=J7 (P:=prog) (t:=95) al (b7 v) aK0;have M:=hf.inS (k:=C) (by rw[T.len];omega);have L:=Y.inS (k:=b) om;have s:=ldB Y (b7 v) (k:=b) om;have ar:(g.getD C [])[b]' om=mAt g C b:=by
  have hh:∀r:List Bool,∀h:b<r.length,r[b]=r.getD b false:=λr h=>by simp[List.getD,h]
  exact hh _ _
 rw[ar]at s;have D:=q.inS (k:=b) (by rw[eq3];omega);have O:=E1 (P:=prog) (t:=4) q (k:=b) (eq8 om) ai9;have e:(l.take (k+1)).all (λa=>mAt g a.toNat b)=((l.take k).all (λa=>mAt g a.toNat b)&&mAt g C b):=by
  rw[W,List.all_append];simp
 obtain⟨w5,s2,z,ap,_⟩:=F9 (P:=prog) (t:=4) q rfl (k:=b) (by rw[eq3];omega) (x:=.bool ((l.take (k+1)).all (λa=>mAt g a.toNat b))) (y:=(l.take (k+1)).all (λa=>mAt g a.toNat b)) rfl rfl K A;rw[List.set_set]at z;have aa:=q.ext2 v ap;have i:(Instr.loadAt 4 (.pointer (some (G8 vo b)))).run prog w4 = .ok (.bool ((l.take k).all λa=>mAt g a.toNat b)) w4:=O;generalize J:(l.take (k+1)).all (λa=>mAt g a.toNat b)=V' at e s2 z;generalize(l.take k).all (λa=>mAt g a.toNat b)=V at i e;generalize mAt g C b=m at s e;rcases ej1 V with hV|hV<;>subst hV
 .have:V'=m:=by simpa using e
  subst this;simp only[i4,n9,A0,simprocAttr,G,r0,r5,r6,ac,B,H,D,i,M,N,L,s,s2];refine V1 (k+1) ⟨by rw[J];exact z,aa⟩
 .have:V'=false:=by simpa using e
  subst this;simp only[i4,n9,A0,simprocAttr,G,r5,r6,ac,B,H,D,i,s2];refine V1 (k+1) ⟨by rw[J];exact z,aa⟩
def dE5:G7 prog 266 95 1 24=true:=by decide +kernel
def cG4{p:Pg}{i x y:Nat}{wy:Wy}(d:E6 p)(hw:C4 p<=1000000)(b:i<p.procs.length)(a:aw9 p i x y wy):wy.aug.length<=2000000:=by
 have c:wy.aug=aD1 (wy.virtual++wy.real++[⟨0,-1,2⟩]++((d9 p).of i).flatMap ac8):=by unfold Wy.aug;rw[a.s,a.proc]
 have e:=cf4 d hw b a;have f:=(bx3 p hw i b).2;have g:=P9 ac8 1 ((d9 p).of i) λx _=>bG8 x;rw[c];refine ej7 (be0 _) ?_;simp only[ej2,em3];omega
def bY8{p:Pg}{i x y:Nat}{wy:Wy}(e:E6 p)(hw:C4 p<=1000000)(d:i<p.procs.length)(a:aw9 p i x y wy):∀t∈wy.aug,RgS x y t:=by
 have c:wy.aug=aD1 (wy.virtual++wy.real++[⟨0,-1,2⟩]++((d9 p).of i).flatMap ac8):=by unfold Wy.aug;rw[a.s,a.proc]
 intro t b;rw[c]at b;exact db2 e hw d a t (be1 b)
def cv0(a:Addr)(wy:Wy)(p:Pg)(i x y:Nat)(w:World)(ha:At (i5 w) a wy)(hr:E6 p)(hw:C4 p<=1000000)(hi:i<p.procs.length)(S:aw9 p i x y wy):
  y5 prog 206 #[.pointer (some a)] w λu m=>(R (i5 m) u wy.follow/\o6 w m):=by
 refine z6 [.pointer (some a)] func206 rfl ?_;obtain⟨_,_,_,_,_,_,aQ,cS⟩:=ha.wy;have lw:=aQ w (n7 _);have c3:=J8 hr.may;have c9:=S.part.ok.len;have c8:=S.part.ok.le;have hn:=S.n;have cr:=cG4 hr hw hi S;have a6:=bY8 hr hw hi S;have aL:=bj7 S.toWyOk a6;have aJ:wy.n=((wy.n.toNat:Nat):Int):=om
 have bI:(wy.pairs wy.aug).length=wy.aug.length:=ek2 _;have hF:wy.follow=aj4 (ax4 wy.n.toNat (wy.pairs wy.aug)) (wy.n.toNat-1) (wy.n.toNat*wy.n.toNat+1) (Y7 wy.n.toNat):=rfl;have a3:wy.n.toNat<=202:=om
 have cj:2<=wy.n.toNat:=om
 generalize hM:wy.n.toNat=M at hF aJ a3 cj;have hz:A6.enc (i5 w) (Value.slice none 0 0).cells.toList D9:=⟨rfl,rfl⟩;obtain⟨vo,w1,aj,bG,aO,br,_⟩:=mk (P:=prog) (w:=w) (h:=i5 w) cC5 ao7 (α:=Raw) (y:=D9) hz (n:=M) om om (n7 _);rw[<-aJ]at aj;have bf:F1 (i5 w) w1 45 3 vo (List.replicate M D9) (ax4 M []):=by rw[co6];exact am3 bG
 simp only[eH,simprocAttr,lw,aj];refine y4 (cF6 a wy p i x y w1 (ha.mono (b7 aO)) hr hw hi S) ?_;rintro ud w2 ⟨bH,am⟩;simp only[i4,simprocAttr];refine y4 (ay2 a wy p i x y ud _ w2 (ha.mono (b7 (aO.trans am))) S.toWyOk (bH.rw_ (b7 am)) a6 om) ?_;rintro uq w3 ⟨aK,bi⟩;have bg:=bf.ext (am.trans bi);have N:∀b,N9 vo (List.replicate M D9) b->b<w2.heap.size:=λb z=>(bf.ext am).lt z;generalize wy.pairs wy.aug=ps at aK hF aL bI;have aB:R (D0 w3 (N9 vo (List.replicate M D9))) uq ps:=aK.flatRN λb z=>E4 λcp=>by
  have h1:=N b cp;have h2:=C9 (aK.free z);omega
 have bm:=aB.isS;have bE:=aB.vlen;simp only[eH,simprocAttr,bm,bE];refine A9 [0,3,20,21] (σ:=Nat×List Raw) (λs f m=>f 22 = .int .i64 s.1/\s.1<=ps.length/\F1 (i5 w) m 45 3 vo s.2 (ax4 M (ps.take s.1))/\p6 (N9 vo (List.replicate M D9)) w3 m/\(∀b,N9 vo s.2 b->N9 vo (List.replicate M D9) b\/w3.heap.size<=b)) (λs=>ps.length-s.1) (0,List.replicate M D9) ?_ ?_
 .simp only[B8,simprocAttr];exact⟨tt,ek1 _,by simpa using bg,p6.refl _,λb z=>.inl z⟩
 rintro⟨k,us⟩ f L ⟨e0,e3,ce,cf,_⟩ ⟨aE,bx,ab,ax,O⟩;simp only at aE bx ab O;have D:o6 w L:=p6.ext_of (aO.trans (am.trans bi)) ax λb z=>C9 (bg.free z);simp only[eH,simprocAttr,aE,cf];refine A3 (λaa=>?_) ?_
 .have a9:=aB.inS aa;have ba:=di1 aB (F3 ax) (ej0 aa);have bV:=ej8 aa;obtain⟨bJ,bK⟩:=aL _ (ek0 aa);generalize ps[k]=t at ba bV bJ bK;obtain⟨z1,z2⟩:=t;simp only at bJ bK ba;obtain⟨Q,rfl⟩:∃Q:Nat,z1=(Q:Int):=⟨z1.toNat,om⟩;have hQ:Q<M:=om
  obtain⟨c,wz,w5,cn,bT,an,ct,c7⟩:=dq9 (w:=L) (Q:Int) z2;have T:=ab.ext (an.trans (o6.drew w5));have cC:us.length=M:=by rw[ab.len,bj0]
  obtain⟨u,hu⟩:∃u,us[Q]?=some u:=⟨us[Q]' om,ej0 om⟩;have C:=T.row Q u _ hu (co5 _ hQ);have aM:=aM8 (ps.take k) Q;rw[ek3]at aM;have bq:¬A5 u.v c:=λz=>by
   have:=ab.lt (.inr ⟨u,el0 hu,z⟩);omega
  have bn:w5.drew.heap[c]?=some (.cells #[.int .i64 (Q:Int),.int .i64 z2] 208 (0,0)):=ct;have t0:∀K f d w0,F8 prog (λm=>p6 (A5 u.v) w5.drew m) (Instr.loadAt 3 (.pointer (some ⟨c,0,none⟩))) K f d w0=K (C5 f d (.int .i64 (Q:Int))) w0:=λK f d w0=>B7 (w0:=w5.drew) (p6.refl _) λm h=>(ay0 bn h bq).1;have t1:∀K f d w0,F8 prog (λm=>p6 (A5 u.v) w5.drew m) (Instr.loadAt 3 (.pointer (some ⟨c,1,none⟩))) K f d w0=K (C5 f d (.int .i64 z2)) w0:=λK f d w0=>B7 (w0:=w5.drew) (p6.refl _) λm h=>(ay0 bn h bq).2;have t2:∀K f d w0,F8 prog (λm=>p6 (A5 u.v) w5.drew m) (Instr.loadAt 45 (.pointer (some (G8 vo Q)))) K f d w0=K (C5 f d u.v) w0:=λK f d w0=>B7 (w0:=w5.drew) (p6.refl _) λm h=>bI9 (T.outer.mod h λb z co=>T.off Q u hu b co z) hu aj0;have dp:=T.outer.isS;have bw:=T.outer.inS (k:=Q) om;have bY:=D.trans (an.trans (o6.drew w5));obtain⟨p1,u6,w6,p2,p3,p4,p5⟩:=push (e:=45) W3 rfl C (x:=.int .i64 z2) (y:=z2) rfl om om (b7 bY);simp only[Value.cells]at p1 p2;obtain⟨w7,s1,aA,cw,_⟩:=T.put (P:=prog) (t:=45) hu p4 p3 p5 (A4 ao7).choose_spec.1 (by rw[<-F0 (A4 ao7).choose_spec.1];exact bz1);simp only[i4,n9,A0,simprocAttr,aE,ce,a9,ba,cn,bT];refine C0 (λm=>p6 (A5 u.v) w5.drew m) 12 (A7 [0,1,2,3,4,5,6,7,8,9,10,11]) ?_;simp only[D7,A7,i4,n9,A0,simprocAttr,e3,t0,t1,t2,bw,p1,p2,G0];refine⟨p6.up (o6.alloc _ _),p4,?_⟩;simp only[eH,simprocAttr,s1,aE];have bO:∀b,A5 u.v b->N9 vo us b:=λb z=>.inr ⟨u,el0 hu,z⟩;have da:w3.heap.size<=w5.drew.heap.size:=ej7 ax.size ((an.trans (o6.drew w5)).size);refine V1 (k+1,us.set Q ⟨u6⟩) ⟨?_,?_,λb z=>?_⟩
  .simp only[];rw[bV,bU4 _ hQ];exact aA
  .refine(ax.chain (p6.up (M:=λ_=>False) (an.trans (o6.drew w5))) λ_ _ h=>h.elim).chain (p6.trans (M:=λb=>A5 u.v b\/A5 vo b) (p4.weaken λb _ h=>.inl h) (cw.weaken λb _ h=>.inr h)) (λb z h=>?_);rcases h with h|h
   .exact(O b (bO b h)).resolve_right om
   .exact .inl h
  .rcases cq1 z with h|h
   .exact O b h
   .rcases p5 b h with h|h
    .exact O b (bO b h)
    .exact .inr om
 rintro rfl;rw[ek4]at ab;have bb:=ab.ro (b7 D);have bZ:∀a∈ax4 M ps,∀b∈a,0<=b/\b<(M:Int):=λa ha b z=>by
  obtain⟨t,ht,rfl⟩:=(bj1 ha).2 b z;have:=(aL t ht).2;omega
 have bD:∀a∈ax4 M ps,a.length<=2000000:=λa ha=>by have:=(bj1 ha).1;omega
 have bF:=bj0 M ps;generalize ax4 M ps=E at bb bZ bD bF hF;clear ab ax O aB aK bg bf bG aj bH N bi am aO aL bI a6 cr;clear lw bx bm bE br;have lw:=aQ L (b7 D);have cH:A6.enc (i5 L) (Value.slice none 0 0).cells.toList D9:=⟨rfl,rfl⟩;obtain⟨vf,w5,aj,bc,an,_,_⟩:=mk (P:=prog) (w:=L) (h:=i5 L) dE5 bW5 (α:=Raw) (y:=D9) cH (n:=M) om om (n7 _);rw[<-aJ]at aj;have T:=am3 (α:=Bool) (T':=4) bc;have cy:vlen vf=M:=by rw[bc.vlen,eo7]
 simp only[eH,simprocAttr,e0,lw,aj,bc.isS,cy];obtain⟨ib,bt,aV⟩:=av3 (P:=prog) V4 aE0;obtain⟨dv,aW,av⟩:=av3 (P:=prog) bW5 cM2;have a7:(Y7 M).length=M:=(ap9 M).len;refine A9 [0,3,6,46] (σ:=Nat×List Raw) (λs f m=>f 47 = .int .i64 s.1/\s.1<=M/\F1 (i5 L) m 95 4 vf s.2 ((Y7 M).take s.1++List.replicate (M-s.1) [])/\o6 L m) (λs=>M-s.1) (0,List.replicate M D9) ?_ ?_
 .simp only[B8,simprocAttr];exact⟨tt,ek1 _,by simpa using T,an⟩
 rintro⟨g,ap⟩ f2 w6 ⟨g0,g3,g6,bl,_⟩ ⟨aF,cv,H,aP⟩;simp only at aF cv H;rw[e0]at g0;rw[e3]at g3;have cK:=aQ w6 (b7 (D.trans aP));simp only[eH,simprocAttr,aF,bl];refine A3 (λaa=>?_) ?_
 .obtain⟨vr,w7,a0,be,Y,bs,_⟩:=mk (P:=prog) (w:=w6) (h:=i5 L) (α:=Bool) bl6 V4 (y:=false) rfl (n:=M) om om (b7 aP);rw[<-aJ]at a0;have cC:ap.length=M:=by rw[H.len,ej2,ek3,eo7];omega
  obtain⟨u,hu⟩:∃u,ap[g]?=some u:=⟨ap[g]' om,ej0 om⟩;have a9:=H.outer.inS (k:=g) om;obtain⟨w8,s1,o,cx,_⟩:=H.put (P:=prog) (t:=95) hu (p6.up Y) be (λb z=>.inr (bs b z)) aW av;have I:o6 L w8:=(H.outer.ext Y).ext2 (aP.trans Y) cx;have ac:(ap.set g ⟨vr⟩)[g]?=some ⟨vr⟩:=eq8 om;have aw:=bI9 (P:=prog) (t:=95) o.outer ac aK0;have cl:=be.isS;have cz:vlen vr=M:=by rw[be.vlen,eo7]
  obtain⟨rk,bh⟩:∃r,(Y7 M)[g]?=some r:=⟨_,ej0 om⟩;have aM:rk.length=M:=(ap9 M).row rk (el0 bh);have bN:∀b (z:b<M),rk[b]?=some (decide (g+1<M)||decide (g=b)):=λb z=>by
   have:=bF6 aa z;unfold mAt at this;rw[List.getD,List.getD,bh,eo5,ej0 om]at this;rw[ej0 om];exact el1 some this
  have ay:=ar9 (d:=([]:List Bool)) a7 aa bh;have cm:((Y7 M).take g++List.replicate (M-g) ([]:List Bool)).length=M:=by rw[ej2,ek3,eo7];omega
  generalize(Y7 M).take g++List.replicate (M-g) ([]:List Bool)=X at H o ay cm;generalize hU:ap.set g ⟨vr⟩=U at o ac;simp only[i4,n9,A0,simprocAttr,aF,g0,g6,cK,a0,a9,s1,aw,cl,cz];refine A9 [0,3,6,7,46,47,62] (σ:=Nat) (λb f m=>f 63 = .int .i64 b/\b<=M/\F1 (i5 L) m 95 4 vf U (X.set g (rk.take b++List.replicate (M-b) false))/\o6 L m) (λb=>M-b) 0 ?_ ?_
  .simp only[B8,simprocAttr];exact⟨tt,ek1 _,by simpa using o,I⟩
  rintro b f3 w9 ⟨q0,q3,q6,q7,cP,b0,cR,_⟩ ⟨ar,dr,W,ao⟩;rw[g0]at q0;rw[g3]at q3;rw[g6]at q6;rw[aF]at b0;rw[bl]at cP;simp only[eH,simprocAttr,ar,cR];refine A3 (λN=>?_) ?_;rotate_left
  .rintro rfl;rw[Nat.sub_self,List.replicate_zero,em5,<-aM,ek4,ay]at W;simp only[eH,simprocAttr,b0];refine V1 (g+1,U) ⟨W,ao⟩
  have ak:=ar9 (d:=false) aM N (bN b N);have ck:(rk.take b++List.replicate (M-b) false).length=M:=by rw[ej2,ek3,eo7];omega
  generalize rk.take b++List.replicate (M-b) false=r at W ak ck;have C:=(W.ext (o6.drew w9)).row g _ r ac (eq8 om);simp only at C;have aY:=C.inS (k:=b) om;have bX:IntKind.i64.wrap (wy.n-1)=((M-1:Nat):Int):=by rw[M7 _ om];omega
  have sw:=cS (λm=>o6 w9.drew m) w9.drew (p6.refl _) λm h=>b7 (D.trans (ao.trans ((o6.drew w9).trans h)));have tr:∀K f d w0,F8 prog (λm=>o6 w9.drew m) (Instr.loadAt 95 (.pointer (some (G8 vf g)))) K f d w0=K (C5 f d vr) w0:=λK f d w0=>B7 (w0:=w9.drew) (p6.refl _) λm h=>bI9 (W.outer.ext ((o6.drew w9).trans h)) ac aK0;have aX:=W.outer.inS (k:=g) (ej5.1 ac).1;have hV:(decide (g+1<M)||decide (g=b))=(decide ((g:Int)<((M-1:Nat):Int))||decide ((g:Int)=(b:Int))):=by
   congr 1
   .rw[eo4];omega
   .rw[eo4];omega
  rw[hV]at ak;have bS:=λV:Bool=>F9 (P:=prog) (t:=4) C rfl (k:=b) om (x:=.bool V) (y:=V) rfl rfl bt aV;rcases ej1 (decide ((g:Int)<((M-1:Nat):Int)))with hq|hq
  .rw[hq,ev5]at ak;obtain⟨aq,s2,az,B,_⟩:=bS true;have v:=(W.ext (o6.drew w9)).write ac B az;rw[List.set_set,ak]at v;have q:o6 L aq:=C.ext2 (ao.trans (o6.drew w9)) B;simp only[i4,simprocAttr,ar];refine C0 (λm=>o6 w9.drew m) 17 (A7 [0,1,2,3,4,5,6,7,8,9,10,11,12,13,14,15,16]) ?_;simp only[D7,A7,i4,n9,A0,simprocAttr,q0,q6,q7,sw,tr,aX,bX,hq];simp only[eH,simprocAttr,aY,s2,ar];refine V1 (b+1) ⟨v,q⟩
  .rw[hq,ew4]at ak;obtain⟨aq,s2,az,B,_⟩:=bS (decide ((g:Int)=(b:Int)));have v:=(W.ext (o6.drew w9)).write ac B az;rw[List.set_set,ak]at v;have q:o6 L aq:=C.ext2 (ao.trans (o6.drew w9)) B;simp only[i4,simprocAttr,ar];refine C0 (λm=>o6 w9.drew m) 17 (A7 [0,1,2,3,4,5,6,7,8,9,10,11,12,13,14,15,16]) ?_;simp only[D7,A7,i4,n9,A0,simprocAttr,q0,q6,q7,sw,tr,aX,bX,hq];simp only[eH,simprocAttr,aY,s2,ar];refine V1 (b+1) ⟨v,q⟩
 rintro rfl;rw[Nat.sub_self,List.replicate_zero,em5]at H;rw[en6 (by rw[a7];exact ek6 _)]at H;have bL:=H;have cG:=aP;generalize ap=cY at bL;simp only[i4,simprocAttr];refine A9 [0,3,6] (σ:=(Nat×List Raw)×(List (List Bool)×Bool)) (λs f m=>f 9 = .bool s.2.2/\F1 (i5 L) m 95 4 vf s.1.2 s.2.1/\o6 L m/\s.2.1=aj4 E (g-1) s.1.1 (Y7 g)/\SqM g s.2.1/\cZ5 g E s.2.1/\bo8 s.2.1+s.1.1<=g*g/\(s.2.2=false->R1 E s.2.1 (g-1)=s.2.1)) (λs=>if s.2.2 then bo8 s.2.1+1 else 0) ((0,cY),(Y7 g,true)) ?_ ?_
 .simp only[B8,simprocAttr];refine⟨tt,bL,cG,rfl,ap9 _,cl0 _ _,?_,λh=>by cases h⟩;have:=cH7 g (Y7 g) (ap9 g).row;rw[a7]at this;simpa using this
 rintro⟨⟨K,cZ⟩,fm,tu⟩ f7 w7 ⟨j0,j3,j6,_⟩ ⟨h9,aA,Y,aI,bR,aT,bo,aU⟩;simp only at h9 aA aI bR aT bo aU;rw[g0]at j0;rw[g3]at j3;rw[g6]at j6;have cL:=aQ w7 (b7 (D.trans Y));simp only[i4,simprocAttr,h9];refine A8 (λht=>?_) (λht=>?_);rotate_left
 .have a8:=aU ht;have bP:wy.follow=fm:=by
   rw[hF,show g*g+1=K+(g*g+1-K) by omega,aT0,<-aI,bh1 a8]
  simp only[i4,simprocAttr,j6];exact o8 results206 ⟨by rw[bP];exact aA.ro (b7 Y),D.trans Y⟩
 subst ht;have cF:IntKind.i64.wrap (wy.n-2)=((g-1:Nat):Int)-1:=by rw[M7 _ om];omega
 simp only[eH,simprocAttr,j0,cL,cF];refine A9 [0,3,6] (σ:=(Nat×List Raw)×(List (List Bool)×Bool)) (λs f m=>f 10 = .int .i64 ((s.1.1:Int)-1)/\s.1.1+1<=g/\f 9 = .bool s.2.2/\F1 (i5 L) m 95 4 vf s.1.2 s.2.1/\o6 L m/\R1 E s.2.1 s.1.1=R1 E fm (g-1)/\SqM g s.2.1/\cZ5 g E s.2.1/\(s.2.2=false->s.2.1=fm)/\(s.2.2=true->bo8 s.2.1<bo8 fm)) (λs=>s.1.1) ((g-1,cZ),(fm,false)) ?_ ?_
 .simp only[B8,simprocAttr];exact⟨tt,om,tt,aA,Y,tt,bR,aT,λ_=>tt,λh=>by cases h⟩
 rintro⟨⟨J,ae⟩,gm,tv⟩ f8 w8 ⟨m0,m3,m6,_⟩ ⟨Z,hJ,aG,o,I,al,l,A,aH,aN⟩;simp only at Z hJ aG o al l A aH aN;rw[j0]at m0;rw[j3]at m3;rw[j6]at m6;simp only[eH,simprocAttr,Z];refine A8 (λa5=>?_) (λa5=>?_);rotate_left
 .have ci:J=0:=by simp at a5;omega
  subst ci;have a1:gm=R1 E fm (g-1):=al;cases tv with
  | false=>
   have e:=aH rfl;have a8:R1 E fm (g-1)=fm:=by rw[<-a1];exact e
   simp only[eH,simprocAttr];refine⟨((K,ae),gm,false),dP,aG,o,I,by rw[e];exact aI,l,A,by rw[e];exact bo,λ_=>?_⟩;simp only[];rw[e];exact a8
  | true=>
   have e:=aN rfl;simp only[eH,simprocAttr];refine⟨((K+1,ae),gm,true),by simp;omega,aG,o,I,?_,l,A,so,λh=>by cases h⟩;simp only[];rw[aT0,<-aI,a1];rfl
 obtain⟨j,rfl⟩:∃j,J=j+1:=⟨J-1,by simp at a5;omega⟩;have hj:j+1<g:=hJ;have au:((j+1:Nat):Int)-1=(j:Int):=om
 rw[au]at Z;obtain⟨un,cD,bp⟩:=R.row bb (show E[j]?=some (E.getD j []) by rw[List.getD,ej0 om];rfl);have bC:E.getD j []∈E:=by rw[List.getD,ej0 om];exact ek0 _
 have bz:=J7 (P:=prog) (t:=45) bp (b7 I) aj0;simp only[i4,n9,A0,simprocAttr,au,Z,m3,m6,bb.inS (k:=j) om,bz];refine y4 (cC3 vf un g gm (E.getD j []) w8 (o.ro (b7 I)) (A6.mono (b7 I) cD) l (bZ _ bC) om (by have:=bD _ bC;omega)) ?_;rintro ul w9 ⟨bd,ao⟩;have bv:=bd.inS (k:=j) (by rw[am5,l.len];omega);obtain⟨aq,s1,G,B,_⟩:=F9 (P:=prog) (t:=4) bd rfl (k:=j) (by rw[am5,l.len];omega) (x:=.bool true) (y:=true) rfl rfl bt aV;have bB:(ah0 gm (E.getD j [])).set j true=ae7 E gm j:=rfl;rw[bB]at G;have q:o6 w8 aq:=bd.ext2 ao B;have ad:=I.trans q;have v:=o.ext q;have aS:=v.ro (b7 ad);obtain⟨hg,cs⟩:=l.get (a:=j) om;obtain⟨ur,cE,cq⟩:=R.row aS hg;have aw:=J7 (P:=prog) (t:=95) cq (n7 _) aK0;have bu:=aS.inS (k:=j) (by rw[l.len];omega);simp only[i4,n9,A0,simprocAttr,bv,s1,Z,m6,bu,aw];refine y4 (cy0 ul ur (ae7 E gm j) (gm.getD j []) aq (G.rw_ (b7 q)) cE (by rw[aN4,l.len];omega) (by rw[cs];omega)) ?_;rintro _ dH ⟨rfl,F⟩;obtain⟨cT,cU,cV,cW⟩:=cD1 l A hj;have bQ:R1 E gm (j+1)=R1 E (X8 E gm j) j:=rfl;rw[bQ]at al;have bW:IntKind.i64.wrap ((j:Int)-1)=(j:Int)-1:=M7 _ om;rcases ej1 (decide (ae7 E gm j=gm.getD j []))with he|he
 .have cA:=cV (ej3 he);rw[cA]at al;simp only[eH,simprocAttr,he,Z,bW];refine⟨((j,ae),gm,tv),dP,tt,so,aG,v.ext F,ad.trans F,al,l,A,aH,aN⟩
 .have aZ:=cW (ej6 he);have db:ae.length=g:=by rw[o.len,l.len]
  obtain⟨u8,cB⟩:∃u,ae[j]?=some u:=⟨ae[j]' om,ej0 om⟩;obtain⟨dI,s2,bM,bA,_⟩:=o.put (P:=prog) (t:=95) cB (p6.up (q.trans F)) ((G.ext F).back I) (λb z=>.inr (C9 (G.free z))) aW av;simp only[i4,n9,A0,simprocAttr,he,m6,o.outer.inS (k:=j) om,s2,Z,bW];refine⟨((j,ae.set j ⟨ul⟩),X8 E gm j,true),dP,tt,so,tt,bM,(o.outer.ext (q.trans F)).ext2 (ad.trans F) bA,al,cT,cU,(λh=>by cases h),λ_=>?_⟩;simp only[];cases tv with
  | false=>rw[aH rfl]at aZ ⊢;exact aZ
  | true=>have:=aN rfl;omega
def bN8{n:Nat}{next:List (List Int)}{f:List (List Bool)}(b:SqM n f)(a:Nat):SqM n (X8 next f a):=by
 have e:X8 next f a=f.set a (ae7 next f a):=rfl
 rw[e];refine⟨by rw[eq3,b.len],λr c=>?_⟩;rcases es0 c with h|h
 .exact b.row r h
 .rw[h,aN4,b.len]
def aT1{n:Nat}{next:List (List Int)}:∀(m:Nat) {f:List (List Bool)},SqM n f->SqM n (R1 next f m)
 | 0,_,h=>h
 | m+1,_,h=>aT1 m (bN8 h m)
def bF7{n:Nat}{next:List (List Int)}{m:Nat}:∀(k:Nat) {f:List (List Bool)},SqM n f->SqM n (aj4 next m k f)
 | 0,_,h=>h
 | k+1,_,h=>bF7 k (aT1 m h)
def cS2(wy:Wy):SqM wy.n.toNat wy.follow:=by
 unfold Wy.follow;exact bF7 _ (ap9 _)
def ao9(f:List (List Bool))(M:Nat)(l:List (Int×Int))(a b:Nat):Bool:=decide (1<=b)&&decide (b+1<M)&&l.any λt=>decide (t.1=(a:Int))&&(mAt f t.2.toNat b&&(decide (a=b) || !mAt f a b))
def cQ9(f:List (List Bool))(M:Nat)(l:List (Int×Int))(t:Int×Int)(a b:Nat):ao9 f M (l++[t]) a b=(ao9 f M l a b||(decide (1<=b)&&decide (b+1<M)&&decide (t.1=(a:Int))&&(mAt f t.2.toNat b&&(decide (a=b) || !mAt f a b)))):=by
 unfold ao9;rw[List.any_append];cases decide (1<=b)<;>cases decide (b+1<M)<;>simp
def bc5{wy:Wy}{M:Nat}(d:wy.n=(M:Int)):wy.decides=(List.range M).flatMap λa=>((List.range M).filter λb=>ao9 wy.follow M (wy.pairs wy.aug) a b).map λ(b:Nat)=>(wy.place (a:Int),wy.place (b:Int)):=by
 unfold Wy.decides;simp only[];rw[d,el5]
 congr 1
 funext a
 congr 1
 refine List.filter_congr λb e=>?_;unfold ao9;have c:decide ((b:Int)<(M:Int)-1)=decide (b+1<M):=by rw[eo4];omega
 rw[c];refine el1 (λg=>decide (1<=b)&&decide (b+1<M)&&(wy.pairs wy.aug).any g) (funext λt=>?_);unfold atB mAt;rw[el5,Bool.and_assoc]
theorem ca9{α:Type}{l:List α}{k:Nat}{d x:α}(h:l[k]?=some x):l.getD k d=x:=by rw[List.getD,h];rfl
def cg4(a:Addr)(wy:Wy)(p:Pg)(i x y:Nat)(w:World)(ha:At (i5 w) a wy)(hr:E6 p)(hw:C4 p<=1000000)(hi:i<p.procs.length)(E:aw9 p i x y wy):
  y5 prog 146 #[.pointer (some a)] w λu Z=>(B0 (i5 w) Z 208 u wy.decides/\o6 w Z):=by
 refine z6 [.pointer (some a)] func146 rfl ?_;obtain⟨_,_,_,_,_,_,bi,dA⟩:=ha.wy;have cZ:=J8 hr.may;have c8:=E.part.ok.len;have c7:=E.part.ok.le;have hn:=E.n;have dp:=cG4 hr hw hi E;have bv:=bY8 hr hw hi E;have bI:=bj7 E.toWyOk bv;have cB:(wy.pairs wy.aug).length=wy.aug.length:=ek2 _;have aS:wy.n=((wy.n.toNat:Nat):Int):=om
 have I:=cS2 wy;have a5:wy.n.toNat<=202:=om
 have ch:2<=wy.n.toNat:=om
 generalize hM:wy.n.toNat=M at aS a5 ch I;have hF:=bc5 aS;simp only[eH,simprocAttr];refine y4 (cv0 a wy p i x y w ha hr hw hi E) ?_;rintro vf w1 ⟨aG,aq⟩;generalize wy.follow=g at aG hF I;have cK:=bi w1 (b7 aq);have hz:A6.enc (i5 w1) (Value.slice none 0 0).cells.toList D9:=⟨rfl,rfl⟩;obtain⟨vo,w2,bE,L,cH,_,_⟩:=mk (P:=prog) (w:=w1) (h:=i5 w1) dE5 bW5 (α:=Raw) (y:=D9) hz (n:=M) om om (n7 _);rw[<-aS]at bE;have bM:=am3 (α:=Bool) (T':=4) L;have bn:=L.isS;have bG:vlen vo=M:=by rw[L.vlen,eo7]
 obtain⟨ib,ct,bz⟩:=av3 (P:=prog) V4 aE0;obtain⟨dt,bA,ba⟩:=av3 (P:=prog) bW5 cM2;have bV:(List.replicate M (List.replicate M false)).length=M:=eo7;simp only[eH,simprocAttr,cK,bE,bn,bG];refine A9 [0,3,4,21] (σ:=Nat×List Raw) (λs f Z=>f 22 = .int .i64 s.1/\s.1<=M/\F1 (i5 w1) Z 95 4 vo s.2 ((List.replicate M (List.replicate M false)).take s.1++List.replicate (M-s.1) [])/\o6 w1 Z) (λs=>M-s.1) (0,List.replicate M D9) ?_ ?_
 .exact⟨rfl,ek1 _,by simpa using bM,cH⟩
 rintro⟨k,us⟩ f w3 ⟨e0,e3,e4,cb,_⟩ ⟨a3,cu,N,ar⟩;simp only at a3 cu N;have cL:=bi w3 (b7 (aq.trans ar));simp only[eH,simprocAttr,a3,cb];refine A3 (λaa=>?_) ?_
 .obtain⟨vr,w4,a0,cz,O,bw,_⟩:=mk (P:=prog) (w:=w3) (h:=i5 w1) (α:=Bool) bl6 V4 (y:=false) rfl (n:=M) om om (b7 ar);rw[<-aS]at a0;have cF:us.length=M:=by rw[N.len,ej2,ek3,eo7,eo7];omega
  obtain⟨u,hu⟩:∃u,us[k]?=some u:=⟨us[k]' om,ej0 om⟩;have bb:=N.outer.inS (k:=k) om;obtain⟨w5,s1,ab,cv,_⟩:=N.put (P:=prog) (t:=95) hu (p6.up O) cz (λb hb=>.inr (bw b hb)) bA ba;rw[ar9 (d:=([]:List Bool)) bV aa (by rw[eu3,if_pos aa])]at ab;simp only[i4,n9,A0,simprocAttr,a3,e0,e4,cL,a0,bb,s1];refine V1 (k+1,us.set k ⟨vr⟩) ⟨ab,(N.outer.ext O).ext2 (ar.trans O) cv⟩
 rintro rfl;rw[Nat.sub_self,List.replicate_zero,em5,en6 (by rw[bV];exact ek6 _)]at N;simp only[i4,simprocAttr,e0];refine y4 (cF6 a wy p i x y w3 (ha.mono (b7 (aq.trans ar))) hr hw hi E) ?_;rintro ud w4 ⟨bH,O⟩;simp only[i4,simprocAttr];refine y4 (ay2 a wy p i x y ud _ w4 (ha.mono (b7 (aq.trans (ar.trans O)))) E.toWyOk (bH.rw_ (b7 O)) bv om) ?_;rintro uq w5 ⟨aT,bU⟩;have ab:=N.ext (O.trans bU);generalize wy.pairs wy.aug=l at aT hF bI cB;have bS:=ar.trans (O.trans bU);have aF:R (D0 w5 (N9 vo us)) uq l:=aT.flatRN λb hb=>E4 λcl=>by
  have S:=(N.ext O).lt cl;have h2:=C9 (aT.free hb);omega
 have aj:∀b,N9 vo us b->i5 w1 b=none:=λb hb=>ab.free hb;have cF:us.length=k:=by rw[ab.len,eo7]
 have cj:=aF.isS;have cx:=aF.vlen;have bs:∀A B,A<k->B<k->mAt (List.replicate k (List.replicate k false)) A B=ao9 g k [] A B:=λA B hA hB=>by
  unfold mAt ao9;rw[ca9 (show(List.replicate k (List.replicate k false))[A]?=some (List.replicate k false) by rw[eu3,if_pos hA]),ca9 (show(List.replicate k false)[B]?=some false by rw[eu3,if_pos hB])];simp
 have bO:SqM k (List.replicate k (List.replicate k false)):=⟨eo7,λr hr=>by rw[eq7 hr,eo7]⟩;simp only[eH,simprocAttr,cj,cx];refine A9 [0,3,4,37,38] (σ:=Nat×List (List Bool)) (λs f Z=>f 39 = .int .i64 s.1/\s.1<=l.length/\F1 (i5 w1) Z 95 4 vo us s.2/\p6 (N9 vo us) w5 Z/\SqM k s.2/\∀A B,A<k->B<k->mAt s.2 A B=ao9 g k (l.take s.1) A B) (λs=>l.length-s.1) (0,List.replicate k (List.replicate k false)) ?_ ?_
 .exact⟨rfl,ek1 _,ab,p6.refl _,bO,by simpa using bs⟩
 rintro⟨q,X⟩ f6 w6 ⟨g0,g3,g4,cd,ce,_⟩ ⟨aM,cC,aC,aR,W,ay⟩;simp only at aM cC aC W ay;rw[e0]at g0;rw[e3]at g3;rw[e4]at g4;have aJ:o6 w1 w6:=p6.ext_of bS aR λb hb=>C9 (aj b hb);simp only[eH,simprocAttr,aM,ce];refine A3 (λaa=>?_) ?_
 .have bb:=aF.inS aa;have bc:=di1 aF (F3 aR) (ej0 aa);have bQ:=ej8 aa;obtain⟨bK,bL⟩:=bI _ (ek0 aa);generalize l[q]=t at bc bQ bK bL;obtain⟨z1,z2⟩:=t;simp only at bK bL bc;obtain⟨A,rfl⟩:∃Q:Nat,z1=(Q:Int):=⟨z1.toNat,om⟩;obtain⟨C,rfl⟩:∃Q:Nat,z2=(Q:Int):=⟨z2.toNat,om⟩;have hA:A<k:=om
  have hC:C<k:=om
  have aQ:∀A' B,ao9 g k (l.take (q+1)) A' B=(ao9 g k (l.take q) A' B||(decide (1<=B)&&decide (B+1<k)&&decide (A=A')&&(mAt g C B&&(decide (A'=B) || !mAt g A' B)))):=λA' B=>by
   rw[bQ,cQ9];simp only[el5];have:decide ((A:Int)=(A':Int))=decide (A=A'):=by rw[eo4];omega
   rw[this]
  obtain⟨c,wz,w7,ck,bP,bg,bx,c5⟩:=dq9 (w:=w6) (A:Int) (C:Int);have cD:=aC.ext bg;have cn:¬N9 vo us c:=λhb=>by
   have:=aC.lt hb;omega
  have bT:=aJ.trans bg;have bC:p6 (N9 vo us) w5 w7:=aR.chain (p6.up (M:=λ_=>False) bg) λ_ _ h=>h.elim;obtain⟨a8,az⟩:=W.get hA;obtain⟨uA,aU⟩:∃u,us[A]?=some u:=⟨us[A]' om,ej0 om⟩;obtain⟨cs,c4⟩:=I.get hC;obtain⟨cr,c3⟩:=I.get hA;obtain⟨uC,bR,cm⟩:=R.row aG cs;obtain⟨dC,ac,aP⟩:=R.row aG cr;have K:=aG.inS (k:=C) (by rw[I.len];exact hC);have aA:=aG.inS (k:=A) (by rw[I.len];exact hA);have cG:IntKind.i64.wrap (wy.n-1)=((k-1:Nat):Int):=by rw[M7 _ om];omega
  simp only[i4,n9,A0,simprocAttr,aM,cd,bb,bc,ck,bP,ay0 bx (M:=λ_=>False) (p6.refl w7) id];refine E8 [0,3,4,7,8,37,38,39] (σ:=Nat×List Bool) (λs f Z=>f 9 = .int .i64 s.1/\1<=s.1/\s.1+1<=k/\F1 (i5 w1) Z 95 4 vo us (X.set A s.2)/\p6 (N9 vo us) w7 Z/\s.2.length=k/\∀B,B<k->s.2.getD B false=if B<s.1 then ao9 g k (l.take (q+1)) A B else ao9 g k (l.take q) A B) (λs=>k-s.1) (1,X.getD A []) ?_ ?_
  .simp only[B8,simprocAttr];refine⟨tt,dP,om,by rw[cr3 a8];exact cD,p6.refl _,az,λB hB=>?_⟩;have S:=ay A B hA hB;unfold mAt at S;rw[S];split
   .next dk=>
    have:B=0:=om
    subst this;rw[aQ];simp
   .rfl
  rintro⟨b,r⟩ f8 w8 hk ⟨h9,bt,a6,V,ao,ap,aD⟩;simp only at h9 bt a6 V ap aD;simp only[em0,B8,simprocAttr]at hk;obtain⟨j0,j3,j4,j7,j8,du,dv,bX,_⟩:=hk;rw[g0]at j0;rw[g3]at j3;rw[g4]at j4;rw[aM]at bX;have Y:o6 w1 w8:=p6.ext_of bT ao λb hb=>C9 (aj b hb);have cM:=bi w8 (b7 (aq.trans Y));have af:=ay0 bx ao cn;have ah:=J7 (P:=prog) (t:=95) cm (b7 Y) aK0;have ag:=J7 (P:=prog) (t:=95) aP (b7 Y) aK0;simp only[eH,simprocAttr,j0,h9,cM,cG];refine A8 (λa7=>?_) (λa7=>?_);rotate_left
  .have dm:b+1=k:=by simp at a7;omega
   have br:∀B,B<k->r.getD B false=ao9 g k (l.take (q+1)) A B:=λB hB=>by
    rw[aD B hB];split
    .rfl
    .rw[aQ];have:decide (B+1<k)=false:=by simp;omega
     rw[this];simp
   simp only[eH,simprocAttr,bX];refine V1 (q+1,X.set A r) ⟨V,bC.chain ao λ_ _ h=>h,⟨by rw[eq3,W.len],λs hs=>?_⟩,λA' B cf hB=>?_⟩
   .rcases es0 hs with h|h
    .exact W.row s h
    .rw[h];exact ap
   .unfold mAt;simp only[];rw[bl1 A' (by rw[W.len];exact hA)];split
    .next a4=>subst a4;exact br B hB
    .next a4=>
     have S:=ay A' B cf hB;unfold mAt at S;rw[S,aQ];simp[a4]
  have bB:b+1<k:=by
   have:=ej3 a7;omega
  have bu:b<k:=om
  have ae:=bR.inS (k:=b) om;have j:=ldB bR (b7 Y) (k:=b) om;have J:=ac.inS (k:=b) om;have o:=ldB ac (b7 Y) (k:=b) om;have a9:∀r:List Bool,∀h:b<r.length,r[b]=r.getD b false:=λr h=>by simp[List.getD,h]
  rw[a9]at j o;have cw:(g.getD C []).getD b false=mAt g C b:=rfl;have bd:(g.getD A []).getD b false=mAt g A b:=rfl;rw[cw]at j;rw[bd]at o;have cE:(X.set A r)[A]?=some r:=eq8 (by rw[W.len];exact hA);have a1:=V.row A uA r aU cE;have bN:=aD b bu;rw[if_neg (Nat.lt_irrefl _)]at bN;have m:=aQ A b;have co:decide (1<=b)=true:=by simpa using bt
  have cp:decide (b+1<k)=true:=by simpa using bB
  rw[co,cp]at m;simp only[decide_true,eq4]at m;have F:(mAt g C b&&(decide (A=b) || !mAt g A b))=false->∀B,B<k->r.getD B false=if B<b+1 then ao9 g k (l.take (q+1)) A B else ao9 g k (l.take q) A B:=λhf B hB=>by
   rw[aD B hB];by_cases S:B<b
   .rw[if_pos S,if_pos om]
   .rw[if_neg S];by_cases h2:B=b
    .subst h2;rw[if_pos om,m,hf,Bool.or_false]
    .rw[if_neg om]
  have v:(mAt g C b&&(decide (A=b) || !mAt g A b))=true->∀B,B<k->(r.set b true).getD B false=if B<b+1 then ao9 g k (l.take (q+1)) A B else ao9 g k (l.take q) A B:=λhf B hB=>by
   rw[bl1 B om];by_cases S:b=B
   .subst S;rw[if_pos rfl,if_pos om,m,hf,ev6]
   .rw[if_neg S,aD B hB];by_cases h2:B<b
    .rw[if_pos h2,if_pos om]
    .rw[if_neg h2,if_neg om]
  have aV:IntKind.i64.wrap ((b:Int)+1)=((b+1:Nat):Int):=J2 b;obtain⟨w9,s1,cy,bD,_⟩:=F9 (P:=prog) (t:=4) a1 rfl (k:=b) om (x:=.bool true) (y:=true) rfl rfl ct bz;have bf:=V.write aU bD cy;rw[List.set_set]at bf;have aZ:p6 (N9 vo us) w7 w9:=ao.chain bD λz _ h=>.inr ⟨uA,el0 aU,h⟩;have aY:=bI9 (P:=prog) (t:=95) V.outer aU aK0;have aX:=V.outer.inS (k:=A) om;have T:=a1.inS (k:=b) om;have aO:decide ((A:Int)=(b:Int))=decide (A=b):=by rw[eo4];omega
  generalize mAt g C b=vC at j F v m;generalize mAt g A b=vA at o F v m;generalize dn:decide (A=b)=dd at aO F v m;rcases ej1 vC with S|S<;>subst S;rotate_left
  .simp only[i4,n9,A0,simprocAttr,j3,j7,h9,af,K,ah,ae,j,aV];refine nx4 (b+1,r) ⟨V,ao,ap,F rfl⟩
  rcases ej1 dd with h2|h2<;>subst h2
  .simp only[i4,n9,A0,simprocAttr,j3,j4,j7,j8,h9,af,K,ah,ae,j,aO,aV,aX,aY,T,s1];refine nx4 (b+1,r.set b true) ⟨bf,aZ,by rw[eq3];exact ap,v rfl⟩
  rcases ej1 vA with h3|h3<;>subst h3
  .simp only[i4,n9,A0,simprocAttr,j3,j7,j8,h9,af,K,ah,ae,j,aO,aV,aA,ag,J,o];refine nx4 (b+1,r) ⟨V,ao,ap,F rfl⟩
  .simp only[i4,n9,A0,simprocAttr,j3,j4,j7,j8,h9,af,K,ah,ae,j,aO,aV,aA,ag,J,o,aX,aY,T,s1];refine nx4 (b+1,r.set b true) ⟨bf,aZ,by rw[eq3];exact ap,v rfl⟩
 rintro rfl;rw[ek4]at ay;have bo:=aC.ro (b7 aJ);have aH:=aq.trans aJ;have bq:=ha.mono (b7 aH);clear aC aR aF aT ab N bM bH;generalize hG:(λa:Nat=>((List.range k).filter λb=>ao9 g k l a b).map λ(b:Nat)=>(wy.place (a:Int),wy.place (b:Int)))=G at hF;have bm:∀A,G A=((List.range k).filter λb=>ao9 g k l A b).map λ(b:Nat)=>(wy.place (A:Int),wy.place (b:Int)):=λA=>by rw[<-hG]
 have cg:∀A,(G A).length<=k:=λA=>by
  rw[bm,ek2];exact ej7 (el8 _ _) dP
 have bJ:∀A,A<=k->((List.range A).flatMap G).length<=202*202:=λA hA=>ej7 (P9 G k _ λx _=>cg x) (by rw[en9];exact Nat.mul_le_mul om om);simp only[eH,simprocAttr,g4,bn,bG];refine A9 [0,4,85] (σ:=Nat×Value) (λs f Z=>f 86 = .int .i64 s.1/\f 10=s.2/\s.1<=k/\B0 (i5 w6) Z 208 s.2 ((List.range s.1).flatMap G)/\o6 w6 Z) (λs=>k-s.1) (0,.slice none 0 0) ?_ ?_
 .exact⟨rfl,rfl,ek1 _,by simpa using B0.nil _ _ _,p6.refl _⟩
 rintro⟨A,u⟩ f9 w9 ⟨m0,m4,bY,_⟩ ⟨aN,a2,bl,ho,bh⟩;simp only at aN a2 bl ho;rw[g0]at m0;rw[g4]at m4;simp only[eH,simprocAttr,aN,bY];refine A3 (λhA=>?_) ?_;rotate_left
 .rintro rfl;simp only[i4,simprocAttr,a2];exact o8 results146 ⟨by rw[hF];exact ho.backN aH,aH.trans bh⟩
 obtain⟨a8,az⟩:=W.get hA;obtain⟨uA,ac,aP⟩:=R.row bo a8;have ag:=J7 (P:=prog) (t:=95) aP (b7 bh) aK0;have J:=bo.inS (k:=A) (by rw[W.len];exact hA);have ci:=ac.isS;have bF:=ac.vlen;rw[az]at bF;have cA:=bJ A bl;have ak:(List.range (A+1)).flatMap G=(List.range A).flatMap G++G A:=by rw[eu5,et0];simp
 generalize(List.range A).flatMap G=pre at ho cA ak;simp only[i4,n9,A0,simprocAttr,aN,m4,J,ag,ci,bF];refine A9 [0,4,11,85,86,93] (σ:=Nat×Value) (λs f Z=>f 94 = .int .i64 s.1/\f 10=s.2/\s.1<=k/\B0 (i5 w6) Z 208 s.2 (pre++((List.range s.1).filter λb=>ao9 g k l A b).map λ(b:Nat)=>(wy.place (A:Int),wy.place (b:Int)))/\o6 w6 Z) (λs=>k-s.1) (0,u) ?_ ?_
 .exact⟨rfl,a2,ek1 _,by simpa using ho,bh⟩
 rintro⟨b,u2⟩ dj cU ⟨n0,n4,bZ,cR,b0,cS,_⟩ ⟨ax,ad,a6,L,H⟩;simp only at ax ad a6 L;rw[m0]at n0;rw[m4]at n4;rw[bY]at cR;rw[aN]at b0;have c2:(((List.range b).filter λb=>ao9 g k l A b).map λ(b:Nat)=>(wy.place (A:Int),wy.place (b:Int))).length<=b:=by
  rw[ek2];exact ej7 (el8 _ _) dP
 simp only[eH,simprocAttr,ax,cS];refine A3 (λhb=>?_) ?_;rotate_left
 .rintro rfl;simp only[eH,simprocAttr,b0];refine nx2 (A+1,u2) ⟨ad,om,?_,H⟩;simp only[];rw[ak,bm];exact L
 have T:=ac.inS (k:=b) om;have U:=ldB ac (b7 H) (k:=b) om;have a9:∀r:List Bool,∀h:b<r.length,r[b]=r.getD b false:=λr h=>by simp[List.getD,h]
 rw[a9]at U;have bd:(X.getD A []).getD b false=ao9 g k l A b:=ay A b hA hb;rw[bd]at U;have aE:(((List.range (b+1)).filter λb=>ao9 g k l A b).map λ(b:Nat)=>(wy.place (A:Int),wy.place (b:Int)))=(((List.range b).filter λb=>ao9 g k l A b).map λ(b:Nat)=>(wy.place (A:Int),wy.place (b:Int)))++if ao9 g k l A b then[(wy.place (A:Int),wy.place (b:Int))]else[]:=by
  rw[eu5,ep9,em6]
  congr 1
  cases h:ao9 g k l A b<;>simp[h]
 have aB:=J7 (P:=prog) (t:=95) aP (b7 H) aK0;generalize ao9 g k l A b=D at U aE;rcases ej1 D with S|S<;>subst S;rotate_left
 .simp only[i4,n9,A0,simprocAttr,ax,n4,bZ,J,aB,T,U];refine nx2 (b+1,u2) ⟨ad,om,?_,H⟩;simp only[];rw[aE,if_neg dP,em5];exact L
 .simp only[i4,n9,A0,simprocAttr,ax,ad,n0,n4,bZ,J,aB,T,U];refine B6 (ak9 a wy p i x y (A:Int) cU (bq.mono (b7 H)) E.toWyOk om) (λcV al=>?_);simp only[i4,simprocAttr,n0];refine B6 (ak9 a wy p i x y (b:Int) cV (bq.mono (b7 (H.trans al))) E.toWyOk om) (λdI aI=>?_);have aK:=H.trans (al.trans aI);obtain⟨p1,u',dJ,p2,p3,p4,p5⟩:=push (e:=206) dV6 rfl (L.ext (al.trans aI)) (x:=.agg #[.int .i64 (wy.place (A:Int)),.int .i64 (wy.place (b:Int))]) (y:=(wy.place (A:Int),wy.place (b:Int))) (dC9 _ _) (by rw[ej2];omega) (by rw[ej2];omega) (b7 aK);simp only[eH,simprocAttr,ax,bZ0,p1,p2];refine nx4 (b+1,u') ⟨?_,(L.ext (al.trans aI)).ext2 aK p4⟩;simp only[];rw[aE,if_pos rfl,<-el9];exact p3
def ck2{α:Type}(P:α->Bool):∀(l:List α) (i:Nat) {f:α},l.find? P=some f->∃k,l[k]?=some f/\ag3 P i l=((i+k:Nat):Int)
 | [],i,f,h=>by simp at h
 | x::l,i,f,h=>by
  rw[List.find?_cons]at h;rw[ag3];split at h
  .next a=>exact⟨0,by simpa using h,by rw[if_pos a];rfl⟩
  .next a=>
   obtain⟨k,b,c⟩:=ck2 P l (i+1) h;exact⟨k+1,by simpa using b,by rw[if_neg (by simp[a]),c];congr 1;omega⟩
structure aF7 (p:Pg) (s:St) (k:Nat):Prop where
 lt:k<p.procs.length
 idx:ai5 p.procs s.proc=(k:Int)
 fn:dI1 p s.proc=p.procs[k]
 len:p.procs[k].params.length=s.args.length
 ref:∀j (h1:j<s.args.length) (h2:j<p.procs[k].params.length),p.procs[k].params[j].ref=s.args[j].ref
def cN1{α β:Type}(g:α×β->Bool):∀(l:List α) (m:List β),(l.zip m).all g=true->∀j (a:j<l.length) (b:j<m.length),g (l[j],m[j])=true
 | x::l,y::m,h,0,_,_=>by
  simp only[List.zip_cons_cons,List.all_cons,el3]at h;exact h.1
 | x::l,y::m,h,j+1,a,b=>by
  simp only[List.zip_cons_cons,List.all_cons,el3]at h;exact cN1 g l m h.2 j (by simpa using a) (by simpa using b)
def aa5{p:Pg}{s:St}(h:an3 p s=true):∃k,aF7 p s k:=by
 unfold an3 at h;rw[el3]at h;cases hf:p.procs.find? λf=>decide (f.name=s.proc)with
 | none=>rw[hf]at h;simp at h
 | some f=>
  rw[hf]at h;obtain⟨k,c,d⟩:=ck2 _ p.procs 0 hf;obtain⟨e,rfl⟩:=ej5.1 c;have b:=h.2;unfold bJ3 at b;simp only[el3,em7]at b;have a:ai5 p.procs s.proc=(k:Int):=by unfold ai5;rw[d];simp
  refine⟨k,e,a,?_,b.1,λj c d=>?_⟩
  .unfold dI1;rw[a,el5,List.getD,ej0 e];rfl
  .have:=cN1 _ _ _ b.2 j d c;simpa using this
def aF7.pr{p:Pg}{s:St}{k:Nat}(h:aF7 p s k):(d9 p).pr s.proc=(k:Int):=by
 unfold Sh.pr;rw[N7];exact h.idx
def bk7{α:Type}{l:List (List α)}{k:Nat}(a:k<l.length):I8 l (k:Int)=l[k]:=by
 unfold I8;rw[el5,List.getD,ej0 a];rfl
def cW5{α:Type}{l:List (List α)}{k:Nat}(a:k<l.length):l[k]?=some (I8 l (k:Int)):=by
 rw[bk7 a,ej0 a]
def bT0{P:Program}{c:Code}{Q:Exit->Fr->World->Prop}{f:Fr}{w:World}(a:List Nat)(J:Fr->World->Prop)
  (k:CW P c (ae9 J Q) f w) (l:∀b d,(∀i∈a,b i=f i)->J b d->Q .normal b d) (j:a.all (λi=>!(wrC c).contains i)=true:=by decide +kernel):CW P c Q f w:=by
 refine cZ1 c (ae9 J Q) _ f w (λe b d m h=>?_) k;have g:∀i∈a,b i=f i:=λi n=>m i λhm=>by
  have:=eq9.1 j i n;simp[hm]at this
 cases e
 case normal=>exact l b d g h
 all_goals exact h
structure cN3 (p:Pg) (b:Bk):Prop where
 s:b.s=d9 p
 outs:P7 p.procs.length 25 b.outs
 ins:P7 p.procs.length 25 b.ins
def P7.row{n B:Nat}{X:Rws}(h:P7 n B X){k:Nat}(d:k<n):X[k]?=some (I8 X (k:Int))/\(I8 X (k:Int)).Pairwise (λa b=>ltS a b=true)/\(I8 X (k:Int)).length<=B:=by
 have c:k<X.length:=by rw[h.len];exact d
 have e:=bk7 c;exact⟨cW5 c,by rw[e];exact h.rise _ (ek0 c),by rw[e];exact h.few _ (ek0 c)⟩
def aq9{h:Hp}{w:World}{v:Value}{l:List B3}(k:B0 h w 9 v l)(g:l.length<=1000000000):
  y5 prog 133 #[v] w λu i=>(B0 h i 9 u (F2 l)/\p6 (A5 v) w i/\E7 w v u):=by
 refine z6 [v] func133 rfl ?_;simp only[eH,simprocAttr];refine y4 (aq8 k g) ?_;rintro _ m ⟨e,a⟩;simp only[i4,simprocAttr];refine y4 (bp3 e (by rw[aa0];exact g)) ?_;rintro u n ⟨f,c,d⟩;simp only[i4,simprocAttr];refine o8 results133 ⟨f,a.chain c λ_ _ h=>h,λb j=>?_⟩;rcases d b j with h|h
 .exact .inl h
 .exact .inr (ej7 a.size h)
def At.book{p:Pg}{h:Hp}{a:Addr}{b:Bk}(t:At h a b)(u:b.s=d9 p):∃(c:Addr) (g i j k l:Value),At h c (d9 p)/\R h g b.wp/\R h i b.defs/\R h j b.uses/\R h k b.ins/\R h l b.outs /\
  (∀w,E2 h (i5 w)->(Instr.loadAt 132 (.pointer (some a))).run prog w = .ok (.pointer (some c)) w/\(Instr.loadAt 133 (.pointer (some (a.add 1)))).run prog w = .ok g w/\(Instr.loadAt 134 (.pointer (some (a.add 2)))).run prog w = .ok i w/\(Instr.loadAt 134 (.pointer (some (a.add 3)))).run prog w = .ok j w/\(Instr.loadAt 134 (.pointer (some (a.add 4)))).run prog w = .ok k w/\(Instr.loadAt 134 (.pointer (some (a.add 5)))).run prog w = .ok l w) /\
  (∀(S:World->Prop) (y:World),S y->(∀w,S w->E2 h (i5 w))->(∀K f d w,F8 prog S (Instr.loadAt 132 (.pointer (some a))) K f d w=K (C5 f d (.pointer (some c))) w)/\(∀K f d w,F8 prog S (Instr.loadAt 133 (.pointer (some (a.add 1)))) K f d w=K (C5 f d g) w)/\(∀K f d w,F8 prog S (Instr.loadAt 134 (.pointer (some (a.add 2)))) K f d w=K (C5 f d i) w)/\(∀K f d w,F8 prog S (Instr.loadAt 134 (.pointer (some (a.add 3)))) K f d w=K (C5 f d j) w)/\(∀K f d w,F8 prog S (Instr.loadAt 134 (.pointer (some (a.add 4)))) K f d w=K (C5 f d k) w)/\(∀K f d w,F8 prog S (Instr.loadAt 134 (.pointer (some (a.add 5)))) K f d w=K (C5 f d l) w)):=by
 obtain⟨z,g,i,j,k,l,m,n,o,q,r,s,v,x⟩:=t.bk;obtain⟨c,rfl,has⟩:=Ptr.at_ m;have e:At h c (d9 p):=by rw[<-u];exact has
 exact⟨c,g,i,j,k,l,e,n,o,q,r,s,v,x⟩
def bV4{P:Program}{h:Hp}{v u:Value}{t:TypeId}{k:Nat}(c:N2 h (G8 v k)=some u)(e:J4 P t=false)(S:World->Prop)(w0:World)(b:S w0)(hS:∀w,S w->E2 h (i5 w)):
  ∀K f d w,F8 P S (Instr.loadAt t (.pointer (some (G8 v k)))) K f d w=K (C5 f d u) w:=λK f d w=>B7 b λg a=>J7 c (hS g a) e
def bb6(a:Addr)(b:Bk)(p:Pg)(n:B3)(w:World)(i:At (i5 w) a b)(j:b.s=d9 p)(d:O6 p=true):
  y5 prog 198 #[.pointer (some a),t8 n] w λu m=>(u = .bool (R6 p n)/\m=w):=by
 refine z6 [.pointer (some a),t8 n] func198 rfl ?_;obtain⟨o,_,_,_,_,_,has,_,_,_,_,_,f,_⟩:=i.book j;obtain⟨_,_,_,_,_,_,c,_,_⟩:=has.sh;rw[N7]at c;obtain⟨l,q,e,k,g,_⟩:=c.pg;have h:R6 p n=(decide (n=ofA #[36,105,110])||p.globals.contains n):=rfl;rcases ej1 (decide (n=ofA #[36,105,110]))with h1|h1
 .simp only[eH,simprocAttr,h1];exact o8 results198 ⟨by rw[h,h1];rfl,rfl⟩
 .simp only[eH,simprocAttr,h1,f w (n7 _),g w (n7 _)];refine F6 (S7 l p.globals n w e (by have:=(Z1 d).1;omega)) ?_;simp only[i4,simprocAttr];exact o8 results198 ⟨by rw[h,h1];rfl,rfl⟩
def az5(a:Addr)(b:Bk)(p:Pg)(v:Value)(s:St)(w:World)(o:At (i5 w) a b)(q:b.s=d9 p)(j:O6 p=true)(hv:SV (i5 w) v s):
  y5 prog 177 #[.pointer (some a),v] w λu e=>(u = .int .i64 ((d9 p).pr s.proc)/\o6 w e):=by
 refine z6 [.pointer (some a),v] func177 rfl ?_;obtain⟨x,_,_,_,_,_,has,_,_,_,_,_,_,m⟩:=o.book q;obtain⟨c,f,i,k,g⟩:=ax0 hv (n7 _);obtain⟨_,_,_,_,_,_,_,_,_,_,n⟩:=g.st;have d:=k.trans (o6.drew f);have r:=n (λe=>o6 f.drew e) f.drew (p6.refl _) λe h=>b7 ((o6.drew f).trans h);have t:=m (λe=>o6 f.drew e) f.drew (p6.refl _) λe h=>b7 (d.trans h);simp only[eH,simprocAttr,i];refine C0 (λe=>o6 f.drew e) 6 (A7 [0,1,2,3,4,5]) ?_;simp only[D7,A7,i4,n9,simprocAttr,r,t];refine B6 (aC5 x (d9 p) s.proc f.drew (has.mono (b7 d)) (by rw[N7];have:=(Z1 j).2;omega)) (λy l=>?_);simp only[i4,simprocAttr];exact o8 results177 ⟨rfl,d.trans l⟩
def cY6:=zJ (zJ (zJ (zJ (zJ (zJ @dZ1 @dP1) (zJ @dN0 (zJ @dP0 @dY9))) (zJ (zJ @dO8 @dO9) (zJ @dZ0 (zJ @dW4 @dW3)))) (zJ (zJ (zJ @dW5 @dW6) (zJ @dN5 (zJ @dN4 @dN6))) (zJ (zJ @dN7 @dR1) (zJ @dR0 (zJ @dZ4 @ed0))))) (zJ (zJ (zJ (zJ @eh0 @dO5) (zJ @eb9 (zJ @dO6 @ec0))) (zJ (zJ @ef5 @eh4) (zJ @dy8 (zJ @dU2 @dy9)))) (zJ (zJ (zJ @dU3 @dU4) (zJ @dK1 (zJ @dE0 @dD9))) (zJ (zJ @dU1 @ef7) (zJ @ef6 (zJ @dK0 @ef9)))))) (zJ (zJ (zJ (zJ (zJ @ef8 @eb7) (zJ @ds9 (zJ @dT1 @ef0))) (zJ (zJ @dy5 @dO4) (zJ @dJ6 (zJ @ee4 @ef1)))) (zJ (zJ (zJ @dO3 @eb6) (zJ @dT4 (zJ @eb5 @ev.eq_1))) (zJ (zJ @ev.eq_2 @ev.eq_3) (zJ @ev.eq_4 (zJ @C5.eq_1 @C5.eq_2))))) (zJ (zJ (zJ (zJ @eg9 @ef2) (zJ @eg0 (zJ @eg1 @List.map_cons.{0,0}))) (zJ (zJ @List.map_nil.{0,0} @List.map_toArray.{0,0}) (zJ @ch4.eq_1 (zJ @ch4.eq_2 @dI2)))) (zJ (zJ (zJ @ea6 @ea7) (zJ @df7.eq_1 (zJ @List.getElem?_toArray.{0} @List.getElem?_cons_zero.{0}))) (zJ (zJ @List.getElem?_cons_succ.{0} @Option.bind_some.{0,0}) (zJ @Option.some.injEq.{0} (zJ @ep8 @Bool.true_eq_false))))))
def aS6{α β:Type}(P:α->Bool)(g:α->β)(l:List α){k:Nat}(a:k<l.length):((l.take (k+1)).filter P).map g=((l.take k).filter P).map g++if P l[k]then[g l[k]]else[]:=by
 rw[ej8 a,ep9,em6]
 congr 1
 cases h:P l[k]<;>simp[h]
def as9{α:Type}(P:α->Bool)(l:List α){k:Nat}(a:k<l.length):(l.take (k+1)).filter P=(l.take k).filter P++if P l[k]then[l[k]]else[]:=by
 rw[ej8 a,ep9]
 congr 1
 cases h:P l[k]<;>simp[h]
def pushS{h:Hp}{w:World}{v:Value}{l:List B3}(c:B0 h w 9 v l)(x:B3)(d:l.length<=100000000)(hw:E2 h (i5 w)){e:TypeId}:
  (Instr.buildSlice 22 1 #[(0,t8 x)]).run prog w = .ok (.slice (some ⟨w.heap.size,0,none⟩) 1 1) (w.alloc (.cells #[t8 x] 9)) /\
  ∃a b,(Builtin.append_ #[22,22] e #[v,.slice (some ⟨w.heap.size,0,none⟩) 1 1]).run prog (w.alloc (.cells #[t8 x] 9)) = .ok a b/\B0 h b 9 a (l++[x])/\p6 (A5 v) w b/\E7 w v a:=by
 have:=push (P:=prog) (e:=e) aC9 rfl c (x:=t8 x) (y:=x) rfl om om hw;exact this
def cw6(a:Addr)(b:Bk)(p:Pg)(v:Value)(s:St)(w:World)(ha:At (i5 w) a b)(V:cN3 p b)(an:O6 p=true)(hv:SV (i5 w) v s)(bE:V7 s<=1000000)(az:an3 p s=true):
  y5 prog 197 #[.pointer (some a),v] w λu l=>(B0 (i5 w) l 9 u (ax1 p b.outs s)/\o6 w l):=by
 refine z6 [.pointer (some a),v] func197 rfl ?_;obtain⟨k,y⟩:=aa5 az;have bo:=y.lt;obtain⟨sh,_,_,_,_,vo,has,_,_,_,_,aG,ba,bc⟩:=ha.book V.s;obtain⟨_,_,_,_,_,_,aF,_,_⟩:=has.sh;rw[N7]at aF;obtain⟨vg,vp,bD,aH,bH,be⟩:=aF.pg;obtain⟨O,N,ay⟩:=V.outs.row y.lt;have bC:=V2 an y.lt;have hF:ax1 p b.outs s=(if s.name=e0 then[]else[s.name])++(((s.args.zip p.procs[k].params).filter λx=>x.1.ref&&(I8 b.outs (k:Int)).contains x.2.name).map λx=>x.1.name)++(I8 b.outs (k:Int)).filter (R6 p):=by
  unfold ax1;rw[y.fn,y.idx]
 have a3:=y.pr;generalize I8 b.outs (k:Int)=g at O N ay hF;obtain⟨uo,Q,ax⟩:=R.row aG O;have ab:=aG.inS (k:=k) (ej5.1 O).1;have aa:=aH.at_ (i:=k) (x:=p.procs[k]) (ej0 y.lt);have aC:=aH.inS (k:=k) y.lt;have a7:A6.sz Pr=5:=rfl;rw[a7]at aa;obtain⟨bP,_,_,_,af,_,_,_,bI,bf⟩:=aa.pr;obtain⟨c,H,a0,G,au⟩:=ax0 hv (n7 _);obtain⟨_,va,_,_,_,X,_,_,_,aM,_⟩:=au.st;obtain⟨sv,W,aN,_⟩:=au.st_v;have l1:=aM H (n7 _);have bp:=y.len;generalize ak:(if s.name=e0 then[]else[s.name])=L1 at hF;have bl:L1.length<=1:=by rw[<-ak];split<;>simp
 simp only[cY6,n9,simprocAttr,a0,l1];refine bT0 [0,3] (λf' l=>B0 (i5 H) l 9 (f' 5) L1/\o6 H l) ?_ ?_
 .rcases ej1 (decide (s.name=ofA #[]))with I|I
  .simp only[eH,simprocAttr,I];refine⟨?_,p6.refl _⟩;rw[<-ak,if_pos (ej3 I)];exact B0.nil _ _ _
  .obtain⟨p1,u2,w2,p2,p3,p4,p5⟩:=pushS (e:=22) (B0.nil (i5 H) H 9) s.name dP (n7 _);simp only[eH,simprocAttr,I,l1,p1,p2];refine⟨?_,(B0.nil (α:=B3) (i5 H) H 9).ext2 (p6.refl _) p4⟩;rw[<-ak,if_neg (ej6 I)];exact p3
 rintro f w2 hk ⟨ho,T⟩;simp only[em0,B8,simprocAttr]at hk;obtain⟨aq,e3,_⟩:=hk;have l2:=aN w2 (b7 T);have aI:=G.trans T;generalize h5:f 5=u2 at ho;simp only[i4,simprocAttr,aq,e3,l2];refine B6 (az5 a b p sv s w2 (ha.mono (b7 aI)) V.s an (W.mono (b7 T))) (λw3 ap=>?_);rw[a3];have bF:(s.args.zip p.procs[k].params).length=s.args.length:=by rw[List.length_zip];omega
 have aJ:=T.trans ap;simp only[eH,simprocAttr,e3,aM w3 (b7 (T.trans ap)),X.isS,X.vlen];refine A9 [0,3,6,23,24] (σ:=Nat×Value) (λo f l=>f 25 = .int .i64 o.1/\f 5=o.2/\o.1<=s.args.length/\B0 (i5 H) l 9 o.2 (L1++(((s.args.zip p.procs[k].params).take o.1).filter λx=>x.1.ref&&g.contains x.2.name).map λx=>x.1.name)/\o6 H l) (λo=>s.args.length-o.1) (0,u2) ?_ ?_
 .exact⟨rfl,h5,ek1 _,by simpa using ho.ext ap,aJ⟩
 rintro⟨j,u⟩ f2 w4 ⟨g0,g3,g6,ar,aX,_⟩ ⟨A,J,a2,M,C⟩;simp only at A J a2 M;rw[aq]at g0;have S:=G.trans C;have aw:((((s.args.zip p.procs[k].params).take j).filter λx=>x.1.ref&&g.contains x.2.name).map λx=>x.1.name).length<=j:=by
  rw[ek2];refine ej7 (el8 _ _) ?_;rw[ek3];omega
 simp only[eH,simprocAttr,A,aX];refine A3 (λE=>?_) ?_
 .have ad:j<p.procs[k].params.length:=om
  have aE:j<(s.args.zip p.procs[k].params).length:=om
  have aB:=X.inS E;obtain⟨sv,W,am⟩:=H1 (P:=prog) (t:=125) X (b7 C) (ej0 E) aU8 aV0 aO4 ad0;rw[ad0]at am;have m:=aS6 (λx:Ar×Pa=>x.1.ref&&g.contains x.2.name) (λx=>x.1.name) _ aE;rw[List.getElem_zip]at m;simp only at m;have B:=af.at_ (i:=j) (x:=p.procs[k].params[j]) (ej0 ad);have al:=af.inS (k:=j) ad;have a6:A6.sz Pa=2:=rfl;rw[a6]at B;obtain⟨aL,aj⟩:=B.pa;generalize p.procs[k].params[j]=pa at B aL aj m;generalize s.args[j]=ag at W m;obtain⟨d,wz,r,Z,ae,aK,av⟩:=bm7 (W.mono (b7 C)) (n7 _);obtain⟨_,bb,bd⟩:=av.ar;have ah:=S.trans (aK.trans (o6.drew r));have t1:=bd (λl=>o6 r.drew l) r.drew (p6.refl _) λl h=>b7 ((o6.drew r).trans h);have hh:∀l,o6 r.drew l->E2 (i5 w) (i5 l):=λl h=>b7 (ah.trans h);have t2:=bc (λl=>o6 r.drew l) r.drew (p6.refl _) hh;have t3:=be (λl=>o6 r.drew l) r.drew (p6.refl _) hh;have t4:=bf (λl=>o6 r.drew l) r.drew (p6.refl _) hh;have t5:=aj (λl=>o6 r.drew l) r.drew (p6.refl _) hh;have t6:=bV4 (P:=prog) (t:=22) ax X2 (λl=>o6 r.drew l) r.drew (p6.refl _) hh;have D:=aK.trans (o6.drew r);have ao:=M.ext D;have L:(ag.ref&&g.contains pa.name)=false->∀Y,o6 r.drew Y->∃o:Nat×Value,s.args.length-o.1<s.args.length-j/\(Value.int .i64 (IntKind.i64.wrap ((j:Int)+1)) = .int .i64 o.1/\u=o.2/\o.1<=s.args.length/\B0 (i5 H) Y 9 o.2 (L1++(((s.args.zip p.procs[k].params).take o.1).filter λx=>x.1.ref&&g.contains x.2.name).map λx=>x.1.name)/\o6 H Y):=λhf Y z=>by
   refine nx4 (j+1,u) ⟨?_,C.trans (D.trans z)⟩;simp only[];rw[m,hf,if_neg dP,em5];exact ao.ext z
  rcases ej1 ag.ref with I|I;rotate_left
  .rw[I]at t1;simp only[i4,n9,A0,simprocAttr,A,ar,aB,am,Z,ae];refine C0 (λl=>o6 r.drew l) 26 (A7 [0,1,2,3,4,5,6,7,8,9,10,11,12,13,14,15,16,17,18,19,20,21,22,23,24,25]) ?_;simp only[D7,A7,i4,n9,simprocAttr,t1,A,J];exact L (by rw[I];rfl) _ (p6.refl _)
  .rw[I]at t1;simp only[i4,n9,A0,simprocAttr,A,ar,aB,am,Z,ae];refine C0 (λl=>o6 r.drew l) 26 (A7 [0,1,2,3,4,5,6,7,8,9,10,11,12,13,14,15,16,17,18,19,20,21,22,23,24,25]) ?_;simp only[D7,A7,i4,n9,A0,simprocAttr,t1,t2,t3,t4,t5,t6,ab,aC,al,g0,g6];refine F6 (al7 uo g pa.name r.drew (A6.mono (b7 ah) Q) om N) ?_;have a1:(ag.ref&&g.contains pa.name)=g.contains pa.name:=by rw[I];rfl
   rw[a1]at m L;rcases ej1 (g.contains pa.name)with h2|h2;rotate_left
   .simp only[eH,simprocAttr,h2,A,J];exact L h2 _ (p6.refl _)
   .obtain⟨p1,u6,Y,p2,p3,p4,p5⟩:=pushS (e:=22) ao ag.name (by rw[ej2];omega) (b7 (C.trans D));simp only[eH,simprocAttr,h2,A,J,bb r.drew (b7 (o6.drew r)),p1,p2];refine nx4 (j+1,u6) ⟨?_,ao.ext2 (C.trans D) p4⟩;simp only[];rw[m,h2,if_pos rfl,<-el9];exact p3
 rintro rfl;rw[show(s.args.zip p.procs[k].params).take s.args.length=s.args.zip p.procs[k].params from en6 om]at M;rw[show(s.args.zip p.procs[k].params).take s.args.length=s.args.zip p.procs[k].params from en6 om]at aw;generalize aY:L1++((s.args.zip p.procs[k].params).filter λx=>x.1.ref&&g.contains x.2.name).map (λx=>x.1.name)=L2 at M hF;have bm:L2.length<=9:=by rw[<-aY,ej2];omega
 have a4:=J7 (P:=prog) (t:=22) ax (b7 S) X2;simp only[i4,n9,A0,simprocAttr,g0,g6,ba w4 (b7 S),ab,a4,Q.isS,Q.vlen];refine A9 [0,70,71] (σ:=Nat×Value) (λo f l=>f 72 = .int .i64 o.1/\f 5=o.2/\o.1<=g.length/\B0 (i5 H) l 9 o.2 (L2++(g.take o.1).filter (R6 p))/\o6 H l) (λo=>g.length-o.1) (0,u) ?_ ?_
 .exact⟨rfl,J,ek1 _,by simpa using M,C⟩
 rintro⟨q,u6⟩ f6 Y ⟨j0,a8,a9,_⟩ ⟨K,U,a5,F,z⟩;simp only at K U a5 F;rw[g0]at j0;simp only[eH,simprocAttr,K,a9];refine A3 (λE=>?_) ?_;rotate_left
 .rintro rfl;rw[ek4]at F;simp only[i4,simprocAttr,U];exact o8 results197 ⟨by rw[hF];exact F.back G,G.trans z⟩
 have aD:=Q.inS E;have ac:(Instr.loadAt 9 (.pointer (some (G8 uo q)))).run prog Y = .ok (t8 g[q]) Y:=O4 (P:=prog) (α:=B3) (xs:=g) Q (b7 (G.trans z)) (ej0 E) ao5;have m:=as9 (R6 p) g E;have bA:((g.take q).filter (R6 p)).length<=25:=ej7 (el8 _ _) (by rw[ek3];omega);generalize g[q]=n at ac m;simp only[i4,n9,A0,simprocAttr,K,j0,a8,aD,ac];refine F6 (bb6 a b p n Y (ha.mono (b7 (G.trans z))) V.s an) ?_;rcases ej1 (R6 p n)with h2|h2;rotate_left
 .simp only[eH,simprocAttr,h2,K];refine nx2 (q+1,u6) ⟨U,om,?_,z⟩;simp only[];rw[m,h2,if_neg dP,em5];exact F
 .obtain⟨p1,u7,w7,p2,p3,p4,p5⟩:=pushS (e:=22) F n (by rw[ej2];omega) (b7 z);simp only[eH,simprocAttr,h2,K,U,p1,p2];refine nx4 (q+1,u7) ⟨?_,F.ext2 z p4⟩;simp only[];rw[m,h2,if_pos rfl,<-el9];exact p3
def cJ7(x:B3)(w:World){h:Hp}(hw:E2 h (i5 w)):∃v a,(Instr.buildSlice 22 1 #[(0,t8 x)]).run prog w = .ok v a/\B0 h a 9 v [x]/\o6 w a/\(∀b,A5 v b->w.heap.size<=b):=
 lit (P:=prog) (w:=w) (h:=h) (α:=B3) (xs:=[t8 x]) (ys:=[x]) (parts:=#[(0,t8 x)]) (n:=1) aC9 rfl (aI0.2 rfl) (by simp[t8,Value.cells]) rfl rfl dP dP hw
def dS3(x y:B3)(w:World){h:Hp}(hw:E2 h (i5 w)):∃v a,(Instr.buildSlice 22 2 #[(0,t8 x),(1,t8 y)]).run prog w = .ok v a/\B0 h a 9 v [x,y]/\o6 w a/\(∀b,A5 v b->w.heap.size<=b):=
 lit (P:=prog) (w:=w) (h:=h) (α:=B3) (xs:=[t8 x,t8 y]) (ys:=[x,y]) (parts:=#[(0,t8 x),(1,t8 y)]) (n:=2) aC9 rfl (aI0.2 rfl) (by simp[t8,Value.cells]) rfl rfl dP dP hw
def dd9(a:Addr)(b:Bk)(p:Pg)(v:Value)(s:St)(w:World)(D:At (i5 w) a b)(x:cN3 p b)(r:O6 p=true)(hv:SV (i5 w) v s)(z:V7 s<=1000000)(j:s.kind=4->an3 p s=true):
  y5 prog 134 #[.pointer (some a),v] w λu C=>(B0 (i5 w) C 9 u (al4 p b.outs s)/\o6 w C):=by
 refine z6 [.pointer (some a),v] func134 rfl ?_;obtain⟨c,g,f,d,i⟩:=ax0 hv (n7 _);obtain⟨_,H,_,_,_,E,_,_,_,B,_⟩:=i.st;obtain⟨G,y,l,_⟩:=i.st_v;have k:=B g (n7 _);have F:=l g (n7 _);have e:al4 p b.outs s=if s.kind=1 then[s.name]else if s.kind=2 then[s.name,ah4]else if s.kind=9 then[V8]else if s.kind=4 then ax1 p b.outs s else[]:=rfl;rcases ej1 (decide (s.kind=1))with k1|k1
 .rw[if_pos (ej3 k1)]at e;obtain⟨u,q,m,n,o,_⟩:=cJ7 s.name g (b7 d);simp only[eH,simprocAttr,f,k,k1,m];exact o8 results134 ⟨by rw[e];exact n,d.trans o⟩
 rw[if_neg (ej6 k1)]at e;rcases ej1 (decide (s.kind=2))with k2|k2
 .rw[if_pos (ej3 k2)]at e;obtain⟨u,q,m,n,o,_⟩:=dS3 s.name ah4 g (b7 d);have h:(Instr.buildSlice 22 2 #[(0,t8 s.name),(1,.string ⟨#[36,105,110]⟩)]).run prog g = .ok u q:=m;simp only[eH,simprocAttr,f,k,k1,k2,h];exact o8 results134 ⟨by rw[e];exact n,d.trans o⟩
 rw[if_neg (ej6 k2)]at e;rcases ej1 (decide (s.kind=9))with k9|k9
 .rw[if_pos (ej3 k9)]at e;obtain⟨u,q,m,n,o,_⟩:=cJ7 V8 g (b7 d);have h:(Instr.buildSlice 22 1 #[(0,.string ⟨#[36,114,101,116]⟩)]).run prog g = .ok u q:=m;simp only[eH,simprocAttr,f,k,k1,k2,k9,h];exact o8 results134 ⟨by rw[e];exact n,d.trans o⟩
 rw[if_neg (ej6 k9)]at e;rcases ej1 (decide (s.kind=4))with k4|k4
 .rw[if_pos (ej3 k4)]at e;simp only[eH,simprocAttr,f,k,k1,k2,k9,k4,F];refine y4 (cw6 a b p G s g (D.mono (b7 d)) x r y z (j (ej3 k4))) ?_;rintro u q ⟨t,A⟩;simp only[i4,simprocAttr];exact o8 results134 ⟨by rw[e];exact t.back d,d.trans A⟩
 rw[if_neg (ej6 k4)]at e;simp only[eH,simprocAttr,f,k,k1,k2,k9,k4];exact o8 results134 ⟨by rw[e];exact B0.nil _ _ _,d⟩
def dq7(a:Addr)(b:Bk)(p:Pg)(v:Value)(s:St)(w:World)(ha:At (i5 w) a b)(X:cN3 p b)(aU:O6 p=true)(hv:SV (i5 w) v s)(aZ:V7 s<=1000000)(ak:s.kind=4->an3 p s=true):
  y5 prog 137 #[.pointer (some a),v] w λu g=>(B0 (i5 w) g 9 u (aw7 p b.ins s)/\o6 w g):=by
 refine z6 [.pointer (some a),v] func137 rfl ?_;obtain⟨sh,_,_,_,vi,_,has,_,_,_,ar,_,bB,bb⟩:=ha.book X.s;obtain⟨c,D,aM,A,af⟩:=ax0 hv (n7 _);obtain⟨_,va,_,_,_,I,_,_,ah,ay,bE⟩:=af.st;obtain⟨sv,z,bj,az⟩:=af.st_v;obtain⟨ux,aY,a2,_⟩:=ah.ex_v;have a4:=a2 D (n7 _);have av:=aZ;rw[X3]at av;have bv:=ak5 s.x;have bs:=az3 s.args;have bt:=Q7 s.args;simp only[eH,simprocAttr,aM,a4];refine y4 (az6 ux s.x D aY om) ?_;rintro u2 w2 ⟨T,J⟩;have l2:=ay w2 (b7 J);generalize q:ak4 s.x++(if s.kind=2 then[ah4]else[])=P1;have bg:P1.length<=aa3 s.x+1:=by
  rw[<-q,ej2];have:(if s.kind=2 then[ah4]else[]).length<=1:=by split<;>simp
  omega
 have hF:aw7 p b.ins s=P1++if s.kind=4 then s.args.flatMap N0++I8 b.ins (ai5 p.procs s.proc)else[]:=by rw[<-q];rfl
 simp only[cY6,n9,simprocAttr,l2];refine bT0 [0,3] (λf' g=>B0 (i5 D) g 9 (f' 5) P1/\o6 D g) ?_ ?_
 .rcases ej1 (decide (s.kind=2))with k2|k2
  .rw[if_pos (ej3 k2)]at q;obtain⟨p1,u3,w3,p2,p3,p4,p5⟩:=pushS (e:=22) T ah4 om (b7 J);have a7:(Instr.buildSlice 22 1 #[(0,.string ⟨#[36,105,110]⟩)]).run prog w2=_:=p1;simp only[i4,simprocAttr,k2,a7,p2];exact⟨by rw[<-q];exact p3,T.ext2 J p4⟩
  .rw[if_neg (ej6 k2)]at q;simp only[i4,simprocAttr,k2];exact⟨by rw[<-q];simpa using T,J⟩
 rintro f w3 L ⟨U,Z⟩;simp only[em0,B8,simprocAttr]at L;obtain⟨aF,e3,_⟩:=L;generalize h5:f 5=u3 at U;have l3:=ay w3 (b7 Z);rcases ej1 (decide (s.kind=4))with k4|k4;rotate_left
 .rw[if_neg (ej6 k4),em5]at hF;simp only[eH,simprocAttr,e3,l3,k4,h5];exact o8 results137 ⟨by rw[hF];exact U.back A,A.trans Z⟩
 rw[if_pos (ej3 k4)]at hF;obtain⟨k,S⟩:=aa5 (ak (ej3 k4));have aL:=I.isS;have aV:=I.vlen;simp only[eH,simprocAttr,e3,l3,k4,aL,aV];refine E8 [0,3,22,23] (σ:=Nat×Value) (λs' f g=>f 24 = .int .i64 s'.1/\f 5=s'.2/\s'.1<=s.args.length/\B0 (i5 D) g 9 s'.2 (P1++(s.args.take s'.1).flatMap N0)/\o6 D g) (λs'=>s.args.length-s'.1) (0,u3) ?_ ?_
 .simp only[B8,simprocAttr];exact⟨tt,h5,ek1 _,by simpa using U,Z⟩
 rintro⟨j,u⟩ f2 r L ⟨E,F,aS,n,aa⟩;simp only at E F aS n;simp only[em0,B8,simprocAttr]at L;obtain⟨g0,g3,aI,aJ,_⟩:=L;rw[aF]at g0;rw[e3]at g3;have M:((s.args.take j).flatMap N0).length<=aj1 s.args:=ej7 (Q7 _) (aD6 _ _);simp only[eH,simprocAttr,E,aJ];refine A8 (λhc=>?_) (λhc=>?_)
 .have G:j<s.args.length:=by simpa using hc
  have aR:=I.inS G;obtain⟨sv,z,an⟩:=H1 (P:=prog) (t:=125) I (b7 aa) (ej0 G) aU8 aV0 aO4 ad0;rw[ad0]at an;have H:=J9 N0 s.args G;have au:=aY7 (ek0 G);have i:((s.args.take (j+1)).flatMap N0).length<=aj1 s.args:=ej7 (Q7 _) (aD6 _ _);rw[H]at i;generalize s.args[j]=y at z H au i;have K:N0 y=(if y.ref then[y.name]else[])++ak4 y.x:=rfl;rw[K]at i;simp only[ej2]at i;generalize(s.args.take j).flatMap N0=pre at n M i H;obtain⟨d,wz,w5,ae,ap,m,ag⟩:=cM5 (w:=r) (A5 u) z (λb Q=>n.lt Q);obtain⟨uy,aq,O,a1,_⟩:=L8.ar z ag;obtain⟨a3,_⟩:=L8.ex_v aq O;have V:=n.ext m;have N:=aa.trans m;have l5:=a1 w5 (B4 _ _);have bu:(if y.ref=true then[y.name]else[]).length<=1:=by split<;>simp
  simp only[cY6,n9,A0,simprocAttr,E,aI,aR,an,ae,ap,l5];refine bT0 [0,3,7,22,23,24] (λf' g=>B0 (i5 D) g 9 (f' 5) (P1++pre++if y.ref then[y.name]else[])/\p6 (A5 u) w5 g) ?_ ?_
  .rcases ej1 y.ref with h1|h1
   .obtain⟨p1,u6,w6,p2,p3,p4,p5⟩:=pushS (e:=22) V y.name (by simp only[ej2];omega) (b7 N);rw[h1]at l5;simp only[eH,simprocAttr,h1,l5,F,p1,p2];exact⟨p3,p4⟩
   .simp only[i4,simprocAttr,h1,F];exact⟨by simpa using V,p6.refl _⟩
  rintro f6 w6 L ⟨W,ao⟩;simp only[em0,B8,simprocAttr]at L;obtain⟨j0,j3,j7,bw,bx,ax,_⟩:=L;rw[E]at ax;generalize aK:f6 5=u6 at W;have B:o6 D w6:=p6.ext_of N ao λb Q=>C9 (V.free Q);have a5:=a3 w6 (F3 ao);simp only[eH,simprocAttr,aK,j7,a5];refine y4 (az6 uy y.x w6 (aq.mono (b7 B)) (by unfold av6 at au;omega)) ?_;rintro u8 w8 ⟨aW,C⟩;obtain⟨u9,w9,c1,c2,c3,c4⟩:=ae6 (P:=prog) (e:=22) aC9 (W.ext C) (aW.rw_ (b7 C)) (n7 _) (by simp only[ej2];omega) (by simp only[ej2];omega) (b7 (B.trans C));have aw:o6 D w9:=p6.ext_of (B.trans C) c3 λb Q=>C9 ((W.ext C).free Q);simp only[eH,simprocAttr,c1,ax];refine⟨(j+1,u9),om,el1 _ (J2 j om),tt,om,?_,aw⟩;simp only[];rw[H,K];simp only[el9]at c2 ⊢;exact c2
 have aP:j=s.args.length:=by simp at hc;omega
 subst aP;rw[ek4]at n M;obtain⟨x,Y,aj⟩:=X.ins.row S.lt;rw[S.idx]at hF;have aT:=S.pr;generalize I8 b.ins (k:Int)=bD at x Y aj hF;obtain⟨ui,aX,aO⟩:=R.row ar x;have am:=ar.inS (k:=k) (ej5.1 x).1;have l:=aa.trans (o6.drew r);have o:=A.trans l;have aQ:∀g,o6 r.drew g->E2 (i5 D) (i5 g):=λg h=>b7 (l.trans h);have al:∀g,o6 r.drew g->E2 (i5 w) (i5 g):=λg h=>b7 (o.trans h);have t1:=bb (λg=>o6 r.drew g) r.drew (p6.refl _) al;have t2:=az (λg=>o6 r.drew g) r.drew (p6.refl _) aQ;have t3:=bV4 (P:=prog) (t:=22) aO X2 (λg=>o6 r.drew g) r.drew (p6.refl _) al;simp only[i4,simprocAttr];refine C0 (λg=>o6 r.drew g) 10 (A7 [0,1,2,3,4,5,6,7,8,9]) ?_;simp only[D7,A7,i4,n9,simprocAttr,g0,g3,F,t1,t2];refine B6 (az5 a b p sv s r.drew (ha.mono (b7 o)) X.s aU (z.mono (b7 l))) (λw5 m=>⟨m,?_⟩);rw[aT];obtain⟨u9,w9,c1,c2,c3,c4⟩:=ae6 (P:=prog) (e:=22) aC9 (n.ext ((o6.drew r).trans m)) aX (b7 (o.trans m)) (by simp only[ej2];omega) (by simp only[ej2];omega) (b7 (l.trans m));simp only[D7,i4,n9,A0,simprocAttr,am,t3,c1];refine o8 results137 ?_;simp only[B8,simprocAttr];refine⟨?_,A.trans (p6.ext_of (l.trans m) c3 λb Q=>C9 (n.free Q))⟩;rw[hF,<-el9];exact c2.back A
instance:p8 Pa:=⟨Pa.cells,λ_ _ _=>er4⟩
def SV.N{α:Type}[A6 α][p8 α]{h:Hp}{v:Value}{x:α}(hv:SV h v x):v = .agg (p8.cells x).toArray:=by
 obtain⟨b,rfl,a⟩:=hv;rw[(p8.iff_ _ _ _).1 a]
def S6{P:Program}{op:BinOp}{t:TypeId}{a b:Array Value}:D1 P op t (.agg a) (.agg b)=none:=by
 cases op<;>rfl
def cg8(v:Value)(l:List Pa)(x:Pa)(w:World)(hv:R (i5 w) v l)(U:l.length<=1000000000):
  y5 prog 219 #[v,.agg x.cells.toArray] w λu e=>(u = .int .i64 (ag3 (λy=>decide (x=y)) 0 l)/\o6 w e):=by
 refine z6 [v,.agg x.cells.toArray] func219 rfl ?_;have N:=hv.isS;have Q:=hv.vlen;obtain⟨c,L,C,p,B⟩:=cG9 (SV.ofN (i5 w) x) (n7 _);obtain⟨W,E,_,H⟩:=B.pa_v;obtain rfl:=E.N;have r:(Instr.box 72 (.agg x.cells.toArray)).run prog w = .ok (.pointer (some c)) L:=C;simp only[eH,simprocAttr,r,N,Q];refine A9 [0,3,6,7] (σ:=Nat) (λk f e=>f 8 = .int .i64 k/\k<=l.length/\(∀j (m:j<l.length),j<k->decide (x=l[j])=false)/\o6 L e) (λk=>l.length-k) 0 ?_ ?_
 .exact⟨rfl,ek1 _,λj _ h=>om,p6.refl _⟩
 rintro k f q ⟨e0,I,T,M,_⟩ ⟨A,P,o,z⟩;simp only[eH,simprocAttr,A,M];refine A3 (λn=>?_) ?_;rotate_left
 .rintro rfl;simp only[i4,simprocAttr];refine o8 results219 ?_;simp only[B8,simprocAttr];exact⟨by rw[aI4 _ _ _ (bB0 λj m=>o j m m)],p.trans z⟩
 have s:=hv.inS n;have d:=z.trans (o6.drew q);have J:=H (λe=>o6 q.drew e) q.drew (p6.refl _) λe h=>b7 (d.trans h);have g:=hv.at_ (i:=k) (x:=l[k]) (ej0 n);have F:A6.sz Pa=2:=rfl;rw[F]at g;obtain⟨V,D,_,G⟩:=g.pa_v;obtain rfl:=D.N;have K:=G (λe=>o6 q.drew e) q.drew (p6.refl _) λe h=>b7 (p.trans (d.trans h));have t:=λS a b=>dH9 S a b x l[k];rcases ej1 (decide (x=l[k]))with hq|hq
 .simp only[i4,simprocAttr,A];refine C0 (λe=>o6 q.drew e) 5 (A7 [0,1,2,3,4]) ?_;simp only[D7,A7,i4,n9,A0,simprocAttr,e0,I,s,J,K];simp only[i4,simprocAttr,S6,p8.cells,t,hq];refine o8 results219 ?_;simp only[B8,simprocAttr];exact⟨by rw[aB0 _ l 0 k n (λj m=>o j om m) hq,en0],p.trans d⟩
 .simp only[i4,simprocAttr,A];refine C0 (λe=>o6 q.drew e) 5 (A7 [0,1,2,3,4]) ?_;simp only[D7,A7,i4,n9,A0,simprocAttr,e0,I,s,J,K];simp only[eH,simprocAttr,S6,p8.cells,t,hq,A];refine V1 (k+1) ⟨λj m O=>?_,d⟩;rcases en2 j k with h|h
  .exact o j m h
  .obtain rfl:j=k:=om
   exact hq
def cm1{α:Type}(P:α->Bool):∀(l:List α) (i:Nat),decide (0<=ag3 P i l)=l.any P
 | [],i=>by simp[ag3]
 | x::l,i=>by
  rw[ag3,List.any_cons];split
  .next h=>simp[h]
  .next h=>rw[cm1 P l (i+1)];simp[h]
theorem da8{α:Type}[DecidableEq α](x:α):∀l:List α,(l.any λy=>decide (x=y))=l.contains x
 | []=>rfl
 | y::l=>by
  rw[List.any_cons,da8 x l,List.contains_cons];rfl
def cT0(v:Value)(l:List Pa)(x:Pa)(w:World)(hv:R (i5 w) v l)(j:l.length<=1000000000):
  y5 prog 157 #[v,.agg x.cells.toArray] w λu k=>(u = .bool (l.contains x)/\o6 w k):=by
 refine z6 [v,.agg x.cells.toArray] func157 rfl ?_;obtain⟨c,i,e,b,d⟩:=cG9 (SV.ofN (i5 w) x) (n7 _);obtain⟨m,f,h,_⟩:=d.pa_v;obtain rfl:=f.N;have a:(Instr.box 72 (.agg x.cells.toArray)).run prog w = .ok (.pointer (some c)) i:=e;simp only[eH,simprocAttr,a,h i (n7 _)];refine B6 (cg8 v l x i (A6.mono (b7 b) hv) j) (λn g=>?_);simp only[eH,simprocAttr];refine o8 results157 ?_;simp only[B8,simprocAttr];exact⟨by rw[cm1,da8],b.trans g⟩
def aC0{α:Type}[A6 α]{h:Hp}{v:Value}{l:List (Ptr α)}(hv:R h v l){k:Nat}{p:Ptr α}(g:l[k]?=some p):∃a,N2 h (G8 v k)=some (.pointer (some a))/\At h a p.to:=by
 obtain⟨_,i,f,e⟩:=hv.get g;obtain⟨a,b,rfl,c,d⟩:=f;have:=e 0 _ rfl;rw[M8,show k*A6.sz (Ptr α)=k from es6 k]at this;exact⟨a,this,b,c,d⟩
def dc3(n:B3)(b:Bool):C1 prog 72 [(0,t8 n),(1,.bool b)]=some (.agg (Pa.cells ⟨n,b⟩).toArray):=by
 simp[C1,do5,K7,Instr.fill,Value.cells,t8,Pa.cells]
def bp5{α β:Type}(P:α->Bool)(g:α->List β):∀l:List α,(l.filter P).flatMap g=l.flatMap λx=>if P x then g x else[]
 | []=>rfl
 | x::l=>by
  rw[List.filter_cons,es5,<-bp5 P g l];cases h:P x<;>simp
def aa1{p:Pg}{i:Nat}(a:i<p.procs.length):(L7 p)[i]?=some (F5 (d9 p) i):=by
 unfold L7;rw[em8,er5 a];rfl
def dk8(a:Addr)(b:Bk)(p:Pg)(i:Nat)(w:World)(ha:At (i5 w) a b)(aM:cN3 p b)(W:b.ways=L7 p)(M:P7 (d9 p).l.length 100 b.defs)(hr:E6 p)(hw:C4 p<=1000000)(hi:i<p.procs.length):
  y5 prog 135 #[.pointer (some a),.int .i64 i] w λu g=>(B0 (i5 w) g 9 u (ai1 p b.defs i)/\o6 w g):=by
 refine z6 [.pointer (some a),.int .i64 i] func135 rfl ?_;obtain⟨x,pt⟩:=K9 hr.may hw i hi;have au:=U4 pt;generalize x+B2 p.procs[i].body=y at pt au;have bw:=J8 hr.may;have bA:=pt.ok.len;obtain⟨sh,vw,vd,_,_,_,has,aT,aR,_,_,_,aV,aW⟩:=ha.book aM.s;obtain⟨_,_,_,_,_,_,aN,_,_⟩:=has.sh;rw[N7]at aN;obtain⟨vg,vp,bG,aS,bn,bO⟩:=aN.pg;obtain⟨aw,ba,aC⟩:=aC0 (hv:=aT) (k:=i) (p:=⟨F5 (d9 p) i⟩) (by unfold Bk.wp;rw[W,em8,aa1 hi];rfl);simp only at aC;have aH:=aT.inS (k:=i) (by unfold Bk.wp;rw[W];unfold L7;simpa using hi);have lb:=aV w (n7 _);have lp:=bn w (n7 _);have C:=aS.inS hi;obtain⟨sv,T,o⟩:=H1 (P:=prog) (t:=68) aS (n7 _) (ej0 hi) aD3 aD5 aw4 U0;rw[U0]at o;have bf:=V2 hr.may hi;have U:∀n,af1 p i n=(R6 p n||p.procs[i].params.contains ⟨n,true⟩):=λn=>by
  unfold af1;rw[List.getD,ej0 hi];rfl
 obtain⟨c,wz,G,a7,aP,v,aA⟩:=aY3 T (n7 _);obtain⟨bu,_,_,_,ag,_,_,_,bo,_⟩:=aA.pr;have bm:=aV G (b7 v);generalize p.procs[i].params=ae at U ag bf;simp only[i4,n9,A0,simprocAttr,lb,lp,C,o,a7,aP,bm];refine y4 (aJ6 (i5 w) sh (d9 p) i x y G has (b7 v) pt.ok) ?_;rintro ui w3 ⟨V,bi⟩;have N:=pt.ids;have ap:((d9 p).of i).length<=200:=by
  have:=pt.ok.of_;rw[this,eo9,ek3];omega
 have hF:ai1 p b.defs i=((d9 p).of i).flatMap λit=>if(F5 (d9 p) i).lives it.s.id then(I8 b.defs (it.s.id-1)).filter (af1 p i)else[]:=by
  unfold ai1;rw[bp5]
 generalize a5:(λit:It=>if(F5 (d9 p) i).lives it.s.id then(I8 b.defs (it.s.id-1)).filter (af1 p i)else[])=H at hF;have hH:∀it,H it=if(F5 (d9 p) i).lives it.s.id then(I8 b.defs (it.s.id-1)).filter (af1 p i)else[]:=λit=>by rw[<-a5]
 have B:∀it∈(d9 p).of i,∃q:Nat,it.s.id-1=(q:Int)/\q<(d9 p).l.length:=λit ao=>by
  have:=N it ao;exact⟨(it.s.id-1).toNat,om,om⟩
 generalize(d9 p).of i=l at V hF N ap B;have a6:∀it∈l,(H it).length<=100:=λit ao=>by
  rw[hH];split
  .obtain⟨q,e,hq⟩:=B it ao;rw[e];exact ej7 (el8 _ _) (M.row hq).2.2
  .simp
 have a8:∀k,((l.take k).flatMap H).length<=20000:=λk=>by
  refine ej7 (P9 H 100 _ λx hx=>a6 x (er2 hx)) ?_;rw[ek3];have:min k l.length<=200:=om
  omega
 simp only[eH,simprocAttr,V.isS,V.vlen];refine A9 [0,1,6,27,28] (σ:=Nat×Value) (λs f g=>f 29 = .int .i64 s.1/\f 5=s.2/\s.1<=l.length/\B0 (i5 G) g 9 s.2 ((l.take s.1).flatMap H)/\o6 G g) (λs=>l.length-s.1) (0,.slice none 0 0) ?_ ?_
 .exact⟨rfl,rfl,ek1 _,by simpa using B0.nil _ _ _,bi⟩
 rintro⟨k,u⟩ f w4 ⟨e0,e1,e6,a2,a3,_⟩ ⟨K,h5,bc,ho,ad⟩;simp only at K h5 bc ho;have aO:=a8 k;simp only[eH,simprocAttr,K,a3];refine A3 (λZ=>?_) ?_;rotate_left
 .rintro rfl;rw[ek4]at ho;simp only[i4,simprocAttr,h5];exact o8 results135 ⟨by rw[hF];exact ho.back v,v.trans ad⟩
 clear C o aP T;have C:=V.inS Z;obtain⟨sv,T,o⟩:=H1 (P:=prog) (t:=156) V (b7 (v.trans ad)) (ej0 Z) af2 af4 ac9 L4;rw[L4]at o;have aa:=J9 H l Z;have af:=ek0 Z;have aG:=N _ af;obtain⟨q,aq,hq⟩:=B _ af;have E:=hH l[k];generalize l[k]=it at T aa aG aq E;generalize(l.take k).flatMap H=pre at ho aO aa;obtain⟨d,bV,I,ay,aQ,bj,az⟩:=ax9 (T.mono (b7 (v.trans ad))) (n7 _);obtain⟨aB,_,_⟩:=az.it;obtain⟨_,_,_,_,_,_,_,_,_,_,aX⟩:=aB.st;have am:=bj.trans (o6.drew I);have ak:=ad.trans am;have ah:=v.trans ak;have aE:∀g,o6 I.drew g->E2 (i5 w) (i5 g):=λg h=>b7 (ah.trans h);have t1:=aX (λg=>o6 I.drew g) I.drew (p6.refl _) λg h=>b7 ((o6.drew I).trans h);have t3:=bV4 (P:=prog) (t:=160) ba aD2 (λg=>o6 I.drew g) I.drew (p6.refl _) aE;simp only[i4,n9,A0,simprocAttr,K,a2,C,o,ay,aQ];refine C0 (λg=>o6 I.drew g) 10 (A7 [0,1,2,3,4,5,6,7,8,9]) ?_;simp only[D7,A7,i4,n9,A0,simprocAttr,e0,e1,t1,aW (λg=>o6 I.drew g) I.drew (p6.refl _) aE,t3,aH];refine B6 (bn8 aw (F5 (d9 p) i) p i x y it.s.id I.drew (aC.mono (b7 ah)) au.toWyOk aG au.live) (λY av=>?_);have al:=ak.trans av;have aK:=(ho.ext am).ext av;generalize(F5 (d9 p) i).lives it.s.id=lv at E;rcases ej1 lv with aI|aI<;>subst aI;rotate_left
 .simp only[eH,simprocAttr,K,h5];refine nx4 (k+1,u) ⟨?_,al⟩;simp only[];rw[aa,E,if_neg dP,em5];exact aK
 rw[if_pos rfl,aq]at E;obtain⟨S,_,aD⟩:=M.row hq;generalize I8 b.defs (q:Int)=j at S aD E;obtain⟨ud,ac,a9⟩:=R.row aR S;have X:=al.trans (o6.drew Y);have aF:∀g,o6 Y.drew g->E2 (i5 w) (i5 g):=λg h=>b7 ((v.trans X).trans h);have t4:=aX (λg=>o6 Y.drew g) Y.drew (p6.refl _) λg h=>b7 ((o6.drew I).trans (av.trans ((o6.drew Y).trans h)));have t6:=bV4 (P:=prog) (t:=22) a9 X2 (λg=>o6 Y.drew g) Y.drew (p6.refl _) aF;have bh:IntKind.i64.wrap (it.s.id-1)=(q:Int):=by rw[aq];exact M7 _ om
 have aL:=aK.ext (o6.drew Y);simp only[eH,simprocAttr];refine C0 (λg=>o6 Y.drew g) 12 (A7 [0,1,2,3,4,5,6,7,8,9,10,11]) ?_;simp only[D7,A7,i4,n9,A0,simprocAttr,e0,t4,aW (λg=>o6 Y.drew g) Y.drew (p6.refl _) aF,t6,bh,aR.inS (ej5.1 S).1,ac.isS,ac.vlen];refine A9 [0,1,6,27,28,29,54,55] (σ:=Nat×Value) (λs f g=>f 56 = .int .i64 s.1/\f 5=s.2/\s.1<=j.length/\B0 (i5 G) g 9 s.2 (pre++(j.take s.1).filter (af1 p i))/\o6 G g) (λs=>j.length-s.1) (0,u) ?_ ?_
 .exact⟨rfl,h5,ek1 _,by simpa using aL,X⟩
 rintro⟨m,u7⟩ f7 w7 ⟨j0,j1,j6,bJ,bK,aU,bk,bl,_⟩ ⟨D,L,bd,A,z⟩;simp only at D L bd A;rw[e0]at j0;rw[e1]at j1;rw[e6]at j6;rw[K]at aU;have aj:=v.trans z;have bF:((j.take m).filter (af1 p i)).length<=100:=ej7 (el8 _ _) (by rw[ek3];omega);simp only[eH,simprocAttr,D,bl];refine A3 (λO=>?_) ?_;rotate_left
 .rintro rfl;rw[ek4]at A;simp only[eH,simprocAttr,aU];refine nx2 (k+1,u7) ⟨L,om,?_,z⟩;simp only[];rw[aa,E];exact A
 clear C o;have C:=ac.inS O;have o:=ldS ac (b7 aj) O;have ab:=as9 (af1 p i) j O;generalize j[m]=n at o ab;rw[U]at ab;have ar:(R6 p n||ae.contains ⟨n,true⟩)=false->∀J,o6 w7 J->∃F:Nat×Value,j.length-F.1<j.length-m/\(Value.int .i64 (IntKind.i64.wrap ((m:Int)+1)) = .int .i64 F.1/\u7=F.2/\F.1<=j.length/\B0 (i5 G) J 9 F.2 (pre++(j.take F.1).filter (af1 p i))/\o6 G J):=λhf J r=>by
  refine nx4 (m+1,u7) ⟨?_,z.trans r⟩;simp only[];rw[ab,hf,if_neg dP,em5];exact A.ext r
 have Q:(R6 p n||ae.contains ⟨n,true⟩)=true->∀u8 J,B0 (i5 G) J 9 u8 (pre++(j.take m).filter (af1 p i)++[n])->o6 G J->∃F:Nat×Value,j.length-F.1<j.length-m/\(Value.int .i64 (IntKind.i64.wrap ((m:Int)+1)) = .int .i64 F.1/\u8=F.2/\F.1<=j.length/\B0 (i5 G) J 9 F.2 (pre++(j.take F.1).filter (af1 p i))/\o6 G J):=λhf u8 J be r=>by
  refine nx4 (m+1,u8) ⟨?_,r⟩;simp only[];rw[ab,hf,if_pos rfl,<-el9];exact be
 simp only[i4,n9,A0,simprocAttr,D,j0,bk,C,o];refine F6 (bb6 a b p n w7 (ha.mono (b7 aj)) aM.s hr.may) ?_;rcases ej1 (R6 p n)with h1|h1
 .obtain⟨p1,u8,J,p2,p3,p4,p5⟩:=pushS (e:=22) A n (by rw[ej2];omega) (b7 z);simp only[eH,simprocAttr,h1,D,L,p1,p2];exact Q (by rw[h1];rfl) _ _ p3 (A.ext2 z p4)
 .simp only[eH,simprocAttr,h1,j6,bo w7 (b7 z),dc3];refine B6 (cT0 bu ae ⟨n,true⟩ w7 (A6.mono (b7 z) ag) om) (λJ r=>?_);rcases ej1 (ae.contains ⟨n,true⟩)with h2|h2
  .obtain⟨p1,u9,w9,p2,p3,p4,p5⟩:=pushS (e:=22) (A.ext r) n (by rw[ej2];omega) (b7 (z.trans r));simp only[eH,simprocAttr,h2,D,L,p1,p2];exact Q (by rw[h1,h2];rfl) _ _ p3 ((A.ext r).ext2 (z.trans r) p4)
  .simp only[eH,simprocAttr,h2,D,L];exact ar (by rw[h1,h2];rfl) _ r
structure NJ (M:Nat) (nx:List (List Int)) (hit:Nat->Bool) (todo:List Int) (seen:List Bool) (x:Int->Prop):Prop where
 len:seen.length=M
 td:∀c∈todo,I9 M c=true/\W1 nx 0 c
 done:∀c:Int,I9 M c=true->(c=0\/z7 seen c=true)->c∈todo\/x c\/(hit c.toNat=false/\∀d∈E3 nx c,z7 seen d=true)
section
variable {M:Nat} {nx:List (List Int)} {hit:Nat->Bool} {todo:List Int} {seen:List Bool} {x:Int->Prop}
def NJ.start(b:I9 M 0=true):NJ M nx hit [0] (List.replicate M false) (λ_=>False):=by
 refine⟨dP,λc a=>?_,λc _ a=>?_⟩
 .simp at a;subst a;exact⟨b,.refl⟩
 .rcases a with rfl|a
  .exact .inl dP
  .rw[aH3]at a;cases a
def NJ.pop{c:Int}(h:NJ M nx hit (todo++[c]) seen (λ_=>False)):NJ M nx hit todo seen (λd=>d=c)/\I9 M c=true/\W1 nx 0 c:=by
 refine⟨⟨h.len,λd e=>h.td d (em4 _ e),λd e f=>?_⟩,h.td c dP⟩;rcases h.done d e f with a|a|a
 .rcases ej9.1 a with b|b
  .exact .inl b
  .exact .inr (.inl (by simpa using b))
 .exact a.elim
 .exact .inr (.inr a)
def NJ.close{c:Int}(h:NJ M nx hit todo seen (λd=>d=c))(e:hit c.toNat=false)(f:∀d∈E3 nx c,z7 seen d=true):NJ M nx hit todo seen (λ_=>False):=by
 refine⟨h.len,h.td,λd b g=>?_⟩;rcases h.done d b g with a|a|a
 .exact .inl a
 .subst a;exact .inr (.inr ⟨e,f⟩)
 .exact .inr (.inr a)
def NJ.push{d:Int}(h:NJ M nx hit todo seen x)(i:I9 M d=true)(hw:W1 nx 0 d):NJ M nx hit (todo++[d]) (seen.set d.toNat true) x:=by
 have j:I9 seen.length d=true:=by rw[h.len];exact i
 have b:∀e,z7 seen e=true->z7 (seen.set d.toNat true) e=true:=λe g=>by
  rw[M9 j];split
  .rfl
  .exact g
 refine⟨by rw[eq3,h.len],λc a=>?_,λc a k=>?_⟩
 .rcases ej9.1 a with a|a
  .exact h.td c a
  .simp at a;subst a;exact⟨i,hw⟩
 .by_cases hcd:c=d
  .subst hcd;exact .inl dP
  .rw[M9 j,if_neg hcd]at k;rcases h.done c a k with f|f|f
   .exact .inl (em4 _ f)
   .exact .inr (.inl f)
   .exact .inr (.inr ⟨f.1,λe g=>b e (f.2 e g)⟩)
def NJ.fin(h:NJ M nx hit [] seen (λ_=>False))(e:OkR nx)(l:nx.length=M)(j:I9 M 0=true):∀c,W1 nx 0 c->hit c.toNat=false:=by
 have f:∀c,W1 nx 0 c->I9 M c=true/\(c=0\/z7 seen c=true):=λc d=>by
  induction d with
  | refl=>exact⟨j,.inl rfl⟩
  | step _ g i=>
   refine⟨by rw[<-l];exact e _ _ g,.inr ?_⟩;rcases h.done _ i.1 i.2 with a|a|a
   .simp at a
   .exact a.elim
   .exact a.2 _ g
 intro c d;obtain⟨a,k⟩:=f c d;rcases h.done c a k with b|b|b
 .simp at b
 .exact b.elim
 .exact b.1
end
def bc8{α:Type}{l:List α}{n:Nat}(h:l.length=n+1):∃(t:List α) (c:α),l=t++[c]/\t.length=n/\l[n]?=some c/\l.take n=t:=by
 have a:n<l.length:=om
 refine⟨l.take n,l[n],?_,by rw[ek3];omega,ej0 a,rfl⟩;have:=ej8 a;rw[<-this,en6 om]
def cp7{α:Type}[A6 α]{h:Hp}{w:World}{T:TypeId}{v:Value}{xs:List α}(t:B0 h w T v xs){i:Nat}(n:i<=xs.length){sz:Nat}:
  B0 h w T (reS v 0 i sz) (xs.take i)/\∀b,A5 (reS v 0 i sz) b↔A5 v b:=by
 rcases t with⟨rfl,rfl⟩|⟨b,c,d,rfl,p,q,y,r,s,l⟩
 .have:i=0:=by simpa using n
  subst this;exact⟨.inl ⟨rfl,rfl⟩,λb=>er4⟩
 .have e:reS (.slice (some ⟨b,0,none⟩) xs.length c) 0 i sz = .slice (some ⟨b,0,none⟩) i c:=by
   simp only[reS,Nat.zero_mul,ep0,Nat.sub_zero,M8,ite_self]
  rw[e];have f:(xs.take i).length=i:=by rw[ek3];omega
  refine⟨.inr ⟨b,c,d,by rw[f],p,q,om,r,s,?_⟩,λu=>er4⟩;rw[f];have o:xs=xs.take i++xs.drop i:=(en4 i xs).symm;rw[o]at l;obtain⟨g,x,j,k,_⟩:=aa6 _ _ l;have a:=O2 k;rw[f]at a;rw[<-o]at j;have:d.toList.take (i*A6.sz α)=g:=by
   have m:(d.toList.take (xs.length*A6.sz α)).take (i*A6.sz α)=g:=by rw[j,<-a,es9]
   rw[List.take_take,eo8 (es3 _ n)]at m;exact m
  rw[this];exact k
def dj5{p:Pg}{i x y:Nat}{wy:Wy}(k:E6 p)(hw:C4 p<=1000000)(h:i<p.procs.length)(c:aw9 p i x y wy):OkR wy.net/\wy.net.length=wy.n.toNat/\∀r∈wy.net,r.length<=1000000:=by
 have g:=bE4 k hw h c;have l:=bg4 k hw h c;have j:wy.net.length=wy.n.toNat:=bj0 _ _;have e:wy.net=ax4 wy.n.toNat (wy.pairs wy.data):=rfl;refine⟨λa b f=>?_,j,λr d=>?_⟩
 .unfold E3 at f;split at f
  .next q=>
   have hm:wy.net.getD a.toNat []∈wy.net:=by
    rw[List.getD,ej0 om];exact ek0 _
   rw[e]at hm;obtain⟨t,m,rfl⟩:=(bj1 hm).2 b f;have:=(g t m).2;rw[j];exact B5.2 ⟨om,om⟩
  .simp at f
 .rw[e]at d;have n:=(bj1 d).1;have o:(wy.pairs wy.data).length=wy.data.length:=ek2 _;omega
def cV3(a:Addr)(b:Bk)(p:Pg)(i:Nat)(vn:Value)(name:B3)(w:World)(ha:At (i5 w) a b)(bE:cN3 p b)(av:b.ways=L7 p)(a1:P7 (d9 p).l.length 100 b.defs)(a6:P7 (d9 p).l.length 2000000 b.uses)
  (hr:E6 p) (hw:C4 p<=1000000) (hi:i<p.procs.length) (a7:R (i5 w) vn (F5 (d9 p) i).net) :
  y5 prog 202 #[.pointer (some a),.int .i64 i,vn,t8 name] w λu w'=>(u = .bool (aM7 (F5 (d9 p) i) (I8 b.outs i) b.uses b.defs name)/\o6 w w'):=by
 refine z6 [.pointer (some a),.int .i64 i,vn,t8 name] func202 rfl ?_;obtain⟨x,pt⟩:=K9 hr.may hw i hi;have ad:=U4 pt;generalize x+B2 p.procs[i].body=y at pt ad;have cW:=J8 hr.may;have c0:=pt.ok.len;have cZ:=pt.ok.le;have hn:=ad.n;obtain⟨Z,ap,bC⟩:=dj5 hr hw hi ad;obtain⟨sh,vw,vd,vu,_,vo,has,bR,bO,bQ,_,bP,a9,_⟩:=ha.book bE.s;obtain⟨aw,co,aA⟩:=aC0 (hv:=bR) (k:=i) (p:=⟨F5 (d9 p) i⟩) (by unfold Bk.wp;rw[av,em8,aa1 hi];rfl);simp only at aA;have bv:=bR.inS (k:=i) (by unfold Bk.wp;rw[av];unfold L7;simpa using hi);obtain⟨aq,aF,cB⟩:=bE.outs.row hi;generalize F5 (d9 p) i=o at ad hn Z ap bC a7 aA ⊢;have bB:o.n=((o.n.toNat:Nat):Int):=om
 have ce:2<=o.n.toNat:=om
 have aX:o.n.toNat<=202:=om
 have aG:=ad.toWyOk.place;have Q:=bU3 (outs:=I8 b.outs i) (uses:=b.uses) (defs:=b.defs) (name:=name) Z ap om;have aL:∀c:Nat,cz4 o (I8 b.outs i) b.uses name c=if(c:Int)=o.n-1 then(I8 b.outs i).contains name else !decide (c=0)&&(I8 b.uses (o.place c-1)).contains name:=λc=>rfl;have al:∀c:Nat,bh6 o b.uses b.defs name c=(decide ((c:Int)=o.n-1) || !decide (c=0)&&((I8 b.uses (o.place c-1)).contains name||(I8 b.defs (o.place c-1)).contains name)):=λc=>rfl;generalize cz4 o (I8 b.outs i) b.uses name=O at Q aL;generalize bh6 o b.uses b.defs name=F at Q al;generalize aM7 o (I8 b.outs i) b.uses b.defs name=ba at Q ⊢;obtain⟨uo,cK,cm⟩:=R.row bP aq;have bu:=bP.inS (ej5.1 aq).1;have aR:=aJ1 Z F;have aH:=ah1 o.net F;have ar:=ay9 o.net F;rw[ap]at aH;generalize aF2 o.net F=nx at Q aR aH ar;obtain⟨_,_,_,_,_,_,bZ,_⟩:=aA.wy;generalize hM:o.n.toNat=M at Q ap aH bB ce aX;have h0:I9 M 0=true:=B5.2 ⟨om,om⟩;obtain⟨ib,cr,bq⟩:=av3 (P:=prog) V4 aE0;have lb:=a9 w (n7 _);have lw:=bZ w (n7 _);have cz:=J7 (P:=prog) (t:=160) co (n7 _) aD2;obtain⟨vs,w1,bz,bG,bU,cY,_⟩:=mk (P:=prog) (w:=w) (h:=i5 w) (α:=Bool) bl6 V4 (y:=false) rfl (n:=M) om om (n7 _);rw[<-bB]at bz;obtain⟨vt,w2,cu,cC,bV,bo⟩:=lit (P:=prog) (w:=w1) (h:=i5 w) (α:=Int) (xs:=[.int .i64 0]) (ys:=[0]) (parts:=#[(0,.int .i64 0)]) (n:=1) W3 rfl (G9.2 rfl) (by simp[Value.cells]) rfl rfl dP dP (b7 bU);have aS:IntKind.i64.wrap (o.n-1)=((M-1:Nat):Int):=by rw[M7 _ om];omega
 simp only[i4,n9,A0,simprocAttr,lb,bv,cz,lw,bz,cu];refine A9 [0,1,2,3,9,10] (σ:=Value×List Int×List Bool) (λs f w'=>f 11=s.1/\B0 (i5 w) w' 3 s.1 s.2.1/\B0 (i5 w) w' 4 vs s.2.2/\(∀b,A5 s.1 b->¬A5 vs b)/\o6 w w'/\NJ M nx O s.2.1 s.2.2 (λ_=>False)/\s.2.1.length+s.2.2.count false<=203) (λs=>s.2.1.length+s.2.2.count false) (vt,[0],List.replicate M false) ?_ ?_
 .simp only[B8,simprocAttr];refine⟨tt,cC,bG.ext bV,λb hb aB=>?_,bU.trans bV,NJ.start h0,by simp only[em3];have:=List.count_le_length (a:=false) (l:=List.replicate M false);rw[eo7]at this;omega⟩;have:=bG.lt aB;have:=bo b hb;omega
 rintro⟨v,L,r⟩ f w3 ⟨e0,e1,e2,e3,e9,cb,_⟩ ⟨ay,ho,aa,bm,E,hJ,cf⟩;simp only at ay ho aa bm hJ cf;have aY:=ho.isS;have aD:=ho.vlen;have cX:=ho.vcap;have cF:=hJ.len;simp only[eH,simprocAttr,ay,aY,aD];refine A8 (λhc=>?_) (λhc=>?_);rotate_left
 .have cG:L=[]:=by
   have:¬(0:Int)<(L.length:Int):=by simpa using hc
   exact List.length_eq_zero_iff.1 om
  subst cG;have cA:=hJ.fin aR aH h0;have bL:ba=false:=by
   cases hrs:ba with
   | false=>rfl
   | true=>
    obtain⟨c,df,ch,ci⟩:=Q.1 hrs;have:=cA _ ci;rw[el5,ch]at this;cases this
  simp only[i4,simprocAttr];refine o8 results202 ?_;simp only[B8,simprocAttr];exact⟨by rw[bL],E⟩
 obtain⟨n,bA⟩:∃n,L.length=n+1:=⟨L.length-1,by have:(0:Int)<(L.length:Int):=by simpa using hc
                                              omega⟩
 obtain⟨td,c,rfl,dn,cH,cI⟩:=bc8 bA;obtain⟨bh,cl,aK⟩:=hJ.pop;obtain⟨de,dg⟩:=B5.1 cl;obtain⟨C,rfl⟩:∃C:Nat,c=(C:Int):=⟨c.toNat,om⟩;have cc:C<M:=om
 have bS:IntKind.i64.wrap (((n+1:Nat):Int)-1)=(n:Int):=by rw[M7 _ om];omega
 rw[bA]at aD;have br:=ho.inS (k:=n) om;have bw:(Instr.loadAt 3 (.pointer (some (G8 v n)))).run prog w3 = .ok (.int .i64 (C:Int)) w3:=E1 (P:=prog) ho cH K1;obtain⟨J,bk⟩:=cp7 (sz:=1) ho (i:=n) om;rw[cI]at J;have ag:decide ((n:Int)<=(vcap v:Int))=true:=by simp;omega
 have X:∀b,A5 (reS v 0 n 1) b->¬A5 vs b:=λb hb=>bm b ((bk b).1 hb);have b0:=bZ w3 (b7 E);have cO:=a9 w3 (b7 E);have cx:=J7 (P:=prog) (t:=22) cm (b7 E) X2;generalize bN:reS v 0 n 1=v2 at J X;have ao:td.length+r.count false<(td++[(C:Int)]).length+r.count false:=by rw[ej2];simp
 have aJ:td.length+r.count false<=203:=om
 have B:=aL C;have z:=al C;have S:=ar (C:Int);rw[el5]at S;have aj:F C=true->O C=false->NJ M nx O td r (λ_=>False):=λH h2=>bh.close h2 (by rw[S,if_pos H];simp);have aT:O C=true->ba=true:=λH=>Q.2 ⟨C,cc,H,aK⟩;have bg:decide ((C:Int)=((M-1:Nat):Int))=decide ((C:Int)=o.n-1):=by rw[eo4];omega
 rcases ej1 (decide ((C:Int)=((M-1:Nat):Int)))with hq|hq
 .have ac:(C:Int)=o.n-1:=by rw[bg]at hq;exact ej3 hq
  rw[if_pos ac]at B;rw[ep1 ac]at z;simp only[i4,n9,A0,M4,simprocAttr,ay,aY,aD,bS,br,bw,ag,bN,e9,b0,aS,hq,e0,e1,e3,cO,bu,cx];refine F6 (al7 uo _ name w3 (A6.mono (b7 E) cK) om aF) ?_;rw[<-B];rcases ej1 (O C)with H|H
  .simp only[i4,simprocAttr,H];refine o8 results202 ?_;simp only[B8,simprocAttr];exact⟨by rw[aT H],E⟩
  .simp only[i4,simprocAttr,H];exact⟨(v2,td,r),ao,tt,J,aa,X,E,aj z H,aJ⟩
 have ac:¬(C:Int)=o.n-1:=by rw[bg]at hq;exact ej6 hq
 rw[if_neg ac]at B;rw[er7 ac,ew4]at z;simp only[cY6,n9,A0,M4,simprocAttr,ay,aY,aD,bS,br,bw,ag,bN,e9,b0,aS];rw[cZ0];simp only[cY6,n9,simprocAttr,hq];refine bT0 [0,1,2,3,9,10,11,12] (λf' w'=>O C=false/\F C=false/\o6 w3 w') ?_ ?_
 .rcases Nat.eq_zero_or_pos C with aW|aW
  .subst aW;simp only[eH,simprocAttr];exact⟨by rw[B];simp,by rw[z];simp,p6.refl _⟩
  .have cp:decide ((0:Int)<(C:Int))=true:=by simpa using aW
   have bf:(!decide (C=0))=true:=by simp;omega
   obtain⟨q,bJ,bI⟩:∃q:Nat,o.place (C:Int)-1=(q:Int)/\q<(d9 p).l.length:=by
    refine⟨x+C-1,?_,om⟩;rw[aG,if_neg om,if_neg ac];omega
   have bT:IntKind.i64.wrap (o.place (C:Int)-1)=(q:Int):=by rw[bJ];exact M7 _ om
   rw[bJ,bf,eq4]at B z;obtain⟨V,ab,a5⟩:=a6.row bI;obtain⟨N,Y,a2⟩:=a1.row bI;generalize I8 b.uses (q:Int)=ur at V ab a5 B z;generalize I8 b.defs (q:Int)=dr at N Y a2 z;obtain⟨uu,cL,cn⟩:=R.row bQ V;obtain⟨ud,cJ,ck⟩:=R.row bO N;have bt:=bO.inS (ej5.1 N).1;simp only[i4,simprocAttr,cp,e9];refine B6 (ak9 aw o p i x y (C:Int) w3 (aA.mono (b7 E)) ad.toWyOk om) (λw4 K=>?_);have g:=E.trans K;have bY:=a9 w4 (b7 g);have cy:=J7 (P:=prog) (t:=22) cn (b7 g) X2;have cv:=J7 (P:=prog) (t:=22) ck (b7 g) X2;simp only[i4,n9,A0,simprocAttr,e0,e3,bY,bT,bQ.inS (ej5.1 V).1,cy];refine F6 (al7 uu ur name w4 (A6.mono (b7 g) cL) om ab) ?_;rcases ej1 (ur.contains name)with H|H
   .simp only[i4,simprocAttr,H];refine o8 results202 ?_;simp only[B8,simprocAttr];exact⟨by rw[aT (by rw[B];exact H)],g⟩
   rw[H]at B;rw[H,ew4]at z;simp only[i4,n9,A0,simprocAttr,H,e0,e3,bY,bT,bt,cv];refine F6 (al7 ud dr name w4 (A6.mono (b7 g) cJ) om Y) ?_;rcases ej1 (dr.contains name)with h2|h2
   .rw[h2]at z;simp only[i4,simprocAttr,h2];exact⟨(v2,td,r),ao,tt,J.ext K,aa.ext K,X,g,aj z B,aJ⟩
   .rw[h2]at z;simp only[i4,simprocAttr,h2];exact⟨B,z,K⟩
 rintro f4 w4 hk ⟨cq,ct,K⟩;simp only[em0,B8,simprocAttr]at hk;obtain⟨r0,r1,r2,r3,r9,b1,cP,cQ,_⟩:=hk;rw[e0]at r0;rw[e1]at r1;rw[e2]at r2;rw[e3]at r3;rw[e9]at r9;rw[cb]at b1;rw[ct,if_neg dP]at S;have bK:E3 o.net (C:Int)=o.net.getD C []:=by
  unfold E3;rw[if_pos ⟨om,om⟩,el5]
 rw[bK]at S;have a3:o.net[C]?=some (o.net.getD C []):=by rw[List.getD,ej0 om];rfl
 have cE:=bC _ (el0 a3);have bs:=a7.inS (ej5.1 a3).1;obtain⟨uR,au,cj⟩:=R.row a7 a3;have bM:∀d∈o.net.getD C [],I9 M d=true:=λd hd=>by
  have:=Z (C:Int) d (by rw[bK];exact hd);rw[ap]at this;exact this
 generalize o.net.getD C []=I at S cE au bM;have g:=E.trans K;have cw:=J7 (P:=prog) (t:=45) cj (b7 g) aj0;simp only[i4,n9,A0,simprocAttr,r2,cQ,bs,cw,au.isS,au.vlen];refine A9 [0,1,2,3,9,10,87,88] (σ:=(Nat×Value)×(List Int×List Bool)) (λs f w'=>f 89 = .int .i64 s.1.1/\f 11=s.1.2/\s.1.1<=I.length/\B0 (i5 w) w' 3 s.1.2 s.2.1/\B0 (i5 w) w' 4 vs s.2.2/\(∀b,A5 s.1.2 b->¬A5 vs b)/\o6 w w'/\NJ M nx O s.2.1 s.2.2 (λd=>d=(C:Int))/\(∀j (hj:j<I.length),j<s.1.1->z7 s.2.2 I[j]=true)/\s.2.1.length+s.2.2.count false=td.length+r.count false) (λs=>I.length-s.1.1) ((0,v2),(td,r)) ?_ ?_
 .simp only[B8,simprocAttr];exact⟨tt,cP,ek1 _,J.ext K,aa.ext K,X,g,bh,λj hj h=>om,tt⟩
 rintro⟨⟨j,v6⟩,bb,m⟩ f6 w6 ⟨j0,j1,j2,j3,j9,a8,bX,cM,_⟩ ⟨az,W,cs,aE,A,G,aI,af,T,ah⟩;simp only at az W cs aE A G af T ah;rw[r0]at j0;rw[r1]at j1;rw[r2]at j2;rw[r3]at j3;rw[r9]at j9;rw[b1]at a8;simp only[eH,simprocAttr,az,cM];refine A3 (λaC=>?_) ?_;rotate_left
 .rintro rfl;have cd:=af.close (by rw[el5];exact cq) (λd hd=>by
   rw[S]at hd;obtain⟨k,hk,rfl⟩:=ep2.1 hd;exact T k hk hk)
  simp only[i4,simprocAttr];exact⟨(v6,bb,m),so,W,aE,A,G,aI,cd,so⟩
 have aN:=au.inS aC;have an:=aI7 au (b7 aI) aC;have ak:=bM _ (ek0 aC);have bn:I[j]∈E3 nx (C:Int):=by rw[S];exact ek0 aC
 have U:∀sn:List Bool,(∀e,z7 m e=true->z7 sn e=true)->z7 sn I[j]=true->∀k (hk:k<I.length),k<j+1->z7 sn I[k]=true:=λsn hm hd k hk dl=>by
  rcases en2 k j with h|h
  .exact hm _ (T k hk h)
  .obtain rfl:k=j:=om
   exact hd
 generalize I[j]=d at an ak bn U;obtain⟨dh,di⟩:=B5.1 ak;obtain⟨D,rfl⟩:∃D:Nat,d=(D:Int):=⟨d.toNat,om⟩;have aQ:=af.len;have ae:D<m.length:=om
 have aM:=A.inS ae;have am:(Instr.loadAt 4 (.pointer (some (G8 vs D)))).run prog w6 = .ok (.bool m[D]) w6:=E1 (P:=prog) A (ej0 ae) ai9;have bj:z7 m (D:Int)=m[D]:=by
  rw[(N1 (by rw[aQ];exact ak)).2,el5,List.getD,ej0 ae];rfl
 have a0:=ad8 (l:=m) ae;generalize m[D]=sb at am bj a0;rcases ej1 sb with H|H<;>subst H
 .simp only[i4,n9,A0,simprocAttr,az,a8,bX,aN,an,aM,am];exact nx2 ((j+1,v6),(bb,m)) ⟨W,so,aE,A,G,aI,af,U m (λ_ h=>h) bj,ah⟩
 .have a0:=a0 rfl;obtain⟨w7,s1,aP,bx,_⟩:=F9 (P:=prog) (t:=4) A rfl ae (x:=.bool true) (y:=true) rfl rfl cr bq;have bD:=aE.mod bx G;have bW:=A.ext2 aI bx;obtain⟨p1,u8,w8,p2,p3,p4,p5⟩:=push (P:=prog) (t:=45) (e:=45) W3 rfl bD (x:=.int .i64 (D:Int)) (y:=(D:Int)) rfl om om (b7 bW);simp only[Value.cells]at p1 p2;have bH:=aP.mod p4 λb hb h=>G b h hb;have bi:=af.push ak (W1.step aK bn);rw[el5]at bi;have bF:I9 m.length (D:Int)=true:=by rw[aQ];exact ak
  have bl:∀e,z7 (m.set D true) e=if e=(D:Int)then true else z7 m e:=λe=>by
   have:=M9 (l:=m) (a:=(D:Int)) (b:=e) (v:=true) bF;rw[el5]at this;exact this
  simp only[i4,n9,A0,simprocAttr,az,W,a8,bX,aN,an,aM,am,s1,p1,p2];refine nx4 ((j+1,u8),(bb++[(D:Int)],m.set D true)) ⟨p3,bH,λb hb aB=>?_,bD.ext2 bW p4,bi,U _ (λe he=>?_) ?_,?_⟩
  .rcases p5 b hb with h|h
   .exact G b h aB
   .have:=aP.lt aB;omega
  .rw[bl];split
   .rfl
   .exact he
  .rw[bl,if_pos rfl]
  .simp only[ej2,em3];omega
def dx3(a:Addr)(b:Bk)(p:Pg)(i:Nat)(w:World)(ha:At (i5 w) a b)(I:cN3 p b)(c:b.ways=L7 p)(q:P7 (d9 p).l.length 100 b.defs)(z:P7 (d9 p).l.length 2000000 b.uses)
  (S:E6 p) (hw:C4 p<=1000000) (E:i<p.procs.length) :
  y5 prog 138 #[.pointer (some a),.int .i64 i] w λu Q=>(B0 (i5 w) Q 9 u (aP3 p b.outs b.uses b.defs i)/\o6 w Q):=by
 refine z6 [.pointer (some a),.int .i64 i] func138 rfl ?_;obtain⟨x,pt⟩:=K9 S.may hw i E;have L:=U4 pt;generalize x+B2 p.procs[i].body=y at pt L;obtain⟨sh,vw,_,_,_,_,has,K,_,_,_,_,O,_⟩:=ha.book I.s;obtain⟨_,_,_,_,_,_,J,_,_⟩:=has.sh;rw[N7]at J;obtain⟨vg,vp,ac,ap,ad,_⟩:=J.pg;obtain⟨aw,X,C⟩:=aC0 (hv:=K) (k:=i) (p:=⟨F5 (d9 p) i⟩) (by unfold Bk.wp;rw[c,em8,aa1 E];rfl);simp only at C;have F:=K.inS (k:=i) (by unfold Bk.wp;rw[c];unfold L7;simpa using E);have ao:=(Z1 S.may).1;have aa:=J7 (P:=prog) (t:=160) X (n7 _) aD2;simp only[i4,n9,A0,simprocAttr,O w (n7 _),F,aa];refine y4 (dt2 aw (F5 (d9 p) i) p i x y w C S hw E L) ?_;rintro un T ⟨ab,m⟩;simp only[eH,simprocAttr,O T (b7 m),ad T (b7 m)];refine y4 (aA3 vg p.globals T (A6.mono (b7 m) ac) om) ?_;rintro uc w3 ⟨H,N⟩;obtain⟨p1,ul,w4,p2,p3,p4,p5⟩:=pushS (e:=22) H ah4 om (b7 N);have ae:(Instr.buildSlice 22 1 #[(0,.string ⟨#[36,105,110]⟩)]).run prog w3=_:=p1;have d:o6 T w4:=H.ext2 N p4;have l:=p3.rw_ (b7 d);have W:aP3 p b.outs b.uses b.defs i=(p.globals++[ah4]).filter (aM7 (F5 (d9 p) i) (I8 b.outs i) b.uses b.defs):=rfl;have D:(p.globals++[ah4]).length<=17:=by rw[ej2,em3];omega
 generalize p.globals++[ah4]=A at l W D;generalize hP:aM7 (F5 (d9 p) i) (I8 b.outs i) b.uses b.defs=P at W;simp only[eH,simprocAttr,ae,p2,l.isS,l.vlen];refine A9 [0,1,6,27,28] (σ:=Nat×Value) (λs f Q=>f 29 = .int .i64 s.1/\f 5=s.2/\s.1<=A.length/\B0 (i5 w4) Q 9 s.2 ((A.take s.1).filter P)/\o6 w4 Q) (λs=>A.length-s.1) (0,.slice none 0 0) ?_ ?_
 .exact⟨rfl,rfl,ek1 _,by simpa using B0.nil _ _ _,p6.refl _⟩
 rintro⟨k,u⟩ f w5 ⟨e0,e1,e6,U,V,_⟩ ⟨j,R,Z,B,g⟩;simp only at j R Z B;have o:=m.trans (d.trans g);have M:=d.trans g;simp only[eH,simprocAttr,j,V];refine A3 (λr=>?_) ?_;rotate_left
 .rintro rfl;rw[ek4]at B;simp only[i4,simprocAttr,R];exact o8 results138 ⟨by rw[W];exact B.back (m.trans d),o⟩
 have Y:=l.inS r;have G:=ldS l (b7 g) r;have v:=as9 P A r;have an:((A.take k).filter P).length<=17:=ej7 (el8 _ _) (by rw[ek3];omega);generalize A[k]=n at G v;simp only[i4,n9,A0,simprocAttr,j,e0,e1,e6,U,Y,G];refine B6 (cV3 a b p i un n w5 (ha.mono (b7 o)) I c q z S hw E (A6.mono (b7 M) ab)) (λw6 h=>?_);rw[hP];rcases ej1 (P n)with h1|h1
 .obtain⟨q1,u7,w7,q2,q3,q4,q5⟩:=pushS (e:=22) (B.ext h) n om (b7 (g.trans h));simp only[eH,simprocAttr,h1,j,R,q1,q2];refine nx4 (k+1,u7) ⟨?_,(B.ext h).ext2 (g.trans h) q4⟩;simp only[];rw[v,h1,if_pos rfl];exact q3
 .simp only[eH,simprocAttr,h1,j,R];refine nx4 (k+1,u) ⟨?_,g.trans h⟩;simp only[];rw[v,h1,if_neg dP,em5];exact B.ext h
def nB(a:Nat)(c d:Value)(Z:Nat->Prop)(b:Nat):Prop:=b=a\/A5 c b\/A5 d b\/Z b
structure BM {α β:Type} [A6 α] [A6 β] (H:Hp) (w0 wz w:World) (Z:Nat->Prop) (gb:Nat) (TB TX TY:TypeId) (cells:Value->Array Value) (vx vy:Value) (xs:List α) (ys:List β):Prop where
 ext:o6 w0 w
 ge:w0.heap.size<=gb
 cb:w.heap[gb]?=some (.cells (cells vx) TB (0,0))
 ox:B0 (D0 w (nB gb vx vy Z)) w TX vx xs
 oy:B0 (D0 w (nB gb vx vy Z)) w TY vy ys
 dx:∀b,A5 vx b->w0.heap.size<=b/\b≠gb/\¬A5 vy b/\¬Z b
 dy:∀b,A5 vy b->w0.heap.size<=b/\b≠gb/\¬Z b
 dz:∀b,Z b->b≠gb/\b<wz.heap.size
 zk:∀b,Z b->w.heap[b]?=wz.heap[b]?
 sz:wz.heap.size<=w.heap.size
 base:E2 H (D0 w (nB gb vx vy Z))
section
variable {α β:Type} [A6 α] [A6 β] {H:Hp} {w0 wz w:World} {Z:Nat->Prop} {gb:Nat} {TB TX TY:TypeId} {cells:Value->Array Value} {vx vy:Value} {xs:List α} {ys:List β} {P:Program}
def BM.lt(s:BM H w0 wz w Z gb TB TX TY cells vx vy xs ys){b:Nat}(h:nB gb vx vy Z b):b<w.heap.size:=by
 rcases h with rfl|h|h|h
 .exact(ej4.1 s.cb).1
 .exact s.ox.lt h
 .exact s.oy.lt h
 .have:=(s.dz b h).2;have:=s.sz;omega
def BM.more(s:BM H w0 wz w Z gb TB TX TY cells vx vy xs ys){c:World}(a:o6 w c):BM H w0 wz c Z gb TB TX TY cells vx vy xs ys:=by
 have d:E2 (D0 w (nB gb vx vy Z)) (D0 c (nB gb vx vy Z)):=K8 a (λ_ h=>h.elim) λb h=>.inl h;have hN:∀(v:Value),(∀b,A5 v b->nB gb vx vy Z b)->∀b,A5 v b->D0 c (nB gb vx vy Z) b=none:=λv f b e=>G1 (f b e);exact⟨s.ext.trans a,s.ge,(a.block gb (ej4.1 s.cb).1 id).trans s.cb,(s.ox.ext a).up d (hN vx λb h=>.inr (.inl h)),(s.oy.ext a).up d (hN vy λb h=>.inr (.inr (.inl h))),s.dx,s.dy,s.dz,
  λb h=>(a.block b (s.lt (.inr (.inr (.inr h)))) id).trans (s.zk b h),ej7 s.sz a.size,p7 s.base d⟩
def BM.fresh(s:BM H w0 wz w Z gb TB TX TY cells vx vy xs ys){d:Type}[O8 d]{c:World}{T:TypeId}{u:Value}{l:List d}(a:B0 (i5 w) c T u l):R (D0 c (nB gb vx vy Z)) u l:=
 (a.down (h:=λ_=>none) (λ_ _ h=>by cases h)).ro (λ_ _ h=>by cases h) λb e=>E4 λh=>by
  have f:=s.lt h;have g:=C9 (a.free e);omega
def BM.reset(s:BM H w0 wz w Z gb TB TX TY cells vx vy xs ys){ix:Nat}(i:ix<(cells vx).size)(e:∀v l,(cells v).setIfInBounds ix l=cells l){t:TypeId}{f:TypeInfo}(d:P.info? t=some f)(n:f.size=1):
  ∃g,(Instr.storeAt t (.pointer (some ⟨gb,ix,none⟩)) (.slice none 0 0)).run P w = .ok () g/\BM H w0 wz g Z gb TB TX TY cells (.slice none 0 0) vy ([]:List α) ys:=by
 obtain⟨g,m,j,c⟩:=ad7 (P:=P) (t:=t) (x:=.slice none 0 0) s.cb i rfl rfl d n;rw[e]at j;have k:E2 (D0 w (nB gb vx vy Z)) (D0 g (nB gb (.slice none 0 0) vy Z)):=K8 c (λb h=>.inl h) λb h=>by
  rcases h with h|h|h
  .exact .inl (.inl h)
  .exact absurd h D8
  .exact .inl (.inr (.inr h))
 refine⟨g,m,p6.ext_of s.ext c λb a=>by subst a;exact s.ge,s.ge,j,B0.nil _ _ _,?_,λb a=>absurd a D8,s.dy,s.dz,λb h=>(c.block b (s.lt (.inr (.inr (.inr h)))) (s.dz b h).1).trans (s.zk b h),ej7 s.sz c.size,p7 s.base k⟩;exact(s.oy.mod c λb a=>(s.dy b a).2.1).up k λb a=>G1 (.inr (.inr (.inl a)))
def BM.push(s:BM H w0 wz w Z gb TB TX TY cells vx vy xs ys){t e:TypeId}{sz m:Nat}(z:G7 P t TX sz m=true)(A:A6.sz α=sz){x:Value}{y:α}(I:A6.enc (D0 w (nB gb vx vy Z)) x.cells.toList y)
  (F:xs.length+1<=1000000000000) (hb:(xs.length+1)*m<=140737488355328) {ix:Nat} (u:ix<(cells vx).size) (o:∀v a,(cells v).setIfInBounds ix a=cells a) {q:TypeInfo} (n:P.info? t=some q) (G:q.size=1) :
  (Instr.buildSlice t 1 #[(0,x)]).run P w = .ok (.slice (some ⟨w.heap.size,0,none⟩) 1 1) (w.alloc (.cells x.cells TX)) /\
  ∃a f c,(Builtin.append_ #[t,t] e #[vx,.slice (some ⟨w.heap.size,0,none⟩) 1 1]).run P (w.alloc (.cells x.cells TX)) = .ok a f/\(Instr.storeAt t (.pointer (some ⟨gb,ix,none⟩)) a).run P f = .ok () c /\
   BM H w0 wz c Z gb TB TX TY cells a vy (xs++[y]) ys/\p6 (A5 vx) w f:=by
 obtain⟨J,a,f,K,C,i,D⟩:=Go.Proofs.YtpebpfiglfmegaaGreat.push (P:=P) (e:=e) z A s.ox I F hb (B4 _ _);have r:f.heap[gb]?=some (.cells (cells vx) TB (0,0)):=(i.block gb (ej4.1 s.cb).1 λh=>(s.dx gb h).2.1 rfl).trans s.cb;obtain⟨c,E,g,l⟩:=ad7 (P:=P) (t:=t) (x:=a) r u (F7 C.isS) (W8 C.isS) n G;rw[o]at g;have B:o6 w0 f:=p6.ext_of s.ext i λb hb=>(s.dx b hb).1;have j:E2 (D0 w (nB gb vx vy Z)) (D0 f (nB gb a vy Z)):=K8 i (λb h=>.inr (.inl h)) λb h=>by
  rcases h with h|h|h
  .exact .inl (.inl h)
  .rcases D b h with h|h
   .exact .inl (.inr (.inl h))
   .exact .inr h
  .exact .inl (.inr (.inr h))
 have k:E2 (D0 f (nB gb a vy Z)) (D0 c (nB gb a vy Z)):=K8 l (λb h=>.inl h) λb h=>.inl h;have d:=λb (h:nB gb vx vy Z b)=>s.lt h;have p:∀b,A5 a b->w0.heap.size<=b/\b≠gb/\¬A5 vy b/\¬Z b:=λb hb=>by
  rcases D b hb with h|h
  .exact s.dx b h
  .refine⟨ej7 s.ext.size h,λe=>?_,λg=>?_,λg=>?_⟩
   .have:=d b (.inl e);omega
   .have:=d b (.inr (.inr (.inl g)));omega
   .have:=d b (.inr (.inr (.inr g)));omega
 refine⟨J,a,f,c,K,E,⟨p6.ext_of B l λb hb=>by subst hb;exact s.ge,s.ge,g,?_,?_,p,s.dy,s.dz,λb h=>?_,ej7 s.sz (ej7 i.size l.size),p7 s.base (p7 j k)⟩,i⟩
 .exact(C.mod l λb hb=>(p b hb).2.1).up (p7 j k) λb hb=>G1 (.inr (.inl hb))
 .exact((s.oy.mod i λb hb h=>(s.dx b h).2.2.1 hb).mod l λb hb=>(s.dy b hb).2.1).up (p7 j k) λb hb=>G1 (.inr (.inr (.inl hb)))
 .have hb:=d b (.inr (.inr (.inr h)));exact(l.block b (eq5 hb i.size) (s.dz b h).1).trans ((i.block b hb λg=>(s.dx b g).2.2.2 h).trans (s.zk b h))
def BM.set(s:BM H w0 wz w Z gb TB TX TY cells vx vy xs ys)(o:A6.sz β=1){k:Nat}(j:k<ys.length){u:Value}{y:β}(n:A6.enc (D0 w (nB gb vx vy Z)) [u] y)(m:u.cells=#[u]){t:TypeId}{e:TypeInfo}(d:P.info? t=some e)(l:e.size=1):
  ∃f,(Instr.storeAt t (.pointer (some (G8 vy k))) u).run P w = .ok () f/\BM H w0 wz f Z gb TB TX TY cells vx vy xs (ys.set k y):=by
 obtain⟨f,p,q,c,_⟩:=F9 (P:=P) (t:=t) s.oy o j (x:=u) n m d l;have g:E2 (D0 w (nB gb vx vy Z)) (D0 f (nB gb vx vy Z)):=K8 c (λb h=>.inr (.inr (.inl h))) λb h=>.inl h;refine⟨f,p,p6.ext_of s.ext c λb a=>(s.dy b a).1,s.ge,(c.block gb (ej4.1 s.cb).1 λh=>(s.dy gb h).2.1 rfl).trans s.cb,?_,?_,s.dx,s.dy,s.dz,λb h=>(c.block b (s.lt (.inr (.inr (.inr h)))) λi=>(s.dy b i).2.2 h).trans (s.zk b h),ej7 s.sz c.size,p7 s.base g⟩
 .exact(s.ox.mod c λb a h=>(s.dx b a).2.2.1 h).up g λb a=>G1 (.inr (.inl a))
 .exact q.up g λb a=>G1 (.inr (.inr (.inl a)))
def BM.rx(s:BM H w0 wz w Z gb TB TX TY cells vx vy xs ys):R (i5 w) vx xs:=s.ox.rw_ (B4 _ _)
def BM.ry(s:BM H w0 wz w Z gb TB TX TY cells vx vy xs ys):R (i5 w) vy ys:=s.oy.rw_ (B4 _ _)
def BM.hb(s:BM H w0 wz w Z gb TB TX TY cells vx vy xs ys):E2 H (i5 w):=p7 s.base (B4 _ _)
end
def bR6{α:Type}[A6 α]{h k:Hp}:∀{n:Nat} {b:List Value},Q9 h b (List.replicate n ([]:List α))->Q9 k b (List.replicate n ([]:List α))
 | 0,_,e=>e
 | n+1,b,⟨c1,c2,e,h1,h2⟩=>⟨c1,c2,e,by
   obtain⟨a,m,c,i,l,o,f,d,p⟩:=h1;refine⟨a,m,c,i,l,o,f,d,λj v g=>?_⟩;have:f=[]:=d;rw[this]at g;simp at g,bR6 h2⟩
def B0.renil{α:Type}[A6 α]{h k:Hp}{w e:World}{T:TypeId}{v:Value}{n:Nat}(m:B0 h w T v (List.replicate n ([]:List α)))(l:∀b,A5 v b->k b=none)(hw:∀b,A5 v b->e.heap[b]?=w.heap[b]?):B0 k e T v (List.replicate n ([]:List α)):=by
 rcases m with⟨rfl,d⟩|⟨b,c,a,rfl,o,d,f,g,i,j⟩
 .exact .inl ⟨rfl,d⟩
 .exact .inr ⟨b,c,a,rfl,l b rfl,(hw b rfl).trans d,f,g,i,bR6 j⟩
def aU7{n B:Nat}{X:Rws}(h:P7 n B X)(i:Int):(I8 X i).length<=B:=by
 unfold I8;rw[List.getD];cases hx:X[i.toNat]? with
 | none=>simp
 | some r=>exact h.few r (el0 hx)
def aV9{p:Pg}(hm:O6 p=true){n:Nat}{X:Rws}(h:P7 n 25 X){s:St}(d:s.kind=4->an3 p s=true):(al4 p X s).length<=100:=by
 unfold al4;split
 .simp
 split
 .simp
 split
 .simp
 split
 .rename_i b;obtain⟨k,a⟩:=aa5 (d b);have e:=V2 hm a.lt;have f:=a.len;unfold ax1;rw[a.fn];have g:=aU7 h (ai5 p.procs s.proc);have c:=el8 (λx:Ar×Pa=>x.1.ref&&(I8 X (ai5 p.procs s.proc)).contains x.2.name) (s.args.zip (p.procs[k]'a.lt).params);rw[List.length_zip]at c;have i:=el8 (R6 p) (I8 X (ai5 p.procs s.proc));have j:(if s.name=e0 then([]:List B3)else[s.name]).length<=1:=by split<;>simp
  simp only[ej2,ek2];omega
 .simp
def bu0{p:Pg}{n:Nat}{X:Rws}(h:P7 n 25 X){s:St}(hw:V7 s<=1000000):(aw7 p X s).length<=2000000:=by
 rw[X3]at hw;have a:=ak5 s.x;have b:=Q7 s.args;have c:=aU7 h (ai5 p.procs s.proc);unfold aw7;simp only[ej2];have d:(if s.kind=2 then[ah4]else[]).length<=1:=by split<;>simp
 have e:(if s.kind=4 then s.args.flatMap N0++I8 X (ai5 p.procs s.proc)else[]).length<=aj1 s.args+25:=by
  split
  .rw[ej2];omega
  .simp
 omega
def bl0{l:List It}{f:It->List B3}{B:Nat}(c:∀it∈l,(f it).length<=B):P7 l.length B (l.map λit=>F2 (f it)):=by
 refine⟨dP,λr b=>?_,λr b=>?_⟩
 .obtain⟨it,_,rfl⟩:=el2.1 b;exact X1 _
 .obtain⟨it,a,rfl⟩:=el2.1 b;exact ej7 (aF1 _) (c it a)
def bd0(new old:Rws)(i:Nat):Rws:=new.take i++old.drop i
section
variable {new old:Rws} {n i:Nat}
def cc2(a:new.length=n)(b:old.length=n):(bd0 new old i).length=n:=by
 unfold bd0;rw[ej2,ek3,eo9];omega
def co3:bd0 new old 0=old:=by simp[bd0]
def cJ9(a:new.length=n)(b:old.length=n):bd0 new old n=new:=by
 unfold bd0;rw[en6 om,List.drop_eq_nil_of_le om,em5]
def cK0(a:new.length=n)(b:i<n):(bd0 new old i)[i]?=old[i]?:=by
 unfold bd0;rw[eo3 (by rw[ek3];omega),ek3,et5]
 congr 1;omega
def cK1(c:new.length=n)(d:old.length=n)(e:i<n){x:List B3}(b:new[i]?=some x):(bd0 new old i).set i x=bd0 new old (i+1):=by
 unfold bd0;have a:(new.take i).length=i:=by rw[ek3];omega
 rw[List.set_append_right _ _ om,a,Nat.sub_self,eo1 om,List.set_cons_zero,ew0,b];simp
def dj1{B:Nat}(c:P7 n B new)(d:P7 n B old):P7 n B (bd0 new old i):=by
 have b:∀r∈bd0 new old i,r∈new\/r∈old:=λr a=>by
  rcases ej9.1 a with h|h
  .exact .inl (er2 h)
  .exact .inr (ev1 h)
 exact⟨cc2 c.len d.len,λr a=>(b r a).elim (c.rise r) (d.rise r),λr a=>(b r a).elim (c.few r) (d.few r)⟩
end
def cL6:G7 prog 134 22 1 24=true:=kr
def dV9:G7 prog 133 160 1 8=true:=kr
def db3(s vi a:Value)(d:s.cells=#[s])(b:vi.cells=#[vi])(c:a.cells=#[a]):C1 prog 136 [(0,s),(4,vi),(5,a)]=some (.agg #[s,.slice none 0 0,.slice none 0 0,.slice none 0 0,vi,a]):=by
 simp[C1,dK6,K7,Instr.fill,d,b,c]
def SBs(d:Nat)(e c a:Value)(b:Nat):Prop:=b=d\/A5 e b\/A5 c b\/A5 a b
def ShS.lts{h:Hp}{w:World}{d:Nat}{i vp e c a:Value}{L:List It}{g f:List Int}(s:ShS h w d i vp e c a L g f){b:Nat}(hb:SBs d e c a b):b<w.heap.size:=by
 rcases hb with rfl|hb|hb|hb
 .exact s.lt
 .exact s.oL.lt hb
 .exact s.oLo.lt hb
 .exact s.oHi.lt hb
def bo7{k:Hp}{a j:Nat}{cs:Array Value}{T:TypeId}{b:Nat×Nat}{u:Value}(d:k a=some (.cells cs T b))(c:cs[j]?=some u):N2 k ((⟨a,0,none⟩:Addr).add j)=some u:=by
 rw[add_lit,en0];unfold N2;rw[d];simpa using c
def ShS.atK{h k:Hp}{w:World}{g:Nat}{f vp i d c:Value}{L:List It}{m l:List Int}{p:Pg}(s:ShS h w g f vp i d c L m l)(e:E2 h k)(a:∀b,SBs g i d c b->k b=w.heap[b]?)(n:R h f p.globals)(q:R h vp p.procs):At k ⟨g,0,none⟩ (⟨p,L,m,l⟩:Sh):=by
 refine⟨[f,vp,i,d,c],⟨[f,vp],i,d,c,rfl,⟨f,vp,rfl,A6.mono e n,A6.mono e q⟩,s.oL.ro e λb h=>a b (.inr (.inl h)),s.oLo.ro e λb h=>a b (.inr (.inr (.inl h))),s.oHi.ro e λb h=>a b (.inr (.inr (.inr h)))⟩,λj u o=>?_⟩;exact bo7 ((a g (.inl rfl)).trans s.cell) (by simpa using o)
def dM9{k:Hp}{d:Nat}{a:Addr}{wy:Wy}{c b:Value}(e:k d=some (.cells #[.pointer (some a),.int .i64 wy.proc,.int .i64 wy.n,c,b] 224 (0,0)))(i:At k a wy.s)(h:R k c wy.real)(g:R k b wy.live):At k ⟨d,0,none⟩ wy:=
 ⟨[.pointer (some a),.int .i64 wy.proc,.int .i64 wy.n,c,b],⟨_,_,_,rfl,i.ptr,h,g⟩,λj u f=>bo7 e (by simpa using f)⟩
def BM.freshN{α β:Type}[A6 α][A6 β]{H:Hp}{w0 n w:World}{Z:Nat->Prop}{d:Nat}{j k TY:TypeId}{a:Value->Array Value}{f g:Value}{xs:List α}{ys:List β}(s:BM H w0 n w Z d j k TY a f g xs ys){c:Type}[A6 c][p8 c]{i:World}{T:TypeId}{u:Value}{l:List c}(e:B0 (i5 w) i T u l):R (D0 i (nB d f g Z)) u l:=
 e.flatRN λb m=>E4 λh=>by
  have o:=s.lt h;have p:=C9 (e.free m);omega
def cW8(p:Pg):d9 p=⟨p,(d9 p).l,(d9 p).lo,(d9 p).hi⟩:=by
 have:=N7 p;cases hq:d9 p;rw[hq]at this;simp only at this;rw[this]
structure NI (wd w:World) (p:Pg) (us vi vo:Value):Prop where
 sh:∃gs vg vp vL vLo vHi,us = .pointer (some ⟨gs,0,none⟩)/\ShS (i5 wd) w gs vg vp vL vLo vHi (d9 p).l (d9 p).lo (d9 p).hi/\R (i5 wd) vg p.globals/\R (i5 wd) vp p.procs/\∀b,SBs gs vL vLo vHi b->wd.heap.size<=b/\¬A5 vi b/\¬A5 vo b
 oi:B0 (i5 wd) w 22 vi (List.replicate p.procs.length ([]:List B3))
 oo:B0 (i5 wd) w 22 vo (List.replicate p.procs.length ([]:List B3))
 gi:∀b,A5 vi b->wd.heap.size<=b/\¬A5 vo b
 go:∀b,A5 vo b->wd.heap.size<=b
 ext:o6 wd w
def NI.mk'{a w:World}{p:Pg}{f:Nat}{v vp u e d vi x:Value}(g k i l j m:Nat)(t:ShS (i5 a) w f v vp u e d (d9 p).l (d9 p).lo (d9 p).hi)(B:R (i5 a) v p.globals)(C:R (i5 a) vp p.procs)
  (n:∀b,SBs f u e d b->g<=b/\b<k) (o:∀b,A5 vi b->i<=b/\b<l) (q:∀b,A5 x b->j<=b/\b<m) (y:k<=i\/l<=g) (z:k<=j\/m<=g) (A:l<=j\/m<=i) (E:a.heap.size<=g/\a.heap.size<=i/\a.heap.size<=j)
  (r:B0 (i5 a) w 22 vi (List.replicate p.procs.length ([]:List B3))) (s:B0 (i5 a) w 22 x (List.replicate p.procs.length ([]:List B3))) (D:o6 a w):NI a w p (.pointer (some ⟨f,0,none⟩)) vi x:=by
 refine⟨⟨f,v,vp,u,e,d,rfl,t,B,C,λb c=>⟨?_,λh=>?_,λh=>?_⟩⟩,r,s,λb c=>⟨?_,λh=>?_⟩,λb c=>?_,D⟩
 .have:=n b c;omega
 .have:=n b c;have:=o b h;omega
 .have:=n b c;have:=q b h;omega
 .have:=o b c;omega
 .have:=o b c;have:=q b h;omega
 .have:=q b c;omega
def cB5{p:Pg}(hm:O6 p=true){D:Rws}(b:P7 (d9 p).l.length 100 D)(a:(d9 p).l.length<=200)(i:Nat)(hw:C4 p<=1000000)(f:i<p.procs.length):(ai1 p D i).length<=20000:=by
 have e:ai1 p D i=((d9 p).of i).flatMap λit=>if(F5 (d9 p) i).lives it.s.id then(I8 D (it.s.id-1)).filter (af1 p i)else[]:=by
  unfold ai1;rw[bp5]
 rw[e];have c:=P9 (λit:It=>if(F5 (d9 p) i).lives it.s.id then(I8 D (it.s.id-1)).filter (af1 p i)else[]) 100 ((d9 p).of i) λit _=>by
  split
  .exact ej7 (el8 _ _) (aU7 b _)
  .simp
 have d:((d9 p).of i).length<=200:=by
  unfold Sh.of;rw[eo9,ek3];omega
 omega
def cT5{p:Pg}(hm:O6 p=true)(O U D:Rws)(i:Nat):(aP3 p O U D i).length<=17:=by
 unfold aP3;refine ej7 (el8 _ _) ?_;have:=(Z1 hm).1;rw[ej2,em3];omega
def cA9{p:Pg}(c:E6 p)(hw:C4 p<=1000000)(i:Nat)(b:i<p.procs.length):OkR (F5 (d9 p) i).net/\(F5 (d9 p) i).net.length=(F5 (d9 p) i).n.toNat/\0<(F5 (d9 p) i).n:=by
 obtain⟨x,d⟩:=K9 c.may hw i b;have a:=U4 d;obtain⟨e,f,_⟩:=dj5 c hw b a;have g:=a.n;have:=d.ok.le;exact⟨e,f,om⟩
def dC3{w:World}{g:Nat}{a:Addr}{f c e vi d:Value}{b:Bk}(o:w.heap[g]?=some (.cells #[.pointer (some a),f,c,e,vi,d] 136 (0,0)))(h:At (i5 w) a b.s)(i:R (i5 w) f b.wp)(k:R (i5 w) c b.defs)(l:R (i5 w) e b.uses)(m:R (i5 w) vi b.ins)(n:R (i5 w) d b.outs):At (i5 w) ⟨g,0,none⟩ b:=
 ⟨[.pointer (some a),f,c,e,vi,d],⟨_,_,_,_,_,_,rfl,h.ptr,i,k,l,m,n⟩,λj u p=>bo7 o (by simpa using p)⟩
def dt3(v:Value)(p:Pg)(w:World)(hv:SV (i5 w) v p)(hw:C4 p<=1000000):
  y5 prog 83 #[v] w λu j=>((D4 p=false->u = .pointer none)/\(D4 p=true->∃ad,u = .pointer (some ad)/\At (i5 j) ad (b9 p))/\o6 w j):=by
 refine z6 [v] func83 rfl ?_;obtain⟨c,w1,d0,dv,cq⟩:=U2 hv (n7 _);obtain⟨sp,dr,dC,dG⟩:=cq.pg_v;obtain⟨eO,eP,et,cw,cR,ee⟩:=cq.pg;have l1:=dC w1 (n7 _);simp only[eH,simprocAttr,d0,l1];refine B6 (am9 sp p w1 dr hw) (λG dw=>?_);rcases ej1 (D4 p)with hR|hR;rotate_left
 .simp only[eH,simprocAttr,hR];exact o8 results83 ⟨λ_=>rfl,λh=>(by cases h),dv.trans dw⟩
 have hr:=E9 hR;obtain⟨eq,es⟩:=Z1 hr.may;have X:=dw.trans (o6.drew G);have a8:=cw.isS;have bg:=cw.vlen;have t1:=dG (λj=>o6 G.drew j) G.drew (p6.refl _) λj h=>b7 (X.trans h);have t2:=ee (λj=>o6 G.drew j) G.drew (p6.refl _) λj h=>b7 (X.trans h);have aM:=dr.mono (b7 X);have hz:A6.enc (i5 G.drew) (Value.slice none 0 0).cells.toList ([]:List B3):=bq6 _;have aQ:=λ(wa:World) (ha:o6 G.drew wa)=>mk (P:=prog) (w:=wa) (h:=i5 G.drew) (α:=List B3) cL6 ct6 (y:=[]) hz (n:=p.procs.length) om om (b7 ha);simp only[eH,simprocAttr,hR];refine bg5 [1] (λj=>o6 G.drew j) 10 (.op 0 (.op 2 (.op 3 (.op 4 (.op 6 (.op 7 (.op 8 (.fork [1,5,9] (λi=>if i=1 then(.fork [5,9] (λi=>if i=5 then(A7 [9])else(A7 [5])))else if i=5 then(.fork [1,9] (λi=>if i=1 then(A7 [9])else(A7 [1])))else(.fork [1,5] (λi=>if i=1 then(A7 [5])else(A7 [1]))))))))))))
  (λf' j=>NI G.drew j p (f' 19) (f' 23) (f' 27)) (by decide +kernel) (by decide +kernel) (p6.refl _) ?_ ?_
 .simp only[D7,A7,i4,n9,simprocAttr,t1,t2,a8,bg];refine V3 (by decide +kernel) (λi hi=>?_);simp only[ek9,en5,es4]at hi;rcases hi with rfl|rfl|rfl
  .simp only[fc,simprocAttr];refine y4 (ak8 (i5 G.drew) sp p G.drew aM (n7 _) hw) ?_;rintro _ wA ⟨S,vg,vp,vL,ay,ax,rfl,J,hg,ak,F,aD,g⟩;refine⟨g,?_⟩;have av:∀b,SBs S vL ay ax b->G.drew.heap.size<=b/\b<wA.heap.size:=λb a=>⟨by rcases a with rfl|a;exact F;exact aD b a,J.lts a⟩;obtain⟨va,wB,m1,o1,E,f1,_⟩:=aQ wA g;obtain⟨vb,wC,m2,o2,T,f2,_⟩:=aQ wB (g.trans E);have dq:=(J.ext E).ext T;refine V3 (by decide +kernel) (λi hi=>?_);simp only[ek9,en5,es4]at hi;rcases hi with rfl|rfl
   .simp only[fc,simprocAttr,m1,m2,G0];exact⟨g.trans E,(g.trans E).trans T,NI.mk' _ _ wA.heap.size wB.heap.size wB.heap.size wC.heap.size dq hg ak av (λb a=>⟨f1 b a,o1.lt a⟩) (λb a=>⟨f2 b a,o2.lt a⟩) (.inl (ek6 _)) (.inl E.size) (.inl (ek6 _)) ⟨ek6 _,g.size,ej7 g.size E.size⟩ (o1.ext T) o2 ((g.trans E).trans T)⟩
   .simp only[fc,simprocAttr,m1,m2,G0];exact⟨g.trans E,(g.trans E).trans T,NI.mk' _ _ wB.heap.size wC.heap.size wA.heap.size wB.heap.size dq hg ak av (λb a=>⟨f2 b a,o2.lt a⟩) (λb a=>⟨f1 b a,o1.lt a⟩) (.inl E.size) (.inl (ek6 _)) (.inr (ek6 _)) ⟨ek6 _,ej7 g.size E.size,g.size⟩ o2 (o1.ext T) ((g.trans E).trans T)⟩
  .obtain⟨va,wB,m1,o1,E,f1,_⟩:=aQ G.drew (p6.refl _);simp only[fc,simprocAttr,m1,G0];refine⟨E,?_⟩;refine V3 (by decide +kernel) (λi hi=>?_);simp only[ek9,en5,es4]at hi;rcases hi with rfl|rfl
   .simp only[fc,simprocAttr];refine y4 (ak8 (i5 G.drew) sp p wB aM (b7 E) hw) ?_;rintro _ wA ⟨S,vg,vp,vL,ay,ax,rfl,J,hg,ak,F,aD,g⟩;have av:∀b,SBs S vL ay ax b->wB.heap.size<=b/\b<wA.heap.size:=λb a=>⟨by rcases a with rfl|a;exact F;exact aD b a,J.lts a⟩;obtain⟨vb,wC,m2,o2,T,f2,_⟩:=aQ wA (E.trans g);refine⟨E.trans g,?_⟩;simp only[fc,simprocAttr,m2,G0];exact⟨(E.trans g).trans T,NI.mk' _ _ G.drew.heap.size wB.heap.size wA.heap.size wC.heap.size (J.ext T) hg ak av (λb a=>⟨f1 b a,o1.lt a⟩) (λb a=>⟨f2 b a,o2.lt a⟩) (.inr (ek6 _)) (.inl (ek6 _)) (.inl g.size) ⟨E.size,ek6 _,ej7 E.size g.size⟩ ((o1.ext g).ext T) o2 ((E.trans g).trans T)⟩
   .obtain⟨vb,wC,m2,o2,T,f2,_⟩:=aQ wB E;simp only[fc,simprocAttr,m2,G0];refine⟨E.trans T,?_⟩;refine y4 (ak8 (i5 G.drew) sp p wC aM (b7 (E.trans T)) hw) ?_;rintro _ wA ⟨S,vg,vp,vL,ay,ax,rfl,J,hg,ak,F,aD,g⟩;have av:∀b,SBs S vL ay ax b->wC.heap.size<=b/\b<wA.heap.size:=λb a=>⟨by rcases a with rfl|a;exact F;exact aD b a,J.lts a⟩;refine⟨(E.trans T).trans g,?_⟩;simp only[fc,simprocAttr];exact NI.mk' _ _ G.drew.heap.size wB.heap.size wB.heap.size wC.heap.size J hg ak av (λb a=>⟨f1 b a,o1.lt a⟩) (λb a=>⟨f2 b a,o2.lt a⟩) (.inr T.size) (.inr (ek6 _)) (.inl (ek6 _)) ⟨(E.trans T).size,ek6 _,E.size⟩ ((o1.ext T).ext g) (o2.ext g) ((E.trans T).trans g)
  .obtain⟨va,wB,m1,o1,E,f1,_⟩:=aQ G.drew (p6.refl _);simp only[fc,simprocAttr,m1,G0];refine⟨E,?_⟩;refine V3 (by decide +kernel) (λi hi=>?_);simp only[ek9,en5,es4]at hi;rcases hi with rfl|rfl
   .simp only[fc,simprocAttr];refine y4 (ak8 (i5 G.drew) sp p wB aM (b7 E) hw) ?_;rintro _ wA ⟨S,vg,vp,vL,ay,ax,rfl,J,hg,ak,F,aD,g⟩;have av:∀b,SBs S vL ay ax b->wB.heap.size<=b/\b<wA.heap.size:=λb a=>⟨by rcases a with rfl|a;exact F;exact aD b a,J.lts a⟩;obtain⟨vb,wC,m2,o2,T,f2,_⟩:=aQ wA (E.trans g);refine⟨E.trans g,?_⟩;simp only[fc,simprocAttr,m2,G0];exact⟨(E.trans g).trans T,NI.mk' _ _ wA.heap.size wC.heap.size G.drew.heap.size wB.heap.size (J.ext T) hg ak av (λb a=>⟨f2 b a,o2.lt a⟩) (λb a=>⟨f1 b a,o1.lt a⟩) (.inl (ek6 _)) (.inr (ek6 _)) (.inr g.size) ⟨E.size,ej7 E.size g.size,ek6 _⟩ o2 ((o1.ext g).ext T) ((E.trans g).trans T)⟩
   .obtain⟨vb,wC,m2,o2,T,f2,_⟩:=aQ wB E;simp only[fc,simprocAttr,m2,G0];refine⟨E.trans T,?_⟩;refine y4 (ak8 (i5 G.drew) sp p wC aM (b7 (E.trans T)) hw) ?_;rintro _ wA ⟨S,vg,vp,vL,ay,ax,rfl,J,hg,ak,F,aD,g⟩;have av:∀b,SBs S vL ay ax b->wC.heap.size<=b/\b<wA.heap.size:=λb a=>⟨by rcases a with rfl|a;exact F;exact aD b a,J.lts a⟩;refine⟨(E.trans T).trans g,?_⟩;simp only[fc,simprocAttr];exact NI.mk' _ _ wB.heap.size wC.heap.size G.drew.heap.size wB.heap.size J hg ak av (λb a=>⟨f2 b a,o2.lt a⟩) (λb a=>⟨f1 b a,o1.lt a⟩) (.inr (ek6 _)) (.inr T.size) (.inr (ek6 _)) ⟨(E.trans T).size,E.size,ek6 _⟩ (o2.ext g) ((o1.ext T).ext g) ((E.trans T).trans g)
 rintro f w3 hk dX;simp only[em0,B8,simprocAttr]at hk;obtain⟨e1,_⟩:=hk;obtain⟨⟨S,vg,vp,vL,ay,ax,dT,J,hg,ak,ca⟩,a0,bs,bH,b5,cb⟩:=dX;generalize dU:f 23=A at a0 bs bH b5 ca;generalize dV:f 27=C at a0 bs bH b5 ca;obtain⟨z,w4,di,a2,d1,dj⟩:∃z w4,(Instr.box 136 (.agg #[.pointer (some ⟨S,0,none⟩),.slice none 0 0,.slice none 0 0,.slice none 0 0,A,C])).run prog w3 = .ok (.pointer (some ⟨z,0,none⟩)) w4/\o6 w3 w4/\w4.heap[z]?=some (.cells #[.pointer (some ⟨S,0,none⟩),.slice none 0 0,.slice none 0 0,.slice none 0 0,A,C] 136 (0,0))/\w3.heap.size<=z:=
  ⟨_,_,rfl,o6.alloc _ _,em9 w3 _,ek6 _⟩
 have cK:G.drew.heap.size<=z:=ej7 cb.size dj;have bp:∀b,(A5 A b\/A5 C b)->G.drew.heap.size<=b/\b<w3.heap.size:=λb h=>by
  rcases h with h|h
  .exact⟨(bH b h).1,a0.lt h⟩
  .exact⟨b5 b h,bs.lt h⟩
 have dc:∀b,nB z (.slice none 0 0) (.slice none 0 0) (λb=>A5 A b\/A5 C b) b->b=z\/A5 A b\/A5 C b:=λb h=>by
  rcases h with h|h|h|h
  .exact .inl h
  .exact absurd h D8
  .exact absurd h D8
  .exact .inr h
 have bB:At (D0 w4 (nB z (.slice none 0 0) (.slice none 0 0) (λb=>A5 A b\/A5 C b))) ⟨S,0,none⟩ (d9 p):=by
  rw[cW8];refine(J.ext a2).atK (aW4 (cb.trans a2) λb a=>?_) (λb a=>E4 λh=>?_) hg ak
  .rcases dc b a with h|h
   .omega
   .exact(bp b h).1
  .rcases dc b h with h|h|h
   .have:=J.lts a;omega
   .exact(ca b a).2.1 h
   .exact(ca b a).2.2 h
 have c8:BM (α:=Ptr Wy) (β:=List B3) (D0 w4 (nB z (.slice none 0 0) (.slice none 0 0) (λb=>A5 A b\/A5 C b))) G.drew w4 w4 (λb=>A5 A b\/A5 C b) z 136 160 22 (λv=>#[.pointer (some ⟨S,0,none⟩),v,.slice none 0 0,.slice none 0 0,A,C]) (.slice none 0 0) (.slice none 0 0) [] []:=
  ⟨cb.trans a2,cK,d1,B0.nil _ _ _,B0.nil _ _ _,λb h=>absurd h D8,λb h=>absurd h D8,λb h=>⟨by have:=(bp b h).2;omega,eq5 (bp b h).2 a2.size⟩,λ_ _=>rfl,ek6 _,n7 _⟩
 have dx:=X.trans (cb.trans a2);have ed:=cR w4 (b7 dx);obtain⟨iw,d3,dk⟩:=av3 (P:=prog) dM5 dL9;obtain⟨il,b8,be⟩:=av3 (P:=prog) dM6 dM0;obtain⟨iS,b6,bd⟩:=av3 (P:=prog) ct6 do8;have dY:=a0.isS;have dZ:=bs.isS;simp only[fd,simprocAttr,dT,dU,dV,db3 (.pointer (some ⟨S,0,none⟩)) A C rfl (F7 dY) (F7 dZ),di,e1,ed,a8,bg];refine E8 [1,3,32] (σ:=Nat×Value) (λs f j=>f 33 = .int .i64 s.1/\s.1<=p.procs.length/\BM (α:=Ptr Wy) (β:=List B3) (D0 w4 (nB z (.slice none 0 0) (.slice none 0 0) (λb=>A5 A b\/A5 C b))) G.drew w4 j (λb=>A5 A b\/A5 C b) z 136 160 22 (λv=>#[.pointer (some ⟨S,0,none⟩),v,.slice none 0 0,.slice none 0 0,A,C]) s.2 (.slice none 0 0) (((L7 p).take s.1).map λw=>⟨w⟩) []) (λs=>p.procs.length-s.1) (0,.slice none 0 0) ?_ ?_
 .simp only[B8,simprocAttr];exact⟨tt,ek1 _,by simpa using c8⟩
 clear c8;rintro⟨k,vx⟩ f5 w5 hk ⟨bZ,d4,s5⟩;simp only at bZ d4 s5;simp only[em0,B8,simprocAttr]at hk;obtain⟨g1,g3,dR,_⟩:=hk;rw[e1]at g1;simp only[eH,simprocAttr,bZ,dR];refine A8 (λhc=>?_) (λhc=>?_)
 .have q:k<p.procs.length:=by simpa using hc
  obtain⟨x,pt⟩:=K9 hr.may hw k q;have ea:(L7 p).length=p.procs.length:=by unfold L7;simp
  have aG:((L7 p).take (k+1)).map (λw=>(⟨w⟩:Ptr Wy))=((L7 p).take k).map (λw=>(⟨w⟩:Ptr Wy))++[⟨F5 (d9 p) k⟩]:=by
   rw[ew0,aa1 q,em6];rfl
  have sd:=s5.more (o6.drew w5);have bq:∀j,p6 (A5 vx) w5.drew j->j.heap[z]?=some (.cells #[.pointer (some ⟨S,0,none⟩),vx,.slice none 0 0,.slice none 0 0,A,C] 136 (0,0)):=λj hm=>(hm.block z (ej4.1 sd.cb).1 λh=>(sd.dx z h).2.1 rfl).trans sd.cb;have k0:∀K f d w0,F8 prog (λj=>p6 (A5 vx) w5.drew j) (Instr.loadAt 132 (.pointer (some ⟨z,0,none⟩))) K f d w0=K (C5 f d (.pointer (some ⟨S,0,none⟩))) w0:=λK f d w0=>B7 (w0:=w5.drew) (p6.refl _) λj h=>F4 (i:=0) (bq j h) rfl bK9;have k1:∀K f d w0,F8 prog (λj=>p6 (A5 vx) w5.drew j) (Instr.loadAt 133 (.pointer (some ⟨z,1,none⟩))) K f d w0=K (C5 f d vx) w0:=λK f d w0=>B7 (w0:=w5.drew) (p6.refl _) λj h=>F4 (i:=1) (bq j h) rfl dn3;simp only[i4,simprocAttr,bZ];refine C0 (λj=>p6 (A5 vx) w5.drew j) 13 (A7 [0,1,2,3,4,5,6,7,8,9,10,11,12]) ?_;simp only[D7,A7,i4,n9,simprocAttr,g3,k0,k1];refine y4 (cF2 ⟨S,0,none⟩ p k x _ w5.drew (bB.mono sd.hb) hr hw q pt) ?_;rintro _ w6 ⟨gw,vr,vl,rfl,d2,er,d7,d6,cc⟩;refine⟨p6.up cc,?_⟩;have s6:=sd.more cc;have d5:¬nB z vx (.slice none 0 0) (λb=>A5 A b\/A5 C b) gw:=λh=>by have:=sd.lt h;omega
  have dh:At (D0 w6 (nB z vx (.slice none 0 0) (λb=>A5 A b\/A5 C b))) ⟨gw,0,none⟩ (F5 (d9 p) k):=dM9 (wy:=F5 (d9 p) k) ((E4 d5).trans d2) (bB.mono s6.base) (sd.freshN d7) (sd.fresh d6);obtain⟨p1,eh,w7,w8,p2,p3,O,p4⟩:=s6.push (P:=prog) (e:=133) dV9 rfl (x:=.pointer (some ⟨gw,0,none⟩)) (y:=(⟨F5 (d9 p) k⟩:Ptr Wy)) dh.ptr (by rw[ek2,ek3];omega) (by rw[ek2,ek3];omega) (ix:=1) dP (λv v'=>dP) d3 dk;simp only[Value.cells]at p1 p2;simp only[fd,simprocAttr,p1,p2,G0];refine⟨(p6.up cc).trans (p6.up (o6.alloc _ _)),(p6.up cc).trans p4,?_⟩;simp only[eH,simprocAttr,bZ,p3];refine⟨(k+1,eh),om,el1 _ (J2 k om),om,?_⟩;simp only[];rw[aG];exact O
 have F:k=p.procs.length:=by simp at hc;omega
 subst F;have ea:(L7 p).length=p.procs.length:=by unfold L7;simp
 rw[en6 om]at s5;have dd:∀b,nB z (.slice none 0 0) C (A5 A) b->nB z vx (.slice none 0 0) (λb=>A5 A b\/A5 C b) b:=λb h=>by
  rcases h with h|h|h|h
  .exact .inl h
  .exact absurd h D8
  .exact .inr (.inr (.inr (.inr h)))
  .exact .inr (.inr (.inr (.inl h)))
 have cs:E2 (D0 w5 (nB z vx (.slice none 0 0) (λb=>A5 A b\/A5 C b))) (D0 w5 (nB z (.slice none 0 0) C (A5 A))):=K8 (M:=λ_=>False) (p6.refl w5) (λ_ h=>h.elim) λb h=>.inl (dd b h);have aT:=(bB.mono s5.base).mono cs;have cx:R (D0 w5 (nB z (.slice none 0 0) C (A5 A))) vx ((L7 p).map λw=>(⟨w⟩:Ptr Wy)):=s5.ox.ro cs λb a=>E4 λh=>by
  have hd:=s5.dx b a;rcases h with h|h|h|h
  .exact hd.2.1 h
  .exact D8 h
  .exact hd.2.2.2 (.inr h)
  .exact hd.2.2.2 (.inl h)
 have dp:B0 (D0 w5 (nB z (.slice none 0 0) C (A5 A))) w5 22 C (List.replicate p.procs.length ([]:List B3)):=bs.renil (λb a=>G1 (.inr (.inr (.inl a)))) λb a=>(s5.zk b (.inr a)).trans (a2.block b (bs.lt a) id);have cv:∀b,A5 A b->w5.heap[b]?=w3.heap[b]?:=λb a=>(s5.zk b (.inl a)).trans (a2.block b (a0.lt a) id);have c9:BM (α:=List B3) (β:=List B3) (D0 w5 (nB z (.slice none 0 0) C (A5 A))) G.drew w5 w5 (A5 A) z 136 22 22 (λv=>#[.pointer (some ⟨S,0,none⟩),vx,v,.slice none 0 0,A,C]) (.slice none 0 0) C [] (List.replicate p.procs.length []):=
  ⟨s5.ext,cK,s5.cb,B0.nil _ _ _,dp,λb h=>absurd h D8,λb a=>⟨b5 b a,by have:=(bp b (.inr a)).2;omega,λh=>(bH b h).2 a⟩,λb a=>⟨by have:=(bp b (.inl a)).2;omega,s5.lt (.inr (.inr (.inr (.inl a))))⟩,λ_ _=>rfl,ek6 _,n7 _⟩
 have d8:∀j,(∀b,A5 A b->j.heap[b]?=w5.heap[b]?)->R (i5 j) A (List.replicate p.procs.length ([]:List B3)):=λj h=>(a0.renil (k:=λ_=>none) (λ_ _=>rfl) λb a=>(h b a).trans (cv b a)).rw_ λ_ _ h=>by cases h
 clear s5;have cr:∀(j:World) (vd:Value) (xs ys:Rws),BM (α:=List B3) (β:=List B3) (D0 w5 (nB z (.slice none 0 0) C (A5 A))) G.drew w5 j (A5 A) z 136 22 22 (λv=>#[.pointer (some ⟨S,0,none⟩),vx,v,.slice none 0 0,A,C]) vd C xs ys->At (i5 j) ⟨z,0,none⟩ (⟨d9 p,L7 p,xs,[],List.replicate p.procs.length [],ys⟩:Bk):=λj vd xs ys s=>dC3 s.cb (aT.mono s.hb) (A6.mono s.hb cx) s.rx (bq6 _) (d8 j s.zk) s.ry;obtain⟨_,_,_,bh,_,_,_,dA,_⟩:=aT.sh;have c7:=J8 hr.may;have bK:=ao1 p hw;have bz:aO7 (I2 p) p.procs.length 25:=bd2 hr.may;simp only[i4,simprocAttr];refine E8 [1,3] (σ:=(Value×Nat)×(Bool×Rws)) (λs f j=>f 5 = .bool s.2.1/\BM (α:=List B3) (β:=List B3) (D0 w5 (nB z (.slice none 0 0) C (A5 A))) G.drew w5 j (A5 A) z 136 22 22 (λv=>#[.pointer (some ⟨S,0,none⟩),vx,v,.slice none 0 0,A,C]) s.1.1 C s.2.2 (G5 (I2 p) s.1.2 (List.replicate p.procs.length []))/\s.1.2<=aJ9 (G5 (I2 p) s.1.2 (List.replicate p.procs.length []))/\(s.2.1=false->I2 p (G5 (I2 p) s.1.2 (List.replicate p.procs.length []))=G5 (I2 p) s.1.2 (List.replicate p.procs.length [])/\s.2.2=K6 p (G5 (I2 p) s.1.2 (List.replicate p.procs.length [])))) (λs=>if s.2.1 then p.procs.length*25+2-aJ9 (G5 (I2 p) s.1.2 (List.replicate p.procs.length []))else 0) ((.slice none 0 0,0),(true,[])) ?_ ?_
 .simp only[B8,simprocAttr];exact⟨tt,c9,ek1 _,λh=>by cases h⟩
 clear c9;rintro⟨⟨vx2,K2⟩,eI,eT⟩ ez H hk ⟨ct,Y,ck,aC⟩;simp only at ct Y ck aC;simp only[em0,B8,simprocAttr]at hk;obtain⟨cD,bX,_⟩:=hk;rw[g1]at cD;rw[g3]at bX;have W:=bz.iter_ok K2;have I:=bz.ok (G5 (I2 p) K2 (List.replicate p.procs.length []));have a7:=bz.more K2;have eo:=bz.bound K2;have cG:=bz.bound (K2+1);have aK:=aa9 (I2 p) K2 (List.replicate p.procs.length []);simp only[i4,simprocAttr,ct];refine A8 (λhc=>?_) (λhc=>?_)
 .subst hc;clear aC;generalize ba:G5 (I2 p) K2 (List.replicate p.procs.length [])=Z at *;generalize cm:I2 p Z=Q2 at *;obtain⟨cU,z2,cf⟩:=Y.reset (P:=prog) (t:=134) (ix:=2) dP (λv v'=>dP) b8 be;have dy:(Instr.loadAt 132 (.pointer (some ⟨z,0,none⟩))).run prog cU = .ok (.pointer (some ⟨S,0,none⟩)) cU:=F4 (i:=0) cf.cb rfl bK9;have cy:=dA cU cf.hb;simp only[add_lit,en0]at cy;have df:=bh.isS;have dl:=bh.vlen;simp only[eH,simprocAttr,bX,z2,dy,cy,df,dl];refine E8 [1,3,5,62,63] (σ:=Nat×Value) (λs f j=>f 64 = .int .i64 s.1/\s.1<=(d9 p).l.length/\BM (α:=List B3) (β:=List B3) (D0 w5 (nB z (.slice none 0 0) C (A5 A))) G.drew w5 j (A5 A) z 136 22 22 (λv=>#[.pointer (some ⟨S,0,none⟩),vx,v,.slice none 0 0,A,C]) s.2 C (((d9 p).l.take s.1).map λit=>F2 (al4 p Z it.s)) Z) (λs=>(d9 p).l.length-s.1) (0,.slice none 0 0) ?_ ?_
  .simp only[B8,simprocAttr];exact⟨tt,ek1 _,cf⟩
  clear cf Y;rintro⟨m,vd⟩ f7 w7 hk ⟨aF,bN,s7⟩;simp only at aF bN s7;simp only[em0,B8,simprocAttr]at hk;obtain⟨b1,b3,bm,bl,bn,_⟩:=hk;rw[cD]at b1;rw[bX]at b3;simp only[eH,simprocAttr,aF,bn];refine A8 (λhc=>?_) (λhc=>?_)
  .have q:m<(d9 p).l.length:=by simpa using hc
   have cL:=bh.inS q;obtain⟨sv,a1,bL⟩:=H1 (P:=prog) (t:=156) bh (s7.hb) (ej0 q) af2 af4 ac9 L4;rw[L4]at bL;have aG:((d9 p).l.take (m+1)).map (λit=>F2 (al4 p Z it.s))=((d9 p).l.take m).map (λit=>F2 (al4 p Z it.s))++[F2 (al4 p Z (d9 p).l[m].s)]:=by
    rw[ej8 q,em6];rfl
   have ag:=hr.fits _ (ek0 q);have aA:=bK _ (ek0 q);have aX:((((d9 p).l.take m).map λit=>F2 (al4 p Z it.s))).length<=200:=by rw[ek2,ek3];omega
   generalize(d9 p).l[m]=it at a1 aG ag aA;generalize((d9 p).l.take m).map (λit=>F2 (al4 p Z it.s))=xs at s7 aG aX;obtain⟨d,ej,w8,cJ,cO,cQ,bD⟩:=aY4 (w:=w7) (A5 vd) a1 (λb a=>s7.ox.lt a);obtain⟨us,bQ,bE,_,_⟩:=L8.it a1 bD;have O:=(s7.more cQ).more (o6.drew w8);have bq:∀j,p6 (A5 vd) w8.drew j->j.heap[z]?=some (.cells ((λv=>#[.pointer (some ⟨S,0,none⟩),vx,v,.slice none 0 0,A,C]) vd) 136 (0,0)):=λj hm=>(hm.block z (ej4.1 O.cb).1 λh=>(O.dx z h).2.1 rfl).trans O.cb;have k2:∀K f d w0,F8 prog (λj=>p6 (A5 vd) w8.drew j) (Instr.loadAt 134 (.pointer (some ⟨z,2,none⟩))) K f d w0=K (C5 f d vd) w0:=λK f d w0=>B7 (w0:=w8.drew) (p6.refl _) λj h=>F4 (i:=2) (bq j h) rfl av4;have k3:=(L8.st_v bQ bE).2 (λj=>p6 (A5 vd) w8.drew j) w8.drew (p6.refl _) λj h=>F3 ((p6.up (M:=A5 vd) (o6.drew w8)).trans h);simp only[i4,n9,A0,simprocAttr,aF,bl,cL,bL,cJ,cO];refine C0 (λj=>p6 (A5 vd) w8.drew j) 12 (A7 [0,1,2,3,4,5,6,7,8,9,10,11]) ?_;simp only[D7,A7,i4,n9,simprocAttr,b3,k2,k3];refine y4 (dd9 ⟨z,0,none⟩ ⟨d9 p,L7 p,_,[],List.replicate p.procs.length [],_⟩ p us it.s w8.drew (cr _ _ _ _ O) ⟨rfl,W,bJ0 _ _⟩ hr.may (bQ.mono O.hb) aA ag) ?_;rintro u9 w9 ⟨ap,aH⟩;refine⟨p6.up aH,?_⟩;simp only[fc,simprocAttr];refine y4 (aq9 ap (ej7 (aV9 hr.may W ag) dQ)) ?_;rintro ar Q ⟨B,am,_⟩;have D:o6 w8.drew Q:=ap.ext2 aH am;refine⟨p6.up D,?_⟩;have L:=O.more D;obtain⟨p1,cT,a6,bS,p2,p3,N,p4⟩:=L.push (P:=prog) (e:=134) cL6 rfl (x:=ar) (y:=F2 (al4 p Z it.s)) (by rw[F7 B.isS];exact O.fresh B) om om (ix:=2) dP (λv v'=>dP) b8 be;rw[F7 B.isS]at p1 p2;simp only[fd,simprocAttr,p1,p2,G0];refine⟨(p6.up D).trans (p6.up (o6.alloc _ _)),(p6.up D).trans p4,?_⟩;simp only[eH,simprocAttr,aF,p3];refine⟨(m+1,cT),om,el1 _ (J2 m om),om,?_⟩;simp only[];rw[aG];exact N
  have F:m=(d9 p).l.length:=by simp at hc;omega
  subst F;rw[ek4]at s7;have bx:((d9 p).l.map λit=>F2 (al4 p Z it.s))=K6 p Z:=rfl;rw[bx]at s7;have aI:P7 (d9 p).l.length 100 (K6 p Z):=bl0 λit bJ=>aV9 hr.may W (hr.fits it bJ);have cS:=cR w7 (b7 (X.trans s7.ext));simp only[eH,simprocAttr,b1,cS,a8,bg];refine E8 [1,3,85] (σ:=Nat×Bool) (λs f j=>f 86 = .int .i64 s.1/\s.1<=p.procs.length/\f 5 = .bool s.2/\BM (α:=List B3) (β:=List B3) (D0 w5 (nB z (.slice none 0 0) C (A5 A))) G.drew w5 j (A5 A) z 136 22 22 (λv=>#[.pointer (some ⟨S,0,none⟩),vx,v,.slice none 0 0,A,C]) vd C (K6 p Z) (bd0 Q2 Z s.1)/\(s.2=false->Q2.take s.1=Z.take s.1)/\(s.2=true->Q2≠Z)) (λs=>p.procs.length-s.1) (0,false) ?_ ?_
  .simp only[B8,simprocAttr];exact⟨tt,ek1 _,bm,by rw[co3];exact s7,λ_=>dP,λh=>by cases h⟩
  clear s7;rintro⟨i,mo⟩ f8 w8 hk ⟨ah,bI,ao,O,aE,aZ⟩;simp only at ah bI ao O aE aZ;simp only[em0,B8,simprocAttr]at hk;obtain⟨c1,c3,cn,_⟩:=hk;rw[b1]at c1;rw[b3]at c3;simp only[eH,simprocAttr,ah,cn];refine A8 (λhc=>?_) (λhc=>?_);rotate_left
  .have F:i=p.procs.length:=by simp at hc;omega
   subst F;rw[cJ9 I.len W.len]at O;rw[en6 (by rw[I.len];exact ek6 _),en6 (by rw[W.len];exact ek6 _)]at aE;cases mo with
   | false=>
    have e:=aE rfl;simp only[i4,simprocAttr];refine⟨((vd,K2),(false,K6 p Z)),?_,ao,?_,?_,λ_=>?_⟩
    .simp only[ba];simp;omega
    .simp only[ba];rw[e]at O;exact O
    .simp only[ba];exact ck
    .simp only[ba];exact⟨cm.trans e,trivial⟩
   | true=>
    have e:=aZ rfl;have q:=a7 e;rw[aK]at q cG;simp only[i4,simprocAttr];refine⟨((vd,K2+1),(true,K6 p Z)),?_,ao,?_,?_,λh=>by cases h⟩
    .simp only[aK];simp;omega
    .simp only[aK];exact O
    .simp only[aK];omega
  have q:i<p.procs.length:=by simpa using hc
  have aq:Q2[i]?=some (F2 (ai1 p (K6 p Z) i)):=by
   rw[<-cm];unfold I2;rw[em8,er5 q];rfl
  have a3:Z[i]?=some (Z[i]'(by rw[W.len];exact q)):=ej0 _;have an:=cK0 (old:=Z) I.len q;rw[a3]at an;have aY:=cK1 I.len W.len q aq;have cM:=dj1 (i:=i) I W;have bN:=cc2 (i:=i) I.len W.len;have bO:Q2.take (i+1)=Q2.take i++[F2 (ai1 p (K6 p Z) i)]:=by rw[ew0,aq];rfl
  have bP:Z.take (i+1)=Z.take i++[Z[i]'(by rw[W.len];exact q)]:=by rw[ew0,a3];rfl
  simp only[i4,simprocAttr,ah,c3];refine y4 (dk8 ⟨z,0,none⟩ ⟨d9 p,L7 p,_,[],List.replicate p.procs.length [],_⟩ p i w8 (cr _ _ _ _ O) ⟨rfl,cM,bJ0 _ _⟩ rfl aI hr hw q) ?_;rintro u9 w9 ⟨ap,aH⟩;simp only[i4,simprocAttr];refine y4 (aq9 ap (ej7 (cB5 hr.may aI c7 i hw q) dQ)) ?_;rintro ar Q ⟨B,am,_⟩;have D:o6 w8 Q:=ap.ext2 aH am;have L:=O.more D;have aB:(F2 (ai1 p (K6 p Z) i)).length<=25:=I.few _ (el0 aq);have aU:(Z[i]'(by rw[W.len];exact q)).length<=25:=W.few _ (ek0 _);have aO:=a3;generalize Z[i]'(by rw[W.len];exact q)=yi at an bP aU aO;generalize F2 (ai1 p (K6 p Z) i)=qi at aq aY bO B aB;have bG:=O.fresh B;have aa:=L.oy.inS (k:=i) om;cases mo with
  | true=>
   obtain⟨bS,q1,N⟩:=L.set (P:=prog) (t:=22) rfl (k:=i) om (u:=ar) (y:=qi) bG (F7 B.isS) b6 bd;rw[aY]at N;have a4:(Instr.loadAt 134 (.pointer (some ⟨z,5,none⟩))).run prog Q = .ok C Q:=F4 (i:=5) L.cb rfl av4;simp only[i4,n9,A0,simprocAttr,ao,ah,c3,a4,aa,q1];refine⟨(i+1,true),om,el1 _ (J2 i om),om,tt,N,(λh=>by cases h),λ_=>aZ rfl⟩
  | false=>
   obtain⟨ur,cP,bM⟩:=bx4 (P:=prog) (t:=22) L.oy an X2;have a4:(Instr.loadAt 134 (.pointer (some ⟨z,5,none⟩))).run prog Q = .ok C Q:=F4 (i:=5) L.cb rfl av4;simp only[i4,n9,A0,simprocAttr,ao,c3,a4,aa,bM];refine y4 (bF1 ar ur qi yi Q (B.rw_ (b7 D)) (A6.mono (B4 _ _) cP) om om) ?_;rintro _ a6 ⟨rfl,aN⟩;have bR:=L.more aN;have aW:=A6.mono (K8 aN (λ_ h=>h.elim) λb h=>.inl h) bG;obtain⟨bS,q1,N⟩:=bR.set (P:=prog) (t:=22) rfl (k:=i) om (u:=ar) (y:=qi) aW (F7 B.isS) b6 bd;rw[aY]at N;have aP:(Instr.loadAt 134 (.pointer (some ⟨z,5,none⟩))).run prog a6 = .ok C a6:=F4 (i:=5) bR.cb rfl av4;rcases ej1 (decide (qi=yi))with he|he
   .have e:=ej3 he;simp only[i4,n9,A0,simprocAttr,he,ah,c3,aP,aa,q1];refine⟨(i+1,false),om,el1 _ (J2 i om),om,tt,N,λ_=>?_,λh=>by cases h⟩;simp only[];rw[bO,bP,aE rfl,e]
   .have e:=ej6 he;simp only[i4,n9,A0,simprocAttr,he,ah,c3,aP,aa,q1];refine⟨(i+1,true),om,el1 _ (J2 i om),om,tt,N,(λh=>by cases h),λ_ h=>e ?_⟩;have h1:=el1 (λl:Rws=>l[i]?) h;simp only[aq,aO]at h1;exact el4 h1
 have aL:=aC hc;have de:L5 p=G5 (I2 p) K2 (List.replicate p.procs.length []):=aE5 K2 1000 _ om aL.1;rw[<-de]at Y aL W;rw[aL.2]at Y;have cI:=W;have dW:P7 (d9 p).l.length 100 (K6 p (L5 p)):=bl0 λit bJ=>aV9 hr.may cI (hr.fits it bJ);clear aC aL a7 aK I;generalize cp:L5 p=o at *;generalize cj:K6 p o=r at *;have bf:E2 (D0 H (nB z vx2 C (A5 A))) (D0 H (nB z (.slice none 0 0) A (λ_=>False))):=K8 (M:=λ_=>False) (p6.refl H) (λ_ h=>h.elim) λb h=>.inl (by
  rcases h with h|h|h|h
  .exact .inl h
  .exact absurd h D8
  .exact .inr (.inr (.inr h))
  .exact h.elim)
 have bC:=(aT.mono Y.base).mono bf;have du:=A6.mono bf (A6.mono Y.base cx);have ds:R (D0 H (nB z (.slice none 0 0) A (λ_=>False))) vx2 r:=Y.ox.ro bf λb a=>E4 λh=>by
  have hd:=Y.dx b a;rcases h with h|h|h|h
  .exact hd.2.1 h
  .exact D8 h
  .exact hd.2.2.2 h
  .exact h.elim
 have dt:R (D0 H (nB z (.slice none 0 0) A (λ_=>False))) C o:=Y.oy.ro bf λb a=>E4 λh=>by
  have hd:=Y.dy b a;rcases h with h|h|h|h
  .exact hd.2.1 h
  .exact D8 h
  .exact hd.2.2 h
  .exact h.elim
 have dn:B0 (D0 H (nB z (.slice none 0 0) A (λ_=>False))) H 22 A (List.replicate p.procs.length ([]:List B3)):=a0.renil (λb a=>G1 (.inr (.inr (.inl a)))) λb a=>(Y.zk b a).trans (cv b a);have da:BM (α:=List B3) (β:=List B3) (D0 H (nB z (.slice none 0 0) A (λ_=>False))) G.drew H H (λ_=>False) z 136 22 22 (λv=>#[.pointer (some ⟨S,0,none⟩),vx,vx2,v,A,C]) (.slice none 0 0) A [] (List.replicate p.procs.length []):=
  ⟨Y.ext,cK,Y.cb,B0.nil _ _ _,dn,λb h=>absurd h D8,λb a=>⟨(bH b a).1,by have:=(bp b (.inl a)).2;omega,id⟩,λb a=>a.elim,λb a=>a.elim,ek6 _,n7 _⟩
 clear Y;have bF:∀(j:World) (vd:Value) (xs ys:Rws),BM (α:=List B3) (β:=List B3) (D0 H (nB z (.slice none 0 0) A (λ_=>False))) G.drew H j (λ_=>False) z 136 22 22 (λv=>#[.pointer (some ⟨S,0,none⟩),vx,vx2,v,A,C]) vd A xs ys->At (i5 j) ⟨z,0,none⟩ (⟨d9 p,L7 p,r,xs,ys,o⟩:Bk):=λj vd xs ys s=>dC3 s.cb (bC.mono s.hb) (A6.mono s.hb du) (A6.mono s.hb ds) s.rx s.ry (A6.mono s.hb dt);obtain⟨_,_,_,bi,_,_,_,dB,_⟩:=bC.sh;have bA:aO7 (U3 p o r) p.procs.length 25:=bq0 hr.may o r λi hi=>cA9 hr hw i hi;simp only[i4,simprocAttr];refine E8 [1,3] (σ:=(Value×Nat)×(Bool×Rws)) (λs f j=>f 10 = .bool s.2.1/\BM (α:=List B3) (β:=List B3) (D0 H (nB z (.slice none 0 0) A (λ_=>False))) G.drew H j (λ_=>False) z 136 22 22 (λv=>#[.pointer (some ⟨S,0,none⟩),vx,vx2,v,A,C]) s.1.1 A s.2.2 (G5 (U3 p o r) s.1.2 (List.replicate p.procs.length []))/\s.1.2<=aJ9 (G5 (U3 p o r) s.1.2 (List.replicate p.procs.length []))/\(s.2.1=false->U3 p o r (G5 (U3 p o r) s.1.2 (List.replicate p.procs.length []))=G5 (U3 p o r) s.1.2 (List.replicate p.procs.length [])/\s.2.2=R5 p (G5 (U3 p o r) s.1.2 (List.replicate p.procs.length [])))) (λs=>if s.2.1 then p.procs.length*25+2-aJ9 (G5 (U3 p o r) s.1.2 (List.replicate p.procs.length []))else 0) ((.slice none 0 0,0),(true,[])) ?_ ?_
 .simp only[B8,simprocAttr];exact⟨tt,da,ek1 _,λh=>by cases h⟩
 clear da;rintro⟨⟨eQ,K3⟩,eJ,eU⟩ eA eR hk ⟨cu,a5,cl,aV⟩;simp only at cu a5 cl aV;simp only[em0,B8,simprocAttr]at hk;obtain⟨c5,bY,_⟩:=hk;rw[cD]at c5;rw[bX]at bY;have ae:=bA.iter_ok K3;have V:=bA.ok (G5 (U3 p o r) K3 (List.replicate p.procs.length []));have b0:=bA.more K3;have ep:=bA.bound K3;have cH:=bA.bound (K3+1);have a9:=aa9 (U3 p o r) K3 (List.replicate p.procs.length []);simp only[i4,simprocAttr,cu];refine A8 (λhc=>?_) (λhc=>?_)
 .subst hc;clear aV;generalize bc:G5 (U3 p o r) K3 (List.replicate p.procs.length [])=U at *;generalize co:U3 p o r U=Q3 at *;obtain⟨cV,z3,cg⟩:=a5.reset (P:=prog) (t:=134) (ix:=3) dP (λv v'=>dP) b8 be;have dz:(Instr.loadAt 132 (.pointer (some ⟨z,0,none⟩))).run prog cV = .ok (.pointer (some ⟨S,0,none⟩)) cV:=F4 (i:=0) cg.cb rfl bK9;have cz:=dB cV cg.hb;simp only[add_lit,en0]at cz;have dg:=bi.isS;have dm:=bi.vlen;simp only[eH,simprocAttr,bY,z3,dz,cz,dg,dm];refine E8 [1,3,10,124,125] (σ:=Nat×Value) (λs f j=>f 126 = .int .i64 s.1/\s.1<=(d9 p).l.length/\BM (α:=List B3) (β:=List B3) (D0 H (nB z (.slice none 0 0) A (λ_=>False))) G.drew H j (λ_=>False) z 136 22 22 (λv=>#[.pointer (some ⟨S,0,none⟩),vx,vx2,v,A,C]) s.2 A (((d9 p).l.take s.1).map λit=>F2 (aw7 p U it.s)) U) (λs=>(d9 p).l.length-s.1) (0,.slice none 0 0) ?_ ?_
  .simp only[B8,simprocAttr];exact⟨tt,ek1 _,cg⟩
  clear cg a5;rintro⟨m,vd⟩ f7 w7 hk ⟨aF,bN,s7⟩;simp only at aF bN s7;simp only[em0,B8,simprocAttr]at hk;obtain⟨b1,b3,bm,bl,bn,_⟩:=hk;rw[c5]at b1;rw[bY]at b3;simp only[eH,simprocAttr,aF,bn];refine A8 (λhc=>?_) (λhc=>?_)
  .have q:m<(d9 p).l.length:=by simpa using hc
   have cL:=bi.inS q;obtain⟨sv,a1,bL⟩:=H1 (P:=prog) (t:=156) bi (s7.hb) (ej0 q) af2 af4 ac9 L4;rw[L4]at bL;have aG:((d9 p).l.take (m+1)).map (λit=>F2 (aw7 p U it.s))=((d9 p).l.take m).map (λit=>F2 (aw7 p U it.s))++[F2 (aw7 p U (d9 p).l[m].s)]:=by
    rw[ej8 q,em6];rfl
   have ag:=hr.fits _ (ek0 q);have aA:=bK _ (ek0 q);have aX:((((d9 p).l.take m).map λit=>F2 (aw7 p U it.s))).length<=200:=by rw[ek2,ek3];omega
   generalize(d9 p).l[m]=it at a1 aG ag aA;generalize((d9 p).l.take m).map (λit=>F2 (aw7 p U it.s))=xs at s7 aG aX;obtain⟨d,ej,w8,cJ,cO,cQ,bD⟩:=aY4 (w:=w7) (A5 vd) a1 (λb a=>s7.ox.lt a);obtain⟨us,bQ,bE,_,_⟩:=L8.it a1 bD;have O:=(s7.more cQ).more (o6.drew w8);have bq:∀j,p6 (A5 vd) w8.drew j->j.heap[z]?=some (.cells ((λv=>#[.pointer (some ⟨S,0,none⟩),vx,vx2,v,A,C]) vd) 136 (0,0)):=λj hm=>(hm.block z (ej4.1 O.cb).1 λh=>(O.dx z h).2.1 rfl).trans O.cb;have k2:∀K f d w0,F8 prog (λj=>p6 (A5 vd) w8.drew j) (Instr.loadAt 134 (.pointer (some ⟨z,3,none⟩))) K f d w0=K (C5 f d vd) w0:=λK f d w0=>B7 (w0:=w8.drew) (p6.refl _) λj h=>F4 (i:=3) (bq j h) rfl av4;have k3:=(L8.st_v bQ bE).2 (λj=>p6 (A5 vd) w8.drew j) w8.drew (p6.refl _) λj h=>F3 ((p6.up (M:=A5 vd) (o6.drew w8)).trans h);simp only[i4,n9,A0,simprocAttr,aF,bl,cL,bL,cJ,cO];refine C0 (λj=>p6 (A5 vd) w8.drew j) 12 (A7 [0,1,2,3,4,5,6,7,8,9,10,11]) ?_;simp only[D7,A7,i4,n9,simprocAttr,b3,k2,k3];refine y4 (dq7 ⟨z,0,none⟩ ⟨d9 p,L7 p,r,_,_,o⟩ p us it.s w8.drew (bF _ _ _ _ O) ⟨rfl,cI,ae⟩ hr.may (bQ.mono O.hb) aA ag) ?_;rintro u9 w9 ⟨ap,aH⟩;refine⟨p6.up aH,?_⟩;simp only[fc,simprocAttr];refine y4 (aq9 ap (ej7 (bu0 ae aA) dQ)) ?_;rintro ar Q ⟨B,am,_⟩;have D:o6 w8.drew Q:=ap.ext2 aH am;refine⟨p6.up D,?_⟩;have L:=O.more D;obtain⟨p1,cT,a6,bS,p2,p3,N,p4⟩:=L.push (P:=prog) (e:=134) cL6 rfl (x:=ar) (y:=F2 (aw7 p U it.s)) (by rw[F7 B.isS];exact O.fresh B) om om (ix:=3) dP (λv v'=>dP) b8 be;rw[F7 B.isS]at p1 p2;simp only[fd,simprocAttr,p1,p2,G0];refine⟨(p6.up D).trans (p6.up (o6.alloc _ _)),(p6.up D).trans p4,?_⟩;simp only[eH,simprocAttr,aF,p3];refine⟨(m+1,cT),om,el1 _ (J2 m om),om,?_⟩;simp only[];rw[aG];exact N
  have F:m=(d9 p).l.length:=by simp at hc;omega
  subst F;rw[ek4]at s7;have bx:((d9 p).l.map λit=>F2 (aw7 p U it.s))=R5 p U:=rfl;rw[bx]at s7;have aI:P7 (d9 p).l.length 2000000 (R5 p U):=bl0 λit bJ=>bu0 ae (bK it bJ);have cS:=cR w7 (b7 (X.trans s7.ext));simp only[eH,simprocAttr,b1,cS,a8,bg];refine E8 [1,3,147] (σ:=Nat×Bool) (λs f j=>f 148 = .int .i64 s.1/\s.1<=p.procs.length/\f 10 = .bool s.2/\BM (α:=List B3) (β:=List B3) (D0 H (nB z (.slice none 0 0) A (λ_=>False))) G.drew H j (λ_=>False) z 136 22 22 (λv=>#[.pointer (some ⟨S,0,none⟩),vx,vx2,v,A,C]) vd A (R5 p U) (bd0 Q3 U s.1)/\(s.2=false->Q3.take s.1=U.take s.1)/\(s.2=true->Q3≠U)) (λs=>p.procs.length-s.1) (0,false) ?_ ?_
  .simp only[B8,simprocAttr];exact⟨tt,ek1 _,bm,by rw[co3];exact s7,λ_=>dP,λh=>by cases h⟩
  clear s7;rintro⟨i,mo⟩ f8 w8 hk ⟨ah,bI,ao,O,aE,aZ⟩;simp only at ah bI ao O aE aZ;simp only[em0,B8,simprocAttr]at hk;obtain⟨c1,c3,cn,_⟩:=hk;rw[b1]at c1;rw[b3]at c3;simp only[eH,simprocAttr,ah,cn];refine A8 (λhc=>?_) (λhc=>?_);rotate_left
  .have F:i=p.procs.length:=by simp at hc;omega
   subst F;rw[cJ9 V.len ae.len]at O;rw[en6 (by rw[V.len];exact ek6 _),en6 (by rw[ae.len];exact ek6 _)]at aE;cases mo with
   | false=>
    have e:=aE rfl;simp only[i4,simprocAttr];refine⟨((vd,K3),(false,R5 p U)),?_,ao,?_,?_,λ_=>?_⟩
    .simp only[bc];simp;omega
    .simp only[bc];rw[e]at O;exact O
    .simp only[bc];exact cl
    .simp only[bc];exact⟨co.trans e,trivial⟩
   | true=>
    have e:=aZ rfl;have q:=b0 e;rw[a9]at q cH;simp only[i4,simprocAttr];refine⟨((vd,K3+1),(true,R5 p U)),?_,ao,?_,?_,λh=>by cases h⟩
    .simp only[a9];simp;omega
    .simp only[a9];exact O
    .simp only[a9];omega
  have q:i<p.procs.length:=by simpa using hc
  have aq:Q3[i]?=some (F2 (aP3 p o (R5 p U) r i)):=by
   rw[<-co];unfold U3;rw[em8,er5 q];rfl
  have a3:U[i]?=some (U[i]'(by rw[ae.len];exact q)):=ej0 _;have an:=cK0 (old:=U) V.len q;rw[a3]at an;have aY:=cK1 V.len ae.len q aq;have cM:=dj1 (i:=i) V ae;have bN:=cc2 (i:=i) V.len ae.len;have bO:Q3.take (i+1)=Q3.take i++[F2 (aP3 p o (R5 p U) r i)]:=by rw[ew0,aq];rfl
  have bP:U.take (i+1)=U.take i++[U[i]'(by rw[ae.len];exact q)]:=by rw[ew0,a3];rfl
  simp only[i4,simprocAttr,ah,c3];refine y4 (dx3 ⟨z,0,none⟩ ⟨d9 p,L7 p,r,_,_,o⟩ p i w8 (bF _ _ _ _ O) ⟨rfl,cI,cM⟩ rfl dW aI hr hw q) ?_;rintro u9 w9 ⟨ap,aH⟩;simp only[i4,simprocAttr];refine y4 (aq9 ap (ej7 (cT5 hr.may o (R5 p U) r i) dQ)) ?_;rintro ar Q ⟨B,am,_⟩;have D:o6 w8 Q:=ap.ext2 aH am;have L:=O.more D;have aB:(F2 (aP3 p o (R5 p U) r i)).length<=25:=V.few _ (el0 aq);have aU:(U[i]'(by rw[ae.len];exact q)).length<=25:=ae.few _ (ek0 _);have aO:=a3;generalize U[i]'(by rw[ae.len];exact q)=yi at an bP aU aO;generalize F2 (aP3 p o (R5 p U) r i)=qi at aq aY bO B aB;have bG:=O.fresh B;have aa:=L.oy.inS (k:=i) om;cases mo with
  | true=>
   obtain⟨bS,q1,N⟩:=L.set (P:=prog) (t:=22) rfl (k:=i) om (u:=ar) (y:=qi) bG (F7 B.isS) b6 bd;rw[aY]at N;have a4:(Instr.loadAt 134 (.pointer (some ⟨z,4,none⟩))).run prog Q = .ok A Q:=F4 (i:=4) L.cb rfl av4;simp only[i4,n9,A0,simprocAttr,ao,ah,c3,a4,aa,q1];refine⟨(i+1,true),om,el1 _ (J2 i om),om,tt,N,(λh=>by cases h),λ_=>aZ rfl⟩
  | false=>
   obtain⟨ur,cP,bM⟩:=bx4 (P:=prog) (t:=22) L.oy an X2;have a4:(Instr.loadAt 134 (.pointer (some ⟨z,4,none⟩))).run prog Q = .ok A Q:=F4 (i:=4) L.cb rfl av4;simp only[i4,n9,A0,simprocAttr,ao,c3,a4,aa,bM];refine y4 (bF1 ar ur qi yi Q (B.rw_ (b7 D)) (A6.mono (B4 _ _) cP) om om) ?_;rintro _ a6 ⟨rfl,aN⟩;have bR:=L.more aN;have aW:=A6.mono (K8 aN (λ_ h=>h.elim) λb h=>.inl h) bG;obtain⟨bS,q1,N⟩:=bR.set (P:=prog) (t:=22) rfl (k:=i) om (u:=ar) (y:=qi) aW (F7 B.isS) b6 bd;rw[aY]at N;have aP:(Instr.loadAt 134 (.pointer (some ⟨z,4,none⟩))).run prog a6 = .ok A a6:=F4 (i:=4) bR.cb rfl av4;rcases ej1 (decide (qi=yi))with he|he
   .have e:=ej3 he;simp only[i4,n9,A0,simprocAttr,he,ah,c3,aP,aa,q1];refine⟨(i+1,false),om,el1 _ (J2 i om),om,tt,N,λ_=>?_,λh=>by cases h⟩;simp only[];rw[bO,bP,aE rfl,e]
   .have e:=ej6 he;simp only[i4,n9,A0,simprocAttr,he,ah,c3,aP,aa,q1];refine⟨(i+1,true),om,el1 _ (J2 i om),om,tt,N,(λh=>by cases h),λ_ h=>e ?_⟩;have h1:=el1 (λl:Rws=>l[i]?) h;simp only[aq,aO]at h1;exact el4 h1
 have aL:=aV hc;have db:ah9 p=G5 (U3 p o r) K3 (List.replicate p.procs.length []):=by
  unfold ah9;rw[cp,cj];exact aE5 K3 1000 _ om aL.1
 rw[<-db]at a5 aL;rw[aL.2]at a5;have b4:b9 p=⟨d9 p,L7 p,r,R5 p (ah9 p),ah9 p,o⟩:=by
  unfold b9;rw[cp,cj]
 simp only[i4,simprocAttr,bY];exact o8 results83 ⟨λh=>(by cases h),λ_=>⟨_,rfl,by rw[b4];exact bF _ _ _ _ a5⟩,dv.trans (X.trans a5.ext)⟩
def bI3{p:Pg}(hm:O6 p=true):∃k,L5 p=G5 (I2 p) k (List.replicate p.procs.length [])/\I2 p (L5 p)=L5 p:=by
 have c:=bd2 hm;have g:=(Z1 hm).2;have a:∀m,(∃k,k<=m/\I2 p (G5 (I2 p) k (List.replicate p.procs.length []))=G5 (I2 p) k (List.replicate p.procs.length []))\/m<=aJ9 (G5 (I2 p) m (List.replicate p.procs.length [])):=λm=>by
  induction m with
  | zero=>exact .inr (ek1 _)
  | succ m d=>
   rcases d with⟨k,f,e⟩|d
   .exact .inl ⟨k,om,e⟩
   .by_cases e:I2 p (G5 (I2 p) m (List.replicate p.procs.length []))=G5 (I2 p) m (List.replicate p.procs.length [])
    .exact .inl ⟨m,om,e⟩
    .have:=c.more m e;exact .inr om
 rcases a 500 with⟨k,f,e⟩|h
 .have b:L5 p=G5 (I2 p) k (List.replicate p.procs.length []):=aE5 k 1000 _ om e;exact⟨k,b,by rw[b];exact e⟩
 .have:=c.bound 500;omega
def cJ2{p:Pg}(b:E6 p)(hw:C4 p<=1000000):∃k,ah9 p=G5 (U3 p (L5 p) (K6 p (L5 p))) k (List.replicate p.procs.length [])/\U3 p (L5 p) (K6 p (L5 p)) (ah9 p)=ah9 p:=by
 have a:=bq0 b.may (L5 p) (K6 p (L5 p)) λi j=>cA9 b hw i j;have n:=(Z1 b.may).2;generalize g:U3 p (L5 p) (K6 p (L5 p))=G at a;have c:∀m,(∃k,k<=m/\G (G5 G k (List.replicate p.procs.length []))=G5 G k (List.replicate p.procs.length []))\/m<=aJ9 (G5 G m (List.replicate p.procs.length [])):=λm=>by
  induction m with
  | zero=>exact .inr (ek1 _)
  | succ m f=>
   rcases f with⟨k,l,e⟩|f
   .exact .inl ⟨k,om,e⟩
   .by_cases e:G (G5 G m (List.replicate p.procs.length []))=G5 G m (List.replicate p.procs.length [])
    .exact .inl ⟨m,om,e⟩
    .have:=a.more m e;exact .inr om
 rcases c 500 with⟨k,l,e⟩|h
 .have d:ah9 p=G5 G k (List.replicate p.procs.length []):=by
   unfold ah9;rw[g];exact aE5 k 1000 _ om e
  exact⟨k,d,by rw[d];exact e⟩
 .have:=a.bound 500;omega
def aJ2{p:Pg}(hm:O6 p=true):P7 p.procs.length 25 (L5 p):=by
 obtain⟨k,e,_⟩:=bI3 hm;rw[e];exact(bd2 hm).iter_ok k
def aW6{p:Pg}(a:E6 p)(hw:C4 p<=1000000):P7 p.procs.length 25 (ah9 p):=by
 obtain⟨k,e,_⟩:=cJ2 a hw;rw[e];exact(bq0 a.may (L5 p) (K6 p (L5 p)) λi b=>cA9 a hw i b).iter_ok k
def bP7{p:Pg}(b:E6 p)(hw:C4 p<=1000000):P7 (d9 p).l.length 100 (b9 p).defs:=bl0 λit a=>aV9 b.may (aJ2 b.may) (b.fits it a)
def bP8{p:Pg}(b:E6 p)(hw:C4 p<=1000000):P7 (d9 p).l.length 2000000 (b9 p).uses:=bl0 λit a=>bu0 (aW6 b hw) (ao1 p hw it a)
def O9{p:Pg}{i:Nat}(a:i<p.procs.length):(b9 p).way (i:Int)=F5 (d9 p) i:=by
 unfold Bk.way;rw[el5];exact ca9 (aa1 a)
def U1{p:Pg}{i:Nat}(a:i<p.procs.length):(b9 p).s.fn (i:Int)=p.procs[i]:=by
 have e:(b9 p).s=d9 p:=rfl;rw[e];unfold Sh.fn;rw[N7,el5,List.getD,ej0 a];rfl
def aU0{α β:Type}(g:α->β)(l:List α){k:Nat}(a:k<l.length):(l.take (k+1)).map g=(l.take k).map g++[g l[k]]:=by
 rw[ej8 a,em6];rfl
def aq7{p:Pg}{i x y:Nat}{wy:Wy}(a:aw9 p i x y wy){k:Nat}(b:k≠0)(d:(k:Int)<wy.n-1):∃q:Nat,wy.place (k:Int)-1=(q:Int)/\q<(d9 p).l.length/\wy.place (k:Int)=(q:Int)+1/\(x:Int)<(q:Int)+1/\(q:Int)+1<=(y:Int):=by
 have f:=a.n;have c:=a.part.ok.len;have e:wy.place (k:Int)=(x:Int)+1+k-1:=by
  rw[a.toWyOk.place,if_neg om,if_neg om]
 exact⟨x+k-1,om,om,om,om,om⟩
def cN8(h:Hp)(a:Addr)(p:Pg)(i k:Nat)(w:World)(ha:At h a (b9 p))(L:E2 h (i5 w))(hr:E6 p)(hw:C4 p<=1000000)(E:i<p.procs.length)(hk:(k:Int)<(F5 (d9 p) i).n):
  y5 prog 274 #[.pointer (some a),.int .i64 i,.int .i64 k] w λu o=>(R (bG4 h w o) u ((b9 p).gives i k)/\o6 w o):=by
 refine z6 [.pointer (some a),.int .i64 i,.int .i64 k] func274 rfl ?_;obtain⟨x,pt⟩:=K9 hr.may hw i E;have A:=U4 pt;generalize x+B2 p.procs[i].body=y at pt A;have be:=J8 hr.may;have r:(b9 p).gives (i:Int) (k:Int)=if(k:Int)=0 then F2 (I8 (ah9 p) (i:Int)++p.procs[i].params.map (·.name))else if(k:Int)=(F5 (d9 p) i).n-1\/atB (F5 (d9 p) i).live (k:Int)=false then[]else I8 (K6 p (L5 p)) ((F5 (d9 p) i).place (k:Int)-1):=by
  unfold Bk.gives;rw[O9 E,U1 E];rfl
 obtain⟨sh,vw,vd,_,vi,_,has,ar,ao,_,ap,_,au,bc⟩:=ha.book rfl;obtain⟨_,_,_,_,_,_,aj,_,_⟩:=has.sh;rw[N7]at aj;obtain⟨vg,vp,bn,aq,a6,bu⟩:=aj.pg;obtain⟨aw,aJ,D⟩:=aC0 (hv:=ar) (k:=i) (p:=⟨F5 (d9 p) i⟩) (by show((L7 p).map λw=>(⟨w⟩:Ptr Wy))[i]?=_;rw[em8,aa1 E];rfl);simp only at D;have v:=ar.inS (k:=i) (by show i<((L7 p).map λw=>(⟨w⟩:Ptr Wy)).length;unfold L7;simpa using E);have lb:=au w L;have F:=J7 (P:=prog) (t:=160) aJ L aD2;have c:∀o,o6 w o->E2 h (i5 o):=λo hx=>p7 L (b7 hx);have hn:=A.n;have bf:=pt.ok.len;rcases Nat.eq_zero_or_pos k with ag|ag
 .subst ag;rw[if_pos tt]at r;obtain⟨C,W,ac⟩:=(aW6 hr hw).row E;generalize I8 (ah9 p) (i:Int)=J at C W ac r;obtain⟨ui,a0,aI⟩:=R.row ap (show(b9 p).ins[i]?=some J from C);have ae:=ap.inS (k:=i) (show i<(ah9 p).length from(ej5.1 C).1);have aQ:=J7 (P:=prog) (t:=22) aI L X2;simp only[i4,n9,A0,simprocAttr,lb,v,F,ae,aQ];refine y4 (aA3 ui J w (A6.mono L a0) om) ?_;rintro u2 w2 ⟨aU,H⟩;have a4:=au w2 (c w2 H);have a9:=a6 w2 (c w2 H);have K:=aq.at_ (i:=i) (x:=p.procs[i]) (ej0 E);have af:=aq.inS (k:=i) E;have a3:A6.sz Pr=5:=rfl;rw[a3]at K;obtain⟨bA,_,_,_,l,_,_,_,a7,_⟩:=K.pr;have ba:=a7 w2 (c w2 H);have aW:=V2 hr.may E;generalize p.procs[i].params=n at l aW r;have aE:=l.isS;have aT:=l.vlen;simp only[i4,n9,A0,simprocAttr,a4,a9,af,ba,aE,aT];refine E8 [40,41] (σ:=Nat×Value) (λs f o=>f 42 = .int .i64 s.1/\f 8=s.2/\s.1<=n.length/\B0 (i5 w) o 9 s.2 (J++(n.take s.1).map (·.name))/\o6 w o) (λs=>n.length-s.1) (0,u2) ?_ ?_
  .simp only[B8,simprocAttr];exact⟨tt,tt,ek1 _,by simpa using aU,H⟩
  rintro⟨j,u⟩ f w3 hk ⟨O,h8,aN,ho,m⟩;simp only at O h8 aN ho;simp only[em0,B8,simprocAttr]at hk;obtain⟨aB,aC,_⟩:=hk;simp only[eH,simprocAttr,O,aC];refine A8 (λhc=>?_) (λhc=>?_)
  .have V:j<n.length:=by simpa using hc
   have aM:=l.inS V;obtain⟨sv,am,ah⟩:=H1 (P:=prog) (t:=72) l (c w3 m) (ej0 V) bL2 bL7 bz0 aD4;rw[aD4]at ah;have an:=aU0 (λq:Pa=>q.name) n V;generalize n[j]=pa at am an;obtain⟨d,wz,w4,aF,aY,I,Q⟩:=aY2 (am.mono (c w3 m)) (n7 _);obtain⟨a5,_⟩:=Q.pa;have l4:=a5 w4 (n7 _);obtain⟨p1,u5,w5,p2,p3,p4,p5⟩:=pushS (e:=22) (ho.ext I) pa.name (by rw[ej2,ek2,ek3];omega) (b7 (m.trans I));simp only[i4,n9,A0,simprocAttr,O,h8,aB,aM,ah,aF,aY,l4,p1,p2];refine⟨(j+1,u5),om,el1 _ (J2 j om),tt,om,?_,(ho.ext I).ext2 (m.trans I) p4⟩;simp only[];rw[an,<-el9];exact p3
  .have aL:j=n.length:=by simp at hc;omega
   subst aL;rw[ek4]at ho;simp only[i4,simprocAttr,h8];refine y4 (aq9 ho (by rw[ej2,ek2];omega)) ?_;rintro u6 w6 ⟨aV,aR,_⟩;simp only[i4,simprocAttr];refine o8 results274 ?_;simp only[B8,simprocAttr];have e:(b9 p).gives (i:Int) 0=F2 (J++n.map (·.name)):=r;exact⟨by rw[e];exact aV.upR,ho.ext2 m aR⟩
 have B:decide ((k:Int)=0)=false:=by simp;omega
 rw[if_neg om]at r;have z:=λh0 aO=>aq7 A (k:=k) h0 aO;have U:=A.live;obtain⟨_,_,vl,_,_,X,a8,bd⟩:=D.wy;have lw:=a8 w L;have G:IntKind.i64.wrap ((F5 (d9 p) i).n-1)=(F5 (d9 p) i).n-1:=M7 _ om;generalize bj:F5 (d9 p) i=Z at A hn r z U X lw G hk D bd;rcases ej1 (decide ((k:Int)=Z.n-1))with hq|hq
 .rw[if_pos (.inl (ej3 hq))]at r;simp only[i4,n9,A0,simprocAttr,lb,v,F,B,lw,G,hq];exact o8 results274 ⟨by rw[r];exact bq6 _,p6.refl _⟩
 have T:k<Z.live.length:=om
 have M:=X.inS T;have g:=ldB X L T;have Q:Z.live[k]=atB Z.live (k:Int):=by
  unfold atB;rw[el5,List.getD,ej0 T];rfl
 rw[Q]at g;have aS:=ej6 hq;rcases ej1 (atB Z.live (k:Int))with hl|hl;rotate_left
 .rw[if_pos (.inr hl)]at r;rw[hl]at g;simp only[i4,n9,A0,simprocAttr,lb,v,F,B,lw,G,hq,M,g];exact o8 results274 ⟨by rw[r];exact bq6 _,p6.refl _⟩
 rw[if_neg (by rw[hl];simp[aS])]at r;rw[hl]at g;obtain⟨q,ak,aX,bm,_⟩:=z om om;rw[ak]at r;obtain⟨S,av,aK⟩:=(bP7 hr hw).row aX;have b:(K6 p (L5 p))[q]?=some (I8 (K6 p (L5 p)) (q:Int)):=S;generalize I8 (K6 p (L5 p)) (q:Int)=dr at b r;obtain⟨ud,aZ,aH⟩:=R.row ao (show(b9 p).defs[q]?=some dr from b);have ad:=ao.inS (k:=q) (show q<(K6 p (L5 p)).length from(ej5.1 b).1);have Y:=o6.drew w;have t1:=bc (λo=>o6 w.drew o) w.drew (p6.refl _) λo hx=>c o (Y.trans hx);simp only[i4,n9,A0,simprocAttr,lb,v,F,B,lw,G,hq,M,g];refine C0 (λo=>o6 w.drew o) 8 (A7 [0,1,2,3,4,5,6,7]) ?_;simp only[D7,A7,i4,n9,simprocAttr,t1];refine B6 (ak9 aw Z p i x y (k:Int) w.drew (D.mono (c _ Y)) A.toWyOk om) (λw3 m=>⟨m,?_⟩);have a1:IntKind.i64.wrap (Z.place (k:Int)-1)=(q:Int):=by rw[ak];exact M7 _ om
 have N:=Y.trans m;have aP:=J7 (P:=prog) (t:=22) aH (c w3 N) X2;simp only[D7,i4,n9,A0,simprocAttr,a1,ad,aP];exact o8 results274 ⟨by rw[r];exact A6.mono (bS6 L) aZ,N⟩
def cO4(h:Hp)(a:Addr)(p:Pg)(i k:Nat)(w:World)(ha:At h a (b9 p))(v:E2 h (i5 w))(Y:E6 p)(hw:C4 p<=1000000)(K:i<p.procs.length)(hk:(k:Int)<(F5 (d9 p) i).n):
  y5 prog 212 #[.pointer (some a),.int .i64 i,.int .i64 k] w λu l=>(R (bG4 h w l) u ((b9 p).takes i k)/\o6 w l):=by
 refine z6 [.pointer (some a),.int .i64 i,.int .i64 k] func212 rfl ?_;obtain⟨x,pt⟩:=K9 Y.may hw i K;have j:=U4 pt;generalize x+B2 p.procs[i].body=y at pt j;have aB:=J8 Y.may;have g:(b9 p).takes (i:Int) (k:Int)=if(k:Int)=(F5 (d9 p) i).n-1 then F2 (I8 (L5 p) (i:Int)++[V8])else if(k:Int)=0\/atB (F5 (d9 p) i).live (k:Int)=false then[]else I8 (R5 p (ah9 p)) ((F5 (d9 p) i).place (k:Int)-1):=by
  unfold Bk.takes;rw[O9 K];rfl
 obtain⟨sh,vw,_,vu,_,vo,has,T,_,S,_,Q,av,az⟩:=ha.book rfl;obtain⟨aw,af,o⟩:=aC0 (hv:=T) (k:=i) (p:=⟨F5 (d9 p) i⟩) (by show((L7 p).map λw=>(⟨w⟩:Ptr Wy))[i]?=_;rw[em8,aa1 K];rfl);simp only at o;have d:=T.inS (k:=i) (by show i<((L7 p).map λw=>(⟨w⟩:Ptr Wy)).length;unfold L7;simpa using K);have Z:=av w v;have r:=J7 (P:=prog) (t:=160) af v aD2;have C:∀l,o6 w l->E2 h (i5 l):=λl hx=>p7 v (b7 hx);have hn:=j.n;have aD:=pt.ok.len;have aC:=pt.ok.le;have f:=λs ag=>aq7 j (k:=k) s ag;have E:=j.live;obtain⟨_,_,vl,_,_,G,ax,aA⟩:=o.wy;have W:=ax w v;have n:IntKind.i64.wrap ((F5 (d9 p) i).n-1)=(F5 (d9 p) i).n-1:=M7 _ om;generalize aH:F5 (d9 p) i=I at j hn g f E G W n hk o aA;rcases ej1 (decide ((k:Int)=I.n-1))with hq|hq
 .rw[if_pos (ej3 hq)]at g;obtain⟨m,F,J⟩:=(aJ2 Y.may).row K;generalize I8 (L5 p) (i:Int)=X at m F J g;obtain⟨ui,aq,ae⟩:=R.row Q (show(b9 p).outs[i]?=some X from m);have M:=Q.inS (k:=i) (show i<(L5 p).length from(ej5.1 m).1);have aj:=J7 (P:=prog) (t:=22) ae v X2;simp only[i4,n9,A0,simprocAttr,Z,d,r,W,n,hq,M,aj];refine y4 (aA3 ui X w (A6.mono v aq) om) ?_;rintro u2 w2 ⟨N,U⟩;obtain⟨p1,u5,w5,p2,p3,p4,p5⟩:=pushS (e:=22) N V8 om (b7 U);have ay:(Instr.buildSlice 22 1 #[(0,.string ⟨#[36,114,101,116]⟩)]).run prog w2=_:=p1;simp only[i4,simprocAttr,ay,p2];refine y4 (aq9 p3 (by rw[ej2,em3];omega)) ?_;rintro u6 w6 ⟨am,ak,_⟩;simp only[i4,simprocAttr];exact o8 results212 ⟨by rw[g];exact am.upR,p3.ext2 (N.ext2 U p4) ak⟩
 have al:=ej6 hq;rw[if_neg al]at g;rcases ej1 (decide ((k:Int)=0))with s|s
 .rw[if_pos (.inl (ej3 s))]at g;simp only[i4,n9,A0,simprocAttr,Z,d,r,W,n,hq,s];exact o8 results212 ⟨by rw[g];exact bq6 _,p6.refl _⟩
 have ab:=ej6 s;have D:k<I.live.length:=om
 have z:=G.inS D;have c:=ldB G v D;have ac:I.live[k]=atB I.live (k:Int):=by
  unfold atB;rw[el5,List.getD,ej0 D];rfl
 rw[ac]at c;rcases ej1 (atB I.live (k:Int))with hl|hl;rotate_left
 .rw[if_pos (.inr hl)]at g;rw[hl]at c;simp only[i4,n9,A0,simprocAttr,Z,d,r,s,W,n,hq,z,c];exact o8 results212 ⟨by rw[g];exact bq6 _,p6.refl _⟩
 rw[if_neg (λan=>an.elim ab λe=>by rw[hl]at e;cases e)]at g;rw[hl]at c;obtain⟨q,O,ao,aL,_⟩:=f om om;rw[O]at g;obtain⟨B,_,_⟩:=(bP8 Y hw).row ao;have b:(R5 p (ah9 p))[q]?=some (I8 (R5 p (ah9 p)) (q:Int)):=B;generalize I8 (R5 p (ah9 p)) (q:Int)=dr at b g;obtain⟨ud,ap,ad⟩:=R.row S (show(b9 p).uses[q]?=some dr from b);have L:=S.inS (k:=q) (show q<(R5 p (ah9 p)).length from(ej5.1 b).1);have H:=o6.drew w;have t1:=az (λl=>o6 w.drew l) w.drew (p6.refl _) λl hx=>C l (H.trans hx);simp only[i4,n9,A0,simprocAttr,Z,d,r,s,W,n,hq,z,c];refine C0 (λl=>o6 w.drew l) 8 (A7 [0,1,2,3,4,5,6,7]) ?_;simp only[D7,A7,i4,n9,simprocAttr,t1];refine B6 (ak9 aw I p i x y (k:Int) w.drew (o.mono (C _ H)) j.toWyOk om) (λw3 V=>⟨V,?_⟩);have ar:IntKind.i64.wrap (I.place (k:Int)-1)=(q:Int):=by rw[O];exact M7 _ om
 have A:=H.trans V;have ah:=J7 (P:=prog) (t:=22) ad (C w3 A) X2;simp only[D7,i4,n9,A0,simprocAttr,ar,L,ah];exact o8 results212 ⟨by rw[g];exact A6.mono (bS6 v) ap,A⟩
def cV7{α:Type}{l:List α}(h:l.Nodup){i j:Nat}(c:i<l.length)(d:j<l.length)(e:l[i]=l[j]):i=j:=by
 refine ew2 λa=>?_;have b:=ep5.1 h;rcases Nat.lt_or_gt_of_ne a with h|h
 .exact b i j c d h e
 .exact b j i d c h e.symm
def aM6{n:B3}(h:V0 n=true):n≠ah4/\n≠V8/\n≠e0:=by
 refine⟨?_,?_,?_⟩<;>rintro rfl<;>exact absurd h dQ
def ce5:ah4≠V8/\ah4≠e0/\V8≠e0:=dQ
def cp9{p:Pg}(hm:O6 p=true){i:Nat}(e:i<p.procs.length):∃n m,Z9 p.procs[i] n=some m:=by
 unfold O6 at hm;rw[el3]at hm;have b:∀(l:List Pr) (n:Int),(l.foldlM (λn f=>Z9 f n) n).isSome=true->∀f∈l,∃n m,Z9 f n=some m:=by
  intro l
  induction l with
  | nil=>intro n _ f a;simp at a
  | cons g l o=>
   intro n h f a;rw[List.foldlM_cons]at h;obtain⟨k,j⟩:=eo6.1 h;obtain⟨m,c,d⟩:=eq6.1 j;rcases ek9.1 a with rfl|a
   .exact⟨n,m,c⟩
   .exact o m (by rw[d];rfl) f a
 exact b _ _ hm.2 _ (ek0 e)
def bx7{f:Pr}{n m:Int}(h:Z9 f n=some m):V0 f.name=true/\(∀a∈f.params,V0 a.name=true)/\(∀v∈f.vars,V0 v=true)/\L3 12 f.body n=some m:=by
 unfold Z9 at h;split at h
 .cases h
 .rename_i b;simp only[not_or,Bool.not_eq_false]at b;refine⟨b.2.2.1,?_,?_,h⟩
  .have:=b.2.2.2.2.2;rw[eq9]at this;exact this
  .have:=b.2.2.2.1;unfold ak3 at this;rw[eq9]at this;exact this
def cn8{p:Pg}(hm:O6 p=true){i:Nat}(e:i<p.procs.length):V0 p.procs[i].name=true/\(∀a∈p.procs[i].params,V0 a.name=true)/\(∀v∈p.procs[i].vars,V0 v=true):=by
 obtain⟨n,m,h⟩:=cp9 hm e;obtain⟨b,c,d,_⟩:=bx7 h;exact⟨b,c,d⟩
def cn7{p:Pg}(hm:O6 p=true):∀n∈p.globals,V0 n=true:=by
 unfold O6 at hm;simp only[el3]at hm;have:=hm.1.2;unfold ak3 at this;rw[eq9]at this;exact this
mutual
def dw7:∀(t:St) (d:Nat) (n m:Int),aa8 t=true->((L3 d t.thn n).bind λm=>L3 d t.els m)=some m->∀(k:Nat) (f g e b:Int),∀it∈ac7 t k f g e b,aa8 it.s=true
 | .mk id kind labels name proc x has args thn els,d,n,m,hf,h,k,f,g,e,b,it,a=>by
  simp only[St.thn,St.els]at h;obtain⟨c,i,j⟩:=eq6.1 h;rw[U6]at a;rcases ek9.1 a with rfl|a
  .exact hf
  .rcases ej9.1 a with a|a
   .exact bh0 thn d n c i _ _ _ _ _ it a
   .exact bh0 els d c m j _ _ _ _ _ it a
def bh0:∀(l:List St) (d:Nat) (n m:Int),L3 d l n=some m->∀(k:Nat) (e f c b:Int),∀it∈E5 l k e f c b,aa8 it.s=true
 | [],d,n,m,h,k,e,f,c,b,it,a=>by simp[E5]at a
 | t::l,0,n,m,h,k,e,f,c,b,it,a=>by simp[L3]at h
 | t::l,d+1,n,m,h,k,e,f,c,b,it,a=>by
  rw[aN5]at h;obtain⟨j,g,o⟩:=eq6.1 h;split at g
  .cases g
  .rename_i i;simp only[not_or,Bool.not_eq_false]at i;rw[E5]at a;rcases ej9.1 a with a|a
   .exact dw7 t d (n+1) j i.2.2.2 g _ _ _ _ _ it a
   .exact bh0 l (d+1) j m o _ _ _ _ _ it a
end
def cA5{p:Pg}(hm:O6 p=true){i:Nat}(b:i<p.procs.length)(hw:C4 p<=1000000):∀it∈(d9 p).of i,aa8 it.s=true:=by
 obtain⟨x,_,a⟩:=ab9 p hw i b;obtain⟨n,m,h⟩:=cp9 hm b;intro it hit;rw[a]at hit;exact bh0 _ _ _ _ (bx7 h).2.2.2 _ _ _ _ _ it hit
def bv6{s:St}(h:aa8 s=true):∀a∈s.args,a.ref=true->V0 a.name=true:=by
 unfold aa8 at h;split at h
 .cases h
 .simp only[el3]at h;have:=h.2;unfold aW3 at this;rw[eq9]at this;intro a b c;have:=this a b;rw[el3]at this;have:=this.1;unfold ae3 at this;rw[c]at this;simpa using this
def bw9{p:Pg}(hm:O6 p=true){it:It}(a:it∈(d9 p).l):(d9 p).l[(it.s.id-1).toNat]?=some it/\(d9 p).it it.s.id=it/\1<=it.s.id:=by
 obtain⟨j,b⟩:=es8.1 a;have h:=aJ7 hm j it b;have e:(it.s.id-1).toNat=j:=om
 refine⟨by rw[e];exact b,?_,om⟩;unfold Sh.it;rw[e,List.getD,b];rfl
def aZ3{p:Pg}{i x y:Nat}(b:az7 p i x y){it:It}(a:it∈(d9 p).of i):it∈(d9 p).l:=by
 rw[b.ok.of_]at a;exact er2 (ev1 a)
def cj4{p:Pg}(hm:O6 p=true)(X:Rws){it:It}(a:it∈(d9 p).l):I8 (K6 p X) (it.s.id-1)=F2 (al4 p X it.s):=by
 unfold I8 K6;rw[List.getD,em8,(bw9 hm a).1];rfl
def bC6:∀(l a:List B3),∃t,W2 a l=a++t
 | [],a=>⟨[],by simp[W2]⟩
 | n::l,a=>by
  rw[W2];obtain⟨t,e⟩:=bC6 l (if a.contains n then a else a++[n]);rw[e];split
  .exact⟨t,rfl⟩
  .exact⟨n::t,dP⟩
def bc2(g:B3->List B3):∀(m i:Nat) (a:List B3),∀x∈a,x∈R8 g m i a
 | 0,i,a,x,h=>h
 | m+1,i,a,x,h=>by
  rw[R8];split
  .exact h
  .exact bc2 g m (i+1) _ x ((aA0 _ _ _).2 (.inl h))
def aF9{g:B3->List B3}{names:List B3}(q:∀m∈names,∀x∈g m,x∈names):∀(m i:Nat) (a:List B3),a.Nodup->(∀x∈a,x∈names)->names.length+1<=i+m->i<=a.length ->
  (∀k y,k<i->a[k]?=some y->∀x∈g y,x∈a)->∀y∈R8 g m i a,∀x∈g y,x∈R8 g m i a
 | 0,i,a,hn,hs,hl,hi,hc=>by
  have:=I5 hn hs;omega
 | m+1,i,a,hn,hs,hl,hi,hc=>by
  rw[R8];split
  .rename_i h;intro y e x b;obtain⟨k,l⟩:=es8.1 e;have:=(ej5.1 l).1;have:=List.getElem?_eq_none_iff.1 h;exact hc k y om l x b
  .rename_i n h;obtain⟨f,j⟩:=ej5.1 h;have o:n∈names:=hs n (j ▸ ek0 f);obtain⟨t,p⟩:=bC6 (g n) a;refine aF9 q m (i+1) _ (aK7 _ _ hn) (λx b=>?_) om (by rw[p,ej2];omega) λk y l e x b=>?_
   .rcases(aA0 _ _ _).1 b with b|b
    .exact hs x b
    .exact q n o x b
   .have c:a[k]?=some y:=by
     rw[p,eo2 om]at e;exact e
    refine(aA0 _ _ _).2 ?_;rcases en2 k i with d|d
    .exact .inl (hc k y d c x b)
    .obtain rfl:k=i:=om
     rw[h]at c;obtain rfl:=el4 c;exact .inr b
def bC8{s:Sh}{n x:B3}:x∈aH1 s n↔x∈R8 (an0 s) (s.p.procs.length+1) 0 [n]:=(Y1 _).mem_iff
def bP3(s:Sh)(n:B3):n∈aH1 s n:=bC8.2 (bc2 _ _ _ _ _ dP)
def bu7{p:Pg}(K:Known p){n:B3}(hn:n∈p.procs.map (·.name)):∀y∈aH1 (d9 p) n,∀x∈an0 (d9 p) y,x∈aH1 (d9 p) n:=by
 intro y b x a;rw[bC8]at b ⊢;refine aF9 (names:=p.procs.map (·.name)) (λm hm x a=>aS0 K hm a) _ _ _ dP (λx a=>?_) (by rw[N7];simp) dP (λk y c=>om) y b x a;simp only[ek5]at a;subst a;exact hn
def cv8{p:Pg}(K:Known p){n m:B3}(hn:n∈p.procs.map (·.name))(hm:m∈aH1 (d9 p) n):∀x∈aH1 (d9 p) m,x∈aH1 (d9 p) n:=by
 intro x a;rw[bC8]at a;exact(aL5 (names:=aH1 (d9 p) n) (bu7 K hn) _ _ _ dP (λx a=>by
  simp only[ek5]at a;subst a;exact hm)).2 x a
def cq8{p:Pg}(h:D4 p=true):(Q5 p).1=0:=by
 have h:=ej3 h;unfold aS1 at h;split at h
 .simp at h
 split at h
 .rename_i a;exact absurd h a
 .rename_i a;exact ew2 a
def bs9{p:Pg}(h:(Q5 p).1=0){n v:B3}(hn:n∈p.procs.map (·.name)):v∈S1 p n↔∃m∈aH1 (d9 p) n,∃it∈(d9 p).of ((d9 p).pr m),v∈M5 it.s/\v∈p.globals:=by
 have a:aT7 p n=true:=by
  unfold aT7;obtain⟨q,b,rfl⟩:=el2.1 hn;rw[ep1 h,eq4,ew3];exact⟨q,b,dP⟩
 unfold S1;rw[if_pos a];simp only[K5,em2,el6,ek7]
def dn0{p:Pg}(h:(Q5 p).1=0)(K:Known p){n m v:B3}(hn:n∈p.procs.map (·.name))(hm:m∈aH1 (d9 p) n)(a:m∈p.procs.map (·.name))(hv:v∈S1 p m):v∈S1 p n:=by
 rw[bs9 h a]at hv;rw[bs9 h hn];obtain⟨q,b,r⟩:=hv;exact⟨q,cv8 K hn hm q b,r⟩
def bx2{p:Pg}(K:Known p){i:Nat}(b:i<p.procs.length):(d9 p).pr p.procs[i].name=(i:Int):=by
 obtain⟨k,d,e,f⟩:=U8 (p:=p) (n:=p.procs[i].name) (el2.2 ⟨_,ek0 b,rfl⟩);rw[e];have a:k=i:=by
  have c:(p.procs.map (·.name))[k]'(by simpa using d)=(p.procs.map (·.name))[i]'(by simpa using b):=by simp[f]
  exact cV7 K.names _ _ c
 rw[a]
def cB6{p:Pg}(h:(Q5 p).1=0)(g:E6 p)(hw:C4 p<=1000000):∀(k i:Nat) (j:i<p.procs.length) (n:B3),n∈I8 (G5 (I2 p) k (List.replicate p.procs.length [])) (i:Int)->n∈p.globals->n∈S1 p p.procs[i].name:=by
 intro k
 induction k with
 | zero=>
  intro i j n a _;rw[G5,bk7 (by simpa using j)]at a;simp at a
 | succ k w=>
  intro i j n a u;rw[aa9]at a;generalize G5 (I2 p) k (List.replicate p.procs.length [])=X at w a;have o:p.procs[i].name∈p.procs.map (·.name):=el2.2 ⟨_,ek0 j,rfl⟩;rw[bk7 (by unfold I2;simpa using j)]at a;unfold I2 at a;rw[er0,ev8,K5]at a;unfold ai1 at a;obtain⟨it,d,a⟩:=em2.1 a;have d:=(el6.1 d).1;have a:=(el6.1 a).1;obtain⟨x,s⟩:=K9 g.may hw i j;rw[cj4 g.may X (aZ3 s d),K5]at a;have m:=aM6 (cn7 g.may n u);have b:n∈M5 it.s->n∈S1 p p.procs[i].name:=λE=>by
   rw[bs9 h o];exact⟨_,bP3 _ _,it,by rw[bx2 g.toKnown j];exact d,E,u⟩
  have f:it.s.kind≠10->n=it.s.name->n∈M5 it.s:=λl e=>by
   unfold M5;rw[if_pos ⟨l,by rw[<-e];exact m.2.2⟩,e];simp
  unfold al4 at a;split at a
  .rename_i l;exact b (f om (by simpa using a))
  split at a
  .rename_i l;simp only[ek9,en5,es4]at a;rcases a with e|e
   .exact b (f om e)
   .exact absurd e m.1
  split at a
  .simp only[ek5]at a;exact absurd a m.2.1
  split at a
  .rename_i l;unfold ax1 at a;rcases ej9.1 a with a|a
   .rcases ej9.1 a with a|a
    .split at a
     .simp at a
     .exact b (f om (by simpa using a))
    .obtain⟨z,v,rfl⟩:=el2.1 a;obtain⟨v,q⟩:=el6.1 v;rw[el3]at q;refine b ?_;unfold M5;refine en7 _ (em2.2 ⟨z.1,(List.of_mem_zip v).1,?_⟩);unfold N0;rw[if_pos q.1];simp
   .have a:=(el6.1 a).1;obtain⟨c,r⟩:=aa5 (g.fits it (aZ3 s d) l);rw[r.idx]at a;have D:=r.lt;have t:p.procs[c].name=it.s.proc:=by
     obtain⟨y,C,A,B⟩:=U8 (aL3 g.toKnown hw (aZ3 s d) l);rw[r.pr]at A;obtain rfl:c=y:=om
     exact B
    have:=w c r.lt n a u;rw[t]at this;refine dn0 h g.toKnown o (bu7 g.toKnown o _ (bP3 _ _) _ ?_) (aL3 g.toKnown hw (aZ3 s d) l) this;unfold an0;rw[K5,bx2 g.toKnown j];exact el2.2 ⟨it,el6.2 ⟨d,by simpa using l⟩,rfl⟩
  .simp at a
def cp3{p:Pg}(a:D4 p=true)(hw:C4 p<=1000000){i:Nat}(c:i<p.procs.length){n:B3}(hn:n∈I8 (L5 p) (i:Int))(b:n∈p.globals):n∈S1 p p.procs[i].name:=by
 obtain⟨k,e,_⟩:=bI3 (E9 a).may;rw[e]at hn;exact cB6 (cq8 a) (E9 a) hw k i c n hn b
def bd7{name:B3}{d:List B3}:∀{l:List Ar} {f:List B3},ao3 name d f l=true->(∀(j:Nat) (a:Ar),l[j]?=some a->a.ref=true->a.name∉f/\a.name≠name/\a.name∉d) /\
  ∀(j k:Nat) (a b:Ar),l[j]?=some a->l[k]?=some b->a.ref=true->b.ref=true->a.name=b.name->j=k
 | [],f,_=>⟨λj a h=>by simp at h,λj k a b h=>by simp at h⟩
 | c::l,f,h=>by
  rw[ao3]at h;by_cases hr:c.ref=true
  .rw[if_pos hr]at h;split at h
   .cases h
   .rename_i p;have p:=et8.2 p;simp only[Bool.or_eq_false_iff,ew5]at p;obtain⟨⟨t,v⟩,u⟩:=p;obtain⟨o,s⟩:=bd7 h;have q:c.name∉f:=λhm=>by rw[ek7.2 hm]at t;cases t
    have r:c.name∉d:=λhm=>by rw[ek7.2 hm]at u;cases u
    refine⟨λj a g i=>?_,λj k a b g m i n e=>?_⟩
    .cases j with
     | zero=>
      obtain rfl:c=a:=by simpa using g
      exact⟨q,v,r⟩
     | succ j=>
      obtain⟨w,x⟩:=o j a (by simpa using g) i;exact⟨λhm=>w (em4 _ hm),x⟩
    .cases j with
     | zero=>
      obtain rfl:c=a:=by simpa using g
      cases k with
      | zero=>rfl
      | succ k=>
       have:=(o k b (by simpa using m) n).1;exact absurd (en7 _ (by rw[e];simp)) this
     | succ j=>
      cases k with
      | zero=>
       obtain rfl:c=b:=by simpa using m
       have:=(o j a (by simpa using g) i).1;exact absurd (en7 _ (by rw[e];simp)) this
      | succ k=>rw[s j k a b (by simpa using g) (by simpa using m) i n e]
  .rw[if_neg hr]at h;obtain⟨o,s⟩:=bd7 h;refine⟨λj a g i=>?_,λj k a b g m i n e=>?_⟩
   .cases j with
    | zero=>
     obtain rfl:c=a:=by simpa using g
     exact absurd i hr
    | succ j=>exact o j a (by simpa using g) i
   .cases j with
    | zero=>
     obtain rfl:c=a:=by simpa using g
     exact absurd i hr
    | succ j=>
     cases k with
     | zero=>
      obtain rfl:c=b:=by simpa using m
      exact absurd n hr
     | succ k=>rw[s j k a b (by simpa using g) (by simpa using m) i n e]
def dI3:ar7 prog 111=true:=kr
def cS3(x y:Fw)(w:World):y5 prog 216 #[.agg (p8.cells x).toArray,.agg (p8.cells y).toArray] w λu d=>(u = .int .i64 (fwC x y)/\Gr w d):=by
 refine z6 [.agg (p8.cells x).toArray,.agg (p8.cells y).toArray] func216 rfl ?_;obtain⟨a,C,i,k,r⟩:=ci1 (P:=prog) (T:=213) (SV.ofN (i5 w) x) (n7 _);obtain⟨b,c,j,e,s⟩:=ci1 (P:=prog) (T:=213) (SV.ofN (i5 C) y) (n7 _);obtain⟨_,z⟩:=(r.mono (b7 e.ext)).fw;obtain⟨_,A⟩:=s.fw;have t:=z (λd=>Gr c.drew d) c.drew (Gr.refl _) λd h=>b7 ((Gr.drew c).trans h).ext;have v:=A (λd=>Gr c.drew d) c.drew (Gr.refl _) λd h=>b7 ((Gr.drew c).trans h).ext;simp only[eH,simprocAttr,i,j];refine C0 (λd=>Gr c.drew d) 18 (A7 [0,1,3,4,7,8,10,11,14,15,16,17,2,5,6,9,12,13]) ?_ (hS:=Gr.refl _);simp only[D7,A7,i4,n9,simprocAttr,t,v];refine F6 (as3 _ _) ⟨Gr.refl _,?_⟩;simp only[fc,simprocAttr];refine F6 (as3 _ _) ⟨Gr.refl _,?_⟩;simp only[fc,simprocAttr];refine F6 (aa4 _ _ _) ⟨Gr.refl _,?_⟩;simp only[fc,simprocAttr];refine F6 (as3 _ _) ⟨Gr.refl _,?_⟩;simp only[fc,simprocAttr];refine F6 (as3 _ _) ⟨Gr.refl _,?_⟩;simp only[fc,simprocAttr];refine F6 (aa4 _ _ _) ⟨Gr.refl _,?_⟩;simp only[fc,simprocAttr];refine F6 (aK5 _ _ _) ?_;generalize m:[M6 (H7 x.src) (H7 y.src),M6 (H7 x.dst) (H7 y.dst),ah6 x.var y.var]=l;have q:fwC x y=orF l:=by rw[<-m];rfl
 have p:l.length=3:=by rw[<-m];rfl
 obtain⟨B,D,g,o,f⟩:=dx8 (P:=prog) (w:=c.drew) (h:=i5 c.drew) (α:=Int) (xs:=[.int .i64 (M6 (H7 x.src) (H7 y.src)),.int .i64 (M6 (H7 x.dst) (H7 y.dst)),.int .i64 (ah6 x.var y.var)]) (ys:=l) (parts:=#[(0,.int .i64 (M6 (H7 x.src) (H7 y.src))),(1,.int .i64 (M6 (H7 x.dst) (H7 y.dst))),(2,.int .i64 (ah6 x.var y.var))]) (n:=3) W3 rfl (by rw[<-m];exact G9.2 rfl) (by simp[Value.cells]) rfl p dP dP (n7 _);simp only[i4,simprocAttr,g];refine F6 (bY2 B l D (o.rw_ (b7 f.ext)) om) ?_;simp only[i4,simprocAttr];refine o8 results216 ?_;simp only[B8,simprocAttr];exact⟨by rw[q],k.trans (e.trans ((Gr.drew c).trans f))⟩
def bn9(x y:Vx)(w:World):y5 prog 111 #[.agg (p8.cells x).toArray,.agg (p8.cells y).toArray] w λu d=>(u = .int .i64 (vxC x y)/\Gr w d):=by
 refine z6 [.agg (p8.cells x).toArray,.agg (p8.cells y).toArray] func111 rfl ?_;obtain⟨a,C,i,k,r⟩:=ci1 (P:=prog) (T:=27) (SV.ofN (i5 w) x) (n7 _);obtain⟨b,c,j,e,s⟩:=ci1 (P:=prog) (T:=27) (SV.ofN (i5 C) y) (n7 _);obtain⟨_,z⟩:=(r.mono (b7 e.ext)).vx;obtain⟨_,A⟩:=s.vx;have t:=z (λd=>Gr c.drew d) c.drew (Gr.refl _) λd h=>b7 ((Gr.drew c).trans h).ext;have v:=A (λd=>Gr c.drew d) c.drew (Gr.refl _) λd h=>b7 ((Gr.drew c).trans h).ext;simp only[eH,simprocAttr,i,j];refine C0 (λd=>Gr c.drew d) 19 (A7 [0,1,2,3,5,6,7,8,10,11,12,13,15,16,17,18,4,9,14]) ?_ (hS:=Gr.refl _);simp only[D7,A7,i4,n9,simprocAttr,t,v];refine F6 (aK5 _ _ _) ⟨Gr.refl _,?_⟩;simp only[fc,simprocAttr];refine F6 (aa4 _ _ _) ⟨Gr.refl _,?_⟩;simp only[fc,simprocAttr];refine F6 (aa4 _ _ _) ⟨Gr.refl _,?_⟩;simp only[fc,simprocAttr];refine F6 (aK5 _ _ _) ?_;generalize m:[ah6 x.proc y.proc,M6 x.kind y.kind,M6 x.id y.id,ah6 x.slot y.slot]=l;have q:vxC x y=orF l:=by rw[<-m];rfl
 have p:l.length=4:=by rw[<-m];rfl
 obtain⟨B,D,g,o,f⟩:=dx8 (P:=prog) (w:=c.drew) (h:=i5 c.drew) (α:=Int) (xs:=[.int .i64 (ah6 x.proc y.proc),.int .i64 (M6 x.kind y.kind),.int .i64 (M6 x.id y.id),.int .i64 (ah6 x.slot y.slot)]) (ys:=l) (parts:=#[(0,.int .i64 (ah6 x.proc y.proc)),(1,.int .i64 (M6 x.kind y.kind)),(2,.int .i64 (M6 x.id y.id)),(3,.int .i64 (ah6 x.slot y.slot))]) (n:=4) W3 rfl (by rw[<-m];exact G9.2 rfl) (by simp[Value.cells]) rfl p dP dP (n7 _);simp only[i4,simprocAttr,g];refine F6 (bY2 B l D (o.rw_ (b7 f.ext)) om) ?_;simp only[i4,simprocAttr];refine o8 results111 ?_;simp only[B8,simprocAttr];exact⟨by rw[q],k.trans (e.trans ((Gr.drew c).trans f))⟩
def dC6{P:Program}{k:Nat}{args:List Value}{w:World}{K:Fr->World->Prop}{f:Fr}{d:Option Nat}{v:Value}(hb:ar7 P k=true)
  (h:Calls P k args.toArray w λe a=>∃u,e = .returned u/\(u=v/\Gr w a)) (c:∀a,Gr w a->K (C5 f d v) a):aG8 P k args w K f d:=
 y4 (hb:=hb) h λu a ⟨e,b⟩=>by subst e;exact c a b
def cR1(x y:Eg)(w:World):y5 prog 109 #[.agg (p8.cells x).toArray,.agg (p8.cells y).toArray] w λu c=>(u = .int .i64 (egC x y)/\Gr w c):=by
 refine z6 [.agg (p8.cells x).toArray,.agg (p8.cells y).toArray] func109 rfl ?_;obtain⟨a,Z,o,q,O⟩:=ci1 (P:=prog) (T:=54) (SV.ofN (i5 w) x) (n7 _);obtain⟨b,d,p,i,Q⟩:=ci1 (P:=prog) (T:=54) (SV.ofN (i5 Z) y) (n7 _);obtain⟨E,D,_,R⟩:=(O.mono (b7 i.ext)).eg;obtain⟨G,F,_,S⟩:=Q.eg;obtain⟨U,t,_,I⟩:=E.vx_v;obtain⟨V,A,_,J⟩:=D.vx_v;obtain⟨W,B,_,K⟩:=G.vx_v;obtain⟨X,C,_,L⟩:=F.vx_v;have hN:∀{v:Value} {z:Vx},SV (i5 d) v z->v = .agg (p8.cells z).toArray:=fun{v z} ⟨cs,e,h1⟩=>by rw[e,(p8.iff_ _ _ _).1 h1]
 obtain rfl:=hN t;obtain rfl:=hN A;obtain rfl:=hN B;obtain rfl:=hN C;have g:∀c,Gr d.drew c->E2 (i5 d) (i5 c):=λc h=>b7 ((Gr.drew d).trans h).ext;simp only[eH,simprocAttr,o,p];refine C0 (λc=>Gr d.drew c) 14 (A7 [0,1,2,3,5,6,7,8,10,11,12,13,4,9]) ?_ (hS:=Gr.refl _);simp only[D7,A7,i4,n9,simprocAttr,R (λc=>Gr d.drew c) d.drew (Gr.refl _) g,S (λc=>Gr d.drew c) d.drew (Gr.refl _) g,I (λc=>Gr d.drew c) d.drew (Gr.refl _) g,J (λc=>Gr d.drew c) d.drew (Gr.refl _) g,K (λc=>Gr d.drew c) d.drew (Gr.refl _) g,L (λc=>Gr d.drew c) d.drew (Gr.refl _) g];refine dC6 dI3 (bn9 x.src y.src _) (λw3 f=>⟨f,?_⟩);simp only[fc,simprocAttr];refine dC6 dI3 (bn9 x.dst y.dst _) (λH j=>⟨f.trans j,?_⟩);simp only[fc,simprocAttr];refine F6 (aa4 _ _ _) ?_;generalize r:[vxC x.src y.src,vxC x.dst y.dst,M6 x.kind y.kind]=l;have N:egC x y=orF l:=by rw[<-r];rfl
 have M:l.length=3:=by rw[<-r];rfl
 obtain⟨Y,w5,m,s,k⟩:=dx8 (P:=prog) (w:=H) (h:=i5 H) (α:=Int) (xs:=[.int .i64 (vxC x.src y.src),.int .i64 (vxC x.dst y.dst),.int .i64 (M6 x.kind y.kind)]) (ys:=l) (parts:=#[(0,.int .i64 (vxC x.src y.src)),(1,.int .i64 (vxC x.dst y.dst)),(2,.int .i64 (M6 x.kind y.kind))]) (n:=3) W3 rfl (by rw[<-r];exact G9.2 rfl) (by simp[Value.cells]) rfl M dP dP (n7 _);simp only[i4,simprocAttr,m];refine F6 (bY2 Y l w5 (s.rw_ (b7 k.ext)) om) ?_;simp only[i4,simprocAttr];refine o8 results109 ?_;simp only[B8,simprocAttr];exact⟨by rw[N],q.trans (i.trans ((Gr.drew d).trans ((f.trans j).trans k)))⟩
def or3(a b c:Int):orF [a,b,c]=if a=0 then(if b=0 then(if c=0 then 0 else c)else b)else a:=by simp only[orF]
def or4(a b c d:Int):orF [a,b,c,d]=if a=0 then(if b=0 then(if c=0 then(if d=0 then 0 else d)else c)else b)else a:=by simp only[orF]
def ci9:Cm fwC:=by
 have h:=(aS2.key (λx:Fw=>H7 x.src)).lex ((aS2.key (λx:Fw=>H7 x.dst)).lex ((cx3.key (λx:Fw=>x.var)).lex Cm.zero));have e:fwC=λx y:Fw=>if M6 (H7 x.src) (H7 y.src)=0 then(if M6 (H7 x.dst) (H7 y.dst)=0 then(if ah6 x.var y.var=0 then 0 else ah6 x.var y.var)else M6 (H7 x.dst) (H7 y.dst))else M6 (H7 x.src) (H7 y.src):=by
  funext x y
  exact or3 _ _ _
 rw[e];exact h
def aZ4:Cm vxC:=by
 have h:=(cx3.key (λx:Vx=>x.proc)).lex ((aS2.key (λx:Vx=>x.kind)).lex ((aS2.key (λx:Vx=>x.id)).lex ((cx3.key (λx:Vx=>x.slot)).lex Cm.zero)));have e:vxC=λx y:Vx=>if ah6 x.proc y.proc=0 then(if M6 x.kind y.kind=0 then(if M6 x.id y.id=0 then(if ah6 x.slot y.slot=0 then 0 else ah6 x.slot y.slot)else M6 x.id y.id)else M6 x.kind y.kind)else ah6 x.proc y.proc:=by
  funext x y
  exact or4 _ _ _ _
 rw[e];exact h
def dC7:Cm egC:=by
 have h:=(aZ4.key (λx:Eg=>x.src)).lex ((aZ4.key (λx:Eg=>x.dst)).lex ((aS2.key (λx:Eg=>x.kind)).lex Cm.zero));have e:egC=λx y:Eg=>if vxC x.src y.src=0 then(if vxC x.dst y.dst=0 then(if M6 x.kind y.kind=0 then 0 else M6 x.kind y.kind)else vxC x.dst y.dst)else vxC x.src y.src:=by
  funext x y
  exact or3 _ _ _
 rw[e];exact h
def cl2{a b:Fw}(c:plc a.src/\plc a.dst)(d:plc b.src/\plc b.dst)(h:fwC a b=0):a=b:=by
 unfold fwC at h;rw[or3]at h;by_cases q1:M6 (H7 a.src) (H7 b.src)=0
 .rw[if_pos q1]at h;by_cases q2:M6 (H7 a.dst) (H7 b.dst)=0
  .rw[if_pos q2]at h;by_cases q3:ah6 a.var b.var=0
   .have e:=bk2 c.1 d.1 (ag0 q1);have f:=bk2 c.2 d.2 (ag0 q2);have g:=aH7 q3;cases a;cases b;simp_all
   .rw[if_neg q3]at h;exact absurd h q3
  .rw[if_neg q2]at h;exact absurd h q2
 .rw[if_neg q1]at h;exact absurd h q1
def aK2{a b:Vx}(h:vxC a b=0):a=b:=by
 unfold vxC at h;rw[or4]at h;by_cases q1:ah6 a.proc b.proc=0
 .rw[if_pos q1]at h;by_cases q2:M6 a.kind b.kind=0
  .rw[if_pos q2]at h;by_cases q3:M6 a.id b.id=0
   .rw[if_pos q3]at h;by_cases q4:ah6 a.slot b.slot=0
    .have c:=aH7 q1;have d:=ag0 q2;have e:=ag0 q3;have f:=aH7 q4;cases a;cases b;simp_all
    .rw[if_neg q4]at h;exact absurd h q4
   .rw[if_neg q3]at h;exact absurd h q3
  .rw[if_neg q2]at h;exact absurd h q2
 .rw[if_neg q1]at h;exact absurd h q1
def de3{a b:Eg}(h:egC a b=0):a=b:=by
 unfold egC at h;rw[or3]at h;by_cases q1:vxC a.src b.src=0
 .rw[if_pos q1]at h;by_cases q2:vxC a.dst b.dst=0
  .rw[if_pos q2]at h;by_cases q3:M6 a.kind b.kind=0
   .have c:=aK2 q1;have d:=aK2 q2;have e:=ag0 q3;cases a;cases b;simp_all
   .rw[if_neg q3]at h;exact absurd h q3
  .rw[if_neg q2]at h;exact absurd h q2
 .rw[if_neg q1]at h;exact absurd h q1
def Cm.eq0{α:Type}{c:α->α->Int}(h:Cm c){a b:α}(d:decide (c a b<=0)=true)(e:decide (c b a<=0)=true):c a b=0:=by
 have f:=ej3 d;have g:=ej3 e;have i:=h.anti a b;omega
def dV3:G7 prog 210 213 3 32=true:=kr
def aD0:G7 prog 35 27 4 48=true:=kr
def cs4:G7 prog 49 54 9 104=true:=kr
def cU8:(Tryz.lySortF_ren.f 6)=215:=kr
def bT7:(Tryz.lySortF_ren.t 24)=213:=kr
def cC7{h:Hp}{w:World}{v:Value}{xs:List Fw}(k:B0 h w 213 v xs)(j:xs.length<=1000000000)(l:∀a∈xs,∀b∈xs,decide (fwC a b<=0)=true->decide (fwC b a<=0)=true->a=b):
  Calls prog 215 #[v,.func (.func 216) #[] #[]] w λe c=>∃u,e = .returned u/\(B0 h c 213 v (ad5 bN9 xs)/\p6 (A5 v) w c):=by
 rw[<-cU8];have d:∀w,(isAgg (Tryz.lySortF_ren.t 24)).run prog w = .ok true w:=λw=>by
  rw[bT7,ag7 _ dp2,dn7]
 have m:∀w,(Go.sizeOf (Tryz.lySortF_ren.t 24)).run prog w = .ok (A6.sz Fw) w:=λw=>by
  rw[bT7,T8 cE2,bL5];rfl
 exact aX6 (P:=prog) (T:=213) Tryz.lySortF d m fwC ci9 216 (enters_of func216 kr rfl) (λx y w=>(cS3 x y w).mono λe c ⟨u,f,g,i⟩=>⟨by rw[f,g],i⟩) k j l
def cV0:(Tryz.lySortV_ren.f 6)=145:=kr
def bT9:(Tryz.lySortV_ren.t 24)=27:=kr
def cC8{h:Hp}{w:World}{v:Value}{xs:List Vx}(k:B0 h w 27 v xs)(j:xs.length<=1000000000)(l:∀a∈xs,∀b∈xs,decide (vxC a b<=0)=true->decide (vxC b a<=0)=true->a=b):
  Calls prog 145 #[v,.func (.func 111) #[] #[]] w λe c=>∃u,e = .returned u/\(B0 h c 27 v (ad5 cY3 xs)/\p6 (A5 v) w c):=by
 rw[<-cV0];have d:∀w,(isAgg (Tryz.lySortV_ren.t 24)).run prog w = .ok true w:=λw=>by
  rw[bT9,ag7 _ aw6,aw3]
 have m:∀w,(Go.sizeOf (Tryz.lySortV_ren.t 24)).run prog w = .ok (A6.sz Vx) w:=λw=>by
  rw[bT9,T8 ap5,P5];rfl
 exact aX6 (P:=prog) (T:=27) Tryz.lySortV d m vxC aZ4 111 (enters_of func111 kr rfl) (λx y w=>(bn9 x y w).mono λe c ⟨u,f,g,i⟩=>⟨by rw[f,g],i⟩) k j l
def cU7:(Tryz.lySortE_ren.f 6)=108:=kr
def bT6:(Tryz.lySortE_ren.t 24)=54:=kr
def cs5{h:Hp}{w:World}{v:Value}{xs:List Eg}(k:B0 h w 54 v xs)(j:xs.length<=1000000000)(l:∀a∈xs,∀b∈xs,decide (egC a b<=0)=true->decide (egC b a<=0)=true->a=b):
  Calls prog 108 #[v,.func (.func 109) #[] #[]] w λe c=>∃u,e = .returned u/\(B0 h c 54 v (ad5 cR2 xs)/\p6 (A5 v) w c):=by
 rw[<-cU7];have d:∀w,(isAgg (Tryz.lySortE_ren.t 24)).run prog w = .ok true w:=λw=>by
  rw[bT6,ag7 _ bL6,bL1]
 have m:∀w,(Go.sizeOf (Tryz.lySortE_ren.t 24)).run prog w = .ok (A6.sz Eg) w:=λw=>by
  rw[bT6,T8 bm4,aw5];rfl
 exact aX6 (P:=prog) (T:=54) Tryz.lySortE d m egC dC7 109 (enters_of func109 kr rfl) (λx y w=>(cR1 x y w).mono λe c ⟨u,f,g,i⟩=>⟨by rw[f,g],i⟩) k j l
def bi9(n:Int)(k:Nat)(d:0<k):∃N:Nat,cA7 n k=N/\N<k:=by
 have a:¬((k:Int)<1):=om
 have b : -(k:Int)<n.tmod k:=Int.lt_tmod_of_pos n om;have c:n.tmod k<k:=Int.tmod_lt_of_pos n om;unfold cA7;rw[if_neg a];split
 .exact⟨(n.tmod k+k).toNat,om,om⟩
 .exact⟨(n.tmod k).toNat,om,om⟩
def G2.rowlen{n:Nat}{l:List (List Int)}(h:G2 n l)(a:Int):(E3 l a).length<=n:=by
 have:=aO0 (n:=n) (m:=0) (h.row a).1 (λy b=>B5.1 ((h.row a).2 y b)) om;omega
inductive aG9 (nx gen kill:List (List Int)):Int->Nat->Prop
 | gen {a b:Int} {f:Nat}:b∈E3 nx a->(f:Int)∈E3 gen a->aG9 nx gen kill b f
 | step {a b:Int} {f:Nat}:b∈E3 nx a->aG9 nx gen kill a f->(f:Int)∉E3 kill a->aG9 nx gen kill b f
def wAt(a:List (List W))(b:Int):List W:=a.getD b.toNat []
def at0(a:List (List W))(b:Int)(f:Nat):Bool:=U7 (wAt a b) f
def dB5{c:List (List W)}{n:Nat}(g:c.length=n){a b:Int}(d:I9 n a=true)(hb:I9 n b=true)(r:List W):wAt (c.set a.toNat r) b=if b=a then r else wAt c b:=by
 have e:=B5.1 d;have f:=B5.1 hb;unfold wAt;simp only[List.getD];by_cases h:b=a
 .subst h;rw[if_pos rfl,eq8 om];rfl
 .rw[if_neg h,es2 om]
def as1{b:List (List W)}{n:Nat}(e:b.length=n){a:Int}(c:I9 n a=true):b[a.toNat]?=some (wAt b a):=by
 have d:=B5.1 c;unfold wAt;have:a.toNat<b.length:=om
 simp[List.getD,this]
def bN5(most:Nat)(r:List W):Nat:=(List.range most).countP (U7 r)
def aU3(most:Nat)(a:List (List W)):Nat:=(a.map (bN5 most)).sum
def dv5(most:Nat)(r:List W):bN5 most r<=most:=by
 have:=List.countP_le_length (p:=U7 r) (l:=List.range most);rw[en9]at this;exact this
def bj9(most:Nat):∀a:List (List W),aU3 most a<=a.length*most
 | []=>by simp[aU3]
 | r::a=>by
  have b:=bj9 most a;have c:=dv5 most r;simp only[aU3,en8,eu6,em1]at *;rw[ev0];omega
def bk0(most:Nat):∀(a:List (List W)) (i:Nat) (r b:List W),a[i]?=some r->aU3 most (a.set i b)+bN5 most r=aU3 most a+bN5 most b
 | [],i,r,b,h=>by simp at h
 | x::a,0,r,b,h=>by
  simp at h;subst h;simp only[aU3,List.set_cons_zero,en8,eu6];omega
 | x::a,i+1,r,b,h=>by
  have:=bk0 most a i r b (by simpa using h);simp only[aU3,List.set_cons_succ,en8,eu6]at *;omega
def bE3{p q:Nat->Bool}{m:Nat}:∀{l:List Nat},(∀x,p x=true->q x=true)->m∈l->q m=true->p m=false->l.countP p<l.countP q
 | [],_,h,_,_=>by cases h
 | x::l,hqp,h,hp,hq=>by
  have E2:l.countP p<=l.countP q:=List.countP_mono_left λx _=>hqp x;rw[List.countP_cons,List.countP_cons];by_cases hx:m=x
  .subst hx;simp[hp,hq];omega
  .have hm:m∈l:=by
    rcases ek9.1 h with h|h
    .exact absurd h hx
    .exact h
   have:=bE3 hqp hm hp hq;by_cases h1:p x=true
   .simp[h1,hqp x h1];omega
   .simp only[h1,ep8,er8];split<;>omega
def bE0{most:Nat}{b c:List W}(a:b.length=c.length)(g:∀f,U7 c f=true->f<most)(hm:ap4 b c=true):bN5 most b<bN5 most (orB b c):=by
 obtain⟨f,d,e⟩:=(bU2 a).1 hm;exact bE3 (m:=f) (λx h=>by rw[aM0 a,h];rfl) (en3.2 (g f d)) (by rw[aM0 a,d];simp) e
def dy7{b c:List W}(a:b.length=c.length)(hm:ap4 b c=false)(f:Nat):U7 (orB b c) f=U7 b f:=by
 rw[aM0 a];cases hb:U7 b f
 .cases hc:U7 c f
  .rfl
  .have:=(bU2 a).2 ⟨f,hc,hb⟩;rw[hm]at this;cases this
 .rfl
def cg7(c b:List (List Int))(d:List (List W))(a:Int)(f:Nat):Prop:=(f:Int)∈E3 c a\/(at0 d a f=true/\(f:Int)∉E3 b a)
section
variable (nx gen kill:List (List Int)) (most:Nat)
structure SB (ins:List (List W)) (todo:List Int) (waits:List Bool):Prop where
 ilen:ins.length=nx.length
 rlen:∀r∈ins,r.length=most / 64+1
 wlen:waits.length=nx.length
 ok:∀a∈todo,I9 nx.length a=true
 wt:∀a,z7 waits a=true↔a∈todo
 nodup:todo.Nodup
 sound:∀b f,I9 nx.length b=true->at0 ins b f=true->aG9 nx gen kill b f
 low:∀b f,I9 nx.length b=true->at0 ins b f=true->f<most
def cZ4(c:List (List W))(a:Int):Prop:=∀b∈E3 nx a,∀f,cg7 gen kill c a f->at0 c b f=true
structure SI (ins:List (List W)) (todo:List Int) (waits:List Bool) (T:Nat):Prop extends SB nx gen kill most ins todo waits where
 closed:∀a,I9 nx.length a=true->z7 waits a=false->cZ4 nx gen kill ins a
 few:T+todo.length<=nx.length+aU3 most ins
 many:nx.length<=T+todo.length
structure SJ (a:Int) (goes:List W) (k:Nat) (ins:List (List W)) (todo:List Int) (waits:List Bool) (T:Nat):Prop extends SB nx gen kill most ins todo waits where
 closed:∀c,I9 nx.length c=true->c≠a->z7 waits c=false->cZ4 nx gen kill ins c
 mine:z7 waits a=false->∀f,U7 goes f=true↔cg7 gen kill ins a f
 done:∀b∈(E3 nx a).take k,∀f,U7 goes f=true->at0 ins b f=true
 few:T+todo.length<=nx.length+aU3 most ins
 many:nx.length<=T+todo.length
end
section
variable {nx gen kill:List (List Int)} {most:Nat} {ins:List (List W)} {todo:List Int} {waits:List Bool} {T:Nat} {a:Int} {goes:List W} {k:Nat}
def SI.start(c:ins=List.replicate nx.length (List.replicate (most / 64+1) 0#64))(d:∀a,a∈todo↔I9 nx.length a=true)(k:todo.Nodup)(m:todo.length=nx.length)(hw:waits=List.replicate nx.length true):SI nx gen kill most ins todo waits 0:=by
 have i:∀b f,I9 nx.length b=true->at0 ins b f=false:=by
  intro b f e;have:=B5.1 e;subst c;unfold at0 wAt;simp only[List.getD,eu3];rw[if_pos om];exact cl7
 have g:∀b,z7 waits b=true↔I9 nx.length b=true:=by
  intro b;subst hw;constructor
  .intro h;have:=X5 h;simpa using this
  .intro h;have n:=(N1 (l:=List.replicate nx.length true) (b:=b) (by simpa using h)).2;rw[n];have:=B5.1 h;simp only[List.getD,eu3];rw[if_pos om];rfl
 refine⟨⟨by subst c;simp,λr o=>?_,by subst hw;simp,λa j=>(d a).1 j,λa=>by rw[g,d],k,(λb f e h=>(by rw[i b f e]at h;cases h)),(λb f e h=>(by rw[i b f e]at h;cases h))⟩,λa j h=>?_,om,om⟩
 .subst c;rw[eq7 o];simp
 .have:=(g a).2 j;rw[h]at this;cases this
def SI.pop{d:List Int}(h:SI nx gen kill most ins (a::d) waits T)(n:∀f,U7 goes f=true↔cg7 gen kill ins a f):SJ nx gen kill most a goes 0 ins d (waits.set a.toNat false) (T+1):=by
 have l:I9 nx.length a=true:=h.ok a dP;have j:∀b,z7 (waits.set a.toNat false) b=if b=a then false else z7 waits b:=λb=>M9 (by rw[h.wlen];exact l);have g:=ev7.1 h.nodup;refine⟨⟨h.ilen,h.rlen,by simp[h.wlen],λb e=>h.ok b (by simp[e]),λb=>?_,g.2,h.sound,h.low⟩,λc m i k=>?_,λ_=>n,λb e=>by simp at e,?_,?_⟩
 .rw[j];by_cases e:b=a
  .subst e;simp[g.1]
  .rw[if_neg e,h.wt];simp[e]
 .rw[j,if_neg i]at k;exact h.closed c m k
 .have:=h.few;simp only[em1]at this;omega
 .have:=h.many;simp only[em1]at this;omega
def SJ.core{b:Int}(q:G2 nx.length nx)(h:SJ nx gen kill most a goes k ins todo waits T)(B:goes.length=most / 64+1)(C:∀f,U7 goes f=true->f<most/\∀b∈E3 nx a,aG9 nx gen kill b f)(hb:(E3 nx a)[k]?=some b)(w:I9 nx.length b=true)
  {i:List Int} {g:List Bool} (L:g.length=nx.length) (J:∀a∈i,I9 nx.length a=true) (M:∀c,z7 g c=true↔c∈i) (I:i.Nodup) (u:∀c,z7 g c=false->z7 waits c=false)
  (y:ap4 (wAt ins b) goes=true->z7 g b=true) (A:T+i.length<=nx.length+aU3 most (ins.set b.toNat (orB (wAt ins b) goes))) (x:nx.length<=T+i.length) :
  SJ nx gen kill most a goes (k+1) (ins.set b.toNat (orB (wAt ins b) goes)) i g T:=by
 have s:(wAt ins b).length=goes.length:=by rw[B];exact h.rlen _ (el0 (as1 h.ilen w))
 have z:b∈E3 nx a:=el0 hb;have m:∀c f,I9 nx.length c=true->at0 (ins.set b.toNat (orB (wAt ins b) goes)) c f=if c=b then(at0 ins b f||U7 goes f)else at0 ins c f:=by
  intro c f l;unfold at0;rw[dB5 h.ilen w l];by_cases e:c=b
  .rw[if_pos e,if_pos e,aM0 s]
  .rw[if_neg e,if_neg e]
 have v:∀c f,I9 nx.length c=true->at0 ins c f=true->at0 (ins.set b.toNat (orB (wAt ins b) goes)) c f=true:=by
  intro c f l o;rw[m c f l];split
  .rename_i e;subst e;rw[o];rfl
  .exact o
 have E:∀c,I9 nx.length c=true->z7 g c=false->∀f,at0 (ins.set b.toNat (orB (wAt ins b) goes)) c f=at0 ins c f:=by
  intro c l t f;rw[m c f l];split
  .rename_i e;subst e;have hm:ap4 (wAt ins c) goes=false:=by
    cases e:ap4 (wAt ins c) goes
    .rfl
    .rw[y e]at t;cases t
   have:=dy7 s hm f;rw[aM0 s]at this;exact this
  .rfl
 have D:∀c d,d∈E3 nx c->I9 nx.length c=true:=by
  intro c d n;cases e:I9 nx.length c
  .rw[bk6 e]at n;cases n
  .rfl
 have j:∀c,I9 nx.length c=true->z7 g c=false->∀f,cg7 gen kill (ins.set b.toNat (orB (wAt ins b) goes)) c f↔cg7 gen kill ins c f:=by
  intro c l t f;unfold cg7;rw[E c l t f]
 refine⟨⟨by simp[h.ilen],λr Q=>?_,L,J,M,I,λc f l o=>?_,λc f l o=>?_⟩,λc l F t d n f P=>?_,λt f=>?_,λd n f N=>?_,A,x⟩
 .rcases es0 Q with p|p
  .exact h.rlen r p
  .rw[p,cd1 s,s,B]
 .rw[m c f l]at o;split at o
  .rename_i e;subst e;rcases Bool.or_eq_true_iff.1 o with p|p
   .exact h.sound _ f l p
   .exact(C f p).2 _ z
  .exact h.sound c f l o
 .rw[m c f l]at o;split at o
  .rename_i e;subst e;rcases Bool.or_eq_true_iff.1 o with p|p
   .exact h.low _ f l p
   .exact(C f p).1
  .exact h.low c f l o
 .have G:=h.closed c l F (u c t) d n f ((j c l t f).1 P);have H:I9 nx.length d=true:=(q.row c).2 d n;exact v d f H G
 .have O:I9 nx.length a=true:=D a b z;rw[j a O t f];exact h.mine (u a t) f
 .have K:(E3 nx a).take (k+1)=(E3 nx a).take k++[b]:=by
   rw[ew0,hb];rfl
  rw[K,ej9,ek5]at n;rcases n with n|n
  .exact v d f ((q.row a).2 d (er2 n)) (h.done d n f N)
  .subst n;rw[m d f w,if_pos rfl,N,ev6]
def SJ.old{b:Int}(d:G2 nx.length nx)(h:SJ nx gen kill most a goes k ins todo waits T)(g:goes.length=most / 64+1)(i:∀f,U7 goes f=true->f<most/\∀b∈E3 nx a,aG9 nx gen kill b f)(hb:(E3 nx a)[k]?=some b)(c:I9 nx.length b=true)
  (e:ap4 (wAt ins b) goes=false\/z7 waits b=true):SJ nx gen kill most a goes (k+1) (ins.set b.toNat (orB (wAt ins b) goes)) todo waits T:=by
 have j:(wAt ins b).length=goes.length:=by rw[g];exact h.rlen _ (el0 (as1 h.ilen c))
 have n:=bk0 most ins b.toNat (wAt ins b) (orB (wAt ins b) goes) (as1 h.ilen c);have E2:bN5 most (wAt ins b)<=bN5 most (orB (wAt ins b) goes):=List.countP_mono_left λx _ m=>by rw[aM0 j,m];rfl
 refine h.core d g i hb c h.wlen h.ok h.wt h.nodup (λ_ l=>l) (λhm=>?_) (by have:=h.few;omega) h.many;rcases e with e|e
 .rw[hm]at e;cases e
 .exact e
def SJ.new{b:Int}(i:G2 nx.length nx)(h:SJ nx gen kill most a goes k ins todo waits T)(j:goes.length=most / 64+1)(l:∀f,U7 goes f=true->f<most/\∀b∈E3 nx a,aG9 nx gen kill b f)(hb:(E3 nx a)[k]?=some b)(d:I9 nx.length b=true)
  (hm:ap4 (wAt ins b) goes=true) (m:z7 waits b=false):SJ nx gen kill most a goes (k+1) (ins.set b.toNat (orB (wAt ins b) goes)) (todo++[b]) (waits.set b.toNat true) T:=by
 have o:(wAt ins b).length=goes.length:=by rw[j];exact h.rlen _ (el0 (as1 h.ilen d))
 have v:=bk0 most ins b.toNat (wAt ins b) (orB (wAt ins b) goes) (as1 h.ilen d);have t:=bE0 (most:=most) o (λf r=>(l f r).1) hm;have p:∀c,z7 (waits.set b.toNat true) c=if c=b then true else z7 waits c:=λc=>M9 (by rw[h.wlen];exact d);have n:b∉todo:=λs=>by rw[(h.wt b).2 s]at m;cases m
 refine h.core i j l hb d (by simp[h.wlen]) (λc g=>?_) (λc=>?_) ?_ (λc g=>?_) (λ_=>by rw[p,if_pos rfl]) ?_ ?_
 .rcases ej9.1 g with g|g
  .exact h.ok c g
  .simp at g;subst g;exact d
 .rw[p];by_cases e:c=b
  .subst e;simp
  .rw[if_neg e,h.wt];simp[e]
 .refine eo0.2 ⟨h.nodup,dP,?_⟩;intro x u y q e;simp at q;subst q;subst e;exact n u
 .rw[p]at g;split at g
  .cases g
  .exact g
 .have:=h.few;simp only[ej2,em1,ep7];omega
 .have:=h.many;simp only[ej2,em1,ep7];omega
def SJ.pot{b:Int}(h:SJ nx gen kill most a goes k ins todo waits T)(e:goes.length=most / 64+1)(g:∀f,U7 goes f=true->f<most/\∀b∈E3 nx a,aG9 nx gen kill b f)(c:I9 nx.length b=true):
  aU3 most ins<=aU3 most (ins.set b.toNat (orB (wAt ins b) goes))/\(ap4 (wAt ins b) goes=true->aU3 most ins+1<=aU3 most (ins.set b.toNat (orB (wAt ins b) goes))):=by
 have d:(wAt ins b).length=goes.length:=by rw[e];exact h.rlen _ (el0 (as1 h.ilen c))
 have m:=bk0 most ins b.toNat (wAt ins b) (orB (wAt ins b) goes) (as1 h.ilen c);have E2:bN5 most (wAt ins b)<=bN5 most (orB (wAt ins b) goes):=List.countP_mono_left λx _ l=>by rw[aM0 d,l];rfl
 refine⟨om,λhm=>?_⟩;have j:=bE0 (most:=most) d (λf i=>(g f i).1) hm;omega
def SJ.fin(h:SJ nx gen kill most a goes k ins todo waits T)(l:k=(E3 nx a).length):SI nx gen kill most ins todo waits T:=by
 refine⟨h.toSB,λc g b=>?_,h.few,h.many⟩;by_cases e:c=a
 .subst e;intro d i f j;refine h.done d ?_ f ((h.mine b f).2 j);rw[l,ek4];exact i
 .exact h.closed c g e b
def SI.fin(k:G2 nx.length nx)(h:SI nx gen kill most ins [] waits T):(∀b f,I9 nx.length b=true->(at0 ins b f=true↔aG9 nx gen kill b f))/\nx.length<=T/\T<=nx.length+nx.length*most:=by
 have n:∀a,z7 waits a=false:=λa=>by
  cases e:z7 waits a
  .rfl
  .have:=(h.wt a).1 e;cases this
 have g:∀c d,d∈E3 nx c->I9 nx.length c=true:=by
  intro c d m;cases e:I9 nx.length c
  .rw[bk6 e]at m;cases m
  .rfl
 refine⟨λb f l=>⟨h.sound b f l,λp=>?_⟩,by simpa using h.many,?_⟩
 .clear l
  induction p with
  | gen i j=>exact h.closed _ (g _ _ i) (n _) _ i _ (.inl j)
  | step i _ o q=>exact h.closed _ (g _ _ i) (n _) _ i _ (.inr ⟨q,o⟩)
 .have i:=h.few;have j:=bj9 most ins;rw[h.ilen]at j;simp only[ep7]at i;omega
def dD4(n most:Nat)(ins:List (List W))(todo:List Int):Nat:=(n*most-aU3 most ins)+todo.length
end
def by1{nx:List (List Int)}{a b:Int}(h:b∈E3 nx a):0<=a/\a<nx.length:=by
 unfold E3 at h;split at h
 .next c=>exact c
 .simp at h
def cQ5{nx s y:List (List Int)}{g:List Nat}(v:∀(a:Int) (f:Nat),(f:Int)∈E3 s a↔∃A:Nat,g[f]?=some A/\a=(A:Int))(w:∀(a:Int) (f:Nat),f<g.length->((f:Int)∈E3 y a↔∃A∈g,a=(A:Int)))
  {f A:Nat} (p:g[f]?=some A) (c:Int):aG9 nx s y c f↔∃d∈E3 nx (A:Int),W1 (aF2 nx λq=>g.contains q) d c:=by
 have k:f<g.length:=(ej5.1 p).1;constructor
 .intro h;generalize u:f=F at h
  induction h with
  | @gen a b B m l=>
   subst u;obtain⟨z,t,rfl⟩:=(v _ _).1 l;rw[p]at t;obtain rfl:=el4 t;exact⟨b,m,.refl⟩
  | @step a b B m i e r=>
   subst u;obtain⟨d,o,n⟩:=r rfl;refine⟨d,o,.step n ?_⟩;have D:=by1 m;rw[ay9,if_neg]
   .exact m
   .intro j;rw[ek7]at j;exact e ((w a f k).2 ⟨a.toNat,j,om⟩)
 .rintro⟨d,o,n⟩
  induction n with
  | refl=>exact .gen o ((v _ _).2 ⟨A,p,rfl⟩)
  | @step b c n i r=>
   rw[ay9]at i;split at i
   .simp at i
   .next x=>
    refine .step i r λe=>?_;obtain⟨z,C,rfl⟩:=(w b f k).1 e;rw[el5]at x;exact x (ek7.2 C)
def cx4{nx:List (List Int)}(a:OkR nx){b:List Nat}{A c:Nat}:bo9 nx b A c=true↔∃d∈E3 nx (A:Int),W1 (aF2 nx λq=>b.contains q) d (c:Int):=by
 unfold bo9;rw[ew3];constructor
 .rintro⟨d,e,h⟩;exact⟨d,e,(cd7 (aJ1 a _) (by rw[ah1];exact a _ _ e)).1 h⟩
 .rintro⟨d,e,h⟩;exact⟨d,e,(cd7 (aJ1 a _) (by rw[ah1];exact a _ _ e)).2 h⟩
def am4(a:List Nat)(g:Nat->List Int)(n:Nat):Nat->List (List Int)
 | 0=>List.replicate n []
 | k+1=>(am4 a g n k).set (a.getD k 0) (g k)
def ac5(a:List Nat)(g:Nat->List Int)(n:Nat):∀k,(am4 a g n k).length=n
 | 0=>by simp[am4]
 | k+1=>by rw[am4,eq3,ac5 a g n k]
def aJ5{b:List Nat}{g:Nat->List Int}{n:Nat}(m:b.Nodup)(d:∀a∈b,a<n):∀k,k<=b.length->∀(a:Nat) (r:List Int),(am4 b g n k)[a]?=some r->(∃f,f<k/\b[f]?=some a/\r=g f)\/((∀f,f<k->b[f]?≠some a)/\r=[])
 | 0,_,a,r,h=>by
  rw[am4]at h;exact .inr ⟨λf p=>om,eq7 (el0 h)⟩
 | k+1,hk,a,r,h=>by
  have c:k<b.length:=om
  have l:b.getD k 0=b[k]:=by rw[List.getD,ej0 c];rfl
  rw[am4,l]at h;by_cases ha:b[k]=a
  .subst ha;rw[eq8 (by rw[ac5];exact d _ (ek0 c))]at h;exact .inl ⟨k,om,ej0 c,(el4 h).symm⟩
  .rw[es2 ha]at h;rcases aJ5 m d k om a r h with⟨f,p,i,j⟩|⟨i,j⟩
   .exact .inl ⟨f,om,i,j⟩
   .refine .inr ⟨λf p=>?_,j⟩;rcases en2 f k with o|o
    .exact i f o
    .obtain rfl:f=k:=om
     rw[ej0 c];exact λe=>ha (el4 e)
def bV6{b:List Nat}{g:Nat->List Int}{n:Nat}(e:b.Nodup)(d:∀a∈b,a<n)(a x:Int):x∈E3 (am4 b g n b.length) a↔∃(f A:Nat),b[f]?=some A/\a=(A:Int)/\x∈g f:=by
 constructor
 .intro h;obtain⟨t,u⟩:=by1 h;unfold E3 at h;rw[if_pos ⟨t,u⟩]at h;have c:(am4 b g n b.length)[a.toNat]?=some ((am4 b g n b.length).getD a.toNat []):=by
   rw[List.getD,ej0 om];rfl
  rcases aJ5 e d _ (ek6 _) _ _ c with⟨f,k,i,j⟩|⟨_,j⟩
  .rw[j]at h;exact⟨f,a.toNat,i,om,h⟩
  .rw[j]at h;simp at h
 .rintro⟨f,A,k,rfl,y⟩;have v:=d A (el0 k);have m:f<b.length:=(ej5.1 k).1;unfold E3;rw[ac5,if_pos ⟨om,om⟩,el5];have c:(am4 b g n b.length)[A]?=some ((am4 b g n b.length).getD A []):=by
   rw[List.getD,ej0 (by rw[ac5];exact v)];rfl
  rcases aJ5 e d _ (ek6 _) _ _ c with⟨l,w,i,j⟩|⟨i,_⟩
  .have:f=l:=by
    obtain⟨o,p⟩:=ej5.1 k;obtain⟨q,r⟩:=ej5.1 i;have s:=ep5.1 e;rcases Nat.lt_trichotomy f l with h|h|h
    .exact absurd (p.trans r.symm) (s f l o q h)
    .exact h
    .exact absurd (r.trans p.symm) (s l f q o h)
   subst this;rw[j];exact y
  .exact absurd k (i f m)
structure GM (h:Hp) (w0 w:World) (r:Nat) (kv:List (B3×Value)) (G:B3->List Int):Prop where
 map:aY9 w r kv
 ge:w0.heap.size<=r
 ext:o6 w0 w
 row:∀n v,P8 kv n=some v->B0 h w 3 v (G n)/\G n≠[]
 no:∀n,P8 kv n=none->G n=[]
 apart:∀n m v u,n≠m->P8 kv n=some v->P8 kv m=some u->∀b,A5 v b->¬A5 u b
 off:∀n v,P8 kv n=some v->∀b,A5 v b->b≠r/\w0.heap.size<=b
def GM.N(r:Nat)(kv:List (B3×Value))(b:Nat):Prop:=b=r\/∃n v,P8 kv n=some v/\A5 v b
section
variable {h:Hp} {w0 w:World} {r:Nat} {kv:List (B3×Value)} {G:B3->List Int}
def GM.more(s:GM h w0 w r kv G){b:World}(a:o6 w b):GM h w0 b r kv G:=
 ⟨s.map.mod a id,s.ge,s.ext.trans a,λn v e=>⟨(s.row n v e).1.ext a,(s.row n v e).2⟩,s.no,s.apart,s.off⟩
def GM.lt(s:GM h w0 w r kv G){b:Nat}(hb:GM.N r kv b):b<w.heap.size:=by
 rcases hb with rfl|⟨n,v,e,hb⟩
 .exact s.map.lt
 .exact(s.row n v e).1.lt hb
def GM.nge(s:GM h w0 w r kv G){b:Nat}(hb:GM.N r kv b):w0.heap.size<=b:=by
 rcases hb with rfl|⟨n,v,e,hb⟩
 .exact s.ge
 .exact(s.off n v e b hb).2
def GM.push(s:GM h w0 w r kv G)(M:E2 h (i5 w))(n:B3)(a:Int)(V:(G n).length<=100000000){P:Program}(U:P=prog){e:TypeId}:
  (Instr.lookup 270 (.map (some r)) (t8 n) false).run prog w = .ok ((P8 kv n).getD (.slice none 0 0)) w /\
  (Instr.buildSlice 45 1 #[(0,.int .i64 a)]).run prog w = .ok (.slice (some ⟨w.heap.size,0,none⟩) 1 1) (w.alloc (.cells #[.int .i64 a] 3)) /\
  ∃p D l,(Builtin.append_ #[45,45] e #[(P8 kv n).getD (.slice none 0 0),.slice (some ⟨w.heap.size,0,none⟩) 1 1]).run prog (w.alloc (.cells #[.int .i64 a] 3)) = .ok p D /\
   (Instr.mapUpdate 270 (.map (some r)) (t8 n) p).run prog D = .ok () l/\GM h w0 l r (aU5 kv n p) (λm=>if m=n then G n++[a]else G m)/\p6 (GM.N r kv) w l/\(∀b,GM.N r (aU5 kv n p) b->GM.N r kv b\/w.heap.size<=b):=by
 have L:prog.underlying 270=some (.map 9 45):=Tryz.underlying270;have K:prog.underlying 9=some .string:=Tryz.underlying9;have F:=s.map.lookup (P:=prog) L K ao7 n;have I:B0 h w 3 ((P8 kv n).getD (.slice none 0 0)) (G n):=by
  cases he:P8 kv n with
  | none=>rw[s.no n he];exact B0.nil _ _ _
  | some v=>exact(s.row n v he).1
 have g:∀b,A5 ((P8 kv n).getD (.slice none 0 0)) b->∃v,P8 kv n=some v/\A5 v b:=λb c=>by
  cases he:P8 kv n with
  | none=>rw[he]at c;exact absurd c D8
  | some v=>rw[he]at c;exact⟨v,rfl,c⟩
 obtain⟨N,p,D,O,Q,B,J⟩:=Go.Proofs.YtpebpfiglfmegaaGreat.push (P:=prog) (t:=45) (e:=e) W3 rfl I (x:=.int .i64 a) (y:=a) rfl om om M;have H:=s.map.mod B λc=>by
  obtain⟨v,e,c⟩:=g r c;exact(s.off n v e r c).1 rfl
 obtain⟨l,R,S,C⟩:=H.update (P:=prog) L K n p;refine⟨F,N,p,D,l,O,R,?_,?_,?_⟩
 .have A:∀b,A5 p b->b≠r/\w0.heap.size<=b:=λb c=>by
   rcases J b c with d|d
   .obtain⟨v,e,d⟩:=g b d;exact s.off n v e b d
   .have:=s.map.lt;have:=s.ext.size;exact⟨om,om⟩
  have z:∀m u,m≠n->P8 kv m=some u->∀b,A5 u b->¬A5 p b:=λm u j e b c f=>by
   rcases J b f with d|d
   .obtain⟨v,o,d⟩:=g b d;exact s.apart m n u v j e o b c d
   .have:=(s.row m u e).1.lt c;omega
  refine⟨S,s.ge,p6.ext_of (p6.ext_of s.ext B λb c=>?_) C λb c=>by subst c;exact s.ge,λm v e=>?_,λm e=>?_,λm k v u j q o b c f=>?_,λm v e b c=>?_⟩
  .obtain⟨v,e,c⟩:=g b c;exact(s.off n v e b c).2
  .rw[ay6]at e;split at e
   .next i=>
    obtain rfl:=el4 e;subst i;simp only[ep4];exact⟨Q.mod C λb c=>(A b c).1,dP⟩
   .next i=>
    simp only[i,er8];refine⟨((s.row m v e).1.mod B λb c f=>?_).mod C λb c=>(s.off m v e b c).1,(s.row m v e).2⟩;obtain⟨T,o,f⟩:=g b f;exact s.apart m n v T i e o b c f
  .rw[ay6]at e;split at e
   .cases e
   .next i=>simp only[i,er8];exact s.no m e
  .rw[ay6]at q o;split at q
   .next d=>
    obtain rfl:=el4 q;rw[if_neg (λE=>j (d.trans E.symm))]at o;exact z k u (λE=>j (d.trans E.symm)) o b f c
   .next d=>
    split at o
    .obtain rfl:=el4 o;exact z m v d q b c f
    .exact s.apart m k v u j q o b c f
  .rw[ay6]at e;split at e
   .obtain rfl:=el4 e;exact A b c
   .exact s.off m v e b c
 .exact p6.trans (B.weaken λb _ c=>by
   obtain⟨v,e,c⟩:=g b c;exact .inr ⟨n,v,e,c⟩) (C.weaken λb _ c=>.inl c)
 .intro b c;rcases c with d|⟨m,v,e,c⟩
  .exact .inl (.inl d)
  .rw[ay6]at e;split at e
   .obtain rfl:=el4 e;rcases J b c with d|d
    .obtain⟨v,e,d⟩:=g b d;exact .inl (.inr ⟨n,v,e,d⟩)
    .exact .inr d
   .exact .inl (.inr ⟨m,v,e,c⟩)
end
def bc7{p:Pg}{i:Nat}(f:E6 p)(hw:C4 p<=1000000)(d:i<p.procs.length){k:Nat}(s:(k:Int)<(F5 (d9 p) i).n):((b9 p).gives (i:Int) (k:Int)).Pairwise (λa b=>ltS a b=true)/\((b9 p).gives (i:Int) (k:Int)).length<=100:=by
 obtain⟨x,m⟩:=K9 f.may hw i d;have c:=U4 m;generalize x+B2 p.procs[i].body=y at m c;unfold Bk.gives;rw[O9 d,U1 d];split
 .refine⟨X1 _,ej7 (aF1 _) ?_⟩;have l:=aU7 (aW6 f hw) (i:Int);have r:=V2 f.may d;rw[ej2,ek2];have e:I8 (b9 p).ins (i:Int)=I8 (ah9 p) (i:Int):=rfl;rw[e];omega
 .next o=>
  split
  .exact⟨List.Pairwise.nil,dP⟩
  .next l=>
   have n:¬(k:Int)=(F5 (d9 p) i).n-1:=λh=>l (.inl h);obtain⟨q,j,g,_⟩:=aq7 c (k:=k) om om;rw[j];exact((bP7 f hw).row g).2
def df2(p:Pg)(i:Nat)(n:B3):List Int:=((b9 p).givers (i:Int) n).map λ(a:Nat)=>(a:Int)
def cS5(a:Addr)(p:Pg)(i:Nat)(w:World)(ha:At (i5 w) a (b9 p))(hr:E6 p)(hw:C4 p<=1000000)(N:i<p.procs.length):
  y5 prog 211 #[.pointer (some a),.int .i64 i] w λu O=>(∃r K c,u = .tuple #[.map (some r),.int .i64 c]/\GM (i5 w) w O r K (df2 p i)):=by
 refine z6 [.pointer (some a),.int .i64 i] func211 rfl ?_;obtain⟨x,pt⟩:=K9 hr.may hw i N;have ac:=U4 pt;generalize x+B2 p.procs[i].body=y at pt ac;have aN:=J8 hr.may;have hn:=ac.n;have aR:=pt.ok.len;have aQ:=pt.ok.le;have H:=λk (hk:((k:Nat):Int)<(F5 (d9 p) i).n)=>bc7 hr hw N hk;have j:=λ(k:Nat) (wa:World) (hh:E2 (i5 w) (i5 wa)) (hk:(k:Int)<(F5 (d9 p) i).n)=>cN8 (i5 w) a p i k wa ha hh hr hw N hk;have C:∀n,df2 p i n=((List.range (F5 (d9 p) i).n.toNat).filter λ(a:Nat)=>((b9 p).gives (i:Int) (a:Int)).contains n).map λ(a:Nat)=>(a:Int):=λn=>by
  unfold df2 Bk.givers;rw[O9 N]
 obtain⟨sh,vw,_,_,_,_,has,ab,_,_,_,_,aI,_⟩:=ha.book rfl;obtain⟨aw,ax,T⟩:=aC0 (hv:=ab) (k:=i) (p:=⟨F5 (d9 p) i⟩) (by show((L7 p).map λw=>(⟨w⟩:Ptr Wy))[i]?=_;rw[em8,aa1 N];rfl);simp only at T;have V:=ab.inS (k:=i) (by show i<((L7 p).map λw=>(⟨w⟩:Ptr Wy)).length;unfold L7;simpa using N);obtain⟨_,_,_,_,_,_,ag,_⟩:=T.wy;obtain⟨Y,X,A⟩:=aY9.new (P:=prog) w 270;generalize a0:w.alloc (.map #[] 0)=w1 at Y X A;have an:GM (i5 w) w w1 w.heap.size [] (λ_=>[]):=⟨X,ek6 _,A,λn v e=>by simp[P8]at e,λ_ _=>rfl,λn m v u _ e=>by simp[P8]at e,λn v e=>by simp[P8]at e⟩;generalize ao:(λk:Nat=>(b9 p).gives (i:Int) (k:Int))=g at *;have ap:∀k:Nat,(b9 p).gives (i:Int) (k:Int)=g k:=λk=>by rw[<-ao]
 simp only[ap]at H j C;generalize(F5 (d9 p) i).n=wn at hn H j C ag;obtain⟨M,rfl⟩:∃M:Nat,wn=(M:Int):=⟨wn.toNat,om⟩;rw[el5]at C;have aC:=J7 (P:=prog) (t:=160) ax (b7 A) aD2;simp only[i4,n9,A0,simprocAttr,aB8,Y,aI w1 (b7 A),V,aC,ag w1 (b7 A)];have aq:∀k,(λn=>((List.range k).filter λ(a:Nat)=>(g a).contains n).map (λ(a:Nat)=>(a:Int))++if((g k).take (g k).length).contains n then[(k:Int)]else[])=λn=>((List.range (k+1)).filter λ(a:Nat)=>(g a).contains n).map λ(a:Nat)=>(a:Int):=λk=>by
  funext n
  rw[ek4,eu5,ep9,em6]
  congr 1
  rw[List.filter_cons,List.filter_nil];cases(g k).contains n<;>rfl
 refine A9 [0,1,4,19] (σ:=Nat×List (B3×Value)) (λs f O=>f 20 = .int .i64 s.1/\s.1<=M/\(∃c:Int,f 5 = .int .i64 c)/\GM (i5 w) w O w.heap.size s.2 (λn=>((List.range s.1).filter λ(a:Nat)=>(g a).contains n).map λ(a:Nat)=>(a:Int))) (λs=>M-s.1) (0,[]) ?_ ?_
 .exact⟨rfl,ek1 _,⟨0,tt⟩,an⟩
 rintro⟨k,K⟩ f w5 ⟨e0,e1,e4,Q,_⟩ ⟨B,aA,⟨c,h5⟩,L⟩;simp only at B aA L;simp only[eH,simprocAttr,B,Q];refine A3 (λaX=>?_) ?_;rotate_left
 .rintro rfl;simp only[i4,simprocAttr,e4,h5];refine U5 results211 ?_;simp only[B8,simprocAttr];refine⟨w.heap.size,K,c,tt,?_⟩;have:df2 p i=λn=>((List.range k).filter λ(a:Nat)=>(g a).contains n).map λ(a:Nat)=>(a:Int):=by funext n;exact C n
  rw[this];exact L
 obtain⟨o,U⟩:=H k om;have D:=aq k;simp only[i4,simprocAttr,B,e0,e1];refine y4 (j k w5 (b7 L.ext) om) ?_;rintro u w6 ⟨hu,ad⟩;have s6:=L.more ad;have z:R (D0 w6 (GM.N w.heap.size K)) u (g k):=A6.mono (cJ1 (b7 L.ext) ad λb G=>⟨L.lt G,aW5 (L.nge G)⟩) hu;have Z:=aC2 o;generalize g k=d at z o U D Z;simp only[eH,simprocAttr,z.isS,z.vlen];refine A9 [0,1,4,6,19,20,26,27] (σ:=Nat×List (B3×Value)) (λs f O=>f 28 = .int .i64 s.1/\s.1<=d.length/\(∃c:Int,f 5 = .int .i64 c)/\GM (i5 w) w O w.heap.size s.2 (λn=>((List.range k).filter λ(a:Nat)=>(g a).contains n).map (λ(a:Nat)=>(a:Int))++if(d.take s.1).contains n then[(k:Int)]else[])/\p6 (GM.N w.heap.size K) w6 O/\(∀b,GM.N w.heap.size s.2 b->GM.N w.heap.size K b\/w6.heap.size<=b)) (λs=>d.length-s.1) (0,K) ?_ ?_
 .refine⟨rfl,ek1 _,⟨c,h5⟩,?_,p6.refl _,λb G=>.inl G⟩;simp only[et3,List.contains_nil,ep8,er8,em5];exact s6
 rintro⟨q,af⟩ f7 w7 ⟨j0,j1,j4,j6,aF,ae,aG,aH,_⟩ ⟨E,aE,⟨c7,S⟩,s7,I,F⟩;simp only at E aE s7 F;rw[e0]at j0;rw[e1]at j1;rw[e4]at j4;rw[Q]at aF;rw[B]at ae;simp only[eH,simprocAttr,E,aH];refine A3 (λl=>?_) ?_;rotate_left
 .rintro rfl;rw[D]at s7;simp only[eH,simprocAttr,ae];exact V1 (k+1,af) ⟨⟨c7,S⟩,s7⟩
 have ay:=z.inS l;have W:=ldS z (F3 I) l;have J:=ej8 l;have aa:(d.take q).contains d[q]=false:=by
  cases h:(d.take q).contains d[q]
  .rfl
  .exfalso
   have h1:=ek7.1 h;have h2:(d.take (q+1)).Nodup:=Z.sublist (List.take_sublist _ _);rw[J,eo0]at h2;exact h2.2.2 _ h1 _ dP rfl
 generalize d[q]=n at W J aa;have aB:(((List.range k).filter λ(a:Nat)=>(g a).contains n).map (λ(a:Nat)=>(a:Int))++if(d.take q).contains n then[(k:Int)]else[]).length<=1000:=by
  rw[ej2,ek2];have h1:=el8 (λ(a:Nat)=>(g a).contains n) (List.range k);rw[en9]at h1;have h2:(if(d.take q).contains n then[(k:Int)]else[]).length<=1:=by split<;>simp
  omega
 obtain⟨q1,q2,v',w8,w9,q3,q4,s9,aD,au⟩:=s7.push (b7 s7.ext) n (k:Int) om rfl (e:=45);have ar:(λm=>if m=n then(((List.range k).filter λ(a:Nat)=>(g a).contains n).map (λ(a:Nat)=>(a:Int))++if(d.take q).contains n then[(k:Int)]else[])++[(k:Int)]else((List.range k).filter λ(a:Nat)=>(g a).contains m).map (λ(a:Nat)=>(a:Int))++if(d.take q).contains m then[(k:Int)]else[])=λm=>((List.range k).filter λ(a:Nat)=>(g a).contains m).map (λ(a:Nat)=>(a:Int))++if(d.take (q+1)).contains m then[(k:Int)]else[]:=by
  funext m
  have av:(d.take (q+1)).contains m=((d.take q).contains m||decide (m=n)):=by
   rw[J,eu4,eu2,ek7,ek7,ej9,ek5,decide_eq_true_iff]
  rw[av];split
  .next h=>subst h;rw[aa];simp
  .next h=>simp[h]
 rw[ar]at s9;simp only[i4,n9,A0,simprocAttr,E,S,j4,j6,aG,ay,W,q1,q2,q3,ax6,q4];exact V1 (q+1,aU5 af n v') ⟨⟨_,tt⟩,s9,I.chain aD (λb G h=>(F b h).resolve_right om),λb G=>(au b G).elim (F b) λh=>.inr (ej7 I.size h)⟩
def cD6{p:Pg}{i:Nat}(g:E6 p)(hw:C4 p<=1000000)(j:i<p.procs.length){k:Nat}(r:(k:Int)<(F5 (d9 p) i).n):((b9 p).takes (i:Int) (k:Int)).Pairwise (λa b=>ltS a b=true)/\((b9 p).takes (i:Int) (k:Int)).length<=2000000:=by
 obtain⟨x,l⟩:=K9 g.may hw i j;have c:=U4 l;generalize x+B2 p.procs[i].body=y at l c;unfold Bk.takes;rw[O9 j];split
 .refine⟨X1 _,ej7 (aF1 _) ?_⟩;have o:=aU7 (aJ2 g.may) (i:Int);rw[ej2,em3];have e:I8 (b9 p).outs (i:Int)=I8 (L5 p) (i:Int):=rfl;rw[e];omega
 .next o=>
  split
  .exact⟨List.Pairwise.nil,dP⟩
  .next m=>
   have n:¬(k:Int)=0:=λh=>m (.inl h);obtain⟨q,f,d,_⟩:=aq7 c (k:=k) om om;rw[f];exact((bP8 g hw).row d).2
def av9(b:Bk)(i:Int)(n:B3)(c:Nat):List Nat:=(List.range (b.givers i n).length).filter λf=>bo9 (b.nx i) (b.givers i n) ((b.givers i n).getD f 0) c
def ah7(b:Bk)(i:Int)(n:B3)(c:Nat)(f:Nat):List Fw:=if(b.takes i c).contains n then[⟨(b.way i).place (((b.givers i n).getD f 0:Nat):Int),(b.way i).place c,n⟩]else[]
def aO9(b:Bk)(i:Int)(n:B3)(c:Nat):List Fw:=(av9 b i n c).flatMap (ah7 b i n c)
def av8(b:Bk)(i:Int)(n:B3):List Fw:=(List.range (b.way i).n.toNat).flatMap (aO9 b i n)
def bh5(b:Bk)(i:Int)(n:B3):(b.givers i n).Nodup:=by
 unfold Bk.givers;exact List.nodup_range.filter _
def ag5{b:Bk}{i:Int}{n:B3}{x:Fw}:x∈av8 b i n↔∃a c:Nat,a∈b.givers i n/\c<(b.way i).n.toNat/\(b.takes i c).contains n=true/\bo9 (b.nx i) (b.givers i n) a c=true/\x=⟨(b.way i).place a,(b.way i).place c,n⟩:=by
 unfold av8 aO9 ah7 av9;simp only[em2,en3,el6];constructor
 .rintro⟨c,h,f,⟨e,d⟩,g⟩;split at g
  .next j=>
   rw[ek5]at g;refine⟨(b.givers i n).getD f 0,c,?_,h,j,d,g⟩;rw[List.getD,ej0 e];exact ek0 e
  .simp at g
 .rintro⟨a,c,l,h,j,d,rfl⟩;obtain⟨f,e,rfl⟩:=ep2.1 l;have k:(b.givers i n).getD f 0=(b.givers i n)[f]:=by rw[List.getD,ej0 e];rfl
  exact⟨c,h,f,⟨e,by rw[k];exact d⟩,by rw[if_pos j,k];simp⟩
def aX3{b:Bk}{i:Int}{x:Fw}:x∈b.flow0 i↔∃n,x∈av8 b i n:=by
 unfold Bk.flow0;simp only[em2,en3,el2,el6,el3,ag5];constructor
 .rintro⟨a,e,n,h,c,⟨f,g,d⟩,rfl⟩;refine⟨n,a,c,?_,f,g,d,rfl⟩;unfold Bk.givers;rw[el6,en3,ek7];exact⟨e,h⟩
 .rintro⟨n,a,c,e,f,g,d,rfl⟩;unfold Bk.givers at e;rw[el6,en3,ek7]at e;exact⟨a,e.1,n,e.2,c,⟨f,g,d⟩,rfl⟩
def aB7{α β:Type}{f:α->List β}:∀{l:List α},l.Nodup->(∀a∈l,(f a).Nodup)->(∀a∈l,∀b∈l,∀x,x∈f a->x∈f b->a=b)->(l.flatMap f).Nodup
 | [],_,_,_=>dP
 | a::l,hn,h1,h2=>by
  rw[ev7]at hn;rw[es5,eo0];refine⟨h1 a dP,aB7 hn.2 (λb d=>h1 b (by simp[d])) (λb d c h=>h2 b (by simp[d]) c (by simp[h])),λx i y j e=>?_⟩;subst e;obtain⟨b,d,g⟩:=em2.1 j;have:=h2 a dP b (by simp[d]) x i g;subst this;exact hn.1 d
def bO7(w:Wy):Prop:=∀a c:Nat,a<w.n.toNat->c<w.n.toNat->w.place a=w.place c->a=c
def cB1{l:List Nat}(h:l.Nodup){f a:Nat}(d:f<l.length)(b:a<l.length)(e:l.getD f 0=l.getD a 0):f=a:=by
 have g:l.getD f 0=l[f]:=by rw[List.getD,ej0 d];rfl
 have i:l.getD a 0=l[a]:=by rw[List.getD,ej0 b];rfl
 rw[g,i]at e;have c:=ep5.1 h;rcases Nat.lt_trichotomy f a with h|h|h
 .exact absurd e (c f a d b h)
 .exact h
 .exact absurd e.symm (c a f b d h)
def bS1{l:List Nat}{f:Nat}(a:f<l.length):l.getD f 0∈l:=by
 rw[List.getD,ej0 a];exact ek0 a
def al8(b:Bk)(i:Int)(n:B3):∀a∈b.givers i n,a<(b.way i).n.toNat:=λa c=>by
 unfold Bk.givers at c;exact en3.1 (el6.1 c).1
def aM5{b:Bk}{i:Int}{n:B3}{c f:Nat}{x:Fw}(h:x∈ah7 b i n c f):x.src=(b.way i).place (((b.givers i n).getD f 0:Nat):Int)/\x.dst=(b.way i).place c:=by
 unfold ah7 at h;split at h
 .rw[ek5]at h;subst h;exact⟨rfl,rfl⟩
 .simp at h
def ck8{b:Bk}{i:Int}(m:bO7 (b.way i))(n:B3):(av8 b i n).Nodup:=by
 unfold av8;refine aB7 List.nodup_range (λc k=>?_) λc k p h x d a=>?_
 .unfold aO9;refine aB7 (List.nodup_range.filter _) (λf l=>?_) λf l o j x d a=>?_
  .unfold ah7;split<;>simp
  .have e:=en3.1 (el6.1 l).1;have g:=en3.1 (el6.1 j).1;exact cB1 (bh5 b i n) e g (m _ _ (al8 b i n _ (bS1 e)) (al8 b i n _ (bS1 g)) ((aM5 d).1.symm.trans (aM5 a).1))
 .unfold aO9 at d a;obtain⟨f,_,d⟩:=em2.1 d;obtain⟨o,_,a⟩:=em2.1 a;exact m _ _ (en3.1 k) (en3.1 h) ((aM5 d).2.symm.trans (aM5 a).2)
def ck7{b:Bk}{i:Int}(k:bO7 (b.way i))(l:∀a:Nat,a<(b.way i).n.toNat->(b.gives i a).Nodup):(b.flow0 i).Nodup:=by
 unfold Bk.flow0;refine aB7 List.nodup_range (λa g=>?_) λa g q h x f d=>?_
 .refine aB7 (l a (en3.1 g)) (λn m=>?_) λn m p o x f d=>?_
  .rw[List.Nodup,List.pairwise_map];refine List.Pairwise.imp_of_mem (fun{c j} hc hc' hne e=>?_) (List.nodup_range.filter _);exact hne (k _ _ (en3.1 (el6.1 hc).1) (en3.1 (el6.1 hc').1) (el1 Fw.dst e))
  .obtain⟨c,_,rfl⟩:=el2.1 f;obtain⟨j,_,e⟩:=el2.1 d;exact(el1 Fw.var e).symm
 .obtain⟨n,_,f⟩:=em2.1 f;obtain⟨p,_,d⟩:=em2.1 d;obtain⟨c,_,rfl⟩:=el2.1 f;obtain⟨j,_,e⟩:=el2.1 d;exact(k _ _ (en3.1 h) (en3.1 g) (el1 Fw.src e)).symm
def cy5{b:Bk}{i:Int}(k:bO7 (b.way i))(l:∀a:Nat,a<(b.way i).n.toNat->(b.gives i a).Nodup){c:List B3}(m:c.Nodup)(d:∀n,b.givers i n≠[]->n∈c):(c.flatMap (av8 b i)).Perm (b.flow0 i):=by
 have f:(c.flatMap (av8 b i)).Nodup:=aB7 m (λn _=>ck8 k n) λn _ p _ x o g=>by
  obtain⟨_,_,_,_,_,_,rfl⟩:=ag5.1 o;obtain⟨_,_,_,_,_,_,e⟩:=ag5.1 g;exact el1 Fw.var e
 rw[List.perm_ext_iff_of_nodup f (ck7 k l)];intro x;rw[aX3,em2];constructor
 .rintro⟨n,_,h⟩;exact⟨n,h⟩
 .rintro⟨n,h⟩;refine⟨n,d n λe=>?_,h⟩;obtain⟨a,_,j,_⟩:=ag5.1 h;rw[e]at j;simp at j
def de9{b:Bk}{i:Int}(u:bO7 (b.way i))(t:∀a:Nat,a<(b.way i).n.toNat->(b.gives i a).Nodup)(e:∀a:Nat,a<(b.way i).n.toNat->plc ((b.way i).place a)){l:List Fw}(h:l.Perm (b.flow0 i)):ad5 bN9 l=b.flows i:=by
 have d:∀x∈b.flow0 i,plc x.src/\plc x.dst:=λx r=>by
  obtain⟨n,h⟩:=aX3.1 r;obtain⟨a,c,g,q,_,_,rfl⟩:=ag5.1 h;have m:a<(b.way i).n.toNat:=by
   unfold Bk.givers at g;exact en3.1 (el6.1 g).1
  exact⟨e a m,e c q⟩
 have o:∀a b:Fw,bN9 a b=true\/bN9 b a=true:=λa b=>ci9.total a b;have f:∀a b c:Fw,bN9 a b=true->bN9 b c=true->bN9 a c=true:=λa b c j k=>ep1 (ci9.trans a b c (ej3 j) (ej3 k));unfold Bk.flows;refine aO1 (le:=bN9) ((I0 _ _).trans (h.trans (I0 _ _).symm)) (λa g s p j k=>?_) (ao4 (λa _ b _=>o a b) λa _ b _ c _=>f a b c) (ao4 (λa _ b _=>o a b) λa _ b _ c _=>f a b c);exact cl2 (d _ (h.mem_iff.1 ((I0 _ _).mem_iff.1 g))) (d _ (h.mem_iff.1 ((I0 _ _).mem_iff.1 p))) (ci9.eq0 j k)
def cl3{kv:List (B3×Value)}(hn:(kv.map (·.1)).Nodup){n:B3}{v:Value}(h:(n,v)∈kv):P8 kv n=some v:=by
 induction kv with
 | nil=>simp at h
 | cons p l b=>
  rw[en8,ev7]at hn;rcases ek9.1 h with rfl|h
  .simp[P8]
  .have a:p.1≠n:=λe=>hn.1 (by rw[e];exact el2.2 ⟨_,h,rfl⟩);have:=b hn.2 h;simp only[P8]at this ⊢;simp[a,this]
def df1{kv:List (B3×Value)}{n:B3}{v:Value}(h:P8 kv n=some v):(n,v)∈kv:=by
 unfold P8 at h;obtain⟨p,a,rfl⟩:=Option.map_eq_some_iff.1 h;have b:=List.find?_some a;have c:=ej3 b;subst c;exact List.mem_of_find?_eq_some a
def aW2{α β:Type}{f:α->List β}{B:Nat}:∀{l:List α},(∀a∈l,(f a).length<=B)->(l.flatMap f).length<=l.length*B
 | [],_=>dP
 | a::l,h=>by
  rw[es5,ej2,em1,ev0,Nat.one_mul];have d:=h a dP;have e:=aW2 (l:=l) (f:=f) (B:=B) λb c=>h b (by simp[c]);omega
def cy8(b:Bk)(i:Int)(n:B3):(b.givers i n).length<=(b.way i).n.toNat:=by
 unfold Bk.givers;exact ej7 (el8 _ _) dP
def bS0(b:Bk)(i:Int)(n:B3)(c:Nat):(av9 b i n c).length<=(b.way i).n.toNat:=by
 unfold av9;refine ej7 (el8 _ _) ?_;rw[en9];exact cy8 b i n
def bF4(b:Bk)(i:Int)(n:B3)(c f:Nat):(ah7 b i n c f).length<=1:=by
 unfold ah7;split<;>simp
def cy4(b:Bk)(i:Int)(n:B3)(c q:Nat):(((av9 b i n c).take q).flatMap (ah7 b i n c)).length<=(b.way i).n.toNat:=by
 have a:=aW2 (l:=(av9 b i n c).take q) (f:=ah7 b i n c) (B:=1) λf _=>bF4 b i n c f;have d:=bS0 b i n c;have e:((av9 b i n c).take q).length<=(av9 b i n c).length:=by rw[ek3];omega
 omega
def cR8(b:Bk)(i:Int)(n:B3)(c:Nat):(aO9 b i n c).length<=(b.way i).n.toNat:=by
 have h:=cy4 b i n c (av9 b i n c).length;rw[ek4]at h;exact h
def bF3(b:Bk)(i:Int)(n:B3)(c:Nat):((List.range c).flatMap (aO9 b i n)).length<=c*(b.way i).n.toNat:=by
 have a:=aW2 (l:=List.range c) (f:=aO9 b i n) (B:=(b.way i).n.toNat) λc _=>cR8 b i n c
 rwa [en9]at a
def cR9(b:Bk)(i:Int)(n:B3):(av8 b i n).length<=(b.way i).n.toNat*(b.way i).n.toNat:=bF3 b i n _
def dh7{b:Bk}{i:Int}{c:List B3}(j:c.Nodup)(e:∀n∈c,b.givers i n≠[])(h:∀a:Nat,a<(b.way i).n.toNat->(b.gives i a).length<=100):c.length<=(b.way i).n.toNat*100:=by
 have g:=aW2 (l:=List.range (b.way i).n.toNat) (f:=λ(a:Nat)=>b.gives i (a:Int)) (B:=100) λa d=>h a (en3.1 d);rw[en9]at g;refine ej7 (I5 j λn k=>?_) g;obtain⟨a,d⟩:=List.exists_mem_of_ne_nil _ (e n k);unfold Bk.givers at d;rw[el6,ek7]at d;exact em2.2 ⟨a,d.1,d.2⟩
def dK2{p:Pg}{i x y:Nat}{wy:Wy}(h:WyOk p i x y wy)(b:(d9 p).l.length<=200):bO7 wy:=λa c g j e=>by
 have k:=h.n;have d:=h.part.ok.len;have f:=h.part.ok.le;rw[h.place,h.place]at e;split at e<;>split at e<;>first|omega|(split at e<;>first|omega|(split at e<;>omega))
def dK3{p:Pg}{i x y:Nat}{wy:Wy}(h:WyOk p i x y wy)(b:(d9 p).l.length<=200)(a:Nat)(e:a<wy.n.toNat):plc (wy.place a):=by
 have f:=h.n;have c:=h.part.ok.len;have d:=h.part.ok.le;rw[h.place];unfold plc;split
 .omega
 .split<;>omega
def cS0{b:Bk}{i:Int}(d:∀a:Nat,a<(b.way i).n.toNat->plc ((b.way i).place a)){n m:B3}{s t:Fw}(l:s∈av8 b i n)(o:t∈av8 b i m)(g:decide (fwC s t<=0)=true)(h:decide (fwC t s<=0)=true):s=t:=by
 obtain⟨a,c,j,k,_,_,rfl⟩:=ag5.1 l;obtain⟨p,q,e,f,_,_,rfl⟩:=ag5.1 o;exact cl2 ⟨d _ (al8 _ _ _ _ j),d _ k⟩ ⟨d _ (al8 _ _ _ _ e),d _ f⟩ (ci9.eq0 g h)
def db8(s d:Int)(n:B3):C1 prog 213 [(0,.int .i64 s),(1,.int .i64 d),(2,t8 n)]=some (.agg (p8.cells (⟨s,d,n⟩:Fw)).toArray):=by
 simp[C1,dL3,K7,Instr.fill,Value.cells,t8];rfl
def aP7(T:Nat->List B3)(M k:Nat):List (List B3):=(List.range M).map λc=>if c<k then T c else[]
def br4(T:Nat->List B3)(M k:Nat):(aP7 T M k).length=M:=by simp[aP7]
def cC2(T:Nat->List B3)(M:Nat):List.replicate M []=aP7 T M 0:=by
 apply eq2
 .simp[aP7]
 .intro i a b;simp[aP7]
def cW7{T:Nat->List B3}{M k:Nat}:(aP7 T M k).set k (T k)=aP7 T M (k+1):=by
 apply eq2
 .simp[aP7]
 .intro i a b;rw[List.getElem_set];simp only[aP7,er0,ev8];split
  .next h=>subst h;rw[if_pos om]
  .next h=>
   by_cases h3:i<k
   .rw[if_pos h3,if_pos om]
   .rw[if_neg h3,if_neg om]
def cW6{T:Nat->List B3}{M c:Nat}(a:c<M):(aP7 T M M)[c]?=some (T c):=by
 simp only[aP7,em8,er5 a,ep0,if_pos a]
def dl9{l:List (List Int)}{c:Nat}(a:c<l.length):l[c]?=some (E3 l c):=by
 unfold E3;rw[if_pos ⟨om,om⟩,el5,List.getD,ej0 a];rfl
def keyN(kv:List (B3×Value))(j:Nat):B3:=match kv[j]? with
 | some q=>q.1
 | none=>e0
def bi2{kv:List (B3×Value)}{j:Nat}{q:B3×Value}(h:kv[j]?=some q):keyN kv j=q.1:=by
 unfold keyN;rw[h]
def dh6{kv:List (B3×Value)}(hn:(kv.map (·.1)).Nodup){j q:Nat}(b:j<kv.length)(c:q<kv.length)(e:keyN kv j=keyN kv q):j=q:=by
 rw[bi2 (ej0 b),bi2 (ej0 c)]at e;have h:=ep5.1 hn;rcases Nat.lt_trichotomy j q with a|a|a
 .exact absurd (by rw[er0,er0];exact e) (h j q (by simpa using b) (by simpa using c) a)
 .exact a
 .exact absurd (by rw[er0,er0];exact e.symm) (h q j (by simpa using c) (by simpa using b) a)
def bI8{n:Nat}(f:Nat->List B3){i:Nat}(a:i<n):I8 ((List.range n).map f) (i:Int)=f i:=by
 unfold I8;rw[el5,List.getD,em8,er5 a];rfl
def ac3{l:List B3}{x:B3}:x∈Y5 l↔x∈l:=(Y1 l).mem_iff
section
variable {p:Pg} {i:Nat}
def cp4(hm:O6 p=true)(a:i<p.procs.length):I8 (L5 p) (i:Int)=F2 (ai1 p (K6 p (L5 p)) i):=by
 obtain⟨_,_,e⟩:=bI3 hm
 conv=>lhs;rw[<-e]
 exact bI8 _ a
def cJ3(b:E6 p)(hw:C4 p<=1000000)(a:i<p.procs.length):I8 (ah9 p) (i:Int)=F2 (aP3 p (L5 p) (R5 p (ah9 p)) (K6 p (L5 p)) i):=by
 obtain⟨_,_,e⟩:=cJ2 b hw
 conv=>lhs;rw[<-e]
 exact bI8 _ a
def bq9(hm:O6 p=true)(b:i<p.procs.length){n:B3}(hn:n∈I8 (L5 p) (i:Int)):n=ah4\/V0 n=true:=by
 rw[cp4 hm b,K5]at hn;have:=bW2 (bj5 hn);rw[List.getD,ej0 b]at this;simp only[ek9,ej9,el2,eo5]at this;rcases this with h|h|⟨a,c,rfl⟩
 .exact .inl h
 .exact .inr (cn7 hm n h)
 .exact .inr ((cn8 hm b).2.1 a c)
def dh2(b:E6 p)(hw:C4 p<=1000000)(a:i<p.procs.length){n:B3}(hn:n∈I8 (ah9 p) (i:Int)):n∈p.globals\/n=ah4:=by
 rw[cJ3 b hw a,K5]at hn;unfold aP3 at hn;simpa using(el6.1 hn).1
def cL5{l:List B3}(h:l.Pairwise (λa b=>ltS a b=true)):l.Nodup:=aC2 h
def bd9(a:i<p.procs.length):(b9 p).slotsIn (i:Int)=Y5 (I8 (ah9 p) (i:Int)++p.procs[i].params.map (·.name)):=by
 unfold Bk.slotsIn;rw[U1 a];rfl
theorem by3:(b9 p).slotsOut (i:Int)=Y5 (I8 (L5 p) (i:Int)++[V8]):=rfl
def bb0(d:E6 p)(hw:C4 p<=1000000)(c:i<p.procs.length):((b9 p).slotsIn (i:Int)).Nodup:=by
 rw[bd9 c,(Y1 _).nodup_iff,eo0];obtain⟨f,g,_⟩:=d.proc i c;unfold bA0 at f g;refine⟨by rw[cJ3 d hw c];exact cL5 (X1 _),(eo0.1 f).1,λa k b j e=>?_⟩;subst e;rcases dh2 d hw c k with h|h
 .exact g a (em4 _ j) h
 .obtain⟨q,l,e⟩:=el2.1 j;exact(aM6 ((cn8 d.may c).2.1 q l)).1 (by rw[e,h])
def aC8(hm:O6 p=true)(d:i<p.procs.length):((b9 p).slotsOut (i:Int)).Nodup:=by
 rw[by3,(Y1 _).nodup_iff,eo0];refine⟨by rw[cp4 hm d];exact cL5 (X1 _),dP,λa f b c e=>?_⟩;subst e;simp only[ek5]at c;rcases bq9 hm d f with h|h
 .exact ce5.1 (by rw[<-h,c])
 .exact(aM6 h).2.1 c
def cr8(hm:O6 p=true):(d9 p).l.Nodup:=by
 refine ep5.2 λj k b d c e=>?_;have a:=aJ7 hm j _ (ej0 b);have f:=aJ7 hm k _ (ej0 d);rw[e]at a;omega
def dk3(hm:O6 p=true){x y:Nat}(a:az7 p i x y):((d9 p).of i).Nodup:=by
 rw[a.ok.of_];exact((cr8 hm).sublist (List.take_sublist _ _)).sublist (List.drop_sublist _ _)
end
def R7{b:Bk}{i:Int}{v:Vx}:v∈b.vert0 i↔v=⟨(b.s.fn i).name,1,0,e0⟩\/(∃n∈b.slotsIn i,v=⟨(b.s.fn i).name,3,0,n⟩)\/(∃n∈b.slotsOut i,v=⟨(b.s.fn i).name,4,0,n⟩) \/
  ∃it∈b.s.of i,v=⟨(b.s.fn i).name,2,it.s.id,e0⟩\/(it.s.kind=4/\((∃n∈b.slotsIn (b.s.pr it.s.proc),v=⟨(b.s.fn i).name,5,it.s.id,n⟩)\/∃n∈b.callOut it.s,v=⟨(b.s.fn i).name,6,it.s.id,n⟩)):=by
 unfold Bk.vert0;simp only[ej9,ek5,el2,em2,List.mem_ite_nil_right];constructor
 .rintro(((h|⟨n,c,h⟩)|⟨n,c,h⟩)|⟨it,a,h|⟨d,⟨n,c,h⟩|⟨n,c,h⟩⟩⟩)
  .exact .inl h
  .exact .inr (.inl ⟨n,c,h.symm⟩)
  .exact .inr (.inr (.inl ⟨n,c,h.symm⟩))
  .exact .inr (.inr (.inr ⟨it,a,.inl h⟩))
  .exact .inr (.inr (.inr ⟨it,a,.inr ⟨d,.inl ⟨n,c,h.symm⟩⟩⟩))
  .exact .inr (.inr (.inr ⟨it,a,.inr ⟨d,.inr ⟨n,c,h.symm⟩⟩⟩))
 .rintro(h|⟨n,c,h⟩|⟨n,c,h⟩|⟨it,a,h|⟨d,⟨n,c,h⟩|⟨n,c,h⟩⟩⟩)
  .exact .inl (.inl (.inl h))
  .exact .inl (.inl (.inr ⟨n,c,h.symm⟩))
  .exact .inl (.inr ⟨n,c,h.symm⟩)
  .exact .inr ⟨it,a,.inl h⟩
  .exact .inr ⟨it,a,.inr ⟨d,.inl ⟨n,c,h.symm⟩⟩⟩
  .exact .inr ⟨it,a,.inr ⟨d,.inr ⟨n,c,h.symm⟩⟩⟩
def aM9{α β:Type}{f:α->β}(c:∀a b,f a=f b->a=b){l:List α}(h:l.Nodup):(l.map f).Nodup:=by
 induction l with
 | nil=>simp
 | cons x l g=>
  rw[ev7]at h;rw[en8,ev7];refine⟨λhm=>?_,g h.2⟩;obtain⟨y,d,e⟩:=el2.1 hm;exact h.1 (c _ _ e ▸ d)
section
variable {p:Pg} {i x y:Nat}
def bN3(d:E6 p){it:It}(b:it∈(d9 p).l)(f:it.s.kind=4):((b9 p).callOut it.s).Nodup:=by
 obtain⟨c,a⟩:=aa5 (d.fits it b f);have e:(b9 p).s.pr it.s.proc=(c:Int):=a.pr;unfold Bk.callOut;rw[e];split
 .exact(aC8 d.may a.lt).sublist List.filter_sublist
 .exact aC8 d.may a.lt
def ct8(l:E6 p)(hw:C4 p<=1000000)(C:i<p.procs.length)(r:az7 p i x y):((b9 p).vert0 (i:Int)).Nodup:=by
 unfold Bk.vert0;generalize((b9 p).s.fn (i:Int)).name=q;have D:(b9 p).s=d9 p:=rfl;rw[D];have o:∀it∈(d9 p).of i,1<=it.s.id/\(d9 p).it it.s.id=it:=λit g=>⟨(bw9 l.may (aZ3 r g)).2.2,(bw9 l.may (aZ3 r g)).2.1⟩;have j:∀it:It,∀v:Vx,v∈([⟨q,2,it.s.id,e0⟩]++if it.s.kind=4 then(((b9 p).slotsIn ((d9 p).pr it.s.proc)).map λn=>(⟨q,5,it.s.id,n⟩:Vx))++((b9 p).callOut it.s).map λn=>(⟨q,6,it.s.id,n⟩:Vx)else[])->v.id=it.s.id:=by
  intro it v s;simp only[ej9,ek5,List.mem_ite_nil_right,el2]at s;rcases s with rfl|⟨_,⟨n,_,rfl⟩|⟨n,_,rfl⟩⟩<;>rfl
 rw[eo0,eo0,eo0];refine⟨⟨⟨dP,aM9 (λa b h=>by simpa using h) (bb0 l hw C),?_⟩,aM9 (λa b h=>by simpa using h) (aC8 l.may C),?_⟩,?_,?_⟩
 .rintro a d b f rfl;simp only[ek5,el2]at d f;obtain⟨n,_,e⟩:=f;rw[d]at e;simp at e
 .rintro a d b f rfl;simp only[ej9,ek5,el2]at d f;obtain⟨n,_,e⟩:=f;rcases d with d|⟨m,_,d⟩
  .rw[d]at e;simp at e
  .rw[<-d]at e;simp at e
 .refine aB7 (dk3 l.may r) (λit g=>?_) λa d b f v t u=>?_
  .rw[eo0];refine⟨dP,?_,?_⟩
   .split
    .rename_i A;obtain⟨c,B⟩:=aa5 (l.fits it (aZ3 r g) A);rw[eo0];refine⟨aM9 (λa b h=>by simpa using h) ?_,aM9 (λa b h=>by simpa using h) (bN3 l (aZ3 r g) A),?_⟩
     .rw[B.pr];exact bb0 l hw B.lt
     .rintro a d b f rfl;simp only[el2]at d f;obtain⟨n,_,e⟩:=d;obtain⟨m,_,w⟩:=f;rw[<-e]at w;simp at w
    .simp
   .rintro a d b f rfl;simp only[ek5,List.mem_ite_nil_right,ej9,el2]at d f;subst d;obtain⟨_,⟨n,_,e⟩|⟨n,_,e⟩⟩:=f<;>simp at e
  .have k:=j a v t;have z:=j b v u;rw[<-(o a d).2,<-(o b f).2,<-k,<-z]
 .rintro a d b f rfl;obtain⟨it,g,s⟩:=em2.1 f;have k:=j it a s;have z:=(o it g).1;simp only[ej9,ek5,el2]at d;rcases d with(d|⟨n,_,d⟩)|⟨n,_,d⟩
  .rw[d]at k;simp only at k;omega
  .rw[<-d]at k;simp only at k;omega
  .rw[<-d]at k;simp only at k;omega
def aY0(hm:O6 p=true)(c:az7 p i x y){d:Int}(a:(x:Int)<d)(b:d<=(y:Int)):(⟨((b9 p).s.fn (i:Int)).name,2,d,e0⟩:Vx)∈(b9 p).vert0 (i:Int):=by
 rw[R7];obtain⟨e,f,_⟩:=c.at_ d a b;exact .inr (.inr (.inr ⟨_,e,.inl (by rw[f])⟩))
def cx8{wy:Wy}(q:E6 p)(hw:C4 p<=1000000)(o:i<p.procs.length)(c:aw9 p i x y wy):∀d∈wy.decides,(d.1=0\/((x:Int)<d.1/\d.1<=(y:Int)))/\((x:Int)<d.2/\d.2<=(y:Int)):=by
 have B:=c.n;have E2:=c.part.ok.le;have n:wy.n=((y-x+2:Nat):Int):=om
 rw[bc5 n];intro d g;obtain⟨a,A,g⟩:=em2.1 g;obtain⟨b,k,rfl⟩:=el2.1 g;obtain⟨k,f⟩:=el6.1 k;unfold ao9 at f;simp only[el3,em7,ew3]at f;obtain⟨⟨u,v⟩,t,m,e,_⟩:=f;have l:(a:Int)<wy.n-1:=by
  unfold Wy.pairs at m;obtain⟨s,r,rfl⟩:=el2.1 m;have j:=(bY8 q hw o c s r).1;simp only at e;rw[<-e,c.toWyOk.index];rcases j with h|⟨w,z⟩
  .rw[if_pos h];omega
  .rw[if_neg om,if_neg om,if_pos om];omega
 simp only;rw[c.toWyOk.place,c.toWyOk.place];constructor
 .by_cases h0:(a:Int)=0
  .rw[if_pos h0];exact .inl rfl
  .rw[if_neg h0,if_neg om];right;omega
 .rw[if_neg om,if_neg om];omega
def aZ5(f:E6 p){it:It}(d:it∈(d9 p).l)(g:it.s.kind=4){c:Nat}(b:aF7 p it.s c){n:B3}(hn:n∈I8 (L5 p) (c:Int)):n∈(b9 p).callOut it.s:=by
 have e:(b9 p).s.pr it.s.proc=(c:Int):=b.pr;unfold Bk.callOut;rw[e];have hm:n∈(b9 p).slotsOut (c:Int):=by
  rw[by3,ac3];exact em4 _ hn
 have a:n≠V8:=by
  rcases bq9 f.may b.lt hn with h|h
  .rw[h];exact ce5.1
  .exact(aM6 h).2.1
 split
 .exact el6.2 ⟨hm,by simp[a]⟩
 .exact hm
def cN2{α β:Type}{l:List α}{m:List β}{z:α×β}(h:z∈l.zip m):∃j:Nat,l[j]?=some z.1/\m[j]?=some z.2:=by
 obtain⟨j,a⟩:=es8.1 h;rw[List.getElem?_zip_eq_some]at a;exact⟨j,a⟩
def df3(X:D4 p=true)(hw:C4 p<=1000000)(Y:i<p.procs.length)(L:az7 p i x y){a:Nat}(ha:(a:Int)<(F5 (d9 p) i).n){n:B3}(t:n∈(b9 p).gives (i:Int) (a:Int)):
  (b9 p).giver ((b9 p).s.fn (i:Int)).name ((F5 (d9 p) i).place (a:Int)) n∈(b9 p).vert0 (i:Int):=by
 have u:=E9 X;have H:=U4 L;have I:(b9 p).s=d9 p:=rfl;unfold Bk.gives at t;rw[O9 Y]at t;unfold Bk.giver;by_cases h0:(a:Int)=0
 .rw[if_pos h0,K5]at t;rw[if_pos (by rw[H.toWyOk.place,if_pos h0]),R7];refine .inr (.inl ⟨n,?_,rfl⟩);unfold Bk.slotsIn;rw[ac3];exact t
 .rw[if_neg h0]at t;split at t
  .simp at t
  .rename_i hc;have ah:¬(a:Int)=(F5 (d9 p) i).n-1:=λh=>hc (.inl h);obtain⟨q,N,W,B,e4,e5⟩:=aq7 H (k:=a) om om;obtain⟨J,M,q3⟩:=L.at_ ((F5 (d9 p) i).place (a:Int)) (by rw[B];omega) (by rw[B];omega);rw[if_neg om,I];generalize ak:(F5 (d9 p) i).place (a:Int)=pl at t N B J M q3;generalize Z:(d9 p).it pl=it at J M q3;have f:=aZ3 L J;have d:n∈F2 (al4 p (L5 p) it.s):=by
    rw[<-cj4 u.may (L5 p) f,M];exact t
   rw[K5]at d;have D:=cA5 u.may Y hw it J;by_cases h4:it.s.kind=4
   .rw[if_neg (by simpa using h4)];obtain⟨c,b⟩:=aa5 (u.fits it f h4);have aj:=b.lt;have l:((b9 p).callee it.s).params=p.procs[c].params:=by
     unfold Bk.callee;rw[I,b.pr,<-I,U1 b.lt]
    have r:=bd7 (show ao3 it.s.name (S1 p it.s.proc) [] it.s.args=true from u.single it f h4);have P:p.procs[c].name=it.s.proc:=by
     obtain⟨c',ag,N,W⟩:=U8 (aL3 u.toKnown hw f h4);rw[b.pr]at N;obtain rfl:c=c':=om
     exact W
    have o:∀m,m∈(b9 p).callOut it.s->(⟨((d9 p).fn (i:Int)).name,6,pl,m⟩:Vx)∈(b9 p).vert0 (i:Int):=λm hm=>by
     rw[R7];exact .inr (.inr (.inr ⟨it,J,.inr ⟨h4,.inr ⟨m,hm,by rw[M,I]⟩⟩⟩))
    unfold al4 at d;rw[if_neg om,if_neg om,if_neg om,if_pos h4]at d;unfold ax1 at d;rw[b.idx,b.fn]at d;by_cases hname:it.s.name=n
    .rw[if_pos hname];refine o _ ?_;have T:it.s.name≠e0:=by
      intro C;rw[hname]at C;rcases ej9.1 d with h|h
      .rcases ej9.1 h with h|h
       .rw[hname,if_pos C]at h;simp at h
       .obtain⟨z,s,A⟩:=el2.1 h;obtain⟨s,g⟩:=el6.1 s;rw[el3]at g;exact(aM6 (bv6 D z.1 (List.of_mem_zip s).1 g.1)).2.2 (by rw[A,C])
      .have:=(el6.1 h).1;rcases bq9 u.may b.lt this with h|h
       .exact ce5.2.1 (by rw[<-h,C])
       .exact(aM6 h).2.2 C
     unfold Bk.callOut;rw[if_neg T];unfold Bk.slotsOut;rw[ac3];simp
    .rw[if_neg hname,l];have d:(∃z∈it.s.args.zip p.procs[c].params,z.1.ref=true/\z.2.name∈I8 (L5 p) (c:Int)/\z.1.name=n)\/(n∈I8 (L5 p) (c:Int)/\R6 p n=true):=by
      rcases ej9.1 d with h|h
      .rcases ej9.1 h with h|h
       .split at h
        .simp at h
        .simp only[ek5]at h;exact absurd h.symm hname
       .obtain⟨z,s,A⟩:=el2.1 h;obtain⟨s,g⟩:=el6.1 s;rw[el3,ek7]at g;exact .inl ⟨z,s,g.1,g.2,A⟩
      .exact .inr (el6.1 h)
     split
     .rename_i z K;have s:=List.mem_of_find?_eq_some K;have e:=List.find?_some K;rw[el3,em7]at e;refine o _ ?_;obtain⟨j,E,Q⟩:=cN2 s;rcases d with⟨z',w,U,r2,V⟩|⟨O,v⟩
      .obtain⟨k,S,F⟩:=cN2 w;have R:=r.2 j k _ _ E S e.1 U (by rw[e.2,V]);subst R;rw[Q]at F;rw[el4 F];exact aZ5 u f h4 b r2
      .exfalso
       have G:=bv6 D z.1 (List.of_mem_zip s).1 e.1;rw[e.2]at G;unfold R6 at v;rw[eu2,ek7,em7]at v;rcases v with v|v
       .exact(aM6 G).1 v
       .have:=(r.1 j _ E e.1).2.2;rw[e.2,<-P]at this;exact this (cp3 X hw b.lt O v)
     .rename_i K;refine o _ ?_;rcases d with⟨z',w,U,r2,V⟩|⟨O,v⟩
      .have:=es7.1 K z' w;simp[U,V]at this
      .exact aZ5 u f h4 b O
   .rw[if_pos h4,<-I];exact aY0 u.may L (by rw[B];omega) (by rw[B];omega)
def cY0(F:D4 p=true)(hw:C4 p<=1000000)(J:i<p.procs.length)(r:az7 p i x y){a:Nat}(Q:(a:Int)<(F5 (d9 p) i).n){n:B3}(f:n∈(b9 p).takes (i:Int) (a:Int)):
  ∀v∈(b9 p).takers ((b9 p).s.fn (i:Int)).name ((F5 (d9 p) i).place (a:Int)) n,v∈(b9 p).vert0 (i:Int):=by
 have B:=E9 F;have j:=U4 r;have l:(b9 p).s=d9 p:=rfl;have K:=j.n;have E2:=r.ok.le;intro v d;unfold Bk.takes at f;rw[O9 J]at f;unfold Bk.takers at d;by_cases h0:(a:Int)=(F5 (d9 p) i).n-1
 .rw[if_pos h0,K5]at f;rw[if_pos (by rw[j.toWyOk.place,if_neg om,if_pos h0])]at d;simp only[ek5]at d;subst d;rw[R7];refine .inr (.inr (.inl ⟨n,?_,rfl⟩));unfold Bk.slotsOut;rw[ac3];exact f
 .rw[if_neg h0]at f;split at f
  .simp at f
  .rename_i G;have H:¬(a:Int)=0:=λh=>G (.inl h);obtain⟨q,E,N,o,O,P⟩:=aq7 j (k:=a) om om;obtain⟨s,u,D⟩:=r.at_ ((F5 (d9 p) i).place (a:Int)) (by rw[o];omega) (by rw[o];omega);rw[if_neg om,l]at d;generalize L:(F5 (d9 p) i).place (a:Int)=C at d f E o s u D;generalize A:(d9 p).it C=it at d s u D;have t:=aZ3 r s;by_cases h4:it.s.kind=4
   .rw[if_neg (by simpa using h4)]at d;obtain⟨c,b⟩:=aa5 (B.fits it t h4);have I:=b.lt;have e:((b9 p).callee it.s).params=p.procs[c].params:=by
     unfold Bk.callee;rw[l,b.pr,<-l,U1 b.lt]
    have g:∀m,m∈(b9 p).slotsIn (c:Int)->(⟨((d9 p).fn (i:Int)).name,5,C,m⟩:Vx)∈(b9 p).vert0 (i:Int):=λm hm=>by
     rw[R7];refine .inr (.inr (.inr ⟨it,s,.inr ⟨h4,.inl ⟨m,?_,by rw[u,l]⟩⟩⟩));rw[l,b.pr];exact hm
    rw[e,b.pr]at d;rcases ej9.1 d with h|h
    .obtain⟨z,M,rfl⟩:=el2.1 h;refine g _ ?_;rw[bd9 b.lt,ac3];exact en7 _ (el2.2 ⟨_,(List.of_mem_zip (el6.1 M).1).2,rfl⟩)
    .split at h
     .rename_i w;simp only[ek5]at h;subst h;refine g _ ?_;rw[el3,ek7]at w;rw[bd9 b.lt,ac3];exact em4 _ w.2
     .simp at h
   .rw[if_pos h4]at d;simp only[ek5]at d;subst d;rw[<-l];exact aY0 B.may r (by rw[o];omega) (by rw[o];omega)
def cj5(w:D4 p=true)(hw:C4 p<=1000000)(k:i<p.procs.length):∀e∈(b9 p).edge0 (i:Int),e.src∈(b9 p).vert0 (i:Int)/\e.dst∈(b9 p).vert0 (i:Int)/\(e.kind=1\/e.kind=2):=by
 have m:=E9 w;obtain⟨x,h⟩:=K9 m.may hw i k;have s:=U4 h;have j:(⟨((b9 p).s.fn (i:Int)).name,1,0,e0⟩:Vx)∈(b9 p).vert0 (i:Int):=R7.2 (.inl rfl);intro e b;unfold Bk.edge0 at b;rw[O9 k]at b;rcases ej9.1 b with b|b
 .rcases ej9.1 b with b|b
  .obtain⟨d,E,rfl⟩:=el2.1 b;obtain⟨o,B,C⟩:=cx8 m hw k s d E;unfold aj9;refine⟨?_,aY0 m.may h B C,.inl rfl⟩;simp only;split
   .exact j
   .rename_i z;rcases o with o|⟨o,u⟩
    .exact absurd o z
    .exact aY0 m.may h o u
  .obtain⟨v,g,b⟩:=em2.1 b;have g:v∈(b9 p).vert0 (i:Int):=(I0 _ _).mem_iff.1 g;unfold J3 at b;split at b
   .simp only[ek5]at b;subst b;exact⟨j,g,.inl rfl⟩
   .split at b
    .rename_i t;simp only[ek5]at b;subst b;refine⟨?_,g,.inl rfl⟩;simp only;rw[R7]at g;rcases g with rfl|⟨n,_,rfl⟩|⟨n,_,rfl⟩|⟨it,r,rfl|⟨_,⟨n,_,rfl⟩|⟨n,_,rfl⟩⟩⟩
     .simp at t
     .simp at t
     .simp at t
     .simp at t
     .have:=h.ids it r;exact aY0 m.may h this.1 this.2
     .have:=h.ids it r;exact aY0 m.may h this.1 this.2
    .simp at b
 .obtain⟨f,l,b⟩:=em2.1 b;obtain⟨v,g,rfl⟩:=el2.1 b;have l:f∈(b9 p).flow0 (i:Int):=(I0 _ _).mem_iff.1 l;rw[aX3]at l;obtain⟨n,l⟩:=l;rw[ag5]at l;obtain⟨a,c,q,D,A,_,rfl⟩:=l;rw[O9 k]at D g;have y:=al8 _ _ _ a q;rw[O9 k]at y;have q:=(el6.1 q).2;rw[ek7]at q A;have F:=s.n;rw[O9 k];exact⟨df3 w hw k h om q,cY0 w hw k h om A v g,.inr rfl⟩
end
def R2(a b:Vx):Bool:=if a.proc≠b.proc then ltS a.proc b.proc else if a.kind≠b.kind then decide (a.kind<b.kind)else if a.id≠b.id then decide (a.id<b.id)else ltS a.slot b.slot
def cH5{a b:Int}(h:a≠b):M6 a b≠0:=λe=>h (ag0 e)
def dv4{a b:B3}(h:a≠b):ah6 a b≠0:=λe=>h (aH7 e)
def bR0(a:Int):M6 a a=0:=by unfold M6;simp
def cQ3(a:B3):ah6 a a=0:=by unfold ah6;simp[N8]
def cH4{a b:Int}:decide (M6 a b<0)=decide (a<b):=by
 unfold M6;by_cases h:a<b
 .simp[h]
 .rw[if_neg h];split<;>simp[h]
def cH6{a b:B3}:decide (ah6 a b<0)=ltS a b:=by
 unfold ah6;cases h:ltS a b
 .simp only[ep8,er8];split<;>simp
 .simp
def aT9(a b:Vx):R2 a b=decide (vxC a b<0):=by
 unfold R2 vxC;rw[or4];by_cases h1:a.proc=b.proc
 .rw[if_neg (by simpa using h1),h1,cQ3,if_pos rfl];by_cases h2:a.kind=b.kind
  .rw[if_neg (by simpa using h2),h2,bR0,if_pos rfl];by_cases h3:a.id=b.id
   .rw[if_neg (by simpa using h3),h3,bR0,if_pos rfl];by_cases h4:ah6 a.slot b.slot=0
    .rw[if_pos h4,aH7 h4,N8];rfl
    .rw[if_neg h4,cH6]
   .rw[if_pos h3,if_neg (cH5 h3),cH4]
  .rw[if_pos h2,if_neg (cH5 h2),cH4]
 .rw[if_pos h1,if_neg (dv4 h1),cH6]
def dr3(a:Vx):vxC a a=0:=aZ4.refl a
section
variable {α:Type} {c:α->α->Int}
def Cm.letr(h:Cm c){x y z:α}(a:c x y<=0)(b:c y z<=0):c x z<=0:=h.trans x y z a b
def dm4(h:Cm c)(l:List α):(ad5 (λa b=>decide (c a b<=0)) l).Pairwise λa b=>c a b<=0:=by
 have:=ao4 (le:=λa b=>decide (c a b<=0)) (l:=l) (λa _ b _=>h.total a b) λa _ b _ d _ e f=>ep1 (h.letr (ej3 e) (ej3 f));exact this.imp λh=>ej3 h
end
def cF1{b:Bk}{i:Int}(hn:(b.vert0 i).Nodup):(b.verts i).Pairwise λu v=>R2 u v=true:=by
 have c:(b.verts i).Pairwise λu v=>vxC u v<=0:=dm4 aZ4 _;have a:(b.verts i).Pairwise λu v=>u≠v:=((I0 cY3 _).nodup_iff.2 hn);refine(c.and a).imp fun{u v} ⟨c,a⟩=>?_;rw[aT9];refine ep1 ?_;have:vxC u v≠0:=λe=>a (aK2 e);omega
def aX2{b:Bk}{i:Int}{e:Eg}:e∈b.edges i↔e∈b.edge0 i:=by
 unfold Bk.edges av2;rw[aH9,(I0 cR2 _).mem_iff]
def aJ0{b:Bk}{i:Int}{v:Vx}:v∈b.verts i↔v∈b.vert0 i:=(I0 cY3 _).mem_iff
def aj6(h:Hp)(w:World)(T:TypeId)(v:Value)(xs:List Int):Prop:=
 (v = .slice none 0 0/\xs=[]) \/
 ∃b d c a,v = .slice (some ⟨b,d,none⟩) xs.length c/\h b=none/\w.heap[b]?=some (.cells a T (0,0))/\xs.length<=c/\c<=maxLen/\d+c<=a.size /\
  ∀(j:Nat) (x:Int),xs[j]?=some x->a[d+j]?=some (.int .i64 x)
section
variable {P:Program} {h:Hp} {w:World} {t T:TypeId} {v:Value} {xs:List Int}
def B0.toQ(t:B0 h w T v xs):aj6 h w T v xs:=by
 rcases t with s|⟨b,c,a,rfl,k,m,n,o,p,f⟩
 .exact .inl s
 .have q:a.size=c:=by rw[p];exact es6 c
  have d:a.toList.take xs.length=Q0 xs:=G9.1 (by
   have:xs.length*A6.sz Int=xs.length:=es6 _;rw[this]at f;exact f)
  refine .inr ⟨b,0,c,a,rfl,k,m,n,o,om,λj x i=>?_⟩;have e:=(ej5.1 i).1;have g:=el1 (λl=>l[j]?) d;simp only[List.getElem?_take_of_lt e]at g;rw[en0];have r:a[j]?=a.toList[j]?:=dP
  rw[r,g];simp[Q0,i]
def aj6.isS(d:aj6 h w T v xs):isS v=true:=by
 rcases d with⟨rfl,rfl⟩|⟨b,e,c,a,rfl,_⟩<;>rfl
def aj6.vlen(d:aj6 h w T v xs):vlen v=xs.length:=by
 rcases d with⟨rfl,rfl⟩|⟨b,e,c,a,rfl,_⟩<;>rfl
def aj6.vcap(e:aj6 h w T v xs):xs.length<=vcap v:=by
 rcases e with⟨rfl,rfl⟩|⟨b,f,c,a,rfl,_,_,d,_⟩
 .simp
 .exact d
def aj6.inS(e:aj6 h w T v xs){k:Nat}(a:k<xs.length):inS v k=true:=by
 rcases e with⟨rfl,rfl⟩|⟨b,f,c,d,rfl,_⟩
 .simp at a
 .simp[Go.Proofs.YtpebpfiglfmegaaGreat.inS,a]
def aj6.free(e:aj6 h w T v xs){b:Nat}(hb:A5 v b):h b=none:=by
 rcases e with⟨rfl,_⟩|⟨g,f,c,a,rfl,d,_⟩
 .exact absurd hb D8
 .simp[A5,Value.ownBlock]at hb;subst hb;exact d
def aj6.lt(e:aj6 h w T v xs){b:Nat}(hb:A5 v b):b<w.heap.size:=by
 rcases e with⟨rfl,_⟩|⟨g,f,c,a,rfl,i,d,_⟩
 .exact absurd hb D8
 .simp[A5,Value.ownBlock]at hb;subst hb;exact(ej4.1 d).1
def aj6.mod{M:Nat->Prop}{g:World}(l:aj6 h w T v xs)(hm:p6 M w g)(j:∀b,A5 v b->¬M b):aj6 h g T v xs:=by
 rcases l with k|⟨b,e,c,d,rfl,i,f,a⟩
 .exact .inl k
 .exact .inr ⟨b,e,c,d,rfl,i,(hm.block b (ej4.1 f).1 (j b rfl)).trans f,a⟩
def aj6.ext{a:World}(b:aj6 h w T v xs)(hm:o6 w a):aj6 h a T v xs:=b.mod hm λ_ _=>id
def aj6.head{x:Int}{a:List Int}(i:aj6 h w T v (x::a))(j:J4 P t=false):(Instr.loadAt t (.pointer (some (G8 v 0)))).run P w = .ok (.int .i64 x) w:=by
 rcases i with⟨_,k⟩|⟨b,e,c,d,rfl,l,f,m,n,o,g⟩
 .cases k
 .refine W9 j ?_;simp only[G8,M8];rw[er9 w b e d T (0,0) f];exact g 0 x rfl
def aj6.tail{x:Int}{a:List Int}(o:aj6 h w T v (x::a)):aj6 h w T (reS v 1 (a.length+1) 1) a/\∀b,A5 (reS v 1 (a.length+1) 1) b↔A5 v b:=by
 rcases o with⟨_,q⟩|⟨b,d,c,f,rfl,i,k,m,r,s,n⟩
 .cases q
 .simp only[em1]at m;have e:(⟨b,d,none⟩:Addr).add (1*1)=⟨b,d+1,none⟩:=by unfold Addr.add;split<;>simp_all
  by_cases hc:c=1
  .subst hc;have p:a=[]:=List.eq_nil_of_length_eq_zero om;subst p;refine⟨.inr ⟨b,d,0,f,rfl,i,k,ek6 _,ek1 _,om,λj y g=>by simp at g⟩,λl=>er4⟩
  .refine⟨.inr ⟨b,d+1,c-1,f,?_,i,k,om,om,om,λj y g=>?_⟩,λl=>?_⟩
   .simp[reS,hc,e]
   .have:=n (j+1) y (by simpa using g);rw[<-this];congr 1;omega
   .simp[reS,hc,e,A5,Value.ownBlock]
def aj6.push{e:TypeId}{n:Nat}(R:G7 P t T 1 n=true)(ho:aj6 h w T v xs)(y:Int)
  (hl:xs.length+1<=1000000000000) (hb:(xs.length+1)*n<=140737488355328) (hw:E2 h (i5 w)) :
  (Instr.buildSlice t 1 #[(0,.int .i64 y)]).run P w = .ok (.slice (some ⟨w.heap.size,0,none⟩) 1 1) (w.alloc (.cells #[.int .i64 y] T)) /\
  ∃A B,(Builtin.append_ #[t,t] e #[v,.slice (some ⟨w.heap.size,0,none⟩) 1 1]).run P (w.alloc (.cells #[.int .i64 y] T)) = .ok A B/\aj6 h B T A (xs++[y])/\p6 (A5 v) w B/\E7 w v A:=by
 have l:=Go.Proofs.YtpebpfiglfmegaaGreat.push (e:=e) (α:=Int) R rfl (B0.nil h w T) (x:=.int .i64 y) (y:=y) rfl dP (by simp only[ep7,en0]at *;have:=es3 n (show 1<=xs.length+1 by omega);omega) hw;simp only[Value.cells,er6]at l;refine⟨l.1,?_⟩;rcases ho with⟨rfl,rfl⟩|⟨b,a,c,g,rfl,Y,O,h3,Z,h5,Q⟩
 .obtain⟨A,B,M,N,k3,k4⟩:=l.2;exact⟨A,B,M,by simpa using N.toQ,k3,k4⟩
 .obtain⟨s1,⟨z,hz,L⟩,r,U,s5,s6⟩:=X0 R;obtain⟨i,C,H⟩:=A4 hz;rw[F0 C]at r;rw[aH5 C]at U;have S:=P4 s1;have q:=o6.alloc w (.cells #[.int .i64 y] T);have E:b<w.heap.size:=(ej4.1 O).1;have m:(w.alloc (.cells #[.int .i64 y] T)).heap[b]?=some (.cells g T (0,0)):=(q.block b E id).trans O;have k:∀j u,[Value.int .i64 y][j]?=some u->(w.alloc (.cells #[.int .i64 y] T)).cell? ((⟨w.heap.size,0,none⟩:Addr).add j)=some u:=by
   intro j u d;have D:(⟨w.heap.size,0,none⟩:Addr).add j=⟨w.heap.size,j,none⟩:=by unfold Addr.add;split<;>simp_all
   rw[D,ev4];simpa using d
  generalize K:w.alloc (.cells #[.int .i64 y] T)=f at *;by_cases hroom:xs.length+1<=c
  .have s:=run_append_room_cells (P:=P) f t e T i S C b a xs.length c ⟨w.heap.size,0,none⟩ 1 1 [.int .i64 y] (by simp[r]) k (by simp[Value.oneCell']) hroom
    (λj d=>by
     simp only[em1,ep7]at d;rw[r,er9 f b _ g T (0,0) m,et7 om];rfl)
    (λj _=>frozen_of_row f b _ g T m)
   rw[r,es6]at s;simp only[World.setCells]at s;refine⟨_,_,s,.inr ⟨b,a,c,g.setIfInBounds (a+xs.length) (.int .i64 y),dP,Y,heap_setCell_same f b (a+xs.length) g T _ m,by simpa using hroom,Z,by simpa using h5,λj x d=>?_⟩,?_,λV o=>.inl o⟩
   .rw[Array.getElem?_setIfInBounds];by_cases hjx:j<xs.length
    .rw[eo2 hjx]at d;rw[if_neg om];exact Q j x d
    .rw[eo3 om]at d;have I:j-xs.length=0:=by
      have:=(ej5.1 d).1;simp at this;omega
     rw[I]at d;simp at d;subst d;rw[if_pos om,if_pos om]
   .exact(q.weaken λ_ _ h=>h.elim).trans (p6.setCell _ _ _ (by simp[A5,Value.ownBlock]))
  .have p:∀j u,((Q0 xs))[j]?=some u->f.cell? ((⟨b,a,none⟩:Addr).add j)=some u:=by
    intro j u d;have D:(⟨b,a,none⟩:Addr).add j=⟨b,a+j,none⟩:=by unfold Addr.add;split<;>simp_all
    rw[D,er9 f b (a+j) g T (0,0) m];simp only[Q0,em8]at d;obtain⟨x,M,N⟩:=Option.map_eq_some_iff.1 d;rw[Q j x M,<-N]
   have s:=run_append_grow (P:=P) f t e T i z S C H ⟨b,a,none⟩ xs.length c (Q0 xs) (by simp[Q0,r]) p ⟨w.heap.size,0,none⟩ 1 1 [.int .i64 y] (by simp[r]) k om
    om (growslice_fits om (by rw[U];exact hb))
   have G:=grownCap_ge f (xs.length+1) c T;have F:=grownCap_le_maxLen f (xs.length+1) c T (by simp only[maxLen];omega);have ab:f.heap.size=w.heap.size+1:=by rw[<-K];simp
   refine⟨_,_,s,.inr ⟨f.heap.size,0,_,_,dP,aM1 hw om,em9 f.drew _,by simpa using G,F,?_,λj x d=>?_⟩,?_,λV o=>?_⟩
   .simp only[Array.size_append,et4,size_zeroCells,L,Q0,ek2,em1,ep7];omega
   .rw[en0];have J:=(ej5.1 d).1;simp only[ej2,em1,ep7]at J;have W:((Q0 xs).toArray++#[Value.int .i64 y])=(Q0 (xs++[y])).toArray:=by simp[Q0]
    have X:([Value.int .i64 y].toArray)=#[Value.int .i64 y]:=rfl;rw[Array.getElem?_append_left (by simp[Q0];omega),X,W,List.getElem?_toArray];simp only[Q0,em8,d];rfl
   .refine(q.weaken λ_ _ h=>h.elim).trans ?_;exact p6.trans ((o6.drew f).weaken (λ_ _ h=>h.elim)) ((o6.alloc f.drew _).weaken (λ_ _ h=>h.elim))
   .simp[A5,Value.ownBlock]at o;exact .inr om
end
section
variable {P:Program} {h:Hp} {w:World} {t T:TypeId} {v:Value}
def aj6.set{xs:List Int}(A:aj6 h w T v xs){k:Nat}(l:k<xs.length)(y:Int){f:TypeInfo}(d:P.info? t=some f)(B:f.size=1):
  ∃g,(Instr.storeAt t (.pointer (some (G8 v k))) (.int .i64 y)).run P w = .ok () g/\aj6 h g T v (xs.set k y)/\p6 (A5 v) w g:=by
 rcases A with⟨rfl,rfl⟩|⟨b,a,c,m,rfl,n,o,p,q,r,s⟩
 .simp at l
 .have u:(⟨b,a,.none⟩:Addr).add k=⟨b,a+k,.none⟩:=by unfold Addr.add;split<;>simp_all
  obtain⟨g,C,D,E⟩:=ad7 (P:=P) (t:=t) (i:=a+k) (x:=.int .i64 y) o om rfl rfl d B;refine⟨g,by simp only[G8,u];exact C,.inr ⟨b,a,c,_,dP,n,D,by simpa using p,q,by simpa using r,λj x e=>?_⟩,E.weaken λF _ z=>by subst z;rfl⟩;rw[Array.getElem?_setIfInBounds];rw[List.getElem?_set]at e;by_cases hkj:k=j
  .subst hkj;rw[if_pos rfl,if_pos l]at e;obtain rfl:=el4 e;rw[if_pos rfl,if_pos om]
  .rw[if_neg hkj]at e;rw[if_neg om];exact s j x e
end
structure ST (w0 w:World) (rb gb:Nat) (ui uw vt:Value) (us:List Raw) (ins:List (List W)) (waits:List Bool) (todo:List Int) (T:Int):Prop where
 rows:F1 (i5 w0) w 355 240 ui us ins
 wts:B0 (i5 w0) w 4 uw waits
 q:aj6 (i5 w0) w 3 vt todo
 cg:w.heap[gb]?=some (.cells #[.slice none 0 0,.int .i64 T] 319 (0,0))
 cr:w.heap[rb]?=some (.cells #[.slice none 0 0,.int .i64 0] 319 (0,0))
 d1:∀b,N9 ui us b->¬A5 vt b/\¬A5 uw b/\b≠gb/\b≠rb
 d2:∀b,A5 vt b->¬A5 uw b/\b≠gb/\b≠rb
 d3:∀b,A5 uw b->b≠gb/\b≠rb
 d4:gb≠rb
 ext:o6 w0 w
 fg:w0.heap.size<=gb
 frb:w0.heap.size<=rb
section
variable {w0 w:World} {rb gb:Nat} {ui uw vt:Value} {us:List Raw} {ins:List (List W)} {waits:List Bool} {todo:List Int} {T:Int}
def ST.lg(s:ST w0 w rb gb ui uw vt us ins waits todo T):gb<w.heap.size:=(ej4.1 s.cg).1
def ST.lr(s:ST w0 w rb gb ui uw vt us ins waits todo T):rb<w.heap.size:=(ej4.1 s.cr).1
def ST.ge(s:ST w0 w rb gb ui uw vt us ins waits todo T){b:Nat}(hb:i5 w0 b=none):w0.heap.size<=b:=
 ew6 λa=>by simp[i5,a]at hb
def ST.more(s:ST w0 w rb gb ui uw vt us ins waits todo T){b:World}(a:o6 w b):ST w0 b rb gb ui uw vt us ins waits todo T:=
 ⟨s.rows.ext a,s.wts.ext a,s.q.ext a,(a.block gb s.lg id).trans s.cg,(a.block rb s.lr id).trans s.cr,s.d1,s.d2,s.d3,s.d4,s.ext.trans a,s.fg,s.frb⟩
def ST.wait{P:Program}{t:TypeId}(s:ST w0 w rb gb ui uw vt us ins waits todo T){k:Nat}(g:k<waits.length)(y:Bool){d:TypeInfo}(c:P.info? t=some d)(i:d.size=1):
  ∃f,(Instr.storeAt t (.pointer (some (G8 uw k))) (.bool y)).run P w = .ok () f/\ST w0 f rb gb ui uw vt us ins (waits.set k y) todo T:=by
 obtain⟨f,j,l,e,m⟩:=F9 (P:=P) (t:=t) s.wts rfl g (x:=.bool y) (y:=y) rfl rfl c i;refine⟨f,j,s.rows.mod e λb a=>(s.d1 b a).2.1,l,s.q.mod e λb a=>(s.d2 b a).1,(e.block gb s.lg λh=>(s.d3 gb h).1 rfl).trans s.cg,(e.block rb s.lr λh=>(s.d3 rb h).2 rfl).trans s.cr,s.d1,s.d2,s.d3,s.d4,p6.ext_of s.ext e λb a=>s.ge (s.wts.free a),s.fg,s.frb⟩
def ST.wait2{P:Program}{t:TypeId}(s:ST w0 w rb gb ui uw vt us ins waits todo T){k:Nat}(g:k<waits.length)(y:Bool){e:TypeInfo}(d:P.info? t=some e)(i:e.size=1):
  ∃f,(Instr.storeAt t (.pointer (some (G8 uw k))) (.bool y)).run P w = .ok () f/\ST w0 f rb gb ui uw vt us ins (waits.set k y) todo T/\p6 (A5 uw) w f:=by
 obtain⟨f,j,l,a,m⟩:=F9 (P:=P) (t:=t) s.wts rfl g (x:=.bool y) (y:=y) rfl rfl d i;refine⟨f,j,⟨s.rows.mod a λb c=>(s.d1 b c).2.1,l,s.q.mod a λb c=>(s.d2 b c).1,(a.block gb s.lg λh=>(s.d3 gb h).1 rfl).trans s.cg,(a.block rb s.lr λh=>(s.d3 rb h).2 rfl).trans s.cr,s.d1,s.d2,s.d3,s.d4,p6.ext_of s.ext a λb c=>s.ge (s.wts.free c),s.fg,s.frb⟩,a⟩
def ST.times{P:Program}{t:TypeId}(s:ST w0 w rb gb ui uw vt us ins waits todo T)(T':Int){d:TypeInfo}(c:P.info? t=some d)(g:d.size=1):
  ∃f,(Instr.storeAt t (.pointer (some ⟨gb,1,none⟩)) (.int .i64 T')).run P w = .ok () f/\ST w0 f rb gb ui uw vt us ins waits todo T':=by
 obtain⟨f,j,k,e⟩:=ad7 (P:=P) (t:=t) (i:=1) (x:=.int .i64 T') s.cg dP rfl rfl c g;refine⟨f,j,s.rows.mod e λb a=>(s.d1 b a).2.2.1,s.wts.mod e λb a=>(s.d3 b a).1,s.q.mod e λb a=>(s.d2 b a).2.1,k,(e.block rb s.lr λh=>s.d4 h.symm).trans s.cr,s.d1,s.d2,s.d3,s.d4,p6.ext_of s.ext e λb a=>by subst a;exact s.fg,s.fg,s.frb⟩
def ST.tail{x:Int}{a:List Int}(s:ST w0 w rb gb ui uw vt us ins waits (x::a) T):ST w0 w rb gb ui uw (reS vt 1 (a.length+1) 1) us ins waits a T:=by
 obtain⟨e,d⟩:=s.q.tail;exact⟨s.rows,s.wts,e,s.cg,s.cr,λb c=>⟨λh=>(s.d1 b c).1 ((d b).1 h),(s.d1 b c).2⟩,λb c=>s.d2 b ((d b).1 c),s.d3,s.d4,s.ext,s.fg,s.frb⟩
def ST.push{P:Program}{t e:TypeId}{a:Nat}(i:G7 P t 3 1 a=true)(s:ST w0 w rb gb ui uw vt us ins waits todo T)(y:Int)(o:todo.length+1<=1000000000000)(hb:(todo.length+1)*a<=140737488355328):
  (Instr.buildSlice t 1 #[(0,.int .i64 y)]).run P w = .ok (.slice (some ⟨w.heap.size,0,none⟩) 1 1) (w.alloc (.cells #[.int .i64 y] 3)) /\
  ∃d f,(Builtin.append_ #[t,t] e #[vt,.slice (some ⟨w.heap.size,0,none⟩) 1 1]).run P (w.alloc (.cells #[.int .i64 y] 3)) = .ok d f/\ST w0 f rb gb ui uw d us ins waits (todo++[y]) T:=by
 obtain⟨k,d,f,l,m,c,j⟩:=s.q.push (e:=e) i y o hb (b7 s.ext);refine⟨k,d,f,l,s.rows.mod c λb hb=>(s.d1 b hb).1,s.wts.mod c λb hb g=>(s.d2 b g).1 hb,m,(c.block gb s.lg λh=>(s.d2 gb h).2.1 rfl).trans s.cg,(c.block rb s.lr λh=>(s.d2 rb h).2.2 rfl).trans s.cr,λb hb=>⟨λh=>?_,(s.d1 b hb).2⟩,λb hb=>?_,s.d3,s.d4,p6.ext_of s.ext c λb hb=>s.ge (s.q.free hb),s.fg,s.frb⟩
 .rcases j b h with h|h
  .exact(s.d1 b hb).1 h
  .have:=s.rows.lt hb;omega
 .rcases j b hb with h|h
  .exact s.d2 b h
  .exact⟨λn=>by have:=s.wts.lt n;omega,by have:=s.lg;omega,by have:=s.lr;omega⟩
def ST.push2{P:Program}{t e:TypeId}{c:Nat}(j:G7 P t 3 1 c=true)(s:ST w0 w rb gb ui uw vt us ins waits todo T)(y:Int)(o:todo.length+1<=1000000000000)(hb:(todo.length+1)*c<=140737488355328):
  (Instr.buildSlice t 1 #[(0,.int .i64 y)]).run P w = .ok (.slice (some ⟨w.heap.size,0,none⟩) 1 1) (w.alloc (.cells #[.int .i64 y] 3)) /\
  ∃d f,(Builtin.append_ #[t,t] e #[vt,.slice (some ⟨w.heap.size,0,none⟩) 1 1]).run P (w.alloc (.cells #[.int .i64 y] 3)) = .ok d f/\ST w0 f rb gb ui uw d us ins waits (todo++[y]) T/\p6 (A5 vt) w f/\E7 w vt d:=by
 obtain⟨k,d,f,l,m,a,g⟩:=s.q.push (e:=e) j y o hb (b7 s.ext);refine⟨k,d,f,l,⟨s.rows.mod a λb hb=>(s.d1 b hb).1,s.wts.mod a λb hb i=>(s.d2 b i).1 hb,m,(a.block gb s.lg λh=>(s.d2 gb h).2.1 rfl).trans s.cg,(a.block rb s.lr λh=>(s.d2 rb h).2.2 rfl).trans s.cr,λb hb=>⟨λh=>?_,(s.d1 b hb).2⟩,λb hb=>?_,s.d3,s.d4,p6.ext_of s.ext a λb hb=>s.ge (s.q.free hb),s.fg,s.frb⟩,a,g⟩
 .rcases g b h with h|h
  .exact(s.d1 b hb).1 h
  .have:=s.rows.lt hb;omega
 .rcases g b hb with h|h
  .exact s.d2 b h
  .exact⟨λn=>by have:=s.wts.lt n;omega,by have:=s.lg;omega,by have:=s.lr;omega⟩
def ST.row(s:ST w0 w rb gb ui uw vt us ins waits todo T){e:World}{i:Nat}{u:Raw}(f:us[i]?=some u){r:List W}(hm:p6 (A5 u.v) w e)(g:B0 (i5 w0) e 240 u.v r):ST w0 e rb gb ui uw vt us (ins.set i r) waits todo T:=by
 have d:∀b,A5 u.v b->N9 ui us b:=λb a=>.inr ⟨u,el0 f,a⟩;exact⟨s.rows.write f hm g,s.wts.mod hm λb a c=>(s.d1 b (d b c)).2.1 a,s.q.mod hm λb a c=>(s.d1 b (d b c)).1 a,(hm.block gb s.lg λh=>(s.d1 gb (d gb h)).2.2.1 rfl).trans s.cg,(hm.block rb s.lr λh=>(s.d1 rb (d rb h)).2.2.2 rfl).trans s.cr,s.d1,s.d2,s.d3,s.d4,p6.ext_of s.ext hm λb a=>s.ge (s.rows.free (d b a)),s.fg,s.frb⟩
def ST.put{P:Program}{t:TypeId}(s:ST w0 w rb gb ui uw vt us ins waits todo T){n:World}(p:o6 w n){i:Nat}{u:Raw}(q:us[i]?=some u){u':Value}{r:List W}(v:B0 (i5 w0) n 240 u' r)(o:∀b,A5 u' b->w.heap.size<=b){g:TypeInfo}(e:P.info? t=some g)(y:g.size=1):
  ∃k,(Instr.storeAt t (.pointer (some (G8 ui i))) u').run P n = .ok () k/\ST w0 k rb gb ui uw vt (us.set i ⟨u'⟩) (ins.set i r) waits todo T:=by
 obtain⟨k,z,A,j,C⟩:=s.rows.put (P:=P) (t:=t) q (p.weaken λ_ _ h=>h.elim) v (λb a=>.inr (o b a)) e y;have f:∀b,A5 ui b->N9 ui us b:=λb a=>.inl a;have d:=s.more p;refine⟨k,z,A,d.wts.mod j λb a c=>(s.d1 b (f b c)).2.1 a,d.q.mod j λb a c=>(s.d1 b (f b c)).1 a,(j.block gb d.lg λh=>(s.d1 gb (f gb h)).2.2.1 rfl).trans d.cg,(j.block rb d.lr λh=>(s.d1 rb (f rb h)).2.2.2 rfl).trans d.cr,λb a=>?_,s.d2,s.d3,s.d4,p6.ext_of d.ext j λb a=>s.ge (s.rows.free (f b a)),s.fg,s.frb⟩;rcases a with a|⟨x,m,a⟩
 .exact s.d1 b (.inl a)
 .rcases es0 m with h|h
  .exact s.d1 b (.inr ⟨x,h,a⟩)
  .subst h;have B:=o b a;exact⟨λl=>by have:=s.q.lt l;omega,λl=>by have:=s.wts.lt l;omega,by have:=s.lg;omega,by have:=s.lr;omega⟩
def ST.qset{P:Program}{t:TypeId}(s:ST w0 w rb gb ui uw vt us ins waits todo T){k:Nat}(l:k<todo.length)(y:Int){e:TypeInfo}(d:P.info? t=some e)(m:e.size=1):
  ∃f,(Instr.storeAt t (.pointer (some (G8 vt k))) (.int .i64 y)).run P w = .ok () f/\ST w0 f rb gb ui uw vt us ins waits (todo.set k y) T:=by
 obtain⟨f,i,j,a⟩:=s.q.set (P:=P) (t:=t) l y d m;exact⟨f,i,s.rows.mod a λb c=>(s.d1 b c).1,s.wts.mod a λb c g=>(s.d2 b g).1 c,j,(a.block gb s.lg λh=>(s.d2 gb h).2.1 rfl).trans s.cg,(a.block rb s.lr λh=>(s.d2 rb h).2.2 rfl).trans s.cr,s.d1,s.d2,s.d3,s.d4,p6.ext_of s.ext a λb c=>s.ge (s.q.free c),s.fg,s.frb⟩
end
end Go.Proofs.YtpebpfiglfmegaaGreat

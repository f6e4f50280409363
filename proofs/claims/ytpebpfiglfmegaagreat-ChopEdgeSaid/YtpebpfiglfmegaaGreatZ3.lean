/- What the functions of the program do, for every input; plain facts. No condition, no statement of its own. Part 3. -/
import Derived.Ground.SlsfProg
import Derived.Shelf.SlGeneric
import Derived.Shelf.SlSortCmp.NoneTotal
import Derived.Shelf.SlSortCmp.WholeK
import Derived.Test.YtpebpfiglfmegaaGreatProg
import Derived.Test.YtpebpfiglfmegaaGreatZ2
set_option maxRecDepth 1000000
set_option maxHeartbeats 8000000
set_option linter.unusedVariables false
set_option linter.unusedSimpArgs false
set_option linter.unnecessarySimpa false
set_option linter.defProp false
namespace Go.Proofs.YtpebpfiglfmegaaGreat
open Go Tryz
def ed5:ar7 prog 122=true:=kr
def aa7(e:Int×Int):Value:=.agg #[.int .i64 e.1,.int .i64 e.2]
def W4(c:Int):C1 prog 80 [(0,.int .i64 c)]=some (aa7 (c,0)):=by
 simp[C1,do6,K7,Instr.fill,Value.cells,aa7]
def aH4(c a:Int):C1 prog 80 [(0,.int .i64 c),(1,.int .i64 a)]=some (aa7 (c,a)):=by
 simp[C1,do6,K7,Instr.fill,Value.cells,aa7]
def aV7:C1 prog 80 []=some (aa7 (0,0)):=by
 simp[C1,do6,K7,Instr.fill,aa7]
def aH2(w:World):∃a b,(Instr.alloc 80 true (.tuple #[])).run prog w = .ok (.pointer (some ⟨a,0,none⟩)) b/\o6 w b/\b.heap[a]?=some (.cells #[.int .i64 0,.int .i64 0] 80 (0,0))/\w.heap.size<=a:=by
 obtain⟨c,_⟩:=aI8 (P:=prog) (w:=w) (T:=80) dq5 rfl (cs:=#[.int .i64 0,.int .i64 0]) rfl (by simp[Value.oneCell']);exact⟨_,_,c,o6.alloc _ _,em9 w _,ek6 _⟩
def ay5{w0 g j:World}{c:Nat}(h:g.heap[c]?=some (.cells #[.int .i64 0,.int .i64 0] 80 (0,0)))(i:o6 g j)(d:w0.heap.size<=c)(f:o6 w0 g)(e:Int×Int):
  ∃a,(Instr.storeAt 80 (.pointer (some ⟨c,0,none⟩)) (aa7 e)).run prog j = .ok () a/\(Instr.loadAt 80 (.pointer (some ⟨c,0,none⟩))).run prog a = .ok (aa7 e) a/\o6 w0 a:=by
 have k:=(i.block c (ej4.1 h).1 id).trans h;obtain⟨a,m,n,o⟩:=aj3 (P:=prog) (cs:=#[.int .i64 e.1,.int .i64 e.2]) k dq5 rfl rfl (by simp[Value.oneCell']);refine⟨a,m,?_,p6.ext_of (f.trans i) o λb l=>by subst l;exact d⟩;exact af6 n dF3 dG2 dF6 (by rw[dG0];rfl)
def cz8(n:B3)(a:Addr)(p:Pg)(w:World)(b:At (i5 w) a p)(g:p.globals.length<=1000000):y5 prog 122 #[t8 n,.pointer (some a)] w λu f=>(u = .bool (p.globals.contains n)/\o6 w f):=by
 refine z6 [t8 n,.pointer (some a)] func122 rfl ?_;obtain⟨e,_,c,_,d,_⟩:=b.pg;simp only[eS,simprocAttr,d w (n7 _)];refine F6 (S7 e p.globals n w c om) ?_;simp only[n8,simprocAttr];exact o8 results122 ⟨rfl,p6.refl _⟩
def ao0(v:Value)(p:Pg)(w:World)(hv:SV (i5 w) v p)(hw:C4 p<=1000000):y5 prog 78 #[v] w λu o=>(u=aa7 (Q5 p)/\o6 w o):=by
 refine z6 [v] func78 rfl ?_;obtain⟨a,w1,bw,bd,ha⟩:=af7 (w:=w) (λ_=>False) hv (λ_ h=>h.elim);obtain⟨vg,vp,hg,hp,ld,_⟩:=L8.pg hv ha;obtain⟨lw,_⟩:=L8.pg_v hv ha;obtain⟨rb,w2,bv,aF,a2,aW⟩:=aH2 w1;have aU:w.heap.size<=rb:=ej7 bd.size aW;have g:=bd.trans aF;have bu:∀o,o6 w2 o->At (i5 o) a p:=λo h=>by
  obtain⟨cs,e,hc⟩:=ha;obtain⟨bl,W,he⟩:=hv;subst e;obtain rfl:=aj2 W;exact⟨bl,A6.mono (b7 (g.trans h)) he,λj u hj=>J5 (p7 (B4 _ _) (b7 (aF.trans h))) (hc j u hj)⟩
 have C:∀o,o6 w2 o->E2 (D0 w1 λ_=>False) (i5 o):=λo h=>p7 (B4 _ _) (b7 (aF.trans h));have r:=λ(o:World) (h:o6 w2 o)=>ay5 a2 h aU g;simp only[eS,simprocAttr,bw,bv,lw w2 (C _ (p6.refl _))];refine B6 (cF8 v p w2 (hv.mono (b7 g)) hw) (λw3 aJ=>?_);cases hmay:O6 p
 .obtain⟨w9,L,M,N⟩:=r w3 aJ (1,0);simp only[eS,simprocAttr,W4,L];refine O5 results78 (by simp only[B8,simprocAttr]) M ?_;exact⟨by rw[Q5,hmay];rfl,N⟩
 have l3:=ld w3 (C _ aJ);have aP:=hp.isS;have aZ:=hp.vlen;have bx:p.globals.length<=16/\p.procs.length<=16:=by
  simp only[O6,el3,em7]at hmay;exact⟨hmay.1.1.1,hmay.1.1.2⟩
 obtain⟨bW,bX⟩:=bx;simp only[eS,simprocAttr,l3,aP,aZ];refine A9 [1,2,18,19] (σ:=Nat×Value) (λs f o=>f 20 = .int .i64 s.1/\f 3=s.2/\s.1<=p.procs.length/\B0 (i5 w2) o 9 s.2 ((p.procs.take s.1).map (·.name))/\o6 w2 o) (λs=>p.procs.length-s.1) (0,.slice none 0 0) ?_ ?_
 .exact⟨rfl,rfl,ek1 _,by simpa using B0.nil _ _ _,aJ⟩
 rintro⟨k,u⟩ f w4 ⟨e1,W,bm,bn,_⟩ ⟨ax,h3,bB,ho,B⟩;simp only at ax h3 bB ho;simp only[eS,simprocAttr,ax,bn];refine A8 (λhc=>?_) (λhc=>?_)
 .have F:k<p.procs.length:=by simpa using hc
  have E:=hp.inS F;obtain⟨sv,J,ap⟩:=H1 (P:=prog) (t:=68) hp (b7 (g.trans B)) (ej0 F) aD3 aD5 aw4 U0;rw[U0]at ap;have a8:(p.procs.take (k+1)).map (·.name)=(p.procs.take k).map (·.name)++[p.procs[k].name]:=by
   rw[ej8 F,em6];rfl
  generalize p.procs[k]=y at J a8;obtain⟨b,wz,w5,aQ,a4,ad,aB⟩:=aY3 (J.mono (b7 (g.trans B))) (n7 _);obtain⟨_,_,_,_,_,_,_,_,bL,_⟩:=aB.pr;have l5:=bL w5 (n7 _);have a0:=ho.ext ad;have K:=B.trans ad;obtain⟨p1,u',w6,p2,p3,p4,p5⟩:=push (e:=22) aC9 rfl a0 (x:=t8 y.name) (y:=y.name) rfl (by simp;omega) (by simp;omega) (b7 K);simp only[n8,n9,A0,simprocAttr,ax,h3,bm,E,ap,aQ,a4,l5,p1,p2];exact nx4 (k+1,u') ⟨by rw[a8];exact p3,a0.ext2 K p4⟩
 have aV:k=p.procs.length:=by simp at hc;omega
 subst aV;rw[ek4]at ho;have bC:(p.procs.map (·.name)).length=p.procs.length:=ek2 _;have Q:ag3 (λy=>decide (J0=y)) 0 (p.procs.map (·.name))=ai5 p.procs J0:=by
  rw[cm0,ai5];exact cz5 (λx=>by rw[eo4];exact eq_comm) _ _
 have D:Q5 p=if ai2 p.globals||ai2 (p.procs.map (·.name))||decide (ai5 p.procs J0<0)||decide (0<(p.procs.getD (ai5 p.procs J0).toNat cc5).params.length)then(5,0)
  else(Q6 p (d9 p) (p.procs.map (·.name)) 0 p.procs).getD (0,0):=by rw[Q5,if_neg (by rw[hmay];simp)]
 have hu:=ho.rw_ (b7 B);generalize p.procs.map (·.name)=d at hu bC Q D;have l4:=ld w4 (C _ B);have a6:(Value.string ⟨#[109,97,105,110]⟩)=t8 J0:=rfl;have bz:∀o,o6 w o->R (i5 o) vg p.globals:=λo h=>A6.mono (b7 h) hg;have bO:=lw w4 (C _ B);simp only[n8,simprocAttr,h3,a6];refine F6 (bC2 u d J0 w4 hu om) ?_;rw[Q];have S:=aT4 (λf=>decide (f.name=J0)) p.procs 0
 change 0<=ai5 p.procs J0->_ at S
 change 0<=ai5 p.procs J0->∃k,ai5 p.procs J0=_/\_ at S
 generalize ai5 p.procs J0=first at S D
 obtain⟨w9,L,M,N⟩:=r w4 B (5,0);simp only[eS,simprocAttr,e1,l4];refine F6 (bt1 vg p.globals w4 (bz w4 (g.trans B)) om) ?_;rcases ej1 (ai2 p.globals)with ht1|ht1
 .simp only[n8,simprocAttr,ht1,W,W4,L];refine O5 results78 (by simp only[B8,simprocAttr];exact W) M ?_;exact⟨by rw[D,ht1];rfl,N⟩
 simp only[n8,simprocAttr,ht1,h3];refine F6 (bt1 u d w4 hu om) ?_;rcases ej1 (ai2 d)with ht2|ht2
 .simp only[n8,simprocAttr,ht2,W,W4,L];refine O5 results78 (by simp only[B8,simprocAttr];exact W) M ?_;exact⟨by rw[D,ht1,ht2];rfl,N⟩
 rcases ej1 (decide (first<0))with ht3|ht3
 .simp only[eS,simprocAttr,ht2,ht3,W,W4,L];refine O5 results78 (by simp only[B8,simprocAttr];exact W) M ?_;exact⟨by rw[D,ht1,ht2,ht3];rfl,N⟩
 obtain⟨k,rfl,q,hq,_⟩:=S (by simpa using ht3);rw[en0]at D ht3;obtain⟨va,_,_,_,ba,_,_,_,bJ,_⟩:=(hp.at_ hq).pr;have cg:ad1 q<=1000000:=aC6 p hw q (el0 hq);have cf:=ar4 q.params;have lq:=bJ w4 (b7 (g.trans B));have hz:A6.sz Pr=5:=rfl;rw[hz]at lq;have E:=hp.inS (ej5.1 hq).1;have aO:=ba.isS;have aY:=ba.vlen;have a1:(p.procs.getD (Int.toNat (k:Nat)) cc5).params=q.params:=by rw[el5,List.getD,hq];rfl
 rw[a1]at D;rcases ej1 (decide (0<(q.params.length:Int)))with ht4|ht4
 .simp only[n8,n9,A0,simprocAttr,ht2,ht3,ht4,e1,l4,E,lq,aO,aY,W,W4,L];refine O5 results78 (by simp only[B8,simprocAttr];exact W) M ?_;have aE:decide (0<q.params.length)=true:=by simpa using ht4
  exact⟨by rw[D,ht1,ht2,ht3,aE];rfl,N⟩
 have aE:decide (0<q.params.length)=false:=by simpa using ht4
 have T:Q5 p=(Q6 p (d9 p) d 0 p.procs).getD (0,0):=by rw[D,ht1,ht2,ht3,aE];rfl
 clear D r L M N;have r:=λ(o:World) (h:o6 w2 o)=>ay5 a2 h aU g;simp only[n8,n9,A0,simprocAttr,ht2,ht3,ht4,e1,l4,E,lq,aO,aY,bO];refine y4 (as2 v p w4 (hv.mono (b7 (g.trans B))) hw) ?_;rintro us w5 ⟨sh,rfl,hsh,ad⟩;have K:=B.trans ad;simp only[eS,simprocAttr,e1,ld w5 (C _ K),aP,aZ];refine A9 [1,2,3,7,57,58] (σ:=Nat) (λk f o=>f 59 = .int .i64 k/\k<=p.procs.length/\Q6 p (d9 p) d 0 p.procs=Q6 p (d9 p) d k (p.procs.drop k)/\o6 w5 o) (λk=>p.procs.length-k) 0 ?_ ?_
 .simp only[B8,simprocAttr];exact⟨tt,ek1 _,by rw[es1],p6.refl _⟩
 rintro i f2 w6 ⟨aw,I,e3,e7,bo,bp,_⟩ ⟨ay,cb,z,aj⟩;rw[e1]at aw;rw[W]at I;rw[h3]at e3;have ab:=K.trans aj;simp only[eS,simprocAttr,ay,bp];refine A3 (λF=>?_) ?_;rotate_left
 .rintro rfl;rw[et1]at z;obtain⟨w9,L,M,N⟩:=r w6 ab (0,0);simp only[n8,simprocAttr,I,aV7,L];refine O5 results78 (by simp only[B8,simprocAttr];exact I) M ?_;exact⟨by rw[T,z];rfl,N⟩
 have E:=hp.inS F;obtain⟨sv,J,C⟩:=H1 (P:=prog) (t:=68) hp (b7 (g.trans ab)) (ej0 F) aD3 aD5 aw4 U0;rw[U0]at C;have X:p.procs.drop i=p.procs[i]::p.procs.drop (i+1):=eo1 F;obtain⟨x,Y,_⟩:=ab9 p hw i F;have ah:=aC6 p hw _ (ek0 F);have bc:∀it∈(d9 p).of i,V7 it.s<=1000000:=λit h=>by
  rw[Y.of_]at h;exact ao1 p hw it (er2 (ev1 h))
 have aX:((d9 p).of i).length<=1000000:=by
  rw[Y.of_,eo9,ek3];have:=Y.fit;omega
 generalize p.procs[i]=y at J X ah Y;rw[X,Q6]at z;obtain⟨b,wz,w7,aR,a5,ak,aB⟩:=aY5 (w:=w6) (λ_=>False) J (λ_ h=>h.elim);obtain⟨be,_⟩:=L8.pr_v J aB;have ar:=ab.trans ak;simp only[n8,n9,A0,simprocAttr,ay,bo,E,C,aR,a5,be w7 (B4 _ _)];refine y4 (dz0 sv y w7 (J.mono (b7 (g.trans ar))) ah) ?_;rintro uo w8 ⟨bD,V⟩;have a9:=bD.rw_ (b7 V);have ac:=ar.trans V;have ce:(bA0 y).length<=1000000:=by
  have h1:=ar4 y.params;have h2:=ac0 y.vars;unfold ad1 at ah;unfold bA0;rw[ej2,ek2];omega
 simp only[n8,simprocAttr];refine F6 (bt1 uo (bA0 y) w8 a9 om) ?_;obtain⟨w9,L,M,N⟩:=r w8 ac (5,0);rcases ej1 (ai2 (bA0 y))with ht6|ht6
 .simp only[n8,simprocAttr,ht6,I,W4,L];refine O5 results78 (by simp only[B8,simprocAttr];exact I) M ?_;exact⟨by rw[T,z,ag8,ht6];rfl,N⟩
 clear L M N;simp only[n8,simprocAttr,ht6,aw];refine B6 (bf2 (λn=>p.globals.contains n) 122 #[.pointer (some a)] uo (bA0 y) w8 ed5 a9 om (λn o bF _=>cz8 n a p o (bu o (ac.trans bF)) om)) (λw9 ae=>?_);have au:=ac.trans ae;obtain⟨bf,L,M,N⟩:=r w9 au (5,0);rcases ej1 ((bA0 y).any λn=>p.globals.contains n)with ht7|ht7
 .simp only[n8,simprocAttr,ht7,I,W4,L];refine O5 results78 (by simp only[B8,simprocAttr];exact I) M ?_;exact⟨by rw[T,z,ag8,ht6,ht7];rfl,N⟩
 clear L M N;have a3:ag8 p d y ((d9 p).of i)=match((d9 p).of i).find? λit=>!ak2 p y d it.s with
   | some it=>some (5,it.s.id)
   | none=>none:=by rw[ag8,ht6,ht7];rfl
 rw[a3]at z;simp only[n8,simprocAttr,ht7,e7];refine y4 (bl2 sh (d9 p) i x _ w9 (hsh.mono (b7 (aj.trans (ak.trans (V.trans ae))))) Y) ?_;rintro ul bf ⟨Z,U⟩;have aG:=au.trans U;generalize(d9 p).of i=l at Z bc z aX;simp only[eS,simprocAttr,Z.isS,Z.vlen];refine A9 [1,2,3,7,9,57,58,59,76,77] (σ:=Nat) (λm f o=>f 78 = .int .i64 m/\m<=l.length/\(∀j (hj:j<l.length),j<m->ak2 p y d l[j].s=true)/\o6 bf o) (λm=>l.length-m) 0 ?_ ?_
 .exact⟨rfl,ek1 _,λj _ h=>om,p6.refl _⟩
 rintro m f3 cu ⟨g1,g2,g3,g7,g9,b3,b4,aM,br,bs,_⟩ ⟨az,cd,aC,A⟩;rw[aw]at g1;rw[I]at g2;rw[e3]at g3;rw[e7]at g7;rw[ay]at aM;have aH:=aG.trans A;simp only[eS,simprocAttr,az,bs];refine A3 (λag=>?_) ?_;rotate_left
 .rintro rfl;have O:l.find? (λit=>!ak2 p y d it.s)=none:=es7.2 λit bA=>by
   obtain⟨j,hj,rfl⟩:=ep2.1 bA;rw[aC j hj hj];simp
  rw[O]at z;simp only[eS,simprocAttr,aM];refine V1 (i+1) ⟨z,?_⟩;exact aj.trans (ak.trans (V.trans (ae.trans (U.trans A))))
 clear E C;have E:=Z.inS ag;obtain⟨cq,a7,ao⟩:=H1 (P:=prog) (t:=156) Z (b7 A) (ej0 ag) af2 af4 ac9 L4;rw[L4]at ao;have bb:=bc _ (ek0 ag);obtain⟨c,cx,al,aA,aD,G,aS⟩:=ax9 (a7.mono (b7 A)) (n7 _);obtain⟨an,_,_⟩:=aS.it;obtain⟨vt,bE,bI,_⟩:=an.st_v;obtain⟨_,_,_,_,_,_,_,_,_,bK,_⟩:=an.st;have H:=aH.trans G;have k2:=be al (p7 (B4 _ _) (b7 (V.trans (ae.trans (U.trans (A.trans G))))));simp only[n8,n9,A0,simprocAttr,az,g1,g3,g9,br,E,ao,aA,aD,lw al (C _ H),k2,bI al (n7 _)];refine B6 (cT7 v sv u vt p y d l[m].s al (hv.mono (b7 (g.trans H))) (J.mono (b7 (g.trans H))) (A6.mono (b7 (ad.trans (aj.trans (ak.trans (V.trans (ae.trans (U.trans (A.trans G)))))))) hu) bE hw ah bb om) (λbg aa=>?_);have aI:=H.trans aa;rcases ej1 (ak2 p y d l[m].s)with hkn|hkn
 .simp only[eS,simprocAttr,hkn,az];refine V1 (m+1) ⟨λj hj cc=>?_,A.trans (G.trans aa)⟩;rcases en2 j m with h|h
  .exact aC j hj h
  .obtain rfl:j=m:=om
   exact hkn
 .obtain⟨cv,L,M,N⟩:=r bg aI (5,l[m].s.id);simp only[eS,simprocAttr,hkn,bK bg (b7 aa),g2,aH4,L];refine O5 results78 (by simp only[B8,simprocAttr];exact g2) M ?_;have O:l.find? (λit=>!ak2 p y d it.s)=some l[m]:=et2.2 ⟨by rw[hkn];rfl,m,ag,rfl,λj hj=>by rw[aC j om hj];rfl⟩;rw[O]at z;exact⟨by rw[T,z];rfl,N⟩
theorem ax2(e:Int×Int):ca5 prog 80 0 (aa7 e)=some (.int .i64 e.1):=rfl
def ck0:eqT prog 4=1:=kr
def bA6{a b:Bool}:D1 prog .neq 4 (.bool a) (.bool b)=some (.bool !(a==b)):=by
 simp only[D1,ck0,ep4]
def bb5{α β:Type}(p:α×β->Bool):∀(l:List α) (m:List β) (k:Nat) (c:k<l.length) (d:k<m.length),p (l[k],m[k])=false->(l.zip m).all p=false
 | [],_,_,h,_,_=>by simp at h
 | _::_,[],_,_,h,_=>by simp at h
 | a::l,b::m,0,_,_,h=>by
  have e:p (a,b)=false:=h;simp[e]
 | a::l,b::m,k+1,c,d,h=>by
  have:=bb5 p l m k (by simpa using c) (by simpa using d) h;simp only[List.zip_cons_cons,List.all_cons,this,Bool.and_false]
def bn1{α β:Type}(p:α×β->Bool):∀(l:List α) (m:List β),(∀k (c:k<l.length) (d:k<m.length),p (l[k],m[k])=true)->(l.zip m).all p=true
 | [],_,_=>dP
 | _::_,[],_=>dP
 | a::l,b::m,h=>by
  have e:p (a,b)=true:=h 0 dP dP;simp only[List.zip_cons_cons,List.all_cons,e,eq4];exact bn1 p l m λk c d=>h (k+1) (by simpa using c) (by simpa using d)
def dm0(T S:Value)(l:List Pa)(a:List Ar)(w:World)(D:R (i5 w) T l)(C:R (i5 w) S a)(h1:l.length<=1000000)(h2:a.length<=1000000):
  y5 prog 190 #[T,S] w λu e=>(u = .bool (bJ3 l a)/\o6 w e):=by
 refine z6 [T,S] func190 rfl ?_;have q:=D.isS;have z:=D.vlen;have r:=C.isS;have A:=C.vlen;have s:decide ((l.length:Int)=(a.length:Int))=decide (l.length=a.length):=by rw[eo4];omega
 rcases ej1 (decide (l.length=a.length))with hlen|hlen;rotate_left
 .simp only[eS,simprocAttr,q,z,r,A,s,hlen];refine o8 results190 ?_;simp only[B8,simprocAttr];exact⟨by rw[bJ3,hlen];rfl,p6.refl _⟩
 have J:l.length=a.length:=ej3 hlen;have V:bJ3 l a=(l.zip a).all λx=>x.1.ref==x.2.ref:=by rw[bJ3,hlen,eq4]
 simp only[eS,simprocAttr,q,z,r,A,s,hlen];refine A9 [1,12,13] (σ:=Nat) (λk f e=>f 14 = .int .i64 k/\k<=l.length/\(∀j (v:j<l.length) (g:j<a.length),j<k->(l[j].ref==a[j].ref)=true)/\o6 w e) (λk=>l.length-k) 0 ?_ ?_
 .exact⟨rfl,ek1 _,λj _ _ h=>om,p6.refl _⟩
 .rintro k f w3 ⟨U,E,F,_⟩ ⟨o,Y,B,i⟩;simp only[eS,simprocAttr,o,F];refine A3 (λp=>?_) ?_
  .have b:k<a.length:=om
   have I:=D.inS p;obtain⟨sv,L,y⟩:=H1 (P:=prog) (t:=72) D (b7 i) (ej0 p) bL2 bL7 bz0 aD4;rw[aD4]at y;obtain⟨c,wz,n,G,K,M,H⟩:=aY2 (L.mono (b7 i)) (n7 _);obtain⟨_,Q⟩:=H.pa;have d:o6 w n.drew:=i.trans (M.trans (o6.drew n));obtain⟨_,_,O⟩:=(C.at_ (ej0 b)).ar;have W:=Q (λe=>o6 n.drew e) n.drew (p6.refl _) λe h=>b7 ((o6.drew n).trans h);have N:=O (λe=>o6 n.drew e) n.drew (p6.refl _) λe h=>b7 (d.trans h);have Z:A6.sz Ar=6:=rfl;rw[Z]at N;have m:=C.inS b;simp only[n8,n9,A0,simprocAttr,o,E,I,y,G,K];refine C0 (λe=>o6 n.drew e) 8 (A7 [0,1,2,3,4,5,6,7]) ?_;rcases ej1 (l[k].ref==a[k].ref)with hq|hq
   .simp only[D7,A7,n8,n9,A0,simprocAttr,W,N,m,bA6,hq,o,U];refine V1 (k+1) ⟨λj v g X=>?_,d⟩;rcases en2 j k with h|h
    .exact B j v g h
    .obtain rfl:j=k:=om
     exact hq
   .simp only[D7,A7,n8,n9,A0,simprocAttr,W,N,m,bA6,hq,U];refine o8 results190 ?_;simp only[B8,simprocAttr];exact⟨by rw[V,bb5 _ l a k p b hq],d⟩
  .rintro rfl;simp only[n8,simprocAttr];refine o8 results190 ?_;simp only[B8,simprocAttr];exact⟨by rw[V,bn1 _ l a λj v g=>B j v g v],i⟩
def de8(vp vt:Value)(p:Pg)(t:St)(w:World)(hp:SV (i5 w) vp p)(ht:SV (i5 w) vt t)(F:C4 p<=1000000)(W:V7 t<=1000000):
  y5 prog 126 #[vp,vt] w λu w'=>(u = .bool (an3 p t)/\o6 w w'):=by
 refine z6 [vp,vt] func126 rfl ?_;obtain⟨a,w1,y,G,L⟩:=U2 hp (n7 _);obtain⟨b,w2,z,m,M⟩:=ax0 (ht.mono (b7 G)) (n7 _);obtain⟨_,aw,_,l,Y,_⟩:=L.pg;obtain⟨_,ab,_,_,_,D,_,_,_,H,_⟩:=M.st;have g:=G.trans m;have I:=H w2 (n7 _);have aa:=Y w2 (b7 m);have hS:=l.isS;have hn:=l.vlen;rw[X3]at W;have an:=az3 t.args;have S:=am6 p.procs;have U:=aC6 p F;unfold C4 at F;rcases ej1 (decide (t.kind=4))with hk4|hk4;rotate_left
 .simp only[eS,simprocAttr,y,z,I,hk4];refine o8 results126 ?_;simp only[B8,simprocAttr];exact⟨by rw[an3,hk4];rfl,g⟩
 have hF:an3 p t=match p.procs.find? λf=>decide (f.name=t.proc)with
  | some f=>bJ3 f.params t.args
  | none=>false:=by rw[an3,hk4,eq4]<;>rfl
 simp only[eS,simprocAttr,y,z,I,aa,hk4,hS,hn];refine E8 [3,11,12] (σ:=Nat) (λk f w'=>f 13 = .int .i64 k/\k<=p.procs.length/\(∀j (r:j<p.procs.length),j<k->decide (p.procs[j].name=t.proc)=false)/\o6 w2 w') (λk=>p.procs.length-k) 0 ?_ ?_
 .simp only[B8,simprocAttr];exact⟨tt,ek1 _,λj _ h=>om,p6.refl _⟩
 .rintro k f w3 hk ⟨q,ap,v,e⟩;simp only[em0,B8,simprocAttr]at hk;obtain⟨e3,x,K,_⟩:=hk;simp only[eS,simprocAttr,q,K];refine A8 (λO=>?_) (λO=>?_)
  .have i:k<p.procs.length:=by simpa using O
   have B:=l.inS i;obtain⟨sv,T,s⟩:=H1 (P:=prog) (t:=68) l (b7 (m.trans e)) (ej0 i) aD3 aD5 aw4 U0;rw[U0]at s;obtain⟨c,wz,w4,o,C,n,N⟩:=aY3 (T.mono (b7 (m.trans e))) (n7 _);obtain⟨ac,_,_,_,E,_,_,_,Z,_⟩:=N.pr;have l4:=Z w4 (n7 _);have J:=H w4 (b7 (e.trans n));have A:=g.trans (e.trans n);rcases ej1 (decide (p.procs[k].name=t.proc))with hq|hq
   .have d:p.procs.find? (λf=>decide (f.name=t.proc))=some p.procs[k]:=et2.2 ⟨hq,k,i,rfl,λj r=>by rw[v j om r];rfl⟩;have V:=U _ (ek0 i);have au:=ar4 p.procs[k].params;unfold ad1 at V;simp only[n8,n9,A0,simprocAttr,q,e3,x,B,s,o,C,l4,J,hq];refine B6 (dm0 ac ab _ _ w4 E (A6.mono (b7 (e.trans n)) D) om om) (λw5 X=>?_);simp only[n8,simprocAttr];refine o8 results126 ?_;simp only[B8,simprocAttr];exact⟨by simp only[hF,d],A.trans X⟩
   .simp only[n8,n9,A0,simprocAttr,q,e3,x,B,s,o,C,l4,J,hq];refine⟨k+1,om,el1 _ (J2 k om),om,λj r ao=>?_,e.trans n⟩;rcases en2 j k with h|h
    .exact v j r h
    .obtain rfl:j=k:=om
     exact hq
  .have Q:k=p.procs.length:=by simp at O;omega
   subst Q;have d:p.procs.find? (λf=>decide (f.name=t.proc))=none:=es7.2 λit R=>by
    obtain⟨j,r,rfl⟩:=ep2.1 R;rw[v j r r];simp
   simp only[n8,simprocAttr];refine o8 results126 ?_;simp only[B8,simprocAttr];exact⟨by simp only[hF,d],g.trans e⟩
def aR8(v:Value)(p:Pg)(w:World)(hv:SV (i5 w) v p)(hw:C4 p<=1000000):y5 prog 79 #[v] w λu r=>(u=aa7 (ah5 p)/\o6 w r):=by
 refine z6 [v] func79 rfl ?_;obtain⟨a,w1,af,S,ha⟩:=af7 (w:=w) (λ_=>False) hv (λ_ h=>h.elim);obtain⟨lw,_⟩:=L8.pg_v hv ha;obtain⟨rb,w2,ae,T,aj,N⟩:=aH2 w1;have ag:w.heap.size<=rb:=ej7 S.size N;have d:=S.trans T;have E:∀r,o6 w2 r->E2 (D0 w1 λ_=>False) (i5 r):=λr h=>p7 (B4 _ _) (b7 (T.trans h));have e:=λ(r:World) (h:o6 w2 r)=>ay5 aj h ag d;simp only[eS,simprocAttr,af,ae,lw w2 (E _ (p6.refl _))];refine B6 (ao0 v p w2 (hv.mono (b7 d)) hw) (λw3 o=>?_);rcases ej1 (decide ((Q5 p).1=0))with hsc|hsc;rotate_left
 .obtain⟨w9,Y,Z,s3⟩:=e w3 o (1,0);simp only[eS,simprocAttr,ax2,hsc,W4,Y];refine O5 results79 (by simp only[B8,simprocAttr]) Z ?_;exact⟨by rw[ah5,if_pos (ej6 hsc)],s3⟩
 have K:ah5 p=match(d9 p).l.find? λit=>decide (it.s.kind=4) && !an3 p it.s with
  | some it=>(6,it.s.id)
  | none=>(0,0):=by rw[ah5,if_neg (by simpa using hsc)]<;>rfl
 simp only[eS,simprocAttr,ax2,hsc,lw w3 (E _ o)];refine y4 (as2 v p w3 (hv.mono (b7 (d.trans o))) hw) ?_;rintro us w4 ⟨sh,rfl,hsh,hx4⟩;have U:=o.trans hx4;obtain⟨vL,aK,aJ,L,aE,aC,aA,W,_⟩:=hsh.sh;have ao:=W w4 (n7 _);have hS:=L.isS;have hn:=L.vlen;have ak:=az0 p;have aB:=bZ6 p;have R:=ao1 p hw;generalize(d9 p).l=l at L hS hn ak R K;simp only[eS,simprocAttr,ao,hS,hn];refine A9 [1,2,14,15] (σ:=Nat) (λm f r=>f 16 = .int .i64 m/\m<=l.length/\(∀j (A:j<l.length),j<m->(decide (l[j].s.kind=4) && !an3 p l[j].s)=false)/\o6 w4 r) (λm=>l.length-m) 0 ?_ ?_
 .exact⟨rfl,ek1 _,λj _ h=>om,p6.refl _⟩
 rintro m f3 w5 ⟨g1,g2,J,ad,_⟩ ⟨k,aF,F,q⟩;have C:=U.trans q;simp only[eS,simprocAttr,k,ad];refine A3 (λn=>?_) ?_;rotate_left
 .rintro rfl;have b:l.find? (λit=>decide (it.s.kind=4) && !an3 p it.s)=none:=es7.2 λit ah=>by
   obtain⟨j,A,rfl⟩:=ep2.1 ah;rw[F j A A];simp
  rw[b]at K;obtain⟨w9,Y,Z,s3⟩:=e w5 C (0,0);simp only[n8,simprocAttr,g2,aV7,Y];refine O5 results79 (by simp only[B8,simprocAttr];exact g2) Z ?_;exact⟨by rw[K],s3⟩
 have O:=L.inS n;obtain⟨sv,al,D⟩:=H1 (P:=prog) (t:=156) L (b7 q) (ej0 n) af2 af4 ac9 L4;rw[L4]at D;have Q:=R _ (ek0 n);obtain⟨c,aN,I,x,B,V,M⟩:=ax9 (al.mono (b7 q)) (n7 _);obtain⟨y,_,_⟩:=M.it;obtain⟨vt,am,an,_⟩:=y.st_v;obtain⟨_,_,_,_,_,_,_,_,_,X,_⟩:=y.st;have g:=C.trans V;have k1:=lw I (E _ g);have k2:=X I (n7 _);have k3:=an I (n7 _);have z:∀H,o6 I H->(decide (l[m].s.kind=4) && !an3 p l[m].s)=false->∃s:Nat,l.length-s<l.length-m/\(Value.int .i64 (IntKind.i64.wrap ((m:Int)+1))) = .int .i64 s/\s<=l.length/\(∀j (A:j<l.length),j<s->(decide (l[j].s.kind=4) && !an3 p l[j].s)=false)/\o6 w4 H:=λH i G=>by
  refine V1 (m+1) ⟨λj A aD=>?_,q.trans (V.trans i)⟩;rcases en2 j m with h|h
  .exact F j A h
  .obtain rfl:j=m:=om
   exact G
 rcases ej1 (decide (l[m].s.kind=4))with hk4|hk4
 .simp only[n8,n9,A0,simprocAttr,k,g1,J,O,D,x,B,k1,k2,k3,hk4];refine B6 (de8 v vt p l[m].s I (hv.mono (b7 (d.trans g))) am hw Q) (λH i=>?_);rcases ej1 (an3 p l[m].s)with G|G
  .simp only[eS,simprocAttr,G,k];exact z H i (by rw[hk4,G];rfl)
  .obtain⟨w9,Y,Z,s3⟩:=e H (g.trans i) (6,l[m].s.id);simp only[eS,simprocAttr,G,X H (b7 i),g2,aH4,Y];refine O5 results79 (by simp only[B8,simprocAttr];exact g2) Z ?_;have b:l.find? (λit=>decide (it.s.kind=4) && !an3 p it.s)=some l[m]:=et2.2 ⟨by rw[hk4,G];rfl,m,n,rfl,λj A=>by rw[F j om A];rfl⟩;rw[b]at K;exact⟨by rw[K],s3⟩
 .simp only[n8,n9,A0,simprocAttr,k,J,O,D,x,B,k2,hk4];exact z I (p6.refl _) (by rw[hk4];rfl)
mutual
def cR6:∀(t:St) (k:Nat) (a d c b:Int),∀it∈ac7 t k a d c b,it.proc=a
 | .mk id kind labels name proc x has args thn els,k,a,d,c,b,it,h=>by
  rw[U6]at h;rcases ek9.1 h with rfl|h
  .rfl
  .rcases ej9.1 h with h|h
   .exact aL8 thn _ _ _ _ _ it h
   .exact aL8 els _ _ _ _ _ it h
def aL8:∀(l:List St) (k:Nat) (a d c b:Int),∀it∈E5 l k a d c b,it.proc=a
 | [],_,_,_,_,_,it,h=>by simp[E5]at h
 | t::l,k,a,d,c,b,it,h=>by
  rw[E5]at h;rcases ej9.1 h with h|h
  .exact cR6 t _ _ _ _ _ it h
  .exact aL8 l _ _ _ _ _ it h
end
def aN0(p:Pg)(hw:C4 p<=1000000)(i:Nat)(a:i<p.procs.length):∀it∈(d9 p).of i,it.proc=(i:Int):=λit h=>by
 obtain⟨x,_,e⟩:=ab9 p hw i a;rw[e]at h;exact aL8 _ _ _ _ _ _ it h
def cz9(v:Value)(p:Pg)(w:World)(hv:SV (i5 w) v p)(hw:C4 p<=1000000):y5 prog 127 #[v] w λu d=>((if(Q5 p).1=0 then ∃a,u = .pointer (some a)/\At (i5 d) a (d9 p)else u = .pointer none)/\o6 w d):=by
 refine z6 [v] func127 rfl ?_;obtain⟨a,f,g,b,k⟩:=af7 (w:=w) (λ_=>False) hv (λ_ h=>h.elim);obtain⟨i,_⟩:=L8.pg_v hv k;have e:∀d,o6 f d->E2 (D0 f λ_=>False) (i5 d):=λd h=>p7 (B4 _ _) (b7 h);simp only[eS,simprocAttr,g,i f (e _ (p6.refl _))];refine B6 (ao0 v p f (hv.mono (b7 b)) hw) (λj c=>?_);rcases ej1 (decide ((Q5 p).1=0))with hsc|hsc;rotate_left
 .simp only[eS,simprocAttr,ax2,hsc];exact o8 results127 ⟨by rw[if_neg (ej6 hsc)];trivial,b.trans c⟩
 simp only[eS,simprocAttr,ax2,hsc,i j (e _ c)];refine y4 (as2 v p j (hv.mono (b7 (b.trans c))) hw) ?_;rintro us w4 ⟨sh,rfl,hsh,hx4⟩;simp only[n8,simprocAttr];exact o8 results127 ⟨by rw[if_pos (ej3 hsc)];exact⟨sh,rfl,hsh⟩,b.trans (c.trans hx4)⟩
def bS9(v G:Value)(a l:List B3)(h:Hp)(w:World)(H:B0 h w 9 v a)(B:R h G l)(M:E2 h (i5 w))(U:a.length+l.length<=1000000):
  y5 prog 128 #[v,G] w λu A=>((∃C I,u = .tuple #[C,.bool I]/\I=(aB2 a l).isSome/\∀s,aB2 a l=some s->B0 h A 9 C s/\s.length=a.length+l.length)/\p6 (A5 v) w A):=by
 refine z6 [v,G] func128 rfl ?_;simp only[eS,simprocAttr,B.isS,B.vlen];refine A9 [8,9] (σ:=Nat×Value×List B3) (λs f A=>f 10 = .int .i64 s.1/\f 0=s.2.1/\s.1<=l.length/\B0 h A 9 s.2.1 s.2.2/\aB2 a l=aB2 s.2.2 (l.drop s.1)/\s.2.2.length=a.length+s.1/\p6 (A5 v) w A/\E7 w v s.2.1) (λs=>l.length-s.1) (0,v,a) ?_ ?_
 .simp only[B8,simprocAttr];exact⟨tt,tt,ek1 _,H,by rw[es1],rfl,p6.refl _,λb r=>.inl r⟩
 rintro⟨k,u,s⟩ f J ⟨K,L,_⟩ ⟨i,t,F,j,g,m,c,q⟩;simp only at i t F j g m q;have o:E2 h (i5 J):=G4 M c λb r=>H.free r;simp only[eS,simprocAttr,i,L];refine A3 (λp=>?_) ?_;rotate_left
 .rintro rfl;rw[et1,aB2]at g;simp only[n8,simprocAttr,t];refine U5 results128 ?_;simp only[B8,simprocAttr];refine⟨⟨u,true,rfl,by rw[g];rfl,λT d=>?_⟩,c⟩;rw[g]at d;obtain rfl:=el4 d;exact⟨j,m⟩
 have E:=B.inS p;have z:=ldS B o p;rw[eo1 p,aB2]at g;generalize l[k]=n at z g;simp only[n8,n9,A0,simprocAttr,i,t,K,E,z];refine F6 (S7 u s n J (j.rw_ o) om) ?_;rcases ej1 (s.contains n)with hq|hq
 .simp only[n8,simprocAttr,hq,t];refine U5 results128 ?_;simp only[B8,simprocAttr];refine⟨⟨u,false,rfl,by rw[g,if_pos hq];rfl,λT d=>?_⟩,c⟩;rw[g,if_pos hq]at d;cases d
 .obtain⟨N,C,V,O,P,Q,S⟩:=push (e:=22) aC9 rfl j (x:=t8 n) (y:=n) rfl om om o;rw[if_neg (by rw[hq];simp)]at g;simp only[eS,simprocAttr,hq,t,i,N,O];refine nx4 (k+1,C,s++[n]) ⟨P,g,by simp only[ej2,em3];omega,c.chain Q λb r D=>?_,λb r=>?_⟩
  .rcases q b D with h|h
   .exact h
   .omega
  .rcases S b r with h|h
   .exact q b h
   .exact .inr (ej7 c.size h)
def cU0(a:Addr)(e:Value)(s:Sh)(it:It)(i x y:Nat)(w:World)(C:At (i5 w) a s)(q:SV (i5 w) e it)(k:it.proc=(i:Int))(r:bM9 s i x y)(p:i<s.p.procs.length)(v:∀it∈s.l,V7 it.s<=1000000)(t:∀f∈s.p.procs,ad1 f<=1000000):
  y5 prog 129 #[.pointer (some a),e] w λu D=>(u = .bool (aB4 s it)/\o6 w D):=by
 refine z6 [.pointer (some a),e] func129 rfl ?_;obtain⟨b,B,d,c,o⟩:=cG8 q (n7 _);obtain⟨j,z,_⟩:=o.it;obtain⟨_,_,_,_,_,_,_,_,_,A,_⟩:=j.st;have m:=z B (n7 _);have n:=A B (n7 _);rw[k]at m;rcases ej1 (decide (it.s.kind=7))with h7|h7
 .simp only[eS,simprocAttr,d,m,n,h7];refine o8 results129 ?_;simp only[B8,simprocAttr];exact⟨by rw[aB4,if_pos (.inl (ej3 h7))],c⟩
 rcases ej1 (decide (it.s.kind=8))with h8|h8
 .simp only[eS,simprocAttr,d,m,n,h7,h8];refine o8 results129 ?_;simp only[B8,simprocAttr];exact⟨by rw[aB4,if_pos (.inr (ej3 h8))],c⟩
 have g:aB4 s it=if it.s.kind=10 then(s.at it.proc it.s.name).isSome else true:=by
  rw[aB4,if_neg];rintro(h|h)
  .exact ej6 h7 h
  .exact ej6 h8 h
 rcases ej1 (decide (it.s.kind=10))with h10|h10
 .simp only[eS,simprocAttr,d,m,n,h7,h8,h10];refine B6 (cr5 a s i x y it.s.name B (C.mono (b7 c)) r p v t) (λE l=>?_);rw[if_pos (ej3 h10),k]at g;cases hq:s.at i it.s.name
  .simp only[n8,simprocAttr,cp2];refine o8 results129 ?_;simp only[B8,simprocAttr];exact⟨by rw[g,hq];rfl,c.trans l⟩
  .simp only[n8,simprocAttr,cp2];refine o8 results129 ?_;simp only[B8,simprocAttr];exact⟨by rw[g,hq];rfl,c.trans l⟩
 .rw[if_neg (ej6 h10)]at g;simp only[eS,simprocAttr,d,n,h7,h8,h10];refine o8 results129 ?_;simp only[B8,simprocAttr];exact⟨by rw[g],c⟩
def de6:eqT prog 132=2:=kr
def bx3(p:Pg)(hw:C4 p<=1000000)(i:Nat)(b:i<p.procs.length):(∀it∈(d9 p).of i,it∈(d9 p).l)/\((d9 p).of i).length<=400000:=by
 obtain⟨x,a,_⟩:=ab9 p hw i b;have c:=az0 p;have d:=bZ6 p;refine⟨λit h=>?_,?_⟩
 .rw[a.of_]at h;exact er2 (ev1 h)
 .rw[a.of_,eo9,ek3];omega
def aT8(l:List It):Nat:=(l.map λit=>it.s.labels.length).sum
def cn1(l m:List It):aT8 (l++m)=aT8 l+aT8 m:=by simp[aT8]
def bT2(x:It)(m:List It):aT8 (x::m)=x.s.labels.length+aT8 m:=by simp[aT8]
mutual
def dx7:∀(t:St) (k:Nat) (c g f e:Int),aT8 (ac7 t k c g f e)<=V7 t
 | .mk id kind labels name proc x has args thn els,k,c,g,f,e=>by
  rw[U6,bT2,cn1,V7];have h:=ac0 labels;simp only[St.labels,St.thn,St.els];refine ej7 (Nat.add_le_add_left (Nat.add_le_add ((λd b a=>bi4 thn d c (k+1) b a) _ _ _) ((λd b a=>bi4 els d c (k+1) b a) _ _ _)) _) ?_;omega
def bi4:∀(l:List St) (k:Nat) (c d b a:Int),aT8 (E5 l k c d b a)<=K0 l
 | [],_,_,_,_,_=>by simp[E5,aT8]
 | t::l,k,c,d,b,a=>by
  rw[E5,cn1,K0];exact Nat.add_le_add (dx7 t _ _ _ _ _) (bi4 l _ _ _ _ _)
end
def dy2(p:Pg)(hw:C4 p<=1000000)(i:Nat)(a:i<p.procs.length):aT8 ((d9 p).of i)+p.procs[i].fin.length<=1000000:=by
 obtain⟨x,_,e⟩:=ab9 p hw i a;have c:=bi4 p.procs[i].body x i 0 (-1) 0;have b:=aC6 p hw _ (ek0 a);have d:=ac0 p.procs[i].fin;unfold ad1 at b;rw[e];omega
def cT9{l:List It}{m:Nat}(h:m<l.length):aT8 (l.drop m)=l[m].s.labels.length+aT8 (l.drop (m+1)):=by
 rw[eo1 h,bT2]
def bO0(v:Value)(p:Pg)(w:World)(hv:SV (i5 w) v p)(hw:C4 p<=1000000):y5 prog 80 #[v] w λu L=>(u=aa7 (aP4 p)/\o6 w L):=by
 refine z6 [v] func80 rfl ?_;obtain⟨a,w1,a3,aO,ha⟩:=af7 (w:=w) (λ_=>False) hv (λ_ h=>h.elim);obtain⟨vg,vp,hg,hp,ld,_⟩:=L8.pg hv ha;obtain⟨lw,_⟩:=L8.pg_v hv ha;obtain⟨rb,w2,a1,aP,a7,az⟩:=aH2 w1;have a5:w.heap.size<=rb:=ej7 aO.size az;have F:=aO.trans aP;have aB:∀L,o6 w2 L->E2 (D0 w1 λ_=>False) (i5 L):=λL h=>p7 (B4 _ _) (b7 (aP.trans h));have z:=λ(L:World) (h:o6 w2 L)=>ay5 a7 h a5 F;simp only[eS,simprocAttr,a3,a1,lw w2 (aB _ (p6.refl _))];refine y4 (cz9 v p w2 (hv.mono (b7 F)) hw) ?_;rintro us w3 ⟨I,hx3⟩;rcases ej1 (decide ((Q5 p).1=0))with hsc|hsc;rotate_left
 .rw[if_neg (ej6 hsc)]at I;subst I;obtain⟨w9,Z,s2,s3⟩:=z w3 hx3 (1,0);simp only[eS,simprocAttr,bg2 rfl de6,W4,Z];refine O5 results80 (by simp only[B8,simprocAttr]) s2 ?_;exact⟨by rw[aP4,if_pos (ej6 hsc)],s3⟩
 rw[if_pos (ej3 hsc)]at I;obtain⟨sh,rfl,aJ⟩:=I;have hF:aP4 p=(W6 (d9 p) 0 p.procs).getD (0,0):=by rw[aP4,if_neg (by simpa using hsc)]
 have l3:=ld w3 (aB _ hx3);have hS:=hp.isS;have hn:=hp.vlen;have aG:=N7 p;have a9:=ao1 p hw;have aN:=aC6 p hw;have bz:p.procs.length<=1000000:=by
  have:=am6 p.procs;unfold C4 at hw;omega
 simp only[eS,simprocAttr,bg2 rfl de6,l3,hS,hn];refine A9 [1,2,3,16,17] (σ:=Nat) (λk f L=>f 18 = .int .i64 k/\k<=p.procs.length/\W6 (d9 p) 0 p.procs=W6 (d9 p) k (p.procs.drop k)/\o6 w3 L) (λk=>p.procs.length-k) 0 ?_ ?_
 .simp only[B8,simprocAttr];exact⟨tt,ek1 _,by rw[es1],p6.refl _⟩
 rintro i f2 w6 ⟨e1,e2,e3,aV,aW,_⟩ ⟨ah,bv,j,X⟩;have H:=hx3.trans X;simp only[eS,simprocAttr,ah,aW];refine A3 (λr=>?_) ?_;rotate_left
 .rintro rfl;rw[et1]at j;obtain⟨w9,Z,s2,s3⟩:=z w6 H (0,0);simp only[n8,simprocAttr,e2,aV7,Z];refine O5 results80 (by simp only[B8,simprocAttr];exact e2) s2 ?_;exact⟨by rw[hF,j];rfl,s3⟩
 have V:=hp.inS r;obtain⟨sv,aL,al⟩:=H1 (P:=prog) (t:=68) hp (b7 (F.trans H)) (ej0 r) aD3 aD5 aw4 U0;rw[U0]at al;have M:p.procs.drop i=p.procs[i]::p.procs.drop (i+1):=eo1 r;obtain⟨x,an,_⟩:=ab9 p hw i r;have ba:=aN _ (ek0 r);obtain⟨aD,aA⟩:=bx3 p hw i r;have aH:=aN0 p hw i r;have ak:=dy2 p hw i r;generalize p.procs[i]=y at aL M ba an ak;rw[M,W6,aB3]at j;obtain⟨b,wz,w7,ax,aK,Y,a2⟩:=aY3 (aL.mono (b7 (F.trans H))) (n7 _);obtain⟨_,_,_,vf,_,_,_,a8,bc,_⟩:=a2.pr;simp only[n8,n9,A0,simprocAttr,ah,e3,aV,V,al,ax,aK];refine y4 (bl2 sh (d9 p) i x _ w7 (aJ.mono (b7 (X.trans Y))) an) ?_;rintro ul J ⟨O,B⟩;have D:=(H.trans Y).trans B;generalize bx:(d9 p).of i=l at O aD j aA aH ak;simp only[eS,simprocAttr,O.isS,O.vlen];refine A9 [1,2,3,5,16,17,18,25,26] (σ:=Nat×Value×List B3) (λs f L=>f 27 = .int .i64 s.1/\f 6=s.2.1/\s.1<=l.length/\B0 (i5 J) L 9 s.2.1 s.2.2/\aE7 (d9 p) [] l=aE7 (d9 p) s.2.2 (l.drop s.1)/\s.2.2.length+aT8 (l.drop s.1)=aT8 l/\o6 J L) (λs=>l.length-s.1) (0,.slice none 0 0,[]) ?_ ?_
 .simp only[B8,simprocAttr];exact⟨tt,tt,ek1 _,B0.nil _ _ _,by rw[es1],by rw[es1];simp,p6.refl _⟩
 rintro⟨m,u,g⟩ f3 av ⟨g1,g2,g3,g5,bq,br,aw,aY,aZ,_⟩ ⟨U,h6,a6,ho,K,am,q⟩;simp only at U h6 a6 ho K am;rw[e1]at g1;rw[e2]at g2;rw[e3]at g3;rw[ah]at aw;have bb:=D.trans q;simp only[eS,simprocAttr,U,aZ];refine A3 (λN=>?_) ?_;rotate_left
 .rintro rfl;rw[et1,aE7]at K;rw[K]at j;rw[et1]at am;have bk:g.length+y.fin.length<=1000000:=by simp[aT8]at am;unfold aT8 at ak;omega
  simp only[eS,simprocAttr,h6,g5,bc av (b7 (B.trans q))];refine y4 (bS9 u vf g y.fin (i5 J) av ho (A6.mono (b7 B) a8) (b7 q) om) ?_;rintro _ S ⟨⟨u2,ok,rfl,d,aI⟩,aC⟩;have e:o6 J S:=ho.ext2 q aC;have aq:=D.trans e;rcases ej1 ok with o|o
  .rw[o]at d;have ao:∃s',aB2 g y.fin=some s':=eo6.1 d.symm;obtain⟨s',W⟩:=ao;simp only[W]at j;simp only[eS,simprocAttr,o,aw];refine V1 (i+1) ⟨j,?_⟩;exact X.trans (Y.trans (B.trans e))
  .rw[o]at d;have C:aB2 g y.fin=none:=by
    cases h:aB2 g y.fin
    .rfl
    .rw[h]at d;cases d
   simp only[C]at j;obtain⟨w9,Z,s2,s3⟩:=z S aq (7,0);simp only[eS,simprocAttr,o,g2,W4,Z];refine O5 results80 (by simp only[B8,simprocAttr];exact g2) s2 ?_;exact⟨by rw[hF,j];rfl,s3⟩
 clear V al;have V:=O.inS N;obtain⟨be,A,ad⟩:=H1 (P:=prog) (t:=156) O (b7 q) (ej0 N) af2 af4 ac9 L4;rw[L4]at ad;have af:=aH _ (ek0 N);have a4:=cT9 N;rw[eo1 N,aE7]at K;generalize l[m]=it at A af K a4;obtain⟨c,bK,S,aj,ap,Q,ac⟩:=aY4 (w:=av) (A5 u) A (λb hb=>ho.lt hb);obtain⟨ldI,_⟩:=L8.it_v A ac;obtain⟨us,I,ay,_,_⟩:=L8.it A ac;obtain⟨bf,_,_,_,_,aM,_,_,_,_,_,ar,_⟩:=L8.st I ay;have ae:=ho.ext Q;have e:=q.trans Q;simp only[n8,n9,A0,simprocAttr,U,h6,aY,V,ad,aj,ap,ar S (B4 _ _)];refine y4 (bS9 u bf g it.s.labels (i5 J) S ae aM (b7 e) om) ?_;rintro _ T ⟨⟨u2,ok,rfl,d,aI⟩,E⟩;have n:o6 J T:=ae.ext2 e E;have R:=D.trans n;have k2:=ar T (F3 E);have k3:=ldI T (F3 E);rcases ej1 ok with o|o;rotate_left
 .rw[o]at d;have C:aB2 g it.s.labels=none:=by
   cases h:aB2 g it.s.labels
   .rfl
   .rw[h]at d;cases d
  simp only[C]at K;rw[K]at j;obtain⟨w9,Z,s2,s3⟩:=z T R (7,it.s.id);simp only[eS,simprocAttr,o,k2,g2,aH4,Z];refine O5 results80 (by simp only[B8,simprocAttr];exact g2) s2 ?_;exact⟨by rw[hF,j];rfl,s3⟩
 rw[o]at d;obtain⟨s',W⟩:∃s',aB2 g it.s.labels=some s':=eo6.1 d.symm;simp only[W]at K;obtain⟨aF,bj⟩:=aI s' W;simp only[eS,simprocAttr,o,g3,k3];refine B6 (cU0 sh be (d9 p) it i x _ T (aJ.mono (b7 (X.trans (Y.trans (B.trans n))))) (A.mono (b7 n)) af an (by rw[aG];exact r) a9 (by rw[aG];exact aN)) (λaQ G=>?_);have k4:=ar aQ (p7 (F3 E) (b7 G));rcases ej1 (aB4 (d9 p) it)with hle4|hle4
 .rw[if_pos hle4]at K;simp only[eS,simprocAttr,hle4,U];refine nx4 (m+1,u2,s') ⟨aF.ext G,K,so,n.trans G⟩
 .rw[if_neg (by rw[hle4];simp)]at K;rw[K]at j;obtain⟨w9,Z,s2,s3⟩:=z aQ (R.trans G) (7,it.s.id);simp only[eS,simprocAttr,hle4,k4,g2,aH4,Z];refine O5 results80 (by simp only[B8,simprocAttr];exact g2) s2 ?_;exact⟨by rw[hF,j];rfl,s3⟩
def ev7:=@List.nodup_cons
def I5{α:Type}[DecidableEq α]:∀{l m:List α},l.Nodup->(∀x∈l,x∈m)->l.length<=m.length
 | [],m,_,_=>dP
 | x::l,m,hn,hs=>by
  rw[ev7]at hn;have a:=hs x dP;have c:=I5 (l:=l) (m:=m.erase x) hn.2 λy b=>(List.mem_erase_of_ne (λe=>hn.1 (by rw[<-e];exact b))).2 (hs y (by simp[b]));rw[List.length_erase_of_mem a]at c;have:=List.length_pos_of_mem a;simp only[em1];omega
def bJ4{p:Pg}{a:List B3}{f:Pr}{l:List It}{e:Int×Int}(h:ag8 p a f l=some e):e.1=5:=by
 unfold ag8 at h;split at h
 .obtain rfl:=el4 h;rfl
 .split at h
  .obtain rfl:=el4 h;rfl
  .cases h
def aP8{p:Pg}{s:Sh}{a:List B3}:∀{l:List Pr} {i:Nat} {e:Int×Int},Q6 p s a i l=some e->e.1=5
 | [],i,e,h=>by cases h
 | f::l,i,e,h=>by
  rw[Q6]at h;split at h
  .next b=>obtain rfl:=el4 h;exact bJ4 b
  .exact aP8 h
def aP9{p:Pg}{s:Sh}{a:List B3}:∀{l:List Pr} {i:Nat},Q6 p s a i l=none->∀k (b:k<l.length),ag8 p a l[k] (s.of (i+k:Nat))=none
 | [],i,_,k,b=>by simp at b
 | f::l,i,h,k,b=>by
  rw[Q6]at h;split at h
  .cases h
  .next c=>
   cases k with
   | zero=>simpa using c
   | succ k=>
    have:=aP9 h k (by simpa using b);rw[show i+1+k=i+(k+1) by omega]at this;simpa using this
structure Known (p:Pg):Prop where
 may:O6 p=true
 globals:p.globals.Nodup
 names:(p.procs.map (·.name)).Nodup
 main:∃(i:Nat) (q:Pr),p.procs[i]?=some q/\q.name=J0/\q.params=[]
 proc:∀i (hi:i<p.procs.length),(bA0 p.procs[i]).Nodup/\(∀n∈bA0 p.procs[i],n∉p.globals)/\∀it∈(d9 p).of i,ak2 p p.procs[i] (p.procs.map (·.name)) it.s=true
def bG9{p:Pg}(h:(Q5 p).1=0):Known p:=by
 unfold Q5 at h;cases hmay:O6 p
 .rw[hmay]at h;simp at h
 rw[if_neg (by rw[hmay];simp)]at h;cases hb:(ai2 p.globals||ai2 (p.procs.map (·.name))||decide (ai5 p.procs J0<0)||decide (0<(p.procs.getD (ai5 p.procs J0).toNat cc5).params.length));rotate_left
 .simp only[hb,ep4]at h;simp at h
 simp only[hb]at h;simp only[Bool.or_eq_false_iff]at hb;obtain⟨⟨⟨o,r⟩,s⟩,j⟩:=hb;have c:0<=ai5 p.procs J0:=by simpa using s
 obtain⟨k,e,q,l,g⟩:=aT4 _ p.procs 0 c;have m:ai5 p.procs J0=(k:Int):=by unfold ai5;rw[e];simp
 rw[m,el5,List.getD,l]at j;have f:Q6 p (d9 p) (p.procs.map (·.name)) 0 p.procs=none:=by
  cases hs:Q6 p (d9 p) (p.procs.map (·.name)) 0 p.procs with
  | none=>rfl
  | some e=>
   have:=aP8 hs;simp only[hs]at h;simp at h;omega
 refine⟨hmay,by simpa[ai2]using o,by simpa[ai2]using r,⟨k,q,l,ej3 g,?_⟩,λi w=>?_⟩
 .have:q.params.length=0:=by simpa using j
  exact List.eq_nil_of_length_eq_zero this
 .have b:=aP9 f i w;rw[en0]at b;unfold ag8 at b;split at b
  .cases b
  .next t=>
   have a:=et8.2 t;simp only[Bool.or_eq_false_iff]at a;split at b
   .cases b
   .next u=>
    refine⟨by simpa[ai2]using a.1,λn x v=>?_,λit d=>?_⟩
    .have:=List.any_eq_false.1 a.2 n x;exact this (ek7.2 v)
    .have:=es7.1 u it d;simpa using this
def U8{p:Pg}{n:B3}(h:n∈p.procs.map (·.name)):∃(i:Nat) (l:i<p.procs.length),(d9 p).pr n=(i:Int)/\p.procs[i].name=n:=by
 obtain⟨q,g,rfl⟩:=el2.1 h;have a:p.procs.any (λf=>decide (f.name=q.name))=true:=ew3.2 ⟨q,g,dP⟩;rw[<-aI3 (λf:Pr=>decide (f.name=q.name)) p.procs 0]at a;obtain⟨k,e,x,j,b⟩:=aT4 _ p.procs 0 (ej3 a);obtain⟨d,c⟩:=ej5.1 j;refine⟨k,d,?_,by rw[c];exact ej3 b⟩;unfold Sh.pr ai5;rw[N7,e,en0]
def aS0{p:Pg}(K:Known p){m x:B3}(hm:m∈p.procs.map (·.name))(b:x∈an0 (d9 p) m):x∈p.procs.map (·.name):=by
 obtain⟨i,c,e,_⟩:=U8 hm;unfold an0 at b;rw[K5,e]at b;obtain⟨it,a,rfl⟩:=el2.1 b;obtain⟨a,d⟩:=el6.1 a;have:=(K.proc i c).2.2 it a;unfold ak2 at this;rw[d]at this;simp only[Bool.not_true,ew4,el3]at this;exact ek7.1 this.2.2
def aA0:∀(l a:List B3) (x:B3),x∈W2 a l↔x∈a\/x∈l
 | [],a,x=>by simp[W2]
 | n::l,a,x=>by
  rw[W2,aA0 l];split
  .next h=>
   have:=ek7.1 h;constructor
   .rintro(h|h)
    .exact .inl h
    .exact .inr (by simp[h])
   .rintro(h|h)
    .exact .inl h
    .rcases ek9.1 h with rfl|h
     .exact .inl this
     .exact .inr h
  .simp[or_assoc]
def aK7:∀(l c:List B3),c.Nodup->(W2 c l).Nodup
 | [],c,h=>h
 | n::l,c,h=>by
  rw[W2];refine aK7 l _ ?_;split
  .exact h
  .next f=>
   rw[eo0];refine⟨h,dP,λa e b d=>?_⟩;simp only[ek5]at d;subst d;rintro rfl;exact f (ek7.2 e)
def G5{α:Type}(g:α->α):Nat->α->α
 | 0,x=>x
 | k+1,x=>G5 g k (g x)
theorem aa9{α:Type}(g:α->α):∀(k:Nat) (x:α),G5 g (k+1) x=g (G5 g k x)
 | 0,x=>rfl
 | k+1,x=>by rw[G5,aa9 g k];rfl
def bS7{α:Type}{g:α->α}{x:α}(h:g x=x):∀k,G5 g k x=x
 | 0=>rfl
 | k+1=>by rw[G5,h,bS7 h k]
def aE5{α:Type}[DecidableEq α]{g:α->α}:∀(k m:Nat) (x:α),k<=m->g (G5 g k x)=G5 g k x->ck4 g m x=G5 g k x
 | 0,0,x,_,_=>rfl
 | 0,m+1,x,_,h=>by
  have a:g x=x:=h;rw[ck4,if_pos a];rfl
 | k+1,0,x,hk,_=>om
 | k+1,m+1,x,hk,h=>by
  rw[ck4];split
  .next b=>rw[bS7 b]
  .exact aE5 k m (g x) om h
abbrev Rws:=List (List B3)
def leR(X Y:Rws):Prop:=∀(i:Nat),∀x∈X.getD i [],x∈Y.getD i []
structure P7 (n B:Nat) (X:Rws):Prop where
 len:X.length=n
 rise:∀r∈X,r.Pairwise λa b=>ltS a b=true
 few:∀r∈X,r.length<=B
structure aO7 (S:Rws->Rws) (n B:Nat):Prop where
 mono:∀X Y,leR X Y->leR (S X) (S Y)
 ok:∀X,P7 n B (S X)
def aJ9(X:Rws):Nat:=(X.map (·.length)).sum
def aC2{l:List B3}(h:l.Pairwise λa b=>ltS a b=true):l.Nodup:=by
 refine List.Pairwise.imp (fun{a b} hab he=>?_) h;subst he;rw[N8]at hab;cases hab
def dl7{l m:List B3}(f:l.Pairwise λa b=>ltS a b=true)(g:m.Pairwise λa b=>ltS a b=true)(h:∀x∈l,x∈m):l.length<=m.length/\(l.length=m.length->l=m):=by
 have c:=aC2 f;refine⟨I5 c h,λj=>cq9 f g λx=>⟨h x,λi=>?_⟩⟩;refine er1 λd=>?_;have:=I5 (l:=x::l) (m:=m) (ev7.2 ⟨d,c⟩) λy e=>by
  rcases ek9.1 e with rfl|e
  .exact i
  .exact h y e
 simp at this;omega
def cM0:∀(X Y:Rws),X.length=Y.length->(∀r∈X,r.Pairwise λa b=>ltS a b=true)->(∀r∈Y,r.Pairwise λa b=>ltS a b=true)->leR X Y->aJ9 X<=aJ9 Y/\(aJ9 X=aJ9 Y->X=Y)
 | [],[],_,_,_,_=>by simp[aJ9]
 | x::X,y::Y,hl,h1,h2,h=>by
  have f:=cM0 X Y (by simpa using hl) (λr c=>h1 r (by simp[c])) (λr c=>h2 r (by simp[c])) λi z d=>by
   have:=h (i+1) z;simp only[List.getD_cons_succ]at this;exact this d
  have e:=dl7 (h1 x dP) (h2 y dP) λz d=>by
   have:=h 0 z;simp only[List.getD_cons_zero]at this;exact this d
  simp only[aJ9,en8,eu6]at *;refine⟨om,λg=>?_⟩;rw[e.2 om,f.2 om]
def ct2{n B:Nat}:∀(X:Rws),(∀r∈X,r.length<=B)->aJ9 X<=X.length*B
 | [],_=>by simp[aJ9]
 | x::X,h=>by
  have b:=ct2 (n:=n) X λr a=>h r (by simp[a]);have:=h x dP;simp only[aJ9,en8,eu6,em1,ev0]at *;omega
def bJ0(n B:Nat):P7 n B (List.replicate n []):=⟨dP,λr a=>by
 rw[eq7 a];exact List.Pairwise.nil,λr a=>by rw[eq7 a];simp⟩
section
variable {S:Rws->Rws} {n B:Nat}
def aO7.iter_ok(h:aO7 S n B):∀k,P7 n B (G5 S k (List.replicate n []))
 | 0=>bJ0 n B
 | k+1=>by rw[aa9];exact h.ok _
def aO7.grow(h:aO7 S n B):∀k,leR (G5 S k (List.replicate n [])) (S (G5 S k (List.replicate n [])))
 | 0=>λi x a=>by
  rw[G5,List.getD]at a;cases hi:(List.replicate n ([]:List B3))[i]? with
  | none=>rw[hi]at a;simp at a
  | some r=>
   rw[hi]at a;have:=eq7 (el0 hi);subst this;simp at a
 | k+1=>by
  rw[aa9];exact h.mono _ _ (h.grow k)
def aO7.more(h:aO7 S n B)(k:Nat)(c:S (G5 S k (List.replicate n []))≠G5 S k (List.replicate n [])):aJ9 (G5 S k (List.replicate n []))<aJ9 (G5 S (k+1) (List.replicate n [])):=by
 rw[aa9];have d:=h.iter_ok k;have e:=h.ok (G5 S k (List.replicate n []));obtain⟨a,b⟩:=cM0 _ _ (by rw[d.len,e.len]) d.rise e.rise (h.grow k);rcases en2 (aJ9 (G5 S k (List.replicate n []))) (aJ9 (S (G5 S k (List.replicate n []))))with hlt|hge
 .exact hlt
 .exact absurd (b om).symm c
def aO7.bound(h:aO7 S n B)(k:Nat):aJ9 (G5 S k (List.replicate n []))<=n*B:=by
 have a:=h.iter_ok k;have:=ct2 (n:=n) _ a.few;rw[a.len]at this;exact this
end
def ev8:=@List.getElem_range
def em2:=@List.mem_flatMap
def aU1:∀(n:Nat) (l:List Int),l.length<=n->l.eraseDups.Nodup
 | _,[],_=>dP
 | 0,x::l,h=>by simp at h
 | n+1,x::l,h=>by
  rw[List.eraseDups_cons,ev7];refine⟨λhm=>?_,aU1 n _ (ej7 (el8 _ _) (by simpa using h))⟩;rw[List.mem_eraseDups,el6]at hm;simp at hm
def aP6(nx:List (List Int))(l:List Int):List Int:=((l.flatMap (E3 nx)).filter λb=>!l.contains b).eraseDups
def at5{nx:List (List Int)}{l:List Int}{b:Int}:b∈aP6 nx l↔(∃a∈l,b∈E3 nx a)/\b∉l:=by
 unfold aP6;rw[List.mem_eraseDups,el6,em2];simp
def aO2{nx:List (List Int)}{a:Int}:∀(m:Nat) (l:List Int),(∀b∈l,W1 nx a b)->∀b∈Q8 nx m l,W1 nx a b
 | 0,l,h,b,hb=>h b hb
 | m+1,l,h,b,hb=>by
  rw[Q8]at hb;refine aO2 m _ (λc e=>?_) b hb;rcases ej9.1 e with e|e
  .exact h c e
  .obtain⟨⟨d,f,e⟩,_⟩:=at5.1 e;exact .step (h d f) e
def aX9{nx:List (List Int)}:∀(m:Nat) (l:List Int),∀b∈l,b∈Q8 nx m l
 | 0,l,b,hb=>hb
 | m+1,l,b,hb=>by
  rw[Q8];exact aX9 m _ b (em4 _ hb)
def bb1{n:Nat}{nx:List (List Int)}(o:G2 n nx):∀(m:Nat) (l:List Int),l.Nodup->(∀b∈l,I9 n b=true)->n<=l.length+m->∀a∈Q8 nx m l,∀b∈E3 nx a,b∈Q8 nx m l
 | 0,l,hn,hk,hl,a,ha,b,hb=>by
  rw[Q8]at ha ⊢;refine er1 λq=>?_;have u:(b::l).Nodup:=ev7.2 ⟨q,hn⟩;have v:=I5 (m:=(List.range n).map λ(i:Nat)=>(i:Int)) u λc f=>by
   have p:I9 n c=true:=by
    rcases ek9.1 f with rfl|f
    .exact(o.row _).2 _ hb
    .exact hk c f
   have:=B5.1 p;exact el2.2 ⟨c.toNat,en3.2 om,om⟩
  simp only[em1,ek2,en9]at v;omega
 | m+1,l,hn,hk,hl,a,ha,b,hb=>by
  rw[Q8]at ha ⊢;by_cases he:aP6 nx l=[]
  .have e:l++((l.flatMap (E3 nx)).filter λb=>!l.contains b).eraseDups=l:=by
    show l++aP6 nx l=l;rw[he,em5]
   rw[e]at ha ⊢;have g:∀c∈l,∀d∈E3 nx c,d∈l:=λc f d j=>er1 λr=>by
    have:d∈aP6 nx l:=at5.2 ⟨⟨c,f,j⟩,r⟩;rw[he]at this;simp at this
   have s:∀(k:Nat),Q8 nx k l=l:=by
    intro k
    induction k with
    | zero=>rfl
    | succ k w=>rw[Q8,e,w]
   rw[s]at ha ⊢;exact g a ha b hb
  .have t:0<(aP6 nx l).length:=List.length_pos_iff.2 he;refine bb1 o m (l++aP6 nx l) ?_ (λc f=>?_) (by rw[ej2];omega) a ha b hb
   .rw[eo0];refine⟨hn,aU1 _ _ (ek6 _),λc f d j e=>?_⟩;subst e;exact(at5.1 j).2 f
   .rcases ej9.1 f with h|h
    .exact hk c h
    .obtain⟨⟨d,_,f⟩,_⟩:=at5.1 h;exact(o.row _).2 _ f
def aJ3{nx:List (List Int)}(f:G2 nx.length nx){a b:Int}(e:I9 nx.length a=true):ab2 nx a b=true↔W1 nx a b:=by
 unfold ab2;rw[e,eq4,ek7];constructor
 .exact λh=>aO2 nx.length [a] (λc d=>by simp at d;subst d;exact .refl) b h
 .intro h
  induction h with
  | refl=>exact aX9 _ _ _ dP
  | step _ d g=>exact bb1 f nx.length [a] dP (λc d=>by simp at d;subst d;exact e) dP _ g _ d
def dz3{nx:List (List Int)}{a b:Int}(f:I9 nx.length a=true):Rch nx [a] b↔W1 nx a b:=by
 constructor
 .intro h
  induction h with
  | base e g=>simp at e;subst e;exact .refl
  | step _ c d=>exact .step d c
 .intro h
  induction h with
  | refl=>exact .base dP f
  | step _ c d=>exact .step d c
def dx9{nx:List (List Int)}(c:G2 nx.length nx)(a:I9 nx.length 0=true){r:List Int}(d:dC1 r (Rch nx [0])):bT5 nx=(List.range nx.length).map λ(b:Nat)=>r.contains (b:Int):=by
 unfold bT5;refine List.map_congr_left λb _=>?_;rw[eu4,aJ3 c a,<-dz3 a,<-d.mem,ek7]
def dz1{nx:List (List Int)}(d:G2 nx.length nx){q:List Int}(n:q.length=nx.length)(r:∀b,I9 nx.length b=true->aR2 nx b (ai q b)):q=an8 nx:=by
 apply eq2
 .simp[an8,n]
 intro k l s;have f:I9 nx.length (k:Int)=true:=B5.2 ⟨om,om⟩;have c:=r k f;have g:ai q (k:Int)=q[k]:=by
  unfold ai;rw[el5,List.getD,ej0 l];rfl
 rw[g]at c;refine c.uniq ?_;obtain⟨o,p⟩:=B5.1 (cF3 d c.1.1 f);have e:q[k]=((q[k].toNat:Nat):Int):=om
 have i:(an8 nx)[k]=((((List.range nx.length).find? λb=>ab2 nx (k:Nat) (b:Nat)&&ab2 nx (b:Nat) (k:Nat)).getD 0:Nat):Int):=by
  simp only[an8,er0,ev8]
 rw[i];have a:(List.range nx.length).find? (λb=>ab2 nx (k:Nat) (b:Nat)&&ab2 nx (b:Nat) (k:Nat))=some q[k].toNat:=by
  rw[et2];refine⟨?_,q[k].toNat,by simp;omega,dP,λj t=>?_⟩
  .rw[el3,aJ3 d f,aJ3 d (B5.2 ⟨om,om⟩),<-e];exact c.1
  .have m:j<nx.length:=om
   have h:I9 nx.length (j:Int)=true:=B5.2 ⟨om,om⟩;cases hz:(ab2 nx (k:Nat) ((List.range nx.length)[j]'(by simp;omega):Nat)&&ab2 nx ((List.range nx.length)[j]'(by simp;omega):Nat) (k:Nat))
   .rfl
   .exfalso
    simp only[ev8]at hz;rw[el3,aJ3 d f,aJ3 d h]at hz;have:=c.2 j hz;omega
 rw[a];simp only[eo5];rw[<-e];exact c
def zVC:=zJ (zJ (zJ (zJ (zJ @dT2 @dS9) (zJ @dQ9 (zJ @Option.map_some.{0,0} @Option.map_none.{0,0}))) (zJ (zJ @Int.toNat_zero (zJ @Option.isNone_none.{0} @Option.isNone_some.{0})) (zJ @M8 (zJ @ca6.eq_1 @ca6.eq_2)))) (zJ (zJ (zJ @dv2.eq_1 (zJ @dj0.eq_1 @di7.eq_1)) (zJ @TY (zJ @Option.isSome_some.{0} @eq4))) (zJ (zJ @Bool.and_true (zJ @es6 @el5)) (zJ @ee1 (zJ @Int.cast_ofNat_Int @decide_true))))) (zJ (zJ (zJ (zJ @add_lit (zJ @en0 @Nat.zero_mul)) (zJ @Nat.one_mul (zJ @Bool.not_true @Bool.not_false))) (zJ (zJ @ee2 (zJ @dS0 @ea1)) (zJ @ea0 (zJ @dZ9 @dZ8)))) (zJ (zJ (zJ @dZ7 (zJ @ea4 @dZ5)) (zJ @ea5 (zJ @dP8 @dP7))) (zJ (zJ @dZ6 (zJ @ea3 @cG6)) (zJ @du5 (zJ @ea2 @eg8)))))
def ldB{h:Hp}{v:Value}{l:List Bool}{w:World}(hv:R h v l)(hw:E2 h (i5 w)){k:Nat}(a:k<l.length):(Instr.loadAt 4 (.pointer (some (G8 v k)))).run prog w = .ok (.bool l[k]) w:=
 O4 (P:=prog) (t:=4) hv hw (ej0 a) ai9
def aA3(v:Value)(l:List B3)(w:World)(hv:R (i5 w) v l)(D:l.length<=1000000000):
  y5 prog 201 #[v] w λu s=>(B0 (i5 w) s 9 u l/\o6 w s):=by
 refine z6 [v] func201 rfl ?_;have C:=hv.isS;have r:D1 prog .eql 22 v (.slice none 0 0)=some (.bool (co8 v)):=by
  obtain⟨a,n,c,b,_⟩:=hv;simp at b;subst b;simp[D1,Go.Proofs.YtpebpfiglfmegaaGreat.isS,dX3]
 obtain⟨F,H,i,f,g,y⟩:=dJ2 (P:=prog) (w:=w) (h:=i5 w) (α:=B3) aC9 (n7 _);obtain⟨G,I,t,p,o,A⟩:=X9 (P:=prog) (e:=22) aC9 rfl f hv (by simp;omega) (by simp;omega) (b7 g);rcases ej1 (co8 v)with hc|hc
 .simp only[eS,simprocAttr,r,hc];refine o8 results201 ?_;simp only[B8,simprocAttr];obtain⟨a,n,c,b,E,z,q,k,j⟩:=hv;simp at b;subst b;cases a with
  | some a=>simp[co8]at hc
  | none=>
   have d:q=[]:=by
    cases q with
    | nil=>rfl
    | cons x _=>obtain⟨B,e,_⟩:=j 0 x rfl;cases e
   subst d;have:=O2 k;have m:l=[]:=by
    cases l with
    | nil=>rfl
    | cons _ _=>simp[A6.sz]at this
   subst m;exact⟨B0.nil _ _ _,p6.refl _⟩
 .simp only[eS,simprocAttr,r,hc,i,t];refine o8 results201 ?_;simp only[B8,simprocAttr];exact⟨by simpa using p,f.ext2 g o⟩
def bH5{α:Type}:∀{l m:List α},l.length=m.length->(∀j (a:j<l.length) (b:j<m.length),l[j]=m[j])->l=m:=fun{l m} a b=>eq2 a λj c d=>b j c d
def bF1(C D:Value)(a b:List B3)(w:World)(B:R (i5 w) C a)(hb:R (i5 w) D b)(F:a.length<=1000000000)(H:b.length<=1000000000):
  y5 prog 136 #[C,D] w λu c=>(u = .bool (decide (a=b))/\o6 w c):=by
 refine z6 [C,D] func136 rfl ?_;have p:=B.isS;have x:=B.vlen;have q:=hb.isS;have y:=hb.vlen;have r:decide ((a.length:Int)=(b.length:Int))=decide (a.length=b.length):=by rw[eo4];omega
 rcases ej1 (decide (a.length=b.length))with hlen|hlen;rotate_left
 .simp only[eS,simprocAttr,p,x,q,y,r,hlen];refine o8 results136 ?_;simp only[B8,simprocAttr];have:a≠b:=λe=>ej6 hlen (el1 List.length e);exact⟨by simp[this],p6.refl _⟩
 have n:a.length=b.length:=ej3 hlen;simp only[eS,simprocAttr,p,x,q,y,r,hlen];refine A9 [0,1,11,12] (σ:=Nat) (λk f c=>f 13 = .int .i64 k/\k<=a.length/\(∀j (I:j<a.length) (t:j<b.length),j<k->a[j]=b[j])/\o6 w c) (λk=>a.length-k) 0 ?_ ?_
 .exact⟨rfl,ek1 _,λj _ _ h=>om,p6.refl _⟩
 rintro k f o ⟨e0,G,M,E,_⟩ ⟨m,P,z,g⟩;simp only[eS,simprocAttr,m,E];refine A3 (λv=>?_) ?_;rotate_left
 .rintro rfl;simp only[n8,simprocAttr];refine o8 results136 ?_;simp only[B8,simprocAttr];have:a=b:=bH5 n λj F H=>z j F H F;exact⟨by simp[this],g⟩
 have l:k<b.length:=om
 have s:=B.inS v;have i:=hb.inS l;have A:∀c,o6 o.drew c->E2 (i5 w) (i5 c):=λc h=>b7 (g.trans ((o6.drew o).trans h));have J:∀K f d w0,F8 prog (λc=>o6 o.drew c) (Instr.loadAt 9 (.pointer (some (G8 C k)))) K f d w0=K (C5 f d (t8 a[k])) w0:=λK f d w0=>B7 (w0:=o.drew) (p6.refl _) λc h=>ldS B (A c h) v;have L:∀K f d w0,F8 prog (λc=>o6 o.drew c) (Instr.loadAt 9 (.pointer (some (G8 D k)))) K f d w0=K (C5 f d (t8 b[k])) w0:=λK f d w0=>B7 (w0:=o.drew) (p6.refl _) λc h=>ldS hb (A c h) l;have N:(a[k]==b[k])=decide (a[k]=b[k]):=rfl;simp only[n8,simprocAttr,m];refine C0 (λc=>o6 o.drew c) 9 (A7 [0,1,2,3,4,5,6,7,8]) ?_;rcases ej1 (decide (a[k]=b[k]))with hq|hq
 .simp only[D7,A7,n8,n9,A0,simprocAttr,e0,G,s,i,J,L,hq,m];refine V1 (k+1) ⟨λj I t O=>?_,g.trans (o6.drew _)⟩;rcases en2 j k with h|h
  .exact z j I t h
  .obtain rfl:j=k:=om
   exact ej3 hq
 .simp only[D7,A7,n8,n9,A0,simprocAttr,e0,G,s,i,J,L,hq];refine o8 results136 ?_;simp only[B8,simprocAttr];have:a≠b:=λe=>ej6 hq (by subst e;rfl);exact⟨by simp[this],g.trans (o6.drew _)⟩
def cy0(D E:Value)(a b:List Bool)(w:World)(C:R (i5 w) D a)(hb:R (i5 w) E b)(G:a.length<=1000000000)(I:b.length<=1000000000):
  y5 prog 272 #[D,E] w λu c=>(u = .bool (decide (a=b))/\o6 w c):=by
 refine z6 [D,E] func272 rfl ?_;have p:=C.isS;have y:=C.vlen;have q:=hb.isS;have z:=hb.vlen;have s:decide ((a.length:Int)=(b.length:Int))=decide (a.length=b.length):=by rw[eo4];omega
 rcases ej1 (decide (a.length=b.length))with hlen|hlen;rotate_left
 .simp only[eS,simprocAttr,p,y,q,z,s,hlen];refine o8 results272 ?_;simp only[B8,simprocAttr];have:a≠b:=λe=>ej6 hlen (el1 List.length e);exact⟨by simp[this],p6.refl _⟩
 have n:a.length=b.length:=ej3 hlen;simp only[eS,simprocAttr,p,y,q,z,s,hlen];refine A9 [0,1,11,12] (σ:=Nat) (λk f c=>f 13 = .int .i64 k/\k<=a.length/\(∀j (J:j<a.length) (v:j<b.length),j<k->a[j]=b[j])/\o6 w c) (λk=>a.length-k) 0 ?_ ?_
 .exact⟨rfl,ek1 _,λj _ _ h=>om,p6.refl _⟩
 rintro k f o ⟨e0,H,N,F,_⟩ ⟨m,P,A,g⟩;simp only[eS,simprocAttr,m,F];refine A3 (λx=>?_) ?_;rotate_left
 .rintro rfl;simp only[n8,simprocAttr];refine o8 results272 ?_;simp only[B8,simprocAttr];have:a=b:=bH5 n λj G I=>A j G I G;exact⟨by simp[this],g⟩
 have l:k<b.length:=om
 have t:=C.inS x;have i:=hb.inS l;have B:∀c,o6 o.drew c->E2 (i5 w) (i5 c):=λc h=>b7 (g.trans ((o6.drew o).trans h));have L:∀K f d w0,F8 prog (λc=>o6 o.drew c) (Instr.loadAt 4 (.pointer (some (G8 D k)))) K f d w0=K (C5 f d (.bool a[k])) w0:=λK f d w0=>B7 (w0:=o.drew) (p6.refl _) λc h=>ldB C (B c h) x;have M:∀K f d w0,F8 prog (λc=>o6 o.drew c) (Instr.loadAt 4 (.pointer (some (G8 E k)))) K f d w0=K (C5 f d (.bool b[k])) w0:=λK f d w0=>B7 (w0:=o.drew) (p6.refl _) λc h=>ldB hb (B c h) l;have r:(a[k]==b[k])=decide (a[k]=b[k]):=rfl;simp only[n8,simprocAttr,m];refine C0 (λc=>o6 o.drew c) 9 (A7 [0,1,2,3,4,5,6,7,8]) ?_;rcases ej1 (decide (a[k]=b[k]))with hq|hq
 .simp only[D7,A7,n8,n9,A0,simprocAttr,e0,H,t,i,L,M,bA6,r,hq,m];refine V1 (k+1) ⟨λj J v O=>?_,g.trans (o6.drew _)⟩;rcases en2 j k with h|h
  .exact A j J v h
  .obtain rfl:j=k:=om
   exact ej3 hq
 .simp only[D7,A7,n8,n9,A0,simprocAttr,e0,H,t,i,L,M,bA6,r,hq];refine o8 results272 ?_;simp only[B8,simprocAttr];have:a≠b:=λe=>ej6 hq (by subst e;rfl);exact⟨by simp[this],g.trans (o6.drew _)⟩
def bI1(s:B3)(w:World):y5 prog 245 #[t8 s] w λu a=>(u = .bool false/\a=w):=by
 refine z6 [t8 s] func245 rfl ?_;have b:decide (s=s)=true:=dP
 simp only[eS,simprocAttr];exact o8 results245 ⟨rfl,rfl⟩
def cV2(s:B3)(w:World):y5 prog 300 #[t8 s] w λu a=>(u = .bool false/\a=w):=by
 refine z6 [t8 s] func300 rfl ?_;have b:decide (s=s)=true:=dP
 simp only[eS,simprocAttr];exact o8 results300 ⟨rfl,rfl⟩
def cU2(a b:B3)(w:World):y5 prog 234 #[t8 a,t8 b] w λu c=>(u = .bool (ltS a b)/\c=w):=by
 refine z6 [t8 a,t8 b] func234 rfl ?_;simp only[eS,simprocAttr];refine F6 (bI1 a w) ?_;simp only[eS,simprocAttr];exact o8 results234 ⟨rfl,rfl⟩
def dv6{n:Nat}(h:n<4000000000000000000):bv1 prog 3 164 (.int .i64 n)=some (.int .u64 n):=by
 have a:dx4 prog 164=some .u64:=kr
 have b:(prog.underlying 3).isSome=true:=kr
 simp only[bv1,a,b,ep4]
 congr 2
 have:(n:Int) % 18446744073709551616=n:=om
 simp[IntKind.wrap,IntKind.bits,IntKind.signed];omega
def dv7{n:Nat}(h:n<4000000000000000000):bv1 prog 164 3 (.int .u64 n)=some (.int .i64 n):=by
 have a:dx4 prog 3=some .i64:=kr
 have b:(prog.underlying 164).isSome=true:=kr
 simp only[bv1,a,b,ep4]
 congr 2
 exact M7 _ om
def dU8{P:Program}{t:TypeId}{n:Nat}:D1 P .shr t (.int .u64 n) (.int .u64 1)=some (.int .u64 (n / 2:Nat)):=by
 simp only[D1];rw[if_neg dQ]
 congr 2
 have:min (Int.toNat 1) IntKind.u64.bits=1:=dQ
 rw[this,Int.fdiv_eq_ediv_of_nonneg _ dQ]
 norm_cast
def cr2(v:Value)(l:List B3)(x:B3)(w:World)(hv:R (i5 w) v l)(Q:l.length<=1000000000)(P:l.Pairwise (λa b=>ltS a b=true)):
  y5 prog 276 #[v,t8 x] w λu K=>(∃i:Int,u = .tuple #[.int .i64 i,.bool (l.contains x)]/\K=w):=by
 refine z6 [v,t8 x] func276 rfl ?_;have z:=ep5.1 P;simp only[eS,simprocAttr,hv.isS,hv.vlen];refine A9 [0,1,6] (σ:=Nat×Nat) (λs f K=>f 7 = .int .i64 s.1/\f 8 = .int .i64 s.2/\s.1<=s.2/\s.2<=l.length/\(∀j (M:j<l.length),j<s.1->ltS l[j] x=true)/\(∀j (M:j<l.length),s.2<=j->ltS l[j] x=false)/\K=w) (λs=>s.2-s.1) (0,l.length) ?_ ?_
 .exact⟨rfl,rfl,ek1 _,ek6 _,λj _ h=>om,λj M h=>om,rfl⟩
 rintro⟨i,j⟩ f N ⟨e0,E,F,_⟩ ⟨r,C,G,H,p,t,rfl⟩;simp only at r C G H p t;simp only[eS,simprocAttr,r,C];refine A3 (λc=>?_) ?_
 .have J:IntKind.i64.wrap ((i:Int)+(j:Int))=((i+j:Nat):Int):=by rw[M7 _ om];omega
  have hm:(i+j) / 2<l.length:=om
  have g:=hv.inS hm;have o:=ldS hv (n7 _) hm;have D:=dv6 (n:=i+j) om;have A:=dv7 (n:=(i+j) / 2) om;generalize O:(i+j) / 2=m at hm g o A;have I:D1 prog .shr 164 (.int .u64 ((i+j:Nat):Int)) (.int .u64 1)=some (.int .u64 (m:Nat)):=by rw[dU8,O]
  simp only[n8,zVC,A0,simprocAttr,r,C,J,D,I,A,e0,E,g,o];refine F6 (cU2 l[m] x N) ?_;rcases ej1 (ltS l[m] x)with hq|hq
  .simp only[eS,simprocAttr,hq,C];refine nx5 (m+1,j) ⟨λk q y=>?_,t,tt⟩;simp only at y;rcases en2 k m with h|h
   .exact ay7 (z k m q hm h) hq
   .obtain rfl:k=m:=om
    exact hq
  .simp only[n8,simprocAttr,hq,r];refine nx5 (i,m) ⟨p,λk q y=>?_,tt⟩;simp only at y;rcases en2 m k with h|h
   .cases hz:ltS l[k] x
    .rfl
    .have:=ay7 (z m k hm q h) hz;rw[hq]at this;cases this
   .obtain rfl:k=m:=om
    exact hq
 .rintro rfl;rcases ej1 (decide ((i:Int)<(l.length:Int)))with c|c
  .have B:i<l.length:=by simpa using c
   have g:=hv.inS B;have o:=ldS hv (n7 _) B;rcases ej1 (decide (l[i]=x))with hq|hq
   .have d:l.contains x=true:=ek7.2 (by rw[<-ej3 hq];exact ek0 B);simp only[n8,n9,A0,simprocAttr,r,e0,E,F,c,g,o,hq];refine U5 results276 ?_;simp only[B8,simprocAttr];exact⟨i,by rw[d],tt⟩
   .have d:l.contains x=false:=by
     cases hz:l.contains x
     .rfl
     .obtain⟨k,q,e⟩:=ep2.1 (ek7.1 hz);rcases Nat.lt_trichotomy k i with h|h|h
      .have:=p k q h;rw[e,N8]at this;cases this
      .subst h;exact absurd e (ej6 hq)
      .have L:=z i k B q h;rw[e,t i B (ek6 _)]at L;cases L
    simp only[n8,n9,A0,simprocAttr,r,e0,E,F,c,g,o,hq];refine F6 (cV2 l[i] N) ?_;simp only[n8,simprocAttr];refine U5 results276 ?_;simp only[B8,simprocAttr];exact⟨i,by rw[d],tt⟩
  .have d:l.contains x=false:=by
    cases hz:l.contains x
    .rfl
    .obtain⟨k,q,e⟩:=ep2.1 (ek7.1 hz);have:=p k q (by simp at c;omega);rw[e,N8]at this;cases this
   simp only[eS,simprocAttr,r,F,c];refine U5 results276 ?_;simp only[B8,simprocAttr];exact⟨i,by rw[d],tt⟩
def al7(v:Value)(l:List B3)(x:B3)(w:World)(hv:R (i5 w) v l)(c:l.length<=1000000000)(d:l.Pairwise (λa b=>ltS a b=true)):
  y5 prog 214 #[v,t8 x] w λu e=>(u = .bool (l.contains x)/\e=w):=by
 refine z6 [v,t8 x] func214 rfl ?_;simp only[eS,simprocAttr];refine y4 (cr2 v l x w hv c d) ?_;rintro u f ⟨i,rfl,rfl⟩;simp only[n8,simprocAttr];exact o8 results214 ⟨rfl,rfl⟩
def ed8:ar7 prog 252=true:=kr
def B0.flatR{α:Type}[O8 α]{h k:Hp}{w:World}{T:TypeId}{v:Value}{xs:List α}(a:B0 h w T v xs)(hb:∀b,A5 v b->k b=w.heap[b]?):R k v xs:=
 (a.down (h:=λ_=>none) (λb o e=>nomatch e)).ro (λb o e=>nomatch e) hb
def aq8{h:Hp}{w:World}{v:Value}{l:List B3}(f:B0 h w 9 v l)(d:l.length<=1000000000):
  y5 prog 106 #[v] w λu a=>(B0 h a 9 v (Y5 l)/\p6 (A5 v) w a):=(cX4 f d).mono λe a ⟨b,c⟩=>⟨_,b,c⟩
def ct1(d:Value)(q:Pr)(n:B3)(a:Addr)(w:World)(hv:SV (i5 w) d q)(i:∀c,o6 w c->(Instr.loadAt 9 (.pointer (some a))).run prog c = .ok (t8 n) c):
  y5 prog 252 #[d,.pointer (some a)] w λu c=>(u = .bool (decide (q.name=n))/\o6 w c):=by
 refine z6 [d,.pointer (some a)] func252 rfl ?_;obtain⟨b,f,h,e,g⟩:=bA7 hv (n7 _);obtain⟨_,_,_,_,_,_,_,_,j,_⟩:=g.pr;simp only[eS,simprocAttr,h,j f (n7 _),i f e];exact o8 results252 ⟨rfl,e⟩
def cD7(v:Value)(p:Pg)(n:B3)(w:World)(hv:SV (i5 w) v p)(hw:C4 p<=1000000):y5 prog 192 #[v,t8 n] w λu g=>(u = .bool (aT7 p n)/\o6 w g):=by
 refine z6 [v,t8 n] func192 rfl ?_;obtain⟨a,z,o,d,A⟩:=af7 (w:=w) (λ_=>False) hv (λ_ h=>h.elim);obtain⟨K,I,J,D,F,_⟩:=L8.pg hv A;obtain⟨G,_⟩:=L8.pg_v hv A;obtain⟨b,B,m,e,i⟩:=dC4 n z;have j:∀g,o6 z g->E2 (D0 z λ_=>False) (i5 g):=λg h=>p7 (B4 _ _) (b7 h);have t:=G B (j _ e);have E:p.procs.length<=1000000:=by
  have:=am6 p.procs;unfold C4 at hw;omega
 simp only[eS,simprocAttr,o,m,t];refine B6 (ao0 v p B (hv.mono (b7 (d.trans e))) hw) (λC l=>?_);have c:=e.trans l;rcases ej1 (decide ((Q5 p).1=0))with hsc|hsc
 .simp only[eS,simprocAttr,ax2,hsc,F C (j _ c)];refine B6 (bf1 (λf=>decide (f.name=n)) 252 #[.pointer (some b)] I p.procs C ed8 (A6.mono (b7 (d.trans c)) D) om
   (λH x g r _ q=>ct1 H x n b g q λy k=>i y (l.trans (r.trans k)))) (λL s=>?_)
  simp only[n8,simprocAttr];refine o8 results192 ?_;simp only[B8,simprocAttr];exact⟨by rw[aT7,hsc,eq4],d.trans (c.trans s)⟩
 .simp only[eS,simprocAttr,ax2,hsc];refine o8 results192 ?_;simp only[B8,simprocAttr];exact⟨by rw[aT7,hsc];rfl,d.trans c⟩
def cP9(a:Addr)(p:Pg)(n:B3)(w:World)(hs:At (i5 w) a (d9 p))(hw:C4 p<=1000000)(hn:n∈p.procs.map (·.name)):
  y5 prog 253 #[.pointer (some a),t8 n] w λu O=>(B0 (i5 w) O 9 u (an0 (d9 p) n)/\o6 w O):=by
 refine z6 [.pointer (some a),t8 n] func253 rfl ?_;obtain⟨i,Z,I,_⟩:=U8 hn;obtain⟨x,V,_⟩:=ab9 p hw i Z;obtain⟨aa,G⟩:=bx3 p hw i Z;have af:(d9 p).p.procs.length<=1000000:=by
  rw[N7];have:=am6 p.procs;unfold C4 at hw;omega
 simp only[eS,simprocAttr];refine B6 (aC5 a (d9 p) n w hs om) (λw1 L=>?_);rw[I];simp only[n8,simprocAttr];refine y4 (bl2 a (d9 p) i x _ w1 (hs.mono (b7 L)) V) ?_;rintro ul w2 ⟨d,W⟩;have o:=L.trans W;have Y:an0 (d9 p) n=N4 (Y5 ((((d9 p).of i).filter λit=>decide (it.s.kind=4)).map (·.s.proc))):=by rw[an0,I];rfl
 generalize(d9 p).of i=l at d G Y;simp only[eS,simprocAttr,d.isS,d.vlen];refine A9 [12,13] (σ:=Nat×Value) (λs f O=>f 14 = .int .i64 s.1/\f 5=s.2/\s.1<=l.length/\B0 (i5 w2) O 9 s.2 (((l.take s.1).filter λit=>decide (it.s.kind=4)).map (·.s.proc))/\o6 w2 O) (λs=>l.length-s.1) (0,.slice none 0 0) ?_ ?_
 .exact⟨rfl,rfl,ek1 _,by simpa using B0.nil _ _ _,p6.refl _⟩
 rintro⟨k,u⟩ f w3 ⟨z,Q,_⟩ ⟨j,A,R,H,m⟩;simp only at j A R H;have E:((l.take k).filter λit=>decide (it.s.kind=4)).length<=k:=ej7 (el8 _ _) (by rw[ek3];omega);simp only[eS,simprocAttr,j,Q];refine A3 (λr=>?_) ?_;rotate_left
 .rintro rfl;rw[ek4]at H E;simp only[n8,simprocAttr,A];refine y4 (aq8 H (by rw[ek2];omega)) ?_;rintro _ w4 ⟨b,S⟩;simp only[n8,simprocAttr,A];refine y4 (bp3 b (by rw[aa0,ek2];omega)) ?_;rintro u5 w5 ⟨U,T,_⟩;have M:=b.ext2 (H.ext2 m S) T;simp only[n8,simprocAttr];exact o8 results253 ⟨by rw[Y];exact U.back o,o.trans M⟩
 have F:=d.inS r;obtain⟨sv,K,q⟩:=H1 (P:=prog) (t:=156) d (b7 m) (ej0 r) af2 af4 ac9 L4;rw[L4]at q;have v:((l.take (k+1)).filter λit=>decide (it.s.kind=4)).map (·.s.proc)=((l.take k).filter λit=>decide (it.s.kind=4)).map (·.s.proc)++if l[k].s.kind=4 then[l[k].s.proc]else[]:=by
  rw[ej8 r,ep9,em6]
  congr 1
  by_cases h:l[k].s.kind=4<;>simp[h]
 generalize l[k]=it at K v;obtain⟨c,ao,w4,B,J,N,C⟩:=ax9 (K.mono (b7 m)) (n7 _);obtain⟨D,_,_⟩:=C.it;obtain⟨_,_,_,_,_,_,_,_,_,X,_⟩:=D.st;have l4:=X w4 (n7 _);have b:=H.ext N;have g:=m.trans N;rcases ej1 (decide (it.s.kind=4))with hq|hq
 .obtain⟨p1,u',w5,p2,p3,p4,p5⟩:=push (e:=22) aC9 rfl b (x:=t8 it.s.proc) (y:=it.s.proc) rfl (by rw[ek2];omega) (by rw[ek2];omega) (b7 g);simp only[n8,n9,A0,simprocAttr,j,A,z,F,q,B,J,l4,hq,p1,p2];refine nx4 (k+1,u') ⟨?_,b.ext2 g p4⟩;simp only[];rw[v,if_pos (ej3 hq)];exact p3
 .simp only[n8,n9,A0,simprocAttr,j,A,z,F,q,B,J,l4,hq];refine nx4 (k+1,u) ⟨?_,g⟩;simp only[];rw[v,if_neg (ej6 hq),em5];exact b
def bD7(g:B3->List B3)(m i:Nat)(a:List B3)(h:a.length<=i):R8 g m i a=a:=by
 cases m with
 | zero=>rfl
 | succ m=>rw[R8,er3 h]
def bQ9(g:B3->List B3)(m i:Nat)(a:List B3)(h:i<a.length):R8 g (m+1) i a=R8 g m (i+1) (W2 a (g a[i])):=by
 rw[R8,ej0 h]
def cw7{p:Pg}(hw:C4 p<=1000000){n:B3}(hn:n∈p.procs.map (·.name)):(an0 (d9 p) n).length<=400000:=by
 obtain⟨i,c,b,_⟩:=U8 hn;obtain⟨_,a⟩:=bx3 p hw i c;unfold an0;rw[b];refine ej7 (aF1 _) ?_;rw[ek2];exact ej7 (el8 _ _) a
def du1(a:Addr)(p:Pg)(n:B3)(w:World)(hs:At (i5 w) a (d9 p))(hw:C4 p<=1000000)(K:Known p)(hn:n∈p.procs.map (·.name)):
  y5 prog 193 #[.pointer (some a),t8 n] w λu O=>(B0 (i5 w) O 9 u (aH1 (d9 p) n)/\o6 w O):=by
 refine z6 [.pointer (some a),t8 n] func193 rfl ?_;have aD:p.procs.length<=1000000:=by
  have:=am6 p.procs;unfold C4 at hw;omega
 have hF:aH1 (d9 p) n=Y5 (R8 (an0 (d9 p)) (p.procs.length+1) 0 [n]):=by rw[aH1,N7]
 have hg:=λm (hm:m∈p.procs.map (·.name))=>cP9 (p:=p) (n:=m) (a:=a) (hw:=hw) (hn:=hm);have S:=λm x (hm:m∈p.procs.map (·.name)) hx=>aS0 K (m:=m) (x:=x) hm hx;have T:=λm (hm:m∈p.procs.map (·.name))=>cw7 hw hm;have V:(p.procs.map (·.name)).length=p.procs.length:=ek2 _;generalize an0 (d9 p)=g at hF hg S T;generalize p.procs.map (·.name)=E at hn hg S T V;obtain⟨u1,w1,ae,aq,au,_⟩:=lit (P:=prog) (w:=w) (h:=i5 w) (α:=B3) (xs:=[t8 n]) (ys:=[n]) (parts:=#[(0,t8 n)]) (n:=1) aC9 rfl (aI0.2 rfl) (by simp[t8,Value.cells]) rfl rfl dP dP (n7 _);simp only[eS,simprocAttr,ae];refine A9 [0] (σ:=Nat×Value×List B3) (λs f O=>f 6 = .int .i64 s.1/\f 5=s.2.1/\s.1<=s.2.2.length/\B0 (i5 w) O 9 s.2.1 s.2.2/\s.2.2.Nodup/\(∀x∈s.2.2,x∈E)/\R8 g (p.procs.length+1) 0 [n]=R8 g (p.procs.length+1-s.1) s.1 s.2.2/\o6 w O) (λs=>p.procs.length+1-s.1) (0,u1,[n]) ?_ ?_
 .exact⟨rfl,rfl,ek1 _,aq,dP,by simpa using hn,dP,au⟩
 rintro⟨i,u,F⟩ f w2 ⟨e0,_⟩ ⟨h6,Y,an,G,U,z,j,L⟩;simp only at h6 Y an G U z j;have aC:F.length<=p.procs.length:=by rw[<-V];exact I5 U z
 simp only[eS,simprocAttr,h6,Y,G.isS,G.vlen];refine A3 (λI=>?_) ?_;rotate_left
 .rintro rfl;rw[bD7 g _ _ _ (ek6 _)]at j;simp only[n8,simprocAttr,Y];refine y4 (aq8 G om) ?_;rintro _ w4 ⟨r,q⟩;simp only[n8,simprocAttr,Y];exact o8 results193 ⟨by rw[hF,j];exact r,G.ext2 L q⟩
 have ao:=G.inS I;have ad:=ldS (G.rw_ (b7 L)) (n7 _) I;have J:=z _ (ek0 I);rw[show p.procs.length+1-i=(p.procs.length-i)+1 by omega,bQ9 g _ _ _ I]at j;generalize F[i]=m at ad J j;simp only[n8,n9,A0,simprocAttr,h6,Y,e0,ao,ad];refine y4 (hg m J w2 (hs.mono (b7 L))) ?_;rintro uc w3 ⟨W,X⟩;have C:R (D0 w3 (A5 u)) uc (g m):=W.flatR λb H=>E4 λQ=>by
  have h1:=G.lt Q;have h2:=C9 (W.free H);omega
 have ag:=L.trans X;have ar:=G.ext X;have ab:=T m J;have aa:=λx=>S m x J;generalize g m=Z at W C ab j aa;simp only[eS,simprocAttr,C.isS,C.vlen];refine A9 [0,6,22,23] (σ:=Nat×Value×List B3) (λs f O=>f 24 = .int .i64 s.1/\f 5=s.2.1/\s.1<=Z.length/\B0 (i5 w) O 9 s.2.1 s.2.2/\s.2.2.Nodup/\(∀x∈s.2.2,x∈E)/\W2 F Z=W2 s.2.2 (Z.drop s.1)/\F.length<=s.2.2.length/\p6 (A5 u) w3 O/\E7 w3 u s.2.1) (λs=>Z.length-s.1) (0,u,F) ?_ ?_
 .simp only[B8,simprocAttr];exact⟨tt,Y,ek1 _,G.ext X,U,z,by rw[es1],ek6 _,p6.refl _,λb H=>.inl H⟩
 rintro⟨k,u4,o⟩ f4 w4 ⟨g0,g6,ak,al,_⟩ ⟨A,B,ap,r,l,d,c,af,q,v⟩;simp only at A B ap r l d c af v;have D:=ar.ext2 ag q;have ay:o.length<=p.procs.length:=by rw[<-V];exact I5 l d
 simp only[eS,simprocAttr,A,al];refine A3 (λt=>?_) ?_;rotate_left
 .rintro rfl;rw[et1,W2]at c;rw[c]at j;simp only[eS,simprocAttr,g6,h6];refine nx2 (i+1,u4,o) ⟨B,so,r,l,d,?_,D⟩;simp only[];rw[j]
  congr 1
  omega
 have ac:=C.inS t;have N:=ldS C (F3 q) t;rw[eo1 t,W2]at c;have M:=aa _ (ek0 t);generalize Z[k]=y at N c M;simp only[n8,n9,A0,simprocAttr,A,B,ak,ac,N];refine F6 (S7 u4 o y w4 (r.rw_ (b7 D)) om) ?_;rcases ej1 (o.contains y)with hq|hq
 .rw[if_pos hq]at c;simp only[eS,simprocAttr,hq,A];refine nx2 (k+1,u4,o) ⟨B,so,r,l,d,c,af,q,v⟩
 .obtain⟨p1,u5,w5,p2,p3,p4,p5⟩:=push (e:=22) aC9 rfl r (x:=t8 y) (y:=y) rfl om om (b7 D);rw[if_neg (by rw[hq];simp)]at c;simp only[eS,simprocAttr,hq,A,B,p1,p2];refine nx4 (k+1,u5,o++[y]) ⟨p3,?_,?_,c,by simp only[ej2];omega,q.chain p4 λb H Q=>?_,λb H=>?_⟩
  .rw[eo0];refine⟨l,dP,λa ha b H=>?_⟩;simp only[ek5]at H;subst H;rintro rfl;rw[ek7.2 ha]at hq;cases hq
  .intro x hx;simp only at hx;rcases ej9.1 hx with h|h
   .exact d x h
   .simp only[ek5]at h;subst h;exact M
  .rcases v b Q with h|h
   .exact h
   .omega
  .rcases p5 b H with h|h
   .exact v b h
   .exact .inr (ej7 q.size h)
def P9{α β:Type}(f:α->List β)(B:Nat):∀(l:List α),(∀x∈l,(f x).length<=B)->(l.flatMap f).length<=l.length*B
 | [],_=>dP
 | x::l,h=>by
  have b:=P9 f B l λy a=>h y (by simp[a]);have c:=h x dP;rw[es5,ej2,em1,Nat.succ_mul];omega
def cI8{α β:Type}(f:α->List β)(l:List α)(k:Nat):((l.take k).flatMap f).length<=(l.flatMap f).length:=by
 conv=>rhs;rw[<-en4 k l,et0,ej2]
 omega
def bs8(g:St->Nat)(l:List It):Nat:=(l.map λit=>g it.s).sum
def ct0(g:St->Nat)(l m:List It):bs8 g (l++m)=bs8 g l+bs8 g m:=by simp[bs8]
def bV9(g:St->Nat)(x:It)(m:List It):bs8 g (x::m)=g x.s+bs8 g m:=by simp[bs8]
mutual
def dA0(g:St->Nat)(d:∀t:St,g t+K0 t.thn+K0 t.els<=V7 t):∀(t:St) (k:Nat) (c i h f:Int),bs8 g (ac7 t k c i h f)<=V7 t
 | .mk id kind labels name proc x has args thn els,k,c,i,h,f=>by
  rw[U6,bV9,ct0];have j:=λe b a=>bm1 g d els e c (k+1) b a;have l:=λe b a=>bm1 g d thn e c (k+1) b a;have m:=d (.mk id kind labels name proc x has args thn els);simp only[St.thn,St.els]at m ⊢;refine ej7 (Nat.add_le_add_left (Nat.add_le_add (l _ _ _) (j _ _ _)) _) ?_;omega
def bm1(g:St->Nat)(a:∀t:St,g t+K0 t.thn+K0 t.els<=V7 t):∀(l:List St) (k:Nat) (d e c b:Int),bs8 g (E5 l k d e c b)<=K0 l
 | [],_,_,_,_,_=>by simp[E5,bs8]
 | t::l,k,d,e,c,b=>by
  rw[E5,ct0,K0];exact Nat.add_le_add (dA0 g a t _ _ _ _ _) (bm1 g a l _ _ _ _ _)
end
def dy4(g:St->Nat)(c:∀t:St,g t+K0 t.thn+K0 t.els<=V7 t)(p:Pg)(hw:C4 p<=1000000)(i:Nat)(a:i<p.procs.length):bs8 g ((d9 p).of i)<=1000000:=by
 obtain⟨x,_,e⟩:=ab9 p hw i a;have d:=bm1 g c p.procs[i].body x i 0 (-1) 0;have b:=aC6 p hw _ (ek0 a);unfold ad1 at b;rw[e];omega
def cs9(t:St):(M5 t).length+K0 t.thn+K0 t.els<=V7 t:=by
 rw[X3];have a:=ak5 t.x;have b:=Q7 t.args;have c:1<=wtT t.name:=by simp[wtT]
 have d:(if t.kind≠10/\t.name≠e0 then[t.name]else[]).length<=1:=by split<;>simp
 unfold M5;rw[ej2,ej2];omega
def bv9(f:It->List B3)(g:St->Nat)(h:∀it,(f it).length<=g it.s):∀l:List It,(l.flatMap f).length<=bs8 g l
 | []=>by simp[bs8]
 | x::l=>by
  have:=bv9 f g h l;have:=h x;rw[es5,ej2,bV9];omega
def aL5{g:B3->List B3}{names:List B3}(b:∀m∈names,∀x∈g m,x∈names):∀(m i:Nat) (a:List B3),a.Nodup->(∀x∈a,x∈names)->(R8 g m i a).Nodup/\∀x∈R8 g m i a,x∈names
 | 0,i,a,h1,h2=>⟨h1,h2⟩
 | m+1,i,a,h1,h2=>by
  rw[R8];split
  .exact⟨h1,h2⟩
  .next n c=>
   refine aL5 b m (i+1) _ (aK7 _ _ h1) λx d=>?_;rcases(aA0 _ _ _).1 d with h|h
   .exact h2 x h
   .exact b n (h2 n (el0 c)) x h
def da7{p:Pg}(K:Known p){n:B3}(hn:n∈p.procs.map (·.name)):(aH1 (d9 p) n).length<=p.procs.length/\∀x∈aH1 (d9 p) n,x∈p.procs.map (·.name):=by
 obtain⟨d,b⟩:=aL5 (g:=an0 (d9 p)) (names:=p.procs.map (·.name)) (λm hm x a=>aS0 K hm a) ((d9 p).p.procs.length+1) 0 [n] dP (by simpa using hn);have c:=I5 d b;rw[ek2]at c;unfold aH1;exact⟨by rw[aa0];exact c,λx a=>b x ((Y1 _).mem_iff.1 a)⟩
def cd4{p:Pg}(K:Known p):p.procs.length<=16/\p.globals.length<=16:=by
 have:=K.may;simp only[O6,el3,em7]at this;exact⟨this.1.1.2,this.1.1.1⟩
def aJ6(h:Hp)(a:Addr)(s:Sh)(i x y:Nat)(w:World)(A:At h a s)(z:E2 h (i5 w))(b:bM9 s i x y):y5 prog 124 #[.pointer (some a),.int .i64 i] w λu c=>(R h u (s.of i)/\o6 w c):=by
 refine z6 [.pointer (some a),.int .i64 i] func124 rfl ?_;obtain⟨E,n,m,l,k,g,v,G,D⟩:=A.sh;have e:∀c,o6 w.drew c->E2 h (i5 c):=λc h=>p7 z (b7 ((o6.drew w).trans h));have B:∀K f d w0,F8 prog (λc=>o6 w.drew c) (Instr.loadAt 3 (.pointer (some (G8 n i)))) K f d w0=K (C5 f d (.int .i64 ((x:Int)+1))) w0:=λK f d w0=>B7 (w0:=w.drew) (p6.refl _) λc h=>ldI k (e c h) b.lo;have C:∀K f d w0,F8 prog (λc=>o6 w.drew c) (Instr.loadAt 3 (.pointer (some (G8 m i)))) K f d w0=K (C5 f d (.int .i64 ((y:Int)+1))) w0:=λK f d w0=>B7 (w0:=w.drew) (p6.refl _) λc h=>ldI g (e c h) b.hi;have E2:=b.le;have j:=b.len;have o:=b.fit;have r:IntKind.i64.wrap ((x:Int)+1-1)=(x:Int):=by rw[M7 _ om];omega
 have t:IntKind.i64.wrap ((y:Int)+1-1)=(y:Int):=by rw[M7 _ om];omega
 have F:=l.vcap;have p:decide ((x:Int)<=(y:Int))=true:=by simp;omega
 have q:decide ((y:Int)<=(vcap E:Int))=true:=by simp;omega
 simp only[eS,simprocAttr];refine C0 (λc=>o6 w.drew c) 22 (A7 [0,1,2,3,4,5,6,7,8,9,10,11,12,13,14,15,16,17,18,19,20,21]) ?_;simp only[D7,A7,n8,n9,A0,M4,simprocAttr,D (λc=>o6 w.drew c) w.drew (p6.refl _) e,k.inS (ej5.1 b.lo).1,g.inS (ej5.1 b.hi).1,B,C,r,t,l.isS,p,q];refine o8 results124 ⟨?_,o6.drew w⟩;rw[b.of_];exact ch2 l E2 j
def cg6(v:Value)(p:Pg)(n:B3)(w:World)(hv:SV (i5 w) v p)(hw:C4 p<=1000000):y5 prog 130 #[v,t8 n] w λu G=>(B0 (i5 w) G 9 u (S1 p n)/\o6 w G):=by
 refine z6 [v,t8 n] func130 rfl ?_;obtain⟨a,w1,bb,L,ha⟩:=af7 (w:=w) (λ_=>False) hv (λ_ h=>h.elim);obtain⟨vg,vp,hg,hp,ld,_⟩:=L8.pg hv ha;obtain⟨lw,_⟩:=L8.pg_v hv ha;have av:∀G,o6 w1 G->E2 (D0 w1 λ_=>False) (i5 G):=λG h=>p7 (B4 _ _) (b7 h);simp only[eS,simprocAttr,bb,lw w1 (av _ (p6.refl _))];refine B6 (cD7 v p n w1 (hv.mono (b7 L)) hw) (λw2 ag=>?_);rcases ej1 (aT7 p n)with hkn|hkn;rotate_left
 .simp only[eS,simprocAttr,hkn];exact o8 results130 ⟨by rw[S1,if_neg (by rw[hkn];simp)];exact B0.nil _ _ _,L.trans ag⟩
 have hF:S1 p n=N4 (Y5 ((aH1 (d9 p) n).flatMap λm=>((d9 p).of ((d9 p).pr m)).flatMap λit=>(M5 it.s).filter λv=>p.globals.contains v)):=by rw[S1,if_pos hkn];rfl
 have N:=hkn;rw[aT7,el3]at N;have K:=bG9 (ej3 N.1);have hn:n∈p.procs.map (·.name):=by
  obtain⟨q,X,e⟩:=ew3.1 N.2;exact el2.2 ⟨q,X,ej3 e⟩
 simp only[eS,simprocAttr,hkn,lw w2 (av _ ag)];refine y4 (as2 v p w2 (hv.mono (b7 (L.trans ag))) hw) ?_;rintro us w3 ⟨sh,rfl,hsh,hx3⟩;simp only[n8,simprocAttr];refine y4 (du1 sh p n w3 hsh hw K hn) ?_;rintro ul w5 ⟨bl,W⟩;have U:=bl.rw_ (b7 W);have J:=(ag.trans hx3).trans W;obtain⟨bf,Q⟩:=da7 K hn;obtain⟨bA,bx⟩:=cd4 K;have bm:=N7 p;have bp:=ao1 p hw;generalize aH1 (d9 p) n=l1 at U bf Q hF;have hA:∀m∈p.procs.map (·.name),(((d9 p).of ((d9 p).pr m)).flatMap λit=>(M5 it.s).filter λv=>p.globals.contains v).length<=1000000:=λm hm=>by
  obtain⟨i,hi,af,_⟩:=U8 hm;rw[af];refine ej7 (bv9 _ (λt=>(M5 t).length) (λit=>el8 _ _) _) ?_;exact dy4 _ cs9 p hw i hi
 have a8:=U.isS;have bi:=U.vlen;generalize aE:(λm=>((d9 p).of ((d9 p).pr m)).flatMap λit=>(M5 it.s).filter λv=>p.globals.contains v)=A at hF;have aD:∀m∈p.procs.map (·.name),(A m).length<=1000000:=λm hm=>by rw[<-aE];exact hA m hm
 have aO:(l1.flatMap A).length<=16000000:=by
  refine ej7 (P9 A 1000000 l1 λx hx=>aD x (Q x hx)) ?_;omega
 simp only[eS,simprocAttr,a8,bi];refine A9 [2,5,21,22] (σ:=Nat×Value) (λs f G=>f 23 = .int .i64 s.1/\f 6=s.2/\s.1<=l1.length/\B0 (i5 w5) G 9 s.2 ((l1.take s.1).flatMap A)/\o6 w5 G) (λs=>l1.length-s.1) (0,.slice none 0 0) ?_ ?_
 .exact⟨rfl,rfl,ek1 _,by simpa using B0.nil _ _ _,p6.refl _⟩
 rintro⟨i,u⟩ f w6 ⟨e2,e5,aZ,a0,_⟩ ⟨Z,h6,bc,ho,ah⟩;simp only at Z h6 bc ho;have aM:=ej7 (cI8 A l1 i) aO;simp only[eS,simprocAttr,Z,a0];refine A3 (λac=>?_) ?_;rotate_left
 .rintro rfl;rw[ek4]at ho;simp only[n8,simprocAttr,h6];refine y4 (aq8 ho om) ?_;rintro _ w7 ⟨aK,bg⟩;simp only[n8,simprocAttr,h6];refine y4 (bp3 aK (by rw[aa0];omega)) ?_;rintro u8 w8 ⟨ad,bh,_⟩;have aP:=L.trans (J.trans (aK.ext2 (ho.ext2 ah bg) bh));simp only[n8,simprocAttr];exact o8 results130 ⟨by rw[hF];exact ad.back (L.trans J),aP⟩
 have D:=U.inS ac;have d:=ldS U (b7 ah) ac;have ay:=J9 A l1 ac;have aw:=Q _ (ek0 ac);have aF:=aD _ aw;generalize l1[i]=m at d ay aw aF;obtain⟨q,X,af,_⟩:=U8 aw;obtain⟨x,bk,_⟩:=ab9 p hw q X;obtain⟨am,aI⟩:=bx3 p hw q X;have aq:o6 w3 w6:=W.trans ah;simp only[n8,n9,A0,simprocAttr,Z,e5,aZ,D,d];refine B6 (aC5 sh (d9 p) m w6 (hsh.mono (b7 aq)) (by rw[bm];omega)) (λw7 aA=>?_);rw[af];simp only[n8,simprocAttr];refine y4 (aJ6 (i5 w3) sh (d9 p) q x _ w7 hsh (b7 (aq.trans aA)) bk) ?_;rintro ui w8 ⟨T,aR⟩;have ab:A m=((d9 p).of q).flatMap λit=>(M5 it.s).filter λv=>p.globals.contains v:=by
  rw[<-aE];simp only[af]
 generalize(d9 p).of q=l at T am aI ab;have a9:=T.isS;have bj:=T.vlen;have ad:=ho.ext (aA.trans aR);have aQ:=ah.trans (aA.trans aR);generalize a4:(λit:It=>(M5 it.s).filter λv=>p.globals.contains v)=B at ab;have a5:(l.flatMap B).length<=1000000:=by rw[<-ab];exact aF
 generalize(l1.take i).flatMap A=pre at ad aM ay;simp only[eS,simprocAttr,a9,bj];refine A9 [2,5,21,22,23,31,32] (σ:=Nat×Value) (λs f G=>f 33 = .int .i64 s.1/\f 6=s.2/\s.1<=l.length/\B0 (i5 w5) G 9 s.2 (pre++(l.take s.1).flatMap B)/\o6 w5 G) (λs=>l.length-s.1) (0,u) ?_ ?_
 .exact⟨rfl,h6,ek1 _,by simpa using ad,aQ⟩
 rintro⟨j,u9⟩ f9 w9 ⟨g2,g5,bJ,bK,a1,a2,a3,_⟩ ⟨aa,ar,bd,ae,aj⟩;simp only at aa ar bd ae;have ax:=ej7 (cI8 B l j) a5;simp only[eS,simprocAttr,aa,a3];refine A3 (λI=>?_) ?_;rotate_left
 .rintro rfl;rw[ek4,<-ab]at ae;simp only[eS,simprocAttr,a1,Z];refine nx2 (i+1,u9) ⟨ar,om,?_,aj⟩;simp only[];rw[ay];exact ae
 clear D d;have D:=T.inS I;obtain⟨sv,aN,d⟩:=H1 (P:=prog) (t:=156) T (b7 (W.trans aj)) (ej0 I) af2 af4 ac9 L4;rw[L4]at d;have S:=J9 B l I;have V:=bp _ (am _ (ek0 I));generalize l[j]=it at aN S V;obtain⟨c,b6,aU,ba,bn,ao,aG⟩:=ax9 (aN.mono (b7 (W.trans aj))) (n7 _);obtain⟨aH,_,_⟩:=aG.it;obtain⟨vt,bo,bq,_⟩:=aH.st_v;have al:B it=(M5 it.s).filter λv=>p.globals.contains v:=by rw[<-a4]
 simp only[n8,n9,A0,simprocAttr,aa,a2,D,d,ba,bn,bq aU (n7 _)];refine y4 (by5 vt it.s aU bo V) ?_;rintro uN aB ⟨aL,ap⟩;have an:=ae.ext ao;have C:R (D0 aB (A5 u9)) uN (M5 it.s):=aL.flatR λb hb=>E4 λau=>by
  have h1:=an.lt au;have h2:=C9 (aL.free hb);omega
 have O:=an.ext ap;have az:=aj.trans (ao.trans ap);have a7:=ej7 (by6 it.s) V;generalize M5 it.s=Y at C al a7;generalize(l.take j).flatMap B=pre2 at O ax S;simp only[eS,simprocAttr,C.isS,C.vlen];refine A9 [2,5,21,22,23,31,32,33,39,40] (σ:=Nat×Value) (λs f G=>f 41 = .int .i64 s.1/\f 6=s.2/\s.1<=Y.length/\B0 (i5 w5) G 9 s.2 (pre++pre2++(Y.take s.1).filter λv=>p.globals.contains v)/\p6 (A5 u9) aB G/\E7 aB u9 s.2) (λs=>Y.length-s.1) (0,u9) ?_ ?_
 .exact⟨rfl,ar,ek1 _,by simpa using O,p6.refl _,λb hb=>.inl hb⟩
 rintro⟨k,aS⟩ bH aV ⟨q2,q5,bW,bX,bY,bZ,b0,br,bs,bt,_⟩ ⟨M,H,be,z,r,g⟩;simp only at M H be z g;have o:=O.ext2 az r;have bw:((Y.take k).filter λv=>p.globals.contains v).length<=k:=ej7 (el8 _ _) (by rw[ek3];omega);simp only[eS,simprocAttr,M,bt];refine A3 (λE=>?_) ?_;rotate_left
 .rintro rfl;rw[ek4,<-al]at z;simp only[eS,simprocAttr,br,aa];refine nx2 (j+1,aS) ⟨H,om,?_,o⟩;simp only[];rw[S,<-el9];exact z
 clear D d;have D:=C.inS E;have d:=ldS C (F3 r) E;have F:((Y.take (k+1)).filter λv=>p.globals.contains v)=((Y.take k).filter λv=>p.globals.contains v)++if p.globals.contains Y[k]then[Y[k]]else[]:=by
  rw[ej8 E,ep9]
  congr 1
  by_cases h:p.globals.contains Y[k]=true<;>simp[List.filter_cons]
 generalize Y[k]=y at d F;simp only[n8,n9,A0,simprocAttr,M,q2,g2,e2,bs,D,d,ld aV (av _ (J.trans o))];refine F6 (S7 vg p.globals y aV (A6.mono (b7 (L.trans (J.trans o))) hg) om) ?_;rcases ej1 (p.globals.contains y)with X|X
 .obtain⟨p1,bu,b4,p2,p3,p4,p5⟩:=push (e:=22) aC9 rfl z (x:=t8 y) (y:=y) rfl (by simp only[ej2];omega) (by simp only[ej2];omega) (b7 o);simp only[eS,simprocAttr,X,M,H,p1,p2];refine nx4 (k+1,bu) ⟨?_,r.chain p4 λb hb au=>?_,λb hb=>?_⟩
  .simp only[];rw[F,if_pos X,<-el9];exact p3
  .rcases g b au with h|h
   .exact h
   .omega
  .rcases p5 b hb with h|h
   .exact g b h
   .exact .inr (ej7 r.size h)
 .simp only[eS,simprocAttr,X,M];refine nx2 (k+1,aS) ⟨H,om,?_,r,g⟩;simp only[];rw[F,if_neg (by rw[X];simp),em5];exact z
def ew2:=@Decidable.byContradiction
def cJ8:prog.underlying 188=some (.map 9 22):=kr
def cM4:prog.underlying 9=some .string:=kr
def cC4(V H:Value)(t:St)(l:List B3)(w:World)(ht:SV (i5 w) V t)(hl:R (i5 w) H l)(S:V7 t<=1000000)(ae:l.length<=1000000000):
  y5 prog 131 #[V,H] w λu I=>(u = .bool (ao2 t l)/\o6 w I):=by
 refine z6 [V,H] func131 rfl ?_;obtain⟨b,W,N,j,L⟩:=ax0 ht (n7 _);obtain⟨_,an,_,_,_,g,_,_,_,D,_⟩:=L.st;have U:=D W (n7 _);have hS:=g.isS;have hn:=g.vlen;rw[X3]at S;have ac:=az3 t.args;have G:ao2 t l=ao3 t.name l [] t.args:=rfl;simp only[eS,simprocAttr,N,U,hS,hn];refine A9 [1,2,9,10] (σ:=Nat×Value×List B3) (λs f I=>f 11 = .int .i64 s.1/\f 5=s.2.1/\s.1<=t.args.length/\B0 (i5 W) I 9 s.2.1 s.2.2/\ao3 t.name l [] t.args=ao3 t.name l s.2.2 (t.args.drop s.1)/\s.2.2.length<=s.1/\o6 W I) (λs=>t.args.length-s.1) (0,.slice none 0 0,[]) ?_ ?_
 .simp only[B8,simprocAttr];exact⟨tt,tt,ek1 _,B0.nil _ _ _,by rw[es1],ek6 _,p6.refl _⟩
 rintro⟨k,u,h⟩ f w2 ⟨e1,X,Y,K,_⟩ ⟨i,F,O,Z,d,Q,n⟩;simp only at i F O Z d Q;simp only[eS,simprocAttr,i,K];refine A3 (λq=>?_) ?_;rotate_left
 .rintro rfl;rw[et1,ao3]at d;simp only[n8,simprocAttr];refine o8 results131 ?_;simp only[B8,simprocAttr];exact⟨by rw[G,d],j.trans n⟩
 have r:=g.inS q;obtain⟨sv,A,p⟩:=H1 (P:=prog) (t:=125) g (b7 n) (ej0 q) aU8 aV0 aO4 ad0;rw[ad0]at p;rw[eo1 q,ao3]at d;generalize t.args[k]=y at A d;obtain⟨c,wz,J,o,z,B,M⟩:=bm7 (A.mono (b7 n)) (n7 _);obtain⟨_,T,_⟩:=M.ar;have C:=T J (n7 _);have a:=n.trans B;have m:=Z.ext B;have E:=D J (b7 a);rcases ej1 y.ref with v|v;rotate_left
 .rw[if_neg (by rw[v];simp)]at d;simp only[n8,n9,A0,simprocAttr,i,Y,r,p,o,z,C,v];exact nx2 (k+1,u,h) ⟨F,so,m,d,so,a⟩
 rw[if_pos v]at d;simp only[n8,n9,A0,simprocAttr,i,F,Y,r,p,o,z,C,v];refine F6 (S7 u h y.name J (m.rw_ (b7 a)) om) ?_;rcases ej1 (h.contains y.name)with q1|q1
 .simp only[n8,simprocAttr,q1];refine o8 results131 ?_;simp only[B8,simprocAttr];exact⟨by rw[G,d,q1];rfl,j.trans a⟩
 rcases ej1 (decide (y.name=t.name))with q2|q2
 .simp only[eS,simprocAttr,q1,q2,X,C,E];refine o8 results131 ?_;simp only[B8,simprocAttr];exact⟨by rw[G,d,q1,q2];rfl,j.trans a⟩
 simp only[eS,simprocAttr,q1,q2,e1,X,C,E];refine F6 (S7 H l y.name J (A6.mono (b7 (j.trans a)) hl) om) ?_;rcases ej1 (l.contains y.name)with q3|q3
 .simp only[n8,simprocAttr,q3];refine o8 results131 ?_;simp only[B8,simprocAttr];exact⟨by rw[G,d,q1,q2,q3];rfl,j.trans a⟩
 rw[q1,q2,q3]at d;obtain⟨p1,u',w4,p2,p3,p4,p5⟩:=push (e:=22) aC9 rfl m (x:=t8 y.name) (y:=y.name) rfl om om (b7 a);simp only[eS,simprocAttr,q3,i,F,C,p1,p2];exact nx4 (k+1,u',h++[y.name]) ⟨p3,d,by simp only[ej2,em3];omega,m.ext2 a p4⟩
def br7:∀(l:List Pr) (s:Sh) (i:Nat) (it:It),it∈(J1 s i l).l->it∈s.l\/∃(k:Nat) (a:k<l.length),∃x,it∈E5 l[k].body x (i+k:Nat) 0 (-1) 0
 | [],s,i,it,h=>.inl h
 | f::l,s,i,it,h=>by
  rw[J1]at h;rcases br7 l _ _ it h with h|⟨k,a,x,h⟩
  .simp only[H9]at h;rcases ej9.1 h with h|h
   .exact .inl h
   .exact .inr ⟨0,dP,s.l.length,by simpa using h⟩
  .exact .inr ⟨k+1,by simpa using a,x,by rw[show i+(k+1)=i+1+k by omega];simpa using h⟩
mutual
def ck5:∀(t:St) (k e:Nat) (h i g f c d b a:Int),(ac7 t k h i g f).map (·.s)=(ac7 t e c d b a).map (·.s)
 | .mk id kind labels name proc x has args thn els,k,e,h,i,g,f,c,d,b,a=>by
  rw[U6,U6];simp only[en8,em6]
  congr 2
  .exact an4 _ _ _ _ _ _ _ _ _ _ _
  .exact an4 _ _ _ _ _ _ _ _ _ _ _
def an4:∀(l:List St) (k e:Nat) (h i g f c d b a:Int),(E5 l k h i g f).map (·.s)=(E5 l e c d b a).map (·.s)
 | [],_,_,_,_,_,_,_,_,_,_=>by simp[E5]
 | t::l,k,e,h,i,g,f,c,d,b,a=>by
  rw[E5,E5];simp only[em6]
  congr 1
  .exact ck5 _ _ _ _ _ _ _ _ _ _ _
  .exact an4 _ _ _ _ _ _ _ _ _ _ _
end
def aL3{p:Pg}(K:Known p)(hw:C4 p<=1000000){it:It}(b:it∈(d9 p).l)(i:it.s.kind=4):it.s.proc∈p.procs.map (·.name):=by
 rcases br7 _ _ _ it b with h|⟨k,d,x,h⟩
 .cases h
 .obtain⟨j,_,e⟩:=ab9 p hw k d;have f:it.s∈(E5 p.procs[k].body x (0+k:Nat) 0 (-1) 0).map (·.s):=el2.2 ⟨it,h,rfl⟩;rw[an4 _ _ j _ _ _ _ k 0 (-1) 0,<-e]at f;obtain⟨c,a,g⟩:=el2.1 f;have:=(K.proc k d).2.2 c a;rw[g]at this;unfold ak2 at this;rw[ep1 i]at this;simp only[Bool.not_true,ew4,el3]at this;exact ek7.1 this.2.2
def cD8{p:Pg}(K:Known p)(n:B3):(S1 p n).length<=1000000000:=by
 unfold S1;split
 .next h=>
  have d:=I5 (l:=F2 ((aH1 (d9 p) n).flatMap λm=>((d9 p).of ((d9 p).pr m)).flatMap λit=>(M5 it.s).filter λv=>p.globals.contains v)) (m:=p.globals) ?_ ?_
  .have:=(cd4 K).2;exact ej7 d om
  .exact(X1 _).imp fun{a b} hab=>by rintro rfl;rw[N8]at hab;cases hab
  .intro x c;rw[K5]at c;obtain⟨m,_,c⟩:=em2.1 c;obtain⟨it,_,c⟩:=em2.1 c;exact ek7.1 (el6.1 c).2
 .simp
def ch5{p:Pg}(h:(ah5 p).1=0):(Q5 p).1=0:=by
 unfold ah5 at h;split at h
 .simp at h
 .next a=>exact ew2 a
def bC7(v:Value)(p:Pg)(w:World)(hv:SV (i5 w) v p)(hw:C4 p<=1000000):y5 prog 81 #[v] w λu d=>(u=aa7 (aR6 p)/\o6 w d):=by
 refine z6 [v] func81 rfl ?_;obtain⟨a,w1,a6,aU,ha⟩:=af7 (w:=w) (λ_=>False) hv (λ_ h=>h.elim);obtain⟨vg,vp,hg,hp,ld,_⟩:=L8.pg hv ha;obtain⟨lw,bm⟩:=L8.pg_v hv ha;obtain⟨rb,w2,a4,an,be,aF⟩:=aH2 w1;have a8:w.heap.size<=rb:=ej7 aU.size aF;have k:=aU.trans an;have U:∀d,o6 w2 d->E2 (D0 w1 λ_=>False) (i5 d):=λd h=>p7 (B4 _ _) (b7 (an.trans h));have H:=λ(d:World) (h:o6 w2 d)=>ay5 be h a8 k;simp only[eS,simprocAttr,a6,a4,lw w2 (U _ (p6.refl _))];refine B6 (aR8 v p w2 (hv.mono (b7 k)) hw) (λw3 M=>?_);rcases ej1 (decide ((ah5 p).1=0))with hsc|hsc;rotate_left
 .obtain⟨w9,s1,s2,s3⟩:=H w3 M (1,0);simp only[eS,simprocAttr,ax2,hsc,W4,s1];refine O5 results81 (by simp only[B8,simprocAttr]) s2 ?_;exact⟨by rw[aR6,if_pos (ej6 hsc)],s3⟩
 have K:=bG9 (ch5 (ej3 hsc));obtain⟨bt,bs⟩:=cd4 K;have hF:aR6 p=match(d9 p).l.find? λit=>decide (it.s.kind=4) && !ao2 it.s (S1 p it.s.proc)with
  | some it=>(8,it.s.id)
  | none=>(0,0):=by rw[aR6,if_neg (by simpa using hsc)]<;>rfl
 obtain⟨aj,ag,aV⟩:=aY9.new (P:=prog) w3 188;have J:=M.trans aV;have l4:=ld _ (U _ J);have hS:=hp.isS;have hn:=hp.vlen;have bc:w1.heap.size<=w3.heap.size:=(an.trans M).size;have bd:w2.heap.size<=w3.heap.size:=M.size;have bb:w.heap.size<=w3.heap.size:=(k.trans M).size;generalize bM:w3.alloc (.map #[] 0)=w4 at aj ag aV J l4;generalize w3.heap.size=r at aj ag bc bd bb;simp only[eS,simprocAttr,ax2,hsc,aB8,aj,l4,hS,hn];refine A9 [1,2,3,15,16] (σ:=Nat×List (B3×Value)) (λs f d=>f 17 = .int .i64 s.1/\s.1<=p.procs.length/\aY9 d r s.2/\(∀j (D:j<p.procs.length),j<s.1->∃u,P8 s.2 p.procs[j].name=some u/\R (D0 d λb=>b=r) u (S1 p p.procs[j].name))/\o6 w2 d) (λs=>p.procs.length-s.1) (0,[]) ?_ ?_
 .exact⟨rfl,ek1 _,ag,λj _ h=>om,J⟩
 rintro⟨i,kv⟩ f w5 ⟨e1,e2,e3,a1,a2,_⟩ ⟨Q,a9,G,af,O⟩;simp only at Q a9 G af;simp only[eS,simprocAttr,Q,a2];refine A8 (λhc=>?_) (λhc=>?_)
 .have n:i<p.procs.length:=by simpa using hc
  have T:=hp.inS n;obtain⟨sv,I,F⟩:=H1 (P:=prog) (t:=68) hp (b7 (k.trans O)) (ej0 n) aD3 aD5 aw4 U0;rw[U0]at F;have aK:∀j (D:j<p.procs.length),j<i->p.procs[j].name≠p.procs[i].name:=λj D ae e=>by
   have h3:=ep5.1 K.names;exact h3 j i (by simpa using D) (by simpa using n) ae (by simpa using e)
  generalize hy:p.procs[i]=y at I aK;obtain⟨c,wz,x,aB,aO,E,a5⟩:=aY5 (w:=w5) (λb=>b=r) I (λb B=>by subst B;exact G.lt);obtain⟨_,_,_,_,_,_,_,_,_,bl⟩:=L8.pr I a5;have aJ:=(G.mod E id).mod (o6.drew x) id;have A:o6 w2 x.drew:=O.trans (E.trans (o6.drew x));have aQ:∀d,p6 (λb=>b=r) x.drew d->E2 (D0 x λb=>b=r) (i5 d):=λd h=>F3 (p6.chain (p6.up (o6.drew x)) h λ_ _ B=>B);have aP:∀d,p6 (λb=>b=r) x.drew d->E2 (D0 w1 λ_=>False) (i5 d):=λd h=>G4 (U _ A) h λb B=>by
   subst B;by_cases hq:D0 w1 (λ_=>False) b=none
   .exact hq
   .exfalso
    have:i5 w1 b≠none:=λe=>hq (by rw[E4 (λh=>h)];exact e);have:=Nat.lt_of_not_le λh=>this (aW5 h);omega
  have s1:=bl (λd=>p6 (λb=>b=r) x.drew d) x.drew (p6.refl _) aQ;have s2:=bm (λd=>p6 (λb=>b=r) x.drew d) x.drew (p6.refl _) aP;simp only[n8,n9,A0,simprocAttr,Q,a1,T,F,aB,aO];refine C0 (λd=>p6 (λb=>b=r) x.drew d) 8 (A7 [0,1,2,3,4,5,6,7]) ?_;simp only[D7,A7,n8,n9,simprocAttr,e1,e3,s1,s2];refine y4 (cg6 v p y.name x.drew (hv.mono (b7 (k.trans A))) hw) ?_;rintro u w7 ⟨al,g⟩;obtain⟨w8,bg,ah,o⟩:=(aJ.mod g id).update (P:=prog) cJ8 cM4 y.name u;refine⟨p6.up g,?_⟩;simp only[fe,simprocAttr,cc8,bg,G0];refine⟨(p6.up g).chain o λ_ _ B=>B,?_⟩;simp only[eS,simprocAttr,Q];have L:o6 w2 w8:=p6.ext_of (A.trans g) o λb B=>by subst B;omega
  refine V1 (i+1,aU5 kv y.name u) ⟨ah,λj D ae=>?_,L⟩;simp only at ae ⊢;rw[ay6];rcases en2 j i with h|h
  .obtain⟨u2,V,aN⟩:=af j D h;have aL:=aK j D h;exact⟨u2,by rw[if_neg aL];exact V,A6.mono (cl8 (p6.chain (p6.up (E.trans ((o6.drew x).trans g))) o λ_ _ B=>B) (λb B=>by subst B;exact G.lt)) aN⟩
  .obtain rfl:j=i:=om
   refine⟨u,by rw[hy,if_pos rfl],?_⟩;rw[hy];refine al.flatR λb B=>?_;have aD:b≠r:=λe=>by
    subst e;have h1:=aJ.lt;have h2:=C9 (al.free B);omega
   rw[E4 (N:=λb=>b=r) aD];exact o.block b (al.lt B) aD
 have aE:i=p.procs.length:=by simp at hc;omega
 subst aE;simp only[n8,simprocAttr,e1,lw w5 (U _ O)];refine y4 (as2 v p w5 (hv.mono (b7 (k.trans O))) hw) ?_;rintro us x ⟨sh,rfl,hsh,E⟩;have A:=O.trans E;obtain⟨vL,bU,bT,hL,bI,bG,bE,aW,_⟩:=hsh.sh;have bk:=aW x (n7 _);have aA:=hL.isS;have aM:=hL.vlen;have bf:=az0 p;have bF:=bZ6 p;have aT:=ao1 p hw;have aG:∀it∈(d9 p).l,it.s.kind=4->it.s.proc∈p.procs.map (·.name):=λit ad h4=>aL3 K hw ad h4;generalize(d9 p).l=l at hL aA aM bf aT hF aG;simp only[eS,simprocAttr,bk,aA,aM];refine A9 [1,2,3,33,34] (σ:=Nat) (λm f d=>f 35 = .int .i64 m/\m<=l.length/\(∀j (D:j<l.length),j<m->(decide (l[j].s.kind=4) && !ao2 l[j].s (S1 p l[j].s.proc))=false)/\o6 x d) (λm=>l.length-m) 0 ?_ ?_
 .exact⟨rfl,ek1 _,λj _ h=>om,p6.refl _⟩
 rintro m f3 w7 ⟨g1,g2,g3,ax,a3,_⟩ ⟨S,bJ,ak,g⟩;rw[e2]at g2;rw[e3]at g3;have ab:=A.trans g;simp only[eS,simprocAttr,S,a3];refine A3 (λn=>?_) ?_;rotate_left
 .rintro rfl;have C:l.find? (λit=>decide (it.s.kind=4) && !ao2 it.s (S1 p it.s.proc))=none:=es7.2 λit ad=>by
   obtain⟨j,D,rfl⟩:=ep2.1 ad;rw[ak j D D];simp
  rw[C]at hF;obtain⟨w9,s1,s2,s3⟩:=H w7 ab (0,0);simp only[n8,simprocAttr,g2,aV7,s1];refine O5 results81 (by simp only[B8,simprocAttr];exact g2) s2 ?_;exact⟨by rw[hF],s3⟩
 have T:=hL.inS n;obtain⟨sv,I,F⟩:=H1 (P:=prog) (t:=156) hL (b7 g) (ej0 n) af2 af4 ac9 L4;rw[L4]at F;have aS:=aT _ (ek0 n);have aH:=aG _ (ek0 n);obtain⟨c,bX,w8,X,aa,W,aC⟩:=ax9 (I.mono (b7 g)) (n7 _);obtain⟨Y,_,_⟩:=aC.it;obtain⟨vt,bh,bj,_⟩:=Y.st_v;obtain⟨_,_,_,_,_,_,_,_,_,aX,_⟩:=Y.st;have L:=ab.trans W;have k2:=aX w8 (n7 _);have k3:=bj w8 (n7 _);have ah:=((G.mod E id).mod g id).mod W id;have Z:∀d,o6 w8 d->(decide (l[m].s.kind=4) && !ao2 l[m].s (S1 p l[m].s.proc))=false->∃s:Nat,l.length-s<l.length-m/\(Value.int .i64 (IntKind.i64.wrap ((m:Int)+1))) = .int .i64 s/\s<=l.length/\(∀j (D:j<l.length),j<s->(decide (l[j].s.kind=4) && !ao2 l[j].s (S1 p l[j].s.proc))=false)/\o6 x d:=λd bi hq=>by
  refine V1 (m+1) ⟨λj D bH=>?_,g.trans (W.trans bi)⟩;rcases en2 j m with h|h
  .exact ak j D h
  .obtain rfl:j=m:=om
   exact hq
 rcases ej1 (decide (l[m].s.kind=4))with hk4|hk4;rotate_left
 .simp only[n8,n9,A0,simprocAttr,S,ax,T,F,X,aa,k2,hk4];exact Z w8 (p6.refl _) (by rw[hk4];rfl)
 obtain⟨q,hq,bL,ba⟩:=U8 (aH (ej3 hk4));obtain⟨u,aR,V⟩:=af q hq hq;rw[ba]at aR V;have aI:=ah.lookup (P:=prog) cJ8 cM4 (z:=.slice none 0 0) ct6 l[m].s.proc;rw[aR,eo5]at aI;simp only[n8,n9,A0,simprocAttr,S,g3,ax,T,F,X,aa,k2,k3,hk4,aI];refine B6 (cC4 vt u l[m].s (S1 p l[m].s.proc) w8 bh (A6.mono (p7 (B4 _ _) (b7 (E.trans (g.trans W)))) V) aS (cD8 K _)) (λw9 ao=>?_);rcases ej1 (ao2 l[m].s (S1 p l[m].s.proc))with hsg|hsg
 .simp only[eS,simprocAttr,hsg,S];exact Z w9 ao (by rw[hk4,hsg];rfl)
 .obtain⟨bW,s1,s2,s3⟩:=H w9 (L.trans ao) (8,l[m].s.id);simp only[eS,simprocAttr,hsg,aX w9 (b7 ao),g2,aH4,s1];refine O5 results81 (by simp only[B8,simprocAttr];exact g2) s2 ?_;have C:l.find? (λit=>decide (it.s.kind=4) && !ao2 it.s (S1 p it.s.proc))=some l[m]:=et2.2 ⟨by rw[hk4,hsg];rfl,m,n,rfl,λj D=>by rw[ak j om D];rfl⟩;rw[C]at hF;exact⟨by rw[hF],s3⟩
def eq6:=@Option.bind_eq_some_iff
mutual
def cR5:∀(t:St) (k:Nat) (g j d c:Int),∀it∈ac7 t k g j d c,(it.next=d\/((k:Int)<it.next/\it.next<=(k:Int)+(ae8 t:Nat)))/\(it.loop=c\/((k:Int)<it.loop/\it.loop<=(k:Int)+(ae8 t:Nat)))
 | .mk id kind labels name proc x has args thn els,k,g,j,d,c,it,h=>by
  rw[U6]at h;rw[aC7];rcases ek9.1 h with rfl|h
  .exact⟨.inl rfl,.inl rfl⟩
  .have f:∀(l:List St) (b:Nat) (o:k<b) (i:b+B2 l<=k+(1+B2 thn+B2 els)),it∈E5 l b g (k+1) (if kind=6 then((k:Int)+1)else d) (if kind=6 then((k:Int)+1)else c)->(∀it∈E5 l b g (k+1) (if kind=6 then((k:Int)+1)else d) (if kind=6 then((k:Int)+1)else c),(it.next=(if kind=6 then((k:Int)+1)else d)\/((b:Int)<it.next/\it.next<=(b:Int)+(B2 l:Nat)))/\(it.loop=(if kind=6 then((k:Int)+1)else c)\/((b:Int)<it.loop/\it.loop<=(b:Int)+(B2 l:Nat)))) ->
     (it.next=d\/((k:Int)<it.next/\it.next<=(k:Int)+((1+B2 thn+B2 els:Nat):Int)))/\(it.loop=c\/((k:Int)<it.loop/\it.loop<=(k:Int)+((1+B2 thn+B2 els:Nat):Int))):=by
    intro l b o i hm e;obtain⟨a,m⟩:=e it hm;constructor
    .rcases a with a|⟨a,n⟩
     .split at a
      .right;omega
      .exact .inl a
     .right;omega
    .rcases m with a|⟨a,n⟩
     .split at a
      .right;omega
      .exact .inl a
     .right;omega
   simp only[St.thn,St.els];rcases ej9.1 h with h|h
   .exact f thn (k+1) om om h (aL7 thn _ _ _ _ _)
   .refine f els _ ?_ ?_ h (aL7 els _ _ _ _ _)
    .omega
    .simp only[St.thn];omega
def aL7:∀(l:List St) (k:Nat) (e f d c:Int),∀it∈E5 l k e f d c,(it.next=d\/((k:Int)<it.next/\it.next<=(k:Int)+(B2 l:Nat)))/\(it.loop=c\/((k:Int)<it.loop/\it.loop<=(k:Int)+(B2 l:Nat)))
 | [],_,_,_,_,_,it,h=>by simp[E5]at h
 | t::l,k,e,f,d,c,it,h=>by
  rw[E5]at h;rw[B2];rcases ej9.1 h with h|h
  .obtain⟨a,b⟩:=cR5 t _ _ _ _ _ it h;constructor
   .rcases a with a|a
    .split at a
     .exact .inl a
     .next g=>
      right;have:=X7 l;omega
    .right;omega
   .rcases b with a|a
    .exact .inl a
    .right;omega
  .obtain⟨a,b⟩:=aL7 l _ _ _ _ _ it h;rw[ap8]at a b;constructor
   .rcases a with a|a
    .exact .inl a
    .right;omega
   .rcases b with a|a
    .exact .inl a
    .right;omega
end
mutual
def cy3:∀(t:St) (k:Nat) (d e c b:Int),∀it∈ac7 t k d e c b,∀u,(u∈it.s.thn\/u∈it.s.els)->u∈(ac7 t k d e c b).map (·.s)
 | .mk id kind labels name proc x has args thn els,k,d,e,c,b,it,h,u,a=>by
  rw[U6]at h ⊢;simp only[en8,em6,ek9,ej9];rcases ek9.1 h with rfl|h
  .simp only[St.thn,St.els]at a;rcases a with a|a
   .exact .inr (.inl (aS9 thn _ _ _ _ _ u a))
   .exact .inr (.inr (aS9 els _ _ _ _ _ u a))
  .rcases ej9.1 h with h|h
   .exact .inr (.inl (aE6 thn _ _ _ _ _ it h u a))
   .exact .inr (.inr (aE6 els _ _ _ _ _ it h u a))
def aE6:∀(l:List St) (k:Nat) (c d b a:Int),∀it∈E5 l k c d b a,∀u,(u∈it.s.thn\/u∈it.s.els)->u∈(E5 l k c d b a).map (·.s)
 | [],_,_,_,_,_,it,h,_,_=>by simp[E5]at h
 | t::l,k,c,d,b,a,it,h,u,hu=>by
  rw[E5]at h ⊢;simp only[em6,ej9];rcases ej9.1 h with h|h
  .exact .inl (cy3 t _ _ _ _ _ it h u hu)
  .exact .inr (aE6 l _ _ _ _ _ it h u hu)
def aS9:∀(l:List St) (k:Nat) (c d b a:Int),∀u∈l,u∈(E5 l k c d b a).map (·.s)
 | [],_,_,_,_,_,u,h=>by simp at h
 | t::l,k,c,d,b,a,u,h=>by
  rw[E5];simp only[em6,ej9];rcases ek9.1 h with rfl|h
  .left;cases u;rw[U6];simp
  .exact .inr (aS9 l _ _ _ _ _ u h)
end
def aN5(d:Nat)(t:St)(l:List St)(n:Int):L3 (d+1) (t::l) n=(if n+1>200\/t.id≠n+1\/ak3 t.labels=false\/aa8 t=false then none else(L3 d t.thn (n+1)).bind λm=>L3 d t.els m).bind λm=>L3 (d+1) l m:=by
 rw[L3,List.foldlM_cons];rfl
mutual
def dI5:∀(t:St) (d:Nat) (n m:Int),t.id=n+1->((L3 d t.thn (n+1)).bind λm=>L3 d t.els m)=some m->m=n+(ae8 t:Nat)/\∀(k:Nat) (f g e b:Int) (j:Nat) (it:It),(ac7 t k f g e b)[j]?=some it->it.s.id=n+1+(j:Nat)
 | .mk id kind labels name proc x has args thn els,d,n,m,hid,h=>by
  simp only[St.id,St.thn,St.els]at hid h;obtain⟨c,i,l⟩:=eq6.1 h;obtain⟨q,o⟩:=bi0 thn d (n+1) c i;obtain⟨r,p⟩:=bi0 els d c m l;refine⟨by rw[aC7];simp only[St.thn,St.els];omega,λk f g e b j it a=>?_⟩;rw[U6]at a;cases j with
  | zero=>
   rw[List.getElem?_cons_zero]at a;obtain rfl:=el4 a;simp only[St.id];omega
  | succ j=>
   rw[List.getElem?_cons_succ]at a;rcases en2 j (B2 thn)with hlt|hge
   .rw[eo2 (by rw[J6];exact hlt)]at a;have:=o _ _ _ _ _ j it a;omega
   .rw[eo3 (by rw[J6];exact hge),J6]at a;have:=p _ _ _ _ _ _ it a;simp only[St.thn]at hge this;omega
def bi0:∀(l:List St) (d:Nat) (n m:Int),L3 d l n=some m->m=n+(B2 l:Nat)/\∀(k:Nat) (g i f e:Int) (j:Nat) (it:It),(E5 l k g i f e)[j]?=some it->it.s.id=n+1+(j:Nat)
 | [],d,n,m,h=>by
  have:m=n:=by
   cases d with
   | zero=>simp[L3]at h;exact h.symm
   | succ d=>rw[L3]at h;simp at h;exact h.symm
  subst this;exact⟨by simp[B2],λk g i f e j it a=>by simp[E5]at a⟩
 | t::l,0,n,m,h=>by simp[L3]at h
 | t::l,d+1,n,m,h=>by
  rw[aN5]at h;obtain⟨o,b,p⟩:=eq6.1 h;split at b
  .cases b
  .next q=>
   have c:t.id=n+1:=by
    rcases Decidable.em (t.id=n+1)with h|h
    .exact h
    .exact absurd (.inr (.inl h)) q
   obtain⟨u,r⟩:=dI5 t d n o c b;obtain⟨v,s⟩:=bi0 l (d+1) o m p;refine⟨by rw[B2];omega,λk g i f e j it a=>?_⟩;rw[E5]at a;rcases en2 j (ae8 t)with hlt|hge
   .rw[eo2 (by rw[ap8];exact hlt)]at a;exact r _ _ _ _ _ j it a
   .rw[eo3 (by rw[ap8];exact hge),ap8]at a;have:=s _ _ _ _ _ _ it a;omega
end
def bJ8:∀(l:List Pr) (s:Sh) (i:Nat),(l.foldlM (λn f=>Z9 f n) (s.l.length:Int)).isSome=true->(∀(j:Nat) (it:It),s.l[j]?=some it->it.s.id=(j:Int)+1)->∀(j:Nat) (it:It),(J1 s i l).l[j]?=some it->it.s.id=(j:Int)+1
 | [],s,i,_,h,j,it,a=>h j it a
 | f::l,s,i,hf,h,j,it,a=>by
  rw[List.foldlM_cons]at hf;obtain⟨n,e⟩:=eo6.1 hf;obtain⟨m,hm,d⟩:=eq6.1 e;unfold Z9 at hm;split at hm
  .cases hm
  .obtain⟨k,g⟩:=bi0 f.body 12 _ _ hm;rw[J1]at a;refine bJ8 l (H9 s i f) (i+1) ?_ (λj it a=>?_) j it a
   .simp only[H9,ej2,J6];rw[show((s.l.length+B2 f.body:Nat):Int)=m by omega,d];rfl
   .simp only[H9]at a;rcases en2 j s.l.length with c|b
    .rw[eo2 c]at a;exact h j it a
    .rw[eo3 b]at a;have:=g _ _ _ _ _ _ it a;omega
def aJ7{p:Pg}(hm:O6 p=true):∀(j:Nat) (it:It),(d9 p).l[j]?=some it->it.s.id=(j:Int)+1:=by
 simp only[O6,el3]at hm;exact bJ8 p.procs ⟨p,[],[],[]⟩ 0 hm.2 λj it a=>by simp at a
def Rg(x y:Nat)(a:Int):Prop:=a = -1\/((x:Int)<a/\a<=(y:Int))
structure az7 (p:Pg) (i x y:Nat):Prop where
 ok:bM9 (d9 p) i x y
 ids:∀it∈(d9 p).of i,(x:Int)<it.s.id/\it.s.id<=(y:Int)
 next:∀it∈(d9 p).of i,Rg x y it.next
 loop:∀it∈(d9 p).of i,it.loop=0\/((x:Int)<it.loop/\it.loop<=(y:Int))
 sub:∀it∈(d9 p).of i,∀u,(u∈it.s.thn\/u∈it.s.els)->(x:Int)<u.id/\u.id<=(y:Int)
 at_:∀a:Int,(x:Int)<a->a<=(y:Int)->(d9 p).it a∈(d9 p).of i/\((d9 p).it a).s.id=a/\(d9 p).l[(a-1).toNat]?=some ((d9 p).it a)
def K9{p:Pg}(hm:O6 p=true)(hw:C4 p<=1000000)(i:Nat)(v:i<p.procs.length):∃x,az7 p i x (x+B2 p.procs[i].body):=by
 obtain⟨x,b,q⟩:=ab9 p hw i v;have d:=aJ7 hm;have o:∀it∈(d9 p).of i,∃j:Nat,j<B2 p.procs[i].body/\(d9 p).l[x+j]?=some it:=λit h=>by
  rw[b.of_]at h;obtain⟨j,m⟩:=List.getElem?_of_mem h;rw[et5,et6]at m;split at m
  .next n=>exact⟨j,om,m⟩
  .cases m
 have k:∀it∈(d9 p).of i,(x:Int)<it.s.id/\it.s.id<=((x+B2 p.procs[i].body:Nat):Int):=λit h=>by
  obtain⟨j,m,e⟩:=o it h;have:=d _ _ e;omega
 have g:=aL7 p.procs[i].body x i 0 (-1) 0;rw[<-q]at g;have f:=aE6 p.procs[i].body x i 0 (-1) 0;rw[<-q]at f;refine⟨x,b,k,λit h=>?_,λit h=>?_,λit h u w=>?_,λa c y=>?_⟩
 .rcases(g it h).1 with c|c
  .exact .inl c
  .exact .inr ⟨c.1,om⟩
 .rcases(g it h).2 with c|c
  .exact .inl c
  .exact .inr ⟨c.1,om⟩
 .obtain⟨s,l,rfl⟩:=el2.1 (f it h u w);exact k s l
 .have t:=b.len;have n:(a-1).toNat<(d9 p).l.length:=om
  have r:(d9 p).l[(a-1).toNat]?=some ((d9 p).it a):=by
   unfold Sh.it;rw[List.getD,ej0 n];rfl
  refine⟨?_,?_,r⟩
  .rw[b.of_];refine el0 (i:=(a-1).toNat-x) ?_;rw[et5,et6,if_pos om,show x+((a-1).toNat-x)=(a-1).toNat by omega,r]
  .have:=d _ _ r;omega
def cJ5{w:World}{b:Nat}{e:Int×Int}(h:w.heap[b]?=some (.cells #[.int .i64 e.1,.int .i64 e.2] 80 (0,0))):
  (Instr.loadAt 33 (.pointer (some ⟨b,0,none⟩))).run prog w = .ok (.int .i64 e.1) w/\(Instr.loadAt 80 (.pointer (some ⟨b,0,none⟩))).run prog w = .ok (aa7 e) w:=
 ⟨F4 (i:=0) h rfl dW9,af6 h dF3 dG2 dF6 (by rw[dG0];rfl)⟩
def cL8{w:World}{b:Nat}{e:Int×Int}(h:w.heap[b]?=some (.cells #[.int .i64 e.1,.int .i64 e.2] 80 (0,0)))(a:Int×Int):
  ∃d,(Instr.storeAt 80 (.pointer (some ⟨b,0,none⟩)) (aa7 a)).run prog w = .ok () d/\d.heap[b]?=some (.cells #[.int .i64 a.1,.int .i64 a.2] 80 (0,0))/\p6 (λc=>c=b) w d:=
 aj3 (P:=prog) (cs:=#[.int .i64 a.1,.int .i64 a.2]) h dq5 rfl rfl (by simp[Value.oneCell'])
def bZ3(v:Value)(p:Pg)(w:World)(hv:SV (i5 w) v p)(hw:C4 p<=1000000):y5 prog 46 #[v] w λu f=>(u=aa7 (aS1 p)/\o6 w f):=by
 refine z6 [v] func46 rfl ?_;obtain⟨a,w1,ac,Q,ha⟩:=af7 (w:=w) (λ_=>False) hv (λ_ h=>h.elim);obtain⟨U,aB⟩:=L8.pg_v hv ha;obtain⟨rb,B,ab,m,ag,L⟩:=aH2 w1;have ad:w.heap.size<=rb:=ej7 Q.size L;have c:=Q.trans m;have o:∀f,o6 w1 f->E2 (D0 w1 λ_=>False) (i5 f):=λf h=>p7 (B4 _ _) (b7 h);have D:=λ(f:World) (h:o6 B f)=>ay5 ag h ad c;simp only[eS,simprocAttr,ac,ab,U B (o _ m)];refine B6 (cF8 v p B (hv.mono (b7 c)) hw) (λw3 t=>?_);rcases ej1 (O6 p)with hmay|hmay;rotate_left
 .obtain⟨w9,x,y,z⟩:=D w3 t (1,0);simp only[eS,simprocAttr,hmay,W4,x];refine O5 results46 (by simp only[B8,simprocAttr]) y ?_;exact⟨by rw[aS1,hmay];rfl,z⟩
 have g:aS1 p=if(Q5 p).1≠0 then Q5 p else if(ah5 p).1≠0 then ah5 p else if(aP4 p).1≠0 then aP4 p else aR6 p:=by
  rw[aS1,if_neg (by rw[hmay];simp)]
 simp only[eS,simprocAttr,hmay,U w3 (o _ (m.trans t))];refine B6 (ao0 v p w3 (hv.mono (b7 (c.trans t))) hw) (λw4 aj=>?_);have F:=t.trans aj;obtain⟨K,w5,C,ak,ah,M⟩:=aH2 w4;obtain⟨Z,W,r,ae⟩:=cL8 (e:=(0,0)) ah (Q5 p);obtain⟨l6,aA⟩:=cJ5 r;have i:B.heap.size<=K:=ej7 F.size M;have k:o6 B Z:=p6.ext_of (F.trans ak) ae λb H=>by subst H;exact i
 have q:∀(f:World) (e:Int×Int),o6 B f->f.heap[K]?=some (.cells #[.int .i64 e.1,.int .i64 e.2] 80 (0,0))->aS1 p=e->∃n,(Instr.loadAt 80 (.pointer (some ⟨K,0,none⟩))).run prog f = .ok (aa7 e) f/\(Instr.storeAt 80 (.pointer (some ⟨rb,0,none⟩)) (aa7 e)).run prog f = .ok () n/\(Instr.loadAt 80 (.pointer (some ⟨rb,0,none⟩))).run prog n = .ok (aa7 e) n/\o6 w n:=λf e hx hh _=>by
  obtain⟨n,h1,h2,h3⟩:=D f hx e;exact⟨n,(cJ5 hh).2,h1,h2,h3⟩
 rcases ej1 (decide ((Q5 p).1=0))with d1|d1;rotate_left
 .rw[if_pos (ej6 d1)]at g;obtain⟨w9,J,x,y,z⟩:=q Z _ k r g;simp only[eS,simprocAttr,C,W,l6,d1,J,x];refine O5 results46 (by simp only[B8,simprocAttr]) y ?_;exact⟨by rw[g],z⟩
 rw[if_neg (by simpa using d1)]at g;simp only[eS,simprocAttr,C,W,l6,d1,U Z (o _ (m.trans k))];refine B6 (aR8 v p Z (hv.mono (b7 (c.trans k))) hw) (λw7 R=>?_);obtain⟨w8,X,s,af⟩:=cL8 ((R.block K (ej4.1 r).1 id).trans r) (ah5 p);obtain⟨l8,_⟩:=cJ5 s;have l:o6 B w8:=p6.ext_of (k.trans R) af λb H=>by subst H;exact i
 rcases ej1 (decide ((ah5 p).1=0))with d2|d2;rotate_left
 .rw[if_pos (ej6 d2)]at g;obtain⟨w9,J,x,y,z⟩:=q w8 _ l s g;simp only[eS,simprocAttr,X,l8,d2,J,x];refine O5 results46 (by simp only[B8,simprocAttr]) y ?_;exact⟨by rw[g],z⟩
 rw[if_neg (by simpa using d2)]at g;simp only[eS,simprocAttr,X,l8,d2,U w8 (o _ (m.trans l))];refine B6 (bO0 v p w8 (hv.mono (b7 (c.trans l))) hw) (λw9 S=>?_);obtain⟨A,G,j,O⟩:=cL8 ((S.block K (ej4.1 s).1 id).trans s) (aP4 p);obtain⟨T,_⟩:=cJ5 j;have d:o6 B A:=p6.ext_of (l.trans S) O λb H=>by subst H;exact i
 rcases ej1 (decide ((aP4 p).1=0))with d3|d3;rotate_left
 .rw[if_pos (ej6 d3)]at g;obtain⟨an,J,x,y,z⟩:=q A _ d j g;simp only[eS,simprocAttr,G,T,d3,J,x];refine O5 results46 (by simp only[B8,simprocAttr]) y ?_;exact⟨by rw[g],z⟩
 rw[if_neg (by simpa using d3)]at g;simp only[eS,simprocAttr,G,T,d3,U A (o _ (m.trans d))];refine B6 (bC7 v p A (hv.mono (b7 (c.trans d))) hw) (λan E=>?_);obtain⟨Y,V,N,P⟩:=cL8 ((E.block K (ej4.1 j).1 id).trans j) (aR6 p);have I:o6 B Y:=p6.ext_of (d.trans E) P λb H=>by subst H;exact i
 obtain⟨aC,J,x,y,z⟩:=q Y _ I N g;simp only[n8,simprocAttr,V,J,x];refine O5 results46 (by simp only[B8,simprocAttr]) y ?_;exact⟨by rw[g],z⟩
def am9(v:Value)(p:Pg)(w:World)(hv:SV (i5 w) v p)(hw:C4 p<=1000000):y5 prog 13 #[v] w λu j=>(u = .bool (D4 p)/\o6 w j):=by
 refine z6 [v] func13 rfl ?_;obtain⟨a,e,c,b,f⟩:=af7 (w:=w) (λ_=>False) hv (λ_ h=>h.elim);obtain⟨g,i⟩:=L8.pg_v hv f;simp only[eS,simprocAttr,c,g e (B4 _ _)];refine B6 (bZ3 v p e (hv.mono (b7 b)) hw) (λk d=>?_);simp only[eS,simprocAttr,ax2];exact o8 results13 ⟨rfl,b.trans d⟩
structure E6 (p:Pg):Prop extends Known p where
 fits:∀it∈(d9 p).l,it.s.kind=4->an3 p it.s=true
 single:∀it∈(d9 p).l,it.s.kind=4->ao2 it.s (S1 p it.s.proc)=true
 jump:∀i (hi:i<p.procs.length),aB3 (d9 p) p.procs[i] ((d9 p).of i)=none
def aT6{s:Sh}:∀{l:List Pr} {i:Nat},W6 s i l=none->∀k (a:k<l.length),aB3 s l[k] (s.of (i+k:Nat))=none
 | [],i,_,k,a=>by simp at a
 | f::l,i,h,k,a=>by
  rw[W6]at h;split at h
  .cases h
  .next b=>
   cases k with
   | zero=>simpa using b
   | succ k=>
    have:=aT6 h k (by simpa using a);rw[show i+1+k=i+(k+1) by omega]at this;simpa using this
def bO1{s:Sh}{f:Pr}{l:List It}{e:Int×Int}(h:aB3 s f l=some e):e.1=7:=by
 unfold aB3 at h;split at h
 .obtain rfl:=el4 h;rfl
 .split at h
  .obtain rfl:=el4 h;rfl
  .cases h
def aT5{s:Sh}:∀{l:List Pr} {i:Nat} {e:Int×Int},W6 s i l=some e->e.1=7
 | [],i,e,h=>by cases h
 | f::l,i,e,h=>by
  rw[W6]at h;split at h
  .next a=>obtain rfl:=el4 h;exact bO1 a
  .exact aT5 h
def E9{p:Pg}(h:D4 p=true):E6 p:=by
 have h:=ej3 h;unfold aS1 at h;split at h
 .simp at h
 split at h
 .next c=>exact absurd h c
 next c=>
 split at h
 .next a=>exact absurd h a
 next a=>
 split at h
 .next b=>exact absurd h b
 next b=>
 have c:(Q5 p).1=0:=ew2 c;have a:(ah5 p).1=0:=ew2 a;have b:(aP4 p).1=0:=ew2 b;refine⟨bG9 c,λit d f=>?_,λit d f=>?_,λi k=>?_⟩
 .unfold ah5 at a;rw[if_neg (by rw[c];simp)]at a;split at a
  .simp at a
  .next g=>
   have:=es7.1 g it d;rw[ep1 f]at this;simpa using this
 .unfold aR6 at h;rw[if_neg (by rw[a];simp)]at h;split at h
  .simp at h
  .next g=>
   have:=es7.1 g it d;rw[ep1 f]at this;simpa using this
 .unfold aP4 at b;rw[if_neg (by rw[c];simp)]at b;have j:W6 (d9 p) 0 p.procs=none:=by
   cases hs:W6 (d9 p) 0 p.procs with
   | none=>rfl
   | some e=>
    rw[hs]at b;have:=aT5 hs;simp at b;omega
  have:=aT6 j i k
  rwa [en0]at this
def aZ7{s:Sh}:∀{l:List It} {a r:List B3},aE7 s a l = .inl r->∀it∈l,aB4 s it=true
 | [],_,_,_,it,h=>by simp at h
 | x::l,a,r,hj,it,h=>by
  rw[aE7]at hj;split at hj
  .cases hj
  .split at hj
   .next b=>
    rcases ek9.1 h with rfl|h
    .exact b
    .exact aZ7 hj it h
   .cases hj
def E6.leads{p:Pg}(b:E6 p){i:Nat}(a:i<p.procs.length):∀it∈(d9 p).of i,aB4 (d9 p) it=true:=by
 have:=b.jump i a;unfold aB3 at this;split at this
 .cases this
 .next h=>exact aZ7 h
def dP6{p:Pg}{i x y:Nat}(c:az7 p i x y){b:B3}{a:Int}(h:(d9 p).at i b=some a):Rg x y a:=by
 unfold Sh.at at h;split at h
 .next it hf=>
  obtain rfl:=el4 h;exact .inr (c.ids it (List.mem_of_find?_eq_some hf))
 .split at h
  .obtain rfl:=el4 h;exact .inl rfl
  .cases h
def cb0{p:Pg}{i x y:Nat}(c:az7 p i x y){it:It}(a:it∈(d9 p).of i){o:Int}(b:Rg x y o):Rg x y (aP2 it.s.thn o)/\Rg x y (aP2 it.s.els o):=by
 constructor
 .cases h:it.s.thn with
  | nil=>exact b
  | cons t l=>exact .inr (c.sub it a t (.inl (by rw[h];simp)))
 .cases h:it.s.els with
  | nil=>exact b
  | cons t l=>exact .inr (c.sub it a t (.inr (by rw[h];simp)))
def cI9{p:Pg}(n:E6 p)(hw:C4 p<=1000000){i x y:Nat}(l:i<p.procs.length)(b:az7 p i x y):∀it∈(d9 p).of i,∀t∈(d9 p).goes it,Rg x y t:=by
 intro it hit t ht;have c:=b.next it hit;have k:Rg x y it.s.id:=.inr (b.ids it hit);have E2:=n.leads l it hit;unfold aB4 at E2;unfold Sh.goes at ht;split at ht
 .simp only[ek9,en5,es4]at ht;rcases ht with rfl|rfl
  .exact(cb0 b hit c).1
  .exact(cb0 b hit c).2
 split at ht
 .simp only[ek9,en5,es4]at ht;rcases ht with rfl|rfl
  .exact(cb0 b hit k).1
  .exact c
 split at ht
 .next f=>
  rw[if_pos (.inl f)]at E2;have d:it.loop≠0:=by simpa using E2
  simp only[ek5]at ht;subst ht;rcases b.loop it hit with h|h
  .exact absurd h d
  .exact b.next _ (b.at_ it.loop h.1 h.2).1
 split at ht
 .next g=>
  rw[if_pos (.inr g)]at E2;have d:it.loop≠0:=by simpa using E2
  simp only[ek5]at ht;subst ht;rcases b.loop it hit with h|h
  .exact absurd h d
  .exact .inr h
 split at ht
 .simp only[ek5]at ht;subst ht;exact .inl rfl
 split at ht
 .next f g _ e=>
  have m:¬(it.s.kind=7\/it.s.kind=8):=λh=>h.elim f g;rw[if_neg m,if_pos e]at E2;simp only[ek5]at ht;subst ht;obtain⟨a,j⟩:=eo6.1 E2;rw[j];rw[aN0 p hw i l it hit]at j;exact dP6 b j
 .simp only[ek5]at ht;subst ht;exact c
def bp0{α:Type}(a:α->α->Bool){z:α}:∀(l:List α) (p:α),z∈as7 a p l->z∈l
 | [],p,h=>by simp[as7]at h
 | x::l,p,h=>by
  rw[as7]at h;split at h
  .exact ep3 _ (bp0 a l x h)
  .rcases ek9.1 h with rfl|h
   .simp
   .exact ep3 _ (bp0 a l x h)
def cQ6{α:Type}(a:α->α->Bool){z:α}:∀(l:List α),z∈ap3 a l->z∈l
 | [],h=>by simp[ap3]at h
 | x::l,h=>by
  rw[ap3]at h;rcases ek9.1 h with rfl|h
  .simp
  .exact ep3 _ (bp0 a l x h)
def bR3{α:Type}(a:α->α->Bool):∀(l:List α) (p:α),(as7 a p l).length<=l.length
 | [],p=>by simp[as7]
 | x::l,p=>by
  have:=bR3 a l x;rw[as7];split<;>simp only[em1]<;>omega
def be1{z:Sp}{l:List Sp}(h:z∈aD1 l):z∈l:=(I0 _ _).mem_iff.1 (cQ6 _ _ h)
def be0(l:List Sp):(aD1 l).length<=l.length:=by
 unfold aD1;rw[<-(I0 dz8 l).length_eq];cases ad5 dz8 l with
 | nil=>simp[ap3]
 | cons x m=>simp only[ap3,em1];have:=bR3 bl7 m x;omega
def RgS(x y:Nat)(t:Sp):Prop:=(t.src=0\/((x:Int)<t.src/\t.src<=(y:Int)))/\Rg x y t.dst
def ck3{p:Pg}{i x y:Nat}(a:az7 p i x y):Rg x y ((d9 p).first i):=by
 have b:=a.ok.lo;have c:=a.ok.hi;unfold Sh.first atI;simp only[el5,List.getD,b,c,eo5];split
 .right;omega
 .exact .inl rfl
def bK7{p:Pg}(g:E6 p)(hw:C4 p<=1000000){i x y:Nat}(f:i<p.procs.length)(d:az7 p i x y):∀t∈(d9 p).steps i,RgS x y t:=by
 intro t b;have b:=be1 b;rcases ek9.1 b with rfl|b
 .exact⟨.inl rfl,ck3 d⟩
 .obtain⟨it,c,b⟩:=em2.1 b;obtain⟨a,e,rfl⟩:=el2.1 b;exact⟨.inr (d.ids it c),cI9 g hw f d it c a e⟩
def cl6(s:Sh)(it:It):(s.goes it).length<=2:=by
 unfold Sh.goes
 repeat' split
 all_goals simp
def er5:=@List.getElem?_range
def OkR(nx:List (List Int)):Prop:=∀a,∀b∈E3 nx a,I9 nx.length b=true
def bZ5{nx:List (List Int)}(n:OkR nx):∀(m:Nat) (l:List Int),l.Nodup->(∀b∈l,I9 nx.length b=true)->nx.length<=l.length+m->∀a∈Q8 nx m l,∀b∈E3 nx a,b∈Q8 nx m l
 | 0,l,hn,hk,hl,a,ha,b,hb=>by
  rw[Q8]at ha ⊢;refine er1 λp=>?_;have t:(b::l).Nodup:=ev7.2 ⟨p,hn⟩;have u:=I5 (m:=(List.range nx.length).map λ(i:Nat)=>(i:Int)) t λc f=>by
   have o:I9 nx.length c=true:=by
    rcases ek9.1 f with rfl|f
    .exact n _ _ hb
    .exact hk c f
   have:=B5.1 o;exact el2.2 ⟨c.toNat,en3.2 om,om⟩
  simp only[em1,ek2,en9]at u;omega
 | m+1,l,hn,hk,hl,a,ha,b,hb=>by
  rw[Q8]at ha ⊢;by_cases he:aP6 nx l=[]
  .have e:l++((l.flatMap (E3 nx)).filter λb=>!l.contains b).eraseDups=l:=by
    show l++aP6 nx l=l;rw[he,em5]
   rw[e]at ha ⊢;have g:∀c∈l,∀d∈E3 nx c,d∈l:=λc f d j=>er1 λq=>by
    have:d∈aP6 nx l:=at5.2 ⟨⟨c,f,j⟩,q⟩;rw[he]at this;simp at this
   have r:∀(k:Nat),Q8 nx k l=l:=by
    intro k
    induction k with
    | zero=>rfl
    | succ k v=>rw[Q8,e,v]
   rw[r]at ha ⊢;exact g a ha b hb
  .have s:0<(aP6 nx l).length:=List.length_pos_iff.2 he;refine bZ5 n m (l++aP6 nx l) ?_ (λc f=>?_) (by rw[ej2];omega) a ha b hb
   .rw[eo0];refine⟨hn,aU1 _ _ (ek6 _),λc f d j e=>?_⟩;subst e;exact(at5.1 j).2 f
   .rcases ej9.1 f with h|h
    .exact hk c h
    .obtain⟨⟨d,_,f⟩,_⟩:=at5.1 h;exact n _ _ f
def cd7{nx:List (List Int)}(f:OkR nx){a b:Int}(e:I9 nx.length a=true):ab2 nx a b=true↔W1 nx a b:=by
 unfold ab2;rw[e,eq4,ek7];constructor
 .exact λh=>aO2 nx.length [a] (λc d=>by simp at d;subst d;exact .refl) b h
 .intro h
  induction h with
  | refl=>exact aX9 _ _ _ dP
  | step _ d g=>exact bZ5 f nx.length [a] dP (λc d=>by simp at d;subst d;exact e) dP _ g _ d
def ah1(nx:List (List Int))(stop:Nat->Bool):(aF2 nx stop).length=nx.length:=by simp[aF2]
def ay9(nx:List (List Int))(stop:Nat->Bool)(a:Int):E3 (aF2 nx stop) a=if stop a.toNat=true then[]else E3 nx a:=by
 unfold E3;rw[ah1];by_cases h:0<=a/\a<nx.length
 .have b:a.toNat<nx.length:=om
  rw[if_pos h,if_pos h];unfold aF2;rw[List.getD,em8,er5 b];simp
 .rw[if_neg h,if_neg h];simp
def aJ1{nx:List (List Int)}(h:OkR nx)(stop:Nat->Bool):OkR (aF2 nx stop):=by
 intro a b c;rw[ay9]at c;rw[ah1];split at c
 .simp at c
 .exact h a b c
def cf6{nx:List (List Int)}(h:OkR nx){a b:Int}(c:I9 nx.length a=true)(hw:W1 nx a b):I9 nx.length b=true:=by
 cases hw with
 | refl=>exact c
 | step _ d=>exact h _ _ d
def bk8{X Y:Rws}(h:leR X Y)(i:Int){x:B3}(a:x∈I8 X i):x∈I8 Y i:=h _ x a
def dd8(p:Pg){X Y:Rws}(h:leR X Y)(s:St){x:B3}(a:x∈al4 p X s):x∈al4 p Y s:=by
 unfold al4 at a ⊢;split at a
 .rename_i c;rw[if_pos c];exact a
 .rename_i c;rw[if_neg c];split at a
  .rename_i d;rw[if_pos d];exact a
  .rename_i d;rw[if_neg d];split at a
   .rename_i e;rw[if_pos e];exact a
   .rename_i e;rw[if_neg e];split at a
    .rename_i f;rw[if_pos f];unfold ax1 at a ⊢;rcases ej9.1 a with a|a
     .rcases ej9.1 a with a|a
      .exact em4 _ (em4 _ a)
      .refine em4 _ (en7 _ ?_);obtain⟨z,b,rfl⟩:=el2.1 a;refine el2.2 ⟨z,?_,rfl⟩;rw[el6]at b ⊢;refine⟨b.1,?_⟩;rw[el3,ek7]at b ⊢;exact⟨b.2.1,bk8 h _ b.2.2⟩
     .refine en7 _ ?_;rw[el6]at a ⊢;exact⟨bk8 h _ a.1,a.2⟩
    .simp at a
def dq6(p:Pg){X Y:Rws}(h:leR X Y)(s:St){x:B3}(a:x∈aw7 p X s):x∈aw7 p Y s:=by
 unfold aw7 at a ⊢;rcases ej9.1 a with a|a
 .exact em4 _ a
 .refine en7 _ ?_;split at a
  .rename_i b;rw[if_pos b];rcases ej9.1 a with a|a
   .exact em4 _ a
   .exact en7 _ (bk8 h _ a)
  .simp at a
def bU0{l:List It}{f g:It->List B3}(h:∀it,∀x∈f it,x∈g it):leR (l.map λit=>F2 (f it)) (l.map λit=>F2 (g it)):=by
 intro i x a;rw[List.getD,em8]at a ⊢;cases hi:l[i]? with
 | none=>rw[hi]at a;simp at a
 | some it=>
  rw[hi]at a;simp only[ep0,eo5]at a ⊢;exact K5.2 (h it x (K5.1 a))
def bx8{n:Nat}{f g:Nat->List B3}(h:∀i,i<n->∀x∈f i,x∈g i):leR ((List.range n).map λi=>F2 (f i)) ((List.range n).map λi=>F2 (g i)):=by
 intro i x a;rw[List.getD,em8]at a ⊢;rcases en2 i n with b|b
 .rw[er5 b]at a ⊢;simp only[ep0,eo5]at a ⊢;exact K5.2 (h i b x (K5.1 a))
 .rw[er3 (by simpa using b)]at a;simp at a
def bx9{n B:Nat}{f:Nat->List B3}(m:Nat->List B3)(h:∀i,i<n->∀x∈f i,x∈m i)(c:∀i,i<n->(m i).length<=B):P7 n B ((List.range n).map λi=>F2 (f i)):=by
 refine⟨dP,λr b=>?_,λr b=>?_⟩
 .obtain⟨i,_,rfl⟩:=el2.1 b;exact X1 _
 .obtain⟨i,d,rfl⟩:=el2.1 b;have a:=en3.1 d;exact ej7 (I5 (aC2 (X1 _)) λx e=>h i a x (K5.1 e)) (c i a)
def bW2{p:Pg}{i:Nat}{n:B3}(h:af1 p i n=true):n∈ah4::(p.globals++(p.procs.getD i cc5).params.map (·.name)):=by
 unfold af1 R6 at h;rw[eu2,eu2,ek7,ek7]at h;rcases h with(h|h)|h
 .rw[ej3 h];simp
 .simp[h]
 .exact ep3 _ (en7 _ (el2.2 ⟨_,h,rfl⟩))
def V2{p:Pg}(hm:O6 p=true){i:Nat}(j:i<p.procs.length):p.procs[i].params.length<=8:=by
 unfold O6 at hm;rw[el3]at hm;have e:=hm.2;have c:∀(l:List Pr) (n:Int),(l.foldlM (λn f=>Z9 f n) n).isSome=true->∀f∈l,f.params.length<=8:=by
  intro l
  induction l with
  | nil=>intro n _ f b;simp at b
  | cons g l q=>
   intro n h f b;rw[List.foldlM_cons]at h;obtain⟨k,o⟩:=eo6.1 h;obtain⟨m,a,d⟩:=eq6.1 o;rcases ek9.1 b with rfl|b
   .unfold Z9 at a;split at a
    .cases a
    .rename_i r;omega
   .exact q m (by rw[d];rfl) f b
 exact c _ _ e _ (ek0 j)
def Z1{p:Pg}(hm:O6 p=true):p.globals.length<=16/\p.procs.length<=16:=by
 unfold O6 at hm;simp only[el3,em7]at hm;exact⟨hm.1.1.1,hm.1.1.2⟩
def cY1{p:Pg}(hm:O6 p=true){i:Nat}(a:i<p.procs.length):(ah4::(p.globals++(p.procs.getD i cc5).params.map (·.name))).length<=25:=by
 have b:=V2 hm a;have c:=(Z1 hm).1;rw[List.getD,ej0 a];simp only[em1,ej2,ek2,eo5];omega
def bj5{p:Pg}{defs:Rws}{i:Nat}{x:B3}(h:x∈ai1 p defs i):af1 p i x=true:=by
 unfold ai1 at h;obtain⟨it,_,h⟩:=em2.1 h;exact(el6.1 h).2
def bd2{p:Pg}(hm:O6 p=true):aO7 (I2 p) p.procs.length 25 where
 mono X Y h:=by
  refine bx8 λi b x a=>?_;unfold ai1 at a ⊢;obtain⟨it,c,a⟩:=em2.1 a;refine em2.2 ⟨it,c,?_⟩;rw[el6]at a ⊢;exact⟨bk8 (bU0 λit x a=>dd8 p h _ a) _ a.1,a.2⟩
 ok X:=bx9 _ (λi b x a=>bW2 (bj5 a)) λi b=>cY1 hm b
section
variable {wy:Wy} {outs:List B3} {uses uses' defs:Rws} {name:B3}
def bU3(b:OkR wy.net)(d:wy.net.length=wy.n.toNat)(e:0<wy.n):aM7 wy outs uses defs name=true↔∃a:Nat,a<wy.n.toNat/\cz4 wy outs uses name a=true/\W1 (aF2 wy.net (bh6 wy uses defs name)) 0 a:=by
 unfold aM7;rw[ew3];constructor
 .rintro⟨a,c,h⟩;rw[el3,cd7 (aJ1 b _) (by rw[ah1,d];exact B5.2 ⟨om,om⟩)]at h;exact⟨a,en3.1 c,h⟩
 .rintro⟨a,c,h⟩;refine⟨a,en3.2 c,?_⟩;rw[el3,cd7 (aJ1 b _) (by rw[ah1,d];exact B5.2 ⟨om,om⟩)];exact h
def dj4(j:OkR wy.net)(k:wy.net.length=wy.n.toNat)(n:0<wy.n)(p:leR uses uses')(h:aM7 wy outs uses defs name=true):aM7 wy outs uses' defs name=true:=by
 rw[bU3 j k n]at h ⊢;obtain⟨a,o,f,q⟩:=h;have l:∀c,W1 (aF2 wy.net (bh6 wy uses defs name)) 0 c->W1 (aF2 wy.net (bh6 wy uses' defs name)) 0 c\/∃b:Nat,b<wy.n.toNat/\cz4 wy outs uses' name b=true/\W1 (aF2 wy.net (bh6 wy uses' defs name)) 0 b:=by
  intro c e
  induction e with
  | refl=>exact .inl .refl
  | @step b c s e d=>
   rcases d with d|d
   .rw[ay9]at e;split at e
    .simp at e
    .rename_i g;cases hs':bh6 wy uses' defs name b.toNat
     .refine .inl (.step d ?_);rw[ay9,hs',if_neg dP];exact e
     .right;have i:=cf6 (aJ1 j _) (by rw[ah1,k];exact B5.2 ⟨om,om⟩) d;rw[ah1,k]at i;obtain⟨m,r⟩:=B5.1 i;refine⟨b.toNat,om,?_,by rw[Int.toNat_of_nonneg m];exact d⟩;unfold bh6 at g hs';unfold cz4;by_cases hN:((b.toNat:Nat):Int)=wy.n-1
      .rw[ep1 hN]at g;simp at g
      .rw[er7 hN]at g hs';rw[if_neg hN];simp only[ew4,el3,eu2,not_and,not_or]at g hs';rw[el3];refine⟨hs'.1,?_⟩;rcases hs'.2 with h|h
       .exact h
       .exact absurd h (g hs'.1).2
   .exact .inr d
 rcases l a q with h|h
 .refine⟨a,o,?_,h⟩;unfold cz4 at f ⊢;split at f
  .rename_i hN;rw[if_pos hN];exact f
  .rename_i hN;rw[if_neg hN];rw[el3,ek7]at f ⊢;exact⟨f.1,bk8 p _ f.2⟩
 .exact h
end
def bq0{p:Pg}(hm:O6 p=true)(outs defs:Rws)(c:∀i,i<p.procs.length->OkR (F5 (d9 p) i).net/\(F5 (d9 p) i).net.length=(F5 (d9 p) i).n.toNat/\0<(F5 (d9 p) i).n):aO7 (U3 p outs defs) p.procs.length 25 where
 mono X Y h:=by
  refine bx8 λi b x a=>?_;unfold aP3 at a ⊢;rw[el6]at a ⊢;obtain⟨d,e,f⟩:=c i b;exact⟨a.1,dj4 d e f (bU0 λit x a=>dq6 p h _ a) a.2⟩
 ok X:=bx9 (λ_=>p.globals++[ah4]) (λi b x a=>(el6.1 a).1) λi b=>by
  have:=(Z1 hm).1;simp only[ej2,em3];omega
def E0{n:Nat}{l:List Int}:(S8 n l).length=n:=by simp[S8]
def an5{n:Nat}{l:List Int}{b:Int}:z7 (S8 n l) b=true↔I9 n b=true/\b∈l:=by
 unfold z7;rw[E0,el3];refine and_congr_right λc=>?_;have d:=B5.1 c;have a:b.toNat<n:=om
 have e:((b.toNat:Nat):Int)=b:=om
 simp[S8,List.getD_eq_getElem?_getD,em8,er5 a,e]
def ai7{S:List Bool}{b:Int}:b∈ae5 S↔z7 S b=true:=by
 unfold ae5 z7;simp only[el2,el6,en3,el3];constructor
 .rintro⟨a,⟨d,c⟩,rfl⟩;exact⟨B5.2 ⟨om,om⟩,by simpa using c⟩
 .rintro⟨d,c⟩;have:=B5.1 d;exact⟨b.toNat,⟨om,c⟩,om⟩
def cB3{S:List Bool}:(ae5 S).Nodup:=by
 unfold ae5;refine List.Pairwise.map _ (λa b h=>?_) (List.Pairwise.filter _ List.nodup_range);exact λe=>h om
def H8{nx:List (List Int)}{S:List Bool}:(I7 nx S).length=S.length:=E0
def by4{nx:List (List Int)}:∀(m:Nat) (l:List Int),∀b∈Q8 nx m l,∃a∈l,W1 nx a b
 | 0,l,b,hb=>⟨b,hb,.refl⟩
 | m+1,l,b,hb=>by
  rw[Q8]at hb;obtain⟨a,c,e⟩:=by4 m _ b hb;rcases ej9.1 c with c|c
  .exact⟨a,c,e⟩
  .obtain⟨⟨d,g,f⟩,_⟩:=at5.1 c;exact⟨d,g,(W1.one f).trans e⟩
def M3{nx:List (List Int)}{S:List Bool}(j:OkR nx)(k:nx.length=S.length){b:Int}:
  z7 (I7 nx S) b=true↔∃a,z7 S a=true/\W1 nx a b:=by
 unfold I7;rw[an5];have e:∀c∈ae5 S,I9 nx.length c=true:=λc i=>by rw[k];exact X5 (ai7.1 i)
 constructor
 .rintro⟨_,h⟩;obtain⟨a,g,f⟩:=by4 _ _ b h;exact⟨a,ai7.1 g,f⟩
 .rintro⟨a,g,f⟩;have d:=ai7.2 g;refine⟨by rw[<-k];exact cf6 j (e a d) f,?_⟩
  induction f with
  | refl=>exact aX9 _ _ _ d
  | step _ i l=>exact bZ5 j nx.length _ cB3 e om _ l _ i
def bD1{S T:List Bool}(f:S.length=T.length)(h:∀b,z7 S b=true↔z7 T b=true):S=T:=by
 refine eq2 f λk d e=>?_;have:=h (k:Int);unfold z7 at this;have a:I9 S.length (k:Int)=true:=B5.2 ⟨om,om⟩;have c:I9 T.length (k:Int)=true:=B5.2 ⟨om,om⟩;rw[a,c,eq4,eq4]at this;simp only[el5,List.getD_eq_getElem?_getD,ej0 d,ej0 e,eo5]at this;exact eu4.2 this
def bg0{V:List Vx}{v:Vx}{a:Nat}(h:atV V v=some a):V[a]?=some v:=by
 unfold atV at h;obtain⟨b,c,_⟩:=List.findIdx?_eq_some_iff_getElem.1 h;rw[ej0 b];exact el1 some (ej3 c)
def db0{V:List Vx}{v:Vx}{a:Nat}(h:atV V v=some a):a<V.length:=(ej5.1 (bg0 h)).1
def af5{V:List Vx}{v:Vx}:(atV V v).isSome=true↔v∈V:=by
 unfold atV;rw[List.findIdx?_isSome,ew3];simp
def du2{V:List Vx}(hn:V.Nodup){v:Vx}{a:Nat}(h:V[a]?=some v):atV V v=some a:=by
 have hm:v∈V:=el0 h;obtain⟨b,e⟩:=eo6.1 (af5.2 hm);obtain⟨g,c⟩:=ej5.1 h;obtain⟨i,d⟩:=ej5.1 (bg0 e);have f:=ep5.1 hn;have:a=b:=by
  rcases Nat.lt_trichotomy a b with h|h|h
  .exact absurd (c.trans d.symm) (f a b g i h)
  .exact h
  .exact absurd (d.trans c.symm) (f b a i g h)
 rw[e,this]
def Y9{V:List Vx}(b:0<V.length)(v:Vx):D6 V v<V.length:=by
 unfold D6;cases h:atV V v with
 | none=>exact b
 | some a=>exact db0 h
def cK4{n:Nat}{f:Nat->List Int}{a b:Int}:b∈E3 ((List.range n).map f) a↔I9 n a=true/\b∈f a.toNat:=by
 unfold E3;rw[ek2,en9];by_cases h:0<=a/\a<(n:Int)
 .have c:a.toNat<n:=om
  rw[if_pos h,List.getD_eq_getElem?_getD,em8,er5 c];simp[B5.2 h]
 .rw[if_neg h];simp only[en5,false_iff];exact λd=>h (B5.1 d.1)
def an7{V:List Vx}{L:List Eg}{ks:List Int}:(R3 V L ks).length=V.length:=by simp[R3]
def Z8{V:List Vx}{L:List Eg}{ks:List Int}:(Z7 V L ks).length=V.length:=by simp[Z7]
def an6{V:List Vx}{L:List Eg}{ks:List Int}{a b:Int}:b∈E3 (R3 V L ks) a↔I9 V.length a=true/\∃e∈L,e.kind∈ks/\((D6 V e.src:Nat):Int)=a/\((D6 V e.dst:Nat):Int)=b:=by
 unfold R3;rw[cK4];refine and_congr_right λh=>?_;have:=B5.1 h;simp only[el2,el6,el3,ek7,em7];constructor
 .rintro⟨e,⟨c,d,g⟩,f⟩;exact⟨e,c,d,om,f⟩
 .rintro⟨e,c,d,g,f⟩;exact⟨e,⟨c,d,om⟩,f⟩
def co1{V:List Vx}{L:List Eg}{ks:List Int}{a b:Int}:b∈E3 (Z7 V L ks) a↔I9 V.length a=true/\∃e∈L,e.kind∈ks/\((D6 V e.dst:Nat):Int)=a/\((D6 V e.src:Nat):Int)=b:=by
 unfold Z7;rw[cK4];refine and_congr_right λh=>?_;have:=B5.1 h;simp only[el2,el6,el3,ek7,em7];constructor
 .rintro⟨e,⟨c,d,g⟩,f⟩;exact⟨e,c,d,om,f⟩
 .rintro⟨e,c,d,g,f⟩;exact⟨e,⟨c,d,om⟩,f⟩
def au9{V:List Vx}(a:0<V.length)(v:Vx):I9 V.length ((D6 V v:Nat):Int)=true:=B5.2 ⟨om,by have:=Y9 a v;omega⟩
def at7{V:List Vx}{L:List Eg}{ks:List Int}(c:0<V.length):OkR (R3 V L ks):=λa b d=>by
 obtain⟨_,e,_,_,_,rfl⟩:=an6.1 d;rw[an7];exact au9 c _
def ae4{V:List Vx}{L:List Eg}{ks:List Int}(c:0<V.length):OkR (Z7 V L ks):=λa b d=>by
 obtain⟨_,e,_,_,_,rfl⟩:=co1.1 d;rw[Z8];exact au9 c _
def bU5{V:List Vx}{L:List Eg}{ks:List Int}(f:0<V.length){a b:Int}:b∈E3 (R3 V L ks) a↔a∈E3 (Z7 V L ks) b:=by
 rw[an6,co1];constructor
 .rintro⟨_,e,c,d,rfl,rfl⟩;exact⟨au9 f _,e,c,d,rfl,rfl⟩
 .rintro⟨_,e,c,d,rfl,rfl⟩;exact⟨au9 f _,e,c,d,rfl,rfl⟩
def S9{V:List Vx}{L:List Eg}{ks:List Int}(e:0<V.length){a b:Int}:W1 (R3 V L ks) a b↔W1 (Z7 V L ks) b a:=by
 constructor
 .intro h
  induction h with
  | refl=>exact .refl
  | step _ c d=>exact(W1.one ((bU5 e).1 c)).trans d
 .intro h
  induction h with
  | refl=>exact .refl
  | step _ c d=>exact(W1.one ((bU5 e).2 c)).trans d
def dG6(V:List Vx)(L:List Eg)(a b:Int):Prop:=∃m,W1 (R3 V L [1,2,3,6]) a m/\W1 (R3 V L [1,2,3,4,5]) m b
def ax5{α:Type}[BEq α][LawfulBEq α]:∀(n:Nat) (l:List α),l.length<=n->l.eraseDups.Nodup
 | _,[],_=>dP
 | 0,x::l,h=>by simp at h
 | n+1,x::l,h=>by
  rw[List.eraseDups_cons,ev7];refine⟨λhm=>?_,ax5 n _ (ej7 (el8 _ _) (by simpa using h))⟩;rw[List.mem_eraseDups,el6]at hm;simp at hm
def at4{V:List Vx}{b:Nat}{a:B3}{x e:Eg}:e∈aA9 V b a x↔(x.kind=6/\D6 V x.src=b)/\∃v,V[D6 V x.dst]?=some v/\(⟨v.proc,5,v.id,a⟩:Vx)∈V/\e=⟨⟨v.proc,5,v.id,a⟩,v,3⟩:=by
 unfold aA9;by_cases h:x.kind=(6:Int)/\D6 V x.src=b
 .rw[if_pos h];cases hv:V[(D6 V x.dst:Nat)]? with
  | none=>simp
  | some v=>
   by_cases h2:(atV V ⟨v.proc,5,v.id,a⟩).isSome=true
   .simp[h2,h,af5.1 h2]
   .have d:(⟨v.proc,5,v.id,a⟩:Vx)∉V:=λc=>h2 (af5.2 c);simp[h2,d]
 .rw[if_neg h];simp only[en5,false_iff];exact λc=>h c.1
def aE1(V:List Vx)(L:List Eg)(e:Eg):Prop:=
 ∃(a:Nat) (c:Vx) (i:Int) (b:Vx),V[a]?=some c/\c.kind=4/\W1 (R3 V L [1,2,3]) i (a:Int)/\V[i.toNat]?=some b/\b.kind=3/\∃x∈L,e∈aA9 V a b.slot x
def di9{V:List Vx}{L:List Eg}{e:Eg}:e∈ce3 V L↔aE1 V L e:=by
 unfold ce3 aE1;simp only[em2,en3];have k:∀(b:Nat),0<V.length->∀i:Int,i∈ae5 (I7 (Z7 V L [1,2,3]) (S8 V.length [(b:Int)]))↔I9 V.length (b:Int)=true/\W1 (R3 V L [1,2,3]) i (b:Int):=λb f i=>by
  rw[ai7,M3 (ae4 f) (by rw[Z8,E0])];constructor
  .rintro⟨a,q,g⟩;obtain⟨j,l⟩:=an5.1 q;simp at l;subst l;exact⟨j,(S9 f).2 g⟩
  .rintro⟨j,g⟩;exact⟨_,an5.2 ⟨j,dP⟩,(S9 f).1 g⟩
 constructor
 .rintro⟨b,d,c⟩;have f:0<V.length:=om
  rw[ej0 d]at c;dsimp only at c;by_cases hk:V[b].kind=(4:Int)
  .rw[if_neg (λh=>h hk)]at c;unfold ce4 at c;obtain⟨i,r,c⟩:=em2.1 c;obtain⟨_,g⟩:=(k b f i).1 r;cases hvi:V[i.toNat]? with
   | none=>rw[hvi]at c;simp at c
   | some n=>
    rw[hvi]at c;dsimp only at c;by_cases hki:n.kind=(3:Int)
    .rw[if_neg (λh=>h hki)]at c;obtain⟨x,m,c⟩:=em2.1 c;exact⟨b,V[b],i,n,ej0 d,hk,g,hvi,hki,x,m,c⟩
    .rw[if_pos hki]at c;simp at c
  .rw[if_pos hk]at c;simp at c
 .rintro⟨b,t,i,n,j,l,g,o,p,x,m,c⟩;obtain⟨d,s⟩:=ej5.1 j;have f:0<V.length:=om
  refine⟨b,d,?_⟩;rw[j];dsimp only;rw[if_neg (λh=>h l)];unfold ce4;refine em2.2 ⟨i,(k b f i).2 ⟨B5.2 ⟨om,om⟩,g⟩,?_⟩;rw[o];dsimp only;rw[if_neg (λh=>h p)];exact em2.2 ⟨x,m,c⟩
def bL9{V:List Vx}{L M:List Eg}{ks:List Int}(h:∀e∈L,e∈M){a b:Int}(hw:W1 (R3 V L ks) a b):W1 (R3 V M ks) a b:=by
 induction hw with
 | refl=>exact .refl
 | step _ i k=>
  obtain⟨c,e,j,d,f,g⟩:=an6.1 i;exact .step k (an6.2 ⟨c,e,h e j,d,f,g⟩)
def aE1.le{V:List Vx}{L M:List Eg}(h:∀e∈L,e∈M){e:Eg}(a:aE1 V L e):aE1 V M e:=by
 obtain⟨b,m,i,l,c,d,j,f,g,x,k,a⟩:=a;exact⟨b,m,i,l,c,d,bL9 h j,f,g,x,h x k,a⟩
def bY4(V:List Vx)(E S:List Eg):Prop:=∀e,aE1 V (E++S) e->e∈S
def bH9{V:List Vx}{E S:List Eg}{e:Eg}:e∈ab5 V E S↔e∈S\/aE1 V (E++S) e:=by
 unfold ab5;rw[ej9,List.mem_eraseDups,el6,di9];by_cases h:e∈S
 .simp[h]
 .simp[h]
def bG7{V:List Vx}{E C:List Eg}(c:bY4 V E C):∀(k:Nat) (S:List Eg),(∀e∈S,e∈C)->∀e∈G5 (ab5 V E) k S,e∈C
 | 0,S,h,e,he=>h e he
 | k+1,S,h,e,he=>by
  refine bG7 c k _ (λx a=>?_) e he;rcases bH9.1 a with a|a
  .exact h x a
  .refine c x (a.le λy b=>?_);rcases ej9.1 b with b|b
   .exact em4 _ b
   .exact en7 _ (h y b)
def cd3(V:List Vx):List Eg:=V.flatMap λa=>V.map λb=>⟨a,b,3⟩
def cV9{V:List Vx}:(cd3 V).length=V.length*V.length:=by
 have:∀(l:List Vx),(l.flatMap λa=>V.map λb=>(⟨a,b,3⟩:Eg)).length=l.length*V.length:=λl=>by
  induction l with
  | nil=>simp
  | cons x l c=>rw[es5,ej2,c,ek2,em1,Nat.succ_mul];omega
 exact this V
def aE1.pair{V:List Vx}{L:List Eg}{e:Eg}(h:aE1 V L e):e∈cd3 V:=by
 obtain⟨_,_,_,_,_,_,_,_,_,x,_,a⟩:=h;obtain⟨_,v,b,hm,rfl⟩:=at4.1 a;exact em2.2 ⟨_,hm,el2.2 ⟨v,el0 b,rfl⟩⟩
def cD2{V:List Vx}{E S:List Eg}(h:S.Nodup):(ab5 V E S).Nodup:=by
 unfold ab5;rw[eo0];refine⟨h,ax5 _ _ (ek6 _),λa d b c e=>?_⟩;subst e;rw[List.mem_eraseDups,el6]at c;simp at c;exact c.2 d
def iter_ok{V:List Vx}{E:List Eg}:∀(k:Nat) (S:List Eg),S.Nodup->(∀e∈S,e∈cd3 V)->(G5 (ab5 V E) k S).Nodup/\∀e∈G5 (ab5 V E) k S,e∈cd3 V
 | 0,S,h1,h2=>⟨h1,h2⟩
 | k+1,S,h1,h2=>iter_ok k _ (cD2 h1) λe a=>by
  rcases bH9.1 a with h|h
  .exact h2 e h
  .exact h.pair
def cX6{V:List Vx}{E S:List Eg}(h:ab5 V E S≠S):S.length+1<=(ab5 V E S).length:=by
 unfold ab5 at h ⊢;rw[ej2];cases hz:((ce3 V (E++S)).filter λe=>!S.contains e).eraseDups with
 | nil=>rw[hz]at h;simp at h
 | cons x l=>simp
def bS8{V:List Vx}{E:List Eg}:∃k,k<=V.length*V.length+1/\ab5 V E (G5 (ab5 V E) k [])=G5 (ab5 V E) k []:=by
 refine er1 λc=>?_;have a:∀k,k<=V.length*V.length+1->k<=(G5 (ab5 V E) k []).length:=by
  intro k
  induction k with
  | zero=>intro _;exact ek1 _
  | succ k g=>
   intro i;rw[aa9];have:=cX6 (λb=>c ⟨k,om,b⟩);have:=g om;omega
 have h:=a _ (ek6 _);obtain⟨d,f⟩:=iter_ok (V:=V) (E:=E) (V.length*V.length+1) [] dP (λe b=>by simp at b);have:=I5 d f;rw[cV9]at this;omega
def aF3{V:List Vx}{E:List Eg}:bY4 V E (aw2 V E):=by
 obtain⟨k,c,a⟩:=bS8 (V:=V) (E:=E);unfold aw2;rw[aE5 k _ _ c a];intro e b;rw[<-a];exact bH9.2 (.inr b)
def be2{V:List Vx}{E C:List Eg}(a:bY4 V E C):∀e∈aw2 V E,e∈C:=by
 obtain⟨k,c,d⟩:=bS8 (V:=V) (E:=E);unfold aw2;rw[aE5 k _ _ c d];exact bG7 a k [] (λe b=>by simp at b)
def dA1{V:List Vx}{E C:List Eg}(a:bY4 V E C)(b:∀e∈C,e∈aw2 V E):∀e,e∈C↔e∈aw2 V E:=λe=>⟨b e,be2 a e⟩
def bW0{V:List Vx}{E C:List Eg}(c:∀e∈C,e∈aw2 V E){e:Eg}(b:aE1 V (E++C) e):e∈aw2 V E:=aF3 e (b.le λy a=>by
 rcases ej9.1 a with a|a
 .exact em4 _ a
 .exact en7 _ (c y a))
def bm9{V:List Vx}{L M:List Eg}{ks:List Int}(h:∀e,e∈L↔e∈M){a b:Int}:W1 (R3 V L ks) a b↔W1 (R3 V M ks) a b:=⟨bL9 λe c=>(h e).1 c,bL9 λe c=>(h e).2 c⟩
end Go.Proofs.YtpebpfiglfmegaaGreat
namespace Go.Proofs
open Go.Shelf
def Tryz.lySortV_ren:Go.Shelf.Ren:=⟨fun|6=>145|15=>101|14=>205|28=>168|29=>169|20=>263|21=>264|22=>265|23=>266|24=>267|25=>268|26=>269|27=>270|46=>294|47=>221|48=>222|49=>295|50=>296|57=>315|n=>n,fun|22=>35|24=>27|25=>172|3=>3|39=>164|0=>0|53=>238|55=>240|4=>4|46=>231|45=>230|50=>85|5=>5|9=>9|66=>279|70=>283|76=>324|77=>325|n=>n,fun|n=>n⟩
def Tryz.lySortV:Go.Proofs.SlLaysF0.n6 Tryz.prog Tryz.lySortV_ren:={
 mixed:=kr
 f6:=⟨Tryz.f145.name,dQ,tT Tryz.func145⟩
 f14:=⟨Tryz.f205.name,dQ,tT Tryz.func205⟩
 f15:=tT Tryz.func101
 f20:=⟨Tryz.f263.name,dQ,tT Tryz.func263⟩
 f21:=⟨Tryz.f264.name,dQ,tT Tryz.func264⟩
 f22:=⟨Tryz.f265.name,dQ,tT Tryz.func265⟩
 f23:=⟨Tryz.f266.name,dQ,tT Tryz.func266⟩
 f24:=⟨Tryz.f267.name,dQ,tT Tryz.func267⟩
 f25:=⟨Tryz.f268.name,dQ,tT Tryz.func268⟩
 f26:=⟨Tryz.f269.name,dQ,tT Tryz.func269⟩
 f27:=⟨Tryz.f270.name,dQ,tT Tryz.func270⟩
 f28:=tT Tryz.func168
 f29:=tT Tryz.func169
 f46:=⟨Tryz.f294.name,dQ,tT Tryz.func294⟩
 f47:=tT Tryz.func221
 f48:=tT Tryz.func222
 f49:=⟨Tryz.f295.name,dQ,tT Tryz.func295⟩
 f50:=⟨Tryz.f296.name,dQ,tT Tryz.func296⟩
 f57:=⟨Tryz.f315.name,dQ,tT Tryz.func315⟩
 t0:=Tryz.underlying0
 a0:=Tryz.isAgg0
 z0:=Tryz.sizeOf0
 v0:=Tryz.zeroValue0
 t3:=Tryz.underlying3
 a3:=Tryz.isAgg3
 z3:=Tryz.sizeOf3
 v3:=Tryz.zeroValue3
 t4:=Tryz.underlying4
 a4:=Tryz.isAgg4
 z4:=Tryz.sizeOf4
 v4:=Tryz.zeroValue4
 t5:=Tryz.underlying5
 a5:=Tryz.isAgg5
 z5:=Tryz.sizeOf5
 v5:=Tryz.zeroValue5
 t9:=Tryz.underlying9
 a9:=Tryz.isAgg9
 z9:=Tryz.sizeOf9
 v9:=Tryz.zeroValue9
 t22:=Tryz.underlying35
 a22:=Tryz.isAgg35
 z22:=Tryz.sizeOf35
 v22:=Tryz.zeroValue35
 t25:=Tryz.underlying172
 a25:=Tryz.isAgg172
 z25:=Tryz.sizeOf172
 v25:=Tryz.zeroValue172
 t39:=Tryz.underlying164
 a39:=Tryz.isAgg164
 z39:=Tryz.sizeOf164
 v39:=Tryz.zeroValue164
 t45:=Tryz.underlying230
 a45:=Tryz.isAgg230
 z45:=Tryz.sizeOf230
 v45:=Tryz.zeroValue230
 t46:=Tryz.underlying231
 a46:=Tryz.isAgg231
 z46:=Tryz.sizeOf231
 v46:=Tryz.zeroValue231
 t50:=Tryz.underlying85
 a50:=Tryz.isAgg85
 z50:=Tryz.sizeOf85
 v50:=Tryz.zeroValue85
 t53:=Tryz.underlying238
 a53:=Tryz.isAgg238
 z53:=Tryz.sizeOf238
 v53:=Tryz.zeroValue238
 t55:=Tryz.underlying240
 a55:=Tryz.isAgg240
 z55:=Tryz.sizeOf240
 v55:=Tryz.zeroValue240
 t66:=Tryz.underlying279
 a66:=Tryz.isAgg279
 z66:=Tryz.sizeOf279
 v66:=Tryz.zeroValue279
 t70:=Tryz.underlying283
 a70:=Tryz.isAgg283
 z70:=Tryz.sizeOf283
 v70:=Tryz.zeroValue283
 t76:=Tryz.underlying324
 a76:=Tryz.isAgg324
 z76:=Tryz.sizeOf324
 v76:=Tryz.zeroValue324
 t77:=Tryz.underlying325
 a77:=Tryz.isAgg325
 z77:=Tryz.sizeOf325
 v77:=Tryz.zeroValue325}
def Tryz.lySortF_ren:Go.Shelf.Ren:=⟨fun|6=>215|15=>101|14=>277|28=>168|29=>169|20=>301|21=>302|22=>303|23=>304|24=>305|25=>306|26=>307|27=>308|46=>322|47=>221|48=>222|49=>323|50=>324|57=>339|n=>n,fun|22=>210|24=>213|25=>276|3=>3|39=>164|0=>0|53=>238|55=>240|4=>4|46=>231|45=>230|50=>85|5=>5|9=>9|66=>279|70=>283|76=>324|77=>325|n=>n,fun|n=>n⟩
def Tryz.lySortF:Go.Proofs.SlLaysF0.n6 Tryz.prog Tryz.lySortF_ren:={
 mixed:=kr
 f6:=⟨Tryz.f215.name,dQ,tT Tryz.func215⟩
 f14:=⟨Tryz.f277.name,dQ,tT Tryz.func277⟩
 f15:=tT Tryz.func101
 f20:=⟨Tryz.f301.name,dQ,tT Tryz.func301⟩
 f21:=⟨Tryz.f302.name,dQ,tT Tryz.func302⟩
 f22:=⟨Tryz.f303.name,dQ,tT Tryz.func303⟩
 f23:=⟨Tryz.f304.name,dQ,tT Tryz.func304⟩
 f24:=⟨Tryz.f305.name,dQ,tT Tryz.func305⟩
 f25:=⟨Tryz.f306.name,dQ,tT Tryz.func306⟩
 f26:=⟨Tryz.f307.name,dQ,tT Tryz.func307⟩
 f27:=⟨Tryz.f308.name,dQ,tT Tryz.func308⟩
 f28:=tT Tryz.func168
 f29:=tT Tryz.func169
 f46:=⟨Tryz.f322.name,dQ,tT Tryz.func322⟩
 f47:=tT Tryz.func221
 f48:=tT Tryz.func222
 f49:=⟨Tryz.f323.name,dQ,tT Tryz.func323⟩
 f50:=⟨Tryz.f324.name,dQ,tT Tryz.func324⟩
 f57:=⟨Tryz.f339.name,dQ,tT Tryz.func339⟩
 t0:=Tryz.underlying0
 a0:=Tryz.isAgg0
 z0:=Tryz.sizeOf0
 v0:=Tryz.zeroValue0
 t3:=Tryz.underlying3
 a3:=Tryz.isAgg3
 z3:=Tryz.sizeOf3
 v3:=Tryz.zeroValue3
 t4:=Tryz.underlying4
 a4:=Tryz.isAgg4
 z4:=Tryz.sizeOf4
 v4:=Tryz.zeroValue4
 t5:=Tryz.underlying5
 a5:=Tryz.isAgg5
 z5:=Tryz.sizeOf5
 v5:=Tryz.zeroValue5
 t9:=Tryz.underlying9
 a9:=Tryz.isAgg9
 z9:=Tryz.sizeOf9
 v9:=Tryz.zeroValue9
 t22:=Tryz.underlying210
 a22:=Tryz.isAgg210
 z22:=Tryz.sizeOf210
 v22:=Tryz.zeroValue210
 t25:=Tryz.underlying276
 a25:=Tryz.isAgg276
 z25:=Tryz.sizeOf276
 v25:=Tryz.zeroValue276
 t39:=Tryz.underlying164
 a39:=Tryz.isAgg164
 z39:=Tryz.sizeOf164
 v39:=Tryz.zeroValue164
 t45:=Tryz.underlying230
 a45:=Tryz.isAgg230
 z45:=Tryz.sizeOf230
 v45:=Tryz.zeroValue230
 t46:=Tryz.underlying231
 a46:=Tryz.isAgg231
 z46:=Tryz.sizeOf231
 v46:=Tryz.zeroValue231
 t50:=Tryz.underlying85
 a50:=Tryz.isAgg85
 z50:=Tryz.sizeOf85
 v50:=Tryz.zeroValue85
 t53:=Tryz.underlying238
 a53:=Tryz.isAgg238
 z53:=Tryz.sizeOf238
 v53:=Tryz.zeroValue238
 t55:=Tryz.underlying240
 a55:=Tryz.isAgg240
 z55:=Tryz.sizeOf240
 v55:=Tryz.zeroValue240
 t66:=Tryz.underlying279
 a66:=Tryz.isAgg279
 z66:=Tryz.sizeOf279
 v66:=Tryz.zeroValue279
 t70:=Tryz.underlying283
 a70:=Tryz.isAgg283
 z70:=Tryz.sizeOf283
 v70:=Tryz.zeroValue283
 t76:=Tryz.underlying324
 a76:=Tryz.isAgg324
 z76:=Tryz.sizeOf324
 v76:=Tryz.zeroValue324
 t77:=Tryz.underlying325
 a77:=Tryz.isAgg325
 z77:=Tryz.sizeOf325
 v77:=Tryz.zeroValue325}
def Tryz.lySortE_ren:Go.Shelf.Ren:=⟨fun|6=>108|15=>101|14=>180|28=>168|29=>169|20=>237|21=>238|22=>239|23=>240|24=>241|25=>242|26=>243|27=>244|46=>283|47=>221|48=>222|49=>284|50=>285|57=>310|n=>n,fun|22=>49|24=>54|25=>173|3=>3|39=>164|0=>0|53=>238|55=>240|4=>4|46=>231|45=>230|50=>85|5=>5|9=>9|66=>279|70=>283|76=>324|77=>325|n=>n,fun|n=>n⟩
def Tryz.lySortE:Go.Proofs.SlLaysF0.n6 Tryz.prog Tryz.lySortE_ren:={
 mixed:=kr
 f6:=⟨Tryz.f108.name,dQ,tT Tryz.func108⟩
 f14:=⟨Tryz.f180.name,dQ,tT Tryz.func180⟩
 f15:=tT Tryz.func101
 f20:=⟨Tryz.f237.name,dQ,tT Tryz.func237⟩
 f21:=⟨Tryz.f238.name,dQ,tT Tryz.func238⟩
 f22:=⟨Tryz.f239.name,dQ,tT Tryz.func239⟩
 f23:=⟨Tryz.f240.name,dQ,tT Tryz.func240⟩
 f24:=⟨Tryz.f241.name,dQ,tT Tryz.func241⟩
 f25:=⟨Tryz.f242.name,dQ,tT Tryz.func242⟩
 f26:=⟨Tryz.f243.name,dQ,tT Tryz.func243⟩
 f27:=⟨Tryz.f244.name,dQ,tT Tryz.func244⟩
 f28:=tT Tryz.func168
 f29:=tT Tryz.func169
 f46:=⟨Tryz.f283.name,dQ,tT Tryz.func283⟩
 f47:=tT Tryz.func221
 f48:=tT Tryz.func222
 f49:=⟨Tryz.f284.name,dQ,tT Tryz.func284⟩
 f50:=⟨Tryz.f285.name,dQ,tT Tryz.func285⟩
 f57:=⟨Tryz.f310.name,dQ,tT Tryz.func310⟩
 t0:=Tryz.underlying0
 a0:=Tryz.isAgg0
 z0:=Tryz.sizeOf0
 v0:=Tryz.zeroValue0
 t3:=Tryz.underlying3
 a3:=Tryz.isAgg3
 z3:=Tryz.sizeOf3
 v3:=Tryz.zeroValue3
 t4:=Tryz.underlying4
 a4:=Tryz.isAgg4
 z4:=Tryz.sizeOf4
 v4:=Tryz.zeroValue4
 t5:=Tryz.underlying5
 a5:=Tryz.isAgg5
 z5:=Tryz.sizeOf5
 v5:=Tryz.zeroValue5
 t9:=Tryz.underlying9
 a9:=Tryz.isAgg9
 z9:=Tryz.sizeOf9
 v9:=Tryz.zeroValue9
 t22:=Tryz.underlying49
 a22:=Tryz.isAgg49
 z22:=Tryz.sizeOf49
 v22:=Tryz.zeroValue49
 t25:=Tryz.underlying173
 a25:=Tryz.isAgg173
 z25:=Tryz.sizeOf173
 v25:=Tryz.zeroValue173
 t39:=Tryz.underlying164
 a39:=Tryz.isAgg164
 z39:=Tryz.sizeOf164
 v39:=Tryz.zeroValue164
 t45:=Tryz.underlying230
 a45:=Tryz.isAgg230
 z45:=Tryz.sizeOf230
 v45:=Tryz.zeroValue230
 t46:=Tryz.underlying231
 a46:=Tryz.isAgg231
 z46:=Tryz.sizeOf231
 v46:=Tryz.zeroValue231
 t50:=Tryz.underlying85
 a50:=Tryz.isAgg85
 z50:=Tryz.sizeOf85
 v50:=Tryz.zeroValue85
 t53:=Tryz.underlying238
 a53:=Tryz.isAgg238
 z53:=Tryz.sizeOf238
 v53:=Tryz.zeroValue238
 t55:=Tryz.underlying240
 a55:=Tryz.isAgg240
 z55:=Tryz.sizeOf240
 v55:=Tryz.zeroValue240
 t66:=Tryz.underlying279
 a66:=Tryz.isAgg279
 z66:=Tryz.sizeOf279
 v66:=Tryz.zeroValue279
 t70:=Tryz.underlying283
 a70:=Tryz.isAgg283
 z70:=Tryz.sizeOf283
 v70:=Tryz.zeroValue283
 t76:=Tryz.underlying324
 a76:=Tryz.isAgg324
 z76:=Tryz.sizeOf324
 v76:=Tryz.zeroValue324
 t77:=Tryz.underlying325
 a77:=Tryz.isAgg325
 z77:=Tryz.sizeOf325
 v77:=Tryz.zeroValue325}
def Tryz.lySortP_ren:Go.Shelf.Ren:=⟨fun|6=>288|15=>101|14=>311|28=>168|29=>169|20=>325|21=>326|22=>327|23=>328|24=>329|25=>330|26=>331|27=>332|46=>340|47=>221|48=>222|49=>341|50=>342|57=>344|n=>n,fun|22=>222|24=>302|25=>332|3=>3|39=>164|0=>0|53=>238|55=>240|4=>4|46=>231|45=>230|50=>85|5=>5|9=>9|66=>279|70=>283|76=>324|77=>325|n=>n,fun|n=>n⟩
def Tryz.lySortP:Go.Proofs.SlLaysF0.n6 Tryz.prog Tryz.lySortP_ren:={
 mixed:=kr
 f6:=⟨Tryz.f288.name,dQ,tT Tryz.func288⟩
 f14:=⟨Tryz.f311.name,dQ,tT Tryz.func311⟩
 f15:=tT Tryz.func101
 f20:=⟨Tryz.f325.name,dQ,tT Tryz.func325⟩
 f21:=⟨Tryz.f326.name,dQ,tT Tryz.func326⟩
 f22:=⟨Tryz.f327.name,dQ,tT Tryz.func327⟩
 f23:=⟨Tryz.f328.name,dQ,tT Tryz.func328⟩
 f24:=⟨Tryz.f329.name,dQ,tT Tryz.func329⟩
 f25:=⟨Tryz.f330.name,dQ,tT Tryz.func330⟩
 f26:=⟨Tryz.f331.name,dQ,tT Tryz.func331⟩
 f27:=⟨Tryz.f332.name,dQ,tT Tryz.func332⟩
 f28:=tT Tryz.func168
 f29:=tT Tryz.func169
 f46:=⟨Tryz.f340.name,dQ,tT Tryz.func340⟩
 f47:=tT Tryz.func221
 f48:=tT Tryz.func222
 f49:=⟨Tryz.f341.name,dQ,tT Tryz.func341⟩
 f50:=⟨Tryz.f342.name,dQ,tT Tryz.func342⟩
 f57:=⟨Tryz.f344.name,dQ,tT Tryz.func344⟩
 t0:=Tryz.underlying0
 a0:=Tryz.isAgg0
 z0:=Tryz.sizeOf0
 v0:=Tryz.zeroValue0
 t3:=Tryz.underlying3
 a3:=Tryz.isAgg3
 z3:=Tryz.sizeOf3
 v3:=Tryz.zeroValue3
 t4:=Tryz.underlying4
 a4:=Tryz.isAgg4
 z4:=Tryz.sizeOf4
 v4:=Tryz.zeroValue4
 t5:=Tryz.underlying5
 a5:=Tryz.isAgg5
 z5:=Tryz.sizeOf5
 v5:=Tryz.zeroValue5
 t9:=Tryz.underlying9
 a9:=Tryz.isAgg9
 z9:=Tryz.sizeOf9
 v9:=Tryz.zeroValue9
 t22:=Tryz.underlying222
 a22:=Tryz.isAgg222
 z22:=Tryz.sizeOf222
 v22:=Tryz.zeroValue222
 t25:=Tryz.underlying332
 a25:=Tryz.isAgg332
 z25:=Tryz.sizeOf332
 v25:=Tryz.zeroValue332
 t39:=Tryz.underlying164
 a39:=Tryz.isAgg164
 z39:=Tryz.sizeOf164
 v39:=Tryz.zeroValue164
 t45:=Tryz.underlying230
 a45:=Tryz.isAgg230
 z45:=Tryz.sizeOf230
 v45:=Tryz.zeroValue230
 t46:=Tryz.underlying231
 a46:=Tryz.isAgg231
 z46:=Tryz.sizeOf231
 v46:=Tryz.zeroValue231
 t50:=Tryz.underlying85
 a50:=Tryz.isAgg85
 z50:=Tryz.sizeOf85
 v50:=Tryz.zeroValue85
 t53:=Tryz.underlying238
 a53:=Tryz.isAgg238
 z53:=Tryz.sizeOf238
 v53:=Tryz.zeroValue238
 t55:=Tryz.underlying240
 a55:=Tryz.isAgg240
 z55:=Tryz.sizeOf240
 v55:=Tryz.zeroValue240
 t66:=Tryz.underlying279
 a66:=Tryz.isAgg279
 z66:=Tryz.sizeOf279
 v66:=Tryz.zeroValue279
 t70:=Tryz.underlying283
 a70:=Tryz.isAgg283
 z70:=Tryz.sizeOf283
 v70:=Tryz.zeroValue283
 t76:=Tryz.underlying324
 a76:=Tryz.isAgg324
 z76:=Tryz.sizeOf324
 v76:=Tryz.zeroValue324
 t77:=Tryz.underlying325
 a77:=Tryz.isAgg325
 z77:=Tryz.sizeOf325
 v77:=Tryz.zeroValue325}
end Go.Proofs
namespace Go.Proofs.YtpebpfiglfmegaaGreat
open Go Tryz
section
variable {α:Type} [A6 α] {P:Program} {h:Hp} {w:World} {t T sz by_:Nat} {v:Value} {x:α}
def ci1(hv:SV h v x)(hw:E2 h (i5 w)):∃a c,(Instr.box T v).run P w = .ok (.pointer (some a)) c/\Gr w c/\At (i5 c) a x:=by
 obtain⟨b,rfl,d⟩:=hv;refine⟨⟨w.heap.size,0,none⟩,w.alloc (.cells (List.toArray b) T),rfl,Gr.alloc _ _,b,A6.mono (p7 hw (b7 (o6.alloc w (.cells (List.toArray b) T)))) d,λj u e=>?_⟩;rw[<-an1,add_lit,en0,ev4];simpa using e
def dx8(q:G7 P t T sz by_=true){xs:List Value}{ys:List α}{parts:Array (Nat×Value)}{n:Nat}(m:parts.toList=(xs.zipIdx 0).map λp=>(p.2,p.1))
  (b:Q9 h (xs.flatMap (·.cells.toList)) ys) (r:∀x∈xs,x.cells.size=sz) (hn:n=xs.length) (a:ys.length=xs.length) (d:xs≠[]) (c:xs.length<=16) (hw:E2 h (i5 w)) :
  ∃v e,(Instr.buildSlice t n parts).run P w = .ok v e/\B0 h e T v ys/\Gr w e:=by
 obtain⟨g,⟨z,f,s⟩,j,u,y,A⟩:=X0 q;obtain⟨i,k,l⟩:=A4 f;have o:=aC4 (w:=w) g (by rw[k];rfl) f xs (by rw[j];exact r) d om (ej7 (Nat.mul_le_mul c (show N6 P T<=1000000 by omega)) om) m hn;refine⟨_,_,o,.inr ⟨w.heap.size,n,_,by rw[hn,a],aM1 hw (ek6 _),em9 w _,om,by rw[hn];simp only[maxLen];omega,?_,?_⟩,Gr.alloc _ _⟩
 .have:=O2 b;simp only[et4,this,a,hn]
 .rw[<-O2 b];simp only[ek4];exact b
def SV.ofN[p8 α](h:Hp)(x:α):SV h (.agg (p8.cells x).toArray) x:=⟨_,rfl,(p8.iff_ _ _ _).2 rfl⟩
end
def co4(s:Int)(w:World):y5 prog 182 #[.int .i64 s] w λu a=>(u = .bool false/\a=w):=by
 refine z6 [.int .i64 s] func182 rfl ?_;have b:decide (s=s)=true:=dP
 simp only[eS,simprocAttr];exact o8 results182 ⟨rfl,rfl⟩
def aa4(a b:Int)(w:World):y5 prog 112 #[.int .i64 a,.int .i64 b] w λu d=>(u = .int .i64 (M6 a b)/\d=w):=by
 refine z6 [.int .i64 a,.int .i64 b] func112 rfl ?_;simp only[eS,simprocAttr];refine F6 (co4 a w) ?_;simp only[n8,simprocAttr];refine F6 (co4 b w) ?_;have c:M6 a b=if a<b then -1 else if b<a then 1 else 0:=rfl;rcases ej1 (decide (a<b))with h1|h1
 .simp only[eS,simprocAttr,h1];refine o8 results112 ?_;simp only[B8,simprocAttr];exact⟨by rw[c,if_pos (ej3 h1)],tt⟩
 rw[if_neg (ej6 h1)]at c;rcases ej1 (decide (b<a))with h2|h2
 .simp only[eS,simprocAttr,h1,h2];refine o8 results112 ?_;simp only[B8,simprocAttr];exact⟨by rw[c,if_pos (ej3 h2)],tt⟩
 .simp only[eS,simprocAttr,h1,h2];refine o8 results112 ?_;simp only[B8,simprocAttr];exact⟨by rw[c,if_neg (ej6 h2)],tt⟩
def aK5(a b:B3)(w:World):y5 prog 181 #[t8 a,t8 b] w λu g=>(u = .int .i64 (ah6 a b)/\g=w):=by
 refine z6 [t8 a,t8 b] func181 rfl ?_;simp only[eS,simprocAttr];refine F6 (bI1 a w) ?_;simp only[n8,simprocAttr];refine F6 (bI1 b w) ?_;have f:ah6 a b=if ltS a b then -1 else if ltS b a then 1 else 0:=rfl;have c:(!(ltS a b||decide (a=b)))=(!ltS a b&&ltS b a):=by
  cases h1:ltS a b<;>cases h2:ltS b a
  .have:=cc1 h1 h2;subst this;simp
  .have:a≠b:=λe=>by subst e;rw[N8]at h2;cases h2
   simp[this]
  .rfl
  .rfl
 rcases ej1 (ltS a b)with h1|h1
 .simp only[eS,simprocAttr,h1];refine o8 results181 ?_;simp only[B8,simprocAttr];exact⟨by rw[f,if_pos h1],tt⟩
 rw[if_neg (by rw[h1];simp)]at f;rw[h1]at c;simp only[ew4,Bool.not_false,eq4]at c;have d:D1 prog .gtr 9 (t8 a) (t8 b)=some (.bool (ltS b a)):=by rw[du4,h1,ew4,c]
 rcases ej1 (ltS b a)with h2|h2
 .simp only[eS,simprocAttr,h1,h2,d];refine o8 results181 ?_;simp only[B8,simprocAttr];exact⟨by rw[f,if_pos h2],tt⟩
 .simp only[eS,simprocAttr,h1,h2,d];refine o8 results181 ?_;simp only[B8,simprocAttr];exact⟨by rw[f,if_neg (by rw[h2];simp)],tt⟩
def aI7{h:Hp}{v:Value}{l:List Int}{w:World}(hv:R h v l)(hw:E2 h (i5 w)){k:Nat}(a:k<l.length):(Instr.loadAt 3 (.pointer (some (G8 v k)))).run prog w = .ok (.int .i64 l[k]) w:=
 O4 (P:=prog) (t:=3) hv hw (ej0 a) K1
def bY2(v:Value)(l:List Int)(w:World)(hv:R (i5 w) v l)(n:l.length<=1000000000):y5 prog 110 #[v] w λu h=>(u = .int .i64 (orF l)/\h=w):=by
 refine z6 [v] func110 rfl ?_;simp only[eS,simprocAttr,hv.isS,hv.vlen];refine A9 [3,6,7] (σ:=Nat) (λk f h=>f 8 = .int .i64 k/\k<=l.length/\orF l=orF (l.drop k)/\h=w) (λk=>l.length-k) 0 ?_ ?_
 .simp only[B8,simprocAttr];exact⟨tt,ek1 _,by rw[es1],tt⟩
 rintro k f o ⟨e,i,j,_⟩ ⟨g,m,a,rfl⟩;simp only[eS,simprocAttr,g,j];refine A3 (λc=>?_) ?_;rotate_left
 .rintro rfl;rw[et1,orF]at a;simp only[n8,simprocAttr,e];refine o8 results110 ?_;simp only[B8,simprocAttr];exact⟨by rw[a],tt⟩
 have d:=hv.inS c;have b:=aI7 hv (n7 _) c;rw[eo1 c,orF]at a;generalize l[k]=y at b a;rcases ej1 (decide (y=0))with hq|hq
 .rw[if_pos (ej3 hq)]at a;simp only[n8,n9,A0,simprocAttr,g,e,i,d,b,hq];exact V1 (k+1) ⟨a,tt⟩
 .rw[if_neg (ej6 hq)]at a;simp only[n8,n9,A0,simprocAttr,g,e,i,d,b,hq];refine o8 results110 ?_;simp only[B8,simprocAttr];exact⟨by rw[a],tt⟩
def as3(a:Int)(w:World):y5 prog 217 #[.int .i64 a] w λu b=>(u = .int .i64 (H7 a)/\b=w):=by
 refine z6 [.int .i64 a] func217 rfl ?_;rcases ej1 (decide (a = -1))with h1|h1
 .simp only[eS,simprocAttr,h1];refine o8 results217 ?_;simp only[B8,simprocAttr];exact⟨by rw[H7,if_pos (ej3 h1)],tt⟩
 .simp only[eS,simprocAttr,h1];refine o8 results217 ?_;simp only[B8,simprocAttr];exact⟨by rw[H7,if_neg (ej6 h1)],tt⟩
def cX5(x y:Sp)(w:World):y5 prog 289 #[.agg (p8.cells x).toArray,.agg (p8.cells y).toArray] w λu d=>(u = .int .i64 (spC x y)/\Gr w d):=by
 refine z6 [.agg (p8.cells x).toArray,.agg (p8.cells y).toArray] func289 rfl ?_;obtain⟨a,C,i,k,r⟩:=ci1 (P:=prog) (T:=302) (SV.ofN (i5 w) x) (n7 _);obtain⟨b,c,j,e,s⟩:=ci1 (P:=prog) (T:=302) (SV.ofN (i5 C) y) (n7 _);obtain⟨_,z⟩:=(r.mono (b7 e.ext)).sp;obtain⟨_,A⟩:=s.sp;have t:=z (λd=>Gr c.drew d) c.drew (Gr.refl _) λd h=>b7 ((Gr.drew c).trans h).ext;have v:=A (λd=>Gr c.drew d) c.drew (Gr.refl _) λd h=>b7 ((Gr.drew c).trans h).ext;simp only[eS,simprocAttr,i,j];refine C0 (λd=>Gr c.drew d) 18 (A7 [0,1,3,4,7,8,10,11,14,15,16,17,2,5,6,9,12,13]) ?_ (hS:=Gr.refl _);simp only[D7,A7,n8,n9,simprocAttr,t,v];refine F6 (as3 _ _) ⟨Gr.refl _,?_⟩;simp only[fe,simprocAttr];refine F6 (as3 _ _) ⟨Gr.refl _,?_⟩;simp only[fe,simprocAttr];refine F6 (aa4 _ _ _) ⟨Gr.refl _,?_⟩;simp only[fe,simprocAttr];refine F6 (as3 _ _) ⟨Gr.refl _,?_⟩;simp only[fe,simprocAttr];refine F6 (as3 _ _) ⟨Gr.refl _,?_⟩;simp only[fe,simprocAttr];refine F6 (aa4 _ _ _) ⟨Gr.refl _,?_⟩;simp only[fe,simprocAttr];refine F6 (aa4 _ _ _) ?_;generalize m:[M6 (H7 x.src) (H7 y.src),M6 (H7 x.dst) (H7 y.dst),M6 x.kind y.kind]=l;have q:spC x y=orF l:=by rw[<-m];rfl
 have p:l.length=3:=by rw[<-m];rfl
 obtain⟨B,D,g,o,f⟩:=dx8 (P:=prog) (w:=c.drew) (h:=i5 c.drew) (α:=Int) (xs:=[.int .i64 (M6 (H7 x.src) (H7 y.src)),.int .i64 (M6 (H7 x.dst) (H7 y.dst)),.int .i64 (M6 x.kind y.kind)]) (ys:=l) (parts:=#[(0,.int .i64 (M6 (H7 x.src) (H7 y.src))),(1,.int .i64 (M6 (H7 x.dst) (H7 y.dst))),(2,.int .i64 (M6 x.kind y.kind))]) (n:=3) W3 rfl (by rw[<-m];exact G9.2 rfl) (by simp[Value.cells]) rfl p dP dP (n7 _);simp only[n8,simprocAttr,g];refine F6 (bY2 B l D (o.rw_ (b7 f.ext)) om) ?_;simp only[n8,simprocAttr];refine o8 results289 ?_;simp only[B8,simprocAttr];exact⟨by rw[q],k.trans (e.trans ((Gr.drew c).trans f))⟩
def cs8(x y:Sp)(g h:Value)(w:World)(o:SV (i5 w) g x)(p:SV (i5 w) h y):y5 prog 291 #[g,h] w λu s=>(u = .bool (bl7 x y)/\o6 w s):=by
 refine z6 [g,h] func291 rfl ?_;obtain⟨a,t,e,c,m⟩:=cH0 o (n7 _);obtain⟨b,l,f,d,n⟩:=cH0 (p.mono (b7 c)) (n7 _);obtain⟨q,_⟩:=m.sp;obtain⟨r,_⟩:=n.sp;have j:=q l (b7 d);have k:=r l (n7 _);have i:bl7 x y=(decide (x.src=y.src)&&decide (x.dst=y.dst)):=rfl;rcases ej1 (decide (x.src=y.src))with h1|h1
 .simp only[eS,simprocAttr,e,f,j,k,h1];refine o8 results291 ?_;simp only[B8,simprocAttr];exact⟨by rw[i,h1,eq4],c.trans d⟩
 .simp only[eS,simprocAttr,e,f,j,k,h1];refine o8 results291 ?_;simp only[B8,simprocAttr];exact⟨by rw[i,h1];rfl,c.trans d⟩
def dC8:Cm spC:=by
 have h:=(aS2.key (λx:Sp=>H7 x.src)).lex ((aS2.key (λx:Sp=>H7 x.dst)).lex ((aS2.key (λx:Sp=>x.kind)).lex Cm.zero));have e:spC=λx y:Sp=>if M6 (H7 x.src) (H7 y.src)=0 then(if M6 (H7 x.dst) (H7 y.dst)=0 then(if M6 x.kind y.kind=0 then 0 else M6 x.kind y.kind)else M6 (H7 x.dst) (H7 y.dst))else M6 (H7 x.src) (H7 y.src):=by
  funext x y
  simp only[spC,orF]
 rw[e];exact h
def plc(a:Int):Prop:=a<9223372036854775807
def bk2{a b:Int}(c:plc a)(hb:plc b)(h:H7 a=H7 b):a=b:=by
 unfold H7 plc at *;split at h<;>split at h<;>omega
def dz9{l:List Sp}(d:∀x∈l,plc x.src/\plc x.dst):∀a∈l,∀b∈l,decide (spC a b<=0)=true->decide (spC b a<=0)=true->a=b:=by
 intro a e b f g h;have m:=ej3 g;have n:=ej3 h;have o:=dC8.anti a b;have c:spC a b=0:=om
 unfold spC at c;simp only[orF]at c;by_cases q1:M6 (H7 a.src) (H7 b.src)=0
 .rw[if_pos q1]at c;by_cases q2:M6 (H7 a.dst) (H7 b.dst)=0
  .rw[if_pos q2]at c;by_cases q3:M6 a.kind b.kind=0
   .have i:=bk2 (d a e).1 (d b f).1 (ag0 q1);have j:=bk2 (d a e).2 (d b f).2 (ag0 q2);have k:=ag0 q3;cases a;cases b;simp_all
   .rw[if_neg q3]at c;exact absurd c q3
  .rw[if_neg q2]at c;exact absurd c q2
 .rw[if_neg q1]at c;exact absurd c q1
def cU9:(Tryz.lySortP_ren.f 6)=288:=kr
def bT8:(Tryz.lySortP_ren.t 24)=302:=kr
def bK3:G7 prog 222 302 3 24=true:=kr
def cs7{h:Hp}{w:World}{v:Value}{xs:List Sp}(i:B0 h w 302 v xs)(g:xs.length<=1000000000)(j:∀x∈xs,plc x.src/\plc x.dst):
  Calls prog 288 #[v,.func (.func 289) #[] #[]] w λe a=>∃u,e = .returned u/\(B0 h a 302 v (ad5 dz8 xs)/\p6 (A5 v) w a):=by
 rw[<-cU9];have b:∀w,(isAgg (Tryz.lySortP_ren.t 24)).run prog w = .ok true w:=λw=>by
  rw[bT8,ag7 _ cE6,cD9]
 have k:∀w,(Go.sizeOf (Tryz.lySortP_ren.t 24)).run prog w = .ok (A6.sz Sp) w:=λw=>by
  rw[bT8,T8 bL3,be6];rfl
 exact aX6 (P:=prog) (T:=302) Tryz.lySortP b k spC dC8 289 (enters_of func289 kr rfl) (λx y w=>(cX5 x y w).mono λe a ⟨u,c,d,f⟩=>⟨by rw[c,d],f⟩) i g (dz9 j)
section
variable {α:Type} [A6 α] [p8 α] {P:Program} {h:Hp} {w:World} {t T:TypeId} {v:Value} {xs:List α}
def bv8{xs:List α}{k:Nat}(a:k<xs.length)(y:α):(xs.set k y).flatMap p8.cells=(xs.flatMap p8.cells).take (k*A6.sz α)++p8.cells y++(xs.flatMap p8.cells).drop (k*A6.sz α+A6.sz α):=by
 have e:xs=xs.take k++(xs[k]::xs.drop (k+1)):=by
  have:=en4 k xs;rw[eo1 a]at this;exact this.symm
 have f:xs.set k y=xs.take k++(y::xs.drop (k+1)):=by rw[List.set_eq_take_append_cons_drop,if_pos a]
 have b:((xs.take k).flatMap p8.cells).length=k*A6.sz α:=by rw[ae1,ek3,eo8 (Nat.le_of_lt a)]
 rw[f]
 conv=>rhs;rw[e]
 simp only[et0,es5];have c:((xs.take k).flatMap p8.cells++(p8.cells xs[k]++(xs.drop (k+1)).flatMap p8.cells)).take (k*A6.sz α)=(xs.take k).flatMap p8.cells:=by rw[<-b,es9]
 have d:((xs.take k).flatMap p8.cells++(p8.cells xs[k]++(xs.drop (k+1)).flatMap p8.cells)).drop (k*A6.sz α+A6.sz α)=(xs.drop (k+1)).flatMap p8.cells:=by
  rw[<-el9,<-b,<-ay4 xs[k],<-ej2,List.drop_left]
 rw[c,d,el9]
def bd4(I:B0 h w T v xs)(G:(P.info? t).isSome=true)(J:N6 P t=A6.sz α){k:Nat}(m:k<xs.length)(y:α):
  ∃j,(Instr.storeAt t (.pointer (some (G8 v (k*A6.sz α)))) (.agg (p8.cells y).toArray)).run P w = .ok () j/\B0 h j T v (xs.set k y)/\p6 (A5 v) w j:=by
 rcases cK9 I with⟨rfl,rfl⟩|⟨b,c,d,rfl,C,D,s,E,n,F⟩
 .simp at m
 have q:k*A6.sz α+A6.sz α<=xs.length*A6.sz α:=by
  have:=es3 (A6.sz α) (Nat.succ_le_of_lt m);rw[Nat.succ_mul]at this;exact this
 have p:xs.length*A6.sz α<=d.size:=by rw[n];exact es3 _ s
 have f:(p8.cells y).length=A6.sz α:=ay4 y;obtain⟨j,z,A,B⟩:=cG7 (P:=P) (t:=t) (cs:=p8.cells y) (o:=k*A6.sz α) D (by rw[f];omega) (Z0 y) G (by rw[J,f]);have r:G8 (.slice (some ⟨b,0,none⟩) xs.length c) (k*A6.sz α)=⟨b,k*A6.sz α,none⟩:=by
  show(⟨b,0,none⟩:Addr).add _=_;rw[add_lit,en0]
 refine⟨j,by rw[r];exact z,?_,B.weaken λ_ _ e=>by subst e;rfl⟩;have a:(xs.set k y).length=xs.length:=dP
 have g:d.toList=xs.flatMap p8.cells++d.toList.drop (xs.length*A6.sz α):=by rw[<-F,en4]
 have i:=ae1 xs;have:=bj6 (l:=xs.set k y) C A (by rw[a];exact s) E ?_ ?_
 .rw[a]at this;exact this
 .simp only[et4,ej2,ek3,eo9,ew1,f,n];rw[n]at p;omega
 .rw[a,List.toList_toArray,bv8 m,f];have u:d.toList.take (k*A6.sz α)=(xs.flatMap p8.cells).take (k*A6.sz α):=by
   rw[g,ep6 (by rw[i];omega)]
  have x:d.toList.drop (k*A6.sz α+A6.sz α)=(xs.flatMap p8.cells).drop (k*A6.sz α+A6.sz α)++d.toList.drop (xs.length*A6.sz α):=by
   conv=>lhs;rw[g]
   rw[List.drop_append_of_le_length (by rw[i];exact q)]
  rw[u,x,<-el9];have H:((xs.flatMap p8.cells).take (k*A6.sz α)++p8.cells y++(xs.flatMap p8.cells).drop (k*A6.sz α+A6.sz α)).length=xs.length*A6.sz α:=by
   rw[<-bv8 m,ae1,a]
  rw[<-H,es9]
def br0(U:B0 h w T v xs){ty:TypeId}(V:N5 P t=some T){z:Value}(W:I4 P T=some z)(E:z.cells.size=A6.sz α)(C:∀u∈z.cells.toList,u.oneCell'=true){i:Nat}(S:i<xs.length):
  ∃n,(Builtin.clear_ #[t] ty #[reS v i xs.length (A6.sz α)]).run P w = .ok (.tuple #[]) n/\B0 h n T (reS v 0 i (A6.sz α)) (xs.take i)/\p6 (A5 v) w n/\∀b,A5 (reS v 0 i (A6.sz α)) b->A5 v b:=by
 rcases cK9 U with⟨rfl,rfl⟩|⟨b,c,d,rfl,M,N,O,Q,p,R⟩
 .simp at S
 obtain⟨X,g,a⟩:=A4 W;have D:(zeroValue T).run P w = .ok z w:=by
  unfold zeroValue;simp[O0,g,a]
 have I:=A6.pos (α:=α);have q:¬c=0:=om
 have r:¬c=i:=om
 have A:reS (.slice (some ⟨b,0,none⟩) xs.length c) i xs.length (A6.sz α) = .slice (some ⟨b,i*A6.sz α,none⟩) (xs.length-i) (c-i):=by
  simp only[reS,if_neg r,ep0,add_lit,en0]
 have j:reS (.slice (some ⟨b,0,none⟩) xs.length c) 0 i (A6.sz α) = .slice (some ⟨b,0,none⟩) i c:=by
  simp only[reS,if_neg q,ep0,Nat.zero_mul,add_lit,Nat.sub_zero]
 have k:(Builtin.zeroCells z.cells (xs.length-i)).toList.length=(xs.length-i)*A6.sz α:=by simp[Builtin.zeroCells,E]
 have H:i*A6.sz α+(xs.length-i)*A6.sz α=xs.length*A6.sz α:=by rw[<-ev0];congr 1;omega
 have s:xs.length*A6.sz α<=d.size:=by rw[p];exact es3 _ O
 obtain⟨n,F,K,L⟩:=bl8 (P:=P) (T:=T) b (i*A6.sz α) (Builtin.zeroCells z.cells (xs.length-i)).toList 0 d w N (by rw[k];omega) (by
  intro u J;simp only[Builtin.zeroCells,Array.toList_map,el2]at J;obtain⟨m,_,rfl⟩:=J;have hm:m % z.cells.size<z.cells.size:=Nat.mod_lt _ om;rw[getElem!_pos z.cells _ hm];exact C _ dP)
 refine⟨n,?_,?_,L.weaken λ_ _ e=>by subst e;rfl,λY f=>by rw[j]at f;exact f⟩
 .rw[A];unfold Builtin.clear_;have y:∃m,xs.length-i=m+1:=⟨xs.length-i-1,om⟩;obtain⟨m,hm⟩:=y;rw[hm]at F ⊢;simp only[List.getElem?_toArray,List.getElem?_cons_zero,el7,I6,P4 V,ek8,D,F,en1]
 .rw[j];have o:(xs.take i).length=i:=by rw[ek3];omega
  have:=bj6 (l:=xs.take i) M K (by rw[o];omega) Q ?_ ?_
  .rw[o]at this;exact this
  .simp only[Nat.add_zero,et4,ej2,ek3,eo9,ew1,k];rw[p];rw[p]at s;omega
  .rw[o,Nat.add_zero,List.toList_toArray,el9,ep6 (by rw[ek3,ew1];omega),List.take_take,Nat.min_self];have:i*A6.sz α<=xs.length*A6.sz α:=es3 _ om;have G:=el1 (List.take (i*A6.sz α)) R;rw[List.take_take,eo8 this]at G;rw[G];have B:xs.flatMap p8.cells=(xs.take i).flatMap p8.cells++(xs.drop i).flatMap p8.cells:=by rw[<-et0,en4]
   have x:((xs.take i).flatMap p8.cells).length=i*A6.sz α:=by rw[ae1,o]
   rw[B,<-x,es9]
end
def bI2{P:Program}{K:Fr->World->Prop}{f:Fr}{w:World}{d:Option Nat}{ty:TypeId}{b:String}{a:Array Edge}{x:Operand}{c:Array TypeId}:B9 P none ⟨d,.call {callee:=.builtin .clear,args:=#[x],argTypes:=c},ty,b,a,none⟩ K f w=am8 ((Builtin.clear_ c ty #[ev f x]).run P w) K f d:=by
 simp[B9,aC1,ag4,bo2,bz7]
def bE2{α:Type}(a:α->α->Bool):∀(l:List α) (p y:α),as7 a p (l++[y])=if a y (l.getLast?.getD p)then as7 a p l else as7 a p l++[y]
 | [],p,y=>by
  simp[as7];rfl
 | x::l,p,y=>by
  have c:=bE2 a l x y;have b:((x::l).getLast?.getD p)=l.getLast?.getD x:=by
   cases l with
   | nil=>rfl
   | cons z l=>
    rw[List.getLast?_cons_cons];cases h:(z::l).getLast? with
    | none=>simp at h
    | some q=>rfl
  rw[eu8,as7,as7,b,c];by_cases h:a x p=true
  .rw[if_pos h,if_pos h]
  .rw[if_neg h,if_neg h];split<;>simp
def aA5{α:Type}(a:α->α->Bool)(xs:List α){k:Nat}(b:k<xs.length)(c:0<k):ap3 a (xs.take (k+1))=if a xs[k] xs[k-1]then ap3 a (xs.take k)else ap3 a (xs.take k)++[xs[k]]:=by
 rw[ej8 b];cases xs with
 | nil=>simp at b
 | cons x l=>
  obtain⟨m,rfl⟩:∃m,k=m+1:=⟨k-1,om⟩;simp only[ev3,eu8,ap3,eu1,Nat.add_sub_cancel];rw[bE2];have hm:m<l.length:=by simpa using b
  have:(l.take m).getLast?.getD x=(x::l)[m]'(by simp;omega):=by
   cases m with
   | zero=>rfl
   | succ m=>
    rw[List.getLast?_eq_getElem?,ek3,eo8 om,et6,if_pos om,ej0 om];simp
  rw[this];split<;>simp
def aj8{α:Type}(a:α->α->Bool)(xs:List α):∀k,k<=xs.length->(∀j (b:j<xs.length),1<=j->j<k->a xs[j] (xs[j-1]' om)=false)->ap3 a (xs.take k)=xs.take k
 | 0,_,_=>by simp[ap3]
 | 1,h,_=>by
  cases xs with
  | nil=>simp at h
  | cons x l=>simp[ap3,as7]
 | k+2,h,hf=>by
  rw[aA5 a xs (k:=k+1) om om,aj8 a xs (k+1) om λj b c d=>hf j b c om];have:=hf (k+1) om om om;simp only[Nat.add_sub_cancel]at this ⊢;rw[if_neg (by rw[this];simp),ej8 (by omega:k+1<xs.length)]
def cx6{h:Hp}{w:World}{v:Value}{xs:List Sp}(p:B0 h w 302 v xs)(hl:xs.length<=1000000000)(hh:E2 h (i5 w)):
  Calls prog 290 #[v,.func (.func 291) #[] #[]] w λe a=>∃u,e = .returned u/\(B0 h a 302 u (ap3 bl7 xs)/\p6 (A5 v) w a/\∀b,A5 u b->A5 v b):=by
 refine z6 [v,.func (.func 291) #[] #[]] func290 rfl ?_;have U:=p.isS;have hn:=p.vlen;have a5:=p.vcap;have Q:A6.sz Sp=3:=rfl;rcases ej1 (decide ((xs.length:Int)<2))with G|G
 .simp only[eS,simprocAttr,U,hn,G];refine o8 results290 ?_;simp only[B8,simprocAttr];have D:xs.length<2:=by have:=ej3 G;omega
  have:=aj8 bl7 xs xs.length (ek6 _) λj I h1 G=>om
  rw[ek4]at this;exact⟨by rw[this];exact p,p6.refl _,λb V=>V⟩
 have a0:2<=xs.length:=by have:=ej6 G;omega
 simp only[eS,simprocAttr,U,hn,G];refine A9 [0,1] (σ:=Nat) (λi f a=>f 5 = .int .i64 i/\1<=i/\i<=xs.length/\(∀j (I:j<xs.length),1<=j->j<i->bl7 xs[j] (xs[j-1]' om)=false)/\o6 w a) (λi=>xs.length-i) 1 ?_ ?_
 .simp only[B8,simprocAttr];exact⟨tt,dP,om,λj _ h1 G=>om,p6.refl _⟩
 rintro i f o ⟨e0,e1,_⟩ ⟨h5,aZ,a3,O,x⟩;simp only[eS,simprocAttr,h5,e0,U,hn];refine A3 (λD=>?_) ?_;rotate_left
 .rintro rfl;simp only[n8,simprocAttr,e0];refine o8 results290 ?_;simp only[B8,simprocAttr];have:=aj8 bl7 xs xs.length (ek6 _) O;rw[ek4]at this;exact⟨by rw[this];exact p.ext x,p6.up x,λb V=>V⟩
 have J:i-1<xs.length:=om
 have hR:R (i5 o) v xs:=(p.ext x).rw_ (p7 hh (b7 x));have ax:=p.inS D;have Z:=p.inS J;have aD:IntKind.i64.wrap ((i:Int)-1)=((i-1:Nat):Int):=by rw[M7 _ om];omega
 obtain⟨vx,aB,_,sx⟩:=(hR.at_ (ej0 D)).sp_v;obtain⟨vy,aC,_,sy⟩:=(hR.at_ (ej0 J)).sp_v;have s1:=sx (λa=>o6 o.drew a) o.drew (p6.refl _) λa h=>b7 ((o6.drew o).trans h);have s2:=sy (λa=>o6 o.drew a) o.drew (p6.refl _) λa h=>b7 ((o6.drew o).trans h);rw[Q]at s1 s2;simp only[n8,simprocAttr];refine C0 (λa=>o6 o.drew a) 10 (A7 [0,1,2,3,4,5,6,7,8,9]) ?_;simp only[D7,A7,n8,n9,A0,simprocAttr,h5,e0,e1,ax,Z,aD,s1,s2];refine B6 (cs8 _ _ vx vy o.drew (aB.mono (b7 (o6.drew o))) (aC.mono (b7 (o6.drew o)))) (λw3 aF=>?_);have r:=(x.trans (o6.drew o)).trans aF;rcases ej1 (bl7 xs[i] xs[i-1])with hq|hq;rotate_left
 .simp only[eS,simprocAttr,hq,h5];refine nx4 (i+1) ⟨λj I h1 G=>?_,r⟩;rcases en2 j i with h|h
  .exact O j I h1 h
  .obtain rfl:j=i:=om
   exact hq
 have c1:decide ((i:Int)<=(xs.length:Int))=true:=by simp;omega
 have c2:decide ((xs.length:Int)<=(vcap v:Int))=true:=by simp;omega
 have hd:∀k:Nat,isS (reS v k xs.length 3)=true/\vlen (reS v k xs.length 3)=xs.length-k:=λk=>by
  rcases p with⟨rfl,rfl⟩|⟨b,c,aY,rfl,_⟩
  .exact⟨rfl,rfl⟩
  .exact⟨rfl,rfl⟩
 obtain⟨ao,az⟩:=hd i;have a4:((xs.length-i:Nat):Int)=(xs.length:Int)-i:=om
 simp only[n8,n9,M4,simprocAttr,hq,h5,e0,U,hn,c1,c2];refine A9 [0,1,6] (σ:=Nat×Nat×List Sp) (λs f a=>f 7 = .int .i64 s.1/\f 5 = .int .i64 s.2.1/\1<=s.1/\i+s.1<=xs.length/\s.2.1+1<=i+s.1/\s.2.2.length=xs.length/\B0 h a 302 v s.2.2/\(∀j (I:j<xs.length) (L:j<s.2.2.length),i+s.1<=j+1->s.2.2[j]=xs[j])/\s.2.2.take s.2.1=ap3 bl7 (xs.take (i+s.1))/\p6 (A5 v) w a) (λs=>xs.length-(i+s.1)) (1,i,xs) ?_ ?_
 .simp only[B8,simprocAttr];refine⟨tt,tt,tt,om,om,tt,p.ext r,λj _ _ _=>tt,?_,p6.up r⟩;rw[aA5 bl7 xs D om,if_pos hq,aj8 bl7 xs i om O]
 rintro⟨m,c,A⟩ f4 n ⟨g0,g1,g6,_⟩ ⟨T,B,am,aw,ar,z,q,l,g,M⟩;simp only at T B am aw ar z q l g;rw[e0]at g0;rw[e1]at g1;have av:E2 h (i5 n):=G4 hh M λb V=>p.free V;have ab:decide ((m:Int)<((xs.length-i:Nat):Int))=decide (i+m<xs.length):=by rw[eo4];omega
 simp only[eS,simprocAttr,T,g6,ao,az,ab];refine A8 (λhc=>?_) (λhc=>?_)
 .have E:i+m<xs.length:=ej3 hc;have ay:i+m-1<xs.length:=om
  have an:R (i5 n) v A:=q.rw_ av;have d:=ch2 an (show i<=xs.length by omega) (show xs.length<=A.length by omega);rw[Q]at d;have aH:(A.take xs.length).drop i=A.drop i:=by rw[<-z,ek4]
  rw[aH]at d;have X:(A.drop i)[m]?=some xs[i+m]:=by
   rw[et5,ej0 om,l (i+m) E om om]
  have Y:(A.drop i)[m-1]?=some xs[i+m-1]:=by
   rw[et5,show i+(m-1)=i+m-1 by omega,ej0 om,l (i+m-1) ay om om]
  have H:=d.inS (ej5.1 X).1;have aa:=d.inS (ej5.1 Y).1;have aE:IntKind.i64.wrap ((m:Int)-1)=((m-1:Nat):Int):=by rw[M7 _ om];omega
  obtain⟨ux,af,lx,tx⟩:=(d.at_ X).sp_v;obtain⟨uy,aA,_,ty⟩:=(d.at_ Y).sp_v;have t1:=tx (λa=>o6 n.drew a) n.drew (p6.refl _) λa h=>b7 ((o6.drew n).trans h);have t2:=ty (λa=>o6 n.drew a) n.drew (p6.refl _) λa h=>b7 ((o6.drew n).trans h);rw[Q]at t1 t2 lx;simp only[n8,simprocAttr];refine C0 (λa=>o6 n.drew a) 10 (A7 [0,1,2,3,4,5,6,7,8,9]) ?_;simp only[D7,A7,n8,n9,A0,simprocAttr,T,g1,g6,H,aa,aE,t1,t2];refine B6 (cs8 _ _ ux uy n.drew (af.mono (b7 (o6.drew n))) (aA.mono (b7 (o6.drew n)))) (λw5 aG=>?_);have y:=(o6.drew n).trans aG;have ae:=q.ext y;have ac:p6 (A5 v) w w5:=M.chain (p6.up y) λ_ _ h=>h;have C:=aA5 bl7 xs (k:=i+m) E om;rcases ej1 (bl7 xs[i+m] xs[i+m-1])with hq4|hq4
  .rw[if_pos hq4]at C;simp only[eS,simprocAttr,hq4,T];refine nx2 (m+1,c,A) ⟨B,so,so,so,z,ae,λj I L h=>l j I L (by simp only at h;omega),?_,ac⟩;simp only[];rw[g,<-C,et9]
  .rw[if_neg (by rw[hq4];simp)]at C;have K:c<A.length:=om
   have aI:=lx w5 (b7 y);have ag:ux = .agg (p8.cells xs[i+m]).toArray:=by
    obtain⟨cs,rfl,he⟩:=af;rw[(p8.iff_ _ _ _).1 he]
   obtain⟨w6,S,F,N⟩:=bd4 (P:=prog) (t:=302) ae bL3 be6 K xs[i+m];rw[<-ag,Q]at S;simp only[n8,n9,A0,simprocAttr,hq4,B,g0,g6,T,H,q.inS K,aI,S];refine⟨(m+1,c+1,A.set c xs[i+m]),so,by simp only[];rw[J2 m],by simp only[];rw[J2 c],so,so,so,by simp only[eq3];exact z,F,λj I L h=>?_,?_,ac.chain N λ_ _ h=>h⟩
   .simp only at h ⊢;rw[List.getElem_set_ne om];exact l j I om om
   .simp only[];have au:c<(A.set c xs[i+m]).length:=by simpa using K
    rw[ej8 au,List.getElem_set_self,List.take_set_of_le (ek6 _),g,<-C,et9]
 .have E:i+m=xs.length:=by have:=ej6 hc;omega
  rw[E,ek4]at g;have aq:c<A.length:=om
  have c3:decide ((c:Int)<=(xs.length:Int))=true:=by simp;omega
  have c4:decide ((c:Int)<=(vcap v:Int))=true:=by simp;omega
  obtain⟨w6,S,F,N,W⟩:=br0 (P:=prog) (t:=222) (ty:=0) q rfl dq2 rfl (by simp[Value.cells,Value.oneCell']) aq;rw[z,Q]at S;rw[Q]at F W;simp only[n8,n9,M4,simprocAttr,bI2,B,g0,U,hn,c2,c3,c4,S];exact o8 results290 ⟨by rw[<-g];exact F,M.chain N λ_ _ h=>h,W⟩
def aL6{h:Hp}{w:World}{v:Value}{xs:List Sp}(i:B0 h w 302 v xs)(g:xs.length<=1000000000)(l:E2 h (i5 w))(m:∀x∈xs,plc x.src/\plc x.dst):
  y5 prog 256 #[v] w λu j=>(B0 h j 302 u (aD1 xs)/\p6 (A5 v) w j/\∀b,A5 u b->A5 v b):=by
 refine z6 [v] func256 rfl ?_;simp only[eS,simprocAttr];refine y4 (cs7 i g m) ?_;rintro _ n ⟨e,a⟩;simp only[n8,simprocAttr];refine y4 (cx6 e (by rw[(I0 _ _).length_eq];exact g) (G4 l a λb k=>i.free k)) ?_;rintro u o ⟨f,d,c⟩;simp only[n8,simprocAttr];exact o8 results256 ⟨f,a.chain d λ_ _ h=>h,c⟩
def bp6(v:Value)(l:List St)(o:Int)(w:World)(hv:R (i5 w) v l):y5 prog 287 #[v,.int .i64 o] w λu h=>(u = .int .i64 (aP2 l o)/\h=w):=by
 refine z6 [v,.int .i64 o] func287 rfl ?_;have d:=hv.isS;have e:=hv.vlen;cases l with
 | nil=>
  have a:decide ((0:Int)<(([]:List St).length:Int))=false:=dP
  simp only[eS,simprocAttr,d,e,a];exact o8 results287 ⟨rfl,rfl⟩
 | cons t l=>
  have a:decide ((0:Int)<((t::l).length:Int))=true:=ep1 (by simp only[em1];omega);have b:=hv.inS (k:=0) dP;obtain⟨_,_,_,_,_,_,_,_,_,c,_⟩:=(hv.at_ (i:=0) rfl).st;have f:=c w (n7 _);have g:A6.sz St=13:=rfl;rw[g,Nat.zero_mul]at f;simp only[n8,n9,A0,simprocAttr,d,e,a,b,f];exact o8 results287 ⟨rfl,rfl⟩
def df4(a:Addr)(F:Value)(p:Pg)(it:It)(i x y:Nat)(w:World)(hs:At (i5 w) a (d9 p))(Y:SV (i5 w) F it)(hr:E6 p)(hw:C4 p<=1000000)(X:i<p.procs.length)(O:az7 p i x y)(C:it∈(d9 p).of i):
  y5 prog 255 #[.pointer (some a),F] w λu d=>(B0 (i5 w) d 3 u ((d9 p).goes it)/\o6 w d):=by
 refine z6 [.pointer (some a),F] func255 rfl ?_;obtain⟨b,e,m,f,V⟩:=cG8 Y (n7 _);obtain⟨I,Z,ab⟩:=V.it;obtain⟨_,_,Q,ah,_,_,M,W,_,aa,ae⟩:=I.st;have R:=Z e (n7 _);have E:=aa e (n7 _);have L:=aN0 p hw i X it C;rw[L]at R;have l:∀(t:Int) (d:World),E2 (i5 w) (i5 d)->∃v g,(Instr.buildSlice 45 1 #[(0,.int .i64 t)]).run prog d = .ok v g/\B0 (i5 w) g 3 v [t]/\o6 d g:=λt d E2=>by
  obtain⟨v,g,S,T,U,_⟩:=lit (P:=prog) (w:=d) (h:=i5 w) (α:=Int) (xs:=[.int .i64 t]) (ys:=[t]) (parts:=#[(0,.int .i64 t)]) (n:=1) W3 rfl (G9.2 rfl) (by simp[Value.cells]) rfl rfl dP dP E2;exact⟨v,g,S,T,U⟩
 have A:∀(t H:Int) (d:World),E2 (i5 w) (i5 d)->∃v g,(Instr.buildSlice 45 2 #[(0,.int .i64 t),(1,.int .i64 H)]).run prog d = .ok v g/\B0 (i5 w) g 3 v [t,H]/\o6 d g:=λt H d E2=>by
  obtain⟨v,g,S,T,U,_⟩:=lit (P:=prog) (w:=d) (h:=i5 w) (α:=Int) (xs:=[.int .i64 t,.int .i64 H]) (ys:=[t,H]) (parts:=#[(0,.int .i64 t),(1,.int .i64 H)]) (n:=2) W3 rfl (G9.2 rfl) (by simp[Value.cells]) rfl rfl dP dP E2;exact⟨v,g,S,T,U⟩
 have k:=f.trans (o6.drew e);have s:∀d,o6 e.drew d->E2 (i5 e) (i5 d):=λd h=>b7 ((o6.drew e).trans h);have si:=ab (λd=>o6 e.drew d) e.drew (p6.refl _) s;have st:=ae (λd=>o6 e.drew d) e.drew (p6.refl _) s;have j:=show(d9 p).goes it=if it.s.kind=5 then[aP2 it.s.thn it.next,aP2 it.s.els it.next]else if it.s.kind=6 then[aP2 it.s.thn it.s.id,it.next]else if it.s.kind=7 then[((d9 p).it it.loop).next]else if it.s.kind=8 then[it.loop]else if it.s.kind=9 then[-1]else if it.s.kind=10 then[((d9 p).at it.proc it.s.name).getD 0]else[it.next]from rfl;rcases ej1 (decide (it.s.kind=5))with k5|k5
 .rw[if_pos (ej3 k5)]at j;obtain⟨G,B,o,r,c⟩:=A (aP2 it.s.thn it.next) (aP2 it.s.els it.next) e.drew (b7 k);simp only[eS,simprocAttr,m,E,k5];refine C0 (λd=>o6 e.drew d) 11 (A7 [0,1,2,3,4,6,7,8,9,10,5]) ?_;simp only[D7,A7,n8,n9,simprocAttr,si,st];refine F6 (bp6 Q it.s.thn it.next e.drew (A6.mono (b7 (o6.drew e)) M)) ⟨p6.refl _,?_⟩;simp only[fe,simprocAttr];refine F6 (bp6 ah it.s.els it.next e.drew (A6.mono (b7 (o6.drew e)) W)) ?_;simp only[n8,simprocAttr,o];exact o8 results255 ⟨by rw[j];exact r,k.trans c⟩
 rw[if_neg (ej6 k5)]at j;rcases ej1 (decide (it.s.kind=6))with k6|k6
 .rw[if_pos (ej3 k6)]at j;obtain⟨G,B,o,r,c⟩:=A (aP2 it.s.thn it.s.id) it.next e.drew (b7 k);simp only[eS,simprocAttr,m,E,k5,k6];refine C0 (λd=>o6 e.drew d) 9 (A7 [0,1,2,3,4,5,7,8,6]) ?_;simp only[D7,A7,n8,n9,simprocAttr,si,st];refine F6 (bp6 Q it.s.thn it.s.id e.drew (A6.mono (b7 (o6.drew e)) M)) ⟨p6.refl _,?_⟩;simp only[fe,simprocAttr,o];exact o8 results255 ⟨by rw[j];exact r,k.trans c⟩
 rw[if_neg (ej6 k6)]at j;have E2:=hr.leads X it C;unfold aB4 at E2;rcases ej1 (decide (it.s.kind=7))with k7|k7
 .rw[if_pos (ej3 k7)]at j;rw[if_pos (.inl (ej3 k7))]at E2;have K:(x:Int)<it.loop/\it.loop<=(y:Int):=by
   rcases O.loop it C with h|h
   .rw[h]at E2;simp at E2
   .exact h
  obtain⟨_,_,z⟩:=O.at_ it.loop K.1 K.2;obtain⟨G,B,o,r,c⟩:=l ((d9 p).it it.loop).next e.drew (b7 k);obtain⟨vL,au,ar,hL,_,_,_,_,ad⟩:=(hs.mono (b7 f)).sh;have ss:=ad (λd=>o6 e.drew d) e.drew (p6.refl _) s;obtain⟨_,_,ac⟩:=(hL.at_ z).it;have sl:=ac (λd=>o6 e.drew d) e.drew (p6.refl _) s;have hz:A6.sz It=17:=rfl;rw[hz]at sl;have J:=hL.inS ((ej5.1 z).1);have ak:=O.ok.fit;have al:=O.ok.len;have N:IntKind.i64.wrap (it.loop-1)=(((it.loop-1).toNat:Nat):Int):=by rw[M7 _ om];omega
  generalize(it.loop-1).toNat=q at J sl N;simp only[eS,simprocAttr,m,E,k5,k6,k7];refine C0 (λd=>o6 e.drew d) 12 (A7 [0,1,2,3,4,5,6,7,8,9,10,11]) ?_;simp only[D7,A7,n8,n9,A0,simprocAttr,si,ss,sl,J,N,o,G0];refine⟨c,?_⟩;exact o8 results255 ⟨by rw[j];exact r,k.trans c⟩
 rw[if_neg (ej6 k7)]at j;rcases ej1 (decide (it.s.kind=8))with k8|k8
 .rw[if_pos (ej3 k8)]at j;obtain⟨G,B,o,r,c⟩:=l it.loop e (b7 f);simp only[eS,simprocAttr,m,R,E,k5,k6,k7,k8,o];exact o8 results255 ⟨by rw[j];exact r,f.trans c⟩
 rw[if_neg (ej6 k8)]at j;rcases ej1 (decide (it.s.kind=9))with k9|k9
 .rw[if_pos (ej3 k9)]at j;obtain⟨G,B,o,r,c⟩:=l (-1) e (b7 f);simp only[eS,simprocAttr,m,E,k5,k6,k7,k8,k9,o];exact o8 results255 ⟨by rw[j];exact r,f.trans c⟩
 rw[if_neg (ej6 k9)]at j;rcases ej1 (decide (it.s.kind=10))with k10|k10
 .rw[if_pos (ej3 k10),L]at j;simp only[eS,simprocAttr,m,R,E,k5,k6,k7,k8,k9,k10];refine B6 (cr5 a (d9 p) i x y it.s.name e (hs.mono (b7 f)) O.ok (by rw[N7];exact X) (ao1 p hw) (by rw[N7];exact aC6 p hw)) (λB c=>?_);cases hq:(d9 p).at i it.s.name with
  | none=>
   obtain⟨G,w3,o,r,D⟩:=l 0 B (b7 (f.trans c));simp only[n8,simprocAttr,cp2,o];exact o8 results255 ⟨by rw[j,hq];exact r,f.trans (c.trans D)⟩
  | some q=>
   obtain⟨G,w3,o,r,D⟩:=l q B (b7 (f.trans c));simp only[n8,simprocAttr,cp2,o];exact o8 results255 ⟨by rw[j,hq];exact r,f.trans (c.trans D)⟩
 .rw[if_neg (ej6 k10)]at j;obtain⟨G,B,o,r,c⟩:=l it.next e (b7 f);simp only[eS,simprocAttr,m,R,E,k5,k6,k7,k8,k9,k10,o];exact o8 results255 ⟨by rw[j];exact r,f.trans c⟩
def as5(a b c:Int):C1 prog 302 [(0,.int .i64 a),(1,.int .i64 b),(2,.int .i64 c)]=some (.agg (p8.cells (⟨a,b,c⟩:Sp)).toArray):=by
 simp[C1,dL6,K7,Instr.fill,Value.cells,p8.cells,Sp.cells]
def cj6{α:Type}[A6 α][p8 α]{h:Hp}(x:α):A6.enc h (Value.cells (.agg (p8.cells x).toArray)).toList x:=(p8.iff_ _ _ _).2 (by simp[Value.cells])
def cC0{x y:Nat}(b:y<=1000000){a:Int}(h:Rg x y a):plc a:=by
 unfold plc;rcases h with h|h<;>omega
def cX7{p:Pg}(h:E6 p)(hw:C4 p<=1000000){i x y:Nat}(g:i<p.procs.length)(d:az7 p i x y):∀t∈((⟨0,(d9 p).first i,1⟩:Sp)::((d9 p).of i).flatMap λit=>((d9 p).goes it).map λt=>⟨it.s.id,t,1⟩),plc t.src/\plc t.dst:=by
 intro t c;have e:y<=1000000:=ej7 d.ok.len d.ok.fit;rcases ek9.1 c with rfl|c
 .exact⟨by unfold plc;simp,cC0 e (ck3 d)⟩
 .obtain⟨it,b,c⟩:=em2.1 c;obtain⟨a,f,rfl⟩:=el2.1 c;have:=d.ids it b;exact⟨by unfold plc;simp only[];omega,cC0 e (cI9 h hw g d it b a f)⟩
def cO3(a:Addr)(p:Pg)(i x y:Nat)(w:World)(hs:At (i5 w) a (d9 p))(hr:E6 p)(hw:C4 p<=1000000)(hi:i<p.procs.length)(pt:az7 p i x y):
  y5 prog 194 #[.pointer (some a),.int .i64 i] w λu m=>(B0 (i5 w) m 302 u ((d9 p).steps i)/\o6 w m):=by
 refine z6 [.pointer (some a),.int .i64 i] func194 rfl ?_;obtain⟨aS,ad⟩:=bx3 p hw i hi;have ab:=cl6 (d9 p);have hF:(d9 p).steps i=aD1 (⟨0,(d9 p).first i,1⟩::((d9 p).of i).flatMap λit=>((d9 p).goes it).map λt=>⟨it.s.id,t,1⟩):=rfl;have d:=cX7 hr hw hi pt;simp only[eS,simprocAttr];refine B6 (cr6 a (d9 p) i x y w hs pt.ok) (λw1 ak=>?_);obtain⟨v0,w2,ae,ag,aI,_⟩:=lit (P:=prog) (w:=w1) (h:=i5 w) (α:=Sp) (xs:=[.agg (p8.cells (⟨0,(d9 p).first i,1⟩:Sp)).toArray]) (ys:=[⟨0,(d9 p).first i,1⟩]) (parts:=#[(0,.agg (p8.cells (⟨0,(d9 p).first i,1⟩:Sp)).toArray)]) (n:=1) bK3 rfl (ae0.2 (by simp[Value.cells])) (by simp[Value.cells,p8.cells,Sp.cells]) rfl rfl dP dP (b7 ak);have O:=ak.trans aI;simp only[n8,simprocAttr,as5,ae];refine y4 (aJ6 (i5 w) a (d9 p) i x y w2 hs (b7 O) pt.ok) ?_;rintro ui w3 ⟨A,al⟩;have ac:=λit ao m (h1:it∈(d9 p).of i) (h2:SV (i5 m) ao it) (h3:At (i5 m) a (d9 p))=>df4 a ao p it i x y m h3 h2 hr hw hi pt h1;generalize hl:(d9 p).of i=l at A ad hF ac d;have aj:=O.trans al;have ax:=A.isS;have aE:=A.vlen;generalize hB:(λit:It=>((d9 p).goes it).map λt=>(⟨it.s.id,t,1⟩:Sp))=B at hF d;have aw:∀it,(B it).length<=2:=λit=>by rw[<-hB];simp only[ek2];exact ab it
 generalize aX:(⟨0,(d9 p).first i,1⟩:Sp)=s0 at ag hF d;have az:∀k,((l.take k).flatMap B).length<=800000:=λk=>by
  refine ej7 (P9 B 2 _ λx _=>aw x) ?_;rw[ek3];omega
 simp only[eS,simprocAttr,ax,aE];refine A9 [0,17,18] (σ:=Nat×Value) (λs f m=>f 19 = .int .i64 s.1/\f 5=s.2/\s.1<=l.length/\B0 (i5 w) m 302 s.2 (s0::(l.take s.1).flatMap B)/\o6 w m) (λs=>l.length-s.1) (0,v0) ?_ ?_
 .exact⟨rfl,rfl,ek1 _,by simpa using ag.ext al,aj⟩
 rintro⟨j,u⟩ f w5 ⟨e0,ar,au,_⟩ ⟨D,h5,aB,Y,I⟩;simp only at D h5 aB Y;have M:=az j;simp only[eS,simprocAttr,D,au];refine A3 (λF=>?_) ?_;rotate_left
 .rintro rfl;rw[ek4]at Y M;simp only[n8,simprocAttr,h5];refine y4 (aL6 Y (by simp only[em1];omega) (b7 I) d) ?_;rintro u6 w6 ⟨G,aD,_⟩;simp only[n8,simprocAttr];exact o8 results194 ⟨by rw[hF];exact G,Y.ext2 I aD⟩
 have E:=A.inS F;obtain⟨sv,v,g⟩:=H1 (P:=prog) (t:=156) A (b7 I) (ej0 F) af2 af4 ac9 L4;rw[L4]at g;have W:=J9 B l F;have af:=ek0 F;generalize l[j]=it at v W af;obtain⟨c,wz,w6,ay,aG,an,K⟩:=aY4 (w:=w5) (A5 u) v (λb L=>Y.lt L);obtain⟨ldI,_⟩:=L8.it_v v K;obtain⟨us,aH,Z,_,_⟩:=L8.it v K;obtain⟨_,_,_,_,_,_,_,_,_,_,_,aJ,_⟩:=L8.st aH Z;have C:=I.trans an;simp only[n8,n9,A0,simprocAttr,D,e0,ar,E,g,ay,aG,ldI w6 (B4 _ _)];refine y4 (ac it sv w6 af (v.mono (b7 C)) (hs.mono (b7 C))) ?_;rintro ug w7 ⟨ah,X⟩;have G:=Y.ext an;have z:R (D0 w7 (A5 u)) ug ((d9 p).goes it):=ah.flatR λb L=>E4 λU=>by
  have h1:=G.lt U;have h2:=C9 (ah.free L);omega
 have V:=G.ext X;have am:=C.trans X;have J:B it=((d9 p).goes it).map λt=>(⟨it.s.id,t,1⟩:Sp):=by rw[<-hB]
 have aa:=ab it;generalize(d9 p).goes it=gl at z J aa;generalize(l.take j).flatMap B=pre at V M W;simp only[eS,simprocAttr,z.isS,z.vlen];refine A9 [0,7,17,18,19,25,26] (σ:=Nat×Value) (λs f m=>f 27 = .int .i64 s.1/\f 5=s.2/\s.1<=gl.length/\B0 (i5 w) m 302 s.2 (s0::(pre++(gl.take s.1).map λt=>(⟨it.s.id,t,1⟩:Sp)))/\p6 (A5 u) w7 m/\E7 w7 u s.2) (λs=>gl.length-s.1) (0,u) ?_ ?_
 .exact⟨rfl,h5,ek1 _,by simpa using V,p6.refl _,λb L=>.inl L⟩
 rintro⟨k,u8⟩ f8 w8 ⟨q0,q7,a4,a5,aK,aL,aM,_⟩ ⟨S,T,aC,H,q,r⟩;simp only at S T aC H r;have Q:=V.ext2 am q;simp only[eS,simprocAttr,S,aM];refine A3 (λo=>?_) ?_;rotate_left
 .rintro rfl;rw[ek4,<-J]at H;simp only[eS,simprocAttr,aK,D];refine nx2 (j+1,u8) ⟨T,om,?_,Q⟩;simp only[];rw[W];exact H
 clear E g;have E:=z.inS o;have g:=aI7 z (F3 q) o;have N:(gl.take (k+1)).map (λt=>(⟨it.s.id,t,1⟩:Sp))=(gl.take k).map (λt=>(⟨it.s.id,t,1⟩:Sp))++[⟨it.s.id,gl[k],1⟩]:=by
  rw[ej8 o,em6];rfl
 generalize gl[k]=y1 at g N;have k2:=aJ w8 (F3 (p6.chain (p6.up X) q λ_ _ h=>h));obtain⟨p1,u9,w9,p2,p3,p4,p5⟩:=push (e:=222) bK3 rfl H (x:=.agg (p8.cells (⟨it.s.id,y1,1⟩:Sp)).toArray) (y:=⟨it.s.id,y1,1⟩) (cj6 _) (by simp only[em1,ej2,ek2,ek3];omega) (by simp only[em1,ej2,ek2,ek3];omega) (b7 Q);simp only[n8,n9,A0,simprocAttr,S,T,q7,aL,E,g,k2,as5,p1,p2];refine nx4 (k+1,u9) ⟨?_,q.chain p4 λb L U=>?_,λb L=>?_⟩
 .simp only[];rw[N,<-el9,<-eu8];exact p3
 .rcases r b U with h|h
  .exact h
  .omega
 .rcases p5 b L with h|h
  .exact r b h
  .exact .inr (ej7 q.size h)
section
variable {h k:Hp} {a:Addr} {v:Value} {w:World} {cs:List Value} (N:Nat->Prop)
def dw5{x:Wy}:A6.enc h cs x->∃c b a,cs=([c]:List Value)++([.int .i64 x.proc]:List Value)++([.int .i64 x.n]:List Value)++([b]:List Value)++([a]:List Value)/\R h c x.sp/\R h b x.real/\R h a x.live:=by
 rintro⟨g,i,j,rfl,d,e,f⟩;exact⟨g,i,j,rfl,d,e,f⟩
def At.wy{x:Wy}(k:At h a x):∃d c b,R h d x.sp/\R h c x.real/\R h b x.live/\LW h (λw=>V6 prog w 132 a d/\V6 prog w 3 (a.add 1) (.int .i64 x.proc)/\V6 prog w 3 (a.add 2) (.int .i64 x.n)/\V6 prog w 222 (a.add 3) c/\V6 prog w 95 (a.add 4) b)/\SW h (λS=>X4 prog S 132 a d/\X4 prog S 3 (a.add 1) (.int .i64 x.proc)/\X4 prog S 3 (a.add 2) (.int .i64 x.n)/\X4 prog S 222 (a.add 3) c/\X4 prog S 95 (a.add 4) b):=by
 obtain⟨cs,l,i⟩:=k;obtain⟨d,c,b,rfl,g,f,e⟩:=dw5 l;exact⟨_,_,_,g,f,e,lsw (λw j=>⟨L9 i rfl bK9 w j,B1 i (o:=1) rfl K1 w j,B1 i (o:=2) rfl K1 w j,B1 i (o:=3) rfl dn9 w j,B1 i (o:=4) rfl aK0 w j⟩) (sw2 (sw2 (sw2 (sw2 sw1))))⟩
def dw0{x:Bk}:A6.enc h cs x->∃e f a c d b,cs=([e]:List Value)++([f]:List Value)++([a]:List Value)++([c]:List Value)++([d]:List Value)++([b]:List Value)/\R h e x.sp/\R h f x.wp/\R h a x.defs/\R h c x.uses/\R h d x.ins/\R h b x.outs:=by
 rintro⟨n,o,p,q,r,s,rfl,g,i,j,k,l,m⟩;exact⟨n,o,p,q,r,s,rfl,g,i,j,k,l,m⟩
def At.bk{x:Bk}(r:At h a x):∃f g b d e c,R h f x.sp/\R h g x.wp/\R h b x.defs/\R h d x.uses/\R h e x.ins/\R h c x.outs/\LW h (λw=>V6 prog w 132 a f/\V6 prog w 133 (a.add 1) g/\V6 prog w 134 (a.add 2) b/\V6 prog w 134 (a.add 3) d/\V6 prog w 134 (a.add 4) e/\V6 prog w 134 (a.add 5) c)/\SW h (λS=>X4 prog S 132 a f/\X4 prog S 133 (a.add 1) g/\X4 prog S 134 (a.add 2) b/\X4 prog S 134 (a.add 3) d/\X4 prog S 134 (a.add 4) e/\X4 prog S 134 (a.add 5) c):=by
 obtain⟨cs,s,m⟩:=r;obtain⟨f,g,b,d,e,c,rfl,p,q,i,k,l,j⟩:=dw0 s;exact⟨_,_,_,_,_,_,p,q,i,k,l,j,lsw (λw n=>⟨L9 m rfl bK9 w n,B1 m (o:=1) rfl dn3 w n,B1 m (o:=2) rfl av4 w n,B1 m (o:=3) rfl av4 w n,B1 m (o:=4) rfl av4 w n,B1 m (o:=5) rfl av4 w n⟩) (sw2 (sw2 (sw2 (sw2 (sw2 sw1)))))⟩
end
structure WyOk (p:Pg) (i x y:Nat) (wy:Wy):Prop where
 s:wy.s=d9 p
 proc:wy.proc=(i:Int)
 n:wy.n=(y:Int)-(x:Int)+2
 part:az7 p i x y
def WyOk.index{p:Pg}{i x y:Nat}{wy:Wy}(h:WyOk p i x y wy)(a:Int):wy.index a=if a=0 then 0 else if a = -1 then wy.n-1 else if(x:Int)+1<=a/\a<(y:Int)+1 then a-((x:Int)+1)+1 else -1:=by
 have b:=h.part.ok.lo;have c:=h.part.ok.hi;unfold Wy.index atI;simp only[h.s,h.proc,el5,List.getD,b,c,eo5]
def WyOk.place{p:Pg}{i x y:Nat}{wy:Wy}(h:WyOk p i x y wy)(a:Int):wy.place a=if a=0 then 0 else if a=wy.n-1 then -1 else(x:Int)+1+a-1:=by
 have b:=h.part.ok.lo;unfold Wy.place atI;simp only[h.s,h.proc,el5,List.getD,b,eo5]
def bn6(a:Addr)(wy:Wy)(p:Pg)(i x y:Nat)(e:Int)(w:World)(P:At (i5 w) a wy)(c:WyOk p i x y wy)(R : -1<=e/\e<=2000000):
  y5 prog 154 #[.pointer (some a),.int .i64 e] w λu b=>(u = .int .i64 (wy.index e)/\o6 w b):=by
 refine z6 [.pointer (some a),.int .i64 e] func154 rfl ?_;obtain⟨vs,_,_,C,_,_,F,t⟩:=P.wy;obtain⟨T,rfl,has⟩:=Ptr.at_ C;have B:At (i5 w) T (d9 p):=by rw[<-c.s];exact has
 obtain⟨vL,v,H,W,m,n,Q,S,s⟩:=B.sh;have M:=F w (n7 _);rw[c.proc]at M;have j:=c.index e;have hN:=c.n;have J:=c.part.ok.le;have L:=c.part.ok.len;have I:=c.part.ok.fit;have l:∀b,o6 w.drew b->E2 (i5 w) (i5 b):=λb h=>b7 ((o6.drew w).trans h);have A:=t (λb=>o6 w.drew b) w.drew (p6.refl _) l;rw[c.proc]at A;have G:=s (λb=>o6 w.drew b) w.drew (p6.refl _) l;have k:=m.inS (ej5.1 c.part.ok.lo).1;have o:=n.inS (ej5.1 c.part.ok.hi).1;have z:∀K f d w0,F8 prog (λb=>o6 w.drew b) (Instr.loadAt 3 (.pointer (some (G8 v i)))) K f d w0=K (C5 f d (.int .i64 ((x:Int)+1))) w0:=λK f d w0=>B7 (w0:=w.drew) (p6.refl _) λb h=>ldI m (l b h) c.part.ok.lo;have E:∀K f d w0,F8 prog (λb=>o6 w.drew b) (Instr.loadAt 3 (.pointer (some (G8 H i)))) K f d w0=K (C5 f d (.int .i64 ((y:Int)+1))) w0:=λK f d w0=>B7 (w0:=w.drew) (p6.refl _) λb h=>ldI n (l b h) c.part.ok.hi;have D:IntKind.i64.wrap (wy.n-1)=wy.n-1:=M7 _ om;rcases ej1 (decide (e=0))with q0|q0
 .simp only[eS,simprocAttr,q0];refine o8 results154 ?_;simp only[B8,simprocAttr];exact⟨by rw[j,if_pos (ej3 q0)],p6.refl _⟩
 rw[if_neg (ej6 q0)]at j;rcases ej1 (decide (e = -1))with q1|q1
 .simp only[eS,simprocAttr,q0,q1,M,D];refine o8 results154 ?_;simp only[B8,simprocAttr];exact⟨by rw[j,if_pos (ej3 q1)],p6.refl _⟩
 rw[if_neg (ej6 q1)]at j;have q:IntKind.i64.wrap (e-((x:Int)+1))=e-((x:Int)+1):=M7 _ om;have r:IntKind.i64.wrap (e-((x:Int)+1)+1)=e-((x:Int)+1)+1:=M7 _ om;generalize O:(x:Int)+1=X at z j q r;generalize Z:(y:Int)+1=Y at E j;simp only[eS,simprocAttr,q0,q1];refine C0 (λb=>o6 w.drew b) 33 (A7 [0,1,2,3,4,5,6,7,8,9,10,11,12,13,14,15,16,17,18,19,20,21,22,23,24,25,26,27,28,29,30,31,32]) ?_;rcases ej1 (decide (X<=e))with q2|q2
 .rcases ej1 (decide (e<Y))with q3|q3
  .have g:∀b,o6 w.drew.drew b->E2 (i5 w) (i5 b):=λb h=>b7 ((o6.drew w).trans ((o6.drew w.drew).trans h));have N:=t (λb=>o6 w.drew.drew b) w.drew.drew (p6.refl _) g;rw[c.proc]at N;have U:=s (λb=>o6 w.drew.drew b) w.drew.drew (p6.refl _) g;have V:∀K f d w0,F8 prog (λb=>o6 w.drew.drew b) (Instr.loadAt 3 (.pointer (some (G8 v i)))) K f d w0=K (C5 f d (.int .i64 X)) w0:=λK f d w0=>B7 (w0:=w.drew.drew) (p6.refl _) λb h=>by rw[<-O];exact ldI m (g b h) c.part.ok.lo
   simp only[D7,A7,n8,n9,A0,simprocAttr,A,G,z,E,k,o,q2,q3];refine C0 (λb=>o6 w.drew.drew b) 17 (A7 [0,1,2,3,4,5,6,7,8,9,10,11,12,13,14,15,16]) ?_;simp only[D7,A7,n8,n9,A0,simprocAttr,N,U,V,k,q,r];refine o8 results154 ?_;simp only[B8,simprocAttr];exact⟨by rw[j,if_pos ⟨ej3 q2,ej3 q3⟩],(o6.drew w).trans (o6.drew _)⟩
  .simp only[D7,A7,n8,n9,A0,simprocAttr,A,G,z,E,k,o,q2,q3];refine o8 results154 ?_;simp only[B8,simprocAttr];exact⟨by rw[j,if_neg (λh=>ej6 q3 h.2)],o6.drew w⟩
 .simp only[D7,A7,n8,n9,A0,simprocAttr,A,G,z,k,q2];refine o8 results154 ?_;simp only[B8,simprocAttr];exact⟨by rw[j,if_neg (λh=>ej6 q2 h.1)],o6.drew w⟩
def ak9(a:Addr)(wy:Wy)(p:Pg)(i x y:Nat)(k:Int)(w:World)(G:At (i5 w) a wy)(b:WyOk p i x y wy)(Q:0<=k/\k<=2000000):
  y5 prog 209 #[.pointer (some a),.int .i64 k] w λu c=>(u = .int .i64 (wy.place k)/\o6 w c):=by
 refine z6 [.pointer (some a),.int .i64 k] func209 rfl ?_;obtain⟨S,_,_,r,_,_,s,v⟩:=G.wy;obtain⟨M,rfl,has⟩:=Ptr.at_ r;have q:At (i5 w) M (d9 p):=by rw[<-b.s];exact has
 obtain⟨R,z,N,O,j,I,H,J,t⟩:=q.sh;have E:=s w (n7 _);have g:=b.place k;have hN:=b.n;have B:=b.part.ok.le;have C:=b.part.ok.len;have A:=b.part.ok.fit;have e:∀c,o6 w.drew c->E2 (i5 w) (i5 c):=λc h=>b7 ((o6.drew w).trans h);have F:=v (λc=>o6 w.drew c) w.drew (p6.refl _) e;rw[b.proc]at F;have L:=t (λc=>o6 w.drew c) w.drew (p6.refl _) e;have o:=j.inS (ej5.1 b.part.ok.lo).1;have D:∀K f d w0,F8 prog (λc=>o6 w.drew c) (Instr.loadAt 3 (.pointer (some (G8 z i)))) K f d w0=K (C5 f d (.int .i64 ((x:Int)+1))) w0:=λK f d w0=>B7 (w0:=w.drew) (p6.refl _) λc h=>ldI j (e c h) b.part.ok.lo;have n:IntKind.i64.wrap (wy.n-1)=wy.n-1:=M7 _ om;have l:IntKind.i64.wrap ((x:Int)+1+k)=(x:Int)+1+k:=M7 _ om;have m:IntKind.i64.wrap ((x:Int)+1+k-1)=(x:Int)+1+k-1:=M7 _ om;rcases ej1 (decide (k=0))with q0|q0
 .simp only[eS,simprocAttr,q0];refine o8 results209 ?_;simp only[B8,simprocAttr];exact⟨by rw[g,if_pos (ej3 q0)],p6.refl _⟩
 rw[if_neg (ej6 q0)]at g;rcases ej1 (decide (k=wy.n-1))with q1|q1
 .simp only[eS,simprocAttr,q0,q1,E,n];refine o8 results209 ?_;simp only[B8,simprocAttr];exact⟨by rw[g,if_pos (ej3 q1)],p6.refl _⟩
 rw[if_neg (ej6 q1)]at g;generalize P:(x:Int)+1=X at D g l m;simp only[eS,simprocAttr,q0,q1,E,n];refine C0 (λc=>o6 w.drew c) 17 (A7 [0,1,2,3,4,5,6,7,8,9,10,11,12,13,14,15,16]) ?_;simp only[D7,A7,n8,n9,A0,simprocAttr,F,L,D,o,l,m];refine o8 results209 ?_;simp only[B8,simprocAttr];exact⟨by rw[g],o6.drew w⟩
def WyOk.index_rg{p:Pg}{i x y:Nat}{wy:Wy}(h:WyOk p i x y wy){a:Int}(b:a=0\/Rg x y a):0<=wy.index a/\wy.index a<wy.n:=by
 have c:=h.n;have d:=h.part.ok.le;rw[h.index];rcases b with b|b|b
 .rw[if_pos b];omega
 .rw[if_neg om,if_pos b];omega
 .rw[if_neg om,if_neg om,if_pos om];omega
def bn8(a:Addr)(wy:Wy)(p:Pg)(i x y:Nat)(b:Int)(w:World)(t:At (i5 w) a wy)(d:WyOk p i x y wy)(n:(x:Int)<b/\b<=(y:Int))(D:(wy.live.length:Int)=wy.n):
  y5 prog 98 #[.pointer (some a),.int .i64 b] w λu e=>(u = .bool (wy.lives b)/\o6 w e):=by
 refine z6 [.pointer (some a),.int .i64 b] func98 rfl ?_;obtain⟨_,_,E,_,_,l,B,r⟩:=t.wy;have v:=d.part.ok.fit;have z:=d.part.ok.len;have o:∀e,o6 w.drew e->E2 (i5 w) (i5 e):=λe h=>b7 ((o6.drew w).trans h);have C:=r (λe=>o6 w.drew e) w.drew (p6.refl _) o;have A:=d.index_rg (.inr (.inr n));have c:(wy.index b).toNat<wy.live.length:=om
 have j:=l.inS c;have g:wy.index b=(((wy.index b).toNat:Nat):Int):=om
 have s:wy.lives b=wy.live[(wy.index b).toNat]:=by
  unfold Wy.lives atB;rw[List.getD,ej0 c];rfl
 simp only[eS,simprocAttr];refine C0 (λe=>o6 w.drew e) 7 (A7 [0,1,2,3,4,5,6]) ?_;simp only[D7,A7,n8,n9,simprocAttr,C];refine B6 (bn6 a wy p i x y b w.drew (t.mono (b7 (o6.drew w))) d om) (λF m=>⟨m,?_⟩);have f:=(o6.drew w).trans m;have k:=ldB l (b7 f) c;rw[g];generalize(wy.index b).toNat=q at c j k s;simp only[D7,n8,n9,A0,simprocAttr,j,k];refine o8 results98 ?_;simp only[B8,simprocAttr];exact⟨by rw[s],f⟩
def bZ0(a b:Int):C1 prog 208 [(0,.int .i64 a),(1,.int .i64 b)]=some (.agg #[.int .i64 a,.int .i64 b]):=by
 simp[C1,dL2,K7,Instr.fill,Value.cells]
def dC9{h:Hp}(a b:Int):A6.enc h (Value.cells (.agg #[.int .i64 a,.int .i64 b])).toList ((a,b):Int×Int):=⟨[.int .i64 a],[.int .i64 b],rfl,rfl,rfl⟩
def ay2(a:Addr)(wy:Wy)(p:Pg)(i x y:Nat)(v:Value)(l:List Sp)(w:World)(S:At (i5 w) a wy)(n:WyOk p i x y wy)(hv:R (i5 w) v l)(Y:∀t∈l,RgS x y t)(Z:l.length<=10000000):
  y5 prog 207 #[.pointer (some a),v] w λu g=>(B0 (i5 w) g 208 u (wy.pairs l)/\o6 w g):=by
 refine z6 [.pointer (some a),v] func207 rfl ?_;have T:=n.part.ok.fit;have U:=n.part.ok.len;have X:wy.pairs l=l.map λt=>(wy.index t.src,wy.index t.dst):=rfl;simp only[eS,simprocAttr,hv.isS,hv.vlen];refine A9 [0,8,9] (σ:=Nat×Value) (λs f g=>f 10 = .int .i64 s.1/\f 5=s.2/\s.1<=l.length/\B0 (i5 w) g 208 s.2 ((l.take s.1).map λt=>(wy.index t.src,wy.index t.dst))/\o6 w g) (λs=>l.length-s.1) (0,.slice none 0 0) ?_ ?_
 .exact⟨rfl,rfl,ek1 _,by simpa using B0.nil _ _ _,p6.refl _⟩
 rintro⟨k,u⟩ f w2 ⟨e0,V,W,_⟩ ⟨j,H,N,G,o⟩;simp only at j H N G;simp only[eS,simprocAttr,j,W];refine A3 (λm=>?_) ?_;rotate_left
 .rintro rfl;rw[ek4]at G;simp only[n8,simprocAttr,H];exact o8 results207 ⟨by rw[X];exact G,o⟩
 have M:=hv.inS m;obtain⟨sv,D,B⟩:=H1 (P:=prog) (t:=302) hv (b7 o) (ej0 m) cD9 cE6 bL3 be6;rw[be6]at B;have E:(l.take (k+1)).map (λt=>(wy.index t.src,wy.index t.dst))=(l.take k).map (λt=>(wy.index t.src,wy.index t.dst))++[(wy.index l[k].src,wy.index l[k].dst)]:=by
  rw[ej8 m,em6];rfl
 have z:=Y _ (ek0 m);generalize l[k]=s at D E z;obtain⟨c,wz,A,I,O,F,J⟩:=dA8 (D.mono (b7 o)) (n7 _);obtain⟨_,Q⟩:=J.sp;have s1:=Q (λg=>o6 A.drew g) A.drew (p6.refl _) λg h=>b7 ((o6.drew A).trans h);have d:=o.trans (F.trans (o6.drew A));have K : -1<=s.src/\s.src<=2000000:=by
  rcases z.1 with h|h<;>omega
 have L : -1<=s.dst/\s.dst<=2000000:=by
  rcases z.2 with h|h<;>omega
 simp only[n8,n9,A0,simprocAttr,j,V,M,B,I,O];refine C0 (λg=>o6 A.drew g) 11 (A7 [0,1,2,3,5,6,7,4,8,9,10]) ?_;simp only[D7,A7,n8,n9,simprocAttr,s1,e0];refine B6 (bn6 a wy p i x y s.src A.drew (S.mono (b7 d)) n K) (λw5 b=>⟨b,?_⟩);simp only[fe,simprocAttr];refine B6 (bn6 a wy p i x y s.dst w5 (S.mono (b7 (d.trans b))) n L) (λw6 q=>⟨b.trans q,?_⟩);have r:=d.trans (b.trans q);have C:=G.ext (F.trans ((o6.drew A).trans (b.trans q)));obtain⟨p1,u7,w7,p2,p3,p4,p5⟩:=push (e:=206) dV6 rfl C (x:=.agg #[.int .i64 (wy.index s.src),.int .i64 (wy.index s.dst)]) (y:=(wy.index s.src,wy.index s.dst)) (dC9 _ _) (by simp only[ek2,ek3];omega) (by simp only[ek2,ek3];omega) (b7 r);simp only[fe,simprocAttr,bZ0,p1,G0];refine⟨b.trans (q.trans (o6.alloc _ _)),?_⟩;simp only[eS,simprocAttr,H,j,p2];exact nx4 (k+1,u7) ⟨by rw[E];exact p3,C.ext2 r p4⟩
def bG1(a:Addr)(wy:Wy)(p:Pg)(i x y:Nat)(v:Value)(l:List Sp)(w:World)(o:At (i5 w) a wy)(c:WyOk p i x y wy)(g:(d9 p).l.length<=200)(hv:R (i5 w) v l)(z:∀t∈l,RgS x y t)(f:l.length<=10000000):
  y5 prog 195 #[.pointer (some a),v] w λu b=>(GR (i5 b) u (at6 wy.n.toNat (wy.pairs l)).1 (at6 wy.n.toNat (wy.pairs l)).2/\o6 w b):=by
 refine z6 [.pointer (some a),v] func195 rfl ?_;obtain⟨_,_,_,_,_,_,B,n⟩:=o.wy;have m:∀b,o6 w.drew b->E2 (i5 w) (i5 b):=λb h=>b7 ((o6.drew w).trans h);have r:=c.part.ok.len;have D:=c.n;have q:=c.part.ok.le;have j:wy.n=((wy.n.toNat:Nat):Int):=om
 have A:(wy.pairs l).length=l.length:=ek2 _;simp only[eS,simprocAttr];refine C0 (λb=>o6 w.drew b) 7 (A7 [0,1,2,3,4,5,6]) ?_;simp only[D7,A7,n8,n9,simprocAttr,n (λb=>o6 w.drew b) w.drew (p6.refl _) m];refine y4 (ay2 a wy p i x y v l w.drew (o.mono (b7 (o6.drew w))) c (A6.mono (b7 (o6.drew w)) hv) z f) ?_;rintro u C ⟨k,d⟩;refine⟨d,?_⟩;rw[j];simp only[D7,n8,n9,simprocAttr];refine y4 (cK5 wy.n.toNat u (wy.pairs l) C om (k.rw_ (b7 d)) om) ?_;rintro E F ⟨⟨M,s⟩,e⟩;simp only[n8,simprocAttr];exact o8 results195 ⟨s.read (b7 e),((o6.drew w).trans d).trans e⟩
mutual
def di3:∀(t:St) (d:Nat) (n m:Int),n<=200->((L3 d t.thn n).bind λm=>L3 d t.els m)=some m->m<=200
 | .mk id kind labels name proc x has args thn els,d,n,m,hn,h=>by
  simp only[St.thn,St.els]at h;obtain⟨a,b,c⟩:=eq6.1 h;exact aW7 els d a m (aW7 thn d n a hn b) c
def aW7:∀(l:List St) (d:Nat) (n m:Int),n<=200->L3 d l n=some m->m<=200
 | [],d,n,m,hn,h=>by
  cases d with
  | zero=>simp[L3]at h;omega
  | succ d=>rw[L3]at h;simp at h;omega
 | t::l,0,n,m,hn,h=>by simp[L3]at h
 | t::l,d+1,n,m,hn,h=>by
  rw[aN5]at h;obtain⟨b,a,c⟩:=eq6.1 h;split at a
  .cases a
  .next f=>
   have e:n+1<=200:=by
    rcases Int.lt_or_le 200 (n+1)with h|h
    .exact absurd (.inl h) f
    .exact h
   exact aW7 l (d+1) b m (di3 t d (n+1) b e a) c
end
def cq0:∀(l:List Pr) (n:Int),n<=200->(l.foldlM (λn f=>Z9 f n) n).isSome=true->n+((l.map λf=>B2 f.body).sum:Nat)<=200
 | [],n,hn,_=>by simpa using hn
 | f::l,n,hn,h=>by
  rw[List.foldlM_cons]at h;obtain⟨k,c⟩:=eo6.1 h;obtain⟨m,hm,a⟩:=eq6.1 c;unfold Z9 at hm;split at hm
  .cases hm
  .have e:=(bi0 f.body 12 n m hm).1;have b:=aW7 f.body 12 n m hn hm;have:=cq0 l m b (by rw[a];rfl);rw[en8,eu6];omega
def J8{p:Pg}(hm:O6 p=true):(d9 p).l.length<=200:=by
 rw[az0];simp only[O6,el3]at hm;have:=cq0 p.procs 0 om hm.2;unfold bz8;omega
def dY3{w:World}{a:Nat}{b:Addr}{wy:Wy}{d c:Value}(e:w.heap[a]?=some (.cells #[.pointer (some b),.int .i64 wy.proc,.int .i64 wy.n,d,c] 224 (0,0)))(i:At (i5 w) b wy.s)(h:R (i5 w) d wy.real)(g:R (i5 w) c wy.live):At (i5 w) ⟨a,0,none⟩ wy:=by
 refine⟨[.pointer (some b),.int .i64 wy.proc,.int .i64 wy.n,d,c],⟨_,_,_,rfl,i.ptr,h,g⟩,λj u f=>?_⟩;rw[<-an1,add_lit,en0,er9 w a j _ 224 (0,0) e];simpa using f
def dc6(s v:Value)(i n:Int)(c:s.cells=#[s])(hv:v.cells=#[v]):C1 prog 224 [(0,s),(1,.int .i64 i),(2,.int .i64 n),(3,v)]=some (.agg #[s,.int .i64 i,.int .i64 n,v,.slice none 0 0]):=by
 have a:(Value.int .i64 i).cells=#[.int .i64 i]:=rfl;have b:(Value.int .i64 n).cells=#[.int .i64 n]:=rfl;simp[C1,dL5,K7,Instr.fill,c,hv,a,b]
def ap0(s:Sh)(i:Nat):Wy:=⟨s,i,atI s.hi i-atI s.lo i+2,s.steps i,List.replicate (atI s.hi i-atI s.lo i+2).toNat false⟩
def dB7{p:Pg}{i x y:Nat}(a:az7 p i x y):WyOk p i x y (ap0 (d9 p) i):=by
 refine⟨rfl,rfl,?_,a⟩;unfold ap0 atI;simp only[el5,List.getD,a.ok.lo,a.ok.hi,eo5];omega
def cM6{p:Pg}{i x y:Nat}(a:az7 p i x y):WyOk p i x y (F5 (d9 p) i):=by
 refine⟨rfl,rfl,?_,a⟩;unfold F5 atI;simp only[el5,List.getD,a.ok.lo,a.ok.hi,eo5];omega
theorem bW7(s:Sh)(i:Nat):(F5 s i).live=bT5 (at6 (ap0 s i).n.toNat ((ap0 s i).pairs (s.steps i))).1:=rfl
def bO4{p:Pg}{i x y:Nat}(a:az7 p i x y):((F5 (d9 p) i).live.length:Int)=(F5 (d9 p) i).n:=by
 have c:=(cM6 a).n;have d:=a.ok.le;have b:(F5 (d9 p) i).n=(ap0 (d9 p) i).n:=rfl;rw[bW7,b];unfold bT5;rw[ek2,en9,(aq4 _ _).nx.len];omega
def bs7{p:Pg}(hw:C4 p<=1000000){i:Nat}(b:i<p.procs.length):((d9 p).steps i).length<=800001:=by
 obtain⟨_,a⟩:=bx3 p hw i b;refine ej7 (be0 _) ?_;rw[em1];have:=P9 (λit:It=>((d9 p).goes it).map λt=>(⟨it.s.id,t,1⟩:Sp)) 2 ((d9 p).of i) λit _=>by rw[ek2];exact cl6 _ _
 omega
def cF2(a:Addr)(p:Pg)(i x y:Nat)(w:World)(hs:At (i5 w) a (d9 p))(hr:E6 p)(hw:C4 p<=1000000)(hi:i<p.procs.length)(T:az7 p i x y):y5 prog 132 #[.pointer (some a),.int .i64 i] w λu c=>(∃g G F,u = .pointer (some ⟨g,0,none⟩)/\c.heap[g]?=some (.cells #[.pointer (some a),.int .i64 i,.int .i64 (F5 (d9 p) i).n,G,F] 224 (0,0))/\w.heap.size<=g/\B0 (i5 w) c 302 G ((d9 p).steps i)/\B0 (i5 w) c 4 F (F5 (d9 p) i).live/\o6 w c):=by
 refine z6 [.pointer (some a),.int .i64 i] func132 rfl ?_;have ao:=J8 hr.may;have bm:=T.ok.len;have bl:=T.ok.le;obtain⟨vL,bj,bi,hL,aC,az,bq,bw,bh⟩:=hs.sh;have aj:∀c,o6 w.drew c->E2 (i5 w) (i5 c):=λc h=>b7 ((o6.drew w).trans h);have s2:=bh (λc=>o6 w.drew c) w.drew (p6.refl _) aj;have a5:=aC.inS (ej5.1 T.ok.lo).1;have a6:=az.inS (ej5.1 T.ok.hi).1;have k1:∀K f d w0,F8 prog (λc=>o6 w.drew c) (Instr.loadAt 3 (.pointer (some (G8 bj i)))) K f d w0=K (C5 f d (.int .i64 ((x:Int)+1))) w0:=λK f d w0=>B7 (w0:=w.drew) (p6.refl _) λc h=>ldI aC (aj c h) T.ok.lo;have k2:∀K f d w0,F8 prog (λc=>o6 w.drew c) (Instr.loadAt 3 (.pointer (some (G8 bi i)))) K f d w0=K (C5 f d (.int .i64 ((y:Int)+1))) w0:=λK f d w0=>B7 (w0:=w.drew) (p6.refl _) λc h=>ldI az (aj c h) T.ok.hi;have aG:=dB7 T;have hn:=aG.n;have al:IntKind.i64.wrap ((y:Int)+1-((x:Int)+1))=(y:Int)+1-((x:Int)+1):=M7 _ om;have am:IntKind.i64.wrap ((y:Int)+1-((x:Int)+1)+2)=(ap0 (d9 p) i).n:=by rw[M7 _ om];omega
 have a9:(ap0 (d9 p) i).n=(((ap0 (d9 p) i).n.toNat:Nat):Int):=om
 generalize hX:(x:Int)+1=X at k1 al am;generalize hY:(y:Int)+1=Y at k2 al am;simp only[eS,simprocAttr];refine C0 (λc=>o6 w.drew c) 21 (A7 [0,1,2,3,4,5,6,7,8,9,10,11,12,13,14,15,16,17,18,19,20]) ?_;simp only[D7,A7,n8,n9,A0,simprocAttr,s2,k1,k2,a5,a6,al,am];refine y4 (cO3 a p i x y w.drew (hs.mono (b7 (o6.drew w))) hr hw hi T) ?_;rintro G w2 ⟨O,aM⟩;refine⟨aM,?_⟩;have M:=(o6.drew w).trans aM;have aW:=O.isS;obtain⟨g,U,au,aN,ab,W⟩:∃g U,(Instr.box 224 (.agg #[.pointer (some a),.int .i64 i,.int .i64 (ap0 (d9 p) i).n,G,.slice none 0 0])).run prog w2 = .ok (.pointer (some ⟨g,0,none⟩)) U/\o6 w2 U/\U.heap[g]?=some (.cells #[.pointer (some a),.int .i64 i,.int .i64 (ap0 (d9 p) i).n,G,.slice none 0 0] 224 (0,0))/\w2.heap.size<=g:=
  ⟨_,_,rfl,o6.alloc _ _,em9 w2 _,ek6 _⟩
 have aa:=M.trans aN;have ad:g<U.heap.size:=(ej4.1 ab).1;obtain⟨F,w4,aD,ah,an,aw,_⟩:=mk (P:=prog) (w:=U) (h:=i5 U) (α:=Bool) bl6 V4 (y:=false) rfl (n:=(ap0 (d9 p) i).n.toNat) om om (n7 _);rw[<-a9]at aD;have aZ:w4.heap[g]?=some (.cells #[.pointer (some a),.int .i64 i,.int .i64 (ap0 (d9 p) i).n,G,.slice none 0 0] 224 (0,0)):=(an.block g ad id).trans ab;have ay:∀b,A5 F b->b≠g:=λb l e=>by have:=aw b l;omega
 obtain⟨V,s5,a0,ag⟩:=ad7 (P:=prog) (t:=95) (i:=4) (x:=F) aZ dP (F7 ah.isS) (W8 ah.isS) (A4 bW5).choose_spec.1 (by rw[<-F0 (A4 bW5).choose_spec.1];exact cM2);have B:V.heap[g]?=some (.cells #[.pointer (some a),.int .i64 i,.int .i64 (ap0 (d9 p) i).n,G,F] 224 (0,0)):=by simpa using a0
 have s:o6 w V:=p6.ext_of (aa.trans an) ag λb l=>by subst l;exact ej7 M.size W
 have C:B0 (i5 w) V 4 F (List.replicate (ap0 (d9 p) i).n.toNat false):=(ah.back aa).mod ag λb l=>ay b l;have I:B0 (i5 w) V 302 G ((d9 p).steps i):=(((O.backN (o6.drew w)).ext aN).ext an).mod ag λb l e=>by
  subst e;have:=O.lt l;omega
 have be:(Instr.loadAt 3 (.pointer (some ⟨g,2,none⟩))).run prog U = .ok (.int .i64 (ap0 (d9 p) i).n) U:=F4 (i:=2) ab rfl K1;have bf:(Instr.loadAt 222 (.pointer (some ⟨g,3,none⟩))).run prog V = .ok G V:=F4 (i:=3) B rfl dn9;have ar:At (i5 V) ⟨g,0,none⟩ (ap0 (d9 p) i):=dY3 B (hs.mono (b7 s)) (I.rw_ (b7 s)) (C.rw_ (b7 s));have aK:=bK7 hr hw hi T;have bu:=bs7 hw hi;simp only[D7,n8,n9,simprocAttr,dc6 (.pointer (some a)) G i (ap0 (d9 p) i).n rfl (F7 aW),au,be,aD,s5,bf];refine y4 (bG1 ⟨g,0,none⟩ (ap0 (d9 p) i) p i x y G _ V ar aG ao (I.rw_ (b7 s)) aK om) ?_;rintro ug w6 ⟨ae,aO⟩;obtain⟨vz,w7,aB,ba,S,_⟩:=lit (P:=prog) (w:=w6) (h:=i5 w6) (α:=Int) (xs:=[.int .i64 0]) (ys:=[0]) (parts:=#[(0,.int .i64 0)]) (n:=1) W3 rfl (G9.2 rfl) (by simp[Value.cells]) rfl rfl dP dP (n7 _);have z:=(aq4 (ap0 (d9 p) i).n.toNat ((ap0 (d9 p) i).pairs ((d9 p).steps i))).nx;have A:(F5 (d9 p) i).live=bT5 (at6 (ap0 (d9 p) i).n.toNat ((ap0 (d9 p) i).pairs ((d9 p).steps i))).1:=bW7 _ _;generalize(at6 (ap0 (d9 p) i).n.toNat ((ap0 (d9 p) i).pairs ((d9 p).steps i))).1=nx at ae z A;generalize(at6 (ap0 (d9 p) i).n.toNat ((ap0 (d9 p) i).pairs ((d9 p).steps i))).2=pv at ae;have aE:=z.len;have o:G2 nx.length nx:=by rw[aE];exact z
 have aH:I9 nx.length 0=true:=B5.2 ⟨om,om⟩;simp only[n8,simprocAttr,aB];refine y4 (cO2 ug nx pv vz [0] w7 (ae.mono (b7 S)) o om (ba.rw_ (b7 S)) dP) ?_;rintro ur w8 ⟨⟨r,E,L⟩,bd⟩;have v:=aO.trans (S.trans bd);have Z:=C.ext v;have Q:R (D0 w8 (A5 F)) ur r:=E.flatR λb l=>E4 λaY=>by
  have h1:=C.lt aY;have h2:=C9 (E.free l);have:=(aO.trans S).size;omega
 have aJ:∀b∈r,I9 nx.length b=true:=λb l=>((L.mem b).1 l).ok o;have bt:r.length<=nx.length:=by
  have:=aO0 (n:=nx.length) (m:=0) L.le (λb l=>B5.1 (aJ b l)) om;omega
 have a8:=dx9 o aH L;rw[a8]at A;have aq:=Q.isS;have aF:=Q.vlen;have a1:∀c,p6 (A5 F) w8 c->c.heap[g]?=some (.cells #[.pointer (some a),.int .i64 i,.int .i64 (ap0 (d9 p) i).n,G,F] 224 (0,0)):=λc hm=>by
  have ax:g<V.heap.size:=(ej4.1 B).1;have a3:g<w8.heap.size:=eq5 ax v.size;rw[hm.block g a3 λl=>ay g l rfl,v.block g ax id,B]
 have aI:List.replicate (ap0 (d9 p) i).n.toNat false=(List.range nx.length).map λ(b:Nat)=>(([]:List Int)).contains (b:Int):=by
  rw[aE];apply eq2
  .simp
  .intro j h1 h2;simp
 rw[aI]at Z;simp only[eS,simprocAttr,aq,aF];refine A9 [5,46,47] (σ:=Nat) (λk f c=>f 48 = .int .i64 k/\k<=r.length/\B0 (i5 w) c 4 F ((List.range nx.length).map λ(b:Nat)=>(r.take k).contains (b:Int))/\p6 (A5 F) w8 c) (λk=>r.length-k) 0 ?_ ?_
 .exact⟨rfl,ek1 _,by simpa using Z,p6.refl _⟩
 rintro k f w9 ⟨e5,aS,aT,_⟩ ⟨ap,bs,D,H⟩;have av:=a1 w9 H;simp only[eS,simprocAttr,ap,aT];refine A3 (λN=>?_) ?_
 .have a7:=Q.inS N;have af:=aI7 Q (F3 H) N;have br:=B5.1 (aJ _ (ek0 N));have ac:r[k]=((r[k].toNat:Nat):Int):=om
  have ak:∀b:Int,(r.take (k+1)).contains b=((r.take k).contains b||decide (b=r[k])):=λb=>by
   rw[ej8 N,eu4,eu2,ek7,ek7,ej9,ek5,decide_eq_true_iff]
  have J:r[k].toNat<nx.length:=om
  rw[ac]at af ak;generalize r[k].toNat=q at af ak J;have l9:(Instr.loadAt 95 (.pointer (some ⟨g,4,none⟩))).run prog w9 = .ok F w9:=F4 (i:=4) av rfl aK0;have aA:=D.inS (k:=q) (by simpa using J);obtain⟨bE,s1,s2,s3,s4⟩:=F9 (P:=prog) (t:=4) D rfl (k:=q) (by simpa using J) (x:=.bool true) (y:=true) rfl rfl (A4 V4).choose_spec.1 (by rw[<-F0 (A4 V4).choose_spec.1];exact aE0);simp only[n8,n9,A0,simprocAttr,ap,e5,aS,a7,af,l9,aA,s1];refine V1 (k+1) ⟨?_,H.chain s3 λ_ _ h=>h⟩;have a2:((List.range nx.length).map λ(b:Nat)=>(r.take k).contains (b:Int)).set q true=(List.range nx.length).map λ(b:Nat)=>(r.take (k+1)).contains (b:Int):=by
   apply eq2
   .simp
   .intro j h1 h2;rw[List.getElem_set];simp only[er0,ev8,ak];by_cases hjq:q=j
    .subst hjq;simp
    .rw[if_neg hjq];have:decide ((j:Int)=(q:Int))=false:=by simp;omega
     rw[this,Bool.or_false]
  rw[<-a2];exact s2
 .rintro rfl;rw[ek4,<-A]at D;simp only[n8,simprocAttr,e5];refine o8 results132 ?_;simp only[B8,simprocAttr];have aL:o6 w w9:=p6.ext_of (s.trans v) H λb l=>C9 (C.free l);have E:B0 (i5 w) w8 302 G ((d9 p).steps i):=I.ext v;refine⟨g,G,F,tt,av,ej7 M.size W,E.mod H λb l aX=>?_,D,aL⟩;have h1:=aw b aX;have h2:=O.lt l;omega
instance:p8 (Int×Int):=⟨λp=>[.int .i64 p.1,.int .i64 p.2],λh cs x=>by
 constructor
 .rintro⟨c1,c2,rfl,h1,h2⟩;have e1:c1=[Value.int .i64 x.1]:=h1;have e2:c2=[Value.int .i64 x.2]:=h2;rw[e1,e2];rfl
 .rintro rfl;exact⟨[.int .i64 x.1],[.int .i64 x.2],rfl,rfl,rfl⟩⟩
def F1.nil{α:Type}[A6 α](h:Hp)(w:World)(T T':TypeId):F1 h w T T' (.slice none 0 0) ([]:List Raw) ([]:List (List α)):=
 ⟨B0.nil _ _ _,rfl,λi u b h=>by simp at h,λi j u a _ h=>by simp at h,λi u h=>by simp at h⟩
def F1.push{α:Type}[A6 α]{h:Hp}{w C:World}{T T':TypeId}{v t:Value}{us:List Raw}{l:List (List α)}(g:F1 h w T T' v us l){u':Value}{xs:List α}(E:B0 h w T' u' xs)(s:∀b,A5 u' b->¬N9 v us b)
  (B:B0 h C T t (us++[⟨u'⟩])) (hm:p6 (A5 v) w C) (A:E7 w v t):F1 h C T T' t (us++[⟨u'⟩]) (l++[xs]):=by
 have f:∀(j:Nat) (x:Raw),(us++[(⟨u'⟩:Raw)])[j]?=some x->(j=us.length/\x=⟨u'⟩)\/us[j]?=some x:=by
  intro j x c;rcases en2 j us.length with i|z
  .rw[eo2 i]at c;exact .inr c
  .rw[eo3 z]at c;cases hq:j-us.length with
   | zero=>rw[hq]at c;simp at c;exact .inl ⟨om,c.symm⟩
   | succ q=>rw[hq]at c;simp at c
 have o:∀(j:Nat) (x:Raw),us[j]?=some x->∀b,A5 x.v b->b<w.heap.size/\¬A5 v b:=λj x c b e=>⟨g.lt (.inr ⟨x,el0 c,e⟩),g.off j x c b e⟩;have p:∀b,A5 t b->A5 v b\/w.heap.size<=b:=A;refine⟨B,by simp[g.len],?_,?_,?_⟩
 .intro j x H c r;rcases f j x c with⟨rfl,rfl⟩|d
  .rw[g.len,eo3 (ek6 _)]at r;simp at r;subst r;exact E.mod hm λb e a=>s b e (.inl a)
  .have i:j<l.length:=by rw[<-g.len];exact(ej5.1 d).1
   rw[eo2 i]at r;exact(g.row j x H d r).mod hm λb e=>g.off j x d b e
 .intro j k x y m c G b e a;rcases f j x c with⟨rfl,rfl⟩|d<;>rcases f k y G with⟨rfl,rfl⟩|n
  .exact m rfl
  .exact s b e (.inr ⟨y,el0 n,a⟩)
  .exact s b a (.inr ⟨x,el0 d,e⟩)
  .exact g.apart j k x y m d n b e a
 .intro j x c b e a;rcases f j x c with⟨rfl,rfl⟩|d
  .rcases p b a with u|u
   .exact s b e (.inl u)
   .have:=E.lt e;omega
  .obtain⟨u,F⟩:=o j x d b e;rcases p b a with D|D
   .exact F D
   .omega
def ae2(n:Nat)(l:List Int):List Bool:=(List.range n).map λ(b:Nat)=>l.contains (b:Int)
def ac2(n:Nat)(l:List Int):(ae2 n l).length=n:=by simp[ae2]
def aE9{n:Nat}{l m:List Int}(h:∀x,x∈l↔x∈m):ae2 n l=ae2 n m:=by
 refine List.map_congr_left λb _=>?_;rw[eu4,ek7,ek7];exact h _
def bU1(n:Nat):ae2 n []=List.replicate n false:=by
 apply eq2
 .simp[ae2]
 .intro j a b;simp[ae2]
def aW9{n:Nat}(l:List Int){q:Nat}(c:q<n):(ae2 n l).set q true=ae2 n ((q:Int)::l):=by
 apply eq2
 .simp[ae2]
 .intro j a b;rw[List.getElem_set];simp only[ae2,er0,ev8];by_cases hjq:q=j
  .subst hjq;simp
  .rw[if_neg hjq,List.contains_cons];have:((j:Int)==(q:Int))=false:=by simp;omega
   rw[this,ew4]
def cV1{n:Nat}(l:List Int){q:Nat}(a:q<n):(ae2 n l)[q]?=some (l.contains (q:Int)):=by
 simp[ae2,a]
section
variable {P:Program} {Q:Exit->Fr->World->Prop} {K:Fr->World->Prop} {f:Fr} {w:World} {ops:Array Oper}
def dP1:CW P .skip Q f w=Q .normal f w:=propext er4
def dZ1{a b:Code}:CW P (.seq a b) Q f w=CW P a (ae9 (CW P b Q) Q) f w:=propext er4
def cZ0{c:Operand}{a b:Code}:CW P (.cond c a b) Q f w=aS3 (ev f c) (CW P a Q) (CW P b Q) f w:=propext er4
def dN0{id:Nat}{a:Code}:CW P (.block id a) Q f w=CW P a (ac6 id Q) f w:=propext er4
def dP0{a:Code}:CW P (.loop a) Q f w=ch1 (CW P a) Q f w:=propext er4
def dO8{id:Nat}:CW P (.region id ops true) Q f w=cZ6 P ops (Q .normal) f w:=propext er4
def dO9{id:Nat}:CW P (.exit id) Q f w=Q (.exit id) f w:=propext er4
def dZ0:CW P .ret Q f w=Q .ret f w:=propext er4
def dW4:ae9 K Q .normal f w=K f w:=propext er4
def dW5:ae9 K Q .ret f w=Q .ret f w:=propext er4
def dW6{i:Nat}:ae9 K Q (.exit i) f w=Q (.exit i) f w:=propext er4
def dN5{i:Nat}:ac6 i Q .normal f w=Q .normal f w:=propext er4
def dN6{i:Nat}:ac6 i Q .ret f w=Q .ret f w:=propext er4
def dN7{i j:Nat}:ac6 i Q (.exit j) f w=if j=i then Q .normal f w else Q (.exit j) f w:=propext er4
def dR1{A B:Fr->World->Prop}:aS3 (.bool true) A B f w=A f w:=propext er4
def dR0{A B:Fr->World->Prop}:aS3 (.bool false) A B f w=B f w:=propext er4
end
def i4:=zJ (zJ (zJ (zJ (zJ (zJ @dZ1 @dP1) (zJ @cZ0 (zJ @dN0 @dP0))) (zJ (zJ @dY9 @dO8) (zJ @dO9 (zJ @dZ0 @dW4)))) (zJ (zJ (zJ @dW3 @dW5) (zJ @dW6 (zJ @dN5 @dN4))) (zJ (zJ @dN6 @dN7) (zJ @dR1 (zJ @dR0 @dZ4))))) (zJ (zJ (zJ (zJ @ed0 @eh0) (zJ @dO5 (zJ @eb9 @dO6))) (zJ (zJ @ec0 @ef5) (zJ @eh4 (zJ @dy8 @dU2)))) (zJ (zJ (zJ @dy9 @dU3) (zJ @dU4 (zJ @dK1 @dE0))) (zJ (zJ @dD9 @dU1) (zJ @ef7 (zJ @ef6 @dK0)))))) (zJ (zJ (zJ (zJ (zJ @ef9 @ef8) (zJ @eb7 (zJ @ds9 @dT1))) (zJ (zJ @ef0 @dy5) (zJ @dO4 (zJ @dJ6 @ee4)))) (zJ (zJ (zJ @ef1 @dO3) (zJ @eb6 (zJ @dT4 @eb5))) (zJ (zJ @ev.eq_1 @ev.eq_2) (zJ @ev.eq_3 (zJ @ev.eq_4 @C5.eq_1))))) (zJ (zJ (zJ (zJ @C5.eq_2 @eg9) (zJ @ef2 (zJ @eg0 @eg1))) (zJ (zJ @List.map_cons.{0,0} @List.map_nil.{0,0}) (zJ @List.map_toArray.{0,0} (zJ @ch4.eq_1 @ch4.eq_2)))) (zJ (zJ (zJ @dI2 @ea6) (zJ @ea7 (zJ @df7.eq_1 @List.getElem?_toArray.{0}))) (zJ (zJ @List.getElem?_cons_zero.{0} (zJ @List.getElem?_cons_succ.{0} @Option.bind_some.{0,0})) (zJ @Option.some.injEq.{0} (zJ @ep8 @Bool.true_eq_false))))))
def fd:=zJ @D7 (zJ @i4 @n9)
def fc:=zJ @D7 @i4
def eH:=zJ @i4 @n9
structure aw9 (p:Pg) (i x y:Nat) (wy:Wy):Prop extends WyOk p i x y wy where
 real:wy.real=(d9 p).steps i
 live:(wy.live.length:Int)=wy.n
def U4{p:Pg}{i x y:Nat}(a:az7 p i x y):aw9 p i x y (F5 (d9 p) i):=⟨cM6 a,rfl,bO4 a⟩
def bj7{p:Pg}{i x y:Nat}{wy:Wy}(h:WyOk p i x y wy){l:List Sp}(c:∀t∈l,RgS x y t):∀t∈wy.pairs l,(0<=t.1/\t.1<wy.n)/\(0<=t.2/\t.2<wy.n):=by
 intro t e;obtain⟨s,d,rfl⟩:=el2.1 e;have b:=c s d;refine⟨h.index_rg ?_,h.index_rg (.inr b.2)⟩;rcases b.1 with a|a
 .exact .inl a
 .exact .inr (.inr a)
def dl0{nx:List (List Int)}(c:G2 nx.length nx):∀k,k<nx.length->0<=atI (an8 nx) (k:Nat)/\atI (an8 nx) (k:Nat)<(nx.length:Int):=by
 intro k a;have:atI (an8 nx) (k:Nat)=((((List.range nx.length).find? λb=>ab2 nx (k:Nat) (b:Nat)&&ab2 nx (b:Nat) (k:Nat)).getD 0:Nat):Int):=by
  unfold atI;rw[el5,List.getD,ej0 (by simp[an8,a])];simp[an8]
 rw[this];cases hf:(List.range nx.length).find? λb=>ab2 nx (k:Nat) (b:Nat)&&ab2 nx (b:Nat) (k:Nat)with
 | none=>simp;omega
 | some q=>
  have:=List.mem_of_find?_eq_some hf;rw[en3]at this;simp;omega
def aK9{l:List Int}{k:Nat}(a:k<l.length):atI l (k:Nat)=l[k]:=by
 unfold atI;rw[el5,List.getD,ej0 a];rfl
def di1{h:Hp}{v:Value}{l:List (Int×Int)}{w:World}(hv:R h v l)(hw:E2 h (i5 w)){k:Nat}{x:Int×Int}(a:l[k]?=some x):(Instr.loadAt 208 (.pointer (some (G8 v (k*2))))).run prog w = .ok (.agg #[.int .i64 x.1,.int .i64 x.2]) w:=
 cc0 (P:=prog) (t:=208) hv hw a dn6 dp1 cE1 bL4
def dq9{w:World}(a b:Int):∃c e d,(Instr.alloc 208 true (.tuple #[])).run prog w = .ok (.pointer (some ⟨c,0,none⟩)) e/\(Instr.storeAt 208 (.pointer (some ⟨c,0,none⟩)) (.agg #[.int .i64 a,.int .i64 b])).run prog e = .ok () d/\o6 w d/\d.heap[c]?=some (.cells #[.int .i64 a,.int .i64 b] 208 (0,0))/\w.heap.size<=c:=by
 obtain⟨f,g⟩:=aI8 (P:=prog) (w:=w) (T:=208) dp8 rfl (cs:=#[.int .i64 a,.int .i64 b]) rfl (by simp[Value.oneCell']);exact⟨_,_,_,f,g,o6.alloc _ _,em9 w _,ek6 _⟩
def ay0{w d:World}{c:Nat}{a b:Int}(h:w.heap[c]?=some (.cells #[.int .i64 a,.int .i64 b] 208 (0,0))){M:Nat->Prop}(hm:p6 M w d)(f:¬M c):
  (Instr.loadAt 3 (.pointer (some ⟨c,0,none⟩))).run prog d = .ok (.int .i64 a) d/\(Instr.loadAt 3 (.pointer (some ⟨c,1,none⟩))).run prog d = .ok (.int .i64 b) d:=by
 have e:=(hm.block c (ej4.1 h).1 f).trans h;exact⟨F4 (i:=0) e rfl K1,F4 (i:=1) e rfl K1⟩
def aB9(a:List Int)(n:Int)(b:List (Int×Int)):List Int:=atI a 0::atI a (n-1)::(b.filter λt=>!decide (atI a t.1=atI a t.2)).map λt=>atI a t.1
def cB4(a:List Int)(n:Int)(b:List (Int×Int))(t:Int×Int)(x:Int):x∈aB9 a n (b++[t])↔x∈aB9 a n b\/(decide (atI a t.1=atI a t.2)=false/\x=atI a t.1):=by
 unfold aB9;rw[ep9,em6];by_cases h:atI a t.1=atI a t.2
 .simp[h]
 .simp[h,or_assoc]
def cO5(a:Addr)(wy:Wy)(p:Pg)(i x y:Nat)(w:World)(ha:At (i5 w) a wy)(hr:E6 p)(hw:C4 p<=1000000)(hi:i<p.procs.length)(E:aw9 p i x y wy):
  y5 prog 297 #[.pointer (some a)] w λu o=>(R (i5 o) u wy.traps/\o6 w o):=by
 refine z6 [.pointer (some a)] func297 rfl ?_;obtain⟨_,vr,_,_,a6,_,a8,cs⟩:=ha.wy;have lw:=a8 w (n7 _);rw[E.real]at a6;have be:=J8 hr.may;have cG:=E.part.ok.len;have cF:=E.part.ok.le;have hn:=E.n;have an:=bK7 hr hw hi E.part;have c4:=bs7 hw hi;have aM:=bj7 E.toWyOk an;have ch:(wy.pairs ((d9 p).steps i)).length=((d9 p).steps i).length:=ek2 _;have hF:wy.traps=((List.range (an8 (at6 wy.n.toNat (wy.pairs ((d9 p).steps i))).1).length).filter λ(i':Nat)=>decide (atI (an8 (at6 wy.n.toNat (wy.pairs ((d9 p).steps i))).1) (i':Int)=(i':Int)) && !(aB9 (an8 (at6 wy.n.toNat (wy.pairs ((d9 p).steps i))).1) wy.n (wy.pairs ((d9 p).steps i))).contains (i':Int)).map λ(i':Nat)=>((List.range (an8 (at6 wy.n.toNat (wy.pairs ((d9 p).steps i))).1).length).filter λ(j:Nat)=>decide (atI (an8 (at6 wy.n.toNat (wy.pairs ((d9 p).steps i))).1) (j:Int)=(i':Int))).map λ(j:Nat)=>wy.place (j:Int):=by
  unfold Wy.traps;rw[E.real];rfl
 simp only[eS,simprocAttr,lw];refine y4 (bG1 a wy p i x y vr _ w ha E.toWyOk be a6 an om) ?_;rintro ug w2 ⟨aU,ck⟩;have B:=aq4 wy.n.toNat (wy.pairs ((d9 p).steps i));generalize ci:wy.pairs ((d9 p).steps i)=X at aM ch hF aU B;have af:=B.nx.len;simp only[n8,simprocAttr];refine y4 (cO1 ug _ _ w2 aU (by rw[af];exact B) om) ?_;rintro up w4 ⟨⟨q,bw,O,bx⟩,bD⟩;have N:G2 (at6 wy.n.toNat X).1.length (at6 wy.n.toNat X).1:=by rw[af];exact B.nx
 have cf:=dz1 N O bx;subst cf;have F:=dl0 N;rw[O,af]at hF;rw[af]at O F;generalize an8 (at6 wy.n.toNat X).1=g at bw hF F O;clear bx N af B aU;have U:=ck.trans bD;have C:R (i5 w4) up g:=bw.rw_ (b7 bD);have bg:=C.isS;have bt:=C.vlen;have cn:=a8 w4 (b7 U);have cc:wy.n=((wy.n.toNat:Nat):Int):=om
 have bS:2<=wy.n.toNat:=om
 obtain⟨vo,w5,a2,L,bE,_,_⟩:=mk (P:=prog) (w:=w4) (h:=i5 w4) (α:=Bool) bl6 V4 (y:=false) rfl (n:=wy.n.toNat) om om (n7 _);rw[<-cc]at a2;generalize hM:wy.n.toNat=M at a2 L hF F O bS;have c1:wy.n=(M:Int):=om
 rw[<-bU1]at L;have cd:=F 0 om;have ce:=F (M-1) om;rw[aK9 om]at cd ce;have bn:=C.inS (k:=0) om;have bo:=C.inS (k:=M-1) om;have bu:=L.inS (k:=g[0].toNat) (by rw[ac2];omega);have bv:=L.inS (k:=g[M-1].toNat) (by rw[ac2];omega);have cj:IntKind.i64.wrap (wy.n-1)=((M-1:Nat):Int):=by rw[M7 _ om];omega
 have aL:=L.ext (o6.drew w5);obtain⟨w6,s1,a3,bs,_⟩:=F9 (P:=prog) (t:=4) aL rfl (k:=g[0].toNat) (by rw[ac2];omega) (x:=.bool true) (y:=true) rfl rfl (A4 V4).choose_spec.1 (by rw[<-F0 (A4 V4).choose_spec.1];exact aE0);rw[aW9 _ om]at a3;obtain⟨w7,s2,aj,ca,_⟩:=F9 (P:=prog) (t:=4) a3 rfl (k:=g[M-1].toNat) (by rw[ac2];omega) (x:=.bool true) (y:=true) rfl rfl (A4 V4).choose_spec.1 (by rw[<-F0 (A4 V4).choose_spec.1];exact aE0);rw[aW9 _ om]at aj;have b2:ae2 M [((g[M-1].toNat:Nat):Int),((g[0].toNat:Nat):Int)]=ae2 M (aB9 g wy.n []):=by
  refine aE9 λz=>?_;unfold aB9;have e0:atI g 0=g[0]:=by have:=aK9 (l:=g) (k:=0) om;simpa using this
  have e1:atI g (wy.n-1)=g[M-1]:=by rw[show wy.n-1=((M-1:Nat):Int) by omega,aK9 om]
  rw[e0,e1];simp only[List.filter_nil,List.map_nil,ek9,en5,es4];rw[show((g[M-1].toNat:Nat):Int)=g[M-1] by omega,show((g[0].toNat:Nat):Int)=g[0] by omega,or_comm]
 rw[b2]at aj;have aI:p6 (A5 vo) w5.drew w7:=bs.chain ca λ_ _ h=>h;have a5:∀o,p6 (A5 vo) w5.drew o->E2 (i5 w4) (i5 o):=λo h=>G4 (b7 (bE.trans (o6.drew w5))) h λb hb=>L.free hb;have k0:∀K f d w0,F8 prog (λo=>p6 (A5 vo) w5.drew o) (Instr.loadAt 3 (.pointer (some (G8 up 0)))) K f d w0=K (C5 f d (.int .i64 g[0])) w0:=λK f d w0=>B7 (w0:=w5.drew) (p6.refl _) λo h=>aI7 C (a5 o h) (k:=0) om;have k1:∀K f d w0,F8 prog (λo=>p6 (A5 vo) w5.drew o) (Instr.loadAt 3 (.pointer (some (G8 up (M-1))))) K f d w0=K (C5 f d (.int .i64 g[M-1])) w0:=λK f d w0=>B7 (w0:=w5.drew) (p6.refl _) λo h=>aI7 C (a5 o h) (k:=M-1) om;have ct:=cs (λo=>p6 (A5 vo) w5.drew o) w5.drew (p6.refl _) λo h=>p7 (b7 U) (a5 o h);have b0:g[0]=((g[0].toNat:Nat):Int):=om
 have b1:g[M-1]=((g[M-1].toNat:Nat):Int):=om
 rw[b0]at k0;rw[b1]at k1;generalize g[0].toNat=P0 at k0 bu s1;generalize g[M-1].toNat=P1 at k1 bv s2;simp only[eS,simprocAttr,cn,a2];refine C0 (λo=>p6 (A5 vo) w5.drew o) 17 (A7 [0,1,2,3,4,5,6,7,8,9,10,11,12,13,14,15,16]) ?_;simp only[D7,A7,n8,n9,A0,simprocAttr,k0,k1,ct,bn,bo,cj,bu,bv,s1,s2,G0];refine⟨bs,aI,?_⟩;have aQ:o6 w4 w7:=p6.ext_of (bE.trans (o6.drew w5)) aI λb hb=>C9 (L.free hb);have au:=U.trans aQ;simp only[n8,simprocAttr,a8 w7 (b7 au)];refine y4 (ay2 a wy p i x y vr _ w7 (ha.mono (b7 au)) E.toWyOk (A6.mono (b7 au) a6) an om) ?_;rw[ci];rintro uq w8 ⟨al,bF⟩;have a4:=aj.ext bF;have ar:R (D0 w8 (A5 vo)) uq X:=al.flatRN λb hb=>E4 λbZ=>by
  have h1:=aj.lt bZ;have h2:=C9 (al.free hb);omega
 simp only[eS,simprocAttr,ar.isS,ar.vlen];refine A9 [0,3,4,43,44] (σ:=Nat) (λk f o=>f 45 = .int .i64 k/\k<=X.length/\B0 (i5 w4) o 4 vo (ae2 M (aB9 g wy.n (X.take k)))/\p6 (A5 vo) w8 o) (λk=>X.length-k) 0 ?_ ?_
 .exact⟨rfl,ek1 _,by simpa using a4,p6.refl _⟩
 rintro k f w9 ⟨e0,e3,e4,bb,bQ,_⟩ ⟨ab,c2,ak,a1⟩;have W:=a4.ext2 (aQ.trans bF) a1;simp only[eS,simprocAttr,ab,bQ];refine A3 (λD=>?_) ?_
 .have bm:=ar.inS D;have aC:=di1 ar (F3 a1) (ej0 D);have bB:=ej8 D;obtain⟨bz,bA⟩:=aM _ (ek0 D);generalize X[k]=t at aC bB bz bA;obtain⟨z1,z2⟩:=t;simp only at bz bA aC;obtain⟨Q1,rfl⟩:∃Q:Nat,z1=(Q:Int):=⟨z1.toNat,om⟩;obtain⟨Q2,rfl⟩:∃Q:Nat,z2=(Q:Int):=⟨z2.toNat,om⟩;obtain⟨c,wz,A,bh,ao,av,bj,b4⟩:=dq9 (w:=w9) (Q1:Int) (Q2:Int);have S:=W.trans (av.trans (o6.drew A));have ag:=λo (h:o6 A.drew o)=>ay0 bj (M:=λ_=>False) ((o6.drew A).trans h) id;have t0:∀K f d w0,F8 prog (λo=>o6 A.drew o) (Instr.loadAt 3 (.pointer (some ⟨c,0,none⟩))) K f d w0=K (C5 f d (.int .i64 (Q1:Int))) w0:=λK f d w0=>B7 (w0:=A.drew) (p6.refl _) λo h=>(ag o h).1;have t1:∀K f d w0,F8 prog (λo=>o6 A.drew o) (Instr.loadAt 3 (.pointer (some ⟨c,1,none⟩))) K f d w0=K (C5 f d (.int .i64 (Q2:Int))) w0:=λK f d w0=>B7 (w0:=A.drew) (p6.refl _) λo h=>(ag o h).2;have aB:Q1<g.length:=om
  have aX:Q2<g.length:=om
  have aV:=C.inS aB;have bk:=C.inS aX;have g1:=aK9 aB;have g2:=aK9 aX;have u1:∀K f d w0,F8 prog (λo=>o6 A.drew o) (Instr.loadAt 3 (.pointer (some (G8 up Q1)))) K f d w0=K (C5 f d (.int .i64 (atI g Q1))) w0:=λK f d w0=>B7 (w0:=A.drew) (p6.refl _) λo h=>by rw[g1];exact aI7 C (b7 (S.trans h)) aB
  have u2:∀K f d w0,F8 prog (λo=>o6 A.drew o) (Instr.loadAt 3 (.pointer (some (G8 up Q2)))) K f d w0=K (C5 f d (.int .i64 (atI g Q2))) w0:=λK f d w0=>B7 (w0:=A.drew) (p6.refl _) λo h=>by rw[g2];exact aI7 C (b7 (S.trans h)) aX
  have v1:(Instr.loadAt 3 (.pointer (some (G8 up Q1)))).run prog A.drew = .ok (.int .i64 (atI g Q1)) A.drew:=by rw[g1];exact aI7 C (b7 S) aB
  have cg:=F Q1 om;have ah:=ak.ext (av.trans (o6.drew A));have b8:=(ag A.drew (p6.refl _)).1;have Z:=λz=>cB4 g wy.n (X.take k) ((Q1:Int),(Q2:Int)) z;rw[<-bB]at Z;simp only at Z;generalize atI g (Q1:Int)=A1 at u1 v1 cg Z;generalize atI g (Q2:Int)=A2 at u2 Z;obtain⟨A1,rfl⟩:∃Q:Nat,A1=(Q:Int):=⟨A1.toNat,om⟩;have aJ:p6 (A5 vo) w8 A.drew:=a1.chain (p6.up (av.trans (o6.drew A))) λ_ _ h=>h;rcases ej1 (decide ((A1:Int)=A2))with hq|hq
  .simp only[n8,n9,A0,simprocAttr,ab,bb,bm,aC,bh,ao];refine C0 (λo=>o6 A.drew o) 11 (A7 [0,1,2,3,4,5,6,7,8,9,10]) ?_;simp only[D7,A7,n8,n9,A0,simprocAttr,e3,t0,t1,u1,u2,aV,bk,hq,ab];refine V1 (k+1) ⟨?_,aJ⟩;have:ae2 M (aB9 g wy.n (X.take (k+1)))=ae2 M (aB9 g wy.n (X.take k)):=aE9 λz=>by rw[Z z,hq];simp
   rw[this];exact ah
  .have bp:=ah.inS (k:=A1) (by rw[ac2];omega);obtain⟨aF,s1,aK,br,_⟩:=F9 (P:=prog) (t:=4) ah rfl (k:=A1) (by rw[ac2];omega) (x:=.bool true) (y:=true) rfl rfl (A4 V4).choose_spec.1 (by rw[<-F0 (A4 V4).choose_spec.1];exact aE0);rw[aW9 _ om]at aK;simp only[n8,n9,A0,simprocAttr,ab,bb,bm,aC,bh,ao];refine C0 (λo=>o6 A.drew o) 11 (A7 [0,1,2,3,4,5,6,7,8,9,10]) ?_;simp only[D7,A7,n8,n9,A0,simprocAttr,e3,t0,t1,u1,u2,aV,bk,hq];simp only[n8,n9,A0,simprocAttr,e4,ab,b8,v1,aV,bp,s1];refine V1 (k+1) ⟨?_,aJ.chain br λ_ _ h=>h⟩;have:ae2 M (aB9 g wy.n (X.take (k+1)))=ae2 M ((A1:Int)::aB9 g wy.n (X.take k)):=aE9 λz=>by rw[Z z,hq,ek9];simp[or_comm]
   rw[this];exact aK
 rintro rfl;rw[ek4]at ak;generalize c3:aB9 g wy.n X=op at ak hF;have bC:R (i5 w9) vo (ae2 M op):=ak.rw_ (b7 W);have aP:=U.trans W;have aO:R (i5 w9) up g:=A6.mono (b7 W) C;have bX:=ha.mono (b7 aP);generalize bT:(λ(i':Nat)=>decide (atI g (i':Int)=(i':Int)) && !op.contains (i':Int))=Pr at hF;generalize bW:(λ(i':Nat)=>((List.range M).filter λ(j:Nat)=>decide (atI g (j:Int)=(i':Int))).map λ(j:Nat)=>wy.place (j:Int))=Rw at hF;clear ak a4 aj a3 aL L ar al;simp only[eH,simprocAttr,e3,bg,bt];refine A9 [0,3,4,68,69] (σ:=Nat×Value×List Raw) (λs f o=>f 70 = .int .i64 s.1/\f 7=s.2.1/\s.1<=M/\F1 (i5 w9) o 45 3 s.2.1 s.2.2 (((List.range s.1).filter Pr).map Rw)/\o6 w9 o) (λs=>M-s.1) (0,.slice none 0 0,[]) ?_ ?_
 .exact⟨rfl,rfl,ek1 _,by simpa using F1.nil _ _ _ _,p6.refl _⟩
 rintro⟨m,v,us⟩ f2 aF ⟨g0,g3,g4,cZ,bd,_⟩ ⟨Y,h7,cb,I,G⟩;simp only at Y h7 cb I;rw[e0]at g0;rw[e3]at g3;rw[e4]at g4;rw[O]at bd;have a7:=aP.trans G;have aq:∀q:Nat,((List.range (q+1)).filter Pr).map Rw=((List.range q).filter Pr).map Rw++if Pr q then[Rw q]else[]:=λq=>by
  rw[eu5,ep9,em6]
  congr 1
  by_cases h:Pr q=true<;>simp[h]
 simp only[eH,simprocAttr,Y,bd];refine A3 (λD=>?_) ?_;rotate_left
 .rintro rfl;simp only[i4,simprocAttr,h7];exact o8 results297 ⟨by rw[hF];exact I.ro (b7 G),a7⟩
 have aZ:m<g.length:=om
 have aW:=C.inS aZ;have aH:=λo (h:o6 w9 o)=>aI7 aO (b7 h) aZ;rw[<-aK9 aZ]at aH;have aE:=aH aF G;have T:Pr m=(decide (atI g (m:Int)=(m:Int)) && !op.contains (m:Int)):=by rw[<-bT]
 have am:Pr m=false->∃s:Nat×Value×List Raw,M-s.1<M-m/\(Value.int .i64 (IntKind.i64.wrap ((m:Int)+1))) = .int .i64 s.1/\v=s.2.1/\s.1<=M/\F1 (i5 w9) aF 45 3 s.2.1 s.2.2 (((List.range s.1).filter Pr).map Rw)/\o6 w9 aF:=λh=>by
  refine nx4 (m+1,v,us) ⟨?_,G⟩;simp only[];rw[aq,h,if_neg dP,em5];exact I
 generalize c0:atI g (m:Int)=Am at aE T;rcases ej1 (decide (Am=(m:Int)))with q1|q1;rotate_left
 .simp only[i4,n9,A0,simprocAttr,Y,h7,g3,aW,aE,q1];exact am (by rw[T,q1];rfl)
 have bq:=bC.inS (k:=m) (by rw[ac2];exact D);have a0:=ldB bC (b7 G) (k:=m) (by rw[ac2];exact D);have b5:(ae2 M op)[m]'(by rw[ac2];exact D)=op.contains (m:Int):=by
  have:=cV1 op D;rw[ej0 (by rw[ac2];exact D)]at this;exact el4 this
 rw[b5]at a0;rcases ej1 (op.contains (m:Int))with q2|q2
 .simp only[i4,n9,A0,simprocAttr,Y,h7,g3,g4,aW,aE,q1,bq,a0,q2];exact am (by rw[T,q1,q2];rfl)
 have bU:Pr m=true:=by rw[T,q1,q2];rfl
 have bV:Rw m=((List.range M).filter λ(j:Nat)=>decide (atI g (j:Int)=(m:Int))).map λ(j:Nat)=>wy.place (j:Int):=by rw[<-bW]
 simp only[i4,n9,A0,simprocAttr,Y,g3,g4,aW,aE,q1,bq,a0,q2,bg,bt];refine A9 [0,3,4,7,8,68,69,70,85,86] (σ:=Nat×Value) (λs f o=>f 87 = .int .i64 s.1/\f 9=s.2/\s.1<=M/\B0 (i5 w9) o 3 s.2 (((List.range s.1).filter λ(j:Nat)=>decide (atI g (j:Int)=(m:Int))).map λ(j:Nat)=>wy.place (j:Int))/\(∀b,A5 s.2 b->¬N9 v us b)/\F1 (i5 w9) o 45 3 v us (((List.range m).filter Pr).map Rw)/\o6 w9 o) (λs=>M-s.1) (0,.slice none 0 0) ?_ ?_
 .exact⟨rfl,rfl,ek1 _,by simpa using B0.nil _ _ _,λb hb=>absurd hb D8,I,G⟩
 rintro⟨j,ul⟩ f3 cx ⟨r0,r3,r4,r7,r8,c6,c7,cr,c8,bH,_⟩ ⟨ac,h9,b6,J,ae,r,H⟩;simp only at ac h9 b6 J ae;rw[O]at bH;rw[g0]at r0;rw[g3]at r3;rw[h7]at r7;have cD:(((List.range j).filter λ(j:Nat)=>decide (atI g (j:Int)=(m:Int))).map λ(j:Nat)=>wy.place (j:Int)).length<=j:=by
  rw[ek2];exact ej7 (el8 _ _) dP
 have b3:us.length<=m:=by
  rw[r.len,ek2];exact ej7 (el8 _ _) dP
 simp only[eH,simprocAttr,ac,bH];refine A3 (λcH=>?_) ?_
 .have aY:j<g.length:=om
  have bl:=C.inS aY;have aD:=aI7 aO (b7 H) aY;rw[<-aK9 aY]at aD;have ap:(((List.range (j+1)).filter λ(j:Nat)=>decide (atI g (j:Int)=(m:Int))).map λ(j:Nat)=>wy.place (j:Int))=(((List.range j).filter λ(j:Nat)=>decide (atI g (j:Int)=(m:Int))).map λ(j:Nat)=>wy.place (j:Int))++if decide (atI g (j:Int)=(m:Int))then[wy.place (j:Int)]else[]:=by
   rw[eu5,ep9,em6]
   congr 1
   cases h:decide (atI g (j:Int)=(m:Int))<;>simp[h]
  generalize atI g (j:Int)=Aj at aD ap;rcases ej1 (decide (Aj=(m:Int)))with q3|q3
  .simp only[i4,n9,A0,simprocAttr,ac,r0,r3,r8,bl,aD,q3];refine B6 (ak9 a wy p i x y (j:Int) cx (bX.mono (b7 H)) E.toWyOk om) (λcy V=>?_);have aw:=H.trans V;obtain⟨p1,cw,dc,p2,p3,p4,p5⟩:=push (e:=45) W3 rfl (J.ext V) (x:=.int .i64 (wy.place (j:Int))) (y:=wy.place (j:Int)) rfl om om (b7 aw);simp only[Value.cells]at p1 p2;have aN:=r.ext V;simp only[eH,simprocAttr,ac,h9,p1,p2];refine nx4 (j+1,cw) ⟨?_,λb hb bi=>?_,aN.mod p4 λb hb bY=>ae b bY hb,(J.ext V).ext2 aw p4⟩
   .simp only[];rw[ap,q3,if_pos rfl];exact p3
   .rcases p5 b hb with h|h
    .exact ae b h bi
    .have:=aN.lt bi;omega
  .simp only[i4,n9,A0,simprocAttr,ac,r3,r8,bl,aD,q3];refine nx2 (j+1,ul) ⟨h9,om,?_,ae,r,H⟩;simp only[];rw[ap,q3,if_neg dP,em5];exact J
 .rintro rfl;rw[<-bV]at J;obtain⟨p1,v',cy,p2,p3,p4,p5⟩:=push (e:=261) cC5 rfl r.outer (x:=ul) (y:=(⟨ul⟩:Raw)) (by rw[F7 J.isS];exact⟨rfl,W8 J.isS⟩) om om (b7 H);simp only[eH,simprocAttr,h9,r7,cr,Y,p1,p2];refine nx4 (m+1,v',us++[⟨ul⟩]) ⟨?_,r.outer.ext2 H p4⟩;simp only[];rw[aq,bU,if_pos rfl];exact r.push J ae p3 p4 p5
def ct3{p:Pg}{i x y:Nat}{wy:Wy}(b:aw9 p i x y wy):∃a op:List Int,wy.traps=((List.range a.length).filter λ(c:Nat)=>decide (atI a (c:Int)=(c:Int)) && !op.contains (c:Int)).map (λ(c:Nat)=>((List.range a.length).filter λ(j:Nat)=>decide (atI a (j:Int)=(c:Int))).map λ(j:Nat)=>wy.place (j:Int))/\(a.length:Int)=wy.n/\atI a 0∈op/\atI a (wy.n-1)∈op:=by
 refine⟨an8 (at6 wy.n.toNat (wy.pairs wy.real)).1,aB9 (an8 (at6 wy.n.toNat (wy.pairs wy.real)).1) wy.n (wy.pairs wy.real),rfl,?_,?_,?_⟩
 .have d:=(aq4 wy.n.toNat (wy.pairs wy.real)).nx.len;have e:=b.n;have f:=b.part.ok.le;unfold an8;rw[ek2,en9,d];omega
 .simp[aB9]
 .simp[aB9]
def ct4{p:Pg}{i x y:Nat}{wy:Wy}(a:aw9 p i x y wy):∀l∈wy.traps,∀id∈l,(x:Int)<id/\id<=(y:Int):=by
 obtain⟨m,op,e,s,n,o⟩:=ct3 a;intro l hm id hid;rw[e]at hm;obtain⟨k,g,rfl⟩:=el2.1 hm;obtain⟨j,f,rfl⟩:=el2.1 hid;rw[el6,en3]at g f;have c:=ej3 f.2;have b:(k:Int)∉op:=by
  have:=g.2;rw[el3]at this;intro hm;have q:=ek7.2 hm;rw[q]at this;simp at this
 have t:=a.n;have h:=a.part.ok.le;rw[a.toWyOk.place];have r:j≠0:=λe=>by
  subst e;apply b;rw[<-c];simpa using n
 have d:(j:Int)≠wy.n-1:=λe=>by
  apply b;rw[<-c,e];exact o
 rw[if_neg om,if_neg d];omega
def bW1{p:Pg}{i x y:Nat}{wy:Wy}(b:aw9 p i x y wy):(wy.traps.length:Int)<=wy.n/\∀l∈wy.traps,(l.length:Int)<=wy.n:=by
 obtain⟨a,op,e,h,d,f⟩:=ct3 b;rw[e];constructor
 .rw[ek2];have:=el8 (λ(c:Nat)=>decide (atI a (c:Int)=(c:Int)) && !op.contains (c:Int)) (List.range a.length);rw[en9]at this;omega
 .intro l hm;obtain⟨k,g,rfl⟩:=el2.1 hm;rw[ek2];have:=el8 (λ(j:Nat)=>decide (atI a (j:Int)=(k:Int))) (List.range a.length);rw[en9]at this;omega
def dB2{p:Pg}{i x y:Nat}{wy:Wy}(b:aw9 p i x y wy):∀t∈wy.virtual,RgS x y t:=by
 intro t c;obtain⟨l,d,c⟩:=em2.1 c;obtain⟨id,a,rfl⟩:=el2.1 c;exact⟨.inr (ct4 b l d id (el6.1 a).1),.inl rfl⟩
def dr1{p:Pg}{i x y:Nat}{wy:Wy}(a:aw9 p i x y wy)(b:(d9 p).l.length<=200):wy.virtual.length<=202*202:=by
 obtain⟨f,d⟩:=bW1 a;have g:=a.n;have c:=a.part.ok.len;have:=P9 (λl:List Int=>(l.filter λid=>decide ((wy.s.it id).s.kind=10)).map λid=>(⟨id,-1,3⟩:Sp)) 202 wy.traps λl e=>by
  rw[ek2];refine ej7 (el8 _ _) ?_;have:=d l e;omega
 refine ej7 this ?_;exact es3 _ om
def bz3(a:Addr)(wy:Wy)(p:Pg)(i x y:Nat)(w:World)(ha:At (i5 w) a wy)(hr:E6 p)(hw:C4 p<=1000000)(hi:i<p.procs.length)(b:aw9 p i x y wy):
  y5 prog 273 #[.pointer (some a)] w λu L=>(B0 (i5 w) L 302 u wy.virtual/\o6 w L):=by
 refine z6 [.pointer (some a)] func273 rfl ?_;obtain⟨vs,_,_,aq,_,_,av,_⟩:=ha.wy;obtain⟨sh,rfl,has⟩:=Ptr.at_ aq;have ao:At (i5 w) sh (d9 p):=by rw[<-b.s];exact has
 obtain⟨vL,_,_,hL,_,_,_,ar,_⟩:=ao.sh;have aA:=J8 hr.may;have aF:=b.part.ok.len;have hn:=b.n;have W:=ct4 b;obtain⟨ap,v⟩:=bW1 b;have hF:wy.virtual=wy.traps.flatMap λl=>(l.filter λid=>decide (((d9 p).it id).s.kind=10)).map λid=>(⟨id,-1,3⟩:Sp):=by unfold Wy.virtual;rw[b.s]
 simp only[eH,simprocAttr];refine y4 (cO5 a wy p i x y w ha hr hw hi b) ?_;rintro ut w2 ⟨A,O⟩;generalize wy.traps=K at A hF W ap v;have af:=A.isS;have an:=A.vlen;generalize hB:(λl:List Int=>(l.filter λid=>decide (((d9 p).it id).s.kind=10)).map λid=>(⟨id,-1,3⟩:Sp))=B at hF;have ad:∀l∈K,(B l).length<=202:=λl hl=>by
  rw[<-hB,ek2];refine ej7 (el8 _ _) ?_;have:=v l hl;omega
 have ag:∀k,((K.take k).flatMap B).length<=202*202:=λk=>by
  refine ej7 (P9 B 202 _ λl hl=>ad l (er2 hl)) (es3 _ ?_);rw[ek3];omega
 simp only[eH,simprocAttr,af,an];refine A9 [0,9,10] (σ:=Nat×Value) (λs f L=>f 11 = .int .i64 s.1/\f 3=s.2/\s.1<=K.length/\B0 (i5 w2) L 302 s.2 ((K.take s.1).flatMap B)/\o6 w2 L) (λs=>K.length-s.1) (0,.slice none 0 0) ?_ ?_
 .exact⟨rfl,rfl,ek1 _,by simpa using B0.nil _ _ _,p6.refl _⟩
 rintro⟨j,u⟩ f w5 ⟨e0,e9,ab,_⟩ ⟨F,h3,aj,U,Q⟩;simp only at F h3 aj U;have V:=ag j;simp only[eH,simprocAttr,F,ab];refine A3 (λr=>?_) ?_;rotate_left
 .rintro rfl;rw[ek4]at U;simp only[i4,simprocAttr,h3];exact o8 results273 ⟨by rw[hF];exact U.backN O,O.trans Q⟩
 have o:=A.inS r;obtain⟨ul,z,ah⟩:=R.row A (ej0 r);have g:=J7 (P:=prog) (t:=45) ah (b7 Q) aj0;have N:=J9 B K r;have J:=W _ (ek0 r);have am:=v _ (ek0 r);generalize K[j]=l at z N J am;have S:B l=(l.filter λid=>decide (((d9 p).it id).s.kind=10)).map λid=>(⟨id,-1,3⟩:Sp):=by rw[<-hB]
 generalize(K.take j).flatMap B=pre at U V N;simp only[i4,n9,A0,simprocAttr,F,e9,o,g,z.isS,z.vlen];refine A9 [0,9,10,11,15,16] (σ:=Nat×Value) (λs f L=>f 17 = .int .i64 s.1/\f 3=s.2/\s.1<=l.length/\B0 (i5 w2) L 302 s.2 (pre++((l.take s.1).filter λid=>decide (((d9 p).it id).s.kind=10)).map λid=>(⟨id,-1,3⟩:Sp))/\o6 w2 L) (λs=>l.length-s.1) (0,u) ?_ ?_
 .exact⟨rfl,h3,ek1 _,by simpa using U,Q⟩
 rintro⟨k,u6⟩ f6 w6 ⟨q0,q9,aP,ax,Z,ay,_⟩ ⟨G,H,ak,m,n⟩;simp only at G H ak m;rw[e0]at q0;have D:=O.trans n;have aE:((l.take k).filter λid=>decide (((d9 p).it id).s.kind=10)).length<=k:=ej7 (el8 _ _) (by rw[ek3];omega);simp only[eH,simprocAttr,G,ay];refine A3 (λc=>?_) ?_;rotate_left
 .rintro rfl;rw[ek4,<-S]at m;simp only[eH,simprocAttr,ax,F];refine nx2 (j+1,u6) ⟨H,om,?_,n⟩;simp only[];rw[N];exact m
 clear o g;have o:=z.inS c;have g:=aI7 z (b7 n) c;have M:=J _ (ek0 c);have d:((l.take (k+1)).filter λid=>decide (((d9 p).it id).s.kind=10)).map (λid=>(⟨id,-1,3⟩:Sp))=((l.take k).filter λid=>decide (((d9 p).it id).s.kind=10)).map (λid=>(⟨id,-1,3⟩:Sp))++if decide (((d9 p).it l[k]).s.kind=10)then[⟨l[k],-1,3⟩]else[]:=by
  rw[ej8 c,ep9,em6]
  congr 1
  cases h:decide (((d9 p).it l[k]).s.kind=10)<;>simp[h]
 generalize l[k]=id at g M d;obtain⟨_,_,I⟩:=b.part.at_ id M.1 M.2;have Y:=av w6 (b7 D);have X:=ar w6 (b7 D);obtain⟨T,_,_⟩:=(hL.at_ I).it;obtain⟨_,_,_,_,_,_,_,_,_,au,_⟩:=T.st;have E:=au w6 (b7 D);have hz:A6.sz It=17:=rfl;rw[hz]at E;have q:=hL.inS ((ej5.1 I).1);have C:IntKind.i64.wrap (id-1)=(((id-1).toNat:Nat):Int):=by rw[M7 _ om];omega
 generalize(id-1).toNat=qq at E q C;generalize((d9 p).it id).s.kind=kk at E d;rcases ej1 (decide (kk=10))with hq|hq
 .obtain⟨p1,u7,w7,p2,p3,p4,p5⟩:=push (e:=222) bK3 rfl m (x:=.agg (p8.cells (⟨id,-1,3⟩:Sp)).toArray) (y:=⟨id,-1,3⟩) (cj6 _) (by simp only[ej2,ek2];omega) (by simp only[ej2,ek2];omega) (b7 n);simp only[i4,n9,A0,simprocAttr,G,H,q0,Z,o,g,Y,X,C,q,E,hq,as5,p1,p2];refine nx4 (k+1,u7) ⟨?_,m.ext2 n p4⟩;simp only[];rw[d,hq,if_pos rfl,<-el9];exact p3
 .simp only[i4,n9,A0,simprocAttr,G,H,q0,Z,o,g,Y,X,C,q,E,hq];refine nx4 (k+1,u6) ⟨?_,n⟩;simp only[];rw[d,hq,if_neg dP,em5];exact m
def cL3{x y:Nat}(a:y<=1000000){t:Sp}(h:RgS x y t):plc t.src/\plc t.dst:=
 ⟨by rcases h.1 with h|h<;>unfold plc<;>omega,cC0 a h.2⟩
def dR4{p:Pg}{i x y:Nat}(a:az7 p i x y):y<=1000000:=ej7 a.ok.len a.ok.fit
def dr2{p:Pg}{i x y:Nat}{wy:Wy}(d:E6 p)(hw:C4 p<=1000000)(c:i<p.procs.length)(a:aw9 p i x y wy):∀t∈wy.virtual++wy.real,RgS x y t:=by
 intro t b;rcases ej9.1 b with b|b
 .exact dB2 a t b
 .rw[a.real]at b;exact bK7 d hw c a.part t b
def cf4{p:Pg}{i x y:Nat}{wy:Wy}(c:E6 p)(hw:C4 p<=1000000)(b:i<p.procs.length)(a:aw9 p i x y wy):wy.virtual.length+wy.real.length<=1000000:=by
 have d:=dr1 a (J8 c.may);have e:=bs7 hw b;rw[a.real];omega
def bZ7{p:Pg}{i x y:Nat}{wy:Wy}(c:E6 p)(hw:C4 p<=1000000)(b:i<p.procs.length)(a:aw9 p i x y wy):∀t∈wy.data,RgS x y t:=λt d=>dr2 c hw b a t (be1 d)
def bg4{p:Pg}{i x y:Nat}{wy:Wy}(c:E6 p)(hw:C4 p<=1000000)(b:i<p.procs.length)(a:aw9 p i x y wy):wy.data.length<=1000000:=by
 have h:=cf4 c hw b a;refine ej7 (be0 _) ?_;rw[ej2];exact h
def cg3(a:Addr)(wy:Wy)(p:Pg)(i x y:Nat)(w:World)(q:At (i5 w) a wy)(l:E6 p)(hw:C4 p<=1000000)(f:i<p.procs.length)(b:aw9 p i x y wy):
  y5 prog 210 #[.pointer (some a)] w λu d=>(B0 (i5 w) d 302 u wy.data/\o6 w d):=by
 refine z6 [.pointer (some a)] func210 rfl ?_;obtain⟨_,H,_,_,n,_,B,o⟩:=q.wy;obtain⟨_,_,_,D,_⟩:=o (λd=>o6 w.drew d) w.drew (p6.refl _) λd h=>b7 ((o6.drew w).trans h);have r:=cf4 l hw f b;have m:=dr2 l hw f b;have A:=dR4 b.part;simp only[eH,simprocAttr];refine C0 (λd=>o6 w.drew d) 6 (A7 [0,2,3,4,5,1]) ?_;simp only[D7,A7,i4,n9,simprocAttr,D];refine y4 (bz3 a wy p i x y w.drew (q.mono (b7 (o6.drew w))) l hw f b) ?_;rintro u I ⟨j,c⟩;refine⟨c,?_⟩;obtain⟨F,J,C,s,v,E⟩:=X9 (P:=prog) (t:=222) (e:=222) bK3 rfl j (A6.mono (b7 (o6.drew w)) n) om om (b7 c);simp only[fc,simprocAttr,C];refine y4 (aL6 s (by simp only[ej2];omega) (b7 (j.ext2 c v)) λt z=>cL3 A (m t z)) ?_;rintro G K ⟨k,g,_⟩;simp only[i4,simprocAttr];exact o8 results210 ⟨k.backN (o6.drew w),(o6.drew w).trans (s.ext2 (j.ext2 c v) g)⟩
def db2{p:Pg}{i x y:Nat}{wy:Wy}(e:E6 p)(hw:C4 p<=1000000)(d:i<p.procs.length)(b:aw9 p i x y wy):∀t∈wy.virtual++wy.real++[⟨0,-1,2⟩]++((d9 p).of i).flatMap ac8,RgS x y t:=by
 intro t a;rcases ej9.1 a with a|a
 .rcases ej9.1 a with a|a
  .exact dr2 e hw d b t a
  .obtain rfl:=ek5.1 a;exact⟨.inl rfl,.inl rfl⟩
 .obtain⟨it,c,a⟩:=em2.1 a;unfold ac8 at a;split at a
  .obtain rfl:=ek5.1 a;exact⟨.inr (b.part.ids it c),b.part.next it c⟩
  .simp at a
def bG8(it:It):(ac8 it).length<=1:=by
 unfold ac8;split<;>simp
def cF6(a:Addr)(wy:Wy)(p:Pg)(i x y:Nat)(w:World)(ha:At (i5 w) a wy)(hr:E6 p)(hw:C4 p<=1000000)(hi:i<p.procs.length)(g:aw9 p i x y wy):
  y5 prog 208 #[.pointer (some a)] w λu o=>(B0 (i5 w) o 302 u wy.aug/\o6 w o):=by
 refine z6 [.pointer (some a)] func208 rfl ?_;obtain⟨vs,vr,_,az,ay,_,_,ae⟩:=ha.wy;obtain⟨sh,rfl,has⟩:=Ptr.at_ az;have aw:At (i5 w) sh (d9 p):=by rw[<-g.s];exact has
 obtain⟨_,_,_,sr,_⟩:=ae (λo=>o6 w.drew o) w.drew (p6.refl _) λo h=>b7 ((o6.drew w).trans h);have aD:=cf4 hr hw hi g;have L:=db2 hr hw hi g;have hy:=dR4 g.part;have hF:wy.aug=aD1 (wy.virtual++wy.real++[⟨0,-1,2⟩]++((d9 p).of i).flatMap ac8):=by unfold Wy.aug;rw[g.s,g.proc]
 simp only[eH,simprocAttr];refine C0 (λo=>o6 w.drew o) 6 (A7 [0,2,3,4,5,1]) ?_;simp only[D7,A7,i4,n9,simprocAttr,sr];refine y4 (bz3 a wy p i x y w.drew (ha.mono (b7 (o6.drew w))) hr hw hi g) ?_;rintro u w2 ⟨q,N⟩;refine⟨N,?_⟩;obtain⟨u3,w3,S,Q,T,p4⟩:=X9 (P:=prog) (t:=222) (e:=222) bK3 rfl q (A6.mono (b7 (o6.drew w)) ay) om om (b7 N);have aa:=q.ext2 N T;obtain⟨q1,u4,R,q2,q3,q4,q5⟩:=push (e:=222) bK3 rfl Q (x:=.agg (p8.cells (⟨0,-1,2⟩:Sp)).toArray) (y:=⟨0,-1,2⟩) (cj6 _) (by simp only[ej2];omega) (by simp only[ej2];omega) (b7 aa);have ab:=(o6.drew w).trans (Q.ext2 aa q4);have X:=q3.backN (o6.drew w);have J:(wy.virtual++wy.real++[(⟨0,-1,2⟩:Sp)]).length<=1000001:=by simp only[ej2,em3];omega
 generalize wy.virtual++wy.real++[(⟨0,-1,2⟩:Sp)]=G at X hF L J;obtain⟨z1,z2,_,_,_⟩:=ae (λo=>o6 R.drew o) R.drew (p6.refl _) λo h=>b7 (ab.trans ((o6.drew R).trans h));simp only[fc,simprocAttr,S,as5,q1,q2];refine C0 (λo=>o6 R.drew o) 11 (A7 [0,1,2,3,4,5,6,7,10,8,9]) ?_;simp only[D7,A7,i4,n9,simprocAttr,z1,z2];have H:=ab.trans (o6.drew R);rw[g.proc];refine y4 (aJ6 (i5 w) sh (d9 p) i x y R.drew aw (b7 H) g.part.ok) ?_;rintro ui w5 ⟨D,O⟩;refine⟨O,?_⟩;have al:=D.isS;have W:=D.vlen;have an:=(bx3 p hw i hi).2;generalize hl:(d9 p).of i=l at D hF L W an;have Z:=H.trans O;have ar:=X.ext ((o6.drew R).trans O);have am:∀k,((l.take k).flatMap ac8).length<=400000:=λk=>by
  refine ej7 (P9 ac8 1 _ λx _=>bG8 x) ?_;rw[ek3];omega
 simp only[fd,simprocAttr,al,W];refine A9 [0,25,26] (σ:=Nat×Value) (λs f o=>f 27 = .int .i64 s.1/\f 3=s.2/\s.1<=l.length/\B0 (i5 w) o 302 s.2 (G++(l.take s.1).flatMap ac8)/\o6 w o) (λs=>l.length-s.1) (0,u4) ?_ ?_
 .exact⟨rfl,rfl,ek1 _,by simpa using ar,Z⟩
 rintro⟨j,u⟩ f w6 ⟨e0,z,aj,_⟩ ⟨m,I,ap,q,F⟩;simp only at m I ap q;have Y:=am j;simp only[eH,simprocAttr,m,aj];refine A3 (λK=>?_) ?_;rotate_left
 .rintro rfl;rw[ek4]at q Y;simp only[i4,simprocAttr,I];refine y4 (aL6 q (by simp only[ej2];omega) (b7 F) λt ht=>cL3 hy (L t ht)) ?_;rintro u6 w7 ⟨au,aq,_⟩;simp only[i4,simprocAttr];exact o8 results208 ⟨by rw[hF];exact au,q.ext2 F aq⟩
 have B:=D.inS K;obtain⟨sv,M,r⟩:=H1 (P:=prog) (t:=156) D (b7 F) (ej0 K) af2 af4 ac9 L4;rw[L4]at r;have v:=J9 ac8 l K;generalize l[j]=it at M v;obtain⟨c,wz,w7,A,C,n,U⟩:=aY4 (w:=w6) (A5 u) M (λb hb=>q.lt hb);obtain⟨us,ax,V,ldI,_⟩:=L8.it M U;obtain⟨_,_,_,_,_,_,_,_,_,_,_,aA,_⟩:=L8.st ax V;have d:=F.trans n;have k1:=aA w7 (B4 _ _);have k2:=ldI w7 (B4 _ _);have E:(it.s.kind=7\/it.s.kind=8\/it.s.kind=9\/it.s.kind=10)->ac8 it=[⟨it.s.id,it.next,2⟩]:=λh=>by unfold ac8;rw[if_pos h]
 have aG:(G++(l.take j).flatMap ac8).length<=2000000:=by rw[ej2];omega
 obtain⟨S,u7,w8,Q,T,p4,p5⟩:=push (e:=222) bK3 rfl (q.ext n) (x:=.agg (p8.cells (⟨it.s.id,it.next,2⟩:Sp)).toArray) (y:=⟨it.s.id,it.next,2⟩) (cj6 _) om om (b7 d);rcases ej1 (decide (it.s.kind=7))with k7|k7
 .simp only[i4,n9,A0,simprocAttr,m,I,z,B,r,A,C,k1,k2,k7,as5,S,Q];refine nx4 (j+1,u7) ⟨?_,(q.ext n).ext2 d p4⟩;simp only[];rw[v,E (by have:=ej3 k7;omega),<-el9];exact T
 rcases ej1 (decide (it.s.kind=8))with k8|k8
 .simp only[i4,n9,A0,simprocAttr,m,I,z,B,r,A,C,k1,k2,k7,k8,as5,S,Q];refine nx4 (j+1,u7) ⟨?_,(q.ext n).ext2 d p4⟩;simp only[];rw[v,E (by have:=ej3 k8;omega),<-el9];exact T
 rcases ej1 (decide (it.s.kind=9))with k9|k9
 .simp only[i4,n9,A0,simprocAttr,m,I,z,B,r,A,C,k1,k2,k7,k8,k9,as5,S,Q];refine nx4 (j+1,u7) ⟨?_,(q.ext n).ext2 d p4⟩;simp only[];rw[v,E (by have:=ej3 k9;omega),<-el9];exact T
 rcases ej1 (decide (it.s.kind=10))with k10|k10
 .simp only[i4,n9,A0,simprocAttr,m,I,z,B,r,A,C,k1,k2,k7,k8,k9,k10,as5,S,Q];refine nx4 (j+1,u7) ⟨?_,(q.ext n).ext2 d p4⟩;simp only[];rw[v,E (by have:=ej3 k10;omega),<-el9];exact T
 simp only[i4,n9,A0,simprocAttr,m,I,z,B,r,A,C,k1,k7,k8,k9,k10];refine nx4 (j+1,u) ⟨?_,d⟩;simp only[];have ao:ac8 it=[]:=by
  unfold ac8;rw[if_neg];have:=ej6 k7;have:=ej6 k8;have:=ej6 k9;have:=ej6 k10;omega
 rw[v,ao,em5];exact q.ext n
def M2:=zJ (zJ (zJ (zJ (zJ (zJ @bB8 @dZ2) (zJ @dY5 @dO7)) (zJ (zJ @dY8 @ec6) (zJ @dY6 (zJ @dY7 @ec7)))) (zJ (zJ (zJ @ec3 @dW3) (zJ @ec4 (zJ @ec5 @dP9))) (zJ (zJ @dN4 @dQ0) (zJ @dQ1 (zJ @eb0 @ea9))))) (zJ (zJ (zJ (zJ @ed1 @eh1) (zJ @eh5 (zJ @dO5 @eb9))) (zJ (zJ @dO6 @ec0) (zJ @ef5 (zJ @eh4 @dy8)))) (zJ (zJ (zJ @dU2 @dy9) (zJ @dU3 (zJ @dU4 @dK1))) (zJ (zJ @dE0 @dD9) (zJ @dU1 (zJ @ef7 @ef6)))))) (zJ (zJ (zJ (zJ (zJ @dK0 @ef9) (zJ @ef8 (zJ @eb7 @ds9))) (zJ (zJ @dT1 @ef0) (zJ @dy5 (zJ @dO4 @dJ6)))) (zJ (zJ (zJ @ee4 @ef1) (zJ @dO3 (zJ @eb6 @dT4))) (zJ (zJ @eb5 @ev.eq_1) (zJ @ev.eq_2 (zJ @ev.eq_3 @ev.eq_4))))) (zJ (zJ (zJ (zJ @C5.eq_1 @C5.eq_2) (zJ @eg9 (zJ @ef2 @ec1))) (zJ (zJ @ec2 @List.map_cons.{0,0}) (zJ @List.map_nil.{0,0} (zJ @List.map_toArray.{0,0} @ch4.eq_1)))) (zJ (zJ (zJ @ch4.eq_2 @dO0) (zJ @df7.eq_1 (zJ @List.getElem?_toArray.{0} @List.getElem?_cons_zero.{0}))) (zJ (zJ @List.getElem?_cons_succ.{0} @Option.bind_some.{0,0}) (zJ @Option.some.injEq.{0} (zJ @ep8 @Bool.true_eq_false))))))
def zVB:=zJ (zJ (zJ (zJ @Option.map_some.{0,0} (zJ @Option.map_none.{0,0} @Int.toNat_zero)) (zJ (zJ @Option.isNone_none.{0} @Option.isNone_some.{0}) (zJ @M8 @ca6.eq_1))) (zJ (zJ @ca6.eq_2 (zJ @dv2.eq_1 @bv1.eq_1)) (zJ (zJ @bv1.eq_2 @dj0.eq_1) (zJ @di7.eq_1 @TY)))) (zJ (zJ (zJ @Option.isSome_some.{0} (zJ @eq4 @Bool.and_true)) (zJ (zJ @es6 @el5) (zJ @ee1 @Int.cast_ofNat_Int))) (zJ (zJ @decide_true (zJ @add_lit @en0)) (zJ (zJ @Nat.zero_mul @Nat.one_mul) (zJ @Bool.not_true @Bool.not_false))))
def bu3{a:List W}{i:Nat}(h:i<a.length):a[i]?=some (a.getD i 0#64):=by simp[List.getD,h]
def dK4:G7 prog 355 240 1 8=true:=kr
def dz2(h:Hp)(v:Value)(a:List W)(f:Nat)(w:World)(j:B0 h w 240 v a)(l:f / 64<a.length)(m:f<1000000000000):
  y5 prog 317 #[v,.int .i64 f] w λu r=>(u = .bool (!U7 a f)/\B0 h r 240 v (cW2 a f)/\p6 (A5 v) w r):=by
 refine z6 [v,.int .i64 f] func317 rfl ?_;have b:=j.inS l;have o:=bu3 l;have d:=E1 (P:=prog) (t:=240) j o av5;simp only[O8.val]at d;have p:=bZ1 (P:=prog) (t:=3) f m;have q:=dc9 (P:=prog) (t:=3) f;have hm:f % 64<64:=Nat.mod_lt _ dQ;have g:U7 a f=(a.getD (f / 64) 0#64).getLsbD (f % 64):=rfl;have n:cW2 a f=a.set (f / 64) (a.getD (f / 64) 0#64 ||| (1#64 <<< (f % 64))):=rfl;rw[g,n];generalize f / 64=i at *;generalize f % 64=k at *;generalize a.getD i 0#64=x at *;have z:=dd0 (P:=prog) (t:=240) x k hm;have A:=dc7 (P:=prog) (t:=240) x k;have B:=dH4 (P:=prog) (t:=240) (x.getLsbD k);have C:=dH7 (P:=prog) (t:=240) k hm;have D:=dc8 (P:=prog) (t:=240) x (1#64 <<< k);have c:=o6.drew w;obtain⟨I,E,F,G,H⟩:=F9 (P:=prog) (t:=240) (j.ext c) rfl (k:=i) l (x:=.int .u64 (((x ||| 1#64 <<< k).toNat:Nat):Int)) (y:=(x ||| 1#64 <<< k)) rfl rfl (A4 aO5).choose_spec.1 (by rw[<-F0 (A4 aO5).choose_spec.1];exact cf1);simp only[M2,zVB,A0,simprocAttr,p,q,z,A,B,b,d];refine C0 (λs=>s=w.drew) 8 (A7 [0,1,2,3,4,5,6,7]) ?_;simp only[D7,A7,M2,zVB,A0,simprocAttr,p,b];refine⟨.int .u64 (x.toNat:Nat),λs e=>by subst e;exact E1 (j.ext c) o av5,?_⟩;simp only[D7,M2,zVB,A0,simprocAttr,q,C,D,b,E];exact o8 results317 ⟨rfl,F,(c.weaken λ_ _ h=>h.elim).trans G⟩
def ai6(a:List W)(k:Nat):List Int:=((List.range k).filter (U7 a)).map λ(i:Nat)=>(i:Int)
def cA2(a:List W)(k:Nat):ai6 a (k+1)=if U7 a k then ai6 a k++[(k:Int)]else ai6 a k:=by
 unfold ai6;rw[eu5,ep9,em6];cases h:U7 a k<;>simp[h]
def cU4(a:List W)(k:Nat):(ai6 a k).length<=k:=by
 unfold ai6;rw[ek2];exact ej7 (el8 _ _) dP
def di4(v:Value)(a:List W)(most:Nat)(w:World)(hv:R (i5 w) v a)(E:most<=1000000)(D:∀f,f<most->f / 64<a.length):
  y5 prog 321 #[v,.int .i64 most] w λu d=>(B0 (i5 w) d 3 u (ai6 a most)/\o6 w d):=by
 refine z6 [v,.int .i64 most] func321 rfl ?_;simp only[O7,W0,simprocAttr];refine A9 [0,1] (σ:=Nat) (λk f d=>f 6 = .int .i64 k/\k<=most/\B0 (i5 w) d 3 (f 5) (ai6 a k)/\o6 w d) (λk=>most-k) 0 ?_ ?_
 .exact⟨rfl,ek1 _,B0.nil _ _ _,p6.refl _⟩
 .rintro k f d ⟨e0,B,_⟩ ⟨m,C,n,l⟩;simp only[O7,D1,I1,simprocAttr,m,B];refine A3 (λp=>?_) ?_
  .have h:=D k p;have o:=hv.inS h;have j:=O4 (P:=prog) (t:=240) hv (b7 l) (bu3 h) av5;simp only[O8.val]at j;have H:=bZ1 (P:=prog) (t:=3) k om;have I:=dc9 (P:=prog) (t:=3) k;have q:k % 64<64:=Nat.mod_lt _ dQ;have g:U7 a k=(a.getD (k / 64) 0#64).getLsbD (k % 64):=rfl;have c:=cA2 a k;rw[g]at c;generalize k / 64=i at *;generalize k % 64=b at *;generalize a.getD i 0#64=x at *;have J:=dd0 (P:=prog) (t:=240) x b q;have K:=dc7 (P:=prog) (t:=240) x b;have L:=dH5 (P:=prog) (t:=240) (x.getLsbD b);have A:D1 prog .add 3 (.int .i64 k) (.int .i64 1)=some (.int .i64 ((k+1:Nat):Int)):=by
    simp only[D1,I1,ep4];rw[J2 k]
   generalize x.getLsbD b=t at *;simp only[M2,zVB,A0,simprocAttr,H,I,J,K,L,o,j,e0,m];cases t
   .simp only[M2,simprocAttr,m,A];refine V1 (k+1) ⟨?_,l⟩;rw[c,if_neg dP];exact n
   .have r:=cU4 a k;obtain⟨s,N,O,z,F,G,M⟩:=push (e:=45) W3 rfl n (x:=.int .i64 k) (y:=(k:Int)) rfl om om (b7 l);simp only[Value.cells]at s z;simp only[M2,simprocAttr,m,A,s,z];refine V1 (k+1) ⟨?_,n.ext2 l G⟩;rw[c,if_pos rfl];exact F
  .rintro rfl;simp only[O7,simprocAttr];exact o8 results321 ⟨n,l⟩
def aP1(b c:List W)(k:Nat):List W:=(orB b c).take k++b.drop k
def cz2(b c:List W):aP1 b c 0=b:=by simp[aP1]
def cS7{b c:List W}(a:b.length=c.length):aP1 b c b.length=orB b c:=by
 unfold aP1;rw[et1,em5,en6];rw[cd1 a];exact ek6 _
def cS8{b c:List W}(a:b.length=c.length)(k:Nat):(aP1 b c k).length=b.length:=by
 simp[aP1,orB,a];omega
def df8{b c:List W}(a:b.length=c.length){k:Nat}(d:k<b.length):(aP1 b c k)[k]?=some (b.getD k 0#64):=by
 unfold aP1;rw[eo3 (by simp[orB,a];omega)];have:k-((orB b c).take k).length=0:=by simp[orB,a];omega
 rw[this,et5];simp[List.getD,d]
def cz1{b c:List W}(g:b.length=c.length){k:Nat}(f:k<b.length):(aP1 b c k).set k (b.getD k 0#64 ||| c.getD k 0#64)=aP1 b c (k+1):=by
 have e:(orB b c).length=b.length:=cd1 g;apply ev9;intro i;rw[List.getElem?_set];unfold aP1;have a:((orB b c).take k).length=k:=by rw[ek3,e];omega
 have d:((orB b c).take (k+1)).length=k+1:=by rw[ek3,e];omega
 by_cases h1:k=i
 .subst h1;rw[if_pos rfl,if_pos (by rw[ej2,a,eo9];omega),eo2 (by rw[d];omega),List.getElem?_take_of_lt om,ej0 (by rw[e];exact f)];unfold orB;rw[List.getElem_zipWith];simp[List.getD,f,show k<c.length by omega]
 .rw[if_neg h1];by_cases h2:i<k
  .rw[eo2 (by rw[a];exact h2),eo2 (by rw[d];omega),List.getElem?_take_of_lt h2,List.getElem?_take_of_lt om]
  .rw[eo3 (by rw[a];omega),eo3 (by rw[d];omega),a,d,et5,et5]
   congr 1;omega
def cA8{b c:List W}(d:b.length=c.length){k:Nat}(a:k<b.length):ap4 (b.take (k+1)) (c.take (k+1))=(ap4 (b.take k) (c.take k)||((c.getD k 0#64 &&& ~~~(b.getD k 0#64):W) != 0#64)):=by
 unfold ap4;rw[ej8 a,ej8 (show k<c.length by omega),List.zipWith_append (by simp;omega),List.any_append];simp[List.getD,a,show k<c.length by omega]
def dh4(h:Hp)(v u:Value)(b c:List W)(w:World)(H:B0 h w 240 v b)(hw:E2 h (i5 w))(I:R h u c)(A:b.length=c.length)(O:b.length<=1000000):
  y5 prog 320 #[v,u] w λr a=>(r = .bool (ap4 b c)/\B0 h a 240 v (orB b c)/\p6 (A5 v) w a):=by
 refine z6 [v,u] func320 rfl ?_;simp only[O7,W0,ab0,simprocAttr,H.isS,H.vlen];refine A9 [0,1,6,7] (σ:=Nat) (λk f a=>f 8 = .int .i64 k/\k<=b.length/\f 4 = .bool (ap4 (b.take k) (c.take k))/\B0 h a 240 v (aP1 b c k)/\p6 (A5 v) w a) (λk=>b.length-k) 0 ?_ ?_
 .simp only[B8,simprocAttr];exact⟨by first|rfl|trivial,ek1 _,by simp[ap4],by rw[cz2];exact H,p6.refl _⟩
 .rintro k f a ⟨e0,J,e6,U,_⟩ ⟨B,Y,G,l,M⟩;simp only[O7,D1,I1,simprocAttr,B,U];refine A3 (λq=>?_) ?_
  .have X:=cS8 A k;have g:=l.inS (k:=k) om;have i:=I.inS (k:=k) om;have o:=df8 A q;have p:=bu3 (show k<c.length by omega);have s:=cz1 A q;have C:=cA8 A q;generalize b.getD k 0#64=x at *;generalize c.getD k 0#64=y at *;have L:E2 h (i5 a):=G4 hw M λb V=>H.free V;have K:=o6.drew a;have n:=o6.drew a.drew;have E:E2 h (i5 a.drew):=p7 L (b7 K);have m:E2 h (i5 a.drew.drew):=p7 E (b7 n);have D:=l.ext K;have j:=D.ext n;have q1:=bQ1 (P:=prog) (t:=240) y x;have q2:=dH6 (P:=prog) (t:=240) (y &&& ~~~x);have Q:=dc8 (P:=prog) (t:=240) x y;have S:D1 prog .add 3 (.int .i64 k) (.int .i64 1)=some (.int .i64 ((k+1:Nat):Int)):=by
    simp only[D1,I1,ep4];rw[J2 k]
   generalize hz:(y &&& ~~~x != 0#64)=z at *;obtain⟨w2,T,N,s3,s4⟩:=F9 (P:=prog) (t:=240) j rfl (k:=k) om (x:=.int .u64 (((x ||| y).toNat:Nat):Int)) (y:=(x ||| y)) rfl rfl (A4 aO5).choose_spec.1 (by rw[<-F0 (A4 aO5).choose_spec.1];exact cf1);rw[s]at N;have F:p6 (A5 v) w w2:=(M.trans ((K.trans n).weaken λ_ _ h=>h.elim)).trans s3;generalize Z:ap4 (b.take k) (c.take k)=m0 at *;cases m0
   .simp only[M2,simprocAttr,B];refine C0 (λd=>d=a.drew) 10 (A7 [0,1,2,3,4,5,6,7,8,9]) ?_;simp only[D7,A7,M2,zVB,A0,simprocAttr,G,J,i];refine⟨.int .u64 (y.toNat:Nat),λd e=>by subst e;exact O4 (P:=prog) (t:=240) I E p av5,?_⟩;simp only[D7,M2,zVB,A0,simprocAttr,e0,g];refine⟨.int .u64 (x.toNat:Nat),λd e=>by subst e;exact E1 D o av5,?_⟩;simp only[D7,M2,simprocAttr,q1,q2];refine C0 (λd=>d=a.drew.drew) 8 (A7 [0,1,2,3,4,5,6,7]) ?_;simp only[D7,A7,M2,zVB,A0,simprocAttr,e0,g];refine⟨.int .u64 (x.toNat:Nat),λd e=>by subst e;exact E1 j o av5,?_⟩;simp only[D7,M2,zVB,A0,simprocAttr,J,i];refine⟨.int .u64 (y.toNat:Nat),λd e=>by subst e;exact O4 (P:=prog) (t:=240) I m p av5,?_⟩;simp only[D7,M2,zVB,A0,simprocAttr,Q,g,T,B,S];exact V1 (k+1) ⟨by rw[C];simp,N,F⟩
   .simp only[M2,simprocAttr,B];refine C0 (λd=>d=a.drew) 10 (A7 [0,1,2,3,4,5,6,7,8,9]) ?_;simp only[D7,A7,M2,simprocAttr,G];refine C0 (λd=>d=a.drew.drew) 8 (A7 [0,1,2,3,4,5,6,7]) ?_;simp only[D7,A7,M2,zVB,A0,simprocAttr,e0,g];refine⟨.int .u64 (x.toNat:Nat),λd e=>by subst e;exact E1 j o av5,?_⟩;simp only[D7,M2,zVB,A0,simprocAttr,J,i];refine⟨.int .u64 (y.toNat:Nat),λd e=>by subst e;exact O4 (P:=prog) (t:=240) I m p av5,?_⟩;simp only[D7,M2,zVB,A0,simprocAttr,Q,g,T,B,S];exact V1 (k+1) ⟨by rw[C];simp,N,F⟩
  .rintro rfl;rw[cS7 A]at l;rw[ek4,A,ek4]at G;simp only[O7,simprocAttr,G];exact o8 results320 ⟨rfl,l,M⟩
def eq8:=@List.getElem?_set_self
def dE8:G7 prog 338 355 1 24=true:=kr
def F1.put{P:Program}{α:Type}[A6 α]{h:Hp}{w a:World}{T T' t:TypeId}{v:Value}{us:List Raw}{f:List (List α)}(m:F1 h w T T' v us f){i:Nat}{u:Raw}(j:us[i]?=some u){u':Value}{xs:List α}
  (hm:p6 (A5 u.v) w a) (o:B0 h a T' u' xs) (hv:E7 w u.v u') {e:TypeInfo} (d:P.info? t=some e) (r:e.size=1) :
  ∃c,(Instr.storeAt t (.pointer (some (G8 v i))) u').run P a = .ok () c/\F1 h c T T' v (us.set i ⟨u'⟩) (f.set i xs)/\p6 (A5 v) a c/\c.heap.size=a.heap.size:=by
 have n:=o.isS;have k:i<us.length:=(ej5.1 j).1;have l:B0 h a T v us:=m.outer.mod hm λb q g=>m.off i u j b g q;obtain⟨c,s,z,p,A⟩:=F9 (P:=P) (t:=t) l rfl k (x:=u') (y:=(⟨u'⟩:Raw)) ⟨rfl,W8 n⟩ (F7 n) d r;exact⟨c,s,m.set j hm o hv p z,p,A⟩
def am3{α:Type}[A6 α]{h:Hp}{w:World}{T T':TypeId}{v:Value}{n:Nat}(e:B0 h w T v (List.replicate n D9)):F1 h w T T' v (List.replicate n D9) (List.replicate n ([]:List α)):=by
 have d:∀(i:Nat) (u:Raw),(List.replicate n D9)[i]?=some u->u=D9:=λi u a=>eq7 (el0 a);refine⟨e,dP,λi u k a f=>?_,λi j u g _ a _ b c=>?_,λi u a b c=>?_⟩
 .rw[d i u a,eq7 (el0 f)];exact B0.nil _ _ _
 .rw[d i u a]at c;exact absurd c D8
 .rw[d i u a]at c;exact absurd c D8
def dP2(most:Nat)(x:List Int)(b:List W):Prop:=b.length=most / 64+1/\∀f:Nat,U7 b f=true↔(f:Int)∈x
def bg9(l:List (List Int))(most:Nat):Prop:=∀x∈l,∀f∈x,0<=f/\f<most
def da1(most:Nat)(l:List (List Int))(a:List (List W)):Prop:=a.length=l.length/\∀(i:Nat) (x:List Int),l[i]?=some x->∃b,a[i]?=some b/\dP2 most x b
def cr4(v:Value)(l:List (List Int))(most:Nat)(w:World)(hv:R (i5 w) v l)(a7:most<=1000000)(hl:l.length<=1000000)(aI:∀x∈l,x.length<=1000000000):
  y5 prog 298 #[v,.int .i64 most] w λu K=>((∃ub ok,u = .tuple #[ub,.bool ok]/\(ok=true->bg9 l most/\∃m,R (i5 K) ub m/\da1 most l m)/\(ok=false->¬bg9 l most))/\o6 w K):=by
 refine z6 [v,.int .i64 most] func298 rfl ?_;have hz:A6.enc (i5 w) (Value.slice none 0 0).cells.toList D9:=⟨rfl,rfl⟩;obtain⟨u0,w0,aJ,aL,aO,a4,_⟩:=mk (P:=prog) (w:=w) (h:=i5 w) dE8 bt9 (α:=Raw) (y:=D9) hz (n:=l.length) om om (n7 _);have N:F1 (i5 w) w0 355 240 u0 (List.replicate l.length D9) (List.replicate l.length ([]:List W)):=am3 aL;simp only[O7,W0,ab0,simprocAttr,hv.isS,hv.vlen,aJ];refine A9 [0,1,6,14,15] (σ:=Nat) (λi f K=>f 16 = .int .i64 i/\i<=l.length/\(∃us m,F1 (i5 w) K 355 240 u0 us m/\m.length=l.length/\(∀(j:Nat) (x:List Int),j<i->l[j]?=some x->((∃b,m[j]?=some b/\dP2 most x b)/\∀f∈x,0<=f/\f<most)))/\o6 w K) (λi=>l.length-i) 0 ?_ ?_
 .exact⟨rfl,ek1 _,⟨_,_,N,dP,λj x L=>om⟩,aO⟩
 .rintro i f K ⟨e0,e1,e6,ab,ac,_⟩ ⟨V,a5,⟨us,m,d,X,B⟩,Z⟩;simp only[O7,D1,I1,simprocAttr,V,ac];refine A3 (λs=>?_) ?_
  .have aG:=hv.inS s;obtain⟨ux,H,aE⟩:=hv.row (ej0 s);have am:=J7 (P:=prog) (t:=45) aE (b7 Z) aj0;have p:l[i]∈l:=ek0 s;have U:l[i]?=some l[i]:=ej0 s;generalize l[i]=x at H p U;have a8:=aI x p;have aB:=H.isS;have aK:=H.vlen;have q1:=bZ1 (P:=prog) (t:=3) most om;have q2:D1 prog .add 3 (.int .i64 ((most / 64:Nat):Int)) (.int .i64 1)=some (.int .i64 ((most / 64+1:Nat):Int)):=by
    simp only[D1,I1,ep4];rw[J2 _]
   obtain⟨ur,w1,ap,aM,au,aF,_⟩:=mk (P:=prog) (w:=K) (h:=i5 w) dK4 aO5 (α:=W) (y:=0#64) rfl (n:=most / 64+1) om om (b7 Z);have aZ:us.length=l.length:=by rw[d.len,X]
   have ar:us[i]?=some (us[i]' om):=ej0 _;generalize us[i]' om=u at ar;obtain⟨w2,s1,s2,s3,s4⟩:=d.put (P:=prog) (t:=355) ar (au.weaken λ_ _ h=>h.elim) aM (λb hb=>.inr (aF b hb)) (A4 bt9).choose_spec.1 (by rw[<-F0 (A4 bt9).choose_spec.1];exact cE5);have aP:o6 w w2:=p6.ext_of (Z.trans au) s3 λb hb=>by
    have:=d.outer.free hb;exact ew6 λs=>by simp[i5,s]at this
   have aj:=d.outer.inS (k:=i) om;have o:(us.set i ⟨ur⟩)[i]?=some (⟨ur⟩:Raw):=eq8 om;generalize aY:us.set i ⟨ur⟩=ax at *;generalize ao:most / 64=av at *;simp only[M2,zVB,A0,ab0,simprocAttr,V,ab,e6,e1,aG,am,q1,q2,ap,aj,s1,aB,aK];refine E8 [0,1,6,7,14,15,16,28,29] (σ:=Nat) (λk f K=>f 30 = .int .i64 k/\k<=x.length/\(∃g b,F1 (i5 w) K 355 240 u0 ax g/\g.length=l.length/\(∀j:Nat,j≠i->g[j]?=m[j]?)/\g[i]?=some b/\b.length=av+1/\(∀f:Nat,U7 b f=true↔(f:Int)∈x.take k)/\∀f∈x.take k,0<=f/\f<most)/\o6 w K) (λk=>x.length-k) 0 ?_ ?_
   .refine⟨rfl,ek1 _,⟨_,List.replicate (av+1) 0#64,s2,by simp[X],λj L=>es2 (λe=>L e.symm),eq8 om,dP,λf=>by rw[cl7];simp,dP⟩,aP⟩
   .rintro k f w3 hk ⟨E,a6,⟨g,b,a,Q,S,af,A,z,G⟩,I⟩;simp only[em0,B8,simprocAttr]at hk;simp only[e0,e1,e6,ab,ac,V]at hk;obtain⟨i0,i1,i6,i7,ba,bb,aS,aa,aT,_⟩:=hk;simp only[O7,D1,I1,simprocAttr,E,aT];refine A3 (λM=>?_) ?_
    .have F:=H.inS M;have q:=O4 (P:=prog) (t:=3) H (b7 I) (ej0 M) K1;simp only[O8.val]at q;have C:x[k]∈x:=ek0 M;have Y:x.take (k+1)=x.take k++[x[k]]:=ej8 M;generalize x[k]=J at q C Y;by_cases hlo:J<0
     .have d0:decide (J<0)=true:=by simpa using hlo
      simp only[O7,W0,D1,I1,A0,simprocAttr,E,aa,F,q,d0];exact U5 results298 ⟨⟨_,false,rfl,(λh=>(by cases h)),(λ_ D=>(by have:=D x p J C;omega))⟩,I⟩
     .have d0:decide (J<0)=false:=by simpa using hlo
      by_cases hhi:J≥most
      .have d1:decide (J≥(most:Int))=true:=by simpa using hhi
       simp only[O7,W0,D1,I1,A0,simprocAttr,E,aa,i1,F,q,d0,d1];exact U5 results298 ⟨⟨_,false,rfl,(λh=>(by cases h)),(λ_ D=>(by have:=D x p J C;omega))⟩,I⟩
      .have d1:decide (J≥(most:Int))=false:=by simpa using hhi
       obtain⟨fn,ag⟩:∃fn:Nat,J=fn:=⟨J.toNat,om⟩;have ak:=a.outer.inS (k:=i) (by rw[a.len];omega);have al:=aN6 (P:=prog) (t:=355) a o bt4;have aq:=a.row i ⟨ur⟩ b o af
       have ah:fn / 64<b.length:=by rw[A];have:fn<most:=om
                                    have:=Nat.div_le_div_right (c:=64) (Nat.le_of_lt this);omega
       have T:=dz2 (i5 w) ur b fn w3 aq ah om;rw[<-ag]at T;simp only[O7,W0,D1,I1,A0,simprocAttr,E,aa,i1,i6,i7,F,q,d0,d1,ak,al];refine y4 T ?_;rintro r w4 ⟨hr,aN,an⟩;have aQ:o6 w w4:=p6.ext_of I an λb hb=>by
        have:=aq.free hb;exact ew6 λs=>by simp[i5,s]at this
       have O:=a.write o an aN;simp only[O7,D1,I1,simprocAttr,E];refine V1 (k+1) ⟨⟨_,_,O,by simp[Q],λj L=>?_,eq8 om,by rw[dl2,A],λf=>?_,λf D=>?_⟩,aQ⟩
       .rw[es2 (λe=>L e.symm)];exact S j L
       .rw[dg2 ah,Y,eu2,z f,ej9,ek5,em7];constructor
        .rintro(h|h)
         .exact .inr (by rw[h,ag])
         .exact .inl h
        .rintro(h|h)
         .exact .inr h
         .exact .inl om
       .rw[Y,ej9,ek5]at D;rcases D with D|D
        .exact G f D
        .subst D;exact⟨om,om⟩
    .rintro rfl;rw[ek4]at z G;simp only[O7,D1,I1,simprocAttr,aS];refine V1 (i+1) ⟨⟨ax,g,a,Q,λj y L hy=>?_⟩,I⟩;by_cases hji:j=i
     .subst hji;rw[U]at hy;obtain rfl:=el4 hy;exact⟨⟨b,af,by rw[A,ao],z⟩,G⟩
     .obtain⟨⟨b',aC,aD⟩,h3⟩:=B j y om hy;exact⟨⟨b',by rw[S j hji];exact aC,aD⟩,h3⟩
  .rintro rfl;simp only[O7,simprocAttr,e6];refine U5 results298 ?_;simp only[B8,simprocAttr];refine⟨⟨_,true,rfl,λ_=>⟨λx Z f D=>?_,m,d.ro (b7 Z),X,λi x hi=>?_⟩,(λh=>(by cases h))⟩,Z⟩
   .obtain⟨j,L⟩:=es8.1 Z;exact(B j x (ej5.1 L).1 L).2 f D
   .exact(B i x (ej5.1 hi).1 hi).1
def bj0(n:Nat)(l:List (Int×Int)):(ax4 n l).length=n:=by simp[ax4]
def co5{n:Nat}(l:List (Int×Int)){q:Nat}(a:q<n):(ax4 n l)[q]?=some ((l.filter λt=>decide (t.1=(q:Int))).map (·.2)):=by simp[ax4,a]
def co6(n:Nat):ax4 n []=List.replicate n []:=by
 apply eq2
 .simp[ax4]
 .intro j a b;simp[ax4]
def bU4{n:Nat}(l:List (Int×Int)){q:Nat}(d:q<n)(b:Int):ax4 n (l++[((q:Int),b)])=(ax4 n l).set q (((l.filter λt=>decide (t.1=(q:Int))).map (·.2))++[b]):=by
 apply eq2
 .simp[ax4]
 .intro j a c;rw[List.getElem_set];simp only[ax4,er0,ev8,ep9,em6];by_cases hjq:q=j
  .subst hjq;simp[]
  .rw[if_neg hjq];have:decide ((q:Int)=(j:Int))=false:=by simp;omega
   simp[this]
def aM8(l:List (Int×Int))(q:Nat):((l.filter λt=>decide (t.1=(q:Int))).map (·.2)).length<=l.length:=by
 rw[ek2];exact el8 _ _
def bj1{n:Nat}{l:List (Int×Int)}{x:List Int}(d:x∈ax4 n l):x.length<=l.length/\∀b∈x,∃t∈l,t.2=b:=by
 obtain⟨q,_,rfl⟩:=el2.1 d;refine⟨aM8 l q,λb a=>?_⟩;obtain⟨t,c,rfl⟩:=el2.1 a;exact⟨t,(el6.1 c).1,rfl⟩
def bI9{P:Program}{h:Hp}{w:World}{T t:TypeId}{v:Value}{us:List Raw}(e:B0 h w T v us){i:Nat}{u:Raw}(d:us[i]?=some u)(f:J4 P t=false):
  (Instr.loadAt t (.pointer (some (G8 v i)))).run P w = .ok u.v w:=by
 obtain⟨g,⟨c,_⟩,b⟩:=e.get d;have:=b 0 u.v (by rw[c];rfl);rw[M8]at this;have a:(i*A6.sz Raw)=i:=es6 i;rw[a]at this;exact W9 f this
def bE4{p:Pg}{i x y:Nat}{wy:Wy}(c:E6 p)(hw:C4 p<=1000000)(b:i<p.procs.length)(a:aw9 p i x y wy):∀t∈wy.pairs wy.data,(0<=t.1/\t.1<wy.n)/\(0<=t.2/\t.2<wy.n):=bj7 a.toWyOk (bZ7 c hw b a)
def cq1{v u':Value}{us:List Raw}{i b:Nat}(h:N9 v (us.set i ⟨u'⟩) b):N9 v us b\/A5 u' b:=by
 rcases h with h|⟨u,c,a⟩
 .exact .inl (.inl h)
 .rcases es0 c with h|rfl
  .exact .inl (.inr ⟨u,h,a⟩)
  .exact .inr a
def dt2(a:Addr)(wy:Wy)(p:Pg)(i x y:Nat)(w:World)(ha:At (i5 w) a wy)(Z:E6 p)(hw:C4 p<=1000000)(hi:i<p.procs.length)(g:aw9 p i x y wy):
  y5 prog 200 #[.pointer (some a)] w λu l=>(R (i5 l) u wy.net/\o6 w l):=by
 refine z6 [.pointer (some a)] func200 rfl ?_;obtain⟨_,_,_,_,_,_,aF,_⟩:=ha.wy;have lw:=aF w (n7 _);have aI:=J8 Z.may;have aN:=g.part.ok.len;have aM:=g.part.ok.le;have hn:=g.n;have aX:=bg4 Z hw hi g;have av:=bZ7 Z hw hi g;have W:=bE4 Z hw hi g;have V:wy.n=((wy.n.toNat:Nat):Int):=om
 have aC:(wy.pairs wy.data).length=wy.data.length:=ek2 _;have hF:wy.net=ax4 wy.n.toNat (wy.pairs wy.data):=rfl;generalize hM:wy.n.toNat=M at hF V;have hz:A6.enc (i5 w) (Value.slice none 0 0).cells.toList D9:=⟨rfl,rfl⟩;obtain⟨A,w1,U,aA,I,aK,_⟩:=mk (P:=prog) (w:=w) (h:=i5 w) cC5 ao7 (α:=Raw) (y:=D9) hz (n:=M) om om (n7 _);rw[<-V]at U;have aa:F1 (i5 w) w1 45 3 A (List.replicate M D9) (ax4 M []):=by rw[co6];exact am3 aA
 simp only[eH,simprocAttr,lw,U];refine y4 (cg3 a wy p i x y w1 (ha.mono (b7 I)) Z hw hi g) ?_;rintro ud w2 ⟨aB,z⟩;simp only[i4,simprocAttr];refine y4 (ay2 a wy p i x y ud _ w2 (ha.mono (b7 (I.trans z))) g.toWyOk (aB.rw_ (b7 z)) av om) ?_;rintro uq w3 ⟨H,ah⟩;have ab:=aa.ext (z.trans ah);have T:∀b,N9 A (List.replicate M D9) b->b<w2.heap.size:=λb j=>(aa.ext z).lt j;generalize wy.pairs wy.data=L at H hF W aC;have E:R (D0 w3 (N9 A (List.replicate M D9))) uq L:=H.flatRN λb j=>E4 λau=>by
  have h1:=T b au;have h2:=C9 (H.free j);omega
 simp only[eH,simprocAttr,E.isS,E.vlen];refine A9 [0,3,14,15] (σ:=Nat×List Raw) (λs f l=>f 16 = .int .i64 s.1/\s.1<=L.length/\F1 (i5 w) l 45 3 A s.2 (ax4 M (L.take s.1))/\p6 (N9 A (List.replicate M D9)) w3 l/\(∀b,N9 A s.2 b->N9 A (List.replicate M D9) b\/w3.heap.size<=b)) (λs=>L.length-s.1) (0,List.replicate M D9) ?_ ?_
 .exact⟨rfl,ek1 _,by simpa using ab,p6.refl _,λb j=>.inl j⟩
 rintro⟨k,us⟩ f w4 ⟨e0,e3,am,an,_⟩ ⟨B,ay,o,D,m⟩;simp only at B ay o m;have v:o6 w w4:=p6.ext_of (I.trans (z.trans ah)) D λb j=>C9 (ab.free j);simp only[eH,simprocAttr,B,an];refine A3 (λC=>?_) ?_;rotate_left
 .rintro rfl;rw[ek4]at o;simp only[i4,simprocAttr,e3];exact o8 results200 ⟨by rw[hF];exact o.ro (b7 v),v⟩
 have ax:=E.inS C;have G:=di1 E (F3 D) (ej0 C);have af:=ej8 C;obtain⟨X,Y⟩:=W _ (ek0 C);generalize L[k]=t at G af X Y;obtain⟨z1,z2⟩:=t;simp only at X Y G;obtain⟨Q,rfl⟩:∃Q:Nat,z1=(Q:Int):=⟨z1.toNat,om⟩;have hQ:Q<M:=om
 obtain⟨c,wz,r,aq,ae,F,aw,aL⟩:=dq9 (w:=w4) (Q:Int) z2;have q:=o.ext (F.trans (o6.drew r));have aY:us.length=M:=by rw[o.len,bj0]
 obtain⟨u,J⟩:∃u,us[Q]?=some u:=⟨us[Q]' om,ej0 om⟩;have ad:=q.row Q u _ J (co5 _ hQ);have aE:=aM8 (L.take k) Q;rw[ek3]at aE;have O:¬A5 u.v c:=λj=>by
  have:=o.lt (.inr ⟨u,el0 J,j⟩);omega
 have N:r.drew.heap[c]?=some (.cells #[.int .i64 (Q:Int),.int .i64 z2] 208 (0,0)):=aw;have t0:∀K f d w0,F8 prog (λl=>p6 (A5 u.v) r.drew l) (Instr.loadAt 3 (.pointer (some ⟨c,0,none⟩))) K f d w0=K (C5 f d (.int .i64 (Q:Int))) w0:=λK f d w0=>B7 (w0:=r.drew) (p6.refl _) λl h=>(ay0 N h O).1;have t1:∀K f d w0,F8 prog (λl=>p6 (A5 u.v) r.drew l) (Instr.loadAt 3 (.pointer (some ⟨c,1,none⟩))) K f d w0=K (C5 f d (.int .i64 z2)) w0:=λK f d w0=>B7 (w0:=r.drew) (p6.refl _) λl h=>(ay0 N h O).2;have t2:∀K f d w0,F8 prog (λl=>p6 (A5 u.v) r.drew l) (Instr.loadAt 45 (.pointer (some (G8 A Q)))) K f d w0=K (C5 f d u.v) w0:=λK f d w0=>B7 (w0:=r.drew) (p6.refl _) λl h=>bI9 (q.outer.mod h λb j ar=>q.off Q u J b ar j) J aj0;have aW:=q.outer.isS;have S:=q.outer.inS (k:=Q) om;have ag:=v.trans (F.trans (o6.drew r));obtain⟨p1,u6,w6,p2,p3,p4,p5⟩:=push (e:=45) W3 rfl ad (x:=.int .i64 z2) (y:=z2) rfl om om (b7 ag);simp only[Value.cells]at p1 p2;obtain⟨w7,s1,aD,az,_⟩:=q.put (P:=prog) (t:=45) J p4 p3 p5 (A4 ao7).choose_spec.1 (by rw[<-F0 (A4 ao7).choose_spec.1];exact bz1);simp only[i4,n9,A0,simprocAttr,B,am,ax,G,aq,ae];refine C0 (λl=>p6 (A5 u.v) r.drew l) 12 (A7 [0,1,2,3,4,5,6,7,8,9,10,11]) ?_;simp only[D7,A7,i4,n9,A0,simprocAttr,e3,t0,t1,t2,S,p1,p2,G0];refine⟨p6.up (o6.alloc _ _),p4,?_⟩;simp only[eH,simprocAttr,s1,B];have ac:∀b,A5 u.v b->N9 A us b:=λb j=>.inr ⟨u,el0 J,j⟩;have aO:w3.heap.size<=r.drew.heap.size:=ej7 D.size ((F.trans (o6.drew r)).size);refine V1 (k+1,us.set Q ⟨u6⟩) ⟨?_,?_,λb j=>?_⟩
 .simp only[];rw[af,bU4 _ hQ];exact aD
 .refine(D.chain (p6.up (M:=λ_=>False) (F.trans (o6.drew r))) λ_ _ h=>h.elim).chain (p6.trans (M:=λb=>A5 u.v b\/A5 A b) (p4.weaken λb _ h=>.inl h) (az.weaken λb _ h=>.inr h)) (λb j h=>?_);rcases h with h|h
  .exact(m b (ac b h)).resolve_right om
  .exact .inl h
 .rcases cq1 j with h|h
  .exact m b h
  .rcases p5 b h with h|h
   .exact m b (ac b h)
   .exact .inr om
end Go.Proofs.YtpebpfiglfmegaaGreat

/- What the functions of the program do, for every input; plain facts. No condition, no statement of its own. Part 6. -/
import Derived.Test.YtpebpfiglfmegaaGreatZ6
set_option maxRecDepth 1000000
set_option maxHeartbeats 8000000
set_option linter.unusedVariables false
set_option linter.unusedSimpArgs false
set_option linter.unnecessarySimpa false
set_option linter.defProp false
namespace Go.Proofs.YtpebpfiglfmegaaGreat
open Go Tryz
def cT3{w d:World}{v c:Value}(hm:p6 (A5 v) w d)(hv:E7 w v c):E2 (at1 w v) (at1 d c):=λb o e=>by
 by_cases h:A5 v b
 .rw[aI2 h]at e;cases e
 .rw[ag2 h]at e;have g:b<w.heap.size:=(ej4.1 e).1;have f:¬A5 c b:=λa=>by
   rcases hv b a with k|k
   .exact h k
   .omega
  rw[ag2 f,hm.block b g h];exact e
def cT2{w a:World}{v:Value}(d:o6 w a):E2 (at1 w v) (at1 a v):=λb o e=>by
 by_cases h:A5 v b
 .rw[aI2 h]at e;cases e
 .rw[ag2 h]at e;have c:b<w.heap.size:=(ej4.1 e).1;rw[ag2 h,d.block b c id];exact e
section
variable {α:Type} [A6 α] {h:Hp} {w:World} {T:TypeId} {v:Value} {xs:List α}
def B0.but(e:B0 (at1 w v) w T v xs){a:World}(c:o6 w a):B0 (at1 a v) a T v xs:=
 (e.ext c).up (cT2 c) λb d=>aI2 d
end
def dK5:P2 prog 115=some (#[.int .i64 0,.int .i64 0,.slice none 0 0,.string ⟨#[]⟩,.string ⟨#[]⟩,.int .i64 0,.int .i64 0,.string ⟨#[]⟩,.slice none 0 0,.bool false,.slice none 0 0,.slice none 0 0,.slice none 0 0,.int .i64 0,.int .i64 0,.bool false],[(0,13),(13,1),(14,1),(15,1)]):=kr
section
variable {p:Pg}
def bJ5(v:Value)(y:Vx)(w:World)(hv:SV (i5 w) v p)(hw:C4 p<=1000000):
  y5 prog 15 #[v,.agg (p8.cells y).toArray] w λu F=>(u = .bool (D4 p&&decide (y∈(b9 p).wv))/\o6 w F):=by
 refine z6 [v,.agg (p8.cells y).toArray] func15 rfl ?_;obtain⟨c,o,j,n,d⟩:=af7 (w:=w) (λ_=>False) hv (λ_ h=>h.elim);obtain⟨I,q,k,i,e⟩:=aL2 (w:=o) (λ_=>False) (SV.ofN (i5 o) y) (λ_ h=>h.elim);have D:=(L8.pg_v hv d).1 q (p7 (B4 _ _) (b7 i));have b:=n.trans i;simp only[eH,simprocAttr,j,k,D];refine y4 (az9 v p q (hv.mono (b7 b)) hw) ?_;rintro u G ⟨z,A,f⟩;have a:=b.trans f;cases hR:D4 p
 .obtain rfl:=z hR;simp only[eH,simprocAttr,aG1];exact o8 results15 ⟨rfl,a⟩
 obtain⟨K,g,r,H,J,x,rfl,C,t,B,s⟩:=A hR;rw[bM0]at s;have E:=(L8.vx_v (SV.ofN (i5 o) y) e).1 G (p7 (B4 _ _) (b7 f));simp only[eH,simprocAttr,aG1,E];refine B6 (cu7 s y) (λL m=>?_);have l:(wcC p [] []).kv=at3 (b9 p).wv:=rfl;rw[l,cb8];simp only[i4,simprocAttr];exact o8 results15 ⟨rfl,a.trans m⟩
end
section
variable {p:Pg} {a b v:Vx} {xs ys:List Vx} {k l:List Int} {e:Eg}
def bD6(a:D4 p=false):N3 p xs ys=([],1):=by unfold N3;rw[if_pos a]
def bT3(c:D4 p=false):G3 p a b=([],1):=by unfold G3;rw[if_pos c]
def bQ6(a:D4 p=true)(h:(∃u∈xs,u∉(b9 p).wv)\/∃u∈ys,u∉(b9 p).wv):N3 p xs ys=([],9):=by
 unfold N3;rw[if_neg (by rw[a];simp)];cases hx:O3 (b9 p).wv xs with
 | none=>cases O3 (b9 p).wv ys<;>rfl
 | some k=>
  cases hy:O3 (b9 p).wv ys with
  | none=>rfl
  | some l=>
   rcases h with h|h
   .rw[aq5.2 h]at hx;cases hx
   .rw[aq5.2 h]at hy;cases hy
def cn3(c:D4 p=true)(h:a∉(b9 p).wv\/b∉(b9 p).wv):G3 p a b=([],9):=by
 unfold G3;rw[if_neg (by rw[c];simp)];rcases h with h|h
 .rw[cG3 h]
 .rw[cG3 h];cases atV (b9 p).wv a<;>rfl
end
mutual
def cz7:St->Int->Int->Bool->List Im
 | .mk id kind labels name proc x has args thn els,d,up,e=>⟨.mk id kind labels name proc x has args thn els,d,up,e⟩::(if d<=12 then V9 thn (d+1) id false++V9 els (d+1) id true else[])
def V9:List St->Int->Int->Bool->List Im
 | [],_,_,_=>[]
 | t::l,d,up,e=>cz7 t d up e++V9 l d up e
end
def dx0(t:St)(d up:Int)(e:Bool):cz7 t d up e=⟨t,d,up,e⟩::(if d<=12 then V9 t.thn (d+1) t.id false++V9 t.els (d+1) t.id true else[]):=by
 cases t;simp only[cz7,St.thn,St.els,St.id]
mutual
def dg8:∀(t:St) (d a:Int) (e:Bool),(cz7 t d a e).length<=ae8 t
 | .mk id kind labels name proc x has args thn els,d,a,e=>by
  have b:=aI5 thn (d+1) id false;have c:=aI5 els (d+1) id true;simp only[cz7,ae8];split<;>simp only[em1,ej2,ep7]<;>omega
def aI5:∀(l:List St) (d a:Int) (e:Bool),(V9 l d a e).length<=B2 l
 | [],_,_,_=>by simp[V9]
 | t::l,d,a,e=>by
  have b:=dg8 t d a e;have c:=aI5 l d a e;simp only[V9,B2,ej2];omega
end
def dE7:G7 prog 30 115 16 232=true:=kr
def dc1{h:Hp}{v:Value}{t:St}(hv:SV h v t)(d up:Int)(e:Bool):∃u,C1 prog 115 [(0,v),(1,.int .i64 d),(2,.int .i64 up),(3,.bool e)]=some u/\SV h u (⟨t,d,up,e⟩:Im):=by
 obtain⟨r,rfl,g⟩:=hv;have s:r.length=13:=A6.len g;obtain⟨i,j,k,l,m,n,o,p,q,a,b,c,f,rfl⟩:=bq4 s;refine⟨.agg #[i,j,k,l,m,n,o,p,q,a,b,c,f,.int .i64 d,.int .i64 up,.bool e],?_,⟨_,rfl,⟨_,rfl,g⟩⟩⟩;simp[C1,dK5,K7,Instr.fill,Value.cells]
def cW4:∀(m:Nat) (l:List St) (v i:Value) (d n:Int) (e:Bool) (r:List Im) (h:Hp) (w:World),B2 l<=m->R h v l->B0 h w 115 i r->E2 h (i5 w)->r.length+B2 l<=200->0<=d->d<=13 ->
  y5 prog 82 #[v,.int .i64 d,.int .i64 n,.bool e,i] w λu o=>(B0 h o 115 u (r++V9 l d n e)/\p6 (A5 i) w o/\E7 w i u):=by
 intro m
 induction m using Nat.strongRecOn with
 | ind m ih=>
 intro l v i d n e r h w a0 hv ho hh hl aV hd;refine z6 [v,.int .i64 d,.int .i64 n,.bool e,i] func82 rfl ?_;have hS:=hv.isS;have hn:=hv.vlen;have aX:l.length<=200:=by have:=X7 l;omega
 simp only[eH,simprocAttr];refine E8 [0,1,2,3] (σ:=Nat×Value×List Im) (λs f o=>f 11 = .int .i64 s.1/\f 4=s.2.1/\s.1<=l.length/\B0 h o 115 s.2.1 (r++s.2.2)/\p6 (A5 i) w o/\E7 w i s.2.1 /\
  V9 l d n e=s.2.2++V9 (l.drop s.1) d n e/\s.2.2.length+B2 (l.drop s.1)<=B2 l) (λs=>l.length-s.1) (0,i,[]) ?_ ?_
 .simp only[B8,simprocAttr];exact⟨tt,tt,ek1 _,by simpa using ho,p6.refl _,λb g=>.inl g,dP,dP⟩
 rintro⟨k,uL,c⟩ f w2 hk ⟨j,h4,av,q,I,p,a,z⟩;simp only at j h4 av q p a z;simp only[em0,B8,simprocAttr]at hk;obtain⟨e0,e1,e2,e3,_⟩:=hk;have T:=q.isS;have aa:=q.vlen;have aZ:(r++c).length<=200:=by rw[ej2];omega
 have K:decide (((r++c).length:Int)<=200)=true:=by simp only[em7];omega
 rcases ej1 (decide ((k:Int)<(l.length:Int)))with hc|hc;rotate_left
 .simp only[eH,simprocAttr,j,h4,e0,hS,hn,hc];refine o8 results82 ?_;simp only[B8,simprocAttr];have W:k=l.length:=by have:=ej6 hc;omega
  rw[W,et1]at a;simp only[V9,em5]at a;exact⟨by rw[a];exact q,I,p⟩
 have P:k<l.length:=by have:=ej3 hc;omega
 have H:=hv.inS P;have O:E2 h (i5 w2):=G4 hh I λb g=>ho.free g;have G:=hv.at_ (ej0 P);have A:l.drop k=l[k]::l.drop (k+1):=eo1 P;generalize l[k]=t at G A;rw[A]at a z;rw[B2]at z;rw[V9,dx0]at a;have a1:=aC7 t;have af:A6.sz St=13:=rfl;rw[af]at G;obtain⟨sv,aA,aH,_⟩:=G.st_v;obtain⟨vl,va,vt,ve,a3,a2,aE,aD,aU,a5,ah⟩:=G.st;obtain⟨iu,U,au⟩:=dc1 aA d n e;have ag:=aH w2 O;obtain⟨p1,uM,E,p2,p3,p4,p5⟩:=push (e:=30) dE7 rfl q (x:=iu) (y:=⟨t,d,n,e⟩) au.enc om om O;have ae:p6 (A5 i) w E:=I.chain p4 λb g hu=>(p b hu).resolve_right om;have C:E7 w i uM:=λb g=>by
  rcases p5 b g with J|J
  .exact p b J
  .have:=I.size;right;omega
 have aq:E2 h (i5 E):=G4 O p4 λb g=>q.free g;have aY:(r++c++[(⟨t,d,n,e⟩:Im)]).length=r.length+c.length+1:=by simp only[ej2,em3]
 rcases ej1 (decide (d<=12))with h12|h12;rotate_left
 .rw[if_neg (ej6 h12)]at a;simp only[i4,n9,A0,simprocAttr,j,h4,e0,e1,e2,e3,hS,hn,hc,T,aa,K,H,ag,U,p1,p2,h12];refine nx4 (k+1,uM,c++[⟨t,d,n,e⟩]) ⟨by simpa using p3,ae,C,by rw[a];simp,by simp only[ej2,em3];omega⟩
 .have V:d<=12:=ej3 h12;rw[if_pos V]at a;have ad:IntKind.i64.wrap (d+1)=d+1:=M7 _ om;have B:=p7 aq (b7 (o6.drew E));have s3:=ah (λo=>p6 (A5 uM) E.drew o) E.drew (p6.refl _) λo hm=>G4 B hm λb g=>p3.free g;obtain⟨t0,_,_,_,_,_,_,t7,_⟩:=s3;simp only[i4,n9,A0,simprocAttr,j,h4,e0,e1,e2,e3,hS,hn,hc,T,aa,K,H,ag,U,p1,p2,h12];refine C0 (λo=>p6 (A5 uM) E.drew o) 15 (A7 [0,1,2,3,4,5,6,7,8,9,10,11,12,13,14]) ?_;simp only[D7,A7,i4,n9,A0,simprocAttr,j,e0,e1,H,ad,t0,t7];have aw:(r++c++[(⟨t,d,n,e⟩:Im)]).length+B2 t.thn<=200:=om
  refine y4 (ih (B2 t.thn) om t.thn vt uM (d+1) t.id false (r++c++[⟨t,d,n,e⟩]) h E.drew (ek6 _) aE (by rw[el9,<-el9];exact p3.ext (o6.drew E)) B aw om om) ?_;rintro u4 F ⟨ab,Q,Y⟩;refine⟨Q,?_⟩;have M:p6 (A5 i) w E.drew:=ae.trans (p6.up (o6.drew E));have aB:w.heap.size<=E.drew.heap.size:=M.size;have aF:p6 (A5 i) w F:=M.chain Q λb g hu=>(C b hu).resolve_right om;have D:E7 w i u4:=λb g=>by
   rcases Y b g with J|J
   .exact C b J
   .right;omega
  have ar:E2 h (i5 F):=G4 B Q λb g=>p3.free g;have L:=p7 ar (b7 (o6.drew F));have s4:=ah (λo=>p6 (A5 u4) F.drew o) F.drew (p6.refl _) λo hm=>G4 L hm λb g=>ab.free g;obtain⟨y0,_,_,_,_,_,_,_,y8⟩:=s4;have aN:=aI5 t.thn (d+1) t.id false;have ax:(r++c++[(⟨t,d,n,e⟩:Im)]++V9 t.thn (d+1) t.id false).length+B2 t.els<=200:=by rw[ej2];omega
  simp only[fc,simprocAttr];refine C0 (λo=>p6 (A5 u4) F.drew o) 15 (A7 [0,1,2,3,4,5,6,7,8,9,10,11,12,13,14]) ?_;simp only[D7,A7,i4,n9,A0,simprocAttr,j,e0,e1,H,ad,y0,y8];refine y4 (ih (B2 t.els) om t.els ve u4 (d+1) t.id true (r++c++[⟨t,d,n,e⟩]++V9 t.thn (d+1) t.id false) h F.drew (ek6 _) aD (ab.ext (o6.drew F)) L ax om om) ?_;rintro u5 w5 ⟨az,X,Z⟩;refine⟨X,?_⟩;have N:p6 (A5 i) w F.drew:=aF.trans (p6.up (o6.drew F));have aC:w.heap.size<=F.drew.heap.size:=N.size;have aG:p6 (A5 i) w w5:=N.chain X λb g hu=>(D b hu).resolve_right om;have S:E7 w i u5:=λb g=>by
   rcases Z b g with J|J
   .exact D b J
   .right;omega
  have aK:=aI5 t.els (d+1) t.id true;simp only[fd,simprocAttr,j];refine nx4 (k+1,u5,c++(⟨t,d,n,e⟩::(V9 t.thn (d+1) t.id false++V9 t.els (d+1) t.id true))) ⟨by simpa using az,aG,S,by rw[a];simp,by simp only[ej2,em1];omega⟩
def cW3(h:Hp)(v:Value)(q:Pr)(w:World)(hv:SV h v q)(k:E2 h (i5 w))(hb:B2 q.body<=200):
  y5 prog 47 #[v] w λu i=>(B0 h i 115 u (V9 q.body 1 0 false)/\(∀b,A5 u b->w.heap.size<=b)/\o6 w i):=by
 refine z6 [v] func47 rfl ?_;obtain⟨a,j,e,c,d⟩:=cH2 (w:=w) (λ_=>False) hv (λ_ h=>h.elim);obtain⟨o,p,n,r,_,_,g,_,m,_⟩:=L8.pr hv d;simp only[eH,simprocAttr,e,m j (B4 _ _)];refine y4 (cW4 (B2 q.body) q.body n (.slice none 0 0) 1 0 false [] h j (ek6 _) g (B0.nil _ _ _) (p7 k (b7 c)) (by simpa using hb) om om) ?_;rintro u s ⟨l,hm,f⟩;simp only[i4,simprocAttr];refine o8 results47 ?_;simp only[B8,simprocAttr];exact⟨by simpa using l,λb hb=>(f b hb).elim (λh=>absurd h D8) λh=>ej7 c.size h,c.trans (hm.weaken λ_ _ h=>absurd h D8)⟩
mutual
def dR5:∀(t:St) (a:Nat) (n m:Int) (d j:Int) (e:Bool) (k:Nat) (i b g c:Int),((L3 a t.thn n).bind λm=>L3 a t.els m)=some m->d+a=12->(cz7 t d j e).map (·.s)=(ac7 t k i b g c).map (·.s)
 | .mk id kind labels name proc x has args thn els,a,n,m,d,j,e,k,i,b,g,c,h,hd=>by
  simp only[St.thn,St.els]at h;obtain⟨f,l,o⟩:=eq6.1 h;rw[cz7,if_pos om,U6];simp only[en8,em6,St.thn,St.els];rw[cb3 thn a n f (d+1) id false _ _ _ _ _ l om,cb3 els a f m (d+1) id true _ _ _ _ _ o om]
def cb3:∀(l:List St) (b:Nat) (n m:Int) (d c:Int) (e:Bool) (k:Nat) (j a i g:Int),L3 b l n=some m->d+b=13->(V9 l d c e).map (·.s)=(E5 l k j a i g).map (·.s)
 | [],_,_,_,_,_,_,_,_,_,_,_,_,_=>by simp[V9,E5]
 | t::l,0,n,m,d,c,e,k,j,a,i,g,h,hd=>by simp[L3]at h
 | t::l,b+1,n,m,d,c,e,k,j,a,i,g,h,hd=>by
  rw[aN5]at h;obtain⟨o,f,p⟩:=eq6.1 h;split at f
  .cases f
  .rw[V9,E5];simp only[em6];rw[dR5 t b _ o d c e _ _ _ _ _ f om,cb3 l (b+1) o m d c e _ _ _ _ _ p hd]
end
def dg9:∀(l:List Pr) (s:Sh) (i:Nat) (n:Int),(l.foldlM (λn f=>Z9 f n) n).isSome=true->(J1 s i l).l.map (·.s)=s.l.map (·.s)++(l.flatMap λq=>V9 q.body 1 0 false).map (·.s)
 | [],s,i,_,_=>by simp[J1]
 | f::l,s,i,n,hf=>by
  rw[List.foldlM_cons]at hf;obtain⟨a,c⟩:=eo6.1 hf;obtain⟨m,hm,b⟩:=eq6.1 c;unfold Z9 at hm;split at hm
  .cases hm
  .rw[J1,dg9 l _ _ m (by rw[b];rfl),es5,em6];simp only[H9,em6,el9];rw[cb3 f.body 12 _ _ 1 0 false _ _ _ _ _ hm om]
def bP2(p:Pg):List Im:=p.procs.flatMap λq=>V9 q.body 1 0 false
def du0{p:Pg}(hm:O6 p=true):(bP2 p).map (·.s)=(d9 p).l.map (·.s):=by
 unfold O6 at hm;rw[el3]at hm;have:=dg9 p.procs ⟨p,[],[],[]⟩ 0 0 hm.2;exact(this.trans (er6 _)).symm
def cO9{p:Pg}(hm:O6 p=true):(bP2 p).length=(d9 p).l.length:=by
 have:=el1 List.length (du0 hm);simpa using this
def co2:∀{l:List Nat} {x:Nat},x∈l->x<=l.sum
 | a::l,x,h=>by
  rw[eu6];rcases ek9.1 h with rfl|h
  .omega
  .have:=co2 h;omega
def dl3(v:Value)(p:Pg)(w:World)(hv:SV (i5 w) v p)(m:O6 p=true):
  y5 prog 14 #[v] w λu C=>(R (i5 C) u (bP2 p)/\o6 w C):=by
 refine z6 [v] func14 rfl ?_;have D:(bP2 p).length<=200:=by rw[cO9 m];exact J8 m
 have Q:bz8 p<=200:=by rw[<-az0];exact J8 m
 have ah:=(Z1 m).2;obtain⟨c,J,O,Y,E⟩:=U2 hv (n7 _);obtain⟨vg,vp,al,x,Z,_⟩:=E.pg;simp only[eH,simprocAttr,O,Z J (n7 _),x.isS,x.vlen];refine A9 [1,7,8] (σ:=Nat×Value) (λs f C=>f 9 = .int .i64 s.1/\f 3=s.2/\s.1<=p.procs.length/\B0 (at1 C s.2) C 115 s.2 ((p.procs.take s.1).flatMap λq=>V9 q.body 1 0 false)/\o6 J C/\∀b,A5 s.2 b->J.heap.size<=b) (λs=>p.procs.length-s.1) (0,.slice none 0 0) ?_ ?_
 .exact⟨rfl,rfl,ek1 _,B0.nil _ _ _,p6.refl _,λb F=>absurd F D8⟩
 rintro⟨k,uL⟩ f w2 ⟨e1,e7,e8,_⟩ ⟨K,L,V,g,y,j⟩;simp only at K L V g y j;simp only[eH,simprocAttr,K,e8];refine A3 (λl=>?_) ?_;rotate_left
 .intro U;rw[U,ek4]at g;simp only[i4,simprocAttr,L];exact o8 results14 ⟨g.rw_ (bh9 _ _),Y.trans y⟩
 have T:=x.inS l;obtain⟨sv,n,H⟩:=H1 (P:=prog) (t:=68) x (b7 y) (ej0 l) aD3 aD5 aw4 U0;rw[U0]at H;have r:(p.procs.take (k+1)).flatMap (λq=>V9 q.body 1 0 false)=(p.procs.take k).flatMap (λq=>V9 q.body 1 0 false)++V9 p.procs[k].body 1 0 false:=by
  rw[ej8 l,et0];simp
 have a:((p.procs.take (k+1)).flatMap λq=>V9 q.body 1 0 false).length<=200:=by
  refine ej7 ?_ D;unfold bP2
  conv=>rhs;rw[<-en4 (k+1) p.procs]
  rw[et0,ej2];omega
 rw[r]at a;have G:B2 p.procs[k].body<=200:=ej7 (co2 (el2.2 ⟨p.procs[k],ek0 l,rfl⟩:B2 p.procs[k].body∈p.procs.map λf=>B2 f.body)) Q;generalize p.procs[k]=q at n r a G;generalize(p.procs.take k).flatMap (λq=>V9 q.body 1 0 false)=pre at g r a;obtain⟨d,wz,w3,M,X,B,N⟩:=aY5 (w:=w2) (λ_=>False) n (λ_ h=>h.elim);have z:=y.trans B;simp only[i4,n9,A0,simprocAttr,K,e7,L,T,H,M,X,(L8.pr_v n N).1 w3 (B4 _ _)];refine y4 (cW3 (i5 J) sv q w3 n (b7 z) G) ?_;rintro u w4 ⟨ho,S,I⟩;have i:=z.trans I;have W:=g.but (B.trans I);have hu:=ho.beside (w:=w4) (v:=uL) (λb o e=>by
  rw[ag2 λh=>by have:=j b h;have:=(ej4.1 (show J.heap[b]?=some o from e)).1;omega];exact b7 i b o e) (λb F h=>by have:=g.lt h;have:=S b F;have:=B.size;omega)
 rw[ej2]at a;obtain⟨v',w5,p2,p3,p4,p5⟩:=X9 (P:=prog) (e:=30) dE7 rfl W hu om om (bh9 _ _);have A:decide ((200:Int)<(((pre++V9 q.body 1 0 false).length:Nat):Int))=false:=er7 (by rw[ej2];omega);have aj:=i.size;simp only[eH,simprocAttr,K,p2,p3.isS,p3.vlen,A];refine nx4 (k+1,v') ⟨?_,?_,λb F=>?_⟩
 .simp only[];rw[r];exact p3.rebase (p7 (cT3 p4 p5) (bh9 _ _))
 .exact p6.ext_of i p4 j
 .rcases p5 b F with h|h
  .exact j b h
  .omega
def aW8(x y:Vx)(w:World):∃u a,(Instr.buildSlice 35 2 #[(0,.agg (p8.cells x).toArray),(1,.agg (p8.cells y).toArray)]).run prog w = .ok u a/\R (i5 a) u [x,y]/\o6 w a:=by
 obtain⟨u,a,c,d,b,_⟩:=lit (P:=prog) (t:=35) (w:=w) (h:=i5 w) (α:=Vx) (xs:=[.agg (p8.cells x).toArray,.agg (p8.cells y).toArray]) (ys:=[x,y]) (parts:=#[(0,.agg (p8.cells x).toArray),(1,.agg (p8.cells y).toArray)]) (n:=2) aD0 rfl (al5 (al6 ((p8.iff_ _ _ _).2 rfl)) (al6 ((p8.iff_ _ _ _).2 rfl))) (by simp[Value.cells];exact⟨rfl,rfl⟩) rfl rfl dP dP (n7 _);exact⟨u,a,c,d.rw_ (b7 b),b⟩
end Go.Proofs.YtpebpfiglfmegaaGreat

/- sliceNone.proved: for every input the law returns true. No condition. -/
import Derived.Test.YtggahhenbbgffaaGreatRows
import Derived.Test.YtggahhenbbgffaaGreatZ7
import Derived.Test.YtggahhenbbgffaaGreatZ8
set_option maxRecDepth 1000000
set_option maxHeartbeats 8000000
set_option linter.unusedVariables false
set_option linter.unusedSimpArgs false
set_option linter.unnecessarySimpa false
set_option linter.defProp false
namespace Go.Proofs.YtggahhenbbgffaaGreat
open Go 
mutual
def cw7:St->Int->Int->Bool->List Im
 | .mk id kind labels name proc x has args thn els,d,up,e=>⟨.mk id kind labels name proc x has args thn els,d,up,e⟩::(if d<=12 then M0 thn (d+1) id false++M0 els (d+1) id true else[])
def M0:List St->Int->Int->Bool->List Im
 | [],_,_,_=>[]
 | t::l,d,up,e=>cw7 t d up e++M0 l d up e
end
def dt2(t:St)(d up:Int)(e:Bool):cw7 t d up e=⟨t,d,up,e⟩::(if d<=12 then M0 t.thn (d+1) t.id false++M0 t.els (d+1) t.id true else[]):=by
 cases t;simp only[cw7,St.thn,St.els,St.id]
mutual
def de0:∀(t:St) (d a:Int) (e:Bool),(cw7 t d a e).length<=X7 t
 | .mk id kind labels name proc x has args thn els,d,a,e=>by
  have b:=av9 thn (d+1) id false;have c:=av9 els (d+1) id true;simp only[cw7,X7];split<;>simp only[ei2,ef4,em2]<;>omega
def av9:∀(l:List St) (d a:Int) (e:Bool),(M0 l d a e).length<=A7 l
 | [],_,_,_=>by simp[M0]
 | t::l,d,a,e=>by
  have b:=de0 t d a e;have c:=av9 l d a e;simp only[M0,A7,ef4];omega
end
mutual
def dN7:∀(t:St) (a:Nat) (n m:Int) (d j:Int) (e:Bool) (k:Nat) (i b g c:Int),((I4 a t.thn n).bind λm=>I4 a t.els m)=some m->d+a=12->(cw7 t d j e).map (·.s)=(W0 t k i b g c).map (·.s)
 | .mk id kind labels name proc x has args thn els,a,n,m,d,j,e,k,i,b,g,c,h,hd=>by
  simp only[St.thn,St.els]at h;obtain⟨f,l,o⟩:=el4.1 h;rw[cw7,if_pos (by omega),P3];simp only[ej9,ei4,St.thn,St.els];rw[bD6 thn a n f (d+1) id false _ _ _ _ _ l (by omega),bD6 els a f m (d+1) id true _ _ _ _ _ o (by omega)]
def bD6:∀(l:List St) (b:Nat) (n m:Int) (d c:Int) (e:Bool) (k:Nat) (j a i g:Int),I4 b l n=some m->d+b=13->(M0 l d c e).map (·.s)=(C8 l k j a i g).map (·.s)
 | [],_,_,_,_,_,_,_,_,_,_,_,_,_=>by simp[M0,C8]
 | t::l,0,n,m,d,c,e,k,j,a,i,g,h,hd=>by simp[I4]at h
 | t::l,b+1,n,m,d,c,e,k,j,a,i,g,h,hd=>by
  rw[ao1]at h;obtain⟨o,f,p⟩:=el4.1 h;split at f
  .cases f
  .rw[M0,C8];simp only[ei4];rw[dN7 t b _ o d c e _ _ _ _ _ f (by omega),bD6 l (b+1) o m d c e _ _ _ _ _ p hd]
end
def de1:∀(l:List Pr) (s:Sh) (i:Nat) (n:Int),(l.foldlM (λn f=>X6 f n) n).isSome=true->(H9 s i l).l.map (·.s)=s.l.map (·.s)++(l.flatMap λq=>M0 q.body 1 0 false).map (·.s)
 | [],s,i,_,_=>by simp[H9]
 | f::l,s,i,n,hf=>by
  rw[List.foldlM_cons]at hf;obtain⟨a,c⟩:=el1.1 hf;obtain⟨m,hm,b⟩:=el4.1 c;unfold X6 at hm;split at hm
  .cases hm
  .rw[H9,de1 l _ _ m (by rw[b];rfl),ep2,ei4];simp only[G5,ei4,ei0];rw[bD6 f.body 12 _ _ 1 0 false _ _ _ _ _ hm (by omega)]
def dB5:G0 Tryz.prog 36 111 16 232=true:=by kernel_rfl
def cZ2{h:Hp}{v:Value}{t:St}(hv:SV h v t)(d up:Int)(e:Bool):∃u,B6 Tryz.prog 111 [(0,v),(1,.int .i64 d),(2,.int .i64 up),(3,.bool e)]=some u/\SV h u (⟨t,d,up,e⟩:Im):=by
 obtain⟨r,rfl,g⟩:=hv;have s:r.length=13:=A3.len g;obtain⟨i,j,k,l,m,n,o,p,q,a,b,c,f,rfl⟩:=aR0 s;refine⟨.agg #[i,j,k,l,m,n,o,p,q,a,b,c,f,.int .i64 d,.int .i64 up,.bool e],?_,⟨_,rfl,⟨_,rfl,g⟩⟩⟩;simp[B6,dk7,J9,Instr.fill,Value.cells]
def cT8:∀(m:Nat) (l:List St) (v i:Value) (d n:Int) (e:Bool) (r:List Im) (h:Hp) (w:World),A7 l<=m->R h v l->B0 h w 111 i r->B8 h (m8 w)->r.length+A7 l<=200->0<=d->d<=13 ->
  o9 Tryz.prog 72 #[v,.int .i64 d,.int .i64 n,.bool e,i] w λu o=>(B0 h o 111 u (r++M0 l d n e)/\o8 (A0 i) w o/\E9 w i u):=by
 intro m
 induction m using Nat.strongRecOn with
 | ind m ih=>
 intro l v i d n e r h w a0 hv ho hh hl aV hd;refine p9 [v,.int .i64 d,.int .i64 n,.bool e,i] Tryz.func72 rfl ?_;have hS:=hv.isS;have hn:=hv.vlen;have aX:l.length<=200:=by have:=V9 l;omega
 simp only[i5,n9,simprocAttr];refine D9 [0,1,2,3] (σ:=Nat×Value×List Im) (λs f o=>f 11 = .int .i64 s.1/\f 4=s.2.1/\s.1<=l.length/\B0 h o 111 s.2.1 (r++s.2.2)/\o8 (A0 i) w o/\E9 w i s.2.1 /\
  M0 l d n e=s.2.2++M0 (l.drop s.1) d n e/\s.2.2.length+A7 (l.drop s.1)<=A7 l) (λs=>l.length-s.1) (0,i,[]) ?_ ?_
 .simp only[B3,simprocAttr];exact⟨by trivial,by trivial,eg3 _,by simpa using ho,o8.refl _,λb g=>.inl g,by simp,by simp⟩
 rintro⟨k,uL,c⟩ f w2 hk ⟨j,h4,av,q,I,p,a,z⟩;simp only at j h4 av q p a z;simp only[ei3,B3,simprocAttr]at hk;obtain⟨e0,e1,e2,e3,_⟩:=hk;have T:=q.isS;have aa:=q.vlen;have aZ:(r++c).length<=200:=by rw[ef4];omega
 have K:decide (((r++c).length:Int)<=200)=true:=by simp only[ei8];omega
 rcases ef2 (decide ((k:Int)<(l.length:Int)))with hc|hc;rotate_left
 .simp only[i5,n9,simprocAttr,j,h4,e0,hS,hn,hc];refine o7 Tryz.results72 ?_;simp only[B3,simprocAttr];have W:k=l.length:=by have:=ef7 hc;omega
  rw[W,eo9]at a;simp only[M0,ei5]at a;exact⟨by rw[a];exact q,I,p⟩
 have P:k<l.length:=by have:=ef3 hc;omega
 have H:=hv.inS P;have O:B8 h (m8 w2):=H2 hh I λb g=>ho.free g;have G:=hv.at_ (ef1 P);have A:l.drop k=l[k]::l.drop (k+1):=ej8 P;generalize l[k]=t at G A;rw[A]at a z;rw[A7]at z;rw[M0,dt2]at a;have a1:=az4 t;have af:A3.sz St=13:=rfl;rw[af]at G;obtain⟨sv,aA,aH,_⟩:=G.st_v;obtain⟨vl,va,vt,ve,a3,a2,aE,aD,aU,a5,ah⟩:=G.st;obtain⟨iu,U,au⟩:=cZ2 aA d n e;have ag:=aH w2 O;obtain⟨p1,uM,E,p2,p3,p4,p5⟩:=push (e:=36) dB5 rfl q (x:=iu) (y:=⟨t,d,n,e⟩) au.enc (by omega) (by omega) O;have ae:o8 (A0 i) w E:=I.chain p4 λb g hu=>(p b hu).resolve_right (by omega);have C:E9 w i uM:=λb g=>by
  rcases p5 b g with J|J
  .exact p b J
  .have:=I.size;right;omega
 have aq:B8 h (m8 E):=H2 O p4 λb g=>q.free g;have aY:(r++c++[(⟨t,d,n,e⟩:Im)]).length=r.length+c.length+1:=by simp only[ef4,ei6]
 rcases ef2 (decide (d<=12))with h12|h12;rotate_left
 .rw[if_neg (ef7 h12)]at a;simp only[i5,n9,y4,simprocAttr,j,h4,e0,e1,e2,e3,hS,hn,hc,T,aa,K,H,ag,U,p1,p2,h12];refine nx4 (k+1,uM,c++[⟨t,d,n,e⟩]) ⟨by simpa using p3,ae,C,by rw[a];simp,by simp only[ef4,ei6];omega⟩
 .have V:d<=12:=ef3 h12;rw[if_pos V]at a;have ad:IntKind.i64.wrap (d+1)=d+1:=M2 _ (by omega);have B:=p7 aq (b7 (o6.drew E));have s3:=ah (λo=>o8 (A0 uM) E.drew o) E.drew (o8.refl _) λo hm=>H2 B hm λb g=>p3.free g;obtain⟨t0,_,_,_,_,_,_,t7,_⟩:=s3;simp only[i5,n9,y4,simprocAttr,j,h4,e0,e1,e2,e3,hS,hn,hc,T,aa,K,H,ag,U,p1,p2,h12];refine B9 (λo=>o8 (A0 uM) E.drew o) 15 (A5 [0,1,2,3,4,5,6,7,8,9,10,11,12,13,14]) ?_;simp only[D0,A5,i5,n9,y4,simprocAttr,j,e0,e1,H,ad,t0,t7];have aw:(r++c++[(⟨t,d,n,e⟩:Im)]).length+A7 t.thn<=200:=by omega
  refine t8 (ih (A7 t.thn) (by omega) t.thn vt uM (d+1) t.id false (r++c++[⟨t,d,n,e⟩]) h E.drew (eg6 _) aE (by rw[ei0,<-ei0];exact p3.ext (o6.drew E)) B aw (by omega) (by omega)) ?_;rintro u4 F ⟨ab,Q,Y⟩;refine⟨Q,?_⟩;have M:o8 (A0 i) w E.drew:=ae.trans (o8.up (o6.drew E));have aB:w.heap.size<=E.drew.heap.size:=M.size;have aF:o8 (A0 i) w F:=M.chain Q λb g hu=>(C b hu).resolve_right (by omega);have D:E9 w i u4:=λb g=>by
   rcases Y b g with J|J
   .exact C b J
   .right;omega
  have ar:B8 h (m8 F):=H2 B Q λb g=>p3.free g;have L:=p7 ar (b7 (o6.drew F));have s4:=ah (λo=>o8 (A0 u4) F.drew o) F.drew (o8.refl _) λo hm=>H2 L hm λb g=>ab.free g;obtain⟨y0,_,_,_,_,_,_,_,y8⟩:=s4;have aN:=av9 t.thn (d+1) t.id false;have ax:(r++c++[(⟨t,d,n,e⟩:Im)]++M0 t.thn (d+1) t.id false).length+A7 t.els<=200:=by rw[ef4];omega
  simp only[D0,i5,simprocAttr];refine B9 (λo=>o8 (A0 u4) F.drew o) 15 (A5 [0,1,2,3,4,5,6,7,8,9,10,11,12,13,14]) ?_;simp only[D0,A5,i5,n9,y4,simprocAttr,j,e0,e1,H,ad,y0,y8];refine t8 (ih (A7 t.els) (by omega) t.els ve u4 (d+1) t.id true (r++c++[⟨t,d,n,e⟩]++M0 t.thn (d+1) t.id false) h F.drew (eg6 _) aD (ab.ext (o6.drew F)) L ax (by omega) (by omega)) ?_;rintro u5 w5 ⟨az,X,Z⟩;refine⟨X,?_⟩;have N:o8 (A0 i) w F.drew:=aF.trans (o8.up (o6.drew F));have aC:w.heap.size<=F.drew.heap.size:=N.size;have aG:o8 (A0 i) w w5:=N.chain X λb g hu=>(D b hu).resolve_right (by omega);have S:E9 w i u5:=λb g=>by
   rcases Z b g with J|J
   .exact D b J
   .right;omega
  have aK:=av9 t.els (d+1) t.id true;simp only[D0,i5,n9,simprocAttr,j];refine nx4 (k+1,u5,c++(⟨t,d,n,e⟩::(M0 t.thn (d+1) t.id false++M0 t.els (d+1) t.id true))) ⟨by simpa using az,aG,S,by rw[a];simp,by simp only[ef4,ei2];omega⟩
def bS3(h:Hp)(v:Value)(q:Pr)(w:World)(hv:SV h v q)(k:B8 h (m8 w))(hb:A7 q.body<=200):
  o9 Tryz.prog 44 #[v] w λu i=>(B0 h i 111 u (M0 q.body 1 0 false)/\(∀b,A0 u b->w.heap.size<=b)/\o6 w i):=by
 refine p9 [v] Tryz.func44 rfl ?_;obtain⟨a,j,e,c,d⟩:=cE2 (w:=w) (λ_=>False) hv (λ_ h=>h.elim);obtain⟨o,p,n,r,_,_,g,_,m,_⟩:=I6.pr hv d;simp only[i5,n9,simprocAttr,e,m j (A8 _ _)];refine t8 (cT8 (A7 q.body) q.body n (.slice none 0 0) 1 0 false [] h j (eg6 _) g (B0.nil _ _ _) (p7 k (b7 c)) (by simpa using hb) (by omega) (by omega)) ?_;rintro u s ⟨l,hm,f⟩;simp only[i5,simprocAttr];refine o7 Tryz.results44 ?_;simp only[B3,simprocAttr];exact⟨by simpa using l,λb hb=>(f b hb).elim (λh=>absurd h D5) λh=>ef9 c.size h,c.trans (hm.weaken λ_ _ h=>absurd h D5)⟩
def bq4(p:Pg):List Im:=p.procs.flatMap λq=>M0 q.body 1 0 false
def dp8{p:Pg}(hm:M8 p=true):(bq4 p).map (·.s)=(d9 p).l.map (·.s):=by
 unfold M8 at hm;rw[eh5]at hm;have:=de1 p.procs ⟨p,[],[],[]⟩ 0 0 hm.2;exact(this.trans (ep1 _)).symm
def bM9{p:Pg}(hm:M8 p=true):(bq4 p).length=(d9 p).l.length:=by
 have:=eg8 List.length (dp8 hm);simpa using this
def ck8:∀{l:List Nat} {x:Nat},x∈l->x<=l.sum
 | a::l,x,h=>by
  rw[eq8];rcases eh0.1 h with rfl|h
  .omega
  .have:=ck8 h;omega
def bG0(v:Value)(p:Pg)(w:World)(hv:SV (m8 w) v p)(m:M8 p=true):
  o9 Tryz.prog 15 #[v] w λu C=>(R (m8 C) u (bq4 p)/\o6 w C):=by
 refine p9 [v] Tryz.func15 rfl ?_;have D:(bq4 p).length<=200:=by rw[bM9 m];exact H7 m
 have Q:bB0 p<=200:=by rw[<-aw4];exact H7 m
 have ah:=(T0 m).2;obtain⟨c,J,O,Y,E⟩:=Q4 hv (n7 _);obtain⟨vg,vp,al,x,Z,_⟩:=E.pg;simp only[i5,n9,simprocAttr,O,Z J (n7 _),x.isS,x.vlen];refine A6 [1,7,8] (σ:=Nat×Value) (λs f C=>f 9 = .int .i64 s.1/\f 3=s.2/\s.1<=p.procs.length/\B0 (aq7 C s.2) C 111 s.2 ((p.procs.take s.1).flatMap λq=>M0 q.body 1 0 false)/\o6 J C/\∀b,A0 s.2 b->J.heap.size<=b) (λs=>p.procs.length-s.1) (0,.slice none 0 0) ?_ ?_
 .exact⟨rfl,rfl,eg3 _,B0.nil _ _ _,o8.refl _,λb F=>absurd F D5⟩
 rintro⟨k,uL⟩ f w2 ⟨e1,e7,e8,_⟩ ⟨K,L,V,g,y,j⟩;simp only at K L V g y j;simp only[i5,n9,simprocAttr,K,e8];refine y5 (λl=>?_) ?_;rotate_left
 .intro U;rw[U,eg4]at g;simp only[i5,simprocAttr,L];exact o7 Tryz.results15 ⟨g.rw_ (be9 _ _),Y.trans y⟩
 have T:=x.inS l;obtain⟨sv,n,H⟩:=F5 (P:=Tryz.prog) (t:=75) x (b7 y) (ef1 l) at8 at9 ar9 Q9;rw[Q9]at H;have r:(p.procs.take (k+1)).flatMap (λq=>M0 q.body 1 0 false)=(p.procs.take k).flatMap (λq=>M0 q.body 1 0 false)++M0 p.procs[k].body 1 0 false:=by
  rw[ef8 l,eo8];simp
 have a:((p.procs.take (k+1)).flatMap λq=>M0 q.body 1 0 false).length<=200:=by
  refine ef9 ?_ D;unfold bq4
  conv=>rhs;rw[<-ej2 (k+1) p.procs]
  rw[eo8,ef4];omega
 rw[r]at a;have G:A7 p.procs[k].body<=200:=ef9 (ck8 (eh4.2 ⟨p.procs[k],eg2 l,rfl⟩:A7 p.procs[k].body∈p.procs.map λf=>A7 f.body)) Q;generalize p.procs[k]=q at n r a G;generalize(p.procs.take k).flatMap (λq=>M0 q.body 1 0 false)=pre at g r a;obtain⟨d,wz,w3,M,X,B,N⟩:=aL4 (w:=w2) (λ_=>False) n (λ_ h=>h.elim);have z:=y.trans B;simp only[i5,n9,y4,simprocAttr,K,e7,L,T,H,M,X,(I6.pr_v n N).1 w3 (A8 _ _)];refine t8 (bS3 (m8 J) sv q w3 n (b7 z) G) ?_;rintro u w4 ⟨ho,S,I⟩;have i:=z.trans I;have W:=g.but (B.trans I);have hu:=ho.beside (w:=w4) (v:=uL) (λb o e=>by
  rw[ad5 λh=>by have:=j b h;have:=(ef5.1 (show J.heap[b]?=some o from e)).1;omega];exact b7 i b o e) (λb F h=>by have:=g.lt h;have:=S b F;have:=B.size;omega)
 rw[ef4]at a;obtain⟨v',w5,p2,p3,p4,p5⟩:=W2 (P:=Tryz.prog) (e:=36) dB5 rfl W hu (by omega) (by omega) (be9 _ _);have A:decide ((200:Int)<(((pre++M0 q.body 1 0 false).length:Nat):Int))=false:=el3 (by rw[ef4];omega);have aj:=i.size;simp only[i5,n9,simprocAttr,K,p2,p3.isS,p3.vlen,A];refine nx4 (k+1,v') ⟨?_,?_,λb F=>?_⟩
 .simp only[];rw[r];exact p3.rebase (p7 (cQ7 p4 p5) (be9 _ _))
 .exact o8.ext_of i p4 j
 .rcases p5 b F with h|h
  .exact j b h
  .omega
section
variable {p:Pg} {vs:List Vx} {l:List Int}
def aB5(a:E0 p=false):ab3 p vs=([],1)/\ae9 p vs=([],1):=by
 refine⟨?_,?_⟩
 .unfold ab3;rw[if_pos a]
 .unfold ae9;rw[if_pos a]
def bi5(a:E0 p=true)(h:N8 (i4 p).wv vs=some l):ab3 p vs=(E8 (i4 p).wv ((i4 p).backB l),0)/\ae9 p vs=(E8 (i4 p).wv ((i4 p).forwB l),0):=by
 refine⟨?_,?_⟩
 .unfold ab3;rw[if_neg (by rw[a];simp),h]
 .unfold ae9;rw[if_neg (by rw[a];simp),h]
def aK5(d:E0 p=true)(hw:B7 p<=1000000):ab3 p []=([],0)/\ae9 p []=([],0):=by
 have e:=G6 d;have a:N8 (i4 p).wv []=some []:=rfl;obtain⟨h,i⟩:=bi5 d a;have f:E8 (i4 p).wv ((i4 p).backB [])=[]:=List.eq_nil_iff_forall_not_mem.2 λu b=>by
  obtain⟨_,y,c,_⟩:=(ak8 e hw a).1 b;simp at c
 have g:E8 (i4 p).wv ((i4 p).forwB [])=[]:=List.eq_nil_iff_forall_not_mem.2 λu b=>by
  obtain⟨_,y,c,_⟩:=(aE1 e hw a).1 b;simp at c
 rw[h,i,f,g];exact⟨rfl,rfl⟩
def bI0(a:E0 p=true)(h:∃u∈vs,u∉(i4 p).wv):ab3 p vs=([],9)/\ae9 p vs=([],9):=by
 have b:=aE9.2 h;refine⟨?_,?_⟩
 .unfold ab3;rw[if_neg (by rw[a];simp),b]
 .unfold ae9;rw[if_neg (by rw[a];simp),b]
def bT0(a:E0 p=true)(hw:B7 p<=1000000)(h:∀u∈vs,u∈(i4 p).wv):∃B F,ab3 p vs=(B,0)/\ae9 p vs=(F,0)/\(∀u∈vs,u∈B)/\∀u∈vs,u∈F:=by
 obtain⟨l,d,e,f⟩:=ai8 (G6 a) hw h;obtain⟨b,c⟩:=bi5 a d;exact⟨_,_,b,c,e,f⟩
end
def by0(x y:Vx)(w:World):∃u a,(Instr.buildSlice 22 2 #[(0,.agg (p8.cells x).toArray),(1,.agg (p8.cells y).toArray)]).run Tryz.prog w = .ok u a/\R (m8 a) u [x,y]/\o6 w a:=by
 obtain⟨u,a,c,d,b,_⟩:=lit (P:=Tryz.prog) (t:=22) (w:=w) (h:=m8 w) (α:=Vx) (xs:=[.agg (p8.cells x).toArray,.agg (p8.cells y).toArray]) (ys:=[x,y]) (parts:=#[(0,.agg (p8.cells x).toArray),(1,.agg (p8.cells y).toArray)]) (n:=2) at7 rfl (aj6 (aj7 ((p8.iff_ _ _ _).2 rfl)) (aj7 ((p8.iff_ _ _ _).2 rfl))) (by simp[Value.cells];exact⟨rfl,rfl⟩) rfl rfl (by simp) (by simp) (n7 _);exact⟨u,a,c,d.rw_ (b7 b),b⟩
def bz6(v:Value)(p:Pg)(x:Vx)(i:Int)(w:World)(hv:SV (m8 w) v p):o9 Tryz.prog 4 #[v,.agg (p8.cells x).toArray,.int .i64 i] w λu w'=>(u = .bool true/\o6 w w'):=by
 refine p9 [v,.agg (p8.cells x).toArray,.int .i64 i] Tryz.func4 rfl ?_;obtain⟨c,w0,aR,aU,ax⟩:=Q4 hv (n7 _);obtain⟨cx,w1,aQ,C,ay⟩:=bd6 (w:=w0) (SV.ofN (m8 w0) x) (n7 _);have D:=aU.trans C;obtain⟨n,S,L,_⟩:=ax.pg_v;have b:=S.mono (b7 C);have a:∀w',B8 (m8 w1) (m8 w')->P9 Tryz.prog w' 34 c n:=λw' h=>L w' (p7 (b7 C) h);clear S L;obtain⟨ux,aT,m,_⟩:=ay.vx_v;obtain rfl:=aT.N;simp only[i5,n9,simprocAttr,aR,aQ];refine B2 (az5 w1) (λw2 ab=>?_);simp only[i5,n9,simprocAttr,a w2 (b7 ab)];refine B2 (aN3 n p w2 (b.mono (b7 ab))) (λw3 aV=>?_);have o:=ab.trans aV;rcases ef2 (decide (B7 p<=20000))with h1|h1;rotate_left
 .simp only[i5,n9,simprocAttr,h1];exact o7 Tryz.results4 ⟨rfl,D.trans o⟩
 have j:B7 p<=1000000:=ef9 (ef3 h1) (by decide);simp only[i5,n9,simprocAttr,h1,a w3 (b7 o)];refine B2 (S5 n p w3 (b.mono (b7 o)) j) (λw4 aW=>?_);have k:=o.trans aW;have l4:=a w4 (b7 k);rcases ef2 (E0 p)with hR|hR;rotate_left
 .simp only[i5,simprocAttr,hR,l4];refine t8 (R7 n w4 (b.mono (b7 k)) j) ?_;rintro uv w5 ⟨M,ac⟩;rw[if_neg (by rw[hR];simp)]at M;have g:=k.trans ac;simp only[i5,simprocAttr];refine B2 (V0 uv [] i w5 M (by simp)) (λw6 ad=>?_);generalize ab6 [] i=V;obtain⟨d,wz,w7,Y,aa,ae,A⟩:=aL3 (SV.ofN (m8 w6) V) (n7 _);obtain⟨uV,hV,l,_⟩:=A.vx_v;obtain rfl:=hV.N;have q:=(g.trans ad).trans ae;obtain⟨u8,w8,q8,r8,N⟩:=by0 V x w7;simp only[i5,simprocAttr,Y,aa,a w7 (b7 q),l w7 (n7 _),m w7 (b7 q),q8];refine t8 (K6 n u8 [V,x] w8 (b.mono (b7 (q.trans N))) j r8 (by simp)) ?_;rintro _ w9 ⟨ub,rfl,rb,nb,O⟩;rw[(aB5 hR).1]at rb;simp only[(aB5 hR).1];have T:=N.trans O;have s:=q.trans T;obtain⟨uA,wA,qA,rA,P⟩:=by0 x V w9;simp only[i5,simprocAttr,a w9 (b7 s),l w9 (b7 T),m w9 (b7 s),qA];refine t8 (N5 n uA [x,V] wA (b.mono (b7 (s.trans P))) j rA (by simp)) ?_;rintro _ wB ⟨uf,rfl,rf,nf,Q⟩;rw[(aB5 hR).2]at rf;simp only[(aB5 hR).2];have E:=s.trans (P.trans Q);simp only[i5,simprocAttr,a wB (b7 E)];refine B2 (S5 n p wB (b.mono (b7 E)) j) (λwC af=>?_);simp only[i5,n9,simprocAttr,hR,rb.isS,rb.vlen,rf.isS,rf.vlen,em2];exact o7 Tryz.results4 ⟨rfl,(D.trans E).trans af⟩
 have hr:=G6 hR;have a9:=at1 hr j;have aB:=ag5 hr.toKnown;simp only[i5,simprocAttr,hR,l4];refine t8 (bG0 n p w4 (b.mono (b7 k)) hr.may) ?_;rintro ua w5 ⟨aG,ac⟩;have g:=k.trans ac;have sa:=aG.isS;have na:=aG.vlen;rcases ef2 (decide ((40:Int)<((bq4 p).length:Int)))with h2|h2
 .simp only[i5,n9,simprocAttr,sa,na,h2];exact o7 Tryz.results4 ⟨rfl,D.trans g⟩
 simp only[i5,n9,simprocAttr,sa,na,h2,a w5 (b7 g)];refine t8 (R7 n w5 (b.mono (b7 g)) j) ?_;rintro uv w6 ⟨M,ad⟩;rw[if_pos hR]at M;have aC:=g.trans ad;simp only[i5,simprocAttr];refine B2 (V0 uv (i4 p).wv i w6 M (by omega)) (λw7 ae=>?_);have Z:=aR2 aB i;generalize ab6 (i4 p).wv i=V at Z;obtain⟨d,wz,w8,Y,aa,N,A⟩:=aL3 (SV.ofN (m8 w7) V) (n7 _);obtain⟨uV,hV,l,_⟩:=A.vx_v;obtain rfl:=hV.N;have r:=(aC.trans ae).trans N;obtain⟨u9,w9,q9,r9,O⟩:=by0 V x w8;simp only[i5,simprocAttr,Y,aa,a w8 (b7 r),l w8 (n7 _),m w8 (b7 r),q9];refine t8 (K6 n u9 [V,x] w9 (b.mono (b7 (r.trans O))) j r9 (by simp)) ?_;rintro _ wA ⟨ub,rfl,rb,nb,P⟩;have J:=O.trans P;have t:=r.trans J;obtain⟨uB,wB,qB,rB,Q⟩:=by0 x V wA;simp only[i5,simprocAttr,a wA (b7 t),l wA (b7 J),m wA (b7 t),qB];refine t8 (N5 n uB [x,V] wB (b.mono (b7 (t.trans Q))) j rB (by simp)) ?_;rintro _ wC ⟨uf,rfl,rf,nf,af⟩;have K:=Q.trans af;have aD:=J.trans K;have G:=t.trans K;simp only[i5,simprocAttr,a wC (b7 G)];refine B2 (S5 n p wC (b.mono (b7 G)) j) (λwD ag=>?_);have H:=G.trans ag;simp only[i5,n9,simprocAttr,hR,a wD (b7 H)];refine t8 (K6 n (.slice none 0 0) [] wD (b.mono (b7 H)) j K9 (by simp)) ?_;rintro _ wE ⟨uc,rfl,rc,nc,ah⟩;rw[(aK5 hR j).1]at rc;simp only[(aK5 hR j).1];have I:=H.trans ah;simp only[i5,simprocAttr,a wE (b7 I)];refine t8 (N5 n (.slice none 0 0) [] wE (b.mono (b7 I)) j K9 (by simp)) ?_;rintro _ wF ⟨ud,rfl,rd,nd,aj⟩;rw[(aK5 hR j).2]at rd;simp only[(aK5 hR j).2];have y:=I.trans aj;simp only[i5,n9,simprocAttr,rc.isS,rc.vlen,rd.isS,rd.vlen,em2,decide_false,a wF (b7 y),m wF (b7 y)];refine B2 (bH3 n x wF (b.mono (b7 y)) j) (λwG ak=>?_);have z:=y.trans ak;have aw:=((ag.trans ah).trans aj).trans ak;have e:=A3.mono (b7 ((((K.trans ag).trans ah).trans aj).trans ak)) rb;have f:=A3.mono (b7 aw) rf;rcases ef2 (decide (x∈(i4 p).wv))with hx|hx;rotate_left
 .have aA:=ef7 hx;have e1:=(bI0 (vs:=[V,x]) hR ⟨x,by simp,aA⟩).1;have e2:=(bI0 (vs:=[x,V]) hR ⟨x,by simp,aA⟩).2;rw[e1]at e;rw[e2]at f;have e:R (m8 wG) ub ([]:List Vx):=e;have f:R (m8 wG) uf ([]:List Vx):=f;simp only[i5,n9,simprocAttr,hR,hx,e1,e2,e.isS,e.vlen,f.isS,f.vlen,em2];exact o7 Tryz.results4 ⟨rfl,D.trans z⟩
 have az:=ef3 hx;obtain⟨B,_,e1,_,m1,_⟩:=bT0 (vs:=[V,x]) hR j (by simp[Z,az]);obtain⟨_,F,_,e2,_,m2⟩:=bT0 (vs:=[x,V]) hR j (by simp[Z,az]);rw[e1]at e nb;rw[e2]at f nf;simp only[]at nb nf;have e:R (m8 wG) ub B:=e;have f:R (m8 wG) uf F:=f;have aM:B.contains x=true:=eg7.2 (m1 x (by simp));have aL:B.contains V=true:=eg7.2 (m1 V (by simp));have aO:F.contains x=true:=eg7.2 (m2 x (by simp));have aN:F.contains V=true:=eg7.2 (m2 V (by simp));have U:=aD.trans aw;simp only[i5,n9,simprocAttr,hR,hx,e1,e2,m wG (b7 z)];refine B2 (ae1 ub B x wG e (by omega)) (λwH al=>?_);simp only[i5,simprocAttr,aM,l wH (b7 (U.trans al))];refine B2 (ae1 ub B V wH (A3.mono (b7 al) e) (by omega)) (λwI aX=>?_);have W:=al.trans aX;simp only[i5,simprocAttr,aL,m wI (b7 (z.trans W))];refine B2 (ae1 uf F x wI (A3.mono (b7 W) f) (by omega)) (λwJ aY=>?_);have X:=W.trans aY;simp only[i5,simprocAttr,aO,l wJ (b7 (U.trans X))];refine B2 (ae1 uf F V wJ (A3.mono (b7 X) f) (by omega)) (λwK aZ=>?_);simp only[i5,simprocAttr,aN];exact o7 Tryz.results4 ⟨rfl,((D.trans z).trans X).trans aZ⟩
section
open Go.ChangeShapes Go.WideShapes Go.ChangeAt Go.RowKit
section
variable {H:Type} {enc:TypeId×Value->H} {W:World} {base:Nat} {sp:Nat->Bool} {held:Bool}
def dZ3:Tryz.prog.cellsOf 26=4:=by kernel_rfl
def dQ2(n:Nat):Opn enc Tryz.prog W base sp held Vx 26 n:=λs d h=>by
 obtain⟨t,m,rfl,rfl,l,a,f⟩:=DataW.trod_struct Tryz.underlying26 h;have a:t.length=4:=a;rw[dZ3]at l
 match s,l with
 | [c0,c1,c2,c3],_=>
  have g:=f 0 _ rfl;have i:=f 1 _ rfl;have j:=f 2 _ rfl;have k:=f 3 _ rfl;rw[ef1 (by omega)]at g i j k;simp only[aY9,cs6,List.getElem_toArray,er5,ep9,en9,List.drop_succ_cons,er6,ep6]at g i j k;obtain⟨o,e0⟩:=aJ8 Tryz.underlying9 m _ _ g;obtain⟨p,b⟩:=bm8 Tryz.underlying3 m _ _ i;obtain⟨q,c⟩:=bm8 Tryz.underlying3 m _ _ j;obtain⟨r,e⟩:=aJ8 Tryz.underlying9 m _ _ k;have e0:[c0]=[p6 o]:=e0;have b:[c1]=[.int .i64 p]:=b;have c:[c2]=[.int .i64 q]:=c;have e:[c3]=[p6 r]:=e;simp only[eq9,and_true]at e0 b c e;subst e0;subst b;subst c;subst e;exact⟨⟨o,p,q,r⟩,rfl⟩
def dD5{v:Value}{d:DataW H}{f:List MemPlace}(h:DataW.Trod enc Tryz.prog W base sp held 26 v d f):∃x:Vx,v = .agg (p8.cells x).toArray:=by
 obtain⟨n,c⟩:=h;obtain⟨x,b⟩:=dQ2 n _ _ c;have a:=A3.len b;have e:A3.sz Vx=4:=rfl;rw[e]at a;refine⟨x,SV.N (h:=m8 W) ⟨v.cells.toList,?_,b⟩⟩;cases v with
 | agg g=>simp[Value.cells]
 | _=>simp[Value.cells]at a
end
end
end Go.Proofs.YtggahhenbbgffaaGreat
namespace Go.Proofs.YtggahhenbbgffaaGreat.sliceNone
open Go Go.ChangeShapes Go.WideShapes Go.ChangeAt Go.RowKit
def bf3:laidOutB Tryz.prog=true:=by kernel_rfl
def al8:∀t∈Tryz.f4.params.toList,Tryz.prog.readableRec t=true/\t<Tryz.prog.types.size:=by
 rw[Tryz.params4];decide +kernel
set_option maxRecDepth 100000 in
def lifted(r:Os)(b:r.Started)(H:Type)(enc:TypeId×Value->H):
  ReturnsInHanded {} Tryz.checked r 4 .any (Rows.sliceNoneSpec.pre6 enc Tryz.prog Tryz.f4 Rows.sliceNoneRow.domain false) (Rows.sliceNoneSpec.post enc Tryz.prog Tryz.f4 false true false false):=by
 refine returnsInHanded_of_change (C:=Tryz.checked) own b (by kernel_rfl) Tryz.func4
  (ChangeSpec.witness6 (enc:=enc) (C:=Tryz.checked) false ⟨#[],#[.agg #[.slice none 0 0,.slice none 0 0],.agg #[.string ⟨#[]⟩,.int .i64 0,.int .i64 0,.string ⟨#[]⟩],.int .i64 0],[]⟩ 8 (by kernel_rfl) (by kernel_rfl) (by kernel_rfl) (by kernel_rfl)) ?_
 intro W d args y gs i a n o _;have c:∀(j:Nat) t v,Tryz.f4.params[j]?=some t->args[j]?=some v->Value.okWide Tryz.prog W .any d t v:=a;have h:=n;obtain⟨p,q,f,G,rfl,J,L⟩:=n;have k:DataW.TrodAll enc Tryz.prog W 0 (λ_=>true) true Tryz.f4.params.toList args.toList y p:=f;have g:=k;rw[Tryz.params4]at k c;obtain⟨s,R,Y,z,p0,q0,l,rfl,rfl,D,N⟩:=trodAll_cons k;obtain⟨Q,S,Z,A,p1,q1,rfl,rfl,rfl,E,O⟩:=trodAll_cons N;obtain⟨w,T,d2,B,p2,q2,rfl,rfl,rfl,F,P⟩:=trodAll_cons O;obtain⟨rfl,rfl,rfl⟩:=trodAll_nil P;obtain rfl:args=#[s,Q,w]:=by cases args;simp_all
 obtain⟨rfl,rfl⟩:=trodVars_none G;obtain⟨U,m⟩:=bA3 D;obtain⟨V,rfl⟩:=dD5 E;obtain⟨x,rfl,rfl,rfl,w2⟩:=open_int Tryz.underlying3 (c 2 3 w rfl rfl) F;clear f a;simp only[List.append_nil]at h g;refine(bz6 s U V x W m).mono λe X ⟨u,I,M,K⟩=>?_;subst I;subst M;exact⟨_,rfl,aR3 bf3 al8 rfl h g rfl rfl (λ_ _ _=>(trodAll_cons_mk (shut_bool Tryz.underlying4 _) trodAll_mk0)) K⟩
def kM:mapsRowed Tryz.prog=true:=by kernel_rfl
def kI:(Rows.sliceNoneRow.inPlace==Tryz.prog.inPlace 4)=true:=by kernel_rfl
def kU:(Rows.sliceNoneRow.unfollowed==Tryz.prog.unfollowed 4)=true:=by kernel_rfl
def kR:(Rows.sliceNoneRow.recurses==Tryz.prog.recurses 4)=true:=by kernel_rfl
def kN:(Rows.sliceNoneRow.named==Tryz.prog.varsNamed 4)=true:=by kernel_rfl
def kS:Tryz.prog.stopsHeard=true:=by kernel_rfl
def kE:Tryz.prog.mayEnter=true:=by kernel_rfl
def kL:(Rows.sliceNoneRow.lifted==Tryz.prog.liftsFinal)=true:=by kernel_rfl
def kK:(Tryz.prog.make==some Rows.sliceNoneRow.make)=true:=by kernel_rfl
def closed:joinedFacts Tryz.prog 4 Tryz.f4 Rows.sliceNoneSpec Rows.sliceNoneRow=true:=by
 unfold joinedFacts;rw[bf3,kM,kI,kU,kR,kN,kS,kE,kL,kK]
 kernel_rfl
def bZ6:Rows.sliceNoneRow.holds Tryz.pinned (OpenSpec.ofChange Rows.sliceNoneSpec):=
 OpenClaim.holds_of_wide 4 Tryz.f4 rfl rfl rfl rfl rfl rfl rfl ⟨rfl,rfl,rfl,rfl,rfl⟩ rfl rfl rfl rfl rfl (by kernel_rfl) Tryz.func4 closed
  (of_decide_eq_true (by kernel_rfl)) (by unfold Func.isWrapper;first|(rw[if_pos (by decide +kernel)];kernel_rfl)|(rw[if_neg (by decide +kernel)];exact⟨rfl,rfl⟩))
  (λc a H b _=>lifted c a H b)
theorem proved:Rows.SliceNoneSaid:=bZ6
end Go.Proofs.YtggahhenbbgffaaGreat.sliceNone

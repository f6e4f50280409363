/- sliceCrit.proved: for every input the law returns true. No condition. -/
import Derived.Test.YtggahhenbbgffaaGreatRows
import Derived.Test.YtggahhenbbgffaaGreatZ7
import Derived.Test.YtggahhenbbgffaaGreatZ8
set_option maxRecDepth 1000000
set_option maxHeartbeats 8000000
set_option linter.unusedVariables false
set_option linter.unusedSimpArgs false
set_option linter.unnecessarySimpa false
set_option linter.defProp false
namespace Go.Proofs.YtggahhenbbgffaaGreat
open Go 
mutual
def cw7:St->Int->Int->Bool->List Im
 | .mk id kind labels name proc x has args thn els,d,up,e=>⟨.mk id kind labels name proc x has args thn els,d,up,e⟩::(if d<=12 then M0 thn (d+1) id false++M0 els (d+1) id true else[])
def M0:List St->Int->Int->Bool->List Im
 | [],_,_,_=>[]
 | t::l,d,up,e=>cw7 t d up e++M0 l d up e
end
def dt2(t:St)(d up:Int)(e:Bool):cw7 t d up e=⟨t,d,up,e⟩::(if d<=12 then M0 t.thn (d+1) t.id false++M0 t.els (d+1) t.id true else[]):=by
 cases t;simp only[cw7,St.thn,St.els,St.id]
mutual
def de0:∀(t:St) (d a:Int) (e:Bool),(cw7 t d a e).length<=X7 t
 | .mk id kind labels name proc x has args thn els,d,a,e=>by
  have b:=av9 thn (d+1) id false;have c:=av9 els (d+1) id true;simp only[cw7,X7];split<;>simp only[ei2,ef4,em2]<;>omega
def av9:∀(l:List St) (d a:Int) (e:Bool),(M0 l d a e).length<=A7 l
 | [],_,_,_=>by simp[M0]
 | t::l,d,a,e=>by
  have b:=de0 t d a e;have c:=av9 l d a e;simp only[M0,A7,ef4];omega
end
def stZ:St:=.mk 0 0 [] e0 e0 (.mk 0 0 e0 []) false [] [] []
def imZ:Im:=⟨stZ,0,0,false⟩
def al3(l:List Im)(id:Int):Option Im:=l.find? λx=>decide (x.s.id=id)
def cF8(p:Pg)(id:Int):Option Im:=p.procs.findSome? λq=>al3 (M0 q.body 1 0 false) id
def cu7{l:List Im}{id:Int}{k:Nat}(h:k<l.length)(hn:al3 (l.take k) id=none)(a:l[k].s.id=id):al3 l id=some l[k]:=by
 have e:l=l.take k++l[k]::l.drop (k+1):=by rw[<-ej8 h,ej2]
 unfold al3 at hn ⊢;generalize b:l[k]=x at e a;rw[e,List.find?_append,hn,List.find?_cons,ek5 a];rfl
def cu6{l:List Im}{id:Int}{k:Nat}(h:k<l.length)(hn:al3 (l.take k) id=none)(a:l[k].s.id≠id):al3 (l.take (k+1)) id=none:=by
 unfold al3 at hn ⊢;rw[ef8 h,List.find?_append,hn,List.find?_cons,el3 a];rfl
def cu5{p:Pg}{id:Int}{k:Nat}{x:Im}(h:k<p.procs.length)(hn:(p.procs.take k).findSome? (λq=>al3 (M0 q.body 1 0 false) id)=none)(a:al3 (M0 p.procs[k].body 1 0 false) id=some x):cF8 p id=some x:=by
 have e:p.procs=p.procs.take k++p.procs[k]::p.procs.drop (k+1):=by rw[<-ej8 h,ej2]
 unfold cF8;generalize b:p.procs[k]=q at e a;rw[e,List.findSome?_append,hn,List.findSome?_cons,a];rfl
def cu4{p:Pg}{id:Int}{k:Nat}(h:k<p.procs.length)(hn:(p.procs.take k).findSome? (λq=>al3 (M0 q.body 1 0 false) id)=none)(a:al3 (M0 p.procs[k].body 1 0 false) id=none):(p.procs.take (k+1)).findSome? (λq=>al3 (M0 q.body 1 0 false) id)=none:=by
 rw[ef8 h,List.findSome?_append,hn,List.findSome?_cons,a];rfl
def bx0(p:Pg)(id:Int)(a:A9):Prop:=∃k,k<=p.procs.length/\(p.procs.take k).findSome? (λq=>al3 (M0 q.body 1 0 false) id)=none/\∀b:k<p.procs.length,(∃x,al3 (M0 p.procs[k].body 1 0 false) id=some x)/\a=p.procs[k].name
mutual
def dN7:∀(t:St) (a:Nat) (n m:Int) (d j:Int) (e:Bool) (k:Nat) (i b g c:Int),((I4 a t.thn n).bind λm=>I4 a t.els m)=some m->d+a=12->(cw7 t d j e).map (·.s)=(W0 t k i b g c).map (·.s)
 | .mk id kind labels name proc x has args thn els,a,n,m,d,j,e,k,i,b,g,c,h,hd=>by
  simp only[St.thn,St.els]at h;obtain⟨f,l,o⟩:=el4.1 h;rw[cw7,if_pos (by omega),P3];simp only[ej9,ei4,St.thn,St.els];rw[bD6 thn a n f (d+1) id false _ _ _ _ _ l (by omega),bD6 els a f m (d+1) id true _ _ _ _ _ o (by omega)]
def bD6:∀(l:List St) (b:Nat) (n m:Int) (d c:Int) (e:Bool) (k:Nat) (j a i g:Int),I4 b l n=some m->d+b=13->(M0 l d c e).map (·.s)=(C8 l k j a i g).map (·.s)
 | [],_,_,_,_,_,_,_,_,_,_,_,_,_=>by simp[M0,C8]
 | t::l,0,n,m,d,c,e,k,j,a,i,g,h,hd=>by simp[I4]at h
 | t::l,b+1,n,m,d,c,e,k,j,a,i,g,h,hd=>by
  rw[ao1]at h;obtain⟨o,f,p⟩:=el4.1 h;split at f
  .cases f
  .rw[M0,C8];simp only[ei4];rw[dN7 t b _ o d c e _ _ _ _ _ f (by omega),bD6 l (b+1) o m d c e _ _ _ _ _ p hd]
end
def de1:∀(l:List Pr) (s:Sh) (i:Nat) (n:Int),(l.foldlM (λn f=>X6 f n) n).isSome=true->(H9 s i l).l.map (·.s)=s.l.map (·.s)++(l.flatMap λq=>M0 q.body 1 0 false).map (·.s)
 | [],s,i,_,_=>by simp[H9]
 | f::l,s,i,n,hf=>by
  rw[List.foldlM_cons]at hf;obtain⟨a,c⟩:=el1.1 hf;obtain⟨m,hm,b⟩:=el4.1 c;unfold X6 at hm;split at hm
  .cases hm
  .rw[H9,de1 l _ _ m (by rw[b];rfl),ep2,ei4];simp only[G5,ei4,ei0];rw[bD6 f.body 12 _ _ 1 0 false _ _ _ _ _ hm (by omega)]
def cF1{h:Hp}{cs:List Value}{x:Im}:A3.enc h cs x->∃a,cs=a++([.int .i64 x.deep]:List Value)++([.int .i64 x.up]:List Value)++([.bool x.els]:List Value)/\A3.enc h a x.s:=by
 rintro⟨c,rfl,b⟩;exact⟨c,by simp,b⟩
def At.im{h:Hp}{a:Addr}{x:Im}(E:At h a x):At h a x.s/\(∀w,B8 h (m8 w)->P9 Tryz.prog w 3 (a.add 13) (.int .i64 x.deep)/\P9 Tryz.prog w 3 (a.add 14) (.int .i64 x.up)/\P9 Tryz.prog w 4 (a.add 15) (.bool x.els))/\(∀(S:World->Prop) (C:World),S C->(∀w,S w->B8 h (m8 w))->Q7 Tryz.prog S 3 (a.add 13) (.int .i64 x.deep)/\Q7 Tryz.prog S 3 (a.add 14) (.int .i64 x.up)/\Q7 Tryz.prog S 4 (a.add 15) (.bool x.els)):=by
 obtain⟨G,F,e⟩:=E;obtain⟨D,rfl,g⟩:=cF1 F;obtain⟨p,q,r,s,t,v,y,z,A,B,i,k,l,rfl⟩:=aR0 (A3.len g);exact⟨bd5 e g (λj u b=>by
  match j,b with
  | 0,b=>exact b
  | 1,b=>exact b
  | 2,b=>exact b
  | 3,b=>exact b
  | 4,b=>exact b
  | 5,b=>exact b
  | 6,b=>exact b
  | 7,b=>exact b
  | 8,b=>exact b
  | 9,b=>exact b
  | 10,b=>exact b
  | 11,b=>exact b
  | 12,b=>exact b
  | m+13,b=>simp at b),λw f=>⟨z6 e (o:=13) rfl G3 w f,z6 e (o:=14) rfl G3 w f,z6 e (o:=15) rfl ah3 w f⟩,λS C n f=>⟨U7 n λd c=>z6 e (o:=13) rfl G3 d (f d c),U7 n λd c=>z6 e (o:=14) rfl G3 d (f d c),U7 n λd c=>z6 e (o:=15) rfl ah3 d (f d c)⟩⟩
def I6.im{h k:Hp}{a:Addr}{v:Value}{x:Im}(hv:SV h v x)(J:I6 k a v):∃i,SV h i x.s/\I6 k a i/\(∀w,B8 k (m8 w)->P9 Tryz.prog w 3 (a.add 13) (.int .i64 x.deep)/\P9 Tryz.prog w 3 (a.add 14) (.int .i64 x.up)/\P9 Tryz.prog w 4 (a.add 15) (.bool x.els))/\(∀(S:World->Prop) (F:World),S F->(∀w,S w->B8 k (m8 w))->Q7 Tryz.prog S 3 (a.add 13) (.int .i64 x.deep)/\Q7 Tryz.prog S 3 (a.add 14) (.int .i64 x.up)/\Q7 Tryz.prog S 4 (a.add 15) (.bool x.els)):=by
 obtain⟨L,rfl,K⟩:=hv;obtain⟨H,I,e⟩:=J;obtain rfl:=ah6 I;obtain⟨G,rfl,g⟩:=cF1 K;obtain⟨r,s,t,y,z,A,B,C,D,E,l,n,p,rfl⟩:=aR0 (A3.len g);exact⟨_,⟨_,rfl,g⟩,bl0 e (λj u b=>by
  match j,b with
  | 0,b=>exact b
  | 1,b=>exact b
  | 2,b=>exact b
  | 3,b=>exact b
  | 4,b=>exact b
  | 5,b=>exact b
  | 6,b=>exact b
  | 7,b=>exact b
  | 8,b=>exact b
  | 9,b=>exact b
  | 10,b=>exact b
  | 11,b=>exact b
  | 12,b=>exact b
  | m+13,b=>simp at b),λw f=>⟨z6 e (o:=13) rfl G3 w f,z6 e (o:=14) rfl G3 w f,z6 e (o:=15) rfl ah3 w f⟩,λS F q f=>⟨U7 q λd c=>z6 e (o:=13) rfl G3 d (f d c),U7 q λd c=>z6 e (o:=14) rfl G3 d (f d c),U7 q λd c=>z6 e (o:=15) rfl ah3 d (f d c)⟩⟩
def I6.im_v{h k:Hp}{a:Addr}{v:Value}{x:Im}(hv:SV h v x)(b:I6 k a v):(∀w,B8 k (m8 w)->P9 Tryz.prog w 111 a v)/\(∀(S:World->Prop) (c:World),S c->(∀w,S w->B8 k (m8 w))->Q7 Tryz.prog S 111 a v):=b.whole hv cb6 cc1 bJ2 ao7
def cK0{h:Hp}{v:Value}{x:Im}{w:World}(N:Nat->Prop)(hv:SV h v x)(hN:∀b,N b->b<w.heap.size):∃a d c,(Instr.alloc 111 true (.tuple #[])).run Tryz.prog w = .ok (.pointer (some a)) d/\(Instr.storeAt 111 (.pointer (some a)) v).run Tryz.prog d = .ok () c/\o6 w c/\I6 (C1 c N) a v:=cp8 hv hN dl9 rfl ao7
def dB5:G0 Tryz.prog 36 111 16 232=true:=by kernel_rfl
def cZ2{h:Hp}{v:Value}{t:St}(hv:SV h v t)(d up:Int)(e:Bool):∃u,B6 Tryz.prog 111 [(0,v),(1,.int .i64 d),(2,.int .i64 up),(3,.bool e)]=some u/\SV h u (⟨t,d,up,e⟩:Im):=by
 obtain⟨r,rfl,g⟩:=hv;have s:r.length=13:=A3.len g;obtain⟨i,j,k,l,m,n,o,p,q,a,b,c,f,rfl⟩:=aR0 s;refine⟨.agg #[i,j,k,l,m,n,o,p,q,a,b,c,f,.int .i64 d,.int .i64 up,.bool e],?_,⟨_,rfl,⟨_,rfl,g⟩⟩⟩;simp[B6,dk7,J9,Instr.fill,Value.cells]
def cT8:∀(m:Nat) (l:List St) (v i:Value) (d n:Int) (e:Bool) (r:List Im) (h:Hp) (w:World),A7 l<=m->R h v l->B0 h w 111 i r->B8 h (m8 w)->r.length+A7 l<=200->0<=d->d<=13 ->
  o9 Tryz.prog 72 #[v,.int .i64 d,.int .i64 n,.bool e,i] w λu o=>(B0 h o 111 u (r++M0 l d n e)/\o8 (A0 i) w o/\E9 w i u):=by
 intro m
 induction m using Nat.strongRecOn with
 | ind m ih=>
 intro l v i d n e r h w a0 hv ho hh hl aV hd;refine p9 [v,.int .i64 d,.int .i64 n,.bool e,i] Tryz.func72 rfl ?_;have hS:=hv.isS;have hn:=hv.vlen;have aX:l.length<=200:=by have:=V9 l;omega
 simp only[i5,n9,simprocAttr];refine D9 [0,1,2,3] (σ:=Nat×Value×List Im) (λs f o=>f 11 = .int .i64 s.1/\f 4=s.2.1/\s.1<=l.length/\B0 h o 111 s.2.1 (r++s.2.2)/\o8 (A0 i) w o/\E9 w i s.2.1 /\
  M0 l d n e=s.2.2++M0 (l.drop s.1) d n e/\s.2.2.length+A7 (l.drop s.1)<=A7 l) (λs=>l.length-s.1) (0,i,[]) ?_ ?_
 .simp only[B3,simprocAttr];exact⟨by trivial,by trivial,eg3 _,by simpa using ho,o8.refl _,λb g=>.inl g,by simp,by simp⟩
 rintro⟨k,uL,c⟩ f w2 hk ⟨j,h4,av,q,I,p,a,z⟩;simp only at j h4 av q p a z;simp only[ei3,B3,simprocAttr]at hk;obtain⟨e0,e1,e2,e3,_⟩:=hk;have T:=q.isS;have aa:=q.vlen;have aZ:(r++c).length<=200:=by rw[ef4];omega
 have K:decide (((r++c).length:Int)<=200)=true:=by simp only[ei8];omega
 rcases ef2 (decide ((k:Int)<(l.length:Int)))with hc|hc;rotate_left
 .simp only[i5,n9,simprocAttr,j,h4,e0,hS,hn,hc];refine o7 Tryz.results72 ?_;simp only[B3,simprocAttr];have W:k=l.length:=by have:=ef7 hc;omega
  rw[W,eo9]at a;simp only[M0,ei5]at a;exact⟨by rw[a];exact q,I,p⟩
 have P:k<l.length:=by have:=ef3 hc;omega
 have H:=hv.inS P;have O:B8 h (m8 w2):=H2 hh I λb g=>ho.free g;have G:=hv.at_ (ef1 P);have A:l.drop k=l[k]::l.drop (k+1):=ej8 P;generalize l[k]=t at G A;rw[A]at a z;rw[A7]at z;rw[M0,dt2]at a;have a1:=az4 t;have af:A3.sz St=13:=rfl;rw[af]at G;obtain⟨sv,aA,aH,_⟩:=G.st_v;obtain⟨vl,va,vt,ve,a3,a2,aE,aD,aU,a5,ah⟩:=G.st;obtain⟨iu,U,au⟩:=cZ2 aA d n e;have ag:=aH w2 O;obtain⟨p1,uM,E,p2,p3,p4,p5⟩:=push (e:=36) dB5 rfl q (x:=iu) (y:=⟨t,d,n,e⟩) au.enc (by omega) (by omega) O;have ae:o8 (A0 i) w E:=I.chain p4 λb g hu=>(p b hu).resolve_right (by omega);have C:E9 w i uM:=λb g=>by
  rcases p5 b g with J|J
  .exact p b J
  .have:=I.size;right;omega
 have aq:B8 h (m8 E):=H2 O p4 λb g=>q.free g;have aY:(r++c++[(⟨t,d,n,e⟩:Im)]).length=r.length+c.length+1:=by simp only[ef4,ei6]
 rcases ef2 (decide (d<=12))with h12|h12;rotate_left
 .rw[if_neg (ef7 h12)]at a;simp only[i5,n9,y4,simprocAttr,j,h4,e0,e1,e2,e3,hS,hn,hc,T,aa,K,H,ag,U,p1,p2,h12];refine nx4 (k+1,uM,c++[⟨t,d,n,e⟩]) ⟨by simpa using p3,ae,C,by rw[a];simp,by simp only[ef4,ei6];omega⟩
 .have V:d<=12:=ef3 h12;rw[if_pos V]at a;have ad:IntKind.i64.wrap (d+1)=d+1:=M2 _ (by omega);have B:=p7 aq (b7 (o6.drew E));have s3:=ah (λo=>o8 (A0 uM) E.drew o) E.drew (o8.refl _) λo hm=>H2 B hm λb g=>p3.free g;obtain⟨t0,_,_,_,_,_,_,t7,_⟩:=s3;simp only[i5,n9,y4,simprocAttr,j,h4,e0,e1,e2,e3,hS,hn,hc,T,aa,K,H,ag,U,p1,p2,h12];refine B9 (λo=>o8 (A0 uM) E.drew o) 15 (A5 [0,1,2,3,4,5,6,7,8,9,10,11,12,13,14]) ?_;simp only[D0,A5,i5,n9,y4,simprocAttr,j,e0,e1,H,ad,t0,t7];have aw:(r++c++[(⟨t,d,n,e⟩:Im)]).length+A7 t.thn<=200:=by omega
  refine t8 (ih (A7 t.thn) (by omega) t.thn vt uM (d+1) t.id false (r++c++[⟨t,d,n,e⟩]) h E.drew (eg6 _) aE (by rw[ei0,<-ei0];exact p3.ext (o6.drew E)) B aw (by omega) (by omega)) ?_;rintro u4 F ⟨ab,Q,Y⟩;refine⟨Q,?_⟩;have M:o8 (A0 i) w E.drew:=ae.trans (o8.up (o6.drew E));have aB:w.heap.size<=E.drew.heap.size:=M.size;have aF:o8 (A0 i) w F:=M.chain Q λb g hu=>(C b hu).resolve_right (by omega);have D:E9 w i u4:=λb g=>by
   rcases Y b g with J|J
   .exact C b J
   .right;omega
  have ar:B8 h (m8 F):=H2 B Q λb g=>p3.free g;have L:=p7 ar (b7 (o6.drew F));have s4:=ah (λo=>o8 (A0 u4) F.drew o) F.drew (o8.refl _) λo hm=>H2 L hm λb g=>ab.free g;obtain⟨y0,_,_,_,_,_,_,_,y8⟩:=s4;have aN:=av9 t.thn (d+1) t.id false;have ax:(r++c++[(⟨t,d,n,e⟩:Im)]++M0 t.thn (d+1) t.id false).length+A7 t.els<=200:=by rw[ef4];omega
  simp only[D0,i5,simprocAttr];refine B9 (λo=>o8 (A0 u4) F.drew o) 15 (A5 [0,1,2,3,4,5,6,7,8,9,10,11,12,13,14]) ?_;simp only[D0,A5,i5,n9,y4,simprocAttr,j,e0,e1,H,ad,y0,y8];refine t8 (ih (A7 t.els) (by omega) t.els ve u4 (d+1) t.id true (r++c++[⟨t,d,n,e⟩]++M0 t.thn (d+1) t.id false) h F.drew (eg6 _) aD (ab.ext (o6.drew F)) L ax (by omega) (by omega)) ?_;rintro u5 w5 ⟨az,X,Z⟩;refine⟨X,?_⟩;have N:o8 (A0 i) w F.drew:=aF.trans (o8.up (o6.drew F));have aC:w.heap.size<=F.drew.heap.size:=N.size;have aG:o8 (A0 i) w w5:=N.chain X λb g hu=>(D b hu).resolve_right (by omega);have S:E9 w i u5:=λb g=>by
   rcases Z b g with J|J
   .exact D b J
   .right;omega
  have aK:=av9 t.els (d+1) t.id true;simp only[D0,i5,n9,simprocAttr,j];refine nx4 (k+1,u5,c++(⟨t,d,n,e⟩::(M0 t.thn (d+1) t.id false++M0 t.els (d+1) t.id true))) ⟨by simpa using az,aG,S,by rw[a];simp,by simp only[ef4,ei2];omega⟩
def bS3(h:Hp)(v:Value)(q:Pr)(w:World)(hv:SV h v q)(k:B8 h (m8 w))(hb:A7 q.body<=200):
  o9 Tryz.prog 44 #[v] w λu i=>(B0 h i 111 u (M0 q.body 1 0 false)/\(∀b,A0 u b->w.heap.size<=b)/\o6 w i):=by
 refine p9 [v] Tryz.func44 rfl ?_;obtain⟨a,j,e,c,d⟩:=cE2 (w:=w) (λ_=>False) hv (λ_ h=>h.elim);obtain⟨o,p,n,r,_,_,g,_,m,_⟩:=I6.pr hv d;simp only[i5,n9,simprocAttr,e,m j (A8 _ _)];refine t8 (cT8 (A7 q.body) q.body n (.slice none 0 0) 1 0 false [] h j (eg6 _) g (B0.nil _ _ _) (p7 k (b7 c)) (by simpa using hb) (by omega) (by omega)) ?_;rintro u s ⟨l,hm,f⟩;simp only[i5,simprocAttr];refine o7 Tryz.results44 ?_;simp only[B3,simprocAttr];exact⟨by simpa using l,λb hb=>(f b hb).elim (λh=>absurd h D5) λh=>ef9 c.size h,c.trans (hm.weaken λ_ _ h=>absurd h D5)⟩
def cI6{P:Program}{b:Func}{R:Value->World->Prop}{f:Fr}{w:World}{v:Value}{a t s:Nat}{ty:TypeId}{ad:Addr}(h:b.results=#[.cell a ty,.tmp t,.tmp s])(d:f a = .pointer (some ad))(e:(Instr.loadAt ty (.pointer (some ad))).run P w = .ok v w)(c:R (.tuple #[v,f t,f s]) w):bk5 P b R .ret f w:=by
 refine⟨[v,f t,f s],?_,c⟩;rw[h];refine⟨?_,rfl,rfl,trivial⟩;show(do loadVar ty (<-asAddr (f a)):Sem Value).run P w = .ok v w;rw[d];exact e
def ap5:Array Value:=#[.int .i64 0,.int .i64 0,.slice none 0 0,p6 e0,p6 e0,.int .i64 0,.int .i64 0,p6 e0,.slice none 0 0,.bool false,.slice none 0 0,.slice none 0 0,.slice none 0 0,.int .i64 0,.int .i64 0,.bool false]
def cK7:H3 Tryz.prog 111=some (.agg ap5):=dl9
def cM9:B6 Tryz.prog 111 []=some (.agg ap5):=by
 have h:=cK7
 first
 | (simp[B6,dk7,J9,Instr.fill];done)
 | rfl
def dG8(h:Hp):SV h (.agg ap5) imZ:=
 ⟨_,rfl,_,rfl,bC1.2 ⟨.slice none 0 0,[.int .i64 0,.int .i64 0,p6 e0,.slice none 0 0],.slice none 0 0,.slice none 0 0,.slice none 0 0,rfl,aN0 _,bC0.2 ⟨_,rfl,aN0 _⟩,aN0 _,aN0 _,aN0 _⟩⟩
def dt1{h:Hp}{w c d f:World}{M:Nat->Prop}(j:B8 h (m8 w))(k:w.heap.size<=c.heap.size)(hm:o8 M d f)(g:∀b,M b->b<c.heap.size):B8 (aW6 h c d) (aW6 h w f):=λb o e=>by
 unfold aW6 at e ⊢;split at e
 .have i:b<w.heap.size:=(ef5.1 (show w.heap[b]?=some o from j b o e)).1;rw[if_pos i];exact e
 .have a:b<d.heap.size:=(ef5.1 e).1;rw[if_neg (by omega),hm.block b a λh=>by have:=g b h;omega];exact e
def cX2(h:Hp)(v:Value)(p:Pg)(id:Int)(w:World)(hv:SV h v p)(hh:B8 h (m8 w))(hb:∀q∈p.procs,A7 q.body<=200)(bg:p.procs.length<=1000000):
  o9 Tryz.prog 57 #[v,.int .i64 id] w λu o=>(∃iv nv bv,u = .tuple #[iv,p6 nv,bv]/\SV (aW6 h w o) iv ((cF8 p id).getD imZ)/\o6 w o/\bx0 p id nv):=by
 refine p9 [v,.int .i64 id] Tryz.func57 rfl ?_;obtain⟨c,w1,aD,i,ak⟩:=W9 (w:=w) (λ_=>False) hv (λ_ h=>h.elim);obtain⟨vg,vp,bi,I,aR,_⟩:=I6.pg hv ak;have hS:=I.isS;have hn:=I.vlen;have hz:=cK7;obtain⟨S,_⟩:=aA5 (P:=Tryz.prog) (w:=w1) (T:=111) hz (by rw[ao7];rfl) (cs:=ap5) (by rw[ao7];rfl) (by simp[ap5,p6,Value.oneCell']);have s:=o6.alloc w1 (.cells (Value.agg ap5).cells 111);have B:=ej0 w1 (.cells (Value.agg ap5).cells 111);generalize bj:w1.alloc (.cells (Value.agg ap5).cells 111)=w2 at S s B;have l2:=aR w2 (p7 (A8 _ _) (b7 s));have H:w1.heap.size<w2.heap.size:=(ef5.1 B).1;generalize a3:w1.heap.size=A at S B H;simp only[i5,n9,simprocAttr,aD,S,l2,hS,hn];refine A6 [1,4,12,13] (σ:=Nat) (λk f o=>f 14 = .int .i64 k/\k<=p.procs.length/\(p.procs.take k).findSome? (λq=>al3 (M0 q.body 1 0 false) id)=none/\o6 w2 o) (λk=>p.procs.length-k) 0 ?_ ?_
 .exact⟨rfl,eg3 _,by simp,o8.refl _⟩
 rintro k f w3 ⟨e1,e4,ac,ae,_⟩ ⟨O,aM,r,e⟩;simp only[i5,n9,simprocAttr,O,ae];refine y5 (λD=>?_) ?_;rotate_left
 .intro aL;have aE:=(e.block A H (λh=>h)).trans B;obtain⟨w4,q1,q2,q3⟩:=ab4 (P:=Tryz.prog) (T:=111) (cs:=ap5) aE hz (by rw[ao7];rfl) (by rw[ao7];rfl) (by simp[ap5,p6,Value.oneCell']);rw[aL,eg4]at r;simp only[i5,simprocAttr,e4,cM9,q1];refine cI6 Tryz.results57 (ad:=⟨A,0,none⟩) (by simp only[B3,simprocAttr];exact e4) (Y5 q2 cb6 cc1 bJ2 (by rw[ao7];rfl)) ?_;refine⟨_,e0,_,rfl,?_,?_,_,eg6 _,by rw[eg4];exact r,λh=>by omega⟩
  .unfold cF8;rw[r];exact dG8 _
  .exact o8.ext_of (i.trans (s.trans e)) q3 λb hb=>by have:=i.size;omega
 have aJ:B8 h (m8 w3):=p7 hh (b7 (i.trans (s.trans e)));have C:=I.inS D;obtain⟨sv,a,g⟩:=F5 (P:=Tryz.prog) (t:=75) I (aJ) (ef1 D) at8 at9 ar9 Q9;rw[Q9]at g;have am:=hb _ (eg2 D);have V:=λx=>cu5 (p:=p) (id:=id) (x:=x) D r;have W:=cu4 D r;have U:∀x,al3 (M0 p.procs[k].body 1 0 false) id=some x->bx0 p id p.procs[k].name:=λx hx=>⟨k,aM,r,λ_=>⟨⟨x,hx⟩,rfl⟩⟩;generalize p.procs[k]=q at a am V W U;have ap:A<w3.heap.size:=el8 H e.size;obtain⟨d,wz,w4,ah,aO,y,aj⟩:=aL4 (w:=w3) (λb=>b=A) a λb hb=>by omega
 obtain⟨aS,_⟩:=I6.pr_v a aj;have N:=(s.trans e).trans y;simp only[i5,n9,y4,simprocAttr,O,ac,C,g,ah,aO,aS w4 (A8 _ _)];have Y:B8 h (m8 w4):=p7 hh (b7 (i.trans N));refine t8 (bS3 h sv q w4 a Y am) ?_;rintro u w5 ⟨ho,aH,J⟩;have aN:=av9 q.body 1 0 false;generalize M0 q.body 1 0 false=l at ho V W aN U;have a1:A<w4.heap.size:=el8 ap y.size;have hR:R (aW6 h w4 w5) u l:=ho.ro (bm1 Y) λb hb=>ci6 (aH b hb);simp only[i5,n9,simprocAttr,hR.isS,hR.vlen];refine A6 [1,4,8,12,13,14,19,20] (σ:=Nat) (λj f o=>f 21 = .int .i64 j/\j<=l.length/\al3 (l.take j) id=none/\o6 w5 o) (λj=>l.length-j) 0 ?_ ?_
 .exact⟨rfl,eg3 _,rfl,o8.refl _⟩
 rintro j f2 w6 ⟨g1,g4,g8,az,aA,af,ag,aB,_⟩ ⟨Q,bd,G,z⟩;rw[e1]at g1;rw[e4]at g4;rw[ac]at az;rw[ae]at aA;rw[O]at af;have be:l.length<=1000000000:=by omega
 simp only[i5,n9,simprocAttr,Q,aB];refine y5 (λm=>?_) ?_;rotate_left
 .intro aK;rw[aK,eg4]at G;simp only[i5,n9,simprocAttr,af];exact T4 (k+1) ⟨W G,e.trans (y.trans (J.trans z))⟩
 have aq:=a;clear a C g;have C:=hR.inS m;obtain⟨sv,a,g⟩:=F5 (P:=Tryz.prog) (t:=111) hR (p7 (cG4 Y J) (b7 z)) (ef1 m) cb6 cc1 bJ2 ao7;rw[ao7]at g;have X:=cu7 (id:=id) m G;have ao:=cu6 (id:=id) m G;generalize l[j]=x at a X ao;have n:=a;have a2:A<w6.heap.size:=by have:=y.size;have:=J.size;have:=z.size;omega
 obtain⟨d2,bo,F,K,M,Z,L⟩:=cK0 (w:=w6) (λb=>b=A) n λb hb=>by omega
 obtain⟨us,aP,al,_,_⟩:=I6.im n L;obtain⟨_,_,_,_,_,_,_,_,_,_,_,au,_⟩:=I6.st aP al;have l7:=(au F (A8 _ _)).1;rcases ef2 (decide (x.s.id=id))with hd|hd;rotate_left
 .simp only[i5,n9,y4,simprocAttr,Q,ag,C,g,K,M,l7,g1,hd];exact T4 (j+1) ⟨ao (ef7 hd),z.trans Z⟩
 .simp only[i5,n9,y4,simprocAttr,Q,ag,C,g,K,M,l7,g1,hd];have E:o6 w4 F.drew:=J.trans (z.trans (Z.trans (o6.drew F)));have aF:=(((e.trans y).trans E).block A H (λh=>h)).trans B;obtain⟨_,_,_,_,_,_,_,_,_,aW⟩:=I6.pr aq aj;obtain⟨_,aV⟩:=I6.im_v n L;have s1:=aW (λo=>o8 (λb=>b=A) F.drew o) F.drew (o8.refl _) λo hm=>D8 ((o8.up E).trans hm);have s2:=aV (λo=>o8 (λb=>b=A) F.drew o) F.drew (o8.refl _) λo hm=>D8 ((o8.up (o6.drew F)).trans hm);refine B9 (λo=>o8 (λb=>b=A) F.drew o) 6 (A5 [0,1,2,3,4,5]) ?_;obtain⟨cs,rfl,he⟩:=n;have an:cs.length=16:=A3.len he;obtain⟨w8,q1,q2,q3⟩:=ab4 (P:=Tryz.prog) (T:=111) (cs:=cs.toArray) aF hz (by rw[ao7];rfl) (by rw[ao7];simpa using an) (λu hu=>A3.one he u (by simpa using hu));simp only[D0,A5,i5,n9,simprocAttr,g8,g4,s1,s2,q1,F2];refine⟨q3,?_⟩;refine cI6 Tryz.results57 (ad:=⟨A,0,none⟩) (by simp only[B3,simprocAttr];exact g4) (Y5 q2 cb6 cc1 bJ2 (by rw[ao7];simpa using an.symm)) ?_;have ar:o6 w5 F.drew:=z.trans (Z.trans (o6.drew F));refine⟨_,q.name,_,rfl,?_,?_,U _ (X (ef3 hd))⟩
  .rw[V _ (X (ef3 hd))];exact⟨cs,rfl,A3.mono (dt1 hh (i.trans N).size ((o8.up ar).trans q3) λb hb=>by omega) he⟩
  .exact o8.ext_of (i.trans (s.trans ((e.trans y).trans E))) q3 λb hb=>by have:=i.size;omega
def bq4(p:Pg):List Im:=p.procs.flatMap λq=>M0 q.body 1 0 false
def dp8{p:Pg}(hm:M8 p=true):(bq4 p).map (·.s)=(d9 p).l.map (·.s):=by
 unfold M8 at hm;rw[eh5]at hm;have:=de1 p.procs ⟨p,[],[],[]⟩ 0 0 hm.2;exact(this.trans (ep1 _)).symm
def bM9{p:Pg}(hm:M8 p=true):(bq4 p).length=(d9 p).l.length:=by
 have:=eg8 List.length (dp8 hm);simpa using this
def ck8:∀{l:List Nat} {x:Nat},x∈l->x<=l.sum
 | a::l,x,h=>by
  rw[eq8];rcases eh0.1 h with rfl|h
  .omega
  .have:=ck8 h;omega
def bG0(v:Value)(p:Pg)(w:World)(hv:SV (m8 w) v p)(m:M8 p=true):
  o9 Tryz.prog 15 #[v] w λu C=>(R (m8 C) u (bq4 p)/\o6 w C):=by
 refine p9 [v] Tryz.func15 rfl ?_;have D:(bq4 p).length<=200:=by rw[bM9 m];exact H7 m
 have Q:bB0 p<=200:=by rw[<-aw4];exact H7 m
 have ah:=(T0 m).2;obtain⟨c,J,O,Y,E⟩:=Q4 hv (n7 _);obtain⟨vg,vp,al,x,Z,_⟩:=E.pg;simp only[i5,n9,simprocAttr,O,Z J (n7 _),x.isS,x.vlen];refine A6 [1,7,8] (σ:=Nat×Value) (λs f C=>f 9 = .int .i64 s.1/\f 3=s.2/\s.1<=p.procs.length/\B0 (aq7 C s.2) C 111 s.2 ((p.procs.take s.1).flatMap λq=>M0 q.body 1 0 false)/\o6 J C/\∀b,A0 s.2 b->J.heap.size<=b) (λs=>p.procs.length-s.1) (0,.slice none 0 0) ?_ ?_
 .exact⟨rfl,rfl,eg3 _,B0.nil _ _ _,o8.refl _,λb F=>absurd F D5⟩
 rintro⟨k,uL⟩ f w2 ⟨e1,e7,e8,_⟩ ⟨K,L,V,g,y,j⟩;simp only at K L V g y j;simp only[i5,n9,simprocAttr,K,e8];refine y5 (λl=>?_) ?_;rotate_left
 .intro U;rw[U,eg4]at g;simp only[i5,simprocAttr,L];exact o7 Tryz.results15 ⟨g.rw_ (be9 _ _),Y.trans y⟩
 have T:=x.inS l;obtain⟨sv,n,H⟩:=F5 (P:=Tryz.prog) (t:=75) x (b7 y) (ef1 l) at8 at9 ar9 Q9;rw[Q9]at H;have r:(p.procs.take (k+1)).flatMap (λq=>M0 q.body 1 0 false)=(p.procs.take k).flatMap (λq=>M0 q.body 1 0 false)++M0 p.procs[k].body 1 0 false:=by
  rw[ef8 l,eo8];simp
 have a:((p.procs.take (k+1)).flatMap λq=>M0 q.body 1 0 false).length<=200:=by
  refine ef9 ?_ D;unfold bq4
  conv=>rhs;rw[<-ej2 (k+1) p.procs]
  rw[eo8,ef4];omega
 rw[r]at a;have G:A7 p.procs[k].body<=200:=ef9 (ck8 (eh4.2 ⟨p.procs[k],eg2 l,rfl⟩:A7 p.procs[k].body∈p.procs.map λf=>A7 f.body)) Q;generalize p.procs[k]=q at n r a G;generalize(p.procs.take k).flatMap (λq=>M0 q.body 1 0 false)=pre at g r a;obtain⟨d,wz,w3,M,X,B,N⟩:=aL4 (w:=w2) (λ_=>False) n (λ_ h=>h.elim);have z:=y.trans B;simp only[i5,n9,y4,simprocAttr,K,e7,L,T,H,M,X,(I6.pr_v n N).1 w3 (A8 _ _)];refine t8 (bS3 (m8 J) sv q w3 n (b7 z) G) ?_;rintro u w4 ⟨ho,S,I⟩;have i:=z.trans I;have W:=g.but (B.trans I);have hu:=ho.beside (w:=w4) (v:=uL) (λb o e=>by
  rw[ad5 λh=>by have:=j b h;have:=(ef5.1 (show J.heap[b]?=some o from e)).1;omega];exact b7 i b o e) (λb F h=>by have:=g.lt h;have:=S b F;have:=B.size;omega)
 rw[ef4]at a;obtain⟨v',w5,p2,p3,p4,p5⟩:=W2 (P:=Tryz.prog) (e:=36) dB5 rfl W hu (by omega) (by omega) (be9 _ _);have A:decide ((200:Int)<(((pre++M0 q.body 1 0 false).length:Nat):Int))=false:=el3 (by rw[ef4];omega);have aj:=i.size;simp only[i5,n9,simprocAttr,K,p2,p3.isS,p3.vlen,A];refine nx4 (k+1,v') ⟨?_,?_,λb F=>?_⟩
 .simp only[];rw[r];exact p3.rebase (p7 (cQ7 p4 p5) (be9 _ _))
 .exact o8.ext_of i p4 j
 .rcases p5 b F with h|h
  .exact j b h
  .omega
def dt3(v:Value)(l:List A9)(x:A9)(w:World)(hv:R (m8 w) v l)(s:l.length<=1000000000):
  o9 Tryz.prog 31 #[v,p6 x] w λu n=>(u = .bool (l.contains x)/\o6 w n):=by
 refine p9 [v,p6 x] Tryz.func31 rfl ?_;simp only[i5,n9,simprocAttr,hv.isS,hv.vlen];refine A6 [0,1,6,7] (σ:=Nat) (λi f n=>f 8 = .int .i64 i/\i<=l.length/\(∀y∈l.take i,y≠x)/\o6 w n) (λi=>l.length-i) 0 ?_ ?_
 .simp only[B3,simprocAttr];exact⟨by trivial,eg3 _,λy h=>by simp at h,o8.refl _⟩
 rintro i f t ⟨d,o,r,p,_⟩ ⟨k,q,c,b⟩;simp only[i5,n9,simprocAttr,k,p];refine y5 (λa=>?_) ?_;rotate_left
 .intro m;rw[m,eg4]at c;simp only[i5,simprocAttr];refine o7 Tryz.results31 ?_;simp only[B3,simprocAttr];refine⟨?_,b⟩;have:l.contains x=false:=by
   rw[ep7];exact λh=>c x (eg7.1 h) rfl
  rw[this]
 have e:=hv.inS a;have g:=ldS hv (b7 b) a;rcases ef2 (decide (l[i]=x))with hq|hq
 .simp only[i5,n9,y4,simprocAttr,k,d,o,e,g,hq];refine o7 Tryz.results31 ?_;simp only[B3,simprocAttr];refine⟨?_,b⟩;rw[eg7.2 (ef3 hq ▸ eg2 a)]
 .simp only[i5,n9,y4,simprocAttr,k,d,o,e,g,hq];refine T4 (i+1) ⟨λy j=>?_,b⟩;rw[ef8 a,eg1,eh2]at j;rcases j with j|rfl
  .exact c y j
  .exact ef7 hq
section
variable {p:Pg}
def cF9(hm:M8 p=true)(hw:B7 p<=1000000){k:Nat}(h:k<p.procs.length){id:Int}:(∃x,al3 (M0 p.procs[k].body 1 0 false) id=some x)↔∃it∈(d9 p).of k,it.s.id=id:=by
 obtain⟨m,l,g⟩:=bh2 hm h;have a:(M0 p.procs[k].body 1 0 false).map (·.s)=((d9 p).of k).map (·.s):=by
  obtain⟨n,_,f⟩:=V2 p hw k h;rw[f];exact bD6 _ 12 _ _ 1 0 false _ _ _ _ _ (aB3 g).2.2.2 (by omega)
 constructor
 .rintro⟨x,i⟩;have b:x.s∈((d9 p).of k).map (·.s):=by rw[<-a];exact eh4.2 ⟨x,List.mem_of_find?_eq_some i,rfl⟩
  obtain⟨it,c,d⟩:=eh4.1 b;have e:=List.find?_some (p:=λx:Im=>decide (x.s.id=id)) i;exact⟨it,c,by rw[d];exact ef3 e⟩
 .rintro⟨it,b,c⟩;have d:it.s∈(M0 p.procs[k].body 1 0 false).map (·.s):=by rw[a];exact eh4.2 ⟨it,b,rfl⟩
  obtain⟨x,e,j⟩:=eh4.1 d;cases hf:al3 (M0 p.procs[k].body 1 0 false) id with
  | some y=>exact⟨y,rfl⟩
  | none=>
   have:=ep4.1 hf x e;simp only[ei8]at this;rw[j]at this;exact absurd c this
def cv5(hm:M8 p=true)(hw:B7 p<=1000000){id:Int}{l:A9}(h:bx0 p id l){i:Nat}(j:i<p.procs.length)(b:(d9 p).it id∈(d9 p).of i)(e:((d9 p).it id).s.id=id):l=p.procs[i].name:=by
 obtain⟨k,r,f,o⟩:=h;obtain⟨x,s⟩:=(cF9 hm hw j).2 ⟨_,b,e⟩;have q:k<=i:=by
  rcases ej6 i k with h|h
  .have c:p.procs[i]∈p.procs.take k:=by
    have:(p.procs.take k)[i]'(by rw[eg0];omega)=p.procs[i]:=List.getElem_take;rw[<-this];exact eg2 _
   have:=List.findSome?_eq_none_iff.1 f _ c;rw[s]at this;cases this
  .exact h
 have d:k<p.procs.length:=by omega
 obtain⟨n,rfl⟩:=o d;obtain⟨t,g,m⟩:=(cF9 hm hw d).1 n;obtain⟨z,u⟩:=I1 hm hw k d;have a:=(bt3 hm (aW9 u g)).2.1;rw[m]at a;rw[a]at b;have v:=au6 p hw i j _ b;have w:=au6 p hw k d _ g;obtain rfl:k=i:=by omega
 rfl
def cf8{id:Int}(h:id<1\/(d9 p).l.length<id):(i4 p).crit id=none:=by
 unfold Bk.crit;rw[if_neg];rintro⟨b,a,_⟩;have a:id<=(d9 p).l.length:=a;omega
end
def av0{p:Pg}{id:Int}(a:E0 p=true)(h:(i4 p).crit id=none):X3 p id=(ah5,9):=by
 unfold X3;rw[if_neg (by rw[a];simp),h]
def cc4{p:Pg}{id:Int}{y:Vx}(a:E0 p=true)(h:(i4 p).crit id=some y):X3 p id=(y,0):=by
 unfold X3;rw[if_neg (by rw[a];simp),h]
def dE4{p:Pg}(hm:M8 p=true)(hw:B7 p<=1000000):∀y∈p.procs,A7 y.body<=200:=λy b=>by
 obtain⟨i,a,rfl⟩:=List.getElem_of_mem b;obtain⟨x,c⟩:=I1 hm hw i a;have:=c.ok.len;have:=H7 hm;omega
def aN9(wy:Wy)(x:Nat)(k:Nat)(l:List Int):Prop:=∀id,id∈l↔((x:Int)<id/\id<(x:Int)+k/\wy.lives id=true)
section
variable {p:Pg} {i x y k:Nat} {wy:Wy} {l:List Int}
def ck2(h:WyOk p i x y wy)(a:1<=k)(b:(k:Int)<wy.n-1):wy.lives ((x:Int)+k)=wy.live.getD k false/\wy.place k=(x:Int)+k:=by
 have c:=h.n;constructor
 .unfold Wy.lives atB;rw[h.index,if_neg (by omega),if_neg (by omega),if_pos (by omega)]
  congr 1
  omega
 .rw[h.place,if_neg (by omega),if_neg (by omega)];omega
def aN9.nil:aN9 wy x 1 []:=λid=>⟨λh=>by simp at h,λh=>by omega⟩
def aN9.step(h:aN9 wy x k l)(f:WyOk p i x y wy)(g:1<=k)(j:(k:Int)<wy.n-1):(wy.live.getD k false=true->aN9 wy x (k+1) (l++[(x:Int)+k]))/\(wy.live.getD k false=false->aN9 wy x (k+1) l):=by
 obtain⟨e,_⟩:=ck2 f g j;constructor
 .intro d id;rw[eg1,h,eh2];constructor
  .rintro(⟨a,b,c⟩|rfl)
   .exact⟨a,by omega,c⟩
   .exact⟨by omega,by omega,by rw[e,d]⟩
  .rintro⟨a,b,c⟩;by_cases hid:id=(x:Int)+k
   .exact .inr hid
   .exact .inl ⟨a,by omega,c⟩
 .intro d id;rw[h];constructor
  .rintro⟨a,b,c⟩;exact⟨a,by omega,c⟩
  .rintro⟨a,b,c⟩;refine⟨a,?_,c⟩;rcases Int.lt_or_le id ((x:Int)+k)with h|h
   .exact h
   .obtain rfl:id=(x:Int)+k:=by omega
    rw[e,d]at c;cases c
end
def cW1(v:Value)(p:Pg)(n:A9)(i:Nat)(w:World)(hv:SV (m8 w) v p)(hw:B7 p<=1000000)(hb:cr2 p n i):
  o9 Tryz.prog 58 #[v,p6 n] w λu C=>(∃b,u = .pointer (some b)/\At (m8 C) b (D7 (d9 p) i)/\o6 w C):=by
 refine p9 [v,p6 n] Tryz.func58 rfl ?_;obtain⟨c,D,o,r,g⟩:=Q4 hv (n7 _);obtain⟨B,j,d,_⟩:=g.pg_v;have y:=hb.1;have z:=hb.2.2;have q:=G6 y;obtain⟨x,G⟩:=I1 q.may hw i z;have h:(d9 p).p.procs.length<=1000000000:=by
  rw[K5];have:=(T0 q.may).2;omega
 have A:(d9 p).pr n=(i:Int):=by unfold Sh.pr;rw[K5];exact hb.2.1
 simp only[i5,n9,simprocAttr,o,d D (n7 _)];refine B2 (S5 B p D j hw) (λE e=>?_);simp only[i5,n9,simprocAttr,y,d E (b7 e)];refine t8 (aj1 B p E (j.mono (b7 e)) hw) ?_;rintro u H ⟨a,rfl,l,s⟩;simp only[i5,simprocAttr];refine B2 (ai7 a (d9 p) n H l h) (λI f=>?_);rw[A];have F:decide ((i:Int)<0)=false:=by simp
 simp only[i5,n9,simprocAttr,F];refine B2 (ai7 a (d9 p) n I (l.mono (b7 f)) h) (λJ k=>?_);rw[A];simp only[i5,simprocAttr];refine t8 (cC4 a p i _ _ J (l.mono (b7 (f.trans k))) q hw z G) ?_;rintro u K ⟨b,rfl,m,t⟩;simp only[i5,simprocAttr];exact o7 Tryz.results58 ⟨b,rfl,m,r.trans (e.trans (s.trans ((f.trans k).trans t)))⟩
def cr4(v:Value)(p:Pg)(id:Int)(w:World)(hv:SV (m8 w) v p)(hb:∀q∈p.procs,A7 q.body<=200)(i:p.procs.length<=1000000):
  o9 Tryz.prog 30 #[v,.int .i64 id] w λu y=>(∃n,u=p6 n/\bx0 p id n/\o6 w y):=by
 refine p9 [v,.int .i64 id] Tryz.func30 rfl ?_;obtain⟨c,o,g,f,e⟩:=W9 (w:=w) (λ_=>False) hv (λ_ h=>h.elim);have t:=(I6.pg_v hv e).1 o (A8 _ _);simp only[i5,n9,simprocAttr,g,t];refine t8 (cX2 (m8 w) v p id o hv (b7 f) hb i) ?_;rintro _ z ⟨B,x,A,rfl,k,l,s⟩;obtain⟨d,D,C,a,j,m,r⟩:=cK0 (w:=z) (λ_=>False) k λb hb=>hb.elim;simp only[i5,simprocAttr,a,j];exact o7 Tryz.results30 ⟨x,rfl,s,f.trans (l.trans m)⟩
def dG1(x:Option Addr):C4 Tryz.prog .eql 114 (.pointer x) (.pointer none)=some (.bool x.isNone):=aO5 rfl (by kernel_rfl)
def do9(wy:Wy)(x y:Nat)(l:List Int):Prop:=∀id,id∈l↔((x:Int)<id/\id<=(y:Int)/\wy.lives id=true)
def cf1(v:Value)(p:Pg)(n:A9)(i x y:Nat)(w:World)(hv:SV (m8 w) v p)(hw:B7 p<=1000000)(hb:cr2 p n i)(I:as2 p i x y):
  o9 Tryz.prog 33 #[v,p6 n] w λu F=>(∃l,R (m8 F) u l/\do9 (D7 (d9 p) i) x y l/\l.length<=1000001/\o6 w F):=by
 refine p9 [v,p6 n] Tryz.func33 rfl ?_;obtain⟨c,w1,N,E,s⟩:=W9 (w:=w) (λ_=>False) hv (λ_ h=>h.elim);have l1:=(I6.pg_v hv s).1 w1 (A8 _ _);simp only[i5,n9,simprocAttr,N,l1];refine t8 (cW1 v p n i w1 (hv.mono (b7 E)) hw hb) ?_;rintro _ w2 ⟨b,rfl,j,V⟩;have d:=O8 I;generalize D7 (d9 p) i=G at j d;have Q:=d.live;have hn:=d.n;have Z:=I.ok.le;have aa:=I.ok.len;have Y:=I.ok.fit;have D:=E.trans V;obtain⟨_,_,vl,_,_,C,W,_⟩:=j.wy;have U:IntKind.i64.wrap (G.n-1)=((y-x+1:Nat):Int):=by rw[M2 _ (by omega)];omega
 simp only[i5,n9,simprocAttr,dG1];refine A6 [5] (σ:=Nat×Value×List Int) (λt f F=>f 7 = .int .i64 t.1/\f 6=t.2.1/\(1<=t.1/\t.1<=y-x+1)/\B0 (m8 w2) F 3 t.2.1 t.2.2/\aN9 G x t.1 t.2.2/\t.2.2.length<=t.1/\o6 w2 F) (λt=>y-x+1-t.1) (1,.slice none 0 0,[]) ?_ ?_
 .exact⟨rfl,rfl,⟨eg6 _,by simp⟩,B0.nil _ _ _,aN9.nil,eg3 _,o8.refl _⟩
 rintro⟨k,u,l⟩ f w3 ⟨L,_⟩ ⟨r,H,O,B,M,S,a⟩;simp only at r H O B M S;have X:=W w3 (b7 a);simp only[i5,n9,simprocAttr,r,L,X,U];refine y5 (λaj=>?_) ?_ (by omega);rotate_left
 .intro ah;simp only[i5,simprocAttr,H];refine o7 Tryz.results33 ⟨l,B.rw_ (b7 a),λid=>?_,by omega,D.trans a⟩;rw[M];constructor
  .rintro⟨J,a2,K⟩;exact⟨J,by omega,K⟩
  .rintro⟨J,a2,K⟩;exact⟨J,by omega,K⟩
 have m:k<G.live.length:=by omega
 have z:=C.inS m;have A:=ldB C (b7 a) m;obtain⟨o,q⟩:=M.step d.toWyOk O.1 (by omega);have T:=(ck2 d.toWyOk O.1 (by omega)).2;rw[List.getD,ef1 m]at o q;simp only[ek4]at o q;cases hq:G.live[k]
 .simp only[i5,n9,y4,simprocAttr,r,H,L,X,z,A,hq];exact⟨(k+1,u,l),by simp only[];omega,by simp only[];rw[H8 k],by trivial,by simp only[];omega,B,q hq,by simp only[];omega,a⟩
 .simp only[i5,n9,y4,simprocAttr,r,H,L,X,z,A,hq];refine B2 (ad3 b G p i x y k w3 (j.mono (b7 a)) d.toWyOk (by omega)) (λw4 g=>?_);rw[T];obtain⟨p1,u5,w5,p2,p3,p4,p5⟩:=push (P:=Tryz.prog) (t:=24) (e:=24) V4 rfl (B.ext g) (x:=.int .i64 ((x:Int)+k)) (y:=(x:Int)+k) rfl (by omega) (by omega) (b7 (a.trans g));simp only[Value.cells]at p1 p2;simp only[i5,n9,simprocAttr,r,p1,p2];exact⟨(k+1,u5,l++[(x:Int)+k]),by simp only[];omega,by simp only[];rw[H8 k],by trivial,by simp only[];omega,p3,o hq,by simp;omega,(B.ext g).ext2 (a.trans g) p4⟩
def bz4(v:Value)(p:Pg)(id:Int)(w:World)(hv:SV (m8 w) v p):o9 Tryz.prog 7 #[v,.int .i64 id] w λu w'=>(u = .bool true/\o6 w w'):=by
 refine p9 [v,.int .i64 id] Tryz.func7 rfl ?_;obtain⟨c,w0,av,j,Y⟩:=Q4 hv (n7 _);obtain⟨C,g,f,_⟩:=Y.pg_v;simp only[i5,n9,simprocAttr,av];refine B2 (az5 w0) (λw2 T=>?_);simp only[i5,n9,simprocAttr,f w2 (b7 T)];refine B2 (aN3 C p w2 (g.mono (b7 T))) (λw3 aA=>?_);have o:=T.trans aA;rcases ef2 (decide (B7 p<=20000))with h1|h1;rotate_left
 .simp only[i5,n9,simprocAttr,h1];exact o7 Tryz.results7 ⟨rfl,j.trans o⟩
 have A:B7 p<=1000000:=ef9 (ef3 h1) (by decide);simp only[i5,n9,simprocAttr,h1,f w3 (b7 o)];refine B2 (S5 C p w3 (g.mono (b7 o)) A) (λw4 aB=>?_);have k:=o.trans aB;have l4:=f w4 (b7 k);have E:=λw0 a b=>bl8 w0 a b ah5 ah5;have aP:decide (ah5=ah5)=true:=ek5 rfl;rcases ef2 (E0 p)with hR|hR;rotate_left
 .simp only[i5,simprocAttr,hR,l4];refine t8 (as7 C id w4 (g.mono (b7 k)) A) ?_;rintro _ w5 ⟨rfl,U⟩;have az:X3 p id=(ah5,1):=by unfold X3;rw[if_pos hR]
  rw[az];obtain⟨d,wz,w6,K,S,V,D⟩:=aL3 (SV.ofN (m8 w5) ah5) (n7 _);obtain⟨uV,hV,m,_⟩:=D.vx_v;obtain rfl:=hV.N;have G:=k.trans (U.trans V);simp only[i5,simprocAttr,K,S,f w6 (b7 G)];refine B2 (S5 C p w6 (g.mono (b7 G)) A) (λw7 L=>?_);simp only[i5,n9,simprocAttr,hR,m w7 (b7 L),aj4];simp only[i5,n9,simprocAttr,L8,p8.cells,E];exact o7 Tryz.results7 ⟨rfl,j.trans (G.trans L)⟩
 have B:=G6 hR;have aw:=dE4 B.may A;simp only[i5,simprocAttr,hR,l4];refine t8 (bG0 C p w4 (g.mono (b7 k)) B.may) ?_;rintro ua w5 ⟨M,U⟩;have q:=k.trans U;rcases ef2 (decide ((40:Int)<((bq4 p).length:Int)))with h2|h2
 .simp only[i5,n9,simprocAttr,M.isS,M.vlen,h2];exact o7 Tryz.results7 ⟨rfl,j.trans q⟩
 simp only[i5,n9,simprocAttr,M.isS,M.vlen,h2,f w5 (b7 q)];refine t8 (as7 C id w5 (g.mono (b7 q)) A) ?_;rintro _ w6 ⟨rfl,V⟩;generalize J:X3 p id=F;obtain⟨y,e⟩:=F;obtain⟨d,wz,w7,K,S,L,D⟩:=aL3 (SV.ofN (m8 w6) y) (n7 _);obtain⟨uV,hV,m,_⟩:=D.vx_v;obtain rfl:=hV.N;have H:=q.trans (V.trans L);simp only[i5,simprocAttr,K,S,f w7 (b7 H)];refine B2 (S5 C p w7 (g.mono (b7 H)) A) (λw8 W=>?_);have I:=H.trans W;simp only[i5,n9,simprocAttr,hR,f w8 (b7 I)];refine t8 (cr4 C p id w8 (g.mono (b7 I)) aw (by have:=(T0 B.may).2;omega)) ?_;rintro _ w9 ⟨nm,rfl,aa,X⟩;have r:=I.trans X;have K:=bM9 B.may;have aH:=H7 B.may;rcases ef2 (decide (id<1))with k1|k1
 .rw[av0 hR (cf8 (.inl (ef3 k1)))]at J;cases J;simp only[i5,n9,simprocAttr,k1,m w9 (b7 (W.trans X)),aj4];simp only[i5,n9,simprocAttr,L8,p8.cells,E];exact o7 Tryz.results7 ⟨rfl,j.trans r⟩
 have aT:=ef7 k1;simp only[i5,n9,simprocAttr,k1,f w9 (b7 r)];refine t8 (bG0 C p w9 (g.mono (b7 r)) B.may) ?_;rintro ub wA ⟨N,af⟩;have s:=r.trans af;have O:=W.trans (X.trans af);rcases ef2 (decide (((bq4 p).length:Int)<id))with k2|k2
 .rw[av0 hR (cf8 (.inr (by have:=ef3 k2;omega)))]at J;cases J;simp only[i5,n9,simprocAttr,k2,N.isS,N.vlen,m wA (b7 O),aj4];simp only[i5,n9,simprocAttr,L8,p8.cells,E];exact o7 Tryz.results7 ⟨rfl,j.trans s⟩
 have aU:=ef7 k2;obtain⟨i,hi,hp,ae,n⟩:=dr5 B A (id:=id) (by omega) (by omega);obtain⟨_,_,_,_,ac⟩:=bx3 B.may A (id:=id) (by omega) (by omega);obtain rfl:=cv5 B.may A aa hi ae ac;simp only[i5,n9,simprocAttr,k2,N.isS,N.vlen,f wA (b7 s)];refine t8 (ca3 C wA (g.mono (b7 s)) A) ?_;rintro up wB ⟨am,ag⟩;rw[if_pos hR]at am;have aQ:=aB4 B;simp only[i5,simprocAttr];refine B2 (dt3 up (i4 p).reached p.procs[i].name wB am (by omega)) (λwC ah=>?_);have t:=(s.trans ag).trans ah;have P:=(O.trans ag).trans ah;rcases ef2 ((i4 p).reached.contains p.procs[i].name)with k3|k3;rotate_left
 .have ay:¬p.procs[i].name∈(i4 p).reached:=λh=>by rw[eg7.2 h]at k3;cases k3
  rw[if_neg λh=>ay h.1]at n;rw[av0 hR n]at J;cases J;simp only[i5,n9,simprocAttr,k3,m wC (b7 P),aj4];simp only[i5,n9,simprocAttr,L8,p8.cells,E];exact o7 Tryz.results7 ⟨rfl,j.trans t⟩
 have ax:=eg7.1 k3;obtain⟨x,pt⟩:=I1 B.may A i hi;have hb:cr2 p p.procs[i].name i:=⟨hR,by have:=aU7 B.toKnown hi;unfold Sh.pr at this;rw[show(i4 p).s=d9 p from rfl,K5]at this;exact this,hi⟩;simp only[i5,n9,simprocAttr,k3,f wC (b7 t)];refine t8 (cf1 C p p.procs[i].name i _ _ wC (g.mono (b7 t)) A hb pt) ?_;rintro ul wD ⟨l,rl,hL,aR,aj⟩;have z:=t.trans aj;have Q:=P.trans aj;simp only[i5,simprocAttr];refine E6 (do7 ul l id wD rl (by omega)) ?_;have R:=pt.ids _ ae;rw[ac]at R;have ad:l.contains id=((i4 p).way (i:Int)).lives id:=by
  rw[L9 hi,eq7,eg7,hL];exact⟨λh=>h.2.2,λh=>⟨R.1,R.2,h⟩⟩
 rcases ef2 (l.contains id)with k4|k4;rotate_left
 .rw[if_neg λh=>by rw[<-ad,k4]at h;cases h.2]at n;rw[av0 hR n]at J;cases J;simp only[i5,n9,simprocAttr,k4,m wD (b7 Q),aj4];simp only[i5,n9,simprocAttr,L8,p8.cells,E];exact o7 Tryz.results7 ⟨rfl,j.trans z⟩
 rw[if_pos ⟨ax,by rw[<-ad,k4]⟩]at n;have ak:=cf7 n;rw[cc4 hR n]at J;cases J;have Z:=bN5 p.procs[i].name 2 id;generalize hy:(⟨p.procs[i].name,2,id,e0⟩:Vx)=y at Z ak m;have hq:=λw0 a b=>bl8 w0 a b y y;have hd:decide (y=y)=true:=ek5 rfl;have lD:=f wD (b7 z);have al:=m wD (b7 Q);simp only[i5,n9,simprocAttr,k4,al,Z];simp only[i5,n9,simprocAttr,L8,p8.cells,hq,lD,al];refine B2 (bH3 C y wD (g.mono (b7 z)) A) (λwE aC=>?_);simp only[i5,n9,simprocAttr,hR,ek5 ak];exact o7 Tryz.results7 ⟨rfl,j.trans (z.trans aC)⟩
end Go.Proofs.YtggahhenbbgffaaGreat
namespace Go.Proofs.YtggahhenbbgffaaGreat.sliceCrit
open Go Go.ChangeShapes Go.WideShapes Go.ChangeAt Go.RowKit
def bf3:laidOutB Tryz.prog=true:=by kernel_rfl
def al8:∀t∈Tryz.f7.params.toList,Tryz.prog.readableRec t=true/\t<Tryz.prog.types.size:=by
 rw[Tryz.params7];decide +kernel
set_option maxRecDepth 100000 in
def lifted(r:Os)(b:r.Started)(H:Type)(enc:TypeId×Value->H):
  ReturnsInHanded {} Tryz.checked r 7 .any (Rows.sliceCritSpec.pre6 enc Tryz.prog Tryz.f7 Rows.sliceCritRow.domain false) (Rows.sliceCritSpec.post enc Tryz.prog Tryz.f7 false true false false):=by
 refine returnsInHanded_of_change (C:=Tryz.checked) own b (by kernel_rfl) Tryz.func7
  (ChangeSpec.witness6 (enc:=enc) (C:=Tryz.checked) false ⟨#[],#[.agg #[.slice none 0 0,.slice none 0 0],.int .i64 0],[]⟩ 8 (by kernel_rfl) (by kernel_rfl) (by kernel_rfl) (by kernel_rfl)) ?_
 intro W d args y T i a n o _;have c:∀(j:Nat) t v,Tryz.f7.params[j]?=some t->args[j]?=some v->Value.okWide Tryz.prog W .any d t v:=a;have h:=n;obtain⟨p,q,f,E,rfl,G,J⟩:=n;have k:DataW.TrodAll enc Tryz.prog W 0 (λ_=>true) true Tryz.f7.params.toList args.toList y p:=f;have g:=k;rw[Tryz.params7]at k c;obtain⟨s,N,R,z,U,X,l,rfl,rfl,B,L⟩:=trodAll_cons k;obtain⟨w,O,S,A,V,Y,rfl,rfl,rfl,D,M⟩:=trodAll_cons L;obtain⟨rfl,rfl,rfl⟩:=trodAll_nil M;obtain rfl:args=#[s,w]:=by cases args;simp_all
 obtain⟨rfl,rfl⟩:=trodVars_none E;obtain⟨P,m⟩:=bA3 B;obtain⟨x,rfl,rfl,rfl,Z⟩:=open_int Tryz.underlying3 (c 1 3 w rfl rfl) D;clear f a;simp only[List.append_nil]at h g;refine(bz4 s P x W m).mono λe Q ⟨u,F,K,I⟩=>?_;subst F;subst K;exact⟨_,rfl,aR3 bf3 al8 rfl h g rfl rfl (λ_ _ _=>(trodAll_cons_mk (shut_bool Tryz.underlying4 _) trodAll_mk0)) I⟩
def kM:mapsRowed Tryz.prog=true:=by kernel_rfl
def kI:(Rows.sliceCritRow.inPlace==Tryz.prog.inPlace 7)=true:=by kernel_rfl
def kU:(Rows.sliceCritRow.unfollowed==Tryz.prog.unfollowed 7)=true:=by kernel_rfl
def kR:(Rows.sliceCritRow.recurses==Tryz.prog.recurses 7)=true:=by kernel_rfl
def kN:(Rows.sliceCritRow.named==Tryz.prog.varsNamed 7)=true:=by kernel_rfl
def kS:Tryz.prog.stopsHeard=true:=by kernel_rfl
def kE:Tryz.prog.mayEnter=true:=by kernel_rfl
def kL:(Rows.sliceCritRow.lifted==Tryz.prog.liftsFinal)=true:=by kernel_rfl
def kK:(Tryz.prog.make==some Rows.sliceCritRow.make)=true:=by kernel_rfl
def closed:joinedFacts Tryz.prog 7 Tryz.f7 Rows.sliceCritSpec Rows.sliceCritRow=true:=by
 unfold joinedFacts;rw[bf3,kM,kI,kU,kR,kN,kS,kE,kL,kK]
 kernel_rfl
def bZ6:Rows.sliceCritRow.holds Tryz.pinned (OpenSpec.ofChange Rows.sliceCritSpec):=
 OpenClaim.holds_of_wide 7 Tryz.f7 rfl rfl rfl rfl rfl rfl rfl ⟨rfl,rfl,rfl,rfl,rfl⟩ rfl rfl rfl rfl rfl (by kernel_rfl) Tryz.func7 closed
  (of_decide_eq_true (by kernel_rfl)) (by unfold Func.isWrapper;first|(rw[if_pos (by decide +kernel)];kernel_rfl)|(rw[if_neg (by decide +kernel)];exact⟨rfl,rfl⟩))
  (λc a H b _=>lifted c a H b)
theorem proved:Rows.SliceCritSaid:=bZ6
end Go.Proofs.YtggahhenbbgffaaGreat.sliceCrit

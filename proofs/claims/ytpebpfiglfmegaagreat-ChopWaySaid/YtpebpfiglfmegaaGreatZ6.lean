/- What the functions of the program do, for every input; plain facts. No condition, no statement of its own. Part 6. -/
import Derived.Ground.Names2Prog
import Derived.Ground.NamesProg
import Derived.Lib.SlicesCompact
import Derived.Shelf.Slices.CompactI
import Derived.Shelf.Slices.In.SortNone
import Derived.Shelf.Sort.Plain
import Derived.Test.YtpebpfiglfmegaaGreatProg
import Derived.Test.YtpebpfiglfmegaaGreatZ5
set_option maxRecDepth 1000000
set_option maxHeartbeats 8000000
set_option linter.unusedVariables false
set_option linter.unusedSimpArgs false
set_option linter.unnecessarySimpa false
set_option linter.defProp false
namespace Go.Proofs.YtpebpfiglfmegaaGreat
open Go Tryz List IntKind Region
theorem bT7(n)(l:List Int):W2 n l=aj6 n l:=rfl
def cQ5{n}(l:List Int){q}(a:q<n):(W2 n l).set q true=W2 n (l++[(q:Int)]):=by
 rw[bT7,bg3 l a,bT7];exact aL4 λx=>by simp[or_comm]
section
variable {w1 w:World} {g r:Nat} {ab:Addr} {vP:Value} {x:WX} {c:WC}
def aw9(s:WS w1 w g r ab vP x c)(v)(l:List Int)(hv:R (n8 w) v l)(S:∀a∈l,J2 c.V.length a=true)(hn:c.V.length<=1000000000)(U:l.length<=1000000000):
  p7 prog 91 #[.pointer (some ⟨g,0,none⟩),v] w λu E=>(B7 (n8 w) E 4 u (W2 c.V.length l)/\o6 w E):=by
 refine y5 [.pointer (some ⟨g,0,none⟩),v] func91 rfl ?_;obtain⟨ib,I,o⟩:=ay1 (P:=prog) Y5 aK1;have V:=s.ld (i:=2) (u:=x.vV) rfl Z4;have H:=s.oV.isS;have z:=s.oV.vlen;generalize c.V.length=n at S hn z;obtain⟨X,w2,L,M,N,_,_⟩:=mk (P:=prog) (w:=w) (h:=n8 w) (α:=Bool) bw9 Y5 (y:=false) rfl (n:=n) om om (n7 _);simp only[eF,simprocAttr,V,H,z,L,hv.isS,hv.vlen];refine B4 [0,1,5,14,15] (σ:=Nat) (λk f E=>f 16=k/\k<=l.length/\B7 (n8 w) E 4 X (W2 n (l.take k))/\o6 w E) (λk=>l.length-k) 0 ?_ ?_
 .refine⟨rfl,eE2 _,?_,N⟩;rw[eN9,bT7,ch4];exact M
 rintro k f w3 ⟨e0,Y,O,F,G,_⟩ ⟨j,T,b,e⟩;simp only[eF,simprocAttr,j,G];refine A7 (λd=>?_) ?_;rotate_left
 .rintro rfl;rw[eE4]at b;simp only[i4,simprocAttr,O];exact o8 results91 ⟨b,e⟩
 have J:=hv.inS d;have q:=aI6 hv (b7 e) d;have C:=S _ (eE1 d);have D:=eD9 d;generalize l[k]=a at q C D;obtain⟨Z,h1⟩:=C0.1 C;obtain⟨A,rfl⟩:∃A:Nat,a=(A:Int):=⟨a.toNat,om⟩;have Q:A<n:=om
 have m:A<(W2 n (l.take k)).length:=by rw[E0];exact Q
 have p:=b.inS m;obtain⟨w4,W,B,K,_⟩:=G4 (P:=prog) (t:=4) b rfl m (x:=true) (y:=true) rfl rfl I o;rw[cQ5 _ Q,<-D]at B;simp only[i4,n9,A6,simprocAttr,j,O,F,J,q,p,W];exact U5 (k+1) ⟨B,b.ext2 e K⟩
def av1{w0:World}{va vs vk}{us:List Raw}{N:List (List (Int×Int))}{S:List Bool}{ks:List Int}(r:E1 hZ w TAs TAr va us N)(i:∀b,Q6 va us b->b<w0.heap.size)(n:B7 (n8 w0) w 4 vs S)(s:o6 w0 w)
  (m:B7 hZ w 3 vk ks) (p:∀b,B0 vk b->¬B0 vs b) (o:OkA N.length N) (q:N.length=S.length) (hn:S.length<=1000000000) (g:∀k∈ks,1<=k/\k<=6) (f:ks.length<=1000) :
  p7 prog 92 #[va,vs,vk] w λu d=>(B7 (n8 w0) d 4 vs (I0 (ai8 N ks) S)/\t8 (B0 vs) w d/\o6 w0 d):=by
 have c:∀b,B0 vs b->w0.heap.size<=b:=λb a=>D4 (n.free a);have j:B7 (D9 w (B0 vs)) w 4 vs S:=(n.down (L4 _)).up (L4 _) λb a=>G2 a;refine(cT2 (D9 w (B0 vs)) va vs vk N S ks w (B6 _ _) (r.roK (L4 _) λb a=>E9 λh=>?_) j (m.flatR λb a=>E9 (p b a)) o q hn g f).mono ?_
 .have:=c b h;have:=i b a;omega
 .rintro e d ⟨u,rfl,l,hm⟩;exact⟨u,rfl,(l.down (L4 _)).up (L4 _) λb a=>aE5 (c b a),hm,t8.ext_of s hm c⟩
def by3(s:WS w1 w g r ab vP x c)(a)(I:a<c.V.length)(C:OkA c.P.length c.P)(D:c.P.length=c.V.length)(hn:c.V.length<=1000000000):
  p7 prog 55 #[.pointer (some ⟨g,0,none⟩),a] w λu B=>(B7 (n8 w) B 4 u (I0 (ai8 c.P [1,2,3]) (W2 c.V.length [(a:Int)]))/\o6 w B):=by
 refine y5 [.pointer (some ⟨g,0,none⟩),a] func55 rfl ?_;obtain⟨G,K,p,t,e,_⟩:=lit (P:=prog) (w:=w) (h:=n8 w) (α:=Int) (xs:=[a]) (ys:=[(a:Int)]) (parts:=#[(0,a)]) (n:=1) V8 rfl (G6.2 rfl) (by simp[Value.cells]) rfl rfl dG dG (n7 _);have A:=s.more e;simp only[eF,simprocAttr,p];refine z6 (aw9 A G [(a:Int)] (t.rw_ (b7 e)) (λb k=>by simp only[eE7]at k;subst k;exact C0.2 ⟨om,om⟩) hn dG) ?_;rintro u H ⟨d,l⟩;have f:=e.trans l;have d:=d.back e;have F:=A.more l;have E:=F.ld (i:=7) (u:=x.vp) rfl aJ9;obtain⟨J,L,q,v,j,o⟩:=lit (P:=prog) (w:=H) (h:=hZ) (α:=Int) (xs:=[(1:Int),(2:Int),(3:Int)]) (ys:=[1,2,3]) (parts:=#[(0,(1:Int)),(1,(2:Int)),(2,(3:Int))]) (n:=3) V8 rfl (G6.2 rfl) (by simp[Value.cells]) rfl rfl dG dG (L4 _);simp only[eF,simprocAttr,E,q];apply z6 (av1 ((s.rp).ext (f.trans j)) (λb k=>s.lt (i:=6) k) (d.ext j) (f.trans j) v (λb k m=>by have:=d.lt m;have:=o b k;omega) C (by rw[D,E0]) (by rw[E0];exact hn) dG dG);rintro _ M ⟨y,_,z⟩;simp only[i4,simprocAttr];exact o8 results55 ⟨y,z⟩
def cl9(s:WS w1 w g r ab vP x c)(y:Vx):
  p7 prog 49 #[.pointer (some ⟨g,0,none⟩),y] w λu j=>(u = .tuple #[(al0 c.kv y).getD (0:Int),(al0 c.kv y).isSome]/\o6 w j):=by
 refine y5 [.pointer (some ⟨g,0,none⟩),y] func49 rfl ?_;obtain⟨t,a,l,i,k⟩:=aS1 (w:=w) (λ_=>False) (SV.ofN (n8 w) y) λb n=>n.elim;have m:=s.more (i.trans (o6.drew a));have o:=(L8.vx_v (SV.ofN (n8 w) y) k).2 (· = a.drew) a.drew rfl λj h=>by subst h;exact B6 a _
 have p:J4 prog (λj=>j=a.drew) 88 ⟨g,5,none⟩ (.map (some r)):=sdq (m.ld rfl bJ8);have q:∀K f d e,X8 prog (· = a.drew) (Instr.lookup 88 (.map (some r)) y true) K f d e=K (G9 f d (.tuple #[(al0 c.kv y).getD (0:Int),(al0 c.kv y).isSome])) e:=λK f d e=>L5 (w0:=a.drew) rfl λj h=>by subst h;exact m.lookOk y
 simp only[eF,simprocAttr,l];refine C4 (· = a.drew) 10 (A8 [0,1,2,3,4,5,6,7,8,9]) ?_;simp only[D7,A8,i4,n9,simprocAttr,o,p,q];exact Q0 results49 ⟨rfl,i.trans (o6.drew a)⟩
def cD1(V:List Vx)(S:List Bool)(k)(b:k<S.length)(c:S.length=V.length):((((range (k+1)).filter λa=>S.getD a false).map λ(a:Nat)=>(a:Int)).filterMap λi=>V[i.toNat]?)=((((range k).filter λa=>S.getD a false).map λ(a:Nat)=>(a:Int)).filterMap λi=>V[i.toNat]?)++if S[k]=true then[V[k]]else[]:=by
 rw[ci1 S k b,filterMap_append]
 congr 1
 cases S[k]with
 | false=>rfl
 | true=>
  simp only[eK2,filterMap_cons,eF4,filterMap_nil];rw[eD1 om]
def aG8(s:WS w1 w g r ab vP x c)(v)(S:List Bool)(hv:R (n8 w) v S)(W:S.length=c.V.length)(hn:c.V.length<=1000000):
  p7 prog 51 #[.pointer (some ⟨g,0,none⟩),v] w λu F=>(B7 (n8 w) F 27 u (F3 c.V S)/\o6 w F):=by
 refine y5 [.pointer (some ⟨g,0,none⟩),v] func51 rfl ?_;have J:=hv.isS;have K:=hv.vlen;have O:=s.rV;have n:=λk V=>cD1 c.V S k V W;have j:F3 c.V S=((((range S.length).filter λa=>S.getD a false).map λ(a:Nat)=>(a:Int)).filterMap λi=>c.V[i.toNat]?):=rfl;have m:∀k,k<=S.length->((((range k).filter λa=>S.getD a false).map λ(a:Nat)=>(a:Int)).filterMap λi=>c.V[i.toNat]?).length<=k:=λk _=>by
  apply eD7 (length_filterMap_le _ _);rw[eE3];apply eD7 (eG0 _ _);rw[eI3];exact eE8 _
 have H:∃T:Nat->List Vx,(∀k,T k=((((range k).filter λa=>S.getD a false).map λ(a:Nat)=>(a:Int)).filterMap λi=>c.V[i.toNat]?)):=⟨_,λ_=>rfl⟩;obtain⟨L,z⟩:=H;simp only[<-z]at n j m;have I:L 0=[]:=by rw[z];rfl
 simp only[eF,simprocAttr,J,K];refine B4 [0,8,9] (σ:=Nat×Value) (λt f F=>f 10=t.1/\f 5=t.2/\t.1<=S.length/\B7 (n8 w) F 27 t.2 (L t.1)/\o6 w F) (λt=>S.length-t.1) (0,()) ?_ ?_
 .exact⟨rfl,rfl,eE2 _,by rw[I];exact B7.nil _ _ _,t8.refl _⟩
 rintro⟨k,u⟩ f Q ⟨e0,M,U,_⟩ ⟨h,G,C,D,b⟩;simp only at h G C D;simp only[eF,simprocAttr,h,U];refine A7 (λq=>?_) ?_;rotate_left
 .rintro rfl;simp only[i4,simprocAttr,G];exact o8 results51 ⟨by rw[j];exact D,b⟩
 have A:=hv.inS q;have p:(Instr.loadAt 4 (I2 v k)).run prog Q = .ok (S[k]) Q:=O4 (P:=prog) (t:=4) hv (b7 b) (eD1 q) ag4;have d:=n k q;have o:k<c.V.length:=om
 have X:=m k C;generalize S[k]=sb at p d;rcases eD2 sb with N|N<;>subst N
 .simp only[eK2]at d;have Y:=(s.more b).ld (i:=2) (u:=x.vV) rfl Z4;have B:=O.inS o;obtain⟨sv,E,l⟩:=G1 (P:=prog) (t:=27) O (b7 b) (eD1 o) aB7 aB8 av4 R3;rw[R3]at l;generalize c.V[k]=y at E d;obtain rfl:=E.N;obtain⟨Z,u4,w4,p2,p3,p4,_⟩:=push (P:=prog) (t:=35) (e:=35) aD8 rfl D (x:=y) (y:=y) ((A0.iff_ _ _ _).2 rfl) om om (b7 b);simp only[i4,n9,A6,simprocAttr,h,G,e0,M,A,p,Y,B,l,Z,p2];exact nx4 (k+1,u4) ⟨by rw[d];exact p3,D.ext2 b p4⟩
 .simp only[eK7,eM4,eG5]at d;simp only[i4,n9,A6,simprocAttr,h,G,M,A,p];exact nx4 (k+1,u) ⟨by rw[d];exact D,b⟩
end
def cx0(a b):D0 prog 218 [(0,.int .i64 a),(1,.int .i64 b)]=some (.agg #[.int .i64 a,.int .i64 b]):=by
 simp[D0,ef0,M2,Instr.fill,Value.cells]
section
variable {w1 w:World} {g r:Nat} {ab:Addr} {vP:Value} {x:WX} {c:WC}
def da2(s:WS w1 w g r ab vP x c)(ah:c.kv=as6 c.V)(L:List Eg)(hN:c.N=ae3 c.V L)(hP:c.P=ae5 c.V L)(h0:0<c.V.length)(hn:c.V.length<=1000000000)(hL:L.length<=1000000000)(e:Eg):
  p7 prog 89 #[.pointer (some ⟨g,0,none⟩),.agg (A0.cells e).toArray] w λ_ j=>(∃t p:Raw,WS w1 j g r ab vP {x with un:=x.un.set (C5 c.V e.src) t,up:=x.up.set (C5 c.V e.dst) p} {c with N:=ae3 c.V (L++[e]),P:=ae5 c.V (L++[e])}/\t8 (λb=>Z5 g r x 5 b\/Z5 g r x 6 b) w j /\
   ∀i b,Z5 g r {x with un:=x.un.set (C5 c.V e.src) t,up:=x.up.set (C5 c.V e.dst) p} i b->Z5 g r x i b\/w.heap.size<=b):=by
 refine y5 [.pointer (some ⟨g,0,none⟩),.agg (A0.cells e).toArray] func89 rfl ?_;obtain⟨be,a,ag,z,ae⟩:=cX3 (w:=w) (λb=>∃i,Z5 g r x i b) (SV.ofN (n8 w) e) λb ⟨i,m⟩=>s.lt m;obtain⟨us,ud,T,ad,S,ac,_,Z⟩:=L8.eg (SV.ofN (n8 w) e) ae;obtain rfl:=T.N;obtain rfl:=S.N;have s2:=s.more (z.trans (o6.drew a));have hA:=V1 h0 e.src;have hB:=V1 h0 e.dst;have n:=bg8 (L:=L) hA;have o:=dn3 (L:=L) hB;have v:=cR0 (V:=c.V) L e;have y:=cR6 (V:=c.V) L e;have k1:=s2.look e.src;have k2:=s2.look e.dst;rw[ah,bm6]at k1 k2;rw[<-hN]at n v;rw[<-hP]at o y;have I:((L.filter λx=>decide (C5 c.V x.src=C5 c.V e.src)).map λx=>(((C5 c.V x.dst:Nat):Int),x.kind)).length<=1000000000:=by
  rw[eE3];exact eD7 (eG0 _ _) hL
 have J:((L.filter λx=>decide (C5 c.V x.dst=C5 c.V e.dst)).map λx=>(((C5 c.V x.src:Nat):Int),x.kind)).length<=1000000000:=by
  rw[eE3];exact eD7 (eG0 _ _) hL
 generalize((L.filter λx=>decide (C5 c.V x.src=C5 c.V e.src)).map λx=>(((C5 c.V x.dst:Nat):Int),x.kind))=rowN at n v I;generalize((L.filter λx=>decide (C5 c.V x.dst=C5 c.V e.dst)).map λx=>(((C5 c.V x.src:Nat):Int),x.kind))=rowP at o y J;rw[v,y];generalize C5 c.V e.src=A at hA n k1 ⊢;generalize C5 c.V e.dst=B at hB o k2 ⊢;have t1:=(L8.vx_v T ad).2 (· = a.drew) a.drew rfl λj h=>by subst h;exact B6 a _
 have t2:=(L8.vx_v S ac).2 (· = a.drew) a.drew rfl λj h=>by subst h;exact B6 a _
 have t3:J4 prog (λj=>j=a.drew) 88 ⟨g,5,none⟩ (.map (some r)):=sdq (s2.ld rfl bJ8);have t4:∀K f d k,X8 prog (· = a.drew) (Instr.lookup 88 (.map (some r)) (.agg (A0.cells e.src).toArray) false) K f d k=K (G9 f d (.int .i64 (A:Int))) k:=λK f d k=>L5 (w0:=a.drew) rfl λj h=>by subst h;exact k1
 have t5:∀K f d k,X8 prog (· = a.drew) (Instr.lookup 88 (.map (some r)) (.agg (A0.cells e.dst).toArray) false) K f d k=K (G9 f d (.int .i64 (B:Int))) k:=λK f d k=>L5 (w0:=a.drew) rfl λj h=>by subst h;exact k2
 simp only[eF,simprocAttr,ag];refine C4 (· = a.drew) 15 (A8 [0,1,2,3,4,5,6,7,8,9,10,11,12,13,14]) ?_;simp only[D7,A8,i4,n9,simprocAttr,t1,t2,t3,t4,t5];obtain⟨t,aB,G,E,b1,v1,w4,l,C,ao,s5,M,aj,X,Q⟩:=(s2.more (o6.drew a.drew)).arcN (i:=A) n ((B:Int),e.kind) I (e:=216);simp only[]at b1 C;have q1:J4 prog (λj=>t8 (B0 t.v) a.drew.drew j) 89 ⟨g,6,none⟩ x.vn:=sdx λj h=>(E j h).1;have q2:J4 prog (λj=>t8 (B0 t.v) a.drew.drew j) 216 (I2 x.vn A) t.v:=sdx λj h=>(E j h).2;have u:o6 a a.drew.drew:=(o6.drew a).trans (o6.drew a.drew);have q3:=Z (t8 (B0 t.v) a.drew.drew) a.drew.drew (t8.refl _) λj h=>G8 (A3 (B6 a _) (b7 u)) h λb m=>G2 ⟨5,X b m⟩;refine C4 (t8 (B0 t.v) a.drew.drew) 18 (A8 [0,1,2,3,4,5,6,7,8,9,10,11,12,13,14,15,16,17]) ?_;simp only[D7,A8,i4,n9,A6,simprocAttr,q1,q2,q3,G,cx0 (B:Int) e.kind,b1,C,F2];refine⟨t8.up (o6.alloc _ _),aj,?_⟩;obtain⟨p,aC,H,F,b2,v2,w7,w8,D,ap,s8,al,ak,Y,R⟩:=(s5.more (o6.drew l)).arcP (i:=B) o ((A:Int),e.kind) J (e:=216);simp only[]at b2 D;have r1:J4 prog (λj=>t8 (B0 p.v) l.drew j) 89 ⟨g,7,none⟩ x.vp:=sdx λj h=>(F j h).1;have r2:J4 prog (λj=>t8 (B0 p.v) l.drew j) 216 (I2 x.vp B) p.v:=sdx λj h=>(F j h).2;have q:t8 (Z5 g r x 5) a l:=(u.weaken λ_ _ h=>h.elim).trans M;have O:t8 (Z5 g r x 5) a l.drew:=q.trans ((o6.drew l).weaken λ_ _ h=>h.elim);have af:∀b,B0 p.v b->Z5 g r x 6 b:=λb m=>Y b m;have r3:=Z (t8 (B0 p.v) l.drew) l.drew (t8.refl _) λj h=>G8 (G8 (B6 a _) O λb m=>G2 ⟨5,m⟩) h λb m=>G2 ⟨6,af b m⟩;simp only[i4,simprocAttr,ao];refine C4 (t8 (B0 p.v) l.drew) 18 (A8 [0,1,2,3,4,5,6,7,8,9,10,11,12,13,14,15,16,17]) ?_;simp only[D7,A8,i4,n9,A6,simprocAttr,r1,r2,r3,H,cx0 (A:Int) e.kind,b2,D,F2];refine⟨t8.up (o6.alloc _ _),ak,?_⟩;simp only[i4,simprocAttr,ap];apply bw0 results89;refine⟨⟨v1⟩,⟨v2⟩,s8,?_,?_⟩
 .have h1:t8 (λb=>Z5 g r x 5 b\/Z5 g r x 6 b) w l:=(z.weaken λ_ _ h=>h.elim).trans (q.weaken λ_ _ h=>.inl h);have h2:t8 (λb=>Z5 g r x 5 b\/Z5 g r x 6 b) l w8:=((o6.drew l).weaken λ_ _ h=>h.elim).trans (al.weaken λ_ _ h=>.inr h);exact h1.trans h2
 .intro i b m;have U:w.heap.size<=a.drew.drew.heap.size:=(z.trans u).size;have W:a.drew.drew.heap.size<=l.drew.heap.size:=(M.trans ((o6.drew l).weaken λ_ _ h=>h.elim)).size;rcases R i b m with h|h
  .rcases Q i b h with h|h
   .exact .inl h
   .exact .inr (eD7 U h)
  .exact .inr (eD7 U (eD7 W h))
def cc1{p}(s:WS w1 w g r ab vP x c)(hb:At (n8 w1) ab (b9 p))(Q:E3 p)(hw:C1 p<=1000000){id:Int}(h1:1<=id)(h2:id<=(i5 p).l.length):
  p7 prog 151 #[.pointer (some ⟨g,0,none⟩),id] w λu e=>(u=((b9 p).isCall id)/\o6 w e):=by
 refine y5 [.pointer (some ⟨g,0,none⟩),id] func151 rfl ?_;obtain⟨i,N,G,f,n⟩:=cn0 Q.may hw h1 h2;obtain⟨xx,U⟩:=K1 Q.may hw i N;have b:=U.ids _ G;have v:=V3 U;generalize xx+B8 p.procs[i].body=y at U v b;have Z:=I3 Q.may;obtain⟨sh,vw,_,_,_,_,has,K,_,_,_,_,S,W⟩:=hb.book rfl;obtain⟨vl,_,_,J,_,_,_,T,_⟩:=has.sh;obtain⟨aw,O,E⟩:=aC4 (hv:=K) (k:=i) (p:=⟨F7 (i5 p) i⟩) (by show((M3 p).map λw=>(⟨w⟩:Ptr Wy))[i]?=_;rw[eH2,ab7 N];rfl);simp only at E;have F:=K.inS (k:=i) (by show i<((M3 p).map λw=>(⟨w⟩:Ptr Wy)).length;unfold M3;simpa using N);obtain⟨j,rfl⟩:∃j:Nat,id=(j:Int)+1:=⟨(id-1).toNat,om⟩;have o:j<(i5 p).l.length:=om
 have L:IntKind.i64.wrap ((j:Int)+1-1)=(j:Int):=by rw[N7 _ om];omega
 have l:=J.inS (k:=j) o;have m:(i5 p).it ((j:Int)+1)=(i5 p).l[j]:=by
  unfold Sh.it;rw[show((j:Int)+1-1).toNat=j by omega,getD,eD1 o];rfl
 have A:(b9 p).isCall ((j:Int)+1)=(decide ((i5 p).l[j].s.kind=4)&&(F7 (i5 p) i).lives ((j:Int)+1)):=by
  have hs:(b9 p).s=i5 p:=rfl;unfold Bk.isCall;rw[hs,f,m,P3 N]
 rw[m]at f b n;have l0:=s.ld (i:=0) (u:=ab) rfl av3;have lb:=S w s.base;have ls:=T w s.base;obtain⟨sv,I,q⟩:=G1 (P:=prog) (t:=156) J s.base (eD1 o) ai4 ai5 ag5 M4;rw[M4]at q;generalize(i5 p).l[j]=it at I A f b n;obtain⟨d,wz,a,B,H,z,C⟩:=az4 (I.mono s.base) (n7 _);obtain⟨D,_,X⟩:=C.it;obtain⟨_,_,_,_,_,_,_,_,_,_,Y⟩:=D.st;have V:=s.more (z.trans (o6.drew a));have M:∀e,o6 a.drew e->E6 (n8 w1) (n8 e):=λe h=>A3 V.base (b7 h);have t0:J4 prog (λe=>o6 a.drew e) 87 ⟨g,0,none⟩ ab:=sdx λe h=>(V.more h).ld rfl av3;have t1:=Y (o6 a.drew) a.drew (t8.refl _) λe h=>b7 ((o6.drew a).trans h);have t2:=X (o6 a.drew) a.drew (t8.refl _) λe h=>b7 ((o6.drew a).trans h);have t3:=W (o6 a.drew) a.drew (t8.refl _) M;have t4:=bW2 (P:=prog) (t:=160) O aC9 (o6 a.drew) a.drew (t8.refl _) M;rw[f]at t2;rcases eD2 (decide (it.s.kind=4))with hk|hk
 .rw[hk,eJ4]at A;simp only[i4,n9,A6,simprocAttr,l0,lb,ls,L,l,q,B,H];refine C4 (o6 a.drew) 17 (A8 [0,1,2,3,4,5,6,7,8,9,10,11,12,13,14,15,16]) ?_;simp only[D7,A8,i4,n9,A6,simprocAttr,t0,t1,t2,t3,t4,hk,F];refine B3 (be6 aw (F7 (i5 p) i) p i xx y ((j:Int)+1) a.drew (E.mono V.base) v.toWyOk (by rw[n]at b;exact b) v.live) (λw6 R=>?_);simp only[i4,simprocAttr];apply o8 results151;simp only[C9,simprocAttr];exact⟨by rw[A],(z.trans (o6.drew a)).trans R⟩
 .rw[hk,Bool.false_and]at A;simp only[i4,n9,A6,simprocAttr,l0,lb,ls,L,l,q,B,H];refine C4 (o6 a.drew) 17 (A8 [0,1,2,3,4,5,6,7,8,9,10,11,12,13,14,15,16]) ?_;simp only[D7,A8,i4,n9,simprocAttr,t1,hk];apply o8 results151;simp only[C9,simprocAttr];exact⟨by rw[A],z.trans (o6.drew a)⟩
end
section
variable {w1 w:World} {g r:Nat} {ab:Addr} {vP:Value} {x:WX} {c:WC}
def WS.pushE(s:WS w1 w g r ab vP x c)(y:Eg)(F:c.E.length<=999999999999){e}:
  (Instr.buildSlice 49 1 #[(0,y)]).run prog w = .ok (.slice (some ⟨w.heap.size,0,none⟩) 1 1) (w.alloc (.cells (A0.cells y).toArray 54)) /\
  (∀d,t8 (B0 x.vE) w d->(Instr.loadAt 49 (.pointer (some ⟨g,3,none⟩))).run prog d = .ok x.vE d) /\
  ∃f d a,(Builtin.append_ #[49,49] e #[x.vE,.slice (some ⟨w.heap.size,0,none⟩) 1 1]).run prog (w.alloc (.cells (A0.cells y).toArray 54)) = .ok f d/\(Instr.storeAt 49 (.pointer (some ⟨g,3,none⟩)) f).run prog d = .ok () a /\
   WS w1 a g r ab vP {x with vE:=f} {c with E:=c.E++[y]}/\t8 (B0 x.vE) w d/\t8 (λb=>Z5 g r x 0 b\/Z5 g r x 3 b) w a/\∀j b,Z5 g r {x with vE:=f} j b->Z5 g r x j b\/w.heap.size<=b:=by
 obtain⟨u,k,n⟩:=cB5;obtain⟨v,f,d,z,A,o,q⟩:=push (P:=prog) (t:=49) (e:=e) cj9 rfl s.oE (x:=y) (y:=y) ((A0.iff_ _ _ _).2 rfl) om om (L4 _);have m:=λ(p:World) (l:t8 (B0 x.vE) w p)=>(l.block g (s.lt (i:=0) rfl) (s.off (i:=0) (j:=3) dR rfl)).trans s.cb;obtain⟨a,B,C,D⟩:=s.putE o A q k n;refine⟨v,λp l=>F9 (m p l) rfl bd8,f,d,a,z,B,C,o,(o.weaken λ_ _ h=>.inr h).trans (D.weaken λ_ _ h=>.inl h),λj b h=>?_⟩
 match j,h with
 | 0,h=>exact .inl h
 | 1,h=>exact .inl h
 | 2,h=>exact .inl h
 | 3,h=>exact q b h
 | 4,h=>exact .inl h
 | 5,h=>exact .inl h
 | 6,h=>exact .inl h
 | _+7,h=>exact h.elim
def WS.pushS(s:WS w1 w g r ab vP x c)(y:Eg)(E:c.S.length<=999999999999){e}:
  (Instr.buildSlice 49 1 #[(0,y)]).run prog w = .ok (.slice (some ⟨w.heap.size,0,none⟩) 1 1) (w.alloc (.cells (A0.cells y).toArray 54)) /\
  (∀d,t8 (B0 x.vS) w d->(Instr.loadAt 49 (.pointer (some ⟨g,4,none⟩))).run prog d = .ok x.vS d) /\
  ∃f d a,(Builtin.append_ #[49,49] e #[x.vS,.slice (some ⟨w.heap.size,0,none⟩) 1 1]).run prog (w.alloc (.cells (A0.cells y).toArray 54)) = .ok f d/\(Instr.storeAt 49 (.pointer (some ⟨g,4,none⟩)) f).run prog d = .ok () a /\
   WS w1 a g r ab vP {x with vS:=f} {c with S:=c.S++[y]}/\t8 (B0 x.vS) w d/\t8 (λb=>Z5 g r x 0 b\/Z5 g r x 4 b) w a/\∀j b,Z5 g r {x with vS:=f} j b->Z5 g r x j b\/w.heap.size<=b:=by
 obtain⟨u,k,n⟩:=cB5;obtain⟨v,f,d,z,A,o,q⟩:=push (P:=prog) (t:=49) (e:=e) cj9 rfl s.oS (x:=y) (y:=y) ((A0.iff_ _ _ _).2 rfl) om om (L4 _);have m:=λ(p:World) (l:t8 (B0 x.vS) w p)=>(l.block g (s.lt (i:=0) rfl) (s.off (i:=0) (j:=4) dR rfl)).trans s.cb;obtain⟨a,B,C,D⟩:=s.putS o A q k n;refine⟨v,λp l=>F9 (m p l) rfl bd8,f,d,a,z,B,C,o,(o.weaken λ_ _ h=>.inr h).trans (D.weaken λ_ _ h=>.inl h),λj b h=>?_⟩
 match j,h with
 | 0,h=>exact .inl h
 | 1,h=>exact .inl h
 | 2,h=>exact .inl h
 | 3,h=>exact .inl h
 | 4,h=>exact q b h
 | 5,h=>exact .inl h
 | 6,h=>exact .inl h
 | _+7,h=>exact h.elim
def bz6(q:B9)(k):D0 prog 27 [(0,A4 q),(1,.int .i64 k)]=some (.agg (A0.cells (⟨q,k,0,e0⟩:Vx)).toArray):=by
 have h:A0.cells (⟨q,k,0,e0⟩:Vx)=[A4 q,.int .i64 k,.int .i64 0,A4 e0]:=rfl;rw[h];simp[D0,bJ9,M2,Instr.fill,Value.cells,A4,e0];rfl
def ad5(q:B9)(k)(n:B9):D0 prog 27 [(0,A4 q),(1,.int .i64 k),(3,A4 n)]=some (.agg (A0.cells (⟨q,k,0,n⟩:Vx)).toArray):=by
 have h:A0.cells (⟨q,k,0,n⟩:Vx)=[A4 q,.int .i64 k,.int .i64 0,A4 n]:=rfl;rw[h];simp[D0,bJ9,M2,Instr.fill,Value.cells,A4]
def ct8(g r:Nat)(x:WX)(b:Nat):Prop:=∃i,Z5 g r x i b
def dq2{p}(s:WS w1 w g r ab vP x c)(hb:At (n8 w1) ab (b9 p))(hr:E3 p)(hw:C1 p<=1000000)(aD:∀v∈c.V,v.id=0\/(1<=v.id/\v.id<=(i5 p).l.length))(hn:c.V.length<=1000000)(hE:c.E.length<=1000000000):
  p7 prog 88 #[.pointer (some ⟨g,0,none⟩)] w λ_ o=>(∃Y,WS w1 o g r ab vP {x with vE:=Y} {c with E:=c.E++c.V.flatMap (b9 p).joinOf}):=by
 refine y5 [.pointer (some ⟨g,0,none⟩)] func88 rfl ?_;obtain⟨sh,_,_,_,_,_,has,_,_,_,_,_,a7,aS⟩:=hb.book rfl;obtain⟨vl,_,_,al,_,_,_,a8,aT⟩:=has.sh;have lV:=s.ld (i:=2) (u:=x.vV) rfl Z4;have aB:=s.oV.isS;have aG:=s.oV.vlen;have aW:=I3 hr.may;simp only[eF,simprocAttr,lV,aB,aG];refine B4 [0,8,9] (σ:=Nat×Value) (λt f o=>f 10 = .int .i64 t.1/\t.1<=c.V.length/\WS w1 o g r ab vP {x with vE:=t.2} {c with E:=c.E++(c.V.take t.1).flatMap (b9 p).joinOf}) (λt=>c.V.length-t.1) (0,x.vE) ?_ ?_
 .exact⟨rfl,eE2 _,by simpa using s⟩
 rintro⟨k,m⟩ f w2 ⟨Z,k8,k9,_⟩ ⟨n,aF,X⟩;simp only at n aF X;simp only[eF,simprocAttr,n,k9];refine A7 (λF=>?_) ?_;rotate_left
 .rintro rfl;rw[eE4]at X;simp only[i4,simprocAttr];apply bw0 results88;exact⟨m,X⟩
 have hV:=X.rV;simp only at hV;have T:=hV.inS F;obtain⟨sv,ah,D⟩:=G1 (P:=prog) (t:=27) hV (n7 _) (eD1 F) aB7 aB8 av4 R3;rw[R3]at D;have aj:=M1 (b9 p).joinOf c.V F;have J:=aD _ (eE1 F);generalize c.V[k]=y at ah aj J;obtain rfl:=ah.N;obtain⟨a3,wz,w3,O,W,aJ,ad⟩:=aF4 (w:=w2) (ct8 g r {x with vE:=m}) (SV.ofN (n8 w2) y) λb ⟨i,hb⟩=>X.lt hb;obtain⟨ap,au⟩:=L8.vx (SV.ofN (n8 w2) y) ad;obtain⟨a9,aU⟩:=L8.vx_v (SV.ofN (n8 w2) y) ad;have s3:=X.more aJ;have ly:=ap w3 (B6 _ _);generalize an:c.E++(c.V.take k).flatMap (b9 p).joinOf=xs at X s3;have a4:xs.length<=1001000000:=by
  have h1:=U3 (b9 p).joinOf 1 (c.V.take k) λz _=>cC3 z;rw[eE5]at h1;rw[<-an,eD4];have H:min k c.V.length<=1000000:=om
  omega
 have B:c.E++(c.V.take (k+1)).flatMap (b9 p).joinOf=xs++(b9 p).joinOf y:=by rw[aj,<-an,eG4]
 have V:(b9 p).joinOf y=[]->∀o,WS w1 o g r ab vP {x with vE:=m} {c with E:=xs}->WS w1 o g r ab vP {x with vE:=m} {c with E:=c.E++(c.V.take (k+1)).flatMap (b9 p).joinOf}:=λh o s=>by rw[B,h,eG5];exact s
 rcases eD2 (decide (y.id=0))with h0|h0
 .have hj:(b9 p).joinOf y=[]:=by unfold Bk.joinOf;rw[fi (.inl (eD3 h0))]
  simp only[i4,n9,A6,simprocAttr,n,k8,T,D,O,W,ly,h0];exact U5 (k+1,m) (V hj _ s3)
 have ac:=eD6 h0;obtain⟨aK,aL⟩:=J.resolve_left ac;obtain⟨j,aE⟩:∃j:Nat,y.id=(j:Int)+1:=⟨(y.id-1).toNat,om⟩;have U:j<(i5 p).l.length:=om
 have aI:IntKind.i64.wrap (y.id-1)=(j:Int):=by rw[N7 _ om];omega
 have af:=al.inS (k:=j) U;have C:=al.at_ (i:=j) (x:=(i5 p).l[j]) (eD1 U);have ao:A9.sz It=17:=rfl;rw[ao]at C;have ag:(b9 p).s.it y.id=(i5 p).l[j]:=by
  have hs:(b9 p).s=i5 p:=rfl;rw[hs,aE];unfold Sh.it;rw[show((j:Int)+1-1).toNat=j by omega,getD,eD1 U];rfl
 have q:(b9 p).joinOf y=if y.id=0\/(b9 p).isCall y.id=false then[]else if y.kind=2 then[⟨y,⟨(i5 p).l[j].s.proc,1,0,e0⟩,4⟩]else if y.kind=5 then[⟨y,⟨(i5 p).l[j].s.proc,3,0,y.slot⟩,5⟩]else if y.kind=6 then[⟨⟨(i5 p).l[j].s.proc,4,0,y.slot⟩,y,6⟩]else[]:=by
  unfold Bk.joinOf;rw[ag]
 generalize(i5 p).l[j]=it at C q;obtain⟨ae,_,_⟩:=C.it;obtain⟨_,_,_,_,_,_,_,_,_,aN,_⟩:=ae.st;have A:=λo (s':WS w1 o g r ab vP {x with vE:=m} {c with E:=xs})=>cc1 s' hb hr hw aK aL;generalize(b9 p).isCall y.id=ic at q A;rcases eD2 ic with h1|h1<;>subst h1;rotate_left
 .rw[fi (.inr rfl)]at q;simp only[i4,n9,A6,simprocAttr,n,Z,k8,T,D,O,W,ly,h0];refine B3 (A w3 s3) (λa G=>?_);simp only[eF,simprocAttr,n];exact U5 (k+1,m) (V q _ (s3.more G))
 rw[fh (by simpa using ac)]at q;simp only[i4,n9,A6,simprocAttr,n,Z,k8,T,D,O,W,ly,h0];refine B3 (A w3 s3) (λa G=>?_);have s4:=(s3.more G).more (o6.drew a);have am:=G.trans (o6.drew a);have Q:E6 (n8 w1) (n8 a.drew):=s4.base;have R:E6 (D9 w3 (ct8 g r {x with vE:=m})) (n8 a.drew):=A3 (B6 _ _) (b7 am);have t0:J4 prog (λo=>o=a.drew) 87 ⟨g,0,none⟩ (.pointer (some ab)):=sdq (s4.ld rfl av3);have t1:=aS (· = a.drew) a.drew rfl λo h=>by subst h;exact Q
 have t2:=aT (· = a.drew) a.drew rfl λo h=>by subst h;exact Q
 have t3:=au (· = a.drew) a.drew rfl λo h=>by subst h;exact R
 have aO:=aN a.drew Q;have aQ:=ap a.drew R;simp only[eF,simprocAttr];refine C4 (· = a.drew) 13 (A8 [0,1,2,3,4,5,6,7,8,9,10,11,12]) ?_;simp only[D7,A8,i4,n9,A6,simprocAttr,Z,t0,t1,t2,t3,aI,af,aO,aQ];have hm:∀o,t8 (B0 m) a.drew.drew o->E6 (D9 w3 (ct8 g r {x with vE:=m})) (n8 o):=λo h=>G8 (A3 R (b7 (o6.drew a.drew))) h λb hb=>G2 ⟨3,hb⟩;have s5:=s4.more (o6.drew a.drew);have u1:=aU (t8 (B0 m) a.drew.drew) a.drew.drew (t8.refl _) hm;have u2:=au (t8 (B0 m) a.drew.drew) a.drew.drew (t8.refl _) hm;have aH:=bz6 it.s.proc 1;have ak:=ad5 it.s.proc;have S:=bO7;rcases eD2 (decide (y.kind=2))with H|H
 .rw[fi (eD3 H)]at q;obtain⟨p1,I,Y,w6,w7,L,p3,N,M,_⟩:=s5.pushE ⟨y,⟨it.s.proc,1,0,e0⟩,4⟩ so (e:=49);simp only at L I M N;have u0:∀K f d l,X8 prog (t8 (B0 m) a.drew.drew) (Instr.loadAt 49 (.pointer (some ⟨g,3,none⟩))) K f d l=K (G9 f d m) l:=λK f d l=>L5 (w0:=a.drew.drew) (t8.refl _) I;simp only[i4,simprocAttr,H];refine C4 (t8 (B0 m) a.drew.drew) 11 (A8 [0,1,2,3,4,5,6,7,8,9,10]) ?_;simp only[D7,A8,i4,n9,simprocAttr,Z,u0,u1,aH,S,p1,L,F2];refine⟨t8.up (o6.alloc _ _),M,?_⟩;simp only[eF,simprocAttr,p3,n];exact U5 (k+1,Y) (by simp only[];rw[B,q];exact N)
 rw[fh (eD6 H)]at q;rcases eD2 (decide (y.kind=5))with h5|h5
 .rw[fi (eD3 h5)]at q;obtain⟨p1,I,Y,w6,w7,L,p3,N,M,_⟩:=s5.pushE ⟨y,⟨it.s.proc,3,0,y.slot⟩,5⟩ so (e:=49);simp only at L I M N;have u0:∀K f d l,X8 prog (t8 (B0 m) a.drew.drew) (Instr.loadAt 49 (.pointer (some ⟨g,3,none⟩))) K f d l=K (G9 f d m) l:=λK f d l=>L5 (w0:=a.drew.drew) (t8.refl _) I;simp only[eF,simprocAttr,H,h5];refine C4 (t8 (B0 m) a.drew.drew) 13 (A8 [0,1,2,3,4,5,6,7,8,9,10,11,12]) ?_;simp only[D7,A8,i4,n9,simprocAttr,Z,u0,u1,u2,ak,S,p1,L,F2];refine⟨t8.up (o6.alloc _ _),M,?_⟩;simp only[eF,simprocAttr,p3,n];exact U5 (k+1,Y) (by simp only[];rw[B,q];exact N)
 rw[fh (eD6 h5)]at q;rcases eD2 (decide (y.kind=6))with h6|h6
 .rw[fi (eD3 h6)]at q;obtain⟨p1,I,Y,w6,w7,L,p3,N,M,_⟩:=s5.pushE ⟨⟨it.s.proc,4,0,y.slot⟩,y,6⟩ so (e:=49);simp only at L I M N;have u0:∀K f d l,X8 prog (t8 (B0 m) a.drew.drew) (Instr.loadAt 49 (.pointer (some ⟨g,3,none⟩))) K f d l=K (G9 f d m) l:=λK f d l=>L5 (w0:=a.drew.drew) (t8.refl _) I;simp only[eF,simprocAttr,H,h5,h6];refine C4 (t8 (B0 m) a.drew.drew) 13 (A8 [0,1,2,3,4,5,6,7,9,8,10,11,12]) ?_;simp only[D7,A8,i4,n9,simprocAttr,Z,u0,u1,u2,ak,S,p1,L,F2];refine⟨t8.up (o6.alloc _ _),M,?_⟩;simp only[eF,simprocAttr,p3,n];exact U5 (k+1,Y) (by simp only[];rw[B,q];exact N)
 rw[fh (eD6 h6)]at q;simp only[eF,simprocAttr,H,h5,h6,n];exact U5 (k+1,m) (V q _ s4)
end
def cF7(a p w)(ha:At (n8 w) a (b9 p))(hr:E3 p)(hw:C1 p<=1000000):
  p7 prog 84 #[a] w λu C=>(B7 (n8 w) C 9 u (b9 p).reached/\o6 w C):=by
 apply y5 [a] func84 rfl;have K:=hr.toKnown;have bs:=cr3 hr.may;obtain⟨sh,vw,_,_,_,_,has,aL,_,_,_,_,a8,aR⟩:=ha.book rfl;have hF:(b9 p).reached=ad0 (W4 (b9 p).calledBy 1000 0 [H9]):=rfl;have az:=λm hm=>aS3 K (n:=m) hm;have hG:∀m,(b9 p).calledBy m=(((i5 p).of ((i5 p).pr m)).filter λit=>decide (it.s.kind=4)&&((b9 p).way ((i5 p).pr m)).lives it.s.id).map (·.s.proc):=λm=>rfl;have aj:=bm8 K;generalize(b9 p).calledBy=gg at hF az hG;have aG:(p.procs.map (·.name)).length=p.procs.length:=eE3 _;obtain⟨u1,wl,aE,a3,a5,_⟩:=lit (P:=prog) (w:=w) (h:=n8 w) (α:=B9) (xs:=[H9]) (ys:=[H9]) (parts:=#[(0,H9)]) (n:=1) aF0 rfl (aH7.2 rfl) (by simp[A4,Value.cells]) rfl rfl dG dG (n7 _);have a4:Value.string {data:=#[109,97,105,110]}=H9:=rfl;simp only[eF,simprocAttr,a4,aE];refine B4 [0] (σ:=Nat×Value×List B9) (λs f C=>f 4=s.1/\f 3=s.2.1/\s.1<=s.2.2.length/\B7 (n8 w) C 9 s.2.1 s.2.2/\s.2.2.Nodup/\(∀x∈s.2.2,x∈p.procs.map (·.name))/\W4 gg 1000 0 [H9]=W4 gg (1000-s.1) s.1 s.2.2/\o6 w C) (λs=>1000-s.1) (0,u1,[H9]) ?_ ?_
 .exact⟨rfl,rfl,eE2 _,a3,dG,by simpa using aj,dG,a5⟩
 rintro⟨i,u,F⟩ f w2 ⟨ah,_⟩ ⟨h4,h3,aZ,ho,al,I,A,aN⟩;simp only at h4 h3 aZ ho al I A;have br:F.length<=p.procs.length:=by rw[<-aG];exact J5 al I
 simp only[eF,simprocAttr,h4,h3,ho.isS,ho.vlen];refine A7 (λY=>?_) ?_;rotate_left
 .rintro rfl;rw[bP3 gg _ _ _ (eE8 _)]at A;simp only[i4,simprocAttr,h3];apply z6 (as0 ho om);rintro _ w4 ⟨an,a1⟩;simp only[i4,simprocAttr,h3];exact o8 results84 ⟨by rw[hF,A];exact an,ho.ext2 aN a1⟩
 have W:=ho.inS Y;have ak:=I _ (eE1 Y);have L:=aN.trans (o6.drew w2);have aI:=ho.ext (o6.drew w2);have N:=ldS (aI.rw_ (b7 L)) (n7 _) Y;rw[show 1000-i=(999-i)+1 by omega,cd8 gg _ _ _ Y]at A;generalize F[i]=m at N ak A;obtain⟨c,V,aJ,bq⟩:=Y0 ak;obtain⟨xx,pt⟩:=K1 hr.may hw c V;have Q:=pt.ids;have ap:=V3 pt;generalize xx+B8 p.procs[c].body=y at pt ap Q;have bg:=I3 hr.may;obtain⟨aw,aY,ay⟩:=aC4 (hv:=aL) (k:=c) (p:=⟨F7 (i5 p) c⟩) (by show((M3 p).map λw=>(⟨w⟩:Ptr Wy))[c]?=_;rw[eH2,ab7 V];rfl);simp only at ay;have aC:=aL.inS (k:=c) (by show c<((M3 p).map λw=>(⟨w⟩:Ptr Wy)).length;unfold M3;simpa using V);have U:=hG m;rw[aJ,P3 V]at U;have ad:=az m ak;have t1:J4 prog (λC=>C=w2.drew) 9 (I2 u i) m:=sdq (N);have t2:=aR (· = w2.drew) w2.drew rfl λC h=>by subst h;exact b7 L
 simp only[i4,simprocAttr];refine C4 (· = w2.drew) 8 (A8 [0,1,2,3,4,5,6,7]) ?_;simp only[D7,A8,i4,n9,A6,simprocAttr,ah,h3,h4,W,t1,t2];refine B3 (ac5 sh (i5 p) m w2.drew (has.mono (b7 L)) (by rw[K0];omega)) (λw3 aO=>?_);have T:=L.trans aO;have a7:=a8 w3 (b7 T);rw[aJ];simp only[eF,simprocAttr,ah,a7];apply z6 (aQ1 (n8 w) sh (i5 p) c xx y w3 has (b7 T) pt.ok);rintro ui w4 ⟨S,aP⟩;have aM:=T.trans aP;have an:=aI.ext (aO.trans aP);have aD:((i5 p).of (c:Int)).length<=1000000:=by
  rw[pt.ok.of_,eK0,eE5];omega
 generalize(i5 p).of (c:Int)=l at S U Q aD;have aW:=S.isS;have a2:=S.vlen;generalize gg m=G at U A ad;subst U;simp only[eF,simprocAttr,aW,a2];refine B4 [0,4,5,29,30] (σ:=Nat×Value×List B9) (λs f C=>f 31=s.1/\f 3=s.2.1/\s.1<=l.length/\B7 (n8 w) C 9 s.2.1 s.2.2/\s.2.2.Nodup/\(∀x∈s.2.2,x∈p.procs.map (·.name))/\F.length<=s.2.2.length/\aa2 F ((l.filter λit=>decide (it.s.kind=4)&&(F7 (i5 p) c).lives it.s.id).map (·.s.proc))=aa2 s.2.2 (((l.drop s.1).filter λit=>decide (it.s.kind=4)&&(F7 (i5 p) c).lives it.s.id).map (·.s.proc))/\o6 w C) (λs=>l.length-s.1) (0,u,F) ?_ ?_
 .simp only[C9,simprocAttr];exact⟨tt,tt,eE2 _,an,al,I,eE8 _,by rw[eM9],aM⟩
 rintro⟨k,u5,o⟩ f5 w5 ⟨g0,g4,g5,ar,aV,_⟩ ⟨v,D,a0,ao,q,g,X,j,aa⟩;simp only at v D a0 ao q g X j;rw[ah]at g0;have bk:o.length<=p.procs.length:=by rw[<-aG];exact J5 q g
 simp only[eF,simprocAttr,v,aV];refine A7 (λH=>?_) ?_;rotate_left
 .rintro rfl;rw[eN6,filter_nil,map_nil,aa2]at j;rw[j]at A;rw[h4]at g4;simp only[eF,simprocAttr,g4];refine nx2 (i+1,u5,o) ⟨D,so,ao,q,g,?_,aa⟩;simp only[];rw[A]
  congr 1
  omega
 have W:=S.inS H;obtain⟨sv,aK,N⟩:=G1 (P:=prog) (t:=156) S (b7 aa) (eD1 H) ai4 ai5 ag5 M4;rw[M4]at N;have ae:=eE1 H;have aB:=Q _ ae;rw[eI2 H]at j;have M:(decide (l[k].s.kind=4)&&(F7 (i5 p) c).lives l[k].s.id)=true->l[k].s.proc∈p.procs.map (·.name):=λh=>ad _ (eF2.2 ⟨_,eF6.2 ⟨ae,h⟩,rfl⟩);generalize l[k]=it at aK j aB M;obtain⟨d,bG,O,ac,af,a6,av⟩:=az4 (aK.mono (b7 aa)) (n7 _);obtain⟨ax,_,_⟩:=av.it;obtain⟨_,_,_,_,_,_,_,_,_,a9,bc⟩:=ax.st;have ag:=a6.trans (o6.drew O);have J:=aa.trans ag;have aH:=ao.ext ag;have aA:∀C,o6 O.drew C->E6 (n8 w) (n8 C):=λC h=>b7 (J.trans h);have r1:=bc (o6 O.drew) O.drew (t8.refl _) λC h=>b7 ((o6.drew O).trans h);have r2:=aR (o6 O.drew) O.drew (t8.refl _) aA;have r3:=bW2 (P:=prog) (t:=160) aY aC9 (o6 O.drew) O.drew (t8.refl _) aA;have r:(decide (it.s.kind=4)&&(F7 (i5 p) c).lives it.s.id)=false->aa2 F ((l.filter λit=>decide (it.s.kind=4)&&(F7 (i5 p) c).lives it.s.id).map (·.s.proc))=aa2 o (((l.drop (k+1)).filter λit=>decide (it.s.kind=4)&&(F7 (i5 p) c).lives it.s.id).map (·.s.proc)):=λh=>by
  rw[j,filter_cons,h];rfl
 have E:(decide (it.s.kind=4)&&(F7 (i5 p) c).lives it.s.id)=true->aa2 F ((l.filter λit=>decide (it.s.kind=4)&&(F7 (i5 p) c).lives it.s.id).map (·.s.proc))=aa2 (if o.contains it.s.proc then o else o++[it.s.proc]) (((l.drop (k+1)).filter λit=>decide (it.s.kind=4)&&(F7 (i5 p) c).lives it.s.id).map (·.s.proc)):=λh=>by
  rw[j,filter_cons,h];rfl
 clear j;rcases eD2 (decide (it.s.kind=4))with hq|hq;rotate_left
 .rw[hq,Bool.false_and]at r;simp only[i4,n9,A6,simprocAttr,v,ar,W,N,ac,af];refine C4 (o6 O.drew) 22 (A8 [0,1,2,3,4,5,6,7,8,9,10,11,12,13,14,15,16,17,18,19,20,21]) ?_;simp only[D7,A8,i4,n9,simprocAttr,r1,hq,v];exact nx2 (k+1,u5,o) ⟨D,so,aH,q,g,X,r rfl,J⟩
 rw[hq,eJ4]at r E M;simp only[i4,n9,A6,simprocAttr,v,ar,W,N,ac,af];refine C4 (o6 O.drew) 22 (A8 [0,1,2,3,4,5,6,7,8,9,10,11,12,13,14,15,16,17,18,19,20,21]) ?_;simp only[D7,A8,i4,n9,A6,simprocAttr,g0,g5,r1,r2,r3,hq,aC];refine B3 (be6 aw (F7 (i5 p) c) p c xx y it.s.id O.drew (ay.mono (b7 J)) ap.toWyOk aB ap.live) (λw7 ab=>⟨ab,?_⟩);have B:=J.trans ab;have R:=aH.ext ab;generalize(F7 (i5 p) c).lives it.s.id=lv at r E M;rcases eD2 lv with aF|aF<;>subst aF;rotate_left
 .simp only[fe,simprocAttr,v];exact nx2 (k+1,u5,o) ⟨D,so,R,q,g,X,r rfl,B⟩
 have ba:=a9 w7 (b7 ((o6.drew O).trans ab));have Z:=E rfl;have M:=M rfl;simp only[fe,simprocAttr,D,r1];apply F6 (X0 u5 o it.s.proc w7 (R.rw_ (b7 B)) om);rcases eD2 (o.contains it.s.proc)with hq2|hq2
 .rw[fi hq2]at Z;simp only[eF,simprocAttr,hq2,v];exact nx2 (k+1,u5,o) ⟨D,so,R,q,g,X,Z,B⟩
 rw[fh (by rw[hq2];simp)]at Z;obtain⟨p1,u8,w8,p2,p3,p4,p5⟩:=push (P:=prog) (t:=22) (e:=22) aF0 rfl R (x:=it.s.proc) (y:=it.s.proc) rfl om om (b7 B);simp only[eF,simprocAttr,hq2,v,D,ba,p1,p2];refine nx4 (k+1,u8,o++[it.s.proc]) ⟨p3,?_,λz hz=>?_,by simp only[eD4];omega,Z,R.ext2 B p4⟩
 .simp only[];rw[eI6];refine⟨q,dG,λa ha b hb=>?_⟩;simp only[eE7]at hb;subst hb;rintro rfl;rw[eE6.2 ha]at hq2;cases hq2
 .rcases eE0.1 hz with h|h
  .exact g z h
  .simp only[eE7]at h;subst h;exact M
section
variable {w1 w:World} {g r:Nat} {ab:Addr} {vP:Value} {x:WX} {c:WC}
def dA0:∃a,prog.info? 89=some a/\a.size=1:=ay1 er8 er5
def WS.putN(s:WS w1 w g r ab vP x c){v' n}(z:B7 hZ w TAs v' (replicate n F0))(a:∀b,B0 v' b->w1.heap.size<=b/\∀i,¬Z5 g r x i b):
  ∃o,(Instr.storeAt 89 (.pointer (some ⟨g,6,none⟩)) v').run prog w = .ok () o/\WS w1 o g r ab vP {x with vn:=v',un:=replicate n F0} {c with N:=replicate n []}/\t8 (λb=>b=g) w o:=by
 obtain⟨F,q,v⟩:=dA0;obtain⟨o,C,D,f⟩:=cJ3 (k:=6) s.cb (by decide +kernel:6<8) z.isS q v;have E:=t8.ext_of s.ext f λb d=>by subst d;exact s.new 0 _ rfl
 have y:∀j b,Z5 g r {x with vn:=v',un:=replicate n F0} j b->(j≠5/\Z5 g r x j b)\/(j=5/\B0 v' b):=λj b h=>by
  match j,h with
  | 0,h=>exact .inl ⟨dR,h⟩
  | 1,h=>exact .inl ⟨dR,h⟩
  | 2,h=>exact .inl ⟨dR,h⟩
  | 3,h=>exact .inl ⟨dR,h⟩
  | 4,h=>exact .inl ⟨dR,h⟩
  | 5,h=>first|exact .inl ⟨dR,h⟩|exact .inr ⟨rfl,an9 h⟩
  | 6,h=>first|exact .inl ⟨dR,h⟩|exact .inr ⟨rfl,an9 h⟩
  | _+7,h=>exact h.elim
 have p:∀{i b:Nat},i≠0->Z5 g r x i b->¬b=g:=λB h=>s.off (j:=0) B h;have l:E1 hZ o TAs TAr v' (replicate n F0) (replicate n ([]:List (Int×Int))):=ar6 (z.mod f λb d u=>(a b d).2 0 u);have m:∀j b,Z5 g r {x with vn:=v',un:=replicate n F0} j b->w1.heap.size<=b:=λj b h=>by
  rcases y j b h with⟨_,h⟩|⟨_,h⟩
  .exact s.new j b h
  .exact(a b h).1
 have t:∀i j b,Z5 g r {x with vn:=v',un:=replicate n F0} i b->Z5 g r {x with vn:=v',un:=replicate n F0} j b->i=j:=λi j b h k=>by
  rcases y i b h with⟨_,h⟩|⟨e,h⟩<;>rcases y j b k with⟨_,k⟩|⟨A,k⟩
  .exact s.apart i j b h k
  .exact fj h ((a b k).2 i)
  .exact fj k ((a b h).2 j)
  .rw[e,A]
 have oV:=s.oV.mod f λb d=>p (i:=2) dR d;have oE:=s.oE.mod f λb d=>p (i:=3) dR d;have oS:=s.oS.mod f λb d=>p (i:=4) dR d;have rp:=s.rp.mod f λb d=>p (i:=6) dR d;exact⟨o,C,{ext:=E,cb:=D,map:=(s.map.mod f (p (i:=1) dR rfl)),oV:=oV,oE:=oE,oS:=oS,rn:=by first|exact l|exact rn,rp:=by first|exact l|exact rp,new:=m,apart:=t},f⟩
def WS.putP(s:WS w1 w g r ab vP x c){v' n}(z:B7 hZ w TAs v' (replicate n F0))(a:∀b,B0 v' b->w1.heap.size<=b/\∀i,¬Z5 g r x i b):
  ∃o,(Instr.storeAt 89 (.pointer (some ⟨g,7,none⟩)) v').run prog w = .ok () o/\WS w1 o g r ab vP {x with vp:=v',up:=replicate n F0} {c with P:=replicate n []}/\t8 (λb=>b=g) w o:=by
 obtain⟨F,q,v⟩:=dA0;obtain⟨o,C,D,f⟩:=cJ3 (k:=7) s.cb (by decide +kernel:7<8) z.isS q v;have E:=t8.ext_of s.ext f λb d=>by subst d;exact s.new 0 _ rfl
 have y:∀j b,Z5 g r {x with vp:=v',up:=replicate n F0} j b->(j≠6/\Z5 g r x j b)\/(j=6/\B0 v' b):=λj b h=>by
  match j,h with
  | 0,h=>exact .inl ⟨dR,h⟩
  | 1,h=>exact .inl ⟨dR,h⟩
  | 2,h=>exact .inl ⟨dR,h⟩
  | 3,h=>exact .inl ⟨dR,h⟩
  | 4,h=>exact .inl ⟨dR,h⟩
  | 5,h=>first|exact .inl ⟨dR,h⟩|exact .inr ⟨rfl,an9 h⟩
  | 6,h=>first|exact .inl ⟨dR,h⟩|exact .inr ⟨rfl,an9 h⟩
  | _+7,h=>exact h.elim
 have p:∀{i b:Nat},i≠0->Z5 g r x i b->¬b=g:=λB h=>s.off (j:=0) B h;have l:E1 hZ o TAs TAr v' (replicate n F0) (replicate n ([]:List (Int×Int))):=ar6 (z.mod f λb d u=>(a b d).2 0 u);have m:∀j b,Z5 g r {x with vp:=v',up:=replicate n F0} j b->w1.heap.size<=b:=λj b h=>by
  rcases y j b h with⟨_,h⟩|⟨_,h⟩
  .exact s.new j b h
  .exact(a b h).1
 have t:∀i j b,Z5 g r {x with vp:=v',up:=replicate n F0} i b->Z5 g r {x with vp:=v',up:=replicate n F0} j b->i=j:=λi j b h k=>by
  rcases y i b h with⟨_,h⟩|⟨e,h⟩<;>rcases y j b k with⟨_,k⟩|⟨A,k⟩
  .exact s.apart i j b h k
  .exact fj h ((a b k).2 i)
  .exact fj k ((a b h).2 j)
  .rw[e,A]
 have oV:=s.oV.mod f λb d=>p (i:=2) dR d;have oE:=s.oE.mod f λb d=>p (i:=3) dR d;have oS:=s.oS.mod f λb d=>p (i:=4) dR d;have rn:=s.rn.mod f λb d=>p (i:=5) dR d;exact⟨o,C,{ext:=E,cb:=D,map:=(s.map.mod f (p (i:=1) dR rfl)),oV:=oV,oE:=oE,oS:=oS,rn:=by first|exact l|exact rn,rp:=by first|exact l|exact rp,new:=m,apart:=t},f⟩
def WS.moreV(s:WS w1 w g r ab vP x c){w0 u}{ys:List Vx}(m:B7 (n8 w0) w 27 u ys)(o:∀b,B0 x.vV b->b<w0.heap.size)(p:c.V.length+ys.length<=1000000000000){e}:
  ∃f i a,(Builtin.append_ #[35,35] e #[x.vV,u]).run prog w = .ok f i/\(Instr.storeAt 35 (.pointer (some ⟨g,2,none⟩)) f).run prog i = .ok () a/\WS w1 a g r ab vP {x with vV:=f} {c with V:=c.V++ys}/\t8 (B0 x.vV) w i:=by
 obtain⟨v,d,k⟩:=ay1 (P:=prog) dJ9 dI3;have q:B7 (D9 w (B0 x.vV)) w 27 x.vV c.V:=s.oV.up (L4 _) λb j=>G2 j;have l:R (D9 w (B0 x.vV)) u ys:=m.flatRN λb j=>E9 λh=>by
  have:=o b h;have:=D4 (m.free j);omega
 obtain⟨f,i,y,z,n,A⟩:=W6 (P:=prog) (t:=35) (e:=e) aD8 rfl q l p om (B6 _ _);obtain⟨a,B,C,_⟩:=s.putV n (z.downN (L4 _)) A d k;exact⟨f,i,a,y,B,C,n⟩
def WS.moreE(s:WS w1 w g r ab vP x c){w0 u}{ys:List Eg}(m:B7 (n8 w0) w 54 u ys)(o:∀b,B0 x.vE b->b<w0.heap.size)(p:c.E.length+ys.length<=1000000000000){e}:
  ∃f i a,(Builtin.append_ #[49,49] e #[x.vE,u]).run prog w = .ok f i/\(Instr.storeAt 49 (.pointer (some ⟨g,3,none⟩)) f).run prog i = .ok () a/\WS w1 a g r ab vP {x with vE:=f} {c with E:=c.E++ys}/\t8 (B0 x.vE) w i:=by
 obtain⟨v,d,k⟩:=ay1 (P:=prog) dZ5 dZ0;have q:B7 (D9 w (B0 x.vE)) w 54 x.vE c.E:=s.oE.up (L4 _) λb j=>G2 j;have l:R (D9 w (B0 x.vE)) u ys:=m.flatRN λb j=>E9 λh=>by
  have:=o b h;have:=D4 (m.free j);omega
 obtain⟨f,i,y,z,n,A⟩:=W6 (P:=prog) (t:=49) (e:=e) cj9 rfl q l p om (B6 _ _);obtain⟨a,B,C,_⟩:=s.putE n (z.downN (L4 _)) A d k;exact⟨f,i,a,y,B,C,n⟩
end
def Wh(w0 w:World)(p:Pg)(u:Value)(C S:List Eg):Prop:=∃(a:World) (g r:Nat) (b:Addr) (c:Value) (x:WX),u = .pointer (some ⟨g,0,none⟩)/\o6 w0 a/\At (n8 a) b (b9 p)/\R (n8 a) c (b9 p).reached /\
 WS a w g r b c x ⟨(b9 p).wv,(b9 p).we,S,as6 (b9 p).wv,ae3 (b9 p).wv ((b9 p).we++C),ae5 (b9 p).wv ((b9 p).we++C)⟩
def du9(ab vP r)(hS:isS vP=true):D0 prog 91 [(0,.pointer (some ab)),(1,vP),(5,.map (some r))]=some (.agg (wcs ab vP r ⟨.slice none 0 0,.slice none 0 0,.slice none 0 0,.slice none 0 0,[],.slice none 0 0,[]⟩)):=by
 have a:(Value.pointer (some ab)).cells=#[.pointer (some ab)]:=rfl;have b:(Value.map (some r)).cells=#[.map (some r)]:=rfl;simp[D0,er2,M2,Instr.fill,G3 hS,a,b,wcs]
def wc0:WC:=⟨[],[],[],[],[],[]⟩
def wx0:WX:=⟨(),(),(),(),[],(),[]⟩
def WS.start(wb ab vP t):(Instr.makeMap t none).run prog wb = .ok (.map (some wb.heap.size)) (wb.alloc (.map #[] 0)) /\
  (Instr.box 91 (.agg (wcs ab vP wb.heap.size wx0))).run prog (wb.alloc (.map #[] 0)) = .ok (.pointer (some ⟨wb.heap.size+1,0,none⟩)) ((wb.alloc (.map #[] 0)).alloc (.cells (wcs ab vP wb.heap.size wx0) TWh)) /\
  WS wb ((wb.alloc (.map #[] 0)).alloc (.cells (wcs ab vP wb.heap.size wx0) TWh)) (wb.heap.size+1) wb.heap.size ab vP wx0 wc0:=by
 obtain⟨n,o,p⟩:=aC0.new (P:=prog) (enc:=Vx.enc) wb t;have c:(wb.alloc (.map #[] 0)).heap.size=wb.heap.size+1:=dG
 have a:(Instr.box 91 (.agg (wcs ab vP wb.heap.size wx0))).run prog (wb.alloc (.map #[] 0)) = .ok (.pointer (some ⟨(wb.alloc (.map #[] 0)).heap.size,0,none⟩)) ((wb.alloc (.map #[] 0)).alloc (.cells (wcs ab vP wb.heap.size wx0) TWh)):=rfl;rw[c]at a;have d:=o6.alloc (wb.alloc (.map #[] 0)) (.cells (wcs ab vP wb.heap.size wx0) TWh);have l:=eH3 (wb.alloc (.map #[] 0)) (.cells (wcs ab vP wb.heap.size wx0) TWh);rw[c]at l;have f:∀j b,Z5 (wb.heap.size+1) wb.heap.size wx0 j b->(j=0/\b=wb.heap.size+1)\/(j=1/\b=wb.heap.size):=λj b h=>by
  match j,h with
  | 0,h=>exact .inl ⟨rfl,h⟩
  | 1,h=>exact .inr ⟨rfl,h⟩
  | 2,h=>exact fj h E7
  | 3,h=>exact fj h E7
  | 4,h=>exact fj h E7
  | 5,h=>
   rcases h with h|⟨u,g,_⟩
   .exact fj h E7
   .cases g
  | 6,h=>
   rcases h with h|⟨u,g,_⟩
   .exact fj h E7
   .cases g
  | _+7,h=>exact h.elim
 refine⟨n,a,p.trans d,l,o.mod d id,B7.nil _ _ _,B7.nil _ _ _,B7.nil _ _ _,E1.nil _ _ _ _,E1.nil _ _ _ _,λj b h=>?_,λi j b h k=>?_⟩
 .rcases f j b h with⟨_,rfl⟩|⟨_,rfl⟩<;>omega
 .rcases f i b h with⟨e,h⟩|⟨e,h⟩<;>rcases f j b k with⟨m,k⟩|⟨m,k⟩<;>omega
def WS.keyN{w1 w g r ab vP x}{c:WC}(s:WS w1 w g r ab vP x c){a:Vx}(d:al0 c.kv a=none)(v):
  ∃b,(Instr.mapUpdate 88 (.map (some r)) a v).run prog w = .ok () b/\WS w1 b g r ab vP x {c with kv:=c.kv++[(a,v)]}:=s.key d v
def dQ4{V:List Vx}{k}(a:k<V.length):as6 (V.take (k+1))=as6 (V.take k)++[(V[k],.int .i64 (k:Int))]:=by
 rw[eD9 a,dQ3,eE5,eJ7 (Nat.le_of_lt a)]
def es1{p}(b:E3 p)(hw:C1 p<=1000000):∀v∈(b9 p).wv,v.id=0\/(1<=v.id/\v.id<=(i5 p).l.length):=λv j=>by
 obtain⟨i,g,_,_,d⟩:=av9 b.toKnown j;obtain⟨y,k⟩:=K1 b.may hw i g;have c:∀it∈(i5 p).of (i:Int),1<=it.s.id/\it.s.id<=(i5 p).l.length:=λit a=>by
  obtain⟨e,_,l⟩:=bt2 b.may (bc7 k a);have:=(eD8.1 e).1;omega
 have h:(b9 p).s=i5 p:=rfl;rcases S6.1 d with rfl|⟨_,_,rfl⟩|⟨_,_,rfl⟩|⟨it,a,f⟩
 .exact .inl rfl
 .exact .inl rfl
 .exact .inl rfl
 .rw[h]at a;rcases f with rfl|⟨_,⟨n,_,rfl⟩|⟨n,_,rfl⟩⟩<;>exact .inr (c it a)
def dm8{g r x va n i b}(h:Z5 g r {x with vn:=va,un:=replicate n F0} i b):Z5 g r x i b\/B0 va b:=by
 match i,h with
 | 0,h=>exact .inl h
 | 1,h=>exact .inl h
 | 2,h=>exact .inl h
 | 3,h=>exact .inl h
 | 4,h=>exact .inl h
 | 5,h=>exact .inr (an9 h)
 | 6,h=>exact .inl h
 | _+7,h=>exact h.elim
def mkA{w}{n:Nat}(hn:n<=1000000):∃v a,(Instr.makeSlice 89 n n).run prog w = .ok v a/\B7 hZ a TAs v (replicate n F0)/\o6 w a/\(∀b,B0 v b->w.heap.size<=b):=by
 have g:A9.enc hZ (Value.slice none 0 0).cells.toList F0:=⟨rfl,rfl⟩;obtain⟨v,a,c,d,e,f,_⟩:=mk (P:=prog) (w:=w) (h:=hZ) ep0 dJ5 (α:=Raw) (y:=F0) g (n:=n) om om (L4 _);exact⟨v,a,c,d,e,f⟩
def an7(v:Value)(p w)(hv:SV (n8 w) v p)(hw:C1 p<=1000000):
  p7 prog 48 #[v] w λu a=>((C8 p=false->u = .pointer none)/\(C8 p=true->Wh w a p u [] [])/\o6 w a):=by
 apply y5 [v] func48 rfl;obtain⟨cb,wa,b5,co,bu⟩:=L3 hv (n7 _);obtain⟨sp,ci,bK,_⟩:=bu.pg_v;have l1:=bK wa (n7 _);simp only[eF,simprocAttr,b5,l1];apply z6 (cW0 sp p wa ci hw);rintro u w2 ⟨hf,ht,ck⟩;have aK:=co.trans ck;cases hR:C8 p
 .obtain rfl:=hf hR;simp only[eF,simprocAttr,bU5];exact o8 results48 ⟨λ_=>rfl,λh=>(by cases h),aK⟩
 obtain⟨M,rfl,br⟩:=ht hR;have J:=D6 hR;have K:=J.toKnown;have bw:=bd1 J;have Z:=bQ1 J hw;have cU:=ah0 J hw;have ce:=Z7 J hw;have bD:=J3 K;have bJ:=es1 J hw;have cD:=dd6 J hw;have cT:=bo9 J hw;have ag:=λn hn=>U6 K (n:=n) hn;have aC:(b9 p).wv=(b9 p).reached.flatMap λn=>(b9 p).verts ((b9 p).s.pr n):=rfl;have ac:(b9 p).we0=((b9 p).reached.flatMap λn=>(b9 p).edges ((b9 p).s.pr n))++(b9 p).wv.flatMap (b9 p).joinOf:=rfl;have b0:(b9 p).we=ac6 (b9 p).we0:=rfl;have hs:(b9 p).s=i5 p:=rfl;have ca:(i5 p).p.procs.length<=1000000000:=by
  rw[K0];have:=cr3 J.may;omega
 simp only[eF,simprocAttr,bU5];apply z6 (cF7 M p w2 br J hw);rintro U D ⟨cg,a7⟩;have aL:=aK.trans a7;have F:=br.mono (b7 a7);have T:R (n8 D) U (b9 p).reached:=cg.rw_ (b7 a7);have bn:=T.isS;have cc:=T.vlen;obtain⟨m1,m2,s0⟩:=WS.start D M U 88;have aY:=du9 M U D.heap.size bn;have cj:(⟨(),(),(),(),[],(),[]⟩:WX)=wx0:=rfl;rw[cj]at aY;have l4:=s0.ld (i:=1) (u:=U) rfl ab6;generalize(D.alloc (.map #[] 0)).alloc (.cells (wcs M U D.heap.size wx0) TWh)=w4 at m2 s0 l4;generalize hg:D.heap.size+1=g at m2 s0 l4;generalize cR:D.heap.size=r at m1 m2 s0 aY;obtain⟨sh,_,_,_,_,_,has,_,_,_,_,_,cs,_⟩:=F.book rfl;simp only[eF,simprocAttr,aJ0,m1,aY,m2,l4,bn,cc];generalize bp:(λn=>(b9 p).verts ((b9 p).s.pr n))=Vn at aC;generalize bk:(λn=>(b9 p).edges ((b9 p).s.pr n))=En at ac Z;have ae:∀n,Vn n=(b9 p).verts ((i5 p).pr n):=λn=>by rw[<-bp];rfl
 have aa:∀n,En n=(b9 p).edges ((i5 p).pr n):=λn=>by rw[<-bk];rfl
 have aD:∀n∈(b9 p).reached,(Vn n).length<=30000:=λn hn=>by
  obtain⟨i,X,e,_⟩:=ag n hn;rw[ae,<-hs,e];exact aQ7 J hw X
 have aB:∀n∈(b9 p).reached,(En n).length<=60000000:=λn hn=>by
  obtain⟨i,X,e,_⟩:=ag n hn;rw[aa,<-hs,e];exact ce5 J hw X
 generalize b2:(b9 p).reached=C at T aC ac Z bw aD aB ag;refine B4 [3,4,25,26] (σ:=Nat×Value×Value) (λt f a=>f 27=t.1/\t.1<=C.length/\WS D a g r M U {wx0 with vV:=t.2.1,vE:=t.2.2} {wc0 with V:=(C.take t.1).flatMap Vn,E:=(C.take t.1).flatMap En}) (λt=>C.length-t.1) (0,(),()) ?_ ?_
 .exact⟨rfl,eE2 _,s0⟩
 clear s0;rintro⟨k,Y,ve⟩ f w5 ⟨e3,e4,bV,bW,_⟩ ⟨aA,aZ,Q⟩;simp only at aA aZ Q;simp only[eF,simprocAttr,aA,bW];refine A7 (λc=>?_) ?_
 .have aj:=T.inS c;have G:=ldS T Q.base c;have ak:=eE1 c;have aW:=M1 Vn C c;have aS:=M1 En C c;have bo:((C.take k).flatMap Vn).length<=480000:=by
   have h1:=U3 Vn 30000 (C.take k) λz hz=>aD z (eL5 hz);rw[eE5]at h1;have h2:min k C.length<=16:=om
   omega
  have bj:((C.take k).flatMap En).length<=960000000:=by
   have h1:=U3 En 60000000 (C.take k) λz hz=>aB z (eL5 hz);rw[eE5]at h1;have h2:min k C.length<=16:=om
   omega
  have bq:=aD _ ak;have bl:=aB _ ak;obtain⟨i,X,aF,_⟩:=ag _ ak;rw[hs]at aF;have af:=ae C[k];have ab:=aa C[k];rw[aF]at af ab;generalize C[k]=n at G aW aS bq bl aF af ab;generalize cO:(C.take k).flatMap Vn=VV at Q aW bo;generalize bY:(C.take k).flatMap En=EE at Q aS bj;have cr:=cs w5 Q.base;simp only[i4,n9,A6,simprocAttr,aA,e3,bV,aj,G,cr];refine B3 (ac5 sh (i5 p) n w5 (has.mono Q.base) ca) (λw6 cl=>?_);have s6:=(Q.more cl).more (o6.drew w6);rw[aF];have t1:J4 prog (λa=>t8 (B0 Y) w6.drew a) 35 ⟨g,2,none⟩ Y:=sdx λa h=>F9 ((h.block g (s6.lt (i:=0) rfl) (s6.off (i:=0) (j:=2) dR rfl)).trans s6.cb) rfl Z4;simp only[i4,simprocAttr];refine C4 (t8 (B0 Y) w6.drew) 9 (A8 [0,1,2,3,4,5,6,7,8]) ?_;simp only[D7,A8,i4,n9,simprocAttr,e3,e4,t1];apply z6 (aR4 M p i w6.drew (F.mono s6.base) J hw X);rintro uv w7 ⟨bG,ap⟩;refine⟨t8.up ap,?_⟩;rw[<-af]at bG;have s7:=s6.more ap;obtain⟨v8,w8,A,p1,p2,s9,p3⟩:=s7.moreV bG (λb m=>s6.lt (i:=2) m) so (e:=35);simp only at p1 s9 p3;rw[<-aW]at s9;simp only[fe,simprocAttr,p1,F2];refine⟨(t8.up ap).trans p3,?_⟩;have L:=s9.more (o6.drew A);have t2:J4 prog (λa=>t8 (B0 ve) A.drew a) 49 ⟨g,3,none⟩ ve:=sdx λa h=>F9 ((h.block g (L.lt (i:=0) rfl) (L.off (i:=0) (j:=3) dR rfl)).trans L.cb) rfl bd8;simp only[i4,simprocAttr,p2];refine C4 (t8 (B0 ve) A.drew) 9 (A8 [0,1,2,3,4,5,6,7,8]) ?_;simp only[D7,A8,i4,n9,simprocAttr,e3,e4,t2];apply z6 (de5 M p i A.drew (F.mono L.base) J hw X);rintro ue c8 ⟨bF,ao⟩;refine⟨t8.up ao,?_⟩;rw[<-ab]at bF;have H:=L.more ao;obtain⟨cw,c9,da,q1,q2,I,q3⟩:=H.moreE bF (λb m=>L.lt (i:=3) m) so (e:=49);simp only at q1 I q3;rw[<-aS]at I;simp only[fe,simprocAttr,q1,F2];refine⟨(t8.up ao).trans q3,?_⟩;simp only[eF,simprocAttr,q2,aA];exact U5 (k+1,v8,cw) I
 rintro rfl;rw[eE4,<-aC]at Q;generalize bY:C.flatMap En=EE at Q ac Z;clear aC aD aB ag bp bk ae aa;generalize b1:(b9 p).wv.flatMap (b9 p).joinOf=Jn at ac;have l5:=Q.ld (i:=2) (u:=Y) rfl Z4;have aV:=Q.oV.isS;have a1:=Q.oV.vlen;simp only at aV a1;generalize hV:(b9 p).wv=V at *;simp only[eF,simprocAttr,e4,l5,aV,a1];refine B4 [3,4,63,64] (σ:=Nat) (λk f a=>f 65=k/\k<=V.length/\WS D a g r M U {wx0 with vV:=Y,vE:=ve} {wc0 with V:=V,E:=EE,kv:=as6 (V.take k)}) (λk=>V.length-k) 0 ?_ ?_
 .exact⟨rfl,eE2 _,Q⟩
 clear Q l5;rintro k f6 w6 ⟨a3,a4,bS,bT,_⟩ ⟨aR,cC,s6⟩;rw[e3]at a3;rw[e4]at a4;simp only[eF,simprocAttr,aR,bT];refine A7 (λc=>?_) ?_
 .have aU:=s6.rV;simp only at aU;have aj:=aU.inS c;obtain⟨sv,an,G⟩:=G1 (P:=prog) (t:=27) aU (n7 _) (eD1 c) aB7 aB8 av4 R3;rw[R3]at G;have bz:=dQ4 c;have cf:V[k]∉V.take k:=λh=>by
   have h2:=eD9 c;have h3:(V.take (k+1)).Nodup:=ce.sublist (take_sublist _ _);rw[h2,eI6]at h3;exact h3.2.2 _ h _ dG rfl
  have bC:=ec2 cf;generalize V[k]=y at an bz bC;obtain rfl:=an.N;obtain⟨d7,dd,w7,aX,a5,ap,bs⟩:=aF4 (w:=w6) (λ_=>False) (SV.ofN (n8 w6) y) λb m=>m.elim;have s7:=s6.more (ap.trans (o6.drew w7));have t1:=(L8.vx_v (SV.ofN (n8 w6) y) bs).2 (· = w7.drew) w7.drew rfl λa h=>by subst h;exact B6 w7 _
  have t2:J4 prog (λa=>a=w7.drew) 88 ⟨g,5,none⟩ (.map (some r)):=sdq (s7.ld rfl bJ8);obtain⟨w8,q1,s8⟩:=s7.keyN bC k;simp only at s8;rw[<-bz]at s8;simp only[i4,n9,A6,simprocAttr,aR,bS,aj,G,aX,a5];refine C4 (· = w7.drew) 6 (A8 [0,1,2,3,4,5]) ?_;simp only[D7,A8,i4,n9,simprocAttr,a4,aR,t1,t2,aE8,q1];exact U5 (k+1) s8
 rintro rfl;rw[eE4]at s6;simp only[i4,simprocAttr,a4];apply z6 (dq2 s6 F J hw bJ so so);rintro _ w7 ⟨v7,s7⟩;simp only at s7;rw[b1,<-ac]at s7;have l7:=s7.ld (i:=3) (u:=v7) rfl bd8;simp only[eF,simprocAttr,a4,l7];apply z6 (aR3 s7.oE so (L4 _));rintro u8 w8 ⟨a2,bA,bv⟩;simp only at a2 bA bv;rw[<-b0]at a2;obtain⟨cV,bx,b8⟩:=cB5;obtain⟨A,q1,s9,_⟩:=s7.putE bA a2 (λb m=>.inl (bv b m)) bx b8;simp only at s9;have L:=s9.more (o6.drew A);have al:V.length<=1000000:=om
 generalize aG:({wx0 with vV:=Y,vE:=u8}:WX)=xA at L;have lA:(Instr.loadAt 35 (.pointer (some ⟨g,2,none⟩))).run prog A.drew = .ok Y A.drew:=L.ld (by rw[<-aG];rfl) Z4;have t2:∀K f d a8,X8 prog (λa=>t8 (λb=>b=g) A.drew a/\(Instr.loadAt 35 (.pointer (some ⟨g,2,none⟩))).run prog a = .ok Y a) (Instr.loadAt 35 (.pointer (some ⟨g,2,none⟩))) K f d a8=K (G9 f d Y) a8:=λK f d a8=>L5 (w0:=A.drew) ⟨t8.refl _,lA⟩ λa h=>h.2;simp only[eF,simprocAttr,q1];refine bj3 [4] (λa=>t8 (λb=>b=g) A.drew a/\(Instr.loadAt 35 (.pointer (some ⟨g,2,none⟩))).run prog a = .ok Y a) 17 (.op 0 (.op 1 (.op 2 (.op 3 (.op 4 (.op 5 (.op 6 (.op 8 (.op 9 (.op 10 (.op 11 (.op 12 (.fork [7,13] (λi=>if i=7 then(.op 14 (.op 15 (.fork [13,16] (λi=>if i=13 then(A8 [16])else(A8 [13])))))else(A8 [7,14,15,16])))))))))))))))
  (λf' a=>∃l q,f' 100=q/\f' 88 = .pointer (some ⟨g,0,none⟩)/\WS D a g r M U {xA with vn:=l,un:=replicate V.length F0} {wc0 with V:=V,E:=(b9 p).we,kv:=as6 V,N:=replicate V.length []}/\B7 hZ a TAs q (replicate V.length F0)/\(∀b,B0 q b->D.heap.size<=b/\∀i,¬Z5 g r {xA with vn:=l,un:=replicate V.length F0} i b))
  (by decide +kernel) (by decide +kernel) ⟨t8.refl _,lA⟩ ?_ ?_
 .have B:∀a,WS D a g r M U xA {wc0 with V:=V,E:=(b9 p).we,kv:=as6 V}->(Instr.loadAt 35 (.pointer (some ⟨g,2,none⟩))).run prog a = .ok Y a:=λa s=>s.ld (by rw[<-aG];rfl) Z4;have o:∀a l,WS D a g r M U {xA with vn:=l,un:=replicate V.length F0} {wc0 with V:=V,E:=(b9 p).we,kv:=as6 V,N:=replicate V.length []}->(Instr.loadAt 35 (.pointer (some ⟨g,2,none⟩))).run prog a = .ok Y a:=λa l s=>s.ld (by rw[<-aG];rfl) Z4;have hE:∀a,o6 A.drew a->t8 (λb=>b=g) A.drew a:=λa h=>h.weaken λ_ _ h=>h.elim;have am:∀(l:Value),(∀b,B0 l b->A.drew.heap.size<=b)->∀b,B0 l b->D.heap.size<=b/\∀i,¬Z5 g r xA i b:=λl bH b m=>⟨eD7 L.ext.size (bH b m),λi h=>by have:=L.lt h;have:=bH b m;omega⟩;have ah:∀(l q:Value),(∀b,B0 q b->A.drew.heap.size<=b)->(∀b,B0 l b->¬B0 q b)->∀b,B0 q b->D.heap.size<=b/\∀i,¬Z5 g r {xA with vn:=l,un:=replicate V.length F0} i b:=λl q bI hd b m=>⟨(am q bI b m).1,λi h=>by
   rcases dm8 h with h|h
   .exact(am q bI b m).2 i h
   .exact hd b h m⟩
  simp only[D7,A8,i4,n9,simprocAttr,a4,t2,aV,a1];refine X2 (by decide +kernel) (λi X=>?_);simp only[eF0,eH6,eM0]at X;rcases X with rfl|rfl
  .obtain⟨l,wA,m1,oa,W,fa⟩:=mkA (w:=A.drew) al;have H:=L.more W;simp only[fe,simprocAttr,m1,F2];refine⟨⟨hE _ W,B _ H⟩,?_⟩;refine X2 (by decide +kernel) (λi X=>?_);simp only[eF0,eH6,eM0]at X;rcases X with rfl|rfl
   .obtain⟨q,wB,m2,ob,S,fb⟩:=mkA (w:=wA) al;have I:=H.more S;obtain⟨wC,q3,sD,x⟩:=I.putN (oa.ext S) (am l fa);have aE:∀b,B0 q b->A.drew.heap.size<=b:=λb m=>eD7 W.size (fb b m);simp only[eY,simprocAttr,m2,q3,F2];refine⟨⟨hE _ (W.trans S),B _ I⟩,⟨(hE _ (W.trans S)).trans x,o _ _ sD⟩,l,q,tt,tt,sD,ob.mod x λb m b3=>?_,ah l q aE λb h1 h2=>?_⟩
    .have:=L.lt (i:=0) rfl;have:=aE b m;omega
    .have:=oa.lt h1;have:=fb b h2;omega
   .obtain⟨wB,q3,sD,x⟩:=H.putN oa (am l fa);obtain⟨q,wC,m2,ob,S,fb⟩:=mkA (w:=wB) al;have aE:∀b,B0 q b->A.drew.heap.size<=b:=λb m=>eD7 W.size (eD7 x.size (fb b m));simp only[eY,simprocAttr,m2,q3,F2];refine⟨⟨(hE _ W).trans x,o _ _ sD⟩,⟨((hE _ W).trans x).trans (S.weaken λ_ _ h=>h.elim),o _ _ (sD.more S)⟩,l,q,tt,tt,sD.more S,ob,ah l q aE λb h1 h2=>?_⟩;have:=oa.lt h1;have:=fb b h2;have:=x.size;omega
  .obtain⟨q,wA,m2,ob,S,fb⟩:=mkA (w:=A.drew) al;obtain⟨l,wB,m1,oa,W,fa⟩:=mkA (w:=wA) al;have H:=L.more S;have I:=H.more W;have b6:∀b,B0 l b->A.drew.heap.size<=b:=λb m=>eD7 S.size (fa b m);obtain⟨wC,q3,sD,x⟩:=I.putN oa (am l b6);simp only[fe,simprocAttr,m1,m2,q3,F2];refine⟨⟨hE _ S,B _ H⟩,⟨hE _ (S.trans W),B _ I⟩,⟨(hE _ (S.trans W)).trans x,o _ _ sD⟩,l,q,tt,tt,sD,(ob.ext W).mod x λb m b3=>?_,ah l q fb λb h1 h2=>?_⟩
   .have:=L.lt (i:=0) rfl;have:=fb b m;omega
   .have:=ob.lt h2;have:=fa b h1;omega
 rintro fA wA hk ⟨l,q,bi,bX,H,ob,cd⟩;simp only[eF8,C9,simprocAttr]at hk;obtain⟨b4,_⟩:=hk;obtain⟨wC,q3,I,_⟩:=H.putP ob cd;simp only at I;generalize cm:({xA with vn:=l,un:=replicate V.length F0,vp:=q,up:=replicate V.length F0}:WX)=xC at I;have a6:xC.vE=u8:=by rw[<-cm,<-aG]
 have lC:=I.ld (i:=3) (u:=u8) (by rw[<-a6];rfl) bd8;have bm:=I.oE.isS;have a0:=I.oE.vlen;rw[a6]at bm a0;simp only at a0;generalize bZ:(b9 p).we=Es at *;have bL:WS D wC g r M U xC {wc0 with V:=V,E:=Es,kv:=as6 V,N:=ae3 V (Es.take 0),P:=ae5 V (Es.take 0)}:=by
  rw[eN9,dm7,dn4];exact I
 simp only[fe,simprocAttr,b4,a4,bi,bX,q3,lC,bm,a0];refine B4 [4,108,109] (σ:=Nat×List Raw×List Raw) (λt f a=>f 110=t.1/\t.1<=Es.length/\WS D a g r M U {xC with un:=t.2.1,up:=t.2.2} {wc0 with V:=V,E:=Es,kv:=as6 V,N:=ae3 V (Es.take t.1),P:=ae5 V (Es.take t.1)}) (λt=>Es.length-t.1) (0,xC.un,xC.up) ?_ ?_
 .exact⟨rfl,eE2 _,bL⟩
 clear I bL;rintro⟨k,un,up⟩ fB wB ⟨c4,bf,bg,_⟩ ⟨O,aZ,H⟩;simp only at O aZ H;rw[b4,a4]at c4;simp only[eF,simprocAttr,O,bg];refine A7 (λc=>?_) ?_;rotate_left
 .rintro rfl;rw[eE4]at H;simp only[i4,simprocAttr,c4];apply o8 results48;simp only[C9,simprocAttr];refine⟨λh=>(by cases h),λ_=>⟨D,g,r,M,U,{xC with un:=un,up:=up},rfl,aL,F,(by rw[b2];exact T),?_⟩,aL.trans H.ext⟩;rw[hV,bZ,eG5];exact H
 have aT:=H.rE;simp only[a6]at aT;have aj:=aT.inS c;obtain⟨sv,an,G⟩:=G1 (P:=prog) (t:=54) aT (n7 _) (eD1 c) bJ7 bK1 bk6 aw4;rw[aw4]at G;have bE:=eD9 c;generalize Es[k]=e at an bE;obtain rfl:=an.N;obtain⟨d,wz,wD,aX,a5,cn,bt⟩:=ct6 (w:=wB) (λ_=>False) (SV.ofN (n8 wB) e) λb m=>m.elim;have sD:=H.more cn;have lD:=(L8.eg_v (SV.ofN (n8 wB) e) bt).1 wD (B6 _ _);simp only[i4,n9,A6,simprocAttr,O,c4,bf,aj,G,aX,a5,lD];apply z6 (da2 sD rfl (Es.take k) rfl rfl bD so (by rw[eE5];omega) e);rintro _ wE ⟨u1,u2,sE,_,_⟩;simp only at sE;rw[<-bE]at sE;simp only[eF,simprocAttr,O];exact U5 (k+1,_,_) sE
def cV3{P}{α:Type}[A9 α]{h}{w:World}{N:Nat->Prop}{T v}{x:α}(hv:SV h v x)(hN:∀b,N b->b<w.heap.size){z:Value}(k:I7 P T=some z)(c:z.cells.size=O7 P T)(j:O7 P T=A9.sz α):
  ∃a e d,(Instr.alloc T true (.tuple #[])).run P w = .ok (.pointer (some a)) e/\(Instr.storeAt T (.pointer (some a)) v).run P e = .ok () d/\o6 w e/\o6 w d/\L8 (D9 d N) a v:=by
 obtain⟨cs,rfl,f⟩:=hv;obtain⟨g,i⟩:=aE6 (P:=P) (w:=w) (T:=T) k c (cs:=toArray cs) (by simpa[j]using A9.len f) (by simpa using A9.one f);exact⟨_,_,_,g,i,o6.alloc w _,o6.alloc w _,cm9 hN⟩
def bt7{h w v}{V:List Vx}(c:R h v V)(hw:E6 h (n8 w)){k}{y:Vx}(d:V[k]?=some y):(Instr.loadAt 27 (I2 v (k*4))).run prog w = .ok y w:=by
 obtain⟨e,b,a⟩:=G1 (P:=prog) (t:=27) c hw d aB7 aB8 av4 R3;rw[R3]at a;obtain rfl:=b.N;exact a
def wcC(p:Pg)(C S:List Eg):WC:=⟨(b9 p).wv,(b9 p).we,S,as6 (b9 p).wv,ae3 (b9 p).wv ((b9 p).we++C),ae5 (b9 p).wv ((b9 p).we++C)⟩
structure HS (p:Pg) (w1 w:World) (g r:Nat) (ab:Addr) (vP:Value) (rh:Nat) (x:WX) (C:List Eg):Prop where
 ws:WS w1 w g r ab vP x (wcC p C C)
 has:aC0 cN2 w rh (bs7 (b9 p).wv C)
 ge:w1.heap.size<=rh
 off:∀i,¬Z5 g r x i rh
 sum:bq3 p C
def hN(g r a:Nat)(x:WX)(b:Nat):Prop:=b=a\/ct8 g r x b
section
variable {p:Pg} {w1 w:World} {g r:Nat} {ab:Addr} {vP:Value} {rh:Nat} {x:WX} {C:List Eg}
def HS.lt(s:HS p w1 w g r ab vP rh x C){b}(h:hN g r rh x b):b<w.heap.size:=by
 rcases h with rfl|⟨i,h⟩
 .exact s.has.lt
 .exact s.ws.lt h
def HS.more(s:HS p w1 w g r ab vP rh x C){w'}(a:o6 w w'):HS p w1 w' g r ab vP rh x C:=⟨s.ws.more a,s.has.mod a id,s.ge,s.off,s.sum⟩
def HS.kinds(s:HS p w1 w g r ab vP rh x C):∀e∈C,e.kind=3/\e.src∈(b9 p).wv/\e.dst∈(b9 p).wv:=λe a=>⟨(s.sum.kind a).1,(s.sum.kind a).2.1,(s.sum.kind a).2.2.1⟩
end
def bH5(V:List Vx)(a:B9)(t:Int×Int)(e:Eg):Prop:=t.2=6/\∃v,V[t.1.toNat]?=some v/\(⟨v.proc,5,v.id,a⟩:Vx)∈V/\e=⟨⟨v.proc,5,v.id,a⟩,v,3⟩
def dy5{V:List Vx}{L:List Eg}{out}{a:B9}{b e:Eg}(j:b∈L)(i:e∈aI0 V out a b):∃t∈(L.filter λe=>decide (C5 V e.src=out)).map (λe=>(((C5 V e.dst:Nat):Int),e.kind)),bH5 V a t e:=by
 obtain⟨⟨c,d⟩,v,f,g,h⟩:=aA6.1 i;exact⟨_,eF2.2 ⟨b,eF6.2 ⟨j,by simpa using d⟩,rfl⟩,c,v,by simpa using f,g,h⟩
def dy6{V:List Vx}{L:List Eg}{out}{a:B9}{e:Eg}{t:Int×Int}(k:t∈(L.filter λe=>decide (C5 V e.src=out)).map (λe=>(((C5 V e.dst:Nat):Int),e.kind)))(h:bH5 V a t e):∃c∈L,e∈aI0 V out a c:=by
 obtain⟨c,b,rfl⟩:=eF2.1 k;obtain⟨b,f⟩:=eF6.1 b;obtain⟨d,v,g,i,j⟩:=h;exact⟨c,b,aA6.2 ⟨⟨d,eD3 f⟩,v,by simpa using g,i,j⟩⟩
def dy7{p w1 w}{g r:Nat}{ab:Addr}{vP:Value}{B:Nat}{x:WX}{C:List Eg}(s:HS p w1 w g r ab vP B x C)(hR:C8 p=true)(hw:C1 p<=1000000)(al j:Nat){vi vo:Vx}(ba:(b9 p).wv[al]?=some vi)(cb:vi.kind=3)(aK:(b9 p).wv[j]?=some vo)(ce:vo.kind=4)
  (bI:Y6 (V7 (b9 p).wv ((b9 p).we++C) [1,2,3]) (al:Int) (j:Int)) :
  p7 prog 90 #[.pointer (some ⟨g,0,none⟩),.int .i64 al,.int .i64 j,.map (some B)] w λu l=>(∃(o:Bool) (x':WX) (W:List Eg),u = .bool o/\HS p w1 l g r ab vP B x' W/\(∀e∈C,e∈W)/\(o=false->W=C)/\(o=true->C.length<W.length) /\
   (∀xe∈(b9 p).we++C,∀e∈aI0 (b9 p).wv j vi.slot xe,e∈W)/\t8 (hN g r B x) w l/\(∀i b,Z5 g r x' i b->Z5 g r x i b\/w.heap.size<=b)/\x'.vV=x.vV):=by
 refine y5 [.pointer (some ⟨g,0,none⟩),.int .i64 al,.int .i64 j,.map (some B)] func90 rfl ?_;have hr:=D6 hR;have h0:=J3 hr.toKnown;have hn:=ah0 hr hw;have cp:=bo9 hr hw;have ck:j<(b9 p).wv.length:=(eD8.1 aK).1;have b2:al<(b9 p).wv.length:=(eD8.1 ba).1;have aU:∀{a:Nat} {v:Vx},(b9 p).wv[a]?=some v->C5 (b9 p).wv v=a:=λh=>bM2 (Z7 hr hw) h;have cs:A9.sz Vx=4:=rfl;have ax:∀W,bq3 p W->(ae3 (b9 p).wv ((b9 p).we++W))[j]?=some (((b9 p).we.filter λe=>decide (C5 (b9 p).wv e.src=j)).map λe=>(((C5 (b9 p).wv e.dst:Nat):Int),e.kind)):=λW h=>by
  rw[bg8 ck,eJ8];have:W.filter (λe=>decide (C5 (b9 p).wv e.src=j))=[]:=List.filter_eq_nil_iff.2 λe y=>by
   obtain⟨_,h2,_,h4⟩:=h.kind y;simp only[eH1];intro hh;have h5:=P7 h2;rw[hh,aK]at h5;rw[<-eF3 h5]at h4;omega
  rw[this,eG5]
 have bG:∀t e,t∈((b9 p).we.filter λe=>decide (C5 (b9 p).wv e.src=j)).map (λe=>(((C5 (b9 p).wv e.dst:Nat):Int),e.kind))->bH5 (b9 p).wv vi.slot t e->∃xe∈(b9 p).we,e∈aI0 (b9 p).wv j vi.slot xe:=λt e ht h=>dy6 ht h;have bx:∀xe e,xe∈(b9 p).we++C->e∈aI0 (b9 p).wv j vi.slot xe->∃t∈((b9 p).we.filter λe=>decide (C5 (b9 p).wv e.src=j)).map (λe=>(((C5 (b9 p).wv e.dst:Nat):Int),e.kind)),bH5 (b9 p).wv vi.slot t e:=λxe e hx y=>by
  rcases eE0.1 hx with h|h
  .exact dy5 h y
  .have:=(s.sum.kind h).1;have:=(aA6.1 y).1.1;omega
 have bB:∀t∈((b9 p).we.filter λe=>decide (C5 (b9 p).wv e.src=j)).map (λe=>(((C5 (b9 p).wv e.dst:Nat):Int),e.kind)),∃T:Nat,t.1=(T:Int)/\T<(b9 p).wv.length:=λt ht=>by
  obtain⟨e,_,rfl⟩:=eF2.1 ht;exact⟨_,rfl,V1 h0 _⟩
 have cm:(((b9 p).we.filter λe=>decide (C5 (b9 p).wv e.src=j)).map (λe=>(((C5 (b9 p).wv e.dst:Nat):Int),e.kind))).length<=960480000:=by
  rw[eE3];exact eD7 (eG0 _ _) cp
 generalize((b9 p).we.filter λe=>decide (C5 (b9 p).wv e.src=j)).map (λe=>(((C5 (b9 p).wv e.dst:Nat):Int),e.kind))=row at ax bG bx bB cm;obtain⟨u0,aJ⟩:∃u,x.un[j]?=some u:=by
  have h1:=s.ws.rn.len;have h2:(wcC p C C).N.length=(b9 p).wv.length:=ar3;exact⟨_,eD1 om⟩
 have cg:=aU9 (P:=prog) (t:=216) s.ws.rn aJ bY2;have bz:=s.ws.rn.row j u0 row aJ (ax C s.sum);simp only[i4,n9,A6,simprocAttr,s.ws.ld (i:=6) (u:=x.vn) rfl aJ9,s.ws.rn.outer.inS (eD8.1 aJ).1,cg,bz.isS,bz.vlen];refine E4 [0,1,2,3,21,22] (σ:=(Nat×Bool)×(WX×List Eg)) (λt f l=>f 23 = .int .i64 t.1.1/\f 8 = .bool t.1.2/\t.1.1<=row.length/\HS p w1 l g r ab vP B t.2.1 t.2.2/\t.2.1.un[j]?=some u0/\(∀e∈C,e∈t.2.2)/\(t.1.2=false->t.2.2=C)/\(t.1.2=true->C.length<t.2.2.length) /\
  (∀q∈row.take t.1.1,∀e,bH5 (b9 p).wv vi.slot q e->e∈t.2.2)/\t8 (hN g r B x) w l/\(∀i b,Z5 g r t.2.1 i b->Z5 g r x i b\/w.heap.size<=b)/\t.2.1.vV=x.vV) (λt=>row.length-t.1.1) ((0,false),(x,C)) ?_ ?_
 .exact⟨rfl,rfl,eE2 _,s,aJ,λ_ h=>h,λ_=>rfl,λh=>(by cases h),λq hq=>(by simp at hq),t8.refl _,λi b h=>.inl h,rfl⟩
 rintro⟨⟨k,o⟩,n,A⟩ f w2 hk ⟨X,h8,cd,s2,ak,D,ah,aj,I,bs,V,H⟩;simp only at X h8 cd s2 ak D ah aj I V H;simp only[eF8,C9,simprocAttr]at hk;obtain⟨e0,e1,e2,e3,bh,bX,_⟩:=hk;simp only[eF,simprocAttr,X,bX];refine A7 (λar=>?_) ?_;rotate_left
 .rintro rfl;rw[eE4]at I;simp only[i4,simprocAttr,h8];refine o8 results90 ⟨o,n,A,rfl,s2,D,ah,aj,λxe hx e y=>?_,bs,V,H⟩;obtain⟨t,ht,h⟩:=bx xe e hx y;exact I t ht e h
 have bH:R (n8 w2) u0.v row:=(s2.ws.rn.row j u0 row ak (ax A s2.sum)).flatRN λ_ _=>rfl;have aS:=bH.inS ar;have ae:=dA9 bH (n7 _) (eD1 ar);obtain⟨T,a2,a3⟩:=bB _ (eE1 ar);have bE:=eD9 ar;have bF:=eE1 ar;generalize row[k]=t at ae a2 bE bF;obtain⟨t1,q⟩:=t;simp only at a2;subst a2;simp only at ae;have J:∀W:List Eg,(∀e∈A,e∈W)->(∀e,bH5 (b9 p).wv vi.slot ((T:Int),q) e->e∈W)->∀q'∈row.take (k+1),∀e,bH5 (b9 p).wv vi.slot q' e->e∈W:=λW h1 h2 q' hq e y=>by
  rw[bE]at hq;rcases eE0.1 hq with h|h
  .exact h1 e (I q' h e y)
  .simp only[eE7]at h;subst h;exact h2 e y
 obtain⟨ca,dh,w3,aO,aW,bJ,a5,cK⟩:=dK3 (w:=w2) (T:Int) q;obtain⟨c5,bN⟩:=aQ6 a5 (t8.refl (M:=λ_=>False) w3) id;have s3:=s2.more bJ;have bt:t8 (hN g r B x) w w3:=bs.trans (t8.up bJ);rcases eD2 (!decide (q=6))with hq|hq
 .have aI:¬q=6:=by simpa using hq
  have cl:decide (q=6)=false:=by simpa using aI
  simp only[i4,n9,A6,simprocAttr,X,h8,bh,aS,ae,aO,aW,bN,cl];exact nx4 ((k+1,o),(n,A)) ⟨s3,ak,D,ah,aj,J A (λ_ h=>h) λe y=>fj y.1 aI,bt,V,H⟩
 have aI:q=6:=by simpa using hq
 subst aI;have aL:=s3.more (o6.drew w3);have a1:R (n8 w3.drew) n.vV (b9 p).wv:=aL.ws.rV;have ao:(b9 p).wv[T]?=some (b9 p).wv[T]:=eD1 a3;have aH:=aU ao;have bb:=eE1 a3;have bq:=a1.inS a3;have aq:=a1.inS b2;generalize co:(b9 p).wv[T]=v at ao aH bb;clear co;obtain⟨d,di,z,bl,aX,bL,bK,aP⟩:=cV3 (P:=prog) (w:=w3.drew) (N:=hN g r B n) (T:=27) (SV.ofN (n8 w3.drew) v) (λb G=>aL.lt G) be2 rfl R3;have k1:J4 prog (λl=>o6 w3.drew l) 35 ⟨g,2,none⟩ n.vV:=sdx λl h=>(aL.more h).ws.ld (u:=n.vV) rfl Z4;have k2:J4 prog (λl=>o6 w3.drew l) 3 ⟨ca,0,none⟩ (.int .i64 (T:Int)):=sdx λl h=>(aQ6 a5 ((o6.drew w3).trans h) id).1;have k3:J4 prog (λl=>o6 w3.drew l) 27 (I2 n.vV (T*4)) (.agg (A0.cells v).toArray):=sdx λl h=>bt7 a1 (b7 h) ao;have cL:decide ((6:Int)=6)=true:=rfl;simp only[i4,n9,A6,simprocAttr,X,bh,aS,ae,aO,aW,bN];refine C4 (o6 w3.drew) 9 (A8 [0,1,2,3,4,5,6,7,8]) ?_;simp only[D7,A8,i4,n9,A6,simprocAttr,e0,k1,k2,k3,bq,bl,F2];refine⟨bL,?_⟩;have Z:=(aL.more bK).more (o6.drew z);have aY:o6 w3 z.drew:=((o6.drew w3).trans bK).trans (o6.drew z);have aE:t8 (hN g r B x) w z.drew:=bt.trans (t8.up aY);have bk:R (n8 z.drew) n.vV (b9 p).wv:=Z.ws.rV;have aQ:=bk.at_ ba;rw[cs]at aQ;obtain⟨_,cB⟩:=aQ.vx;have m1:J4 prog (λl=>l=z.drew) 88 ⟨g,5,none⟩ (.map (some r)):=sdq (Z.ws.ld rfl bJ8);have m2:=(L8.vx (SV.ofN (n8 w3.drew) v) aP).2 (· = z.drew) z.drew rfl λl h=>by subst h;exact B6 z _
 have m3:J4 prog (λl=>l=z.drew) 35 ⟨g,2,none⟩ n.vV:=sdq (Z.ws.ld (u:=n.vV) rfl Z4);have m4:=cB (· = z.drew) z.drew rfl λl h=>by subst h;exact n7 _
 have U:=Z.ws.lookOk ⟨v.proc,5,v.id,vi.slot⟩;have cf:(wcC p A A).kv=as6 (b9 p).wv:=rfl;rw[cf,bf6]at U;have aD:=cx3 v.proc 5 v.id vi.slot;generalize ad:(⟨v.proc,5,v.id,vi.slot⟩:Vx)=c at U aD;have a6:∀e,bH5 (b9 p).wv vi.slot ((T:Int),6) e->c∈(b9 p).wv/\e=⟨c,v,3⟩:=λe y=>by
  obtain⟨_,v',h1,h2,h3⟩:=y;rw[eF4,ao]at h1;obtain rfl:=eF3 h1;rw[ad]at h2 h3;exact⟨h2,h3⟩
 cases hak:atV (b9 p).wv c with
 | none=>
  rw[hak]at U;simp only[Option.map_none,Option.getD_none,Option.isSome_none]at U;have m5:∀K f d E,X8 prog (· = z.drew) (Instr.lookup 88 (.map (some r)) (.agg (A0.cells c).toArray) true) K f d E=K (G9 f d (.tuple #[.int .i64 0,.bool false])) E:=λK f d E=>L5 (w0:=z.drew) rfl λl h=>by subst h;exact U
  simp only[i4,simprocAttr,aX];refine C4 (· = z.drew) 22 (A8 [0,1,2,3,4,5,6,7,8,9,10,11,12,13,14,15,16,17,18,19,20,21]) ?_;simp only[D7,A8,i4,n9,A6,simprocAttr,e0,e1,m1,m2,m3,m4,m5,aq,aD,X,h8];exact⟨((k+1,o),(n,A)),so,by simp only[];rw[I9 k],tt,so,Z,ak,D,ah,aj,J A (λ_ h=>h) λe y=>(by
   have:=Z8.2 (a6 e y).1;rw[hak]at this;cases this),aE,V,H⟩
 | some F=>
  rw[hak]at U;simp only[eJ9,eI9,Option.isSome_some]at U;have an:=bq5 hak;have bZ:=dt3 hak;have aG:=aU an;have a7:c∈(b9 p).wv:=eF7 an;have m5:∀K f d E,X8 prog (· = z.drew) (Instr.lookup 88 (.map (some r)) (.agg (A0.cells c).toArray) true) K f d E=K (G9 f d (.tuple #[.int .i64 (F:Int),.bool true])) E:=λK f d E=>L5 (w0:=z.drew) rfl λl h=>by subst h;exact U
  have aR:=cZ5 Z.kinds a7 bb;rw[aG,aH]at aR;have Y:=Z.has.lookup (P:=prog) el6 Tryz.underlying141 Y5 ((F:Int),(T:Int));rw[aR]at Y;have Y:(Instr.lookup 141 (.map (some B)) (.agg #[.int .i64 (F:Int),.int .i64 (T:Int)]) false).run prog z.drew = .ok (.bool (decide ((⟨c,v,3⟩:Eg)∈A))) z.drew:=Y;have bn:=cn4 (F:Int) (T:Int);obtain⟨bO,_⟩:=aQ6 a5 aY id;simp only[i4,simprocAttr,aX];refine C4 (· = z.drew) 22 (A8 [0,1,2,3,4,5,6,7,8,9,10,11,12,13,14,15,16,17,18,19,20,21]) ?_;rcases eD2 (decide ((⟨c,v,3⟩:Eg)∈A))with hmem|hmem
  .rw[hmem]at Y;simp only[D7,A8,i4,n9,A6,simprocAttr,e0,e1,e3,m1,m2,m3,m4,m5,aq,aD,X,h8,bO,bn,Y];exact nx4 ((k+1,o),(n,A)) ⟨Z,ak,D,ah,aj,J A (λ_ h=>h) λe y=>(by rw[(a6 e y).2];exact eD3 hmem),aE,V,H⟩
  rw[hmem]at Y;have bv:=eD6 hmem;have bw:=dy9 Z.kinds a7 bb bv;rw[aG,aH]at bw;obtain⟨Q,q8,a8,au⟩:=Z.has.push (P:=prog) el6 Tryz.underlying141 bw (.bool true);have q8:(Instr.mapUpdate 141 (.map (some B)) (.agg #[.int .i64 (F:Int),.int .i64 (T:Int)]) (.bool true)).run prog z.drew = .ok () Q:=q8;have cD:=Z.ws.mod au λb G=>by subst G;exact⟨Z.ge,Z.off⟩
  simp only[D7,A8,i4,n9,A6,simprocAttr,e0,e1,e3,m1,m2,m3,m4,m5,aq,aD,bO,bn,Y,aE8,q8];have aA:=cD.more (o6.drew Q);have aN:R (n8 Q.drew) n.vV (b9 p).wv:=aA.rV;have bp:=aN.inS bZ;have aC:E6 (D9 z (hN g r B n)) (n8 Q.drew):=G8 (A3 (B6 z _) (b7 (o6.drew z))) (au.trans (t8.up (o6.drew Q))) λb G=>by subst G;exact G2 (.inl rfl)
  obtain⟨bV,bT,m,ap,a9,ay,ag,a4⟩:=cV3 (P:=prog) (w:=Q.drew) (N:=hN g r B n) (T:=54) (SV.ofN (n8 Q.drew) (⟨c,v,3⟩:Eg)) (λb G=>eK3 (Z.lt G) au.size) dc9 rfl aw4;have n1:J4 prog (λl=>o6 Q.drew l) 35 ⟨g,2,none⟩ n.vV:=sdx λl h=>(aA.more h).ld (u:=n.vV) rfl Z4;have n2:J4 prog (λl=>o6 Q.drew l) 27 (I2 n.vV (F*4)) (.agg (A0.cells c).toArray):=sdx λl h=>bt7 aN (b7 h) an;have n3:=(L8.vx_v (SV.ofN (n8 w3.drew) v) aP).2 (o6 Q.drew) Q.drew (t8.refl _) λl h=>A3 aC (b7 h);have bm:=bO7 c v 3;refine bj3 [0,8,23] (o6 Q.drew) 10 (.op 0 (.op 1 (.op 2 (.op 3 (.op 4 (.op 5 (.op 6 (.op 7 (.fork [8,9] (λi=>if i=8 then(A8 [9])else(A8 [8])))))))))))
   (λf' l=>f' 14 = .pointer (some bV)/\f' 82 = .agg (A0.cells (⟨c,v,3⟩:Eg)).toArray/\l=bT) (by decide +kernel) (by decide +kernel) (t8.refl _) ?_ ?_
  .simp only[D7,A8,i4,n9,A6,simprocAttr,e0,n1,n2,n3,bp];refine X2 (by decide +kernel) (λi hi=>?_);simp only[eF0,eH6,eM0]at hi;rcases hi with rfl|rfl
   .simp only[eY,simprocAttr,bm,ap,F2];exact⟨ay,tt,tt,tt⟩
   .simp only[eY,simprocAttr,bm,ap,F2];exact⟨ay,tt,tt,tt⟩
  rintro f9 _ hk ⟨aZ,bY,rfl⟩;simp only[eF8,C9,simprocAttr]at hk;obtain⟨j0,j8,cu,_⟩:=hk;have bR:=(aA.more ag).more (o6.drew m);have cM:=s2.sum.few hr hw;obtain⟨p1,hS,v',dg,be,p2,p3,bS,p4,af,av⟩:=bR.pushS (⟨c,v,3⟩:Eg) (by show A.length<=_;omega) (e:=49);have o1:∀K f d E,X8 prog (t8 (B0 n.vS) m.drew) (Instr.loadAt 49 (.pointer (some ⟨g,4,none⟩))) K f d E=K (G9 f d n.vS) E:=λK f d E=>L5 (w0:=m.drew) (t8.refl _) hS;have S:E6 (D9 m (hN g r B n)) (n8 m.drew):=A3 (B6 m _) (b7 (o6.drew m));have bo:=L8.eg_v (SV.ofN (n8 Q.drew) (⟨c,v,3⟩:Eg)) a4;have o2:=bo.2 (t8 (B0 n.vS) m.drew) m.drew (t8.refl _) λl h=>G8 S h λb G=>G2 (.inr ⟨4,G⟩);have bM:=bo.1 be (G8 S af λb G=>by
   rcases G with G|G
   .exact G2 (.inr ⟨0,G⟩)
   .exact G2 (.inr ⟨4,G⟩))
  rw[e0]at j0;simp only[eY,simprocAttr,aZ,bY,a9];refine C4 (t8 (B0 n.vS) m.drew) 8 (A8 [0,1,2,3,4,5,6,7]) ?_;simp only[D7,A8,i4,n9,simprocAttr,j0,aZ,o1,o2,p1,p2,F2];refine⟨t8.up (o6.alloc _ _),p4,?_⟩;simp only[i4,simprocAttr,j0,aZ,p3,bM];refine z6 (da2 bS rfl ((b9 p).we++A) rfl rfl h0 (by show(b9 p).wv.length<=_;omega) (by rw[eD4];omega) ⟨c,v,3⟩) ?_;rintro _ aM ⟨u1,u2,az,aT,O⟩;have cc:c.kind=5:=by rw[<-ad]
  have b0:F≠j:=λh=>by
   rw[h,aK]at an;rw[<-eF3 an]at cc;omega
  have cR:w.heap.size<=z.drew.heap.size:=aE.size;have cS:z.drew.heap.size<=Q.drew.heap.size:=(au.trans (t8.up (o6.drew Q))).size;have cn:Q.drew.heap.size<=m.drew.heap.size:=(ag.trans (o6.drew m)).size;have cQ:B<z.drew.heap.size:=Z.has.lt;have L:∀i,¬Z5 g r {n with vS:=v'} i B:=λi h=>by
   rcases av i B h with h|h
   .exact s2.off i h
   .omega
  have aw:∀i b,Z5 g r {n with vS:=v'} i b->Z5 g r x i b\/w.heap.size<=b:=λi b h=>by
   rcases av i b h with h|h
   .exact V i b h
   .exact .inr om
  have cP:C.length<=A.length:=by
   cases o with
   | false=>rw[ah rfl];exact eE8 _
   | true=>exact Nat.le_of_lt (aj rfl)
  have bC:(⟨c,v,3⟩:Eg)∈(b9 p).sums:=by
   obtain⟨xe,cr,y⟩:=bG _ (⟨c,v,3⟩:Eg) bF ⟨rfl,v,by simpa using ao,by rw[ad];exact a7,by rw[ad]⟩;refine ck3 s2.sum.le ⟨j,vo,(al:Int),vi,aK,ce,bZ0 (λe y=>?_) bI,by simpa using ba,cb,xe,eF9 _ cr,y⟩;rcases eE0.1 y with h|h
   .exact eF9 _ h
   .exact eH0 _ (D e h)
  have ch:t8 (hN g r B x) w Q.drew:=aE.trans ((au.weaken λb _ G=>.inl G).trans (t8.up (o6.drew Q)));have ci:t8 (hN g r B x) w m.drew:=ch.trans (t8.up (ag.trans (o6.drew m)));have bu:t8 (hN g r B x) w be:=ci.chain af λb G h=>by
   rcases h with h|h
   .exact .inr ⟨0,(V 0 b h).resolve_right om⟩
   .exact .inr ⟨4,(V 4 b h).resolve_right om⟩
  have cj:t8 (hN g r B x) w aM:=bu.chain aT λb G h=>by
   rcases h with h|h
   .exact .inr ⟨5,(aw 5 b h).resolve_right om⟩
   .exact .inr ⟨6,(aw 6 b h).resolve_right om⟩
  obtain⟨ac,bd,bc,az,O⟩:∃ac:WX,ac.vV=x.vV/\ac.un[j]?=some u0/\WS w1 aM g r ab vP ac (wcC p (A++[⟨c,v,3⟩]) (A++[⟨c,v,3⟩]))/\∀i b,Z5 g r ac i b->Z5 g r {n with vS:=v'} i b\/be.heap.size<=b:=by
   refine⟨{n with vS:=v',un:=n.un.set (C5 (b9 p).wv c) u1,up:=n.up.set (C5 (b9 p).wv v) u2},H,?_,by unfold wcC;rw[<-eG4];exact az,O⟩;show(n.un.set (C5 (b9 p).wv c) u1)[j]?=some u0;rw[aG,eN0 b0];exact ak
  have aF:aC0 cN2 aM B (bs7 (b9 p).wv (A++[⟨c,v,3⟩])):=by
   have e:bs7 (b9 p).wv (A++[⟨c,v,3⟩])=bs7 (b9 p).wv A++[(((F:Int),(T:Int)),.bool true)]:=by
    unfold bs7;rw[eG8,eI4,map_nil,aG,aH]
   rw[e];refine((a8.mod ((o6.drew Q).trans (ag.trans (o6.drew m))) id).mod af λh=>?_).mod aT λh=>?_
   .rcases h with h|h
    .exact s2.off 0 h
    .exact s2.off 4 h
   .rcases h with h|h
    .exact L 5 h
    .exact L 6 h
  have b1:HS p w1 aM g r ab vP B ac (A++[⟨c,v,3⟩]):=⟨az,aF,s2.ge,λi h=>by
   rcases O i B h with h|h
   .exact L i h
   .have:=af.size;omega,⟨by
   rw[eI6];refine⟨s2.sum.nd,dG,λa ha b G=>?_⟩;simp only[eE7]at G;subst G;rintro rfl;exact bv ha,λe y=>by
   rcases eE0.1 y with h|h
   .exact s2.sum.le e h
   .simp only[eE7]at h;subst h;exact bC⟩⟩
  simp only[eF,simprocAttr,cu,X];have b3:row.length-(k+1)<row.length-k:=om
  have b4:IntKind.i64.wrap ((k:Int)+1)=((k+1:Nat):Int):=I9 k;have b5:k+1<=row.length:=om
  have b6:C.length<(A++[(⟨c,v,3⟩:Eg)]).length:=by rw[eD4,eG3];omega
  have b8:=J (A++[⟨c,v,3⟩]) (λe h=>eF9 _ h) (λe y=>by rw[(a6 e y).2];exact eH0 _ (eE7.2 rfl));refine⟨((k+1,true),(ac,A++[⟨c,v,3⟩])),b3,by rw[b4],(by first|exact True.intro|rfl),b5,b1,bc,λe y=>eF9 _ (D e y),λh=>Bool.noConfusion h,λ_=>b6,b8,cj,λi b h=>?_,bd⟩;rcases O i b h with h|h
  .exact aw i b h
  .exact .inr (eD7 bu.size h)
def bN2(V:List Vx)(L C:List Eg)(o i:Nat):Prop:=∀(a:Vx),Y6 (V7 V L [1,2,3]) (i:Int) (o:Int)->V[i]?=some a->a.kind=3->∀x∈L,∀e∈aI0 V o a.slot x,e∈C
def dO4{V:List Vx}{L C:List Eg}{o}(f:0<V.length)(h:∀i,i<V.length->bN2 V L C o i):bN3 V L C o:=λq e l i n j c d=>by
 have k:J2 V.length i=true:=by
  have m:=(eD8.1 e).1;have g:=(U1 f).1 j;have:=ct9 (ae4 (V:=V) (L:=L) (ks:=[1,2,3]) f) (a:=(o:Int)) (b:=i) (by rw[Z0];exact C0.2 ⟨om,om⟩) g;rw[Z0]at this;exact this
 obtain⟨g,p⟩:=C0.1 k;obtain⟨I,rfl⟩:∃I:Nat,i=(I:Int):=⟨i.toNat,om⟩;rw[eF4]at c;exact h I om n j c d
def df8{V:List Vx}{L:List Eg}{o i}(b:0<V.length)(k:o<V.length)(j:i<V.length):(I0 (P9 V L [1,2,3]) (W2 V.length [(o:Int)]))[i]?=some true↔Y6 (V7 V L [1,2,3]) (i:Int) (o:Int):=by
 have e:(I0 (P9 V L [1,2,3]) (W2 V.length [(o:Int)])).length=V.length:=by rw[G5,E0]
 have h:A5 (I0 (P9 V L [1,2,3]) (W2 V.length [(o:Int)])) (i:Int)=true↔Y6 (V7 V L [1,2,3]) (i:Int) (o:Int):=by
  rw[N2 (ae4 b) (by rw[Z0,E0])];constructor
  .rintro⟨a,g,c⟩;obtain⟨_,d⟩:=ab1.1 g;simp only[eE7]at d;subst d;exact(U1 b).2 c
  .intro c;exact⟨_,ab1.2 ⟨C0.2 ⟨om,om⟩,dG⟩,(U1 b).1 c⟩
 rw[<-h];unfold A5;have f:J2 (I0 (P9 V L [1,2,3]) (W2 V.length [(o:Int)])).length (i:Int)=true:=C0.2 ⟨om,by rw[e];omega⟩;rw[f,eJ4,eF4,getD_eq_getElem?_getD];rw[eD1 (by rw[e];exact j)];simp
def aN7{p w1 w g r ab vP x}(s:WS w1 w g r ab vP x (wcC p [] []))(hR:C8 p=true)(hw:C1 p<=1000000):
  p7 prog 52 #[.pointer (some ⟨g,0,none⟩)] w λu K=>(∃(x':WX) (C:List Eg),u = .pointer (some ⟨g,0,none⟩)/\WS w1 K g r ab vP x' (wcC p C (ac6 C))/\bq3 p C/\(∀e,e∈C↔e∈(b9 p).sums)/\t8 (ct8 g r x) w K):=by
 refine y5 [.pointer (some ⟨g,0,none⟩)] func52 rfl ?_;have hr:=D6 hR;have h0:=J3 hr.toKnown;have hn:=ah0 hr hw;have cp:=bo9 hr hw;have bV:=λe (S:e∈(b9 p).we)=>cu0 hR hw S;have U:=λ(C:List Eg) (h:bq3 p C)=>h.few hr hw;have bX:A9.sz Vx=4:=rfl;obtain⟨aG,bb,aK⟩:=aC0.new (P:=prog) (enc:=cN2) w 141;have sI:bq3 p []:=⟨dG,λe S=>by cases S⟩;have am:HS p w1 (w.alloc (.map #[] 0)) g r ab vP w.heap.size x []:=⟨s.more aK,bb,s.ext.size,λi h=>by have:=s.lt h;omega,sI⟩;generalize w.alloc (.map #[] 0)=wm at aG bb aK am;generalize co:w.heap.size=rh at am aG;have bQ:∀C,bq3 p C->OkA (ae5 (b9 p).wv ((b9 p).we++C)).length (ae5 (b9 p).wv ((b9 p).we++C)):=λC h=>by
  rw[ah7];refine cE5 h0 (λe S=>?_) (by rw[eD4];have:=U C h;omega);rcases eE0.1 S with d|d
  .exact bV e d
  .have:=(h.kind d).1;omega
 simp only[eF,simprocAttr,aJ0,aG];refine B4 [0,3] (σ:=Bool×WX×List Eg) (λt f K=>f 4=t.1/\HS p w1 K g r ab vP rh t.2.1 t.2.2/\(t.1=false->∀o,o<(b9 p).wv.length->bN3 (b9 p).wv ((b9 p).we++t.2.2) t.2.2 o)/\t8 (ct8 g r x) w K/\(∀i b,Z5 g r t.2.1 i b->Z5 g r x i b\/w.heap.size<=b)) (λt=>2*(15840000-t.2.2.length)+if t.1 then 1 else 0) (true,x,[]) ?_ ?_
 .exact⟨rfl,am,λh=>(by cases h),t8.up aK,λi b h=>.inl h⟩
 clear am sI;rintro⟨bq,x2,C⟩ f w2 ⟨e0,e3,_⟩ ⟨h4,M,z,aa,G⟩;simp only at h4 M z G;have cl:=U C M.sum;cases bq with
 | false=>
  have J:=dp5 M.sum (z rfl);simp only[eF,simprocAttr,h4,e0,M.ws.ld (i:=4) (u:=x2.vS) rfl bd8];apply z6 (aR3 M.ws.oS (by show C.length<=_;omega) (L4 _));rintro u3 w3 ⟨bP,bc,bI⟩;obtain⟨cq,a5,bL⟩:=cB5;obtain⟨w4,q1,s4,bN⟩:=M.ws.putS bc bP (λb I=>.inl (bI b I)) a5 bL;simp only[eF,simprocAttr,q1,e0];exact o8 results52 ⟨_,C,rfl,s4,M.sum,J,(aa.chain bc λb I h=>⟨4,(G 4 b h).resolve_right om⟩).chain bN λb I h=>⟨0,h⟩⟩
 | true=>
 have l2:=M.ws.ld (i:=2) (u:=x2.vV) rfl Z4;have bO:vlen x2.vV=(b9 p).wv.length:=M.ws.oV.vlen;simp only[eF,simprocAttr,h4,e0,l2,M.ws.oV.isS,bO];refine B4 [0,3,15,16] (σ:=(Nat×Bool)×(WX×List Eg)) (λt f K=>f 17=t.1.1/\f 4=t.1.2/\t.1.1<=(b9 p).wv.length/\HS p w1 K g r ab vP rh t.2.1 t.2.2/\t.2.1.vV=x2.vV/\(t.1.2=false->t.2.2=C/\∀o,o<t.1.1->bN3 (b9 p).wv ((b9 p).we++C) C o)/\(t.1.2=true->C.length<t.2.2.length)/\t8 (ct8 g r x) w K/\(∀i b,Z5 g r t.2.1 i b->Z5 g r x i b\/w.heap.size<=b)) (λt=>(b9 p).wv.length-t.1.1) ((0,false),(x2,C)) ?_ ?_
 .simp only[C9,simprocAttr];exact⟨tt,tt,eE2 _,M,(by first|exact True.intro|rfl),λ_=>⟨(by first|exact True.intro|rfl),λo ho=>om⟩,λh=>(by cases h),aa,G⟩
 clear M l2 z aa G;rintro⟨⟨o,mo⟩,x3,j⟩ f3 w3 ⟨g0,g3,aB,aU,_⟩ ⟨N,ah,bR,s3,an,B,Z,E,n⟩;simp only at N ah bR s3 an B Z n;rw[e0]at g0;rw[e3]at g3;simp only[eF,simprocAttr,N,aU];refine A7 (λak=>?_) ?_;rotate_left
 .rintro rfl;have b5:=U j s3.sum;simp only[i4,simprocAttr,ah];refine⟨(mo,x3,j),?_,tt,s3,λh=>?_,E,n⟩
  .simp only[];cases mo with
   | false=>rw[(B rfl).1];simp
   | true=>
    have:=Z rfl;simp only[eK2];omega
  .obtain⟨rfl,J⟩:=B h;exact J
 have al:(b9 p).wv[o]?=some (b9 p).wv[o]:=eD1 ak;have aX:R (n8 w3) x2.vV (b9 p).wv:=by rw[<-an];exact s3.ws.rV
 have a4:=aX.inS ak;have aE:=bt7 aX (n7 _) al;generalize bU:(b9 p).wv[o]=vo at al aE;clear bU;obtain⟨d6,cu,w4,aY,bj,ao,bH⟩:=aF4 (w:=w3) (λ_=>False) (SV.ofN (n8 w3) vo) λb I=>I.elim;have lk:=(L8.vx (SV.ofN (n8 w3) vo) bH).1 w4 (B6 _ _);have s4:=s3.more ao;have aw:bN3 (b9 p).wv ((b9 p).we++C) C o->mo=false->j=C/\∀o',o'<o+1->bN3 (b9 p).wv ((b9 p).we++C) C o':=λJ h=>⟨(B h).1,λo' cn=>by
  rcases eH4 o' o with d|d
  .exact(B h).2 o' d
  .obtain rfl:o'=o:=om
   exact J⟩
 rcases eD2 (decide (vo.kind=4))with h4k|h4k;rotate_left
 .have J:bN3 (b9 p).wv ((b9 p).we++C) C o:=λv d h2=>by
   rw[al]at d;rw[<-eF3 d]at h2;exact fj h2 (eD6 h4k)
  simp only[i4,n9,A6,simprocAttr,N,ah,aB,a4,aE,aY,bj,lk,h4k];exact nx4 ((o+1,mo),(x3,j)) ⟨s4,an,aw J,Z,E.trans (t8.up ao),n⟩
 have bM:=eD3 h4k;simp only[i4,n9,A6,simprocAttr,N,g0,aB,a4,aE,aY,bj,lk,h4k];apply z6 (by3 s4.ws o ak (bQ j s4.sum) ah7 (by show(b9 p).wv.length<=_;omega));rintro ua w5 ⟨l,aJ⟩;have l:B7 (n8 w4) w5 4 ua (I0 (ai8 (ae5 (b9 p).wv ((b9 p).we++j)) [1,2,3]) (W2 (b9 p).wv.length [(o:Int)])):=l;rw[cg4]at l;have au:=λi hi=>df8 (L:=(b9 p).we++j) h0 ak (i:=i) hi;have ar:(I0 (P9 (b9 p).wv ((b9 p).we++j) [1,2,3]) (W2 (b9 p).wv.length [(o:Int)])).length=(b9 p).wv.length:=by rw[G5,E0]
 generalize I0 (P9 (b9 p).wv ((b9 p).we++j) [1,2,3]) (W2 (b9 p).wv.length [(o:Int)])=A at l au ar;have s5:=s4.more aJ;have bS:∀b,B0 ua b->w4.heap.size<=b/\b<w5.heap.size:=λb I=>⟨D4 (l.free I),l.lt I⟩;have aW:∀b,hN g r rh x3 b->b<w4.heap.size:=λb I=>s4.lt I;have aH:w.heap.size<=w5.heap.size:=eD7 E.size (ao.trans aJ).size;have bG:=l.isS;have be:=l.vlen;have bh:B7 hZ w5 4 ua A:=l.down (L4 _);have aV:C.length<=j.length:=by
  cases mo with
  | false=>rw[(B rfl).1];exact eE8 _
  | true=>exact Nat.le_of_lt (Z rfl)
 rw[ar]at be;simp only[eF,simprocAttr,bG,be];refine E4 [0,3,5,15,16,17,28,29] (σ:=(Nat×Bool)×(WX×List Eg)) (λt f K=>f 30=t.1.1/\f 4=t.1.2/\t.1.1<=(b9 p).wv.length/\HS p w1 K g r ab vP rh t.2.1 t.2.2/\t.2.1.vV=x2.vV/\B7 hZ K 4 ua A/\w5.heap.size<=K.heap.size/\(∀i b,Z5 g r t.2.1 i b->Z5 g r x3 i b\/w5.heap.size<=b) /\
  (∀e∈j,e∈t.2.2)/\j.length<=t.2.2.length/\(t.1.2=false->t.2.2=j/\mo=false)/\(t.1.2=true->C.length<t.2.2.length)/\(∀i,i<t.1.1->bN2 (b9 p).wv ((b9 p).we++j) t.2.2 o i)/\t8 (ct8 g r x) w K) (λt=>(b9 p).wv.length-t.1.1) ((0,mo),(x3,j)) ?_ ?_
 .simp only[C9,simprocAttr];exact⟨tt,ah,eE2 _,s5,an,bh,eE8 _,λi b h=>.inl h,λ_ h=>h,eE8 _,λh=>⟨(by first|exact True.intro|rfl),h⟩,Z,λi hi=>om,E.trans (t8.up (ao.trans aJ))⟩
 rintro⟨⟨i,m⟩,x6,C6⟩ f6 w6 hk ⟨y,O,bK,s6,q,ac,H,c,a,k,T,ae,aC,F⟩;simp only at y O bK s6 q c a k T ae aC;simp only[eF8,C9,simprocAttr]at hk;obtain⟨j0,j3,j5,bZ,b0,bn,aL,b1,_⟩:=hk;rw[g0]at j0;rw[g3]at j3;rw[aB]at bZ;rw[aU]at b0;rw[N]at bn;have bf:∀b,B0 ua b->¬hN g r rh x6 b:=λb I h=>by
  obtain⟨d,h2⟩:=bS b I;rcases h with h|⟨i,h⟩
  .have:=aW b (.inl h);omega
  .rcases c i b h with h|h
   .have:=aW b (.inr ⟨i,h⟩);omega
   .omega
 simp only[eF,simprocAttr,y,b1];refine A7 (λY=>?_) ?_;rotate_left
 .rintro rfl;simp only[eF,simprocAttr,bn,O];refine nx4 ((o+1,m),(x6,C6)) ⟨s6,q,λh=>?_,ae,F,λi b h=>?_⟩
  .obtain⟨rfl,bd⟩:=T h;obtain⟨rfl,_⟩:=B bd;exact aw (dO4 h0 aC) bd
  .rcases c i b h with h|h
   .exact n i b h
   .exact .inr (eD7 aH h)
 have X:i<A.length:=om
 have W:=ac.inS X;have D:(Instr.loadAt 4 (I2 ua i)).run prog w6 = .ok (A[i]) w6:=E8 (P:=prog) ac (eD1 X) ag4;have aj:=au i Y;rw[eD1 X]at aj;generalize A[i]=ai at D aj;have aD:∀C',(∀e∈C6,e∈C')->bN2 (b9 p).wv ((b9 p).we++j) C' o i->∀i',i'<i+1->bN2 (b9 p).wv ((b9 p).we++j) C' o i':=λC' d h2 i' cm=>by
  rcases eH4 i' i with h|h
  .intro vi a1 a2 a3 xe hx e S;exact d e (aC i' h vi a1 a2 a3 xe hx e S)
  .obtain rfl:i'=i:=om
   exact h2
 rcases eD2 ai with d|d<;>subst d;rotate_left
 .have J:bN2 (b9 p).wv ((b9 p).we++j) C6 o i:=λvi aI=>by
   have:=aj.2 aI;simp at this
  simp only[i4,n9,A6,simprocAttr,y,O,aL,W,D];exact nx4 ((i+1,m),(x6,C6)) ⟨s6,q,ac,H,c,a,k,T,ae,aD C6 (λ_ h=>h) J,F⟩
 have bm:=aj.1 rfl;have V:(b9 p).wv[i]?=some (b9 p).wv[i]:=eD1 Y;have aq:R (n8 w6) x2.vV (b9 p).wv:=by rw[<-q];exact s6.ws.rV
 have bo:=s6.ws.ld (i:=2) (u:=x2.vV) (by rw[<-q];rfl) Z4;have av:=aq.inS Y;have Q:=aq.at_ V;rw[bX]at Q;generalize bT:(b9 p).wv[i]=vi at V Q;clear bT;have bp:=Q.vx.1 w6 (n7 _);rcases eD2 (decide (vi.kind=3))with h3k|h3k;rotate_left
 .have J:bN2 (b9 p).wv ((b9 p).we++j) C6 o i:=λv aI d h2=>by
   rw[V]at d;rw[<-eF3 d]at h2;exact fj h2 (eD6 h3k)
  simp only[i4,n9,A6,simprocAttr,y,O,j0,aL,W,D,bo,av,bp,h3k];exact nx4 ((i+1,m),(x6,C6)) ⟨s6,q,ac,H,c,a,k,T,ae,aD C6 (λ_ h=>h) J,F⟩
 simp only[i4,n9,A6,simprocAttr,y,j0,j3,j5,aL,W,D,bo,av,bp,h3k];refine z6 (dy7 s6 hR hw i o V (eD3 h3k) al bM (bZ0 (λe S=>?_) bm)) ?_
 .rcases eE0.1 S with h|h
  .exact eF9 _ h
  .exact eH0 _ (a e h)
 rintro _ w7 ⟨mh,x7,C7,rfl,s7,ad,a0,bk,bJ,aF,bi,bl⟩;have bg:=ac.mod aF bf;have a9:C6.length<=C7.length:=by
  cases mh with
  | false=>rw[a0 rfl];exact eE8 _
  | true=>exact Nat.le_of_lt (bk rfl)
 have J:bN2 (b9 p).wv ((b9 p).we++j) C7 o i:=λv aI d h2 xe hx e S=>by
  rw[V]at d;obtain rfl:=eF3 d;refine bJ xe ?_ e S;rcases eE0.1 hx with h|h
  .exact eF9 _ h
  .exact eH0 _ (a xe h)
 have az:w5.heap.size<=w7.heap.size:=eD7 H aF.size;have ay:∀i b,Z5 g r x7 i b->Z5 g r x3 i b\/w5.heap.size<=b:=λi b h=>by
  rcases bi i b h with h|h
  .exact c i b h
  .exact .inr (eD7 H h)
 have aZ:=aD C7 ad J;have ax:t8 (ct8 g r x) w w7:=F.chain aF λb I h=>by
  rcases h with h|⟨i,h⟩
  .omega
  .exact⟨i,(n i b ((c i b h).resolve_right om)).resolve_right om⟩
 have a6:(b9 p).wv.length-(i+1)<(b9 p).wv.length-i:=om
 have a7:IntKind.i64.wrap ((i:Int)+1)=((i+1:Nat):Int):=I9 i;have a8:i+1<=(b9 p).wv.length:=om
 cases mh with
 | true=>
  have ba:=bk rfl;simp only[eF,simprocAttr,y];exact⟨((i+1,true),(x7,C7)),a6,by rw[a7],(by first|exact True.intro|rfl),a8,s7,bl.trans q,bg,az,ay,λe h=>ad e (a e h),eD7 k a9,λh=>Bool.noConfusion h,λ_=>Nat.lt_of_le_of_lt (eD7 aV k) ba,aZ,ax⟩
 | false=>
  obtain rfl:=a0 rfl;simp only[eF,simprocAttr,y,O];exact⟨((i+1,m),(x7,C7)),a6,by rw[a7],(by first|exact True.intro|rfl),a8,s7,bl.trans q,bg,az,ay,a,k,T,ae,aZ,ax⟩
def au4(x:Option Addr):E2 prog .eql 83 (.pointer x) (.pointer none)=some (.bool x.isNone):=bq8 rfl kr
theorem be3(p):(⟨(b9 p).wv,(b9 p).we,[],as6 (b9 p).wv,ae3 (b9 p).wv ((b9 p).we++[]),ae5 (b9 p).wv ((b9 p).we++[])⟩:WC)=wcC p [] []:=rfl
section
variable {p:Pg}
def af7(b:C8 p=true)(hw:C1 p<=1000000){C:List Eg}(a:∀e,e∈C↔e∈(b9 p).sums){ks:List Int}{S:List Bool}(hS:S.length=(b9 p).wv.length):I0 (ai8 (ae5 (b9 p).wv ((b9 p).we++C)) ks) S=I0 (P9 (b9 p).wv (b9 p).all ks) S:=by
 rw[cg4];exact(bP5 (J3 (D6 b).toKnown) (λe=>by unfold Bk.all;rw[eE0,eE0,a]) hS).1
def bh0(d:C8 p=true)(hw:C1 p<=1000000){C:List Eg}(h:bq3 p C):OkA (ae5 (b9 p).wv ((b9 p).we++C)).length (ae5 (b9 p).wv ((b9 p).we++C))/\OkA (ae3 (b9 p).wv ((b9 p).we++C)).length (ae3 (b9 p).wv ((b9 p).we++C)):=by
 have b:=D6 d;have c:=J3 b.toKnown;have f:∀e∈(b9 p).we++C,1<=e.kind/\e.kind<=6:=λe i=>by
  rcases eE0.1 i with a|a
  .exact cu0 d hw a
  .have:=(h.kind a).1;omega
 have g:((b9 p).we++C).length<=1000000000:=by
  have:=bo9 b hw;have:=h.few b hw;rw[eD4];omega
 rw[ah7,ar3];exact⟨cE5 c f g,dD3 c f g⟩
end
def aS0{l:List Bool}{k}(h:k<l.length):A5 l (k:Int)=l[k]:=by
 have a:J2 l.length (k:Int)=true:=C0.2 ⟨om,om⟩;rw[(O5 a).2,eF4,getD,eD1 h];rfl
section
variable {p:Pg} {w1 w0 w:World} {g r gc rs:Nat} {ab:Addr} {vP vs vt:Value} {x:WX} {c:WC} {S X Y:List Bool} {H T H0 T0:List (Nat×Nat)}
def BwJ.size(K:Known p){done:Nat->Int×Int->Prop}(j:BwJ p X Y H0 T0 H T done)(e:∀h∈H0,h∈aZ0 (b9 p).wv.length)(i:T0.length<=H0.length):(∀h∈H,h∈aZ0 (b9 p).wv.length)/\T.length<=H.length/\H.length<=(b9 p).wv.length*(b9 p).wv.length:=by
 have b:∀h∈H,h∈aZ0 (b9 p).wv.length:=λh g=>by
  rcases j.le h g with b|⟨a,t,_,_,_,f⟩
  .exact e h b
  .exact bg5.2 (dg0 K f)
 obtain⟨D,c,d⟩:=j.new;refine⟨b,?_,?_⟩
 .rw[c,d,eD4,eD4];omega
 .have:=J5 j.nd b
  rwa [bz3]at this
end
def CS.start{w w2 vs}{S:List Bool}(g)(j:o6 w w2)(a:B7 hZ w2 4 vs S)(f:∀b,B0 vs b->w.heap.size<=b)(t):(Instr.makeMap t none).run prog w2 = .ok (.map (some w2.heap.size)) (w2.alloc (.map #[] 0)) /\
  (Instr.box TCh (.agg #[.pointer (some ⟨g,0,none⟩),vs,.map (some w2.heap.size),()])).run prog (w2.alloc (.map #[] 0)) = .ok (.pointer (some ⟨w2.heap.size+1,0,none⟩)) ((w2.alloc (.map #[] 0)).alloc (.cells #[.pointer (some ⟨g,0,none⟩),vs,.map (some w2.heap.size),()] TCh)) /\
  CS w ((w2.alloc (.map #[] 0)).alloc (.cells #[.pointer (some ⟨g,0,none⟩),vs,.map (some w2.heap.size),()] TCh)) g (w2.heap.size+1) w2.heap.size vs () S [] []:=by
 obtain⟨m,n,k⟩:=aC0.new (P:=prog) (enc:=dw9) w2 t;have h:(w2.alloc (.map #[] 0)).heap.size=w2.heap.size+1:=dG
 have e:(Instr.box TCh (.agg #[.pointer (some ⟨g,0,none⟩),vs,.map (some w2.heap.size),()])).run prog (w2.alloc (.map #[] 0)) = .ok (.pointer (some ⟨(w2.alloc (.map #[] 0)).heap.size,0,none⟩)) ((w2.alloc (.map #[] 0)).alloc (.cells #[.pointer (some ⟨g,0,none⟩),vs,.map (some w2.heap.size),()] TCh)):=rfl;rw[h]at e;have c:=o6.alloc (w2.alloc (.map #[] 0)) (.cells #[.pointer (some ⟨g,0,none⟩),vs,.map (some w2.heap.size),()] TCh);have i:=eH3 (w2.alloc (.map #[] 0)) (.cells #[.pointer (some ⟨g,0,none⟩),vs,.map (some w2.heap.size),()] TCh);rw[h]at i;have l:=j.size;exact⟨m,e,(j.trans k).trans c,i,a.ext (k.trans c),n.mod c id,B7.nil _ _ _,⟨om,om,om⟩,λb d=>⟨f b d,by have:=a.lt d;omega,by have:=a.lt d;omega,E7⟩,λb d=>fj d E7⟩
def L8.atI{h a}{x:Int×Int}(b:L8 h a (.agg (A0.cells x).toArray)):At h a x:=by
 obtain⟨d,e,c⟩:=b;obtain rfl:=ai7 e;exact⟨_,(A0.iff_ _ _ _).2 rfl,c⟩
def ChJ.start{p}{k l:List Int}{S2 b:List Bool}{f a i:List (Nat×Nat)}(K:Known p)(e:a=i)(hn:a.Nodup)(n:∀h,h∈f↔h∈([]:List (Nat×Nat))\/h∈aP1 (b9 p) ((b9 p).first k) ((b9 p).before l))(o:∀h,h∈a↔h∈f\/h∈aP1 (b9 p) ((b9 p).thenB k) ((b9 p).last l))(r:b.length=(b9 p).wv.length)
  (s:∀v,v<(b9 p).wv.length->(A5 S2 (v:Int)=true↔A5 (replicate (b9 p).wv.length false) (v:Int)=true\/(A5 ((b9 p).first k) (v:Int)=true/\A5 ((b9 p).before l) (v:Int)=true))) (t:∀v,v<(b9 p).wv.length->(A5 b (v:Int)=true↔A5 S2 (v:Int)=true\/(A5 ((b9 p).thenB k) (v:Int)=true/\A5 ((b9 p).last l) (v:Int)=true))) :
  ChJ p k l b a i []:=by
 have j:∀h,h∈a↔h∈(b9 p).hops0 k l:=λh=>by
  rw[o,n];unfold Bk.hops0;rw[mem_eraseDups,eE0];simp
 refine⟨r,hn,λh=>by rw[e];simp,λh c=>(j h).2 c,λg q=>(by cases q),λh c=>(ad3 K k l).1 h ((j h).1 c),λv d=>?_⟩;have m:A5 (replicate (b9 p).wv.length false) (v:Int)=false:=by
  rw[aS0 (by simpa using d)];simp
 rw[t v d,s v d,m];simp
def bz7:D0 prog 27 []=some (.agg (A0.cells aR0).toArray):=by
 have h:A0.cells aR0=[A4 e0,.int .i64 0,.int .i64 0,A4 e0]:=rfl;rw[h];simp[D0,bJ9,M2,Instr.fill,A4,e0];rfl
section
variable {p:Pg} {a v u b x y:Vx} {e g:Eg} {o:List Int}
def do5(a:C8 p=true)(hw:C1 p<=1000000)(j:e∈(b9 p).we)(o:e.kind=6):(b9 p).isCall e.dst.id=true:=by
 have b:=D6 a;rcases eE0.1 (bc4.1 j)with h|h
 .obtain⟨n,l,h⟩:=eG1.1 h;obtain⟨i,k,c,q⟩:=U6 b.toKnown l;rw[c]at h;obtain⟨_,_,f⟩:=br1 a hw k e (ax1.1 h);rcases f with h|h<;>omega
 .obtain⟨z,m,h⟩:=eG1.1 h;have g:e.dst=z:=by
   rcases(bt3 b hw m h).kind with h|h|h
   .omega
   .omega
   .exact h.2.1
  unfold Bk.joinOf at h;split at h
  .simp at h
  .next d=>
   rw[g];cases hc:(b9 p).isCall z.id with
   | true=>rfl
   | false=>exact fj (.inr hc) d
def bP4(s:C8 p=true)(hw:C1 p<=1000000)(I:g∈(b9 p).we)(w:g.kind=4\/g.kind=5)(z:e∈(b9 p).we)(D:e.kind=6)(A:e.dst.id=g.src.id)(H:aN8 p lvK g.dst e.src):
  ∃r∈(b9 p).all,r.src=g.src/\r.dst=e.dst/\r.kind∈lvK/\(C5 (b9 p).wv g.dst,C5 (b9 p).wv e.src)∈(b9 p).hopOf r:=by
 have t:=D6 s;have K:=t.toKnown;have b:=do5 s hw z D;have E:(b9 p).s=i5 p:=rfl;have M:∃y,bF4 p y e:=by
  rcases av7 s hw z with⟨_,_,h⟩|h
  .rcases h with h|h<;>omega
  .exact h
 obtain⟨y,n⟩:=M;have O:e.dst=y/\y.kind=6/\e.src=⟨((i5 p).it y.id).s.proc,4,0,y.slot⟩:=by
  rcases n.kind with h|h|h
  .omega
  .omega
  .exact h.2
 obtain⟨j,u,v⟩:=O;have L:∃x,bF4 p x g:=by
  rcases av7 s hw I with⟨_,_,h⟩|h
  .rcases h with h|h<;>rcases w with k|k<;>omega
  .exact h
 obtain⟨x,f⟩:=L;have c:g.src=x:=by
  rcases f.kind with h|h|h
  .exact h.2.1
  .exact h.2.1
  .rcases w with k|k<;>omega
 have G:(x.kind=2/\g.dst=⟨((i5 p).it x.id).s.proc,1,0,e0⟩)\/(x.kind=5/\g.dst=⟨((i5 p).it x.id).s.proc,3,0,x.slot⟩):=by
  rcases f.kind with h|h|h
  .exact .inl h.2.2
  .exact .inr h.2.2
  .rcases w with k|k<;>omega
 have o:x.kind=2\/x.kind=5\/x.kind=6:=G.elim (λh=>.inl h.1) λh=>.inr (.inl h.1);have a:x.id=y.id:=by rw[<-c,<-A,j]
 have l:=cj4 t hw f.mem n.mem o (.inr (.inr u)) a;obtain⟨i,J,_,_,B⟩:=av9 K f.mem;have C:bN8 p i x:=ag8 t.may hw J B o;rw[j]at b;rcases G with⟨F,d⟩|⟨N,d⟩
 .have q:(⟨y.proc,2,y.id,e0⟩:Vx)=x:=by
   have:=C.st F;cases x;simp only at *;subst l a F this;rfl
  refine⟨⟨⟨y.proc,2,y.id,e0⟩,y,1⟩,am2 (aO6 t hw n.mem (.inr u)),by rw[c,q],by rw[j],by simp[lvK],?_⟩;unfold Bk.hopOf;rw[fi ⟨u,rfl,b⟩,fh dG,fi rfl,d,v,E,a];simp
 .have q:(⟨y.proc,5,y.id,x.slot⟩:Vx)=x:=by
   cases x;simp only at *;subst l a N;rfl
  have m:(⟨x,y,3⟩:Eg)∈(b9 p).sums:=by
   refine aM0 _ ⟨C5 (b9 p).wv e.src,e.src,C5 (b9 p).wv g.dst,g.dst,P7 n.src,by rw[v],H,by rw[eF4];exact P7 f.dst,by rw[d],e,eF9 _ z,?_⟩;refine aA6.2 ⟨⟨D,rfl⟩,y,by rw[j];exact P7 n.mem,?_,?_⟩
   .rw[d];show(⟨y.proc,5,y.id,x.slot⟩:Vx)∈_;rw[q];exact f.mem
   .rw[d];show(⟨x,y,3⟩:Eg)=⟨⟨y.proc,5,y.id,x.slot⟩,y,3⟩;rw[q]
  refine⟨⟨x,y,3⟩,eH0 _ m,c.symm,by rw[j],by simp[lvK],?_⟩;unfold Bk.hopOf;rw[fi ⟨u,a.symm,b⟩,fi rfl,d,v,E,a];simp
def bq0(p:Pg)(b:Vx):List Int->Vx->Prop
 | [],v=>∃m:Int,az9 p upK (C5 (b9 p).wv v:Nat) m/\az9 p dnK m (C5 (b9 p).wv b:Nat)
 | id::o,v=>aN8 p dnK v b\/∃e,e∈(b9 p).we/\e.kind=6/\e.dst.id=id/\aN8 p lvK v e.src/\bq0 p b o e.dst
def bq0.level(hw:aN8 p lvK u v)(h:bq0 p b o v):bq0 p b o u:=by
 cases o with
 | nil=>
  obtain⟨m,i,j⟩:=h;exact⟨m,Y6.trans (dB7 hw) i,j⟩
 | cons id o=>
  rcases h with h|⟨e,a,c,d,f,g⟩
  .exact .inl (Y6.trans (dB6 hw) h)
  .exact .inr ⟨e,a,c,d,Y6.trans hw f,g⟩
def bq0.opn(a:C8 p=true)(hw:C1 p<=1000000)(c:e∈(b9 p).we)(d:e.kind=4\/e.kind=5)(h:bq0 p b (e.src.id::o) e.dst):bq0 p b o e.src:=by
 have K:=(D6 a).toKnown;have f:aN8 p dnK e.src e.dst:=W9 K (am2 c) (by rcases d with h|h<;>simp[dnK,h]);rcases h with h|⟨g,i,j,k,l,m⟩
 .cases o with
  | nil=>exact⟨_,.refl,Y6.trans f h⟩
  | cons id o=>exact .inl (Y6.trans f h)
 .obtain⟨r,n,q,s,t,_⟩:=bP4 a hw c d i j k l;have:=W9 K n t;rw[q,s]at this;exact m.level this
inductive at0 (E:List Eg):Vx->List Int->Vx->Prop
 | done {v:Vx} {o:List Int}:at0 E v o v
 | flat {b:Vx} {o:List Int} {e:Eg}:e∈E->(e.kind=1\/e.kind=2)->at0 E e.dst o b->at0 E e.src o b
 | opn {b:Vx} {o:List Int} {e:Eg}:e∈E->(e.kind=4\/e.kind=5)->at0 E e.dst (e.src.id::o) b->at0 E e.src o b
 | up {b:Vx} {e:Eg}:e∈E->e.kind=6->at0 E e.dst [] b->at0 E e.src [] b
 | cls {b:Vx} {o:List Int} {e:Eg}:e∈E->e.kind=6->at0 E e.dst o b->at0 E e.src (e.dst.id::o) b
def at0.rest(e:C8 p=true)(hw:C1 p<=1000000)(h:at0 (b9 p).we v o b):bq0 p b o v:=by
 have K:=(D6 e).toKnown
 induction h with
 | @done v o=>
  cases o with
  | nil=>exact⟨_,.refl,.refl⟩
  | cons id o=>exact .inl .refl
 | flat a c _ d=>exact d.level (W9 K (am2 a) (by rcases c with h|h<;>simp[lvK,h]))
 | opn a c _ d=>exact d.opn e hw a c
 | up a c _ d=>
  obtain⟨m,f,g⟩:=d;exact⟨m,Y6.trans (W9 (ks:=upK) K (am2 a) (by simp[upK,c])) f,g⟩
 | cls a c _ d=>exact .inr ⟨_,a,c,rfl,.refl,d⟩
end
def bB8(V:List Vx)(S:List Bool):(F3 V S).length<=S.length:=by
 apply eD7 (length_filterMap_le _ _);unfold af1;rw[eE3];apply eD7 (eG0 _ _);rw[eI3];exact eE8 _
end Go.Proofs.YtpebpfiglfmegaaGreat
namespace Go.Proofs
open Go.Shelf
end Go.Proofs
namespace Go.Proofs.YtpebpfiglfmegaaGreat
open Go Tryz List IntKind Region
def dE7{P T}{z:Value}(l:I7 P T=some z)(c:z.cells.size=O7 P T)(i:∀u∈z.cells.toList,u.oneCell'=true)(q:L7 P T=true)(r:(P.underlying T).isSome=true)(p:(P.info? T).isSome=true)(w:World):
  ∃f,w.heap.size<f.heap.size/\(Instr.alloc T true (.tuple #[])).run P w = .ok (.pointer (some ⟨w.heap.size,0,none⟩)) f/\o6 w f/\∀(e:World) (cs:Array Value),cs.size=O7 P T->(∀u∈cs.toList,u.oneCell'=true)->o6 f e ->
  ∃a,(Instr.storeAt T (.pointer (some ⟨w.heap.size,0,none⟩)) (.agg cs)).run P e = .ok () a/\(Instr.loadAt T (.pointer (some ⟨w.heap.size,0,none⟩))).run P a = .ok (.agg cs) a/\o6 w a/\t8 (λb=>b=w.heap.size) e a:=by
 have o:=(aE6 (P:=P) (w:=w) (T:=T) l c (cs:=z.cells) c i).1;refine⟨_,dG,o,o6.alloc _ _,λe cs d h k=>?_⟩;have g:e.heap[w.heap.size]?=some (.cells z.cells T (0,0)):=(k.block _ dG id).trans (eH3 w _);obtain⟨a,m,n,j⟩:=ad2 (P:=P) (T:=T) g l c d h;exact⟨a,m,ad1 n q r p d.symm,t8.ext_of ((o6.alloc _ _).trans k) j λb g=>by rw[g];exact eE8 _,j⟩
def dE8(w:World):∃d,w.heap.size<d.heap.size/\(Instr.alloc 110 true (.tuple #[])).run prog w = .ok (.pointer (some ⟨w.heap.size,0,none⟩)) d/\o6 w d/\∀(e:World) (c:Array Value),c.size=O7 prog 110->(∀u∈c.toList,u.oneCell'=true)->o6 d e ->
  ∃a,(Instr.storeAt 110 (.pointer (some ⟨w.heap.size,0,none⟩)) (.agg c)).run prog e = .ok () a/\(Instr.loadAt 110 (.pointer (some ⟨w.heap.size,0,none⟩))).run prog a = .ok (.agg c) a/\o6 w a/\t8 (λb=>b=w.heap.size) e a:=
 dE7 cV0 (by rw[ag6];rfl) (by simp[Value.cells,Value.oneCell']) bd7 be0 aV6 w
theorem ak5{k:IntKind}{n}:(Value.int k n).cells=#[.int k n]:=rfl
theorem bl6{b}:(Value.bool b).cells=#[.bool b]:=rfl
theorem ak6{s:B9}:(A4 s).cells=#[A4 s]:=rfl
theorem aO7{cs}:(Value.agg cs).cells=cs:=rfl
theorem ag1:Value.string ⟨#[]⟩=e0:=rfl
def dt9(n):D0 prog 110 [(0,.int .i64 1),(1,.int .i64 n)]=some (.agg #[.int .i64 1,.int .i64 n,A4 e0,.slice none 0 0]):=by
 simp[D0,cU7,M2,Instr.fill,ak5,ag1]
def du0(s:B9):D0 prog 110 [(0,(2:Int)),(2,s)]=some (.agg #[(2:Int),(0:Int),A4 s,.slice none 0 0]):=by
 simp[D0,cU7,M2,Instr.fill,ak5,ak6,ag1]
def du1(op)(a:Value)(b:a.cells=#[a]):D0 prog 110 [(0,.int .i64 op),(3,a)]=some (.agg #[.int .i64 op,.int .i64 0,A4 e0,a]):=by
 simp[D0,cU7,M2,Instr.fill,ak5,ag1,b]
def cq4(n w):p7 prog 73 #[.int .i64 n] w λu g=>(u = .agg #[.int .i64 1,.int .i64 n,A4 e0,.slice none 0 0]/\o6 w g):=by
 apply y5 [.int .i64 n] func73 rfl;obtain⟨h,_,b,c,a⟩:=dE8 w;obtain⟨i,d,e,f,_⟩:=a h #[.int .i64 1,.int .i64 n,A4 e0,.slice none 0 0] (by rw[ag6];rfl) (by simp[A4,Value.oneCell']) (t8.refl _);simp only[eF,simprocAttr,b,dt9 n,d];refine R4 results73 (ad:=⟨w.heap.size,0,none⟩) (by simp only[C9,simprocAttr]) e ?_;exact⟨rfl,f⟩
def aG3(s:B9)(w):p7 prog 74 #[s] w λu g=>(u = .agg #[(2:Int),(0:Int),s,()]/\o6 w g):=by
 apply y5 [s] func74 rfl;obtain⟨h,_,b,c,a⟩:=dE8 w;obtain⟨i,d,e,f,_⟩:=a h #[(2:Int),(0:Int),s,()] (by rw[ag6];rfl) (by simp[A4,Value.oneCell']) (t8.refl _);simp only[eF,simprocAttr,b,du0 s,d];refine R4 results74 (ad:=⟨w.heap.size,0,none⟩) (by simp only[C9,simprocAttr]) e ?_;exact⟨rfl,f⟩
section
variable {h:Hp}
def aM1{op n}{name:B9}{vk}{kids:List Ex}(a:R h vk kids):SV h (.agg #[.int .i64 op,.int .i64 n,A4 name,vk]) (Ex.mk op n name kids):=⟨_,rfl,bQ5.2 ⟨vk,rfl,a⟩⟩
def dY0{r}{name:B9}{c1 c2 c3 c4}{x:Ex}(a:SV h (.agg #[c1,c2,c3,c4]) x):SV h (.agg #[.bool r,A4 name,c1,c2,c3,c4]) (⟨r,name,x⟩:Ar):=⟨_,rfl,[c1,c2,c3,c4],rfl,a.enc⟩
def bJ5{id kind vl}{labels:List B9}{name proc:B9}{c1 c2 c3 c4}{x:Ex}{has va vt ve}{args:List Ar}{thn els:List St}
  (c:R h vl labels) (e:SV h (.agg #[c1,c2,c3,c4]) x) (a:R h va args) (d:R h vt thn) (b:R h ve els) :
  SV h (.agg #[.int .i64 id,.int .i64 kind,vl,A4 name,A4 proc,c1,c2,c3,c4,.bool has,va,vt,ve]) (St.mk id kind labels name proc x has args thn els):=
 ⟨_,rfl,bQ6.2 ⟨vl,[c1,c2,c3,c4],va,vt,ve,rfl,c,e.enc,a,d,b⟩⟩
def dY1{name:B9}{v1 v2 v3 v4}{a:List Pa}{c:List B9}{b:List St}{d:List B9}(e:R h v1 a)(f:R h v2 c)(g:R h v3 b)(i:R h v4 d):
  SV h (.agg #[name,v1,v2,v3,v4]) (⟨name,a,c,b,d⟩:Pr):=⟨_,rfl,v1,v2,v3,v4,rfl,e,f,g,i⟩
def eq3{v1 v2}{a:List B9}{b:List Pr}(c:R h v1 a)(d:R h v2 b):SV h (.agg #[v1,v2]) (⟨a,b⟩:Pg):=⟨_,rfl,v1,v2,rfl,c,d⟩
def N5{α:Type}[A9 α]:R h () ([]:List α):=⟨none,0,0,rfl,rfl,eE8 _,[],rfl,λj v h=>by simp at h⟩
end
def cW1{α:Type}[A9 α](h:Hp):List Value->List α->Prop
 | [],[]=>True
 | x::xs,y::ys=>SV h x y/\cW1 h xs ys
 | _,_=>False
def ci4{α:Type}[A9 α]{h}:∀{a:List Value} {b:List α},cW1 h a b->V4 h (a.flatMap (·.cells.toList)) b/\(∀x∈a,x.cells.size=A9.sz α)/\b.length=a.length
 | [],[],_=>⟨rfl,λx d=>(by cases d),rfl⟩
 | x::a,y::b,⟨h1,h2⟩=>by
  obtain⟨e,f,g⟩:=ci4 h2;refine⟨⟨x.cells.toList,_,dG,h1.enc,e⟩,λz c=>?_,by simp[g]⟩;rcases eF0.1 c with rfl|c
  .have:=A9.len h1.enc;simpa using this
  .exact f z c
def dW7{P t T sz by_}(o:I4 P t T sz by_=true){α:Type}[A9 α](e:A9.sz α=sz){h w}{xs:List Value}{ys:List α}{parts:Array (Nat×Value)}{n}(m:parts.toList=(xs.zipIdx 0).map λp=>(p.2,p.1))
  (f:cW1 h xs ys) (hn:n=xs.length) (d:xs≠[]) (c:xs.length<=16) (hw:E6 h (n8 w)) :
  ∃v a,(Instr.buildSlice t n parts).run P w = .ok v a/\R (n8 a) v ys/\v.cells=#[v]/\o6 w a/\B7 h a T v ys/\∀b,B0 v b->w.heap.size<=b:=by
 obtain⟨j,k,l⟩:=ci4 f;obtain⟨v,a,q,g,i,r⟩:=lit o m j (by rw[<-e];exact k) hn l d c hw;exact⟨v,a,q,g.rw_ (A3 hw (b7 i)),G3 g.isS,i,g,r⟩
def noE{N:Nat->Prop}{w w'}(a:o6 w w'):E6 (D9 w N) (D9 w' N):=M8 a (λ_ h=>h.elim) λb h=>.inl h
def dl8{P t T sz by_}(m:I4 P t T sz by_=true){α:Type}[A9 α](e:A9.sz α=sz){N:Nat->Prop}{w:World}(hN:∀b,N b->b<w.heap.size){xs:List Value}{ys:List α}{parts:Array (Nat×Value)}{n}(l:parts.toList=(xs.zipIdx 0).map λp=>(p.2,p.1))
  (f:cW1 (D9 w N) xs ys) (hn:n=xs.length) (d:xs≠[]) (c:xs.length<=16) :
  ∃v a,(Instr.buildSlice t n parts).run P w = .ok v a/\R (D9 a N) v ys/\v.cells=#[v]/\o6 w a/\B7 (D9 w N) a T v ys/\∀b,B0 v b->w.heap.size<=b:=by
 obtain⟨v,a,o,_,q,g,i,j⟩:=dW7 m e l f hn d c (B6 _ _);exact⟨v,a,o,i.ro (noE g) λb k=>E9 λh=>(by have:=hN b h;have:=j b k;omega),q,g,i,j⟩
def ec7(s:B9){N:Nat->Prop}(w:World)(hN:∀b,N b->b<w.heap.size):∃v a,(Instr.buildSlice 22 1 #[(0,s)]).run prog w = .ok v a/\R (D9 a N) v [s]/\v.cells=#[v]/\o6 w a:=by
 obtain⟨v,a,f,c,d,g⟩:=cD2 s w (B6 w N);exact⟨v,a,f,c.ro (noE d) λb e=>E9 λh=>(by have:=hN b h;have:=g b e;omega),G3 c.isS,d⟩
def ep2:I4 prog 108 110 4 56=true:=kr
def ep1:I4 prog 111 125 6 80=true:=kr
def dF6:I4 prog 66 113 13 208=true:=kr
def ep7:I4 prog 65 72 2 24=true:=kr
def ep8:I4 prog 23 68 5 112=true:=kr
def bs1(id kind)(n:B9)(c1 c2 c3 c4):D0 prog 113 [(0,.int .i64 id),(1,.int .i64 kind),(3,A4 n),(5,.agg #[c1,c2,c3,c4])]=some (.agg #[.int .i64 id,.int .i64 kind,.slice none 0 0,A4 n,A4 e0,c1,c2,c3,c4,.bool false,.slice none 0 0,.slice none 0 0,.slice none 0 0]):=by
 simp[D0,bE2,M2,Instr.fill,ak5,ak6,aO7,ag1]
def bs2(id kind)(n q:B9)(a:Value)(b:a.cells=#[a]):D0 prog 113 [(0,.int .i64 id),(1,.int .i64 kind),(3,A4 n),(4,A4 q),(7,a)]=some (.agg #[.int .i64 id,.int .i64 kind,.slice none 0 0,A4 n,A4 q,.int .i64 0,.int .i64 0,A4 e0,.slice none 0 0,.bool false,a,.slice none 0 0,.slice none 0 0]):=by
 simp[D0,bE2,M2,Instr.fill,ak5,ak6,ag1,b]
def bs3(id kind c1 c2 c3 c4):D0 prog 113 [(0,.int .i64 id),(1,.int .i64 kind),(5,.agg #[c1,c2,c3,c4])]=some (.agg #[.int .i64 id,.int .i64 kind,.slice none 0 0,A4 e0,A4 e0,c1,c2,c3,c4,.bool false,.slice none 0 0,.slice none 0 0,.slice none 0 0]):=by
 simp[D0,bE2,M2,Instr.fill,ak5,aO7,ag1]
def bs4(id kind)(n:B9):D0 prog 113 [(0,.int .i64 id),(1,.int .i64 kind),(3,A4 n)]=some (.agg #[.int .i64 id,.int .i64 kind,.slice none 0 0,A4 n,A4 e0,.int .i64 0,.int .i64 0,A4 e0,.slice none 0 0,.bool false,.slice none 0 0,.slice none 0 0,.slice none 0 0]):=by
 simp[D0,bE2,M2,Instr.fill,ak5,ak6,ag1]
def bs5(id kind)(b c d e a:Value)(f:a.cells=#[a]):D0 prog 113 [(0,.int .i64 id),(1,.int .i64 kind),(5,.agg #[b,c,d,e]),(8,a)]=some (.agg #[.int .i64 id,.int .i64 kind,.slice none 0 0,A4 e0,A4 e0,b,c,d,e,.bool false,.slice none 0 0,a,.slice none 0 0]):=by
 simp[D0,bE2,M2,Instr.fill,ak5,aO7,ag1,f]
def bs6(id kind c1 c2 c3 c4):D0 prog 113 [(0,.int .i64 id),(1,.int .i64 kind),(6,.bool true),(5,.agg #[c1,c2,c3,c4])]=some (.agg #[.int .i64 id,.int .i64 kind,.slice none 0 0,A4 e0,A4 e0,c1,c2,c3,c4,.bool true,.slice none 0 0,.slice none 0 0,.slice none 0 0]):=by
 simp[D0,bE2,M2,Instr.fill,ak5,bl6,aO7,ag1]
def ba1(c1 c2 c3 c4):D0 prog 125 [(2,.agg #[c1,c2,c3,c4])]=some (.agg #[false,e0,c1,c2,c3,c4]):=by
 simp[D0,dH7,M2,Instr.fill,aO7,ag1]
def ba2(n:B9):D0 prog 125 [(0,true),(1,n)]=some (.agg #[true,n,(0:Int),(0:Int),A4 e0,.slice none 0 0]):=by
 simp[D0,dH7,M2,Instr.fill,bl6,ak6,ag1]
def bp1(n:B9)(a b:Value)(d:a.cells=#[a])(c:b.cells=#[b]):D0 prog 68 [(0,n),(2,a),(3,b)]=some (.agg #[n,.slice none 0 0,a,b,.slice none 0 0]):=by
 simp[D0,dY9,M2,Instr.fill,ak6,ag1,d,c]
def bp2(n:B9)(a b c:Value)(f:a.cells=#[a])(d:b.cells=#[b])(e:c.cells=#[c]):D0 prog 68 [(0,n),(1,a),(4,c),(3,b)]=some (.agg #[A4 n,a,.slice none 0 0,b,c]):=by
 simp[D0,dY9,M2,Instr.fill,ak6,ag1,f,d,e]
def bq1(n:B9):D0 prog 72 [(0,n)]=some (.agg #[A4 n,.bool false]):=by
 simp[D0,dH9,M2,Instr.fill,ak6,ag1]
def bq2(n:B9):D0 prog 72 [(0,n),(1,true)]=some (.agg #[A4 n,.bool true]):=by
 simp[D0,dH9,M2,Instr.fill,bl6,ak6,ag1]
def bg1(a b:Value)(d:a.cells=#[a])(c:b.cells=#[b]):D0 prog 25 [(0,a),(1,b)]=some (.agg #[a,b]):=by
 simp[D0,er0,M2,Instr.fill,d,c]
def dc7{N:Nat->Prop}(op)(a b:Ex)(a1 a2 a3 a4 b1 b2 b3 b4)(w:World)(hN:∀b,N b->b<w.heap.size)(p:SV (D9 w N) (.agg #[a1,a2,a3,a4]) a)(hb:SV (D9 w N) (.agg #[b1,b2,b3,b4]) b):
  p7 prog 75 #[.int .i64 op,.agg #[a1,a2,a3,a4],.agg #[b1,b2,b3,b4]] w λu i=>(∃g,u = .agg #[.int .i64 op,.int .i64 0,A4 e0,g]/\R (D9 i N) g [a,b]/\o6 w i):=by
 apply bF8 (args:=[.int .i64 op,.agg #[a1,a2,a3,a4],.agg #[b1,b2,b3,b4]]) hm func75 rfl kr (by show 3<=_;decide +kernel);obtain⟨Q,M,r,d,j⟩:=bL6 (w:=w) (λ_=>False) p (λb h=>h.elim);obtain⟨S,t,s,e,k⟩:=bL6 (w:=M) (λ_=>False) (hb.mono (noE d)) (λb h=>h.elim);obtain⟨v,G,q,f,l⟩:=dE8 t;have m:∀{w i:World},o6 w i->E6 (D9 w λ_=>False) (n8 i):=fun{w i} hx=>A3 (B6 _ _) (b7 hx);have H:=(L8.ex_v p j).1 v (m (e.trans f));have I:=(L8.ex_v (hb.mono (noE d)) k).1 v (m f);have c:=d.trans e;obtain⟨g,O,J,_,K,L,z,A⟩:=dW7 (P:=prog) ep2 rfl (w:=v) (h:=D9 t N) (xs:=[.agg #[a1,a2,a3,a4],.agg #[b1,b2,b3,b4]]) (ys:=[a,b]) (parts:=#[(0,.agg #[a1,a2,a3,a4]),(1,.agg #[b1,b2,b3,b4])]) (n:=2) rfl ⟨p.mono (noE c),hb.mono (noE c),trivial⟩ rfl dG dG (A3 (B6 _ _) (b7 f));have o:=aa9 z.isS;obtain⟨W,B,C,x,D⟩:=l O #[.int .i64 op,.int .i64 0,A4 Go.Proofs.YtpebpfiglfmegaaGreat.e0,g] (by rw[ag6];rfl) (λu y=>by
  simp only[eF0,eH6,eM0]at y;rcases y with rfl|rfl|rfl|rfl
  .rfl
  .rfl
  .rfl
  .exact o) L
 simp only[eF,simprocAttr,r,s,q,H,I,J,du1 op g K,B];refine R4 results75 (ad:=⟨t.heap.size,0,none⟩) (by simp only[C9,simprocAttr]) C ?_;refine⟨g,rfl,?_,(d.trans e).trans x⟩;refine(z.mod D λb E T=>(by have F:=A b E;omega)).ro (noE x) λb hb=>E9 λh=>?_;have F:=A b hb;have U:=hN b h;have V:=c.size;omega
def eo6(w:World):∃d,w.heap.size<d.heap.size/\(Instr.alloc 25 true (.tuple #[])).run prog w = .ok (.pointer (some ⟨w.heap.size,0,none⟩)) d/\o6 w d/\∀(e:World) (c:Array Value),c.size=O7 prog 25->(∀u∈c.toList,u.oneCell'=true)->o6 d e ->
  ∃a,(Instr.storeAt 25 (.pointer (some ⟨w.heap.size,0,none⟩)) (.agg c)).run prog e = .ok () a/\(Instr.loadAt 25 (.pointer (some ⟨w.heap.size,0,none⟩))).run prog a = .ok (.agg c) a/\o6 w a/\t8 (λb=>b=w.heap.size) e a:=
 dE7 dZ4 (by rw[cI6];rfl) (by simp[Value.cells,Value.oneCell']) dH4 dJ0 dH5 w
theorem eA4:Value.string ⟨#[118]⟩=sV:=rfl
theorem eA2:Value.string ⟨#[103]⟩=sG:=rfl
theorem eA3:Value.string ⟨#[112]⟩=sP:=rfl
theorem eA5:Value.string ⟨#[120]⟩=sX:=rfl
theorem eA6:Value.string ⟨#[121]⟩=sY:=rfl
theorem eA1:Value.string ⟨#[101]⟩=sE:=rfl
theorem eo7:Value.string ⟨#[109,97,105,110]⟩=H9:=rfl
def cw1(w):p7 prog 42 #[] w λu y=>(SV (n8 y) u ac9/\o6 w y):=by
 apply y5 [] func42 rfl;obtain⟨w0,bc,Z,bd,D⟩:=eo6 w;have hN:∀{y:World},o6 w0 y->∀b,b=w.heap.size->b<y.heap.size:=fun{y} hx b hb=>by have:=hx.size;omega
 obtain⟨v1,w1,q1,r1,k1,x1⟩:=ec7 sV (N:=λb=>b=w.heap.size) w0 (hN (t8.refl _));simp only[i4,simprocAttr,Z,eA4,eA2,eA3,eA5,eA6,eA1,eo7,q1];refine B3 (cq4 2 w1) (λw2 x2=>?_);simp only[i4,simprocAttr,bs1];refine B3 (cq4 3 w2) (λw3 x3=>?_);have y3:=(x1.trans x2).trans x3;obtain⟨v4,w4,q4,r4,k4,x4,_,_⟩:=dl8 (P:=prog) (α:=Ar) ep1 rfl (N:=λb=>b=w.heap.size) (w:=w3) (hN y3) (xs:=[.agg #[false,e0,(1:Int),(3:Int),e0,()],.agg #[true,sV,(0:Int),(0:Int),e0,()]]) (ys:=[⟨false,e0,bG4 3⟩,⟨true,sV,.mk 0 0 e0 []⟩]) (parts:=#[(0,.agg #[false,e0,(1:Int),(3:Int),e0,()]),(1,.agg #[true,sV,(0:Int),(0:Int),e0,()])]) (n:=2) rfl ⟨dY0 (aM1 N5),dY0 (aM1 N5),trivial⟩ rfl dG dG;simp only[i4,simprocAttr,ba1,ba2,q4,bs2 _ _ _ _ _ k4];refine B3 (aG3 sV w4) (λw5 x5=>?_);simp only[i4,simprocAttr,bs3];refine B3 (aG3 sG w5) (λw6 x6=>?_);have y6:=((y3.trans x4).trans x5).trans x6;obtain⟨v7,w7,q7,r7,k7,x7,_,_⟩:=dl8 (P:=prog) (α:=St) dF6 rfl (N:=λb=>b=w.heap.size) (w:=w6) (hN y6) (xs:=[.agg #[(1:Int),(1:Int),(),sV,e0,(1:Int),(2:Int),e0,(),false,(),(),()],.agg #[(2:Int),(4:Int),(),sG,sP,(0:Int),(0:Int),e0,(),false,v4,(),()],.agg #[(3:Int),(3:Int),(),e0,e0,(2:Int),(0:Int),sV,(),false,(),(),()],.agg #[(4:Int),(3:Int),(),e0,e0,(2:Int),(0:Int),sG,(),false,(),(),()]]) (ys:=[.mk 1 1 [] sV e0 (bG4 2) false [] [] [],.mk 2 4 [] sG sP (.mk 0 0 e0 []) false [⟨false,e0,bG4 3⟩,⟨true,sV,.mk 0 0 e0 []⟩] [] [],.mk 3 3 [] e0 e0 (ap0 sV) false [] [] [],.mk 4 3 [] e0 e0 (ap0 sG) false [] [] []]) (parts:=#[(0,.agg #[(1:Int),(1:Int),(),sV,e0,(1:Int),(2:Int),e0,(),false,(),(),()]),(1,.agg #[(2:Int),(4:Int),(),sG,sP,(0:Int),(0:Int),e0,(),false,v4,(),()]),(2,.agg #[(3:Int),(3:Int),(),e0,e0,(2:Int),(0:Int),sV,(),false,(),(),()]),(3,.agg #[(4:Int),(3:Int),(),e0,e0,(2:Int),(0:Int),sG,(),false,(),(),()])]) (n:=4) rfl ⟨bJ5 N5 (aM1 N5) N5 N5 N5,bJ5 N5 (aM1 N5) (A9.mono (noE (x5.trans x6)) r4) N5 N5,bJ5 N5 (aM1 N5) N5 N5 N5,bJ5 N5 (aM1 N5) N5 N5 N5,trivial⟩ rfl dG dG;have y7:=y6.trans x7;have c:SV (D9 w7 λb=>b=w.heap.size) (.agg #[H9,(),v1,v7,()]) bX2:=dY1 N5 (A9.mono (noE (((((x2.trans x3).trans x4).trans x5).trans x6).trans x7)) r1) r7 N5;obtain⟨d1,bz,w8,B,E,x8,C⟩:=aM3 (w:=w7) (λb=>b=w.heap.size) c (hN y7);have y8:=y7.trans x8;obtain⟨v9,w9,q9,r9,k9,x9,_,_⟩:=dl8 (P:=prog) (α:=Pa) ep7 rfl (N:=λb=>b=w.heap.size) (w:=w8) (hN y8) (xs:=[.agg #[sX,false],.agg #[sY,true]]) (ys:=[⟨sX,false⟩,⟨sY,true⟩]) (parts:=#[(0,.agg #[sX,false]),(1,.agg #[sY,true])]) (n:=2) rfl ⟨⟨_,rfl,rfl⟩,⟨_,rfl,rfl⟩,trivial⟩ rfl dG dG;have y9:=y8.trans x9;obtain⟨p,M,ag,am,aa,Q⟩:=ec7 sE (N:=λb=>b=w.heap.size) w9 (hN y9);simp only[i4,simprocAttr,bs3,q7,bp1 _ _ _ k1 k7,B,E,bq1,bq2,q9,ag];refine B3 (aG3 sY M) (λay r=>?_);simp only[i4,simprocAttr];refine B3 (aG3 sX ay) (λaz s=>?_);have S:=((y9.trans Q).trans r).trans s;simp only[i4,simprocAttr];apply z6 (dc7 (N:=λb=>b=w.heap.size) 8 (ap0 sY) (ap0 sX) _ _ _ _ _ _ _ _ az (hN S) (aM1 N5) (aM1 N5));rintro _ aA ⟨J,rfl,an,t⟩;simp only[i4,simprocAttr,bs1];refine B3 (aG3 sY aA) (λaB h=>?_);simp only[i4,simprocAttr];refine B3 (cq4 9 aB) (λaC i=>?_);have T:=((S.trans t).trans h).trans i;simp only[i4,simprocAttr];apply z6 (dc7 (N:=λb=>b=w.heap.size) 12 (ap0 sY) (bG4 9) _ _ _ _ _ _ _ _ aC (hN T) (aM1 N5) (aM1 N5));rintro _ aD ⟨K,rfl,ao,j⟩;have U:=T.trans j;obtain⟨L,aE,ah,ap,ab,e,_,_⟩:=dl8 (P:=prog) (α:=St) dF6 rfl (N:=λb=>b=w.heap.size) (w:=aD) (hN U) (xs:=[.agg #[(7:Int),(10:Int),(),sE,e0,(0:Int),(0:Int),e0,(),false,(),(),()]]) (ys:=[.mk 7 10 [] sE e0 (.mk 0 0 e0 []) false [] [] []]) (parts:=#[(0,.agg #[(7:Int),(10:Int),(),sE,e0,(0:Int),(0:Int),e0,(),false,(),(),()])]) (n:=1) rfl ⟨bJ5 N5 (aM1 N5) N5 N5 N5,trivial⟩ rfl dG dG;simp only[i4,simprocAttr,bs4,ah,bs5 _ _ _ _ _ _ _ ab];refine B3 (aG3 sY aE) (λaF a=>?_);have V:=(U.trans e).trans a;have F:=A9.mono (noE ((((h.trans i).trans j).trans e).trans a)) an;obtain⟨q,f,aj,aq,ac,v,_,_⟩:=dl8 (P:=prog) (α:=St) dF6 rfl (N:=λb=>b=w.heap.size) (w:=aF) (hN V) (xs:=[.agg #[(5:Int),(1:Int),(),sY,e0,(8:Int),(0:Int),e0,J,false,(),(),()],.agg #[(6:Int),(5:Int),(),e0,e0,(12:Int),(0:Int),e0,K,false,(),L,()],.agg #[(8:Int),(9:Int),(),e0,e0,(2:Int),(0:Int),sY,(),true,(),(),()]]) (ys:=[.mk 5 1 [] sY e0 (cZ0 8 (ap0 sY) (ap0 sX)) false [] [] [],.mk 6 5 [] e0 e0 (cZ0 12 (ap0 sY) (bG4 9)) false [] [.mk 7 10 [] sE e0 (.mk 0 0 e0 []) false [] [] []] [],.mk 8 9 [] e0 e0 (ap0 sY) true [] [] []]) (parts:=#[(0,.agg #[(5:Int),(1:Int),(),sY,e0,(8:Int),(0:Int),e0,J,false,(),(),()]),(1,.agg #[(6:Int),(5:Int),(),e0,e0,(12:Int),(0:Int),e0,K,false,(),L,()]),(2,.agg #[(8:Int),(9:Int),(),e0,e0,(2:Int),(0:Int),sY,(),true,(),(),()])]) (n:=3) rfl ⟨bJ5 N5 (aM1 F) N5 N5 N5,bJ5 N5 (aM1 (A9.mono (noE (e.trans a)) ao)) N5 (A9.mono (noE a) ap) N5,bJ5 N5 (aM1 N5) N5 N5 N5,trivial⟩ rfl dG dG;have W:=V.trans v;have z9:o6 w9 f:=((((((((Q.trans r).trans s).trans t).trans h).trans i).trans j).trans e).trans a).trans v;have aL:o6 M f:=(((((((r.trans s).trans t).trans h).trans i).trans j).trans e).trans a).trans v;have d:SV (D9 f λb=>b=w.heap.size) (.agg #[sP,v9,(),q,p]) bX3:=dY1 (A9.mono (noE z9) r9) N5 aq (A9.mono (noE aL) am);obtain⟨d2,aU,aG,l,o,x,m⟩:=aM3 (w:=f) (λb=>b=w.heap.size) d (hN W);have X:=W.trans x;obtain⟨au,g,ak,G,ae,k⟩:=ec7 sG (N:=λb=>b=w.heap.size) aG (hN X);have Y:=X.trans k;have z8:o6 w8 g:=((x9.trans z9).trans x).trans k;have l1:=(L8.pr_v c C).1 g (A3 (noE z8) (B6 _ _));have l2:=(L8.pr_v d m).1 g (A3 (noE k) (B6 _ _));obtain⟨av,O,al,I,af,R,_,_⟩:=dl8 (P:=prog) (α:=Pr) ep8 rfl (N:=λb=>b=w.heap.size) (w:=g) (hN Y) (xs:=[.agg #[H9,(),v1,v7,()],.agg #[sP,v9,(),q,p]]) (ys:=[bX2,bX3]) (parts:=#[(0,.agg #[H9,(),v1,v7,()]),(1,.agg #[sP,v9,(),q,p])]) (n:=2) rfl ⟨c.mono (noE (x8.trans z8)),d.mono (noE (x.trans k)),trivial⟩ rfl dG dG;have aK:=Y.trans R;have H:=A9.mono (noE R) G;have z:=am0 G;have A:=am0 I;obtain⟨aH,e1,e2,e3,e4⟩:=D O #[au,av] (by rw[cI6];rfl) (λu hu=>by
  simp only[eF0,eH6,eM0]at hu;rcases hu with rfl|rfl
  .exact z
  .exact A) aK
 simp only[i4,simprocAttr,bs6,aj,bp2 _ _ _ _ k9 ac aa,l,o,ak,l1,l2,al,bg1 _ _ ae af,e1];refine R4 results42 (ad:=⟨w.heap.size,0,none⟩) (by simp only[C9,simprocAttr]) e2 ?_;refine⟨?_,e3⟩;have hh:E6 (D9 O λb=>b=w.heap.size) (n8 aH):=G8 (B6 _ _) e4 λb hb=>G2 hb;exact eq3 (A9.mono hh H) (A9.mono hh I)
def bx0:C1 ac9<=1000000:=by decide +kernel
def bz8(q:B9)(k d):D0 prog 27 [(0,A4 q),(1,.int .i64 k),(2,.int .i64 d)]=some (.agg (A0.cells (⟨q,k,d,e0⟩:Vx)).toArray):=by
 have h:A0.cells (⟨q,k,d,e0⟩:Vx)=[A4 q,.int .i64 k,.int .i64 d,A4 e0]:=rfl;rw[h];simp[D0,bJ9,M2,Instr.fill,Value.cells,A4,e0];rfl
def R6(n:Nat):Int:=((min n 20001:Nat):Int)
def dN7(n):0<=R6 n/\R6 n<=20001:=by unfold R6;omega
def aH2{n}(h:R6 n<=20000):R6 n=(n:Int)/\n<=20000:=by unfold R6 at *;omega
def aw5{n m}(h:¬R6 n<=20000)(hm:n<=m):R6 m=20001/\R6 n=20001:=by unfold R6 at *;omega
def J1{α:Type}(f:α->Nat)(l:List α):Nat:=(l.map f).sum
section
variable {α:Type} {f:α->Nat}
def ay0{l:List α}{k}(a:k<l.length):J1 f (l.take (k+1))=J1 f (l.take k)+f l[k]:=by
 unfold J1;rw[eD9 a,eG8,sum_append];simp only[eI4,map_nil,eO9,sum_nil];omega
def aQ3(l:List α)(k):J1 f (l.take k)<=J1 f l:=by
 unfold J1
 conv=>rhs;rw[<-eH8 k l]
 rw[eG8,sum_append];omega
def ax9(h:∀x,1<=f x):∀(l:List α),l.length<=J1 f l
 | []=>dG
 | x::l=>by
  have:=ax9 h l;have:=h x;unfold J1 at *;simp only[eI4,eO9,eG6];omega
end
theorem cJ6:∀l:List B9,aQ9 l=J1 wtT l
 | []=>rfl
 | s::l=>by rw[aQ9,cJ6 l];rfl
theorem cl3:∀l:List Ex,aK3 l=J1 ae9 l
 | []=>rfl
 | s::l=>by rw[aK3,cl3 l];rfl
theorem cl1:∀l:List Ar,ao2 l=J1 aD2 l
 | []=>rfl
 | s::l=>by rw[ao2,cl1 l];rfl
theorem bF3:∀l:List St,M5 l=J1 Z6 l
 | []=>rfl
 | s::l=>by rw[M5,bF3 l];rfl
theorem cl4:∀l:List Pa,bZ6 l=J1 (λa=>wtT a.name) l
 | []=>rfl
 | s::l=>by rw[bZ6,cl4 l];rfl
theorem cl5:∀l:List Pr,aX3 l=J1 ah4 l
 | []=>rfl
 | s::l=>by rw[aX3,cl5 l];rfl
def bi5(s:B9):1<=wtT s:=by unfold wtT;omega
def dL2(a:Ar):1<=aD2 a:=by unfold aD2;have:=bi5 a.name;omega
def dL3(f:Pr):1<=ah4 f:=by unfold ah4;have:=bi5 f.name;omega
def ac7(s:B9)(n w):p7 prog 44 #[s,(R6 n)] w λu g=>(u=(R6 (n+wtT s))/\g=w):=by
 apply y5 [s,(R6 n)] func44 rfl;have a:ad8 prog 9 s=some (.int .i64 (s.b.length:Nat)):=el8 kr kr;have k:=dN7 n;have l:wtT s=1+s.b.length:=rfl;rcases eD2 (decide (20000<R6 n))with h1|h1
 .have c:=eD3 h1;simp only[eF,simprocAttr,h1];apply o8 results44;simp only[C9,simprocAttr];exact⟨by rw[(aw5 om (by omega:n<=n+wtT s)).1],tt⟩
 have c:=eD6 h1;obtain⟨h,j⟩:=aH2 (n:=n) om;have b:IntKind.i64.wrap (20000-R6 n)=20000-R6 n:=N7 _ om;generalize i:((s.b.length:Nat):Int)=L at a;rcases eD2 (decide (20000-R6 n<=L))with h2|h2
 .have d:=eD3 h2;simp only[eF,simprocAttr,h1,a,b,h2];apply o8 results44;simp only[C9,simprocAttr];have:R6 (n+wtT s)=20001:=by unfold R6 at *;omega
  exact⟨by rw[this],tt⟩
 have d:=eD6 h2;have e:IntKind.i64.wrap (R6 n+1)=R6 n+1:=N7 _ om;have f:IntKind.i64.wrap (R6 n+1+L)=R6 n+1+L:=N7 _ om;simp only[eF,simprocAttr,h1,a,b,h2,e,f];apply o8 results44;simp only[C9,simprocAttr];have:R6 (n+wtT s)=R6 n+1+L:=by unfold R6 at *;omega
 exact⟨by rw[this],tt⟩
def av8(v)(l:List B9)(n w)(hv:R (n8 w) v l):p7 prog 43 #[v,(R6 n)] w λu t=>(u=(R6 (n+aQ9 l))/\t=w):=by
 apply y5 [v,(R6 n)] func43 rfl;have o:=hv.isS;have r:=hv.vlen;rw[cJ6];simp only[eF,simprocAttr];refine B4 [0] (σ:=Nat) (λi f t=>f 5=i/\f 1=(R6 (n+J1 wtT (l.take i)))/\i<=l.length/\t=w) (λi=>l.length-i) 0 ?_ ?_
 .simp only[C9,simprocAttr];exact⟨tt,by simp[J1],eE2 _,tt⟩
 rintro i f z ⟨e0,_⟩ ⟨j,c,y,rfl⟩;rcases eD2 (decide ((i:Int)<(l.length:Int)))with hc|hc;rotate_left
 .have p:i=l.length:=by have:=eD6 hc;omega
  subst p;rw[eE4]at c;simp only[eF,simprocAttr,j,e0,o,r,hc,c];exact o8 results43 ⟨rfl,rfl⟩
 have a:i<l.length:=by have:=eD3 hc;omega
 have g:=aQ3 (f:=wtT) l i;have q:=hv.inS a;have d:=ldS hv (n7 _) a;have b:=ay0 (f:=wtT) a;have h:=ax9 bi5 (l.take i);rw[eE5]at h;generalize l[i]=s at d b;generalize J1 wtT (l.take i)=S at c b g h;rcases eD2 (decide (R6 (n+S)<=20000))with h2|h2;rotate_left
 .have k:=eD6 h2;have e:=aw5 (m:=n+J1 wtT l) k om;simp only[eF,simprocAttr,j,e0,o,r,hc,c,h2];apply o8 results43;simp only[C9,simprocAttr];exact⟨by rw[e.1,e.2],tt⟩
 obtain⟨_,x⟩:=aH2 (eD3 h2);simp only[i4,n9,A6,simprocAttr,j,e0,o,r,hc,c,h2,q,d];apply F6 (ac7 s (n+S) _);simp only[eF,simprocAttr,j];exact nx2 (i+1) ⟨by rw[b,<-eO4],om,tt⟩
def bk8:∀(m:Nat) (x:Ex) (v:Value) (n:Nat) (w:World),ae9 x<=m->SV (n8 w) v x ->
  p7 prog 76 #[v,(R6 n)] w λu M=>(u=(R6 (n+ae9 x))/\o6 w M):=by
 intro m
 induction m using Nat.strongRecOn with
 | ind m Y=>
 intro x v n w V W;apply y5 [v,(R6 n)] func76 rfl;have A:=cu2 x;rw[cl3]at A;have p:∀y∈x.kids,ae9 y<ae9 x:=λy X=>by
  have k:=bF2 X;have o:=cu2 x;have h3:=bi5 x.name;omega
 rw[A];obtain⟨a,O,G,B,F⟩:=ay7 W (n7 _);obtain⟨vk,c,R,_⟩:=F.ex;have h:=c.isS;have g:=c.vlen;simp only[eF,simprocAttr,G,R O (n7 _)];apply F6 (ac7 x.name n O);generalize hN:n+wtT x.name=N;rw[show n+(wtT x.name+J1 ae9 x.kids)=N+J1 ae9 x.kids by omega];generalize x.kids=l at c g p;simp only[i4,simprocAttr];refine B4 [2] (σ:=Nat) (λi f M=>f 5=i/\f 1=(R6 (N+J1 ae9 (l.take i)))/\i<=l.length/\o6 O M) (λi=>l.length-i) 0 ?_ ?_
 .simp only[C9,simprocAttr];exact⟨tt,by simp[J1],eE2 _,t8.refl _⟩
 rintro i f T ⟨D,_⟩ ⟨C,k,U,b⟩;have L:=R T (b7 b);rcases eD2 (decide ((i:Int)<(l.length:Int)))with hc|hc;rotate_left
 .have H:i=l.length:=by have:=eD6 hc;omega
  subst H;rw[eE4]at k;simp only[eF,simprocAttr,C,D,L,h,g,hc,k];exact o8 results76 ⟨rfl,B.trans b⟩
 have d:i<l.length:=by have:=eD3 hc;omega
 have r:=aQ3 (f:=ae9) l i;have j:=ay0 (f:=ae9) d;have s:=ax9 be5 (l.take i);rw[eE5]at s;have I:=c.inS d;obtain⟨Z,z,q⟩:=G1 (P:=prog) (t:=110) c (b7 b) (eD1 d) bd7 be0 aV6 ag6;rw[ag6]at q;have J:=p _ (eE1 d);generalize l[i]=y at z j J;generalize J1 ae9 (l.take i)=S at k j r s;rcases eD2 (decide (R6 (N+S)<=20000))with o|o;rotate_left
 .have E:=eD6 o;have e:=aw5 (m:=N+J1 ae9 l) E om;simp only[eF,simprocAttr,C,D,L,h,g,hc,k,o];apply o8 results76;simp only[C9,simprocAttr];exact⟨by rw[e.1,e.2],B.trans b⟩
 obtain⟨_,Q⟩:=aH2 (eD3 o);simp only[i4,n9,A6,simprocAttr,C,D,L,h,g,hc,k,o,I,q];refine B3 (Y (ae9 y) om y Z (N+S) T (eE8 _) (z.mono (b7 b))) (λw3 K=>?_);simp only[eF,simprocAttr,C];exact nx2 (i+1) ⟨by rw[j,<-eO4],om,b.trans K⟩
def be4:∀(m:Nat) (l:List St) (v:Value) (n:Nat) (w:World),M5 l<=m->R (n8 w) v l ->
  p7 prog 45 #[v,(R6 n)] w λu A=>(u=(R6 (n+M5 l))/\o6 w A):=by
 intro m
 induction m using Nat.strongRecOn with
 | ind m ih=>
 intro l v n w aC hv;apply y5 [v,(R6 n)] func45 rfl;have J:∀t∈l,M5 t.thn<M5 l/\M5 t.els<M5 l:=λt ht=>by
  have L:=ay5 ht;have V:=aa0 t;have C:=bi5 t.name;omega
 have hS:=hv.isS;have hn:=hv.vlen;rw[bF3]at aC ⊢;rw[bF3 l]at J;simp only[eF,simprocAttr];refine B4 [0] (σ:=Nat) (λi f A=>f 5=i/\f 1=(R6 (n+J1 Z6 (l.take i)))/\i<=l.length/\o6 w A) (λi=>l.length-i) 0 ?_ ?_
 .simp only[C9,simprocAttr];exact⟨tt,by simp[J1],eE2 _,t8.refl _⟩
 rintro i f w2 ⟨e0,_⟩ ⟨W,L,aY,y⟩;rcases eD2 (decide ((i:Int)<(l.length:Int)))with hc|hc;rotate_left
 .have O:i=l.length:=by have:=eD6 hc;omega
  subst O;rw[eE4]at L;simp only[eF,simprocAttr,W,e0,hS,hn,hc,L];exact o8 results45 ⟨rfl,y⟩
 have D:i<l.length:=by have:=eD3 hc;omega
 have ad:=aQ3 (f:=Z6) l i;have T:=ay0 (f:=Z6) D;have af:=ax9 (f:=Z6) (λt=>by have:=cJ5 t;omega) (l.take i);rw[eE5]at af;have ax:=hv.inS D;obtain⟨sv,ah,ac⟩:=G1 (P:=prog) (t:=113) hv (b7 y) (eD1 D) bo5 bo7 aV7 ag7;rw[ag7]at ac;obtain⟨aA,aB⟩:=J _ (eE1 D);generalize l[i]=t at ah T aA aB;generalize J1 Z6 (l.take i)=S at L T ad af;rcases eD2 (decide (R6 (n+S)<=20000))with V|V;rotate_left
 .have ar:=eD6 V;have e:=aw5 (m:=n+J1 Z6 l) ar om;simp only[eF,simprocAttr,W,e0,hS,hn,hc,L,V];apply o8 results45;simp only[C9,simprocAttr];exact⟨by rw[e.1,e.2],y⟩
 obtain⟨_,aS⟩:=aH2 (eD3 V);obtain⟨d,wz,p,av,aD,aG,aw⟩:=bx8 (ah.mono (b7 y)) (n7 _);have ak:=y.trans aG;obtain⟨vl,va,vt,ve,ay,r,aj,aa,Z,aJ,am⟩:=aw.st;obtain⟨sx,aE,_,sdx⟩:=Z.ex_v;have aF:=aa0 t;have t1:=am (o6 p.drew) p.drew (t8.refl _) λA h=>b7 ((o6.drew p).trans h);have t2:=sdx (o6 p.drew) p.drew (t8.refl _) λA h=>b7 ((o6.drew p).trans h);simp only[i4,n9,A6,simprocAttr,W,e0,hS,hn,hc,L,V,ax,ac,av,aD];refine C4 (o6 p.drew) 14 (A8 [0,1,2,3,4,5,6,7,8,9,10,11,12,13]) ?_;simp only[D7,A8,i4,n9,simprocAttr,t1,t2,L];refine B3 (bk8 (ae9 t.x) t.x sx (n+S) p.drew (eE8 _) (aE.mono (b7 (o6.drew p)))) (λw4 o=>⟨o,?_⟩);simp only[eY,simprocAttr];refine F6 (av8 vl t.labels (n+S+ae9 t.x) w4 (A9.mono (b7 ((o6.drew p).trans o)) ay)) ⟨o,?_⟩;simp only[eY,simprocAttr];refine F6 (ac7 t.name (n+S+ae9 t.x+aQ9 t.labels) w4) ⟨o,?_⟩;simp only[eY,simprocAttr];refine F6 (ac7 t.proc (n+S+ae9 t.x+aQ9 t.labels+wtT t.name) w4) ⟨o,?_⟩;generalize hB:n+S+ae9 t.x+aQ9 t.labels+wtT t.name+wtT t.proc=B;have al:=(o6.drew p).trans o;have N:=r.isS;have E:=r.vlen;have M:n+J1 Z6 (l.take (i+1))=B+J1 aD2 t.args+M5 t.thn+M5 t.els:=by rw[T,aF,<-cl1,<-hB];omega
 generalize t.args=a at r E M;simp only[eY,simprocAttr];refine B4 [0,5,6] (σ:=Nat) (λk f' A=>f' 7=k/\f' 1=(R6 (B+J1 aD2 (a.take k)))/\k<=a.length/\o6 p A) (λk=>a.length-k) 0 ?_ ?_
 .simp only[C9,simprocAttr];exact⟨tt,by simp[J1],eE2 _,al⟩
 rintro k f2 g ⟨g0,g5,U,_⟩ ⟨X,j,aZ,F⟩;rw[e0]at g0;have l5:=aJ g (b7 F);have K:=ak.trans F;have aR:=aQ3 (f:=aD2) a k;have c:=F.trans (o6.drew g);have t3:=am (o6 g.drew) g.drew (t8.refl _) λA h=>b7 (c.trans h);rcases eD2 (decide ((k:Int)<(a.length:Int))&&decide (R6 (B+J1 aD2 (a.take k))<=20000))with hg|hg;rotate_left
 .have H:R6 (B+J1 aD2 (a.take k))=R6 (B+J1 aD2 a):=by
   rcases eD2 (decide ((k:Int)<(a.length:Int)))with C|C
   .rw[C,eJ4]at hg;have e:=aw5 (m:=B+J1 aD2 a) (eD6 hg) om;rw[e.1,e.2]
   .have O:k=a.length:=by have:=eD6 C;omega
    rw[O,eE4]
  rw[H]at j;rcases eD2 (decide ((k:Int)<(a.length:Int)))with C|C
  .rw[C,eJ4,H]at hg;simp only[eF,simprocAttr,X,U,l5,N,E,C,hg,j];refine C4 (o6 g.drew) 8 (A8 [0,1,2,3,4,5,6,7]) ?_;simp only[D7,A8,i4,n9,simprocAttr,U,t3,j];refine B3 (ih (M5 t.thn) om t.thn vt (B+J1 aD2 a) g.drew (eE8 _) (A9.mono (b7 c) aj)) (λw6 b=>⟨b,?_⟩);simp only[eY,simprocAttr];refine B3 (ih (M5 t.els) om t.els ve (B+J1 aD2 a+M5 t.thn) w6 (eE8 _) (A9.mono (b7 (c.trans b)) aa)) (λw7 z=>⟨b.trans z,?_⟩);simp only[eY,simprocAttr];simp only[eF,simprocAttr,g5,W];exact nx2 (i+1) ⟨by rw[M],om,K.trans ((o6.drew g).trans (b.trans z))⟩
  .simp only[eF,simprocAttr,X,U,l5,N,E,C];refine C4 (o6 g.drew) 8 (A8 [0,1,2,3,4,5,6,7]) ?_;simp only[D7,A8,i4,n9,simprocAttr,U,t3,j];refine B3 (ih (M5 t.thn) om t.thn vt (B+J1 aD2 a) g.drew (eE8 _) (A9.mono (b7 c) aj)) (λw6 b=>⟨b,?_⟩);simp only[eY,simprocAttr];refine B3 (ih (M5 t.els) om t.els ve (B+J1 aD2 a+M5 t.thn) w6 (eE8 _) (A9.mono (b7 (c.trans b)) aa)) (λw7 z=>⟨b.trans z,?_⟩);simp only[eY,simprocAttr];simp only[eF,simprocAttr,g5,W];exact nx2 (i+1) ⟨by rw[M],om,K.trans ((o6.drew g).trans (b.trans z))⟩
 rw[eF1]at hg;have q:k<a.length:=by have:=eD3 hg.1;omega
 obtain⟨_,Q⟩:=aH2 (eD3 hg.2);have s:=ay0 (f:=aD2) q;have I:=ax9 dL2 (a.take k);rw[eE5]at I;have ab:=r.inS q;have G:=r.at_ (i:=k) (x:=a[k]) (eD1 q);have aH:A9.sz Ar=6:=rfl;rw[aH]at G;obtain⟨Y,_,aL⟩:=G.ar;obtain⟨sa,ae,_,aK⟩:=Y.ex_v;have t4:=aL (o6 g.drew) g.drew (t8.refl _) λA h=>b7 (c.trans h);have t5:=aK (o6 g.drew) g.drew (t8.refl _) λA h=>b7 (c.trans h);generalize a[k]=ag at s ae t4;generalize J1 aD2 (a.take k)=S2 at j s Q I hg;simp only[eF,simprocAttr,X,U,l5,N,E,hg.1,hg.2,j];refine C4 (o6 g.drew) 16 (A8 [0,1,2,3,4,5,6,7,8,9,10,11,12,13,14,15]) ?_;simp only[D7,A8,i4,n9,A6,simprocAttr,U,X,t3,t4,t5,ab,j];refine B3 (bk8 (ae9 ag.x) ag.x sa (B+S2) g.drew (eE8 _) (ae.mono (b7 c))) (λw6 b=>⟨b,?_⟩);simp only[eY,simprocAttr];refine F6 (ac7 ag.name (B+S2+ae9 ag.x) w6) ⟨b,?_⟩;simp only[eY,simprocAttr];simp only[eF,simprocAttr,X];exact nx2 (k+1) ⟨by rw[s];unfold aD2;rw[<-eO4,<-eO4],om,F.trans ((o6.drew g).trans b)⟩
def az6(v p w)(hv:SV (n8 w) v p):p7 prog 12 #[v] w λu V=>(u=(decide (C1 p<=20000))/\o6 w V):=by
 apply y5 [v] func12 rfl;obtain⟨c,w1,aw,ae,W⟩:=L3 hv (n7 _);obtain⟨vg,vp,aB,z,ag,_⟩:=W.pg;have l1:=ag w1 (n7 _);have L:=z.isS;have D:=z.vlen;have s:∀m:Nat,R6 m=R6 (C1 p)->decide (R6 m<=20000)=decide (C1 p<=20000):=λm e=>by
  rw[e,eI5];unfold R6;omega
 have R:C1 p=aQ9 p.globals+J1 ah4 p.procs:=by unfold C1;rw[cl5]
 simp only[eF,simprocAttr,aw,l1];have aq:Value.int i64 0=(R6 0):=rfl;rw[aq];apply F6 (av8 vg p.globals 0 w1 aB);rw[eH5];generalize aQ9 p.globals=G at R;generalize p.procs=l at z D R;rw[R]at s ⊢;simp only[i4,simprocAttr];refine B4 [1] (σ:=Nat) (λi f V=>f 4=i/\f 3=(R6 (G+J1 ah4 (l.take i)))/\i<=l.length/\o6 w1 V) (λi=>l.length-i) 0 ?_ ?_
 .simp only[C9,simprocAttr];exact⟨tt,by simp[J1],eE2 _,t8.refl _⟩
 rintro i f w2 ⟨e1,_⟩ ⟨h4,U,aT,j⟩;have l2:=ag w2 (b7 j);rcases eD2 (decide ((i:Int)<(l.length:Int)))with hc|hc;rotate_left
 .have M:i=l.length:=by have:=eD6 hc;omega
  subst M;rw[eE4]at U;simp only[eF,simprocAttr,h4,e1,l2,L,D,hc,U,s _ rfl];exact o8 results12 ⟨rfl,ae.trans j⟩
 have O:i<l.length:=by have:=eD3 hc;omega
 have aa:=aQ3 (f:=ah4) l i;have Q:=ay0 (f:=ah4) O;have ac:=ax9 dL3 (l.take i);rw[eE5]at ac;rcases eD2 (decide (R6 (G+J1 ah4 (l.take i))<=20000))with h2|h2;rotate_left
 .have ar:=eD6 h2;have e:=aw5 (m:=G+J1 ah4 l) ar om;have hr:=s _ (by rw[e.1,e.2]:R6 (G+J1 ah4 (l.take i))=R6 (G+J1 ah4 l));rw[hr]at h2;simp only[eF,simprocAttr,h4,e1,l2,L,D,hc,U,hr,h2];exact o8 results12 ⟨rfl,ae.trans j⟩
 obtain⟨_,ab⟩:=aH2 (eD3 h2);have ay:=z.inS O;obtain⟨sv,ad,Z⟩:=G1 (P:=prog) (t:=68) z (b7 j) (eD1 O) as1 as2 ao1 N6;rw[N6]at Z;generalize l[i]=q at ad Q;generalize J1 ah4 (l.take i)=S at U Q aa ac h2 ab;obtain⟨d,wz,A,au,az,aC,av⟩:=aM2 (ad.mono (b7 j)) (n7 _);have af:=j.trans aC;obtain⟨aZ,aJ,aj,aI,r,aA,X,ax,aG,aH⟩:=av.pr;have t1:=aH (o6 A.drew) A.drew (t8.refl _) λV h=>b7 ((o6.drew A).trans h);simp only[i4,n9,A6,simprocAttr,h4,e1,l2,L,D,hc,U,h2,ay,Z,au,az];refine C4 (o6 A.drew) 11 (A8 [0,1,2,3,4,5,6,7,8,9,10]) ?_;simp only[D7,A8,i4,n9,simprocAttr,t1,U];refine F6 (ac7 q.name (G+S) A.drew) ⟨t8.refl _,?_⟩;simp only[eY,simprocAttr];refine F6 (av8 aJ q.vars (G+S+wtT q.name) A.drew (A9.mono (b7 (o6.drew A)) aA)) ⟨t8.refl _,?_⟩;simp only[eY,simprocAttr];refine F6 (av8 aI q.fin (G+S+wtT q.name+aQ9 q.vars) A.drew (A9.mono (b7 (o6.drew A)) ax)) ⟨t8.refl _,?_⟩;generalize hB:G+S+wtT q.name+aQ9 q.vars+aQ9 q.fin=B;have J:G+J1 ah4 (l.take (i+1))=B+J1 (λa:Pa=>wtT a.name) q.params+M5 q.body:=by
  rw[Q,<-hB];unfold ah4;rw[cl4];omega
 have K:=r.isS;have C:=r.vlen;generalize q.params=b at r C J;simp only[eY,simprocAttr];refine B4 [1,4,5] (σ:=Nat) (λk f' V=>f' 6=k/\f' 3=(R6 (B+J1 (λa:Pa=>wtT a.name) (b.take k)))/\k<=b.length/\o6 A V) (λk=>b.length-k) 0 ?_ ?_
 .simp only[C9,simprocAttr];exact⟨tt,by simp[J1],eE2 _,o6.drew A⟩
 rintro k f2 w5 ⟨g1,g4,g5,_⟩ ⟨h6,g,aU,n⟩;rw[h4]at g4;have l5:=aG w5 (b7 n);have I:=af.trans n;have aN:=aQ3 (f:=λa:Pa=>wtT a.name) b k;have F:(decide ((k:Int)<(b.length:Int))&&decide (R6 (B+J1 (λa:Pa=>wtT a.name) (b.take k))<=20000))=false->R6 (B+J1 (λa:Pa=>wtT a.name) (b.take k))=R6 (B+J1 (λa:Pa=>wtT a.name) b):=λhg=>by
  rcases eD2 (decide ((k:Int)<(b.length:Int)))with h|h
  .rw[h,eJ4]at hg;have e:=aw5 (m:=B+J1 (λa:Pa=>wtT a.name) b) (eD6 hg) om;rw[e.1,e.2]
  .have M:k=b.length:=by have:=eD6 h;omega
   rw[M,eE4]
 rcases eD2 (decide ((k:Int)<(b.length:Int)))with h7|h7;rotate_left
 .rw[F (by rw[h7];rfl)]at g;simp only[eF,simprocAttr,h6,g5,l5,K,C,h7,g];refine B3 (be4 (M5 q.body) q.body aj (B+J1 (λa:Pa=>wtT a.name) b) w5 (eE8 _) (A9.mono (b7 n) X)) (λw6 T=>?_);simp only[eF,simprocAttr,g4];exact nx2 (i+1) ⟨by rw[J],om,I.trans T⟩
 rcases eD2 (decide (R6 (B+J1 (λa:Pa=>wtT a.name) (b.take k))<=20000))with h8|h8;rotate_left
 .have he:=F (by rw[h7,h8];rfl);rw[he]at g h8;simp only[eF,simprocAttr,h6,g5,l5,K,C,h7,h8,g];refine B3 (be4 (M5 q.body) q.body aj (B+J1 (λa:Pa=>wtT a.name) b) w5 (eE8 _) (A9.mono (b7 n) X)) (λw6 T=>?_);simp only[eF,simprocAttr,g4];exact nx2 (i+1) ⟨by rw[J],om,I.trans T⟩
 have o:k<b.length:=by have:=eD3 h7;omega
 obtain⟨_,N⟩:=aH2 (eD3 h8);have y:=ay0 (f:=λa:Pa=>wtT a.name) o;have H:=ax9 (f:=λa:Pa=>wtT a.name) (λa=>bi5 _) (b.take k);rw[eE5]at H;have Y:=r.inS o;have E:=r.at_ (i:=k) (x:=b[k]) (eD1 o);have aD:A9.sz Pa=2:=rfl;rw[aD]at E;obtain⟨ah,_⟩:=E.pa;have l6:=ah w5 (b7 n);generalize b[k]=pa at y l6;generalize J1 (λa:Pa=>wtT a.name) (b.take k)=S2 at g y N H h8;simp only[i4,n9,A6,simprocAttr,h6,g5,l5,K,C,h7,h8,g,Y,l6];apply F6 (ac7 pa.name (B+S2) w5);simp only[eF,simprocAttr,h6];exact nx2 (k+1) ⟨by rw[y,<-eO4],om,n⟩
def dt4{α:Type}[A9 α][A0 α]{w:World}{c T}{x:α}(a:w.heap[c]?=some (.cells (A0.cells x).toArray T (0,0))):At (n8 w) ⟨c,0,none⟩ x:=
 ⟨A0.cells x,(A0.iff_ _ _ _).2 rfl,λj u b=>by
  rw[add_lit,<-ao3,eH5,eL6 w c j _ T (0,0) a];simpa using b⟩
def vx2(x y:Vx)(w):∃a b e i j g,(Instr.alloc 27 true (.tuple #[])).run prog w = .ok (.pointer (some a)) e/\(Instr.alloc 27 true (.tuple #[])).run prog e = .ok (.pointer (some b)) i /\
  (Instr.storeAt 27 (.pointer (some a)) (.agg (A0.cells x).toArray)).run prog i = .ok () j/\(Instr.storeAt 27 (.pointer (some b)) (.agg (A0.cells y).toArray)).run prog j = .ok () g/\o6 w g/\At (n8 g) a x/\At (n8 g) b y:=by
 obtain⟨z,h,d⟩:∃z,I7 prog 27=some z/\z.cells.size=O7 prog 27:=⟨_,be2,by rw[R3];rfl⟩;have c:∀y:Vx,(A0.cells y).toArray.size=O7 prog 27:=λy=>by rw[R3];rfl
 have s:=(aE6 (P:=prog) (w:=w) (T:=27) h d (cs:=(A0.cells x).toArray) (c _) (λu f=>ad6 _ u (by simpa using f))).1;have r:=o6.alloc w (.cells z.cells 27);have k:=eH3 w (.cells z.cells 27);generalize w.alloc (.cells z.cells 27)=e at s r k;have t:=(aE6 (P:=prog) (w:=e) (T:=27) h d (cs:=(A0.cells x).toArray) (c _) (λu f=>ad6 _ u (by simpa using f))).1;have o:=o6.alloc e (.cells z.cells 27);have m:=eH3 e (.cells z.cells 27);generalize e.alloc (.cells z.cells 27)=i at t o m;have p:w.heap.size<e.heap.size:=(eD5.1 k).1;have l:=(o.block _ p id).trans k;obtain⟨j,D,v,A⟩:=ad2 (P:=prog) (T:=27) l h d (c x) (λu f=>ad6 x u (by simpa using f));have n:=(A.block _ (eD5.1 m).1 om).trans m;obtain⟨g,E,F,B⟩:=ad2 (P:=prog) (T:=27) n h d (c y) (λu f=>ad6 y u (by simpa using f));have q:=(B.block _ (eD5.1 v).1 om).trans v;exact⟨_,_,e,i,j,g,s,t,D,E,t8.ext_of (t8.ext_of (r.trans o) A λb C=>om) B λb C=>om,dt4 q,dt4 F⟩
structure Im where
 s:St
 deep:Int
 up:Int
 els:Bool
instance:A9 Im where
 sz:=16
 pos:=om
 enc h cs p:=∃c,cs=c++[.int .i64 p.deep,.int .i64 p.up,.bool p.els]/\A9.enc h c p.s
 len:=by rintro h cs a ⟨c,rfl,h1⟩;have h4:c.length=13:=A9.len h1;simp[h4]
 mono:=by rintro h k cs a hk ⟨c,rfl,h1⟩;exact⟨c,rfl,A9.mono hk h1⟩
 one:=by
  rintro h cs a ⟨c,rfl,h1⟩ v hv;simp only[eE0,eF0,eH6,eM0]at hv;rcases hv with hv|rfl|rfl|rfl
  .exact A9.one h1 v hv
  all_goals rfl
end Go.Proofs.YtpebpfiglfmegaaGreat

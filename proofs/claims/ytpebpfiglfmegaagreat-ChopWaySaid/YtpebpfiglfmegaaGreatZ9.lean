/- What the functions of the program do, for every input; plain facts. No condition, no statement of its own. Part 7. -/
import Derived.Test.YtpebpfiglfmegaaGreatZ7
set_option maxRecDepth 1000000
set_option maxHeartbeats 8000000
set_option linter.unusedVariables false
set_option linter.unusedSimpArgs false
set_option linter.unnecessarySimpa false
set_option linter.defProp false
namespace Go.Proofs.YtpebpfiglfmegaaGreat
open Go Tryz List IntKind Region
def db8{P}{a:Func}{R:Value->World->Prop}{f w}(h:a.results=#[])(b:R (.tuple #[]) w):aX4 P a R .ret f w:=
 ⟨[],by rw[h];exact trivial,b⟩
def dY6:(prog.info? 47).isSome=true:=kr
def aX1:O7 prog 47=2:=kr
def er6:I7 prog 47=some (.agg #[.slice none 0 0,.bool false]):=kr
def dY2:L7 prog 47=true:=kr
def dZ2:(prog.underlying 47).isSome=true:=kr
def dY8:R5 prog 47=some (#[.slice none 0 0,.bool false],[(0,1),(1,1)]):=kr
def dY5:L7 prog 83=false:=kr
def dG7:L7 prog 144=false:=kr
def ef7:O7 prog 145=1:=kr
def eg2:I7 prog 145=some (.slice none 0 0):=kr
def cs9:L7 prog 145=false:=kr
def ee3:R5 prog 147=some (#[.pointer none,.slice none 0 0,.map none,.slice none 0 0],[(0,1),(1,1),(2,1),(3,1)]):=kr
def cU3:(prog.info? 151).isSome=true:=kr
def bE3:O7 prog 151=2:=kr
def dJ2:I7 prog 151=some (.agg #[.int .i64 0,.int .i64 0]):=kr
def dG8:L7 prog 151=true:=kr
def dI6:(prog.underlying 151).isSome=true:=kr
def ee4:R5 prog 151=some (#[.int .i64 0,.int .i64 0],[(0,1),(1,1)]):=kr
end Go.Proofs.YtpebpfiglfmegaaGreat
namespace Go.Proofs
open Go.Shelf
end Go.Proofs
namespace Go.Proofs.YtpebpfiglfmegaaGreat
open Go Tryz List IntKind Region
end Go.Proofs.YtpebpfiglfmegaaGreat
namespace Go.Proofs
open Go.Shelf
end Go.Proofs
namespace Go.Proofs.YtpebpfiglfmegaaGreat
open Go Tryz List IntKind Region
def di0{α:Type}[A9 α]{h}{v:Value}{xs:List α}(e:R h v xs)(c:Nat):
  ∃(k:Nat) (u:Value),(if(c:Int)<(xs.length:Int)then(c:Int)else(xs.length:Int))=(k:Int)/\decide ((k:Int)<=(vcap v:Int))=true/\reS v 0 k (A9.sz α)=u/\R h u (xs.take c):=by
 have d:=e.vcap;have b:=e.pre (k:=min xs.length c) om;have a:xs.take (min xs.length c)=xs.take c:=by
  rcases Nat.le_total xs.length c with h|h
  .rw[eJ7 h,eE4,eI0 h]
  .rw[Nat.min_eq_right h]
 rw[a]at b;exact⟨min xs.length c,_,by split<;>omega,by simp;omega,rfl,b⟩
def R2(V:List Vx):List Vx->Option (List Int)
 | []=>some []
 | v::l=>match atV V v,R2 V l with
   | some a,some r=>some ((a:Int)::r)
   | _,_=>none
theorem bu4{V:List Vx}:∀{b:List Vx} {l:List Int},R2 V b=some l->(∀v∈b,v∈V)/\l=b.map λv=>((C5 V v:Nat):Int)
 | [],l,h=>by
  simp only[R2,eO1]at h;subst h;simp
 | v::b,l,h=>by
  rw[R2]at h;cases ha:atV V v with
  | none=>rw[ha]at h;simp at h
  | some a=>
   cases hb:R2 V b with
   | none=>rw[ha,hb]at h;simp at h
   | some r=>
    rw[ha,hb]at h;simp only[eO1]at h;subst h;obtain⟨d,e⟩:=bu4 hb;refine⟨λu c=>?_,?_⟩
    .rcases eF0.1 c with rfl|c
     .exact Z8.1 (by rw[ha];rfl)
     .exact d u c
    .rw[eI4,<-e];unfold C5;rw[ha];rfl
def ax3{V:List Vx}:∀{b:List Vx},R2 V b=none↔∃v∈b,v∉V
 | []=>by simp[R2]
 | v::b=>by
  rw[R2];cases ha:atV V v with
  | none=>
   have c:v∉V:=λh=>by have:=Z8.2 h;rw[ha]at this;cases this
   simp[c]
  | some a=>
   have c:v∈V:=Z8.1 (by rw[ha];rfl);cases hb:R2 V b with
   | none=>simpa[c]using ax3.1 hb
   | some r=>
    have:¬∃u∈b,u∉V:=λh=>by rw[ax3.2 h]at hb;cases hb
    simp only[not_exists,not_and,Classical.not_not]at this;simp[c];exact this
section
variable {p:Pg} {v:Vx} {e:Eg}
def aX2(c:C8 p=true)(hw:C1 p<=1000000)(d:e∈(b9 p).we):e.src∈(b9 p).wv/\e.dst∈(b9 p).wv:=by
 rcases av7 c hw d with⟨a,b,_⟩|⟨v,h⟩
 .exact⟨a,b⟩
 .exact⟨h.src,h.dst⟩
end
inductive aq3 (E:List Eg) (a:Vx):Vx->List Int->Prop
 | nil:aq3 E a a []
 | flat {v:Vx} {o:List Int} {e:Eg}:aq3 E a v o->e∈E->e.src=v->(e.kind=1\/e.kind=2)->aq3 E a e.dst o
 | opn {v:Vx} {o:List Int} {e:Eg}:aq3 E a v o->e∈E->e.src=v->(e.kind=4\/e.kind=5)->aq3 E a e.dst (v.id::o)
 | up {v:Vx} {e:Eg}:aq3 E a v []->e∈E->e.src=v->e.kind=6->aq3 E a e.dst []
 | cls {v:Vx} {id:Int} {o:List Int} {e:Eg}:aq3 E a v (id::o)->e∈E->e.src=v->e.kind=6->e.dst.id=id->aq3 E a e.dst o
section
variable {p:Pg} {a v u:Vx} {e:Eg} {o:List Int}
def aq3.inv(g:C8 p=true)(hw:C1 p<=1000000)(h:aq3 (b9 p).we a v o):by7 p a o v:=by
 have K:=(D6 g).toKnown
 induction h with
 | nil=>exact .refl
 | flat _ b d c e=>
  subst d;exact e.level (W9 K (am2 b) (by rcases c with h|h<;>simp[h]))
 | opn _ b d c e=>
  subst d;exact⟨_,e,b,c,rfl,.refl⟩
 | up _ b d c e=>
  subst d;exact Y6.trans e (W9 (ks:=[1,2,3,6]) K (am2 b) (by simp[c]))
 | cls _ b d c f e=>exact e.cls g hw b d c f
def dU9(c:C8 p=true)(hw:C1 p<=1000000)(d:a∈(b9 p).wv)(h:aq3 (b9 p).we a v o):v∈(b9 p).wv:=by
 cases h with
 | nil=>exact d
 | flat _ b _ _=>exact(aX2 c hw b).2
 | opn _ b _ _=>exact(aX2 c hw b).2
 | up _ b _ _=>exact(aX2 c hw b).2
 | cls _ b _ _ _=>exact(aX2 c hw b).2
end
def dk8(V:List Vx)(L:List Eg)(ks:List Int):ai8 (ae3 V L) ks=V7 V L ks:=by
 unfold ai8 ae3 V7;rw[map_map];refine map_congr_left λa _=>?_;simp only[Function.comp,filter_map,map_map,filter_filter];rfl
def ag0:Vx:=⟨H9,2,3,e0⟩
def Bk.levelB(b:Bk)(x y:Nat):List Bool:=(range b.wv.length).map λ(v:Nat)=>A5 (b.behind x) (v:Int)&&A5 (b.ahead y) (v:Int)
def P5(p:Pg)(xs ys:List Vx):List Vx×Int:=
 if C8 p=false then([],1)else match R2 (b9 p).wv xs,R2 (b9 p).wv ys with
  | some k,some l=>(F3 (b9 p).wv ((b9 p).chopB k l),0)
  | _,_=>([],9)
def H7(p:Pg)(x y:Vx):List Vx×Int:=
 if C8 p=false then([],1)else match atV (b9 p).wv x,atV (b9 p).wv y with
  | some k,some l=>(F3 (b9 p).wv ((b9 p).levelB k l),0)
  | _,_=>([],9)
def V9:Vx:=⟨H9,2,1,e0⟩
def do8:((P5 ac9 [V9] [ag0]).2,(P5 ac9 [V9] [ag0]).1.length,(P5 ac9 [V9] [ag0]).1[0]?)=(0,7,some V9):=by decide +kernel
def cS9:((H7 ac9 V9 ag0).2,(H7 ac9 V9 ag0).1.length,(H7 ac9 V9 ag0).1[3]?)=(0,4,some ⟨H9,6,2,sY⟩):=by decide +kernel
section
variable {p:Pg} {k l k' l':List Int} {v a b:Int} {e:Eg}
def Mk(p:Pg)(l:List Int)(a:Int):Prop:=J2 (b9 p).wv.length a=true/\a∈l
def dC3:A5 (W2 (b9 p).wv.length l) a=true↔Mk p l a:=ab1
def aa5(K:Known p):A5 ((b9 p).first k) v=true↔∃a,Mk p k a/\az9 p upK a v:=by
 unfold Bk.first;rw[N2 (aA9 (J3 K)) (by rw[au3,E0])];simp only[dC3];rfl
def ah1(K:Known p):A5 ((b9 p).last l) v=true↔∃b,Mk p l b/\az9 p dnK v b:=by
 unfold Bk.last;rw[N2 (ae4 (J3 K)) (by rw[Z0,E0])];simp only[dC3,<-U1 (J3 K)];rfl
def ce8:((b9 p).first k).length=(b9 p).wv.length:=by unfold Bk.first;rw[G5,E0]
def cC5:((b9 p).last k).length=(b9 p).wv.length:=by unfold Bk.last;rw[G5,E0]
def ak0(K:Known p):A5 ((b9 p).thenB k) v=true↔∃a,Mk p k a/\∃m,az9 p upK a m/\az9 p dnK m v:=by
 unfold Bk.thenB;rw[N2 (aA9 (J3 K)) (by rw[au3,ce8])];simp only[aa5 K];exact⟨λ⟨m,⟨a,b,c⟩,d⟩=>⟨a,b,m,c,d⟩,λ⟨a,b,m,c,d⟩=>⟨m,⟨a,b,c⟩,d⟩⟩
def Y8(K:Known p):A5 ((b9 p).before l) v=true↔∃b,Mk p l b/\∃m,az9 p upK v m/\az9 p dnK m b:=by
 unfold Bk.before;rw[N2 (ae4 (J3 K)) (by rw[Z0,cC5])];simp only[ah1 K,<-U1 (J3 K)];exact⟨λ⟨m,⟨a,c,d⟩,e⟩=>⟨a,c,m,e,d⟩,λ⟨a,c,m,d,e⟩=>⟨m,⟨a,c,e⟩,d⟩⟩
def aR9(K:Known p){x}:A5 ((b9 p).behind x) v=true↔J2 (b9 p).wv.length (x:Int)=true/\az9 p lvK x v:=by
 unfold Bk.behind;rw[N2 (aA9 (J3 K)) (by rw[au3,E0])];simp only[ab1,eE7];exact⟨λ⟨a,⟨b,c⟩,d⟩=>by subst c;exact⟨b,d⟩,λ⟨b,c⟩=>⟨_,⟨b,rfl⟩,c⟩⟩
def be7(K:Known p){x}:A5 ((b9 p).ahead x) v=true↔J2 (b9 p).wv.length (x:Int)=true/\az9 p lvK v x:=by
 unfold Bk.ahead;rw[N2 (ae4 (J3 K)) (by rw[Z0,E0])];simp only[ab1,eE7,<-U1 (J3 K)];exact⟨λ⟨a,⟨b,c⟩,d⟩=>by subst c;exact⟨b,d⟩,λ⟨b,c⟩=>⟨_,⟨b,rfl⟩,c⟩⟩
def dl6{x y v}(hv:v<(b9 p).wv.length):A5 ((b9 p).levelB x y) (v:Int)=true↔A5 ((b9 p).behind x) (v:Int)=true/\A5 ((b9 p).ahead y) (v:Int)=true:=by
 unfold Bk.levelB;rw[cc9 _ hv,eF1]
end
section
variable {p:Pg} {k l k' l':List Int} {a b:Int} {e:Eg} {x:Vx}
def cT6{V:List Vx}{E:List Eg}:∀e∈aD9 V E,aK7 V (E++aD9 V E) e:=λe d=>by
 classical
 have:=bo3 (V:=V) (E:=E) (C:=(aD9 V E).filter λe=>decide (aK7 V (E++aD9 V E) e)) (λg c=>by
  have a:∀y∈(aD9 V E).filter (λe=>decide (aK7 V (E++aD9 V E) e)),y∈aD9 V E:=λy b=>(eF6.1 b).1;refine eF6.2 ⟨ck3 a c,eG9 (c.le λy b=>?_)⟩;rcases eE0.1 b with b|b
  .exact eF9 _ b
  .exact eH0 _ (a y b)) e d
 exact eD3 (eF6.1 this).2
def ah3(a:e∈(b9 p).sums):e.kind=3/\e.src∈(b9 p).wv/\e.dst∈(b9 p).wv/\e.src.kind=5/\e.src.id=e.dst.id/\e.src.proc=e.dst.proc:=by
 obtain⟨_,_,_,_,_,_,_,_,_,g,_,h⟩:=cT6 e a;obtain⟨_,v,b,hm,rfl⟩:=aA6.1 h;exact⟨rfl,hm,eF7 b,rfl,rfl,rfl⟩
end
section
variable {p:Pg} {a:Nat} {t:Int×Int} {h:Nat×Nat} {X Y S S0:List Bool} {H H0 T T0:List (Nat×Nat)} {C:List Eg}
def cL0:(aC1 p a t).length<=1:=by
 unfold aC1;split
 .unfold Bk.hopOf;split
  .split
   .simp
   .split<;>simp
  .simp
 .simp
def bn0(p:Pg)(H:List (Nat×Nat))(a:Nat)(t:Int×Int):List (Nat×Nat):=(aC1 p a t).filter λh=>!H.contains h
def BwJ.keep{done:Nat->Int×Int->Prop}(j:BwJ p X Y H0 T0 H T done)(n:A5 X (a:Int)=true)(o:A5 Y t.1=true){c:Nat->Int×Int->Prop}(g:∀b u,c b u↔done b u\/(b=a/\u=t)):BwJ p X Y H0 T0 (H++bn0 p H a t) (T++bn0 p H a t) c:=by
 obtain⟨⟨D,i,k⟩,v,w,z⟩:=j;refine⟨⟨D++bn0 p H a t,by rw[i,eG4],by rw[k,eG4]⟩,λh f=>?_,?_,λb u q x y h f=>?_⟩
 .rcases eE0.1 f with f|f
  .rcases v h f with d|⟨b,u,d,m⟩
   .exact .inl d
   .exact .inr ⟨b,u,(g b u).2 (.inl d),m⟩
  .exact .inr ⟨a,t,(g a t).2 (.inr ⟨rfl,rfl⟩),n,o,(eF6.1 f).1⟩
 .rw[eI6];refine⟨w,?_,λx r y s e=>?_⟩
  .have d:(bn0 p H a t).length<=1:=eD7 (eG0 _ _) cL0
   match bn0 p H a t,d with
   | [],_=>simp
   | [x],_=>simp
   | x::y::l,d=>simp at d
  .subst e;have:=(eF6.1 s).2;simp[r]at this
 .rcases(g b u).1 q with d|⟨rfl,rfl⟩
  .exact eF9 _ (z b u d x y h f)
  .by_cases hm:h∈H
   .exact eF9 _ hm
   .exact eH0 _ (eF6.2 ⟨f,by simp[hm]⟩)
end
def ep4:I4 prog 145 THp 2 16=true:=kr
def At.ip{h}{a:Addr}{x:Int×Int}(d:At h a x):LW h (λw=>W8 prog w 3 a x.1/\W8 prog w 3 (a.add 1) x.2):=by
 obtain⟨f,e,b⟩:=d;obtain rfl:=(A0.iff_ _ _ _).1 e;exact λw c=>⟨N8 b rfl K7 w c,B5 b (o:=1) rfl K7 w c⟩
def At.ipv{h a}{x:Int×Int}{T}(c:At h a x)(g:L7 prog T=true)(i:(prog.underlying T).isSome=true)(d:(prog.info? T).isSome=true)(f:O7 prog T=2):LW h (λw=>W8 prog w T a (.agg #[x.1,x.2])):=by
 obtain⟨j,b,e,_⟩:=c.sv2 (P:=prog) (t:=T) g i d f;obtain rfl:=b.N;exact e
section
variable {w0 w w':World} {g gc rs:Nat} {vs vt:Value} {S:List Bool} {H T:List (Nat×Nat)}
def CS.see(s:CS w0 w g gc rs vs vt S H T){h:Nat×Nat}(hn:h∉H):∃w',(Instr.mapUpdate 144 (.map (some rs)) (.agg #[.int .i64 h.1,.int .i64 h.2]) (.bool true)).run prog w = .ok () w'/\CS w0 w' g gc rs vs vt S (H++[h]) T/\t8 (λb=>b=rs) w w':=by
 obtain⟨w',d,f,c⟩:=s.map.push (P:=prog) el5 Tryz.underlying144 (cj5 hn) (.bool true);have e:bJ1 (H++[h])=bJ1 H++[(h,.bool true)]:=by simp[bJ1]
 refine⟨w',d,⟨t8.ext_of s.ext c λb a=>by rw[a];exact s.new.2.1,(c.block gc s.ltg λh=>s.new.2.2 h).trans s.cb,s.oS.mod c λb a=>(s.dS b a).2.2.1,by rw[e];exact f,s.oT.mod c λb a=>(s.dT b a).2.2,s.new,s.dS,s.dT⟩,c⟩
def CS.putT(s:CS w0 w g gc rs vs vt S H T){w2 v2}{T2:List (Nat×Nat)}(hm:t8 (B0 vt) w w2)(l:B7 hZ w2 THp v2 (T2.map bB1))(hv:F4 w vt v2):∃w',(Instr.storeAt 145 (.pointer (some ⟨gc,3,none⟩)) v2).run prog w2 = .ok () w'/\CS w0 w' g gc rs vs v2 S H T2/\t8 (cN gc rs vs vt) w w':=by
 have o:=s.ext.size;have n:=s.ltg;have r:=s.map.lt;have j:=(hm.block gc n λh=>(s.dT gc h).2.1 rfl).trans s.cb;obtain⟨u,e,m⟩:=ay1 (P:=prog) eg2 ef7;obtain⟨w',p,q,f⟩:=ai1 (P:=prog) (t:=145) (i:=3) (x:=v2) j dG (G3 l.isS) (aa9 l.isS) e m;have d:t8 (cN gc rs vs vt) w w':=(hm.weaken λ_ _ h=>.inr (.inr (.inr h))).trans (f.weaken λ_ _ h=>.inl h);have c:∀b,B0 v2 b->w0.heap.size<=b/\b≠gc/\b≠rs/\¬B0 vs b:=λb a=>by
  rcases hv b a with h|h
  .exact⟨(s.dT b h).1,(s.dT b h).2.1,(s.dT b h).2.2,λk=>(s.dS b k).2.2.2 h⟩
  .exact⟨om,om,om,λk=>by have:=s.oS.lt k;omega⟩
 exact⟨w',p,⟨t8.ext_of s.ext d λb h=>s.ge h,q,(s.oS.mod hm λb a h=>(s.dS b a).2.2.2 h).mod f λb a=>(s.dS b a).2.1,(s.map.mod hm λh=>(s.dT rs h).2.2 rfl).mod f λh=>s.new.2.2 h.symm,l.mod f λb a=>(c b a).2.1,s.new,λb a=>⟨(s.dS b a).1,(s.dS b a).2.1,(s.dS b a).2.2.1,λh=>(c b h).2.2.2 a⟩,λb a=>⟨(c b a).1,(c b a).2.1,(c b a).2.2.1⟩⟩,d⟩
def CS.pushT(s:CS w0 w g gc rs vs vt S H T)(h:Nat×Nat)(n:T.length<=900000000000):
  (Instr.buildSlice 145 1 #[(0,.agg #[h.1,h.2])]).run prog w = .ok (.slice (some ⟨w.heap.size,0,none⟩) 1 1) (w.alloc (.cells #[h.1,h.2] THp)) /\
  ∃a b w',(Builtin.append_ #[145,145] 145 #[vt,.slice (some ⟨w.heap.size,0,none⟩) 1 1]).run prog (w.alloc (.cells #[h.1,h.2] THp)) = .ok a b /\
   (Instr.storeAt 145 (.pointer (some ⟨gc,3,none⟩)) a).run prog b = .ok () w'/\CS w0 w' g gc rs vs a S H (T++[h])/\t8 (cN gc rs vs vt) w w'/\F4 w vt a/\t8 (B0 vt) w b:=by
 obtain⟨c,a,b,d,j,f,i⟩:=push (P:=prog) (t:=145) (e:=145) ep4 rfl s.oT (x:=.agg #[h.1,h.2]) (y:=bB1 h) ((A0.iff_ _ _ _).2 rfl) (by rw[eE3];omega) (by rw[eE3];omega) (L4 _);simp only[Value.cells]at c d;obtain⟨w',k,l,m⟩:=s.putT (T2:=T++[h]) f (by rw[eG8];exact j) i;exact⟨c,a,b,w',d,k,l,m,i,f⟩
def CS.popT{h:Nat×Nat}(s:CS w0 w g gc rs vs vt S H (T++[h])):
  (Instr.loadAt THp (I2 vt (T.length*2))).run prog w = .ok (.agg #[h.1,h.2]) w/\inS vt T.length=true/\vlen vt=T.length+1/\decide ((T.length:Int)<=(vcap vt:Int))=true/\isS vt=true /\
  ∃w',(Instr.storeAt 145 (.pointer (some ⟨gc,3,none⟩)) (reS vt 0 T.length 2)).run prog w = .ok () w'/\CS w0 w' g gc rs vs (reS vt 0 T.length 2) S H T/\t8 (cN gc rs vs vt) w w'/\∀b,B0 (reS vt 0 T.length 2) b↔B0 vt b:=by
 have c:((T++[h]).map bB1).length=T.length+1:=dG
 obtain⟨f,i⟩:=s.oT.pre (k:=T.length) om om;have n:A9.sz (Int×Int)=2:=rfl;rw[n]at f i;have e:((T++[h]).map bB1).take T.length=T.map bB1:=by rw[eG8,eJ6 dG,eI0 dG]
 rw[e]at f;have j:=s.oT.rw_ (L4 _);obtain⟨u,d,a⟩:=G1 (P:=prog) (t:=THp) j (n7 _) (k:=T.length) (x:=bB1 h) dG dG8 dI6 cU3 bE3;rw[bE3]at a;obtain rfl:=d.N;obtain⟨w',o,p,q⟩:=s.putT (T2:=T) (t8.refl w) f λb l=>.inl ((i b).1 l);have r:=s.oT.vcap;have m:=s.oT.vlen;refine⟨a,s.oT.inS om,by rw[m,c],by simp;omega,s.oT.isS,w',o,p,q,i⟩
end
section
variable {w1 w:World} {g r:Nat} {ab:Addr} {vP:Value} {x:WX} {c:WC}
def bM8(s:WS w1 w g r ab vP x c)(a)(I:a<c.V.length)(C:OkA c.N.length c.N)(D:c.N.length=c.V.length)(hn:c.V.length<=1000000000):
  p7 prog 54 #[.pointer (some ⟨g,0,none⟩),a] w λu B=>(B7 (n8 w) B 4 u (I0 (ai8 c.N [1,2,3]) (W2 c.V.length [(a:Int)]))/\o6 w B):=by
 refine y5 [.pointer (some ⟨g,0,none⟩),a] func54 rfl ?_;obtain⟨G,K,p,t,e,_⟩:=lit (P:=prog) (w:=w) (h:=n8 w) (α:=Int) (xs:=[a]) (ys:=[(a:Int)]) (parts:=#[(0,a)]) (n:=1) V8 rfl (G6.2 rfl) (by simp[Value.cells]) rfl rfl dG dG (n7 _);have A:=s.more e;simp only[eF,simprocAttr,p];refine z6 (aw9 A G [(a:Int)] (t.rw_ (b7 e)) (λb k=>by simp only[eE7]at k;subst k;exact C0.2 ⟨om,om⟩) hn dG) ?_;rintro u H ⟨d,l⟩;have f:=e.trans l;have d:=d.back e;have F:=A.more l;have E:=F.ld (i:=6) (u:=x.vn) rfl aJ9;obtain⟨J,L,q,v,j,o⟩:=lit (P:=prog) (w:=H) (h:=hZ) (α:=Int) (xs:=[(1:Int),(2:Int),(3:Int)]) (ys:=[1,2,3]) (parts:=#[(0,(1:Int)),(1,(2:Int)),(2,(3:Int))]) (n:=3) V8 rfl (G6.2 rfl) (by simp[Value.cells]) rfl rfl dG dG (L4 _);simp only[eF,simprocAttr,E,q];apply z6 (av1 ((s.rn).ext (f.trans j)) (λb k=>s.lt (i:=5) k) (d.ext j) (f.trans j) v (λb k m=>by have:=d.lt m;have:=o b k;omega) C (by rw[D,E0]) (by rw[E0];exact hn) dG dG);rintro _ M ⟨y,_,z⟩;simp only[i4,simprocAttr];exact o8 results54 ⟨y,z⟩
theorem ci0(V:List Vx)(v:Vx):∀(c:List Vx),R2 V (c++[v])=match R2 V c,atV V v with
  | some l,some a=>some (l++[(a:Int)])
  | _,_=>none
 | []=>by
  simp only[eL4,R2];cases atV V v<;>rfl
 | u::c=>by
  simp only[eP1,R2,ci0 V v c];cases atV V u with
  | none=>rfl
  | some b=>
   cases R2 V c with
   | none=>rfl
   | some l=>cases atV V v<;>rfl
def aK8(s:WS w1 w g r ab vP x c)(U:c.kv=as6 c.V)(v)(vs:List Vx)(hv:R (n8 w) v vs)(hl:vs.length<=1000000000):
  p7 prog 50 #[.pointer (some ⟨g,0,none⟩),v] w λu A=>((R2 c.V vs=none->u = .tuple #[(),false])/\(∀l,R2 c.V vs=some l->∃v',u = .tuple #[v',true]/\B7 (n8 w) A 3 v' l)/\o6 w A):=by
 refine y5 [.pointer (some ⟨g,0,none⟩),v] func50 rfl ?_;simp only[eF,simprocAttr,hv.isS,hv.vlen];refine B4 [0,11,12] (σ:=Nat×Value×List Int) (λt f A=>f 13=t.1/\f 6=t.2.1/\t.1<=vs.length/\R2 c.V (vs.take t.1)=some t.2.2/\t.2.2.length=t.1/\B7 (n8 w) A 3 t.2.1 t.2.2/\o6 w A) (λt=>vs.length-t.1) (0,(),[]) ?_ ?_
 .exact⟨rfl,rfl,eE2 _,rfl,rfl,B7.nil _ _ _,t8.refl _⟩
 rintro⟨k,u,l⟩ f Y ⟨e0,F,O,_⟩ ⟨i,Q,T,j,V,X,z⟩;simp only at i Q T j V X;simp only[eF,simprocAttr,i,O];refine A7 (λq=>?_) ?_;rotate_left
 .rintro rfl;rw[eE4]at j;simp only[i4,simprocAttr,Q];apply Q0 results50;simp only[C9,simprocAttr];refine⟨λh=>?_,λl' h=>?_,z⟩
  .rw[j]at h;cases h
  .rw[j]at h;obtain rfl:=eF3 h;exact⟨u,tt,X⟩
 have I:=hv.inS q;obtain⟨sv,M,p⟩:=G1 (P:=prog) (t:=27) hv (b7 z) (eD1 q) aB7 aB8 av4 R3;rw[R3]at p;have N:=eD9 q;have B:=eE1 q;have m:=ci0 c.V vs[k] (vs.take k);rw[<-N,j]at m;generalize vs[k]=y at M p N B m;obtain rfl:=M.N;obtain⟨a3,wz,o,G,L,C,S⟩:=aF4 (w:=Y) (λ_=>False) (SV.ofN (n8 Y) y) λb hb=>hb.elim;have s3:=s.more ((z.trans C).trans (o6.drew o));have H:=bf6 c.V y;have t1:=(L8.vx_v (SV.ofN (n8 Y) y) S).2 (· = o.drew) o.drew rfl λA h=>by subst h;exact B6 o _
 have t2:J4 prog (λA=>A=o.drew) 88 ⟨g,5,none⟩ (.map (some r)):=sdq (s3.ld rfl bJ8);have D:∀K f d E,X8 prog (· = o.drew) (Instr.lookup 88 (.map (some r)) y true) K f d E=K (G9 f d (.tuple #[(al0 c.kv y).getD (0:Int),(al0 c.kv y).isSome])) E:=λK f d E=>L5 (w0:=o.drew) rfl λA h=>by subst h;exact s3.lookOk y
 rw[U,H]at D;have n:=(z.trans C).trans (o6.drew o);cases ha:atV c.V y with
 | none=>
  rw[ha]at m D;simp only[Option.map_none,Option.getD_none,Option.isSome_none]at D;simp only[i4,n9,A6,simprocAttr,i,F,I,p,G,L];refine C4 (· = o.drew) 10 (A8 [0,1,2,3,4,5,6,7,8,9]) ?_;simp only[D7,A8,i4,n9,simprocAttr,e0,t1,t2,D];apply Q0 results50;simp only[C9,simprocAttr];have W:R2 c.V vs=none:=ax3.2 ⟨y,B,λh=>by rw[<-Z8,ha]at h;cases h⟩;exact⟨λ_=>tt,λl' h=>(by rw[W]at h;cases h),n⟩
 | some a=>
  rw[ha]at m D;simp only[eJ9,eI9,Option.isSome_some]at D;have J:=X.ext (C.trans (o6.drew o));obtain⟨Z,u4,w4,p2,p3,p4,_⟩:=push (P:=prog) (t:=45) (e:=45) V8 rfl J (x:=a) (y:=(a:Int)) rfl om om (b7 n);simp only[Value.cells]at Z p2;simp only[i4,n9,A6,simprocAttr,i,F,I,p,G,L];refine C4 (· = o.drew) 10 (A8 [0,1,2,3,4,5,6,7,8,9]) ?_;simp only[D7,A8,i4,n9,simprocAttr,e0,i,Q,t1,t2,D,Z,p2];exact nx4 (k+1,u4,l++[(a:Int)]) ⟨m,by simp only[eD4,eG3];omega,p3,J.ext2 n p4⟩
end
def du4(a b):D0 prog THp [(0,.int .i64 a),(1,.int .i64 b)]=some (.agg #[.int .i64 a,.int .i64 b]):=by
 simp[D0,THp,ee4,M2,Instr.fill,Value.cells]
def bs8(b a:B9)(k:Int):Vx:=if k=3 then⟨b,3,0,a⟩else⟨b,1,0,e0⟩
section
variable {p:Pg} {w1 w0 w:World} {g r gc rs:Nat} {ab:Addr} {vP vs vt:Value} {x:WX} {c:WC} {S:List Bool} {H T:List (Nat×Nat)}
def dC7{a b:Nat}{k:Int}{d e:Vx}(f:(b9 p).wv[a]?=some d)(c:(b9 p).wv[b]?=some e)(h:(b9 p).hopOf ⟨d,e,k⟩=[]):bn0 p H a ((b:Int),k)=[]:=by
 unfold bn0 aC1;rw[f,eF4,c];simp only[h,filter_nil]
def cE1{a b:Nat}{k:Int}{d e:Vx}{q:Nat×Nat}(f:(b9 p).wv[a]?=some d)(c:(b9 p).wv[b]?=some e)(h:(b9 p).hopOf ⟨d,e,k⟩=[q]):bn0 p H a ((b:Int),k)=if q∈H then[]else[q]:=by
 unfold bn0 aC1;rw[f,eF4,c];simp only[h];by_cases hm:q∈H<;>simp[hm]
def dA4(s0:WS w1 w0 g r ab vP x c)(hV:c.V=(b9 p).wv)(aU:c.kv=as6 (b9 p).wv)(hb:At (n8 w1) ab (b9 p))(hR:C8 p=true)(hw:C1 p<=1000000)(s:CS w0 w g gc rs vs vt S H T){a b:Nat}(k:Int){J t:Vx}(ha:(b9 p).wv[a]?=some J)(I:(b9 p).wv[b]?=some t)(hT:T.length<=900000000000):
  p7 prog 152 #[.pointer (some ⟨gc,0,none⟩),.int .i64 a,.agg #[.int .i64 b,.int .i64 k]] w λ_ e=>(∃af,CS w0 e g gc rs vs af S (H++bn0 p H a ((b:Int),k)) (T++bn0 p H a ((b:Int),k))/\t8 (cN gc rs vs vt) w e/\F4 w vt af):=by
 refine y5 [.pointer (some ⟨gc,0,none⟩),.int .i64 a,.agg #[.int .i64 b,.int .i64 k]] func152 rfl ?_;have hr:=D6 hR;have bC:A9.sz Vx=4:=rfl;have bp:a<(b9 p).wv.length:=(eD8.1 ha).1;have bq:b<(b9 p).wv.length:=(eD8.1 I).1;have bB:=eF7 I;obtain⟨d,A,bs,a4,ap⟩:bZ8 218 (.agg #[.int .i64 b,.int .i64 k]) w (((b:Int),k):Int×Int):=ca6 (SV.ofN (n8 w) (((b:Int),k):Int×Int)) (n7 _);have sa:=s.more a4;have aD:o6 w A.drew:=a4.trans (o6.drew A);have sd:=s.more aD;have bh:=s0.more sd.ext;have aJ:R (n8 A.drew) x.vV (b9 p).wv:=by rw[<-hV];exact bh.rV
 have k1:J4 prog (λe=>o6 A.drew e) 35 ⟨g,2,none⟩ x.vV:=sdx λe h=>(bh.more h).ld (u:=x.vV) rfl Z4;have k2:∀K f d' m,X8 prog (o6 A.drew) (Instr.loadAt 3 (.pointer (some d))) K f d' m=K (G9 f d' (.int .i64 b)) m:=λK f d' m=>L5 (w0:=A.drew) (t8.refl _) λe h=>(ap.ip e (b7 ((o6.drew A).trans h))).1;have k3:J4 prog (λe=>o6 A.drew e) 27 (I2 x.vV (b*4)) (.agg (A0.cells t).toArray):=sdx λe h=>bt7 aJ (b7 h) I;obtain⟨d7,cC,z,aL,C,a5,bz,O⟩:=cV3 (P:=prog) (w:=A.drew) (N:=λ_=>False) (T:=27) (SV.ofN (n8 A.drew) t) (λb hb=>hb.elim) be2 rfl R3;simp only[eF,simprocAttr,bs,sa.ld (i:=0) (u:=.pointer (some ⟨g,0,none⟩)) rfl dY5];refine C4 (o6 A.drew) 9 (A8 [0,1,2,3,4,5,6,7,8]) ?_;simp only[D7,A8,i4,n9,A6,simprocAttr,k1,k2,k3,aJ.inS bq,aL,F2];refine⟨a5,?_⟩;have F:=bz.trans (o6.drew z);have s7:=sd.more F;have aG:=s0.more s7.ext;have aI:R (n8 z.drew) x.vV (b9 p).wv:=by rw[<-hV];exact aG.rV
 have Q:=aI.at_ ha;rw[bC]at Q;have m1:=(L8.vx (SV.ofN (n8 A.drew) t) O).2 (o6 z.drew) z.drew (t8.refl _) λe h=>A3 (B6 _ _) (b7 ((o6.drew z).trans h));have m2:J4 prog (λe=>o6 z.drew e) 35 ⟨g,2,none⟩ x.vV:=sdx λe h=>(aG.more h).ld (u:=x.vV) rfl Z4;have m3:=Q.vx.2 (o6 z.drew) z.drew (t8.refl _) λe h=>b7 h;have aj:=aI.inS bp;have al:∀{e:World},o6 z.drew e->(b9 p).hopOf ⟨J,t,k⟩=[]->∃af,CS w0 e g gc rs vs af S (H++bn0 p H a ((b:Int),k)) (T++bn0 p H a ((b:Int),k))/\t8 (cN gc rs vs vt) w e/\F4 w vt af:=λhx h=>by
  rw[dC7 ha I h,eG5,eG5];exact⟨vt,s7.more hx,t8.up ((aD.trans F).trans hx),λb hb=>.inl hb⟩
 rcases eD2 (decide (t.kind=6))with q1|q1;rotate_left
 .simp only[i4,simprocAttr,C];refine C4 (o6 z.drew) 23 (A8 [0,1,2,3,4,5,6,7,8,9,10,11,12,13,14,15,16,17,18,19,20,21,22]) ?_;simp only[D7,A8,i4,n9,simprocAttr,m1,q1];refine db8 results152 (al (t8.refl _) ?_);unfold Bk.hopOf;rw[fh λh=>eD6 q1 h.1]
 rcases eD2 (decide (t.id=J.id))with q2|q2;rotate_left
 .simp only[i4,simprocAttr,C];refine C4 (o6 z.drew) 23 (A8 [0,1,2,3,4,5,6,7,8,9,10,11,12,13,14,15,16,17,18,19,20,21,22]) ?_;simp only[D7,A8,i4,n9,A6,simprocAttr,m1,m2,m3,aj,q1,q2];refine db8 results152 (al (t8.refl _) ?_);unfold Bk.hopOf;rw[fh λh=>eD6 q2 h.2.1]
 have aC:=eD3 q1;have av:=eD3 q2;obtain⟨i,hi,_,cj,bv⟩:=av9 hr.toKnown bB;have bf:=ag8 hr.may hw hi bv (.inr (.inr aC));obtain⟨xx,pt⟩:=K1 hr.may hw i hi;have aR:=pt.ids _ bf.mem;rw[bf.id]at aR;have bY:=pt.ok.len;have bV:=I3 hr.may;obtain⟨j,hj⟩:∃j:Nat,t.id=(j:Int)+1:=⟨(t.id-1).toNat,om⟩;have aB:j<(i5 p).l.length:=om
 have bx:IntKind.i64.wrap ((j:Int)+1-1)=(j:Int):=by rw[N7 _ om];omega
 have aw:(b9 p).s.it t.id=(i5 p).l[j]:=by
  show(i5 p).it t.id=_;unfold Sh.it;rw[hj,show((j:Int)+1-1).toNat=j by omega,getD,eD1 aB];rfl
 have V:=cc1 (c:=c) aG hb hr hw (id:=t.id) om om;rcases eD2 ((b9 p).isCall t.id)with q3|q3;rotate_left
 .simp only[i4,simprocAttr,C];refine C4 (o6 z.drew) 23 (A8 [0,1,2,3,4,5,6,7,8,9,10,11,12,13,14,15,16,17,18,19,20,21,22]) ?_;simp only[D7,A8,i4,n9,A6,simprocAttr,m1,m2,m3,aj,q1,q2];refine B3 V (λv ac=>⟨ac,?_⟩);simp only[fe,simprocAttr,q3];refine db8 results152 (al ac ?_);unfold Bk.hopOf;rw[fh λh=>by have:=h.2.2;rw[q3]at this;cases this]
 simp only[i4,simprocAttr,C];refine C4 (o6 z.drew) 23 (A8 [0,1,2,3,4,5,6,7,8,9,10,11,12,13,14,15,16,17,18,19,20,21,22]) ?_;simp only[D7,A8,i4,n9,A6,simprocAttr,m1,m2,m3,aj,q1,q2];refine B3 V (λv ac=>⟨ac,?_⟩);have G:=ac.trans (o6.drew v);have s8:=s7.more G;have bg:=s0.more s8.ext;obtain⟨sh,_,_,_,_,_,has,_,_,_,_,_,_,bM⟩:=hb.book rfl;obtain⟨vl,_,_,aY,_,_,_,_,bN⟩:=has.sh;have U:=aY.at_ (eD1 aB);have a6:A9.sz It=17:=rfl;rw[a6]at U;have aS:=aY.inS aB;generalize(i5 p).l[j]=it at U aw;obtain⟨aN,_,_⟩:=U.it;obtain⟨_,_,_,_,_,_,_,_,_,_,be⟩:=aN.st;generalize bt:it.s.proc=y at be;have az:∀e,o6 v.drew e->E6 (n8 w1) (n8 e):=λe h=>A3 bg.base (b7 h);have n0:J4 prog (λe=>o6 v.drew e) 87 ⟨g,0,none⟩ (.pointer (some ab)):=sdx λe h=>(bg.more h).ld rfl av3;have n1:=bM (o6 v.drew) v.drew (t8.refl _) az;have n2:=bN (o6 v.drew) v.drew (t8.refl _) az;have n3:=be (o6 v.drew) v.drew (t8.refl _) az;have n4:=(L8.vx (SV.ofN (n8 A.drew) t) O).2 (o6 v.drew) v.drew (t8.refl _) λe h=>A3 (B6 _ _) (b7 (((o6.drew z).trans G).trans h));have bw:IntKind.i64.wrap (t.id-1)=(j:Int):=by rw[hj];exact bx
 simp only[fe,simprocAttr,q3];refine C4 (o6 v.drew) 18 (A8 [0,1,2,3,4,5,6,7,8,9,10,11,12,13,14,15,16,17]) ?_;simp only[D7,A8,i4,n9,A6,simprocAttr,n0,n1,n2,n3,n4,bw,aS];obtain⟨cD,ao,W⟩:=dW8 v.drew ⟨y,1,0,e0⟩;have ad:=o6.alloc v.drew (.cells (A0.cells (⟨y,1,0,e0⟩:Vx)).toArray 27);have ah:=eH3 v.drew (.cells (A0.cells (⟨y,1,0,e0⟩:Vx)).toArray 27);generalize v.drew.alloc (.cells (A0.cells (⟨y,1,0,e0⟩:Vx)).toArray 27)=w9 at W ad ah;generalize aQ:v.drew.heap.size=c9 at ao W ah;have s9:=s8.more ad;have bT:=s0.more s9.ext;have aa:=G.trans ad;have lk:=ap.ip w9 (b7 (((o6.drew A).trans F).trans aa));have lI:=Q.vx.1 w9 (b7 aa);have l2:=bT.ld (i:=2) (u:=x.vV) rfl Z4;simp only[dq3,n9,simprocAttr,bz6,ao,W,lk];refine cg3 [0,6,7,8,9] (λf' e=>(k=3\/k=1)/\o6 v.drew e/\e.heap[c9]?=some (.cells (A0.cells (bs8 y J.slot k)).toArray TVx (0,0))) ?_ ?_
 .rcases eD2 (decide (k=3))with k3'|k3'
  .obtain⟨n,bO,bP,bQ⟩:=eq2 ah ⟨y,3,0,J.slot⟩;have br:=ad5 y 3 J.slot;simp only[i4,n9,A6,simprocAttr,k3',l2,aj,lI,br,bO];refine⟨.inl (eD3 k3'),t8.ext_of ad bQ λb hb=>by rw[hb,aQ];exact eE8 _,?_⟩;unfold bs8;rw[fi (eD3 k3')];exact bP
  .rcases eD2 (decide (k=1))with k1'|k1'
   .simp only[eF,simprocAttr,k3',k1',lk];refine⟨.inr (eD3 k1'),ad,?_⟩;unfold bs8;rw[fh (eD6 k3')];exact ah
   .simp only[eF,simprocAttr,k3',k1',lk];refine db8 results152 (al aa ?_);unfold Bk.hopOf;rw[fi ⟨aC,av,q3⟩,fh (eD6 k3'),fh (eD6 k1')]
 rintro ca n ak ⟨aT,aZ,B⟩;simp only[eF8,C9,↓reduceIte,Nat.reduceEqDiff]at ak;obtain⟨g0,g6,g7,g8,g9,_⟩:=ak;have Y:=aZ.trans (o6.drew n);have E:=G.trans Y;have aF:=s8.more Y;have ag:=s0.more aF.ext;have B:n.drew.heap[c9]?=some (.cells (A0.cells (bs8 y J.slot k)).toArray TVx (0,0)):=B;have aV:c9<n.drew.heap.size:=(eD5.1 B).1;obtain⟨q,hq⟩:∃q:Nat×Nat,q=(C5 (b9 p).wv (bs8 y J.slot k),C5 (b9 p).wv ⟨y,4,0,t.slot⟩):=⟨_,rfl⟩;have aW:(b9 p).hopOf ⟨J,t,k⟩=[q]:=by
  unfold Bk.hopOf;rw[fi ⟨aC,av,q3⟩];simp only[aw,bt];rw[hq];unfold bs8;rcases aT with h|h
  .rw[fi h,fi h]
  .rw[fh om,fi h,fh om]
 have bE:∀K f d m,X8 prog (o6 n.drew) (Instr.lookup 88 (.map (some r)) (.agg (A0.cells (bs8 y J.slot k)).toArray) false) K f d m=K (G9 f d (.int .i64 q.1)) m:=λK f d m=>L5 (w0:=n.drew) (t8.refl _) λe h=>by
  have:=(ag.more h).look (bs8 y J.slot k);rw[aU,bm6]at this;rw[hq];exact this
 have a8:∀K f d m,X8 prog (o6 n.drew) (Instr.lookup 88 (.map (some r)) (.agg (A0.cells (⟨y,4,0,t.slot⟩:Vx)).toArray) false) K f d m=K (G9 f d (.int .i64 q.2)) m:=λK f d m=>L5 (w0:=n.drew) (t8.refl _) λe h=>by
  have:=(ag.more h).look ⟨y,4,0,t.slot⟩;rw[aU,bm6]at this;rw[hq];exact this
 have o5:J4 prog (λe=>o6 n.drew e) 88 ⟨g,5,none⟩ (.map (some r)):=sdx λe h=>(ag.more h).ld rfl bJ8;have o9:J4 prog (λe=>o6 n.drew e) 27 ⟨c9,0,none⟩ (.agg (A0.cells (bs8 y J.slot k)).toArray):=sdx λe h=>el7 ((h.block c9 aV id).trans B);have o7:=(L8.vx (SV.ofN (n8 A.drew) t) O).2 (o6 n.drew) n.drew (t8.refl _) λe h=>A3 (B6 _ _) (b7 (((o6.drew z).trans E).trans h));have aP:=ad5 y 4 t.slot;have aA:=du4 (q.1:Int) (q.2:Int);obtain⟨dh,bi,l,M,X,ae,a0,aM⟩:=cV3 (P:=prog) (w:=n.drew) (N:=cN gc rs vs vt) (T:=THp) (SV.ofN (n8 n.drew) (bB1 q)) (λb hb=>aF.lt hb) dJ2 rfl bE3;have X:(Instr.storeAt THp (.pointer (some dh)) (.agg #[.int .i64 q.1,.int .i64 q.2])).run prog bi = .ok () l:=X;simp only[i4,simprocAttr];refine bj3 [0] (o6 n.drew) 17 (.op 0 (.op 1 (.op 2 (.op 3 (.op 4 (.op 5 (.op 6 (.op 7 (.op 8 (.op 9 (.op 10 (.op 11 (.op 12 (.fork [13,16] (λi=>if i=13 then(.op 14 (.fork [15,16] (λi=>if i=15 then(A8 [16])else(A8 [15]))))else(A8 [13,14,15]))))))))))))))))
  (λf' e=>f' 10 = .pointer (some dh)/\f' 98 = .agg #[.int .i64 q.1,.int .i64 q.2]/\e=bi) (by decide +kernel) (by decide +kernel) (t8.refl _) ?_ ?_
 .simp only[D7,A8,i4,n9,simprocAttr,g6,g7,g8,g9,o5,o9,bE,o7];refine X2 (by decide +kernel) (λi hi=>?_);simp only[eF0,eH6,eM0]at hi;rcases hi with rfl|rfl
  .simp only[eY,simprocAttr,aP,a8];refine X2 (by decide +kernel) (λi hi=>?_);simp only[eF0,eH6,eM0]at hi;rcases hi with rfl|rfl
   .simp only[eY,simprocAttr,aA,M,F2];exact⟨ae,tt,tt,tt⟩
   .simp only[eY,simprocAttr,aA,M,F2];exact⟨ae,tt,tt,tt⟩
  .simp only[eY,simprocAttr,aP,a8,aA,M,F2];exact⟨ae,tt,tt,tt⟩
 rintro cb _ ak ⟨L,bn,rfl⟩;have j0:=ak 0 dG;rw[g0]at j0;have Z:=a0.trans (o6.drew l);have am:=aF.more Z;have hH:=L8.whole aM (SV.ofN (n8 n.drew) (bB1 q)) dG8 dI6 cU3 bE3;have aq:E6 (D9 l (cN gc rs vs vt)) (n8 l.drew):=A3 (B6 _ _) (b7 (o6.drew l));have u2:J4 prog (λe=>e=l.drew) 144 ⟨gc,2,none⟩ (.map (some rs)):=sdq (am.ld (i:=2) rfl dG7);have u4:=hH.2 (· = l.drew) l.drew rfl λe h=>by subst h;exact aq
 have u5:∀K f d m,X8 prog (· = l.drew) (Instr.lookup 144 (.map (some rs)) (.agg (A0.cells (bB1 q)).toArray) false) K f d m=K (G9 f d (.bool (H.contains q))) m:=λK f d m=>L5 (w0:=l.drew) rfl λe h=>by subst h;exact am.look q
 have D:o6 w l.drew:=((aD.trans F).trans E).trans Z;simp only[eY,simprocAttr,L,bn,X];refine C4 (· = l.drew) 7 (A8 [0,1,2,3,4,5,6]) ?_;rcases eD2 (H.contains q)with hm|hm
 .simp only[D7,A8,i4,n9,simprocAttr,j0,L,u2,u4,u5,hm];apply bw0 results152;rw[cE1 ha I aW,fi (eE6.1 hm),eG5,eG5];exact⟨vt,am,t8.up D,λb hb=>.inl hb⟩
 have ay:q∉H:=λh=>by rw[eE6.2 h]at hm;cases hm
 have bd:=am.more (o6.drew l.drew);have bS:∀K f d m,X8 prog (· = l.drew.drew) (Instr.loadAt 144 (.pointer (some ⟨gc,2,none⟩))) K f d m=K (G9 f d (.map (some rs))) m:=λK f d m=>L5 (w0:=l.drew.drew) rfl λe h=>by subst h;exact bd.ld (i:=2) rfl dG7
 have ar:=A3 aq (b7 (o6.drew l.drew));have v4:=hH.2 (· = l.drew.drew) l.drew.drew rfl λe h=>by subst h;exact ar
 obtain⟨o,aE,bI,a9⟩:=bd.see ay;have aE:(Instr.mapUpdate 144 (.map (some rs)) (.agg (A0.cells (bB1 q)).toArray) (.bool true)).run prog l.drew.drew = .ok () o:=aE;have an:=bI.more (o6.drew o);have aO:E6 (D9 l (cN gc rs vs vt)) (n8 o.drew):=G8 ar (a9.trans (t8.up (o6.drew o))) λb hb=>by subst hb;exact G2 (.inr (.inl rfl))
 obtain⟨a1,bR,cA,cB,a2,a3,bJ,bF,bb,ba⟩:=an.pushT q hT;have a1:(Instr.buildSlice 145 1 #[(0,.agg (A0.cells (bB1 q)).toArray)]).run prog o.drew = .ok (.slice (some ⟨o.drew.heap.size,0,none⟩) 1 1) (o.drew.alloc (.cells #[.int .i64 q.1,.int .i64 q.2] THp)):=a1;have x3:J4 prog (λe=>t8 (B0 vt) o.drew e) 145 ⟨gc,3,none⟩ vt:=sdx λe h=>F9 (P:=prog) (u:=vt) (i:=3) ((h.block gc an.ltg λhb=>(an.dT gc hb).2.1 rfl).trans an.cb) rfl cs9;have x5:=hH.2 (t8 (B0 vt) o.drew) o.drew (t8.refl _) λe h=>G8 aO h λb hb=>G2 (.inr (.inr (.inr hb)));simp only[D7,A8,i4,n9,simprocAttr,j0,L,u2,u4,u5,hm];refine C4 (· = l.drew.drew) 5 (A8 [0,1,2,3,4]) ?_;simp only[D7,A8,i4,n9,simprocAttr,j0,L,bS,v4,aE8,aE];refine C4 (t8 (B0 vt) o.drew) 8 (A8 [0,1,2,3,4,5,6,7]) ?_;simp only[D7,A8,i4,n9,simprocAttr,j0,L,x3,x5,a1,a2,F2];refine⟨t8.up (o6.alloc _ _),ba,?_⟩;simp only[i4,simprocAttr,a3];apply bw0 results152;rw[cE1 ha I aW,fh ay];have bA:o6 w l.drew.drew:=D.trans (o6.drew l.drew);have ax:t8 (cN gc rs vs vt) w o.drew:=(t8.up bA).trans ((a9.weaken λ_ _ h=>.inr (.inl h)).trans (t8.up (o6.drew o)));refine⟨bR,bJ,ax.trans bF,λb hb=>?_⟩;rcases bb b hb with h|h
 .exact .inl h
 .exact .inr (eD7 ax.size h)
end
def db3(x:Option Addr):E2 prog .neq 83 (.pointer x) (.pointer none)=some (.bool (!x.isNone)):=by
 have h:eqT prog 83=2:=kr
 cases x<;>simp[E2,h]
section
variable {p:Pg}
def S8(v w)(hv:SV (n8 w) v p)(hw:C1 p<=1000000):
  p7 prog 17 #[v] w λu k=>(R (n8 k) u (if C8 p then(b9 p).wv else[])/\o6 w k):=by
 apply y5 [v] func17 rfl;obtain⟨c,m,e,j,b⟩:=L3 hv (n7 _);obtain⟨z,f,d,_⟩:=b.pg_v;simp only[eF,simprocAttr,e,d m (n7 _)];apply z6 (an7 z p m f hw);rintro u l ⟨o,q,h⟩;have a:=j.trans h;cases hR:C8 p
 .obtain rfl:=o hR;simp only[eF,simprocAttr,db3];exact o8 results17 ⟨(B7.nil (n8 l) l 0).rw_ (n7 _),a⟩
 obtain⟨C,g,r,A,B,x,rfl,y,n,t,s⟩:=q hR;simp only[eF,simprocAttr,db3,s.ld (i:=2) (u:=x.vV) rfl Z4];exact o8 results17 ⟨s.rV,a⟩
def aV0(v w)(hv:SV (n8 w) v p)(hw:C1 p<=1000000):
  p7 prog 24 #[v] w λu k=>(R (n8 k) u (if C8 p then(b9 p).we else[])/\o6 w k):=by
 apply y5 [v] func24 rfl;obtain⟨c,m,e,j,b⟩:=L3 hv (n7 _);obtain⟨z,f,d,_⟩:=b.pg_v;simp only[eF,simprocAttr,e,d m (n7 _)];apply z6 (an7 z p m f hw);rintro u l ⟨o,q,h⟩;have a:=j.trans h;cases hR:C8 p
 .obtain rfl:=o hR;simp only[eF,simprocAttr,db3];exact o8 results24 ⟨(B7.nil (n8 l) l 0).rw_ (n7 _),a⟩
 obtain⟨C,g,r,A,B,x,rfl,y,n,t,s⟩:=q hR;simp only[eF,simprocAttr,db3,s.ld (i:=3) (u:=x.vE) rfl bd8];exact o8 results24 ⟨s.rE,a⟩
def ax0(b:C8 p=true)(hw:C1 p<=1000000){C:List Eg}(a:∀e,e∈C↔e∈(b9 p).sums){ks:List Int}{S:List Bool}(hS:S.length=(b9 p).wv.length):I0 (ai8 (ae3 (b9 p).wv ((b9 p).we++C)) ks) S=I0 (V7 (b9 p).wv (b9 p).all ks) S:=by
 rw[dk8];exact(bP5 (J3 (D6 b).toKnown) (λe=>by unfold Bk.all;rw[eE0,eE0,a]) hS).2
def bM3(b:C8 p=true){vs:List Vx}{l:List Int}(h:R2 (b9 p).wv vs=some l):(∀a∈l,J2 (b9 p).wv.length a=true)/\l.length=vs.length:=by
 obtain⟨_,rfl⟩:=bu4 h;refine⟨λa c=>?_,dG⟩;obtain⟨v,_,rfl⟩:=eF2.1 c;exact an1 (J3 (D6 b).toKnown) v
end
section
variable {p:Pg} {w1 w0 w:World} {g r gc rs:Nat} {ab:Addr} {vP vs vt:Value} {x:WX} {c:WC} {S X Y:List Bool} {H T H0 T0:List (Nat×Nat)}
def InA(N:List (List (Int×Int)))(a:Nat)(t:Int×Int):Prop:=∃b,N[a]?=some b/\t∈b
def cx4{v b}(hv:F4 w vt v)(hb:b<w.heap.size)(h:cN gc rs vs v b):cN gc rs vs vt b:=by
 rcases h with h|h|h|h
 .exact .inl h
 .exact .inr (.inl h)
 .exact .inr (.inr (.inl h))
 .rcases hv b h with h|h
  .exact .inr (.inr (.inr h))
  .omega
def aZ3(s0:WS w1 w0 g r ab vP x c)(hV:c.V=(b9 p).wv)(ba:c.kv=as6 (b9 p).wv)(hA:OkA c.N.length c.N)(a3:c.N.length=(b9 p).wv.length)(hb:At (n8 w1) ab (b9 p))(hR:C8 p=true)(hw:C1 p<=1000000)(s:CS w0 w g gc rs vs vt S H0 T0){vX vY}
  (hX:R (D9 w (cN gc rs vs vt)) vX X) (hY:R (D9 w (cN gc rs vs vt)) vY Y) (b2:X.length=(b9 p).wv.length) (b3:Y.length=(b9 p).wv.length) (b1:S.length=(b9 p).wv.length) (hn:H0.Nodup) (h0:∀h∈H0,h∈aZ0 (b9 p).wv.length) (a6:T0.length<=H0.length) :
  p7 prog 93 #[.pointer (some ⟨gc,0,none⟩),vX,vY] w λ_ o=>(∃(aN:Value) (S':List Bool) (H T:List (Nat×Nat)),CS w0 o g gc rs vs aN S' H T/\BwJ p X Y H0 T0 H T (InA c.N)/\S'.length=S.length/\(∀v,v<(b9 p).wv.length->(A5 S' (v:Int)=true↔A5 S (v:Int)=true\/(A5 X (v:Int)=true/\A5 Y (v:Int)=true)))/\t8 (cN gc rs vs vt) w o/\F4 w vt aN):=by
 refine y5 [.pointer (some ⟨gc,0,none⟩),vX,vY] func93 rfl ?_;have hr:=D6 hR;have K:=hr.toKnown;have af:=ah0 hr hw;have cb:(b9 p).wv.length*(b9 p).wv.length<=480000*480000:=Nat.mul_le_mul af af;have aH:R (n8 w0) x.vn c.N:=s0.rn.roK (L4 _) λb hb=>rfl;have sw:=s0.more s.ext;have aF:=s0.oV.vlen;rw[hV]at aF;simp only[eF,simprocAttr,s.ld (i:=0) (u:=.pointer (some ⟨g,0,none⟩)) rfl dY5,sw.ld (i:=2) (u:=x.vV) rfl Z4,sw.oV.isS,aF];refine B4 [0,1,2,6,18] (σ:=(Nat×Value)×(List Bool×List (Nat×Nat)×List (Nat×Nat))) (λt f o=>f 19=t.1.1/\t.1.1<=(b9 p).wv.length/\CS w0 o g gc rs vs t.1.2 t.2.1 t.2.2.1 t.2.2.2/\BwJ p X Y H0 T0 t.2.2.1 t.2.2.2 (λa u=>a<t.1.1/\InA c.N a u)/\t.2.1.length=S.length /\
  (∀v,v<(b9 p).wv.length->(A5 t.2.1 (v:Int)=true↔A5 S (v:Int)=true\/(v<t.1.1/\A5 X (v:Int)=true/\A5 Y (v:Int)=true)))/\t8 (cN gc rs vs vt) w o/\F4 w vt t.1.2) (λt=>(b9 p).wv.length-t.1.1) ((0,vt),(S,H0,T0)) ?_ ?_
 .simp only[C9,simprocAttr];exact⟨tt,eE2 _,s,⟨⟨[],dG,dG⟩,λh hh=>.inl hh,hn,λa t hd=>by have:=hd.1;omega⟩,(by first|exact True.intro|rfl),λv hv=>dG,t8.refl _,λb hb=>.inl hb⟩
 rintro⟨⟨k,v3⟩,O,H3,T3⟩ f N ⟨e0,e1,e2,e6,aX,_⟩ ⟨E,a9,s3,j3,V,G,W,aa⟩;simp only at E a9 s3 j3 V G aa;simp only[eF,simprocAttr,E,aX];refine A7 (λbc=>?_) ?_;rotate_left
 .rintro rfl;simp only[i4,simprocAttr];apply bw0 results93;refine⟨v3,O,H3,T3,s3,j3.skip (λb u h=>h.2) (λb u h _ _=>⟨?_,h⟩),V,λv hv=>?_,W,aa⟩
  .obtain⟨B,n,_⟩:=h;rw[<-a3];exact(eD8.1 n).1
  .rw[G v hv];simp[hv]
 have am:k<X.length:=om
 have ao:k<Y.length:=om
 have Q:k<O.length:=om
 have U:k<c.N.length:=om
 have ac:E6 (D9 w (cN gc rs vs vt)) (n8 N):=G8 (B6 _ _) W λb hb=>G2 hb;have ah:=hX.inS am;have ar:(Instr.loadAt 4 (I2 vX k)).run prog N = .ok (X[k]) N:=O4 (P:=prog) (t:=4) hX ac (eD1 am) ag4;have bX:=aS0 am;generalize X[k]=xk at ar bX;rcases eD2 xk with n|n<;>subst n;rotate_left
 .simp only[i4,n9,A6,simprocAttr,E,e1,ah,ar];refine U5 ((k+1,v3),(O,H3,T3)) ⟨s3,j3.skip (λb u h=>⟨Nat.lt_succ_of_lt h.1,h.2⟩) (λb u h hx _=>⟨?_,h.2⟩),V,λv hv=>?_,W,aa⟩
  .rcases eH4 b k with C|C
   .exact C
   .obtain rfl:b=k:=Nat.le_antisymm (Nat.le_of_lt_succ h.1) C;rw[bX]at hx;cases hx
  .rw[G v hv];refine or_congr_right ⟨λ⟨n,m⟩=>⟨Nat.lt_succ_of_lt n,m⟩,λ⟨n,m,h3⟩=>⟨?_,m,h3⟩⟩;rcases eH4 v k with C|C
   .exact C
   .obtain rfl:v=k:=Nat.le_antisymm (Nat.le_of_lt_succ n) C;rw[bX]at m;cases m
 have s4:=s3.more (o6.drew N);have aA:=A3 ac (b7 (o6.drew N));have I:=s3.oS.inS Q;have aD:=hY.inS ao;have bY:=aS0 ao;have bS:=aS0 Q;have k1:J4 prog (λo=>o=N.drew) 95 ⟨gc,1,none⟩ vs:=sdq (s4.ld (i:=1) (u:=vs) rfl aQ5);have k2:J4 prog (λo=>o=N.drew) 4 (I2 vs k) (O[k]):=sdq (E8 (P:=prog) s4.oS (eD1 Q) ag4);have k3:J4 prog (λo=>o=N.drew) 4 (I2 vY k) (Y[k]):=sdq (O4 (P:=prog) (t:=4) hY aA (eD1 ao) ag4);generalize O[k]=sk at k2 bS;generalize Y[k]=yk at k3 bY;obtain⟨w5,bo,s5,m5⟩:=s4.setS Q (sk||yk);have bp:=s0.more s5.ext;have bd:t8 (cN gc rs vs vt) w w5:=(W.trans (t8.up (o6.drew N))).trans (m5.weaken λ_ _ h=>.inr (.inr (.inl h)));have a5:∀e:Int,A5 (O.set k (sk||yk)) e=if e=(k:Int)then(sk||yk)else A5 O e:=λe=>by
  have:=O2 (l:=O) (a:=(k:Int)) (b:=e) (v:=(sk||yk)) (C0.2 ⟨om,om⟩);rw[eF4]at this;exact this
 obtain⟨uR,L,a7⟩:=R.row aH (eD1 U);have J:=eD1 U;have aC:=aH.inS U;have bb:=M0 (P:=prog) (t:=216) a7 (b7 s5.ext) bY2;obtain⟨bf,aG⟩:=hA _ (eE1 U);generalize c.N[k]=B at L bf aG J;have a4:=L.isS;have be:=L.vlen;simp only[i4,n9,A6,simprocAttr,E,e1,ah,ar];refine bj3 [0,1,2,6,7,18,19] (· = N.drew) 18 (A8 [0,1,2,3,4,5,6,7,8,9,10,11,12,13,14,15,16,17]) (λf' o=>f' 30=vs/\f' 31=k/\f' 44=(sk||yk)/\o=N.drew) (by decide +kernel) (by decide +kernel) rfl ?_ ?_
 .rcases eD2 sk with q|q<;>subst q
  .simp only[D7,A8,i4,n9,A6,simprocAttr,e0,k1,k2,I];exact⟨tt,tt,tt,tt⟩
  .simp only[D7,A8,i4,n9,A6,simprocAttr,e0,e2,k1,k2,k3,I,aD];exact⟨tt,tt,tt,tt⟩
 rintro f5 _ aE ⟨aZ,a0,a1,rfl⟩;simp only[eF8,C9,↓reduceIte,Nat.reduceEqDiff]at aE;obtain⟨g0,g1,g2,g6,g7,bV,az,_⟩:=aE;rw[e0]at g0;rw[e2]at g2;rw[e6]at g6;rw[E]at az;simp only[D7,i4,n9,A6,simprocAttr,aZ,a0,a1,g6,g7,I,bo,bp.ld (i:=6) (u:=x.vn) rfl aJ9,aC,bb,a4,be];refine B4 [0,2,7,19,52,53] (σ:=(Nat×Value)×(List (Nat×Nat)×List (Nat×Nat))) (λt f o=>f 54=t.1.1/\t.1.1<=B.length/\CS w0 o g gc rs vs t.1.2 (O.set k (sk||yk)) t.2.1 t.2.2/\BwJ p X Y H0 T0 t.2.1 t.2.2 (λa u=>(a<k/\InA c.N a u)\/(a=k/\u∈B.take t.1.1))/\t8 (cN gc rs vs vt) w o/\F4 w vt t.1.2) (λt=>B.length-t.1.1) ((0,v3),(H3,T3)) ?_ ?_
 .exact⟨rfl,eE2 _,s5,j3.skip (λb u h=>.inl h) (λb u h _ _=>h.elim id λh=>by have:=h.2;simp at this),bd,aa⟩
 rintro⟨⟨j,v6⟩,H6,T6⟩ f6 w6 ⟨r0,r2,r7,aJ,aK,bl,_⟩ ⟨F,a8,s6,b6,m6,M⟩;simp only at F a8 s6 b6 M;rw[g0]at r0;rw[g2]at r2;rw[g7]at r7;rw[az]at aJ;simp only[eF,simprocAttr,F,bl];refine A7 (λz=>?_) ?_;rotate_left
 .rintro rfl;rw[eE4]at b6;simp only[eF,simprocAttr,aJ];refine U5 ((k+1,v6),(O.set k (sk||yk),H6,T6)) ⟨s6,b6.skip (λb u h=>?_) (λb u h _ _=>?_),by simp only[eK6];exact V,λv hv=>?_,m6,M⟩
  .rcases h with h|⟨rfl,h⟩
   .exact⟨Nat.lt_succ_of_lt h.1,h.2⟩
   .exact⟨Nat.lt_succ_self _,B,J,h⟩
  .rcases eH4 b k with C|C
   .exact .inl ⟨C,h.2⟩
   .obtain rfl:b=k:=Nat.le_antisymm (Nat.le_of_lt_succ h.1) C;obtain⟨bN,n,m⟩:=h.2;rw[J]at n;obtain rfl:=eF3 n;exact .inr ⟨rfl,m⟩
  .simp only[a5];by_cases hvk:v=k
   .subst hvk;rw[fi rfl,eN7,<-bS,<-bY,G v hv];constructor
    .rintro((h|h)|h)
     .exact .inl h
     .exact .inr ⟨Nat.lt_succ_self _,h.2⟩
     .exact .inr ⟨Nat.lt_succ_self _,bX,h⟩
    .rintro(h|h)
     .exact .inl (.inl h)
     .exact .inr h.2.2
   .rw[fh om,G v hv];exact or_congr_right ⟨λ⟨n,m⟩=>⟨Nat.lt_succ_of_lt n,m⟩,λ⟨n,m⟩=>⟨by have:=Nat.le_of_lt_succ n;omega,m⟩⟩
 have aj:=L.inS z;have y:=dA9 L (b7 s6.ext) (eD1 z);obtain⟨ap,_,_⟩:=aG _ (eE1 z);have Z:=eD9 z;generalize B[j]=t at y ap Z;obtain⟨d,q⟩:=t;simp only at y ap;obtain⟨b5,b8⟩:=C0.1 ap;obtain⟨D,rfl⟩:∃D:Nat,d=(D:Int):=⟨d.toNat,om⟩;obtain⟨da,br,w7,ad,A,aI,ae⟩:=bE8 (P:=prog) (w:=w6) (T:=218) (SV.ofN (n8 w6) (((D:Int),q):Int×Int)) (n7 _) dJ6 rfl ct2;have A:(Instr.storeAt 218 da (.agg #[D,q])).run prog br = .ok () w7:=A;have s7:=s6.more aI;have m7:t8 (cN gc rs vs vt) w w7:=m6.trans (t8.up aI);have lk:=ae.ip w7 (n7 _);have bj:=ae.ipv dH1 dI9 cU6 ct2 w7 (n7 _);have aB:E6 (D9 w (cN gc rs vs vt)) (n8 w7):=G8 (B6 _ _) m7 λb hb=>G2 hb;have a2:D<(b9 p).wv.length:=om
 have an:D<Y.length:=om
 have ag:=hY.inS an;have aq:(Instr.loadAt 4 (I2 vY D)).run prog w7 = .ok (Y[D]) w7:=O4 (P:=prog) (t:=4) hY aB (eD1 an) ag4;have bD:=aS0 an;generalize Y[D]=yd at aq bD;rcases eD2 yd with n|n<;>subst n;rotate_left
 .simp only[i4,n9,A6,simprocAttr,F,r2,aK,aj,y,ad,A,lk,ag,aq];refine U5 ((j+1,v6),(H6,T6)) ⟨s7,b6.skip (λb u h=>h.imp id λh=>⟨h.1,?_⟩) (λb u h _ hy=>h.imp id λh=>⟨h.1,?_⟩),m7,M⟩
  .simp only[Z];exact eF9 _ h.2
  .have m:=h.2;simp only[Z]at m;rcases eE0.1 m with m|m
   .exact m
   .rw[eE7.1 m]at hy;rw[bD]at hy;cases hy
 have cc:=b6.size K h0 a6;simp only[i4,n9,A6,simprocAttr,F,r0,r2,r7,aK,aj,y,ad,A,lk,bj,ag,aq];refine z6 (dA4 s0 hV ba hb hR hw s7 q (eD1 bc) (eD1 a2) om) ?_;rintro _ w8 ⟨v8,s8,m8,bg⟩;simp only[eF,simprocAttr,F];refine U5 ((j+1,v8),(H6++bn0 p H6 k ((D:Int),q),T6++bn0 p H6 k ((D:Int),q))) ⟨s8,b6.keep bX bD λb u=>?_,m7.chain m8 λb hb h=>cx4 M hb h,λb hb=>?_⟩
 .simp only[Z,eE0,eE7];constructor
  .rintro(h|⟨n,m|m⟩)
   .exact .inl (.inl h)
   .exact .inl (.inr ⟨n,m⟩)
   .exact .inr ⟨n,m⟩
  .rintro((h|⟨n,m⟩)|⟨n,m⟩)
   .exact .inl h
   .exact .inr ⟨n,.inl m⟩
   .exact .inr ⟨n,.inr m⟩
 .rcases bg b hb with h|h
  .exact M b h
  .exact .inr (eD7 m7.size h)
end
def dt8(g rs vs)(hS:isS vs=true):D0 prog TCh [(0,.pointer (some ⟨g,0,none⟩)),(1,vs),(2,.map (some rs))]=some (.agg #[.pointer (some ⟨g,0,none⟩),vs,.map (some rs),()]):=by
 have b:∀a,(Value.pointer a).cells=#[.pointer a]:=λ_=>rfl;have c:(Value.map (some rs)).cells=#[.map (some rs)]:=rfl;simp[D0,TCh,ee3,M2,Instr.fill,G3 hS,b,c]
def ea0{p}(b:C8 p=true)(hw:C1 p<=1000000):∀e∈(b9 p).all,e.src∈(b9 p).wv/\e.dst∈(b9 p).wv:=λe a=>by
 unfold Bk.all at a;rcases eE0.1 a with h|h
 .exact aX2 b hw h
 .have:=ah3 h;exact⟨this.2.1,this.2.2.1⟩
section
variable {p:Pg} {w1 w:World} {g r:Nat} {ab:Addr} {vP:Value} {x:WX}
def dr1{C:List Eg}(s:WS w1 w g r ab vP x (wcC p C (ac6 C)))(aE:At (n8 w1) ab (b9 p))(Z:C8 p=true)(hw:C1 p<=1000000)(bn:bq3 p C)(hC:∀e,e∈C↔e∈(b9 p).sums){vk vl}{k l:List Int}(cf:R (n8 w) vk k)(cg:R (n8 w) vl l)
  (hk:∀a∈k,J2 (b9 p).wv.length a=true) (hl:∀a∈l,J2 (b9 p).wv.length a=true) (bQ:k.length<=1000000000) (bV:l.length<=1000000000) :
  p7 prog 53 #[.pointer (some ⟨g,0,none⟩),vk,vl] w λu S=>(B7 (n8 w) S 4 u ((b9 p).chopB k l)/\o6 w S):=by
 refine y5 [.pointer (some ⟨g,0,none⟩),vk,vl] func53 rfl ?_;have hr:=D6 Z;have K:=hr.toKnown;have ax:=ah0 hr hw;have hE:=ea0 Z hw;have c9:(b9 p).wv.length*(b9 p).wv.length<=480000*480000:=Nat.mul_le_mul ax ax;obtain⟨aD,U⟩:=bh0 Z hw bn;have b6:vlen x.vV=(b9 p).wv.length:=s.oV.vlen;obtain⟨vs,w2,bX,bl,ch,b8,_⟩:=mk (P:=prog) (w:=w) (h:=hZ) (α:=Bool) bw9 Y5 (y:=false) rfl (n:=(b9 p).wv.length) om om (L4 _);obtain⟨mm,mb,sc⟩:=CS.start g ch bl b8 144;have a7:=dt8 g w2.heap.size vs bl.isS;generalize(w2.alloc (.map #[] 0)).alloc (.cells #[.pointer (some ⟨g,0,none⟩),vs,.map (some w2.heap.size),()] TCh)=wc at mb sc;generalize c6:w2.heap.size+1=gc at mb sc;generalize da:w2.heap.size=rs at mm mb sc a7;simp only[eF,simprocAttr,s.ld (i:=2) (u:=x.vV) rfl Z4,s.oV.isS,b6,bX,aJ0,mm,a7,mb];have sw:=s.more sc.ext;apply z6 (aw9 sw vk k (A9.mono (b7 sc.ext) cf) hk (by show(b9 p).wv.length<=_;omega) bQ);rintro u1 w3 ⟨aI,aK⟩;obtain⟨v4,w4,bS,ca,aL,bN⟩:=lit (P:=prog) (w:=w3) (h:=hZ) (α:=Int) (xs:=[(1:Int),(2:Int),(3:Int),(6:Int)]) (ys:=[1,2,3,6]) (parts:=#[(0,(1:Int)),(1,(2:Int)),(2,(3:Int)),(3,(6:Int))]) (n:=4) V8 rfl (G6.2 rfl) (by simp[Value.cells]) rfl rfl dG dG (L4 _);simp only[eF,simprocAttr,(sw.more aK).ld (i:=6) (u:=x.vn) rfl aJ9,bS];apply z6 (av1 ((sw.more (aK.trans aL)).rn) (λb c=>sw.lt (i:=5) c) (aI.ext aL) (aK.trans aL) ca (λb c G=>by have:=aI.lt G;have:=bN b c;omega) U (by rw[E0];exact ar3) (by rw[E0];show(b9 p).wv.length<=_;omega) dG dG);rintro _ w5 ⟨D,_,ah⟩;dsimp only[wcC]at D;rw[ax0 Z hw hC E0]at D;have D:B7 (n8 wc) w5 4 u1 ((b9 p).first k):=D;have s5:=sw.more ah;simp only[i4,simprocAttr];apply z6 (aw9 s5 vl l (A9.mono (b7 (sc.ext.trans ah)) cg) hl (by show(b9 p).wv.length<=_;omega) bV);rintro u6 w6 ⟨aJ,aM⟩;obtain⟨v7,w7,bU,cb,aN,bP⟩:=lit (P:=prog) (w:=w6) (h:=hZ) (α:=Int) (xs:=[(1:Int),(2:Int),(3:Int),(4:Int),(5:Int)]) (ys:=[1,2,3,4,5]) (parts:=#[(0,(1:Int)),(1,(2:Int)),(2,(3:Int)),(3,(4:Int)),(4,(5:Int))]) (n:=5) V8 rfl (G6.2 rfl) (by simp[Value.cells]) rfl rfl dG dG (L4 _);simp only[eF,simprocAttr,(s5.more aM).ld (i:=7) (u:=x.vp) rfl aJ9,bU];apply z6 (av1 ((s5.more (aM.trans aN)).rp) (λb c=>s5.lt (i:=6) c) (aJ.ext aN) (aM.trans aN) cb (λb c G=>by have:=aJ.lt G;have:=bP b c;omega) aD (by rw[E0];exact ah7) (by rw[E0];show(b9 p).wv.length<=_;omega) dG dG);rintro _ w8 ⟨E,_,J⟩;dsimp only[wcC]at E;rw[af7 Z hw hC E0]at E;have E:B7 (n8 w5) w8 4 u6 ((b9 p).last l):=E;have s8:=s5.more J;have H:((b9 p).first k).length=(b9 p).wv.length:=ce8;have j:((b9 p).last l).length=(b9 p).wv.length:=cC5;obtain⟨u9,w9,p9,aq,bW,de⟩:=aj8 (P:=prog) (t:=95) (e:=95) bw9 (B7.nil (n8 w8) w8 4) ((D.ext J).rw_ (b7 (ah.trans J))) (n7 _) (by rw[H];simp;omega) (by rw[H];simp;omega) (n7 _);rw[eL4]at aq;have aO:o6 w8 w9:=bW.weaken λ_ _ h=>fj h E7;obtain⟨ds,dv,be,bj,ad,a8⟩:=lit (P:=prog) (w:=w9) (h:=hZ) (α:=Int) (xs:=[(1:Int),(2:Int),(3:Int),(4:Int),(5:Int)]) (ys:=[1,2,3,4,5]) (parts:=#[(0,(1:Int)),(1,(2:Int)),(2,(3:Int)),(3,(4:Int)),(4,(5:Int))]) (n:=5) V8 rfl (G6.2 rfl) (by simp[Value.cells]) rfl rfl dG dG (L4 _);simp only[eF,simprocAttr,p9,(s8.more aO).ld (i:=6) (u:=x.vn) rfl aJ9,be];apply z6 (av1 ((s8.more (aO.trans ad)).rn) (λb c=>s8.lt (i:=5) c) (aq.ext ad) (aO.trans ad) bj (λb c G=>by have:=aq.lt G;have:=a8 b c;omega) U (by rw[H];exact ar3) (by rw[H];omega) dG dG);rintro _ al ⟨m,_,v⟩;dsimp only[wcC]at m;rw[ax0 Z hw hC H]at m;have m:B7 (n8 w8) al 4 u9 ((b9 p).thenB k):=m;have aS:=s8.more v;obtain⟨aT,bB,co,O,bh,cR⟩:=aj8 (P:=prog) (t:=95) (e:=95) bw9 (B7.nil (n8 al) al 4) ((E.ext v).rw_ (b7 (J.trans v))) (n7 _) (by rw[j];simp;omega) (by rw[j];simp;omega) (n7 _);rw[eL4]at O;have ae:o6 al bB:=bh.weaken λ_ _ h=>fj h E7;obtain⟨dt,dw,bf,bk,af,a9⟩:=lit (P:=prog) (w:=bB) (h:=hZ) (α:=Int) (xs:=[(1:Int),(2:Int),(3:Int),(6:Int)]) (ys:=[1,2,3,6]) (parts:=#[(0,(1:Int)),(1,(2:Int)),(2,(3:Int)),(3,(6:Int))]) (n:=4) V8 rfl (G6.2 rfl) (by simp[Value.cells]) rfl rfl dG dG (L4 _);simp only[eF,simprocAttr,co,(aS.more ae).ld (i:=7) (u:=x.vp) rfl aJ9,bf];apply z6 (av1 ((aS.more (ae.trans af)).rp) (λb c=>aS.lt (i:=6) c) (O.ext af) (ae.trans af) bk (λb c G=>by have:=O.lt G;have:=a9 b c;omega) aD (by rw[j];exact ah7) (by rw[j];omega) dG dG);rintro _ L ⟨o,_,Q⟩;dsimp only[wcC]at o;rw[af7 Z hw hC j]at o;have o:B7 (n8 al) L 4 aT ((b9 p).before l):=o;have a1:B7 hZ L 4 u1 ((b9 p).first k):=(D.ext ((J.trans v).trans Q)).down (L4 _);have a2:B7 hZ L 4 u6 ((b9 p).last l):=(E.ext (v.trans Q)).down (L4 _);have a3:B7 hZ L 4 u9 ((b9 p).thenB k):=(m.ext Q).down (L4 _);have a4:B7 hZ L 4 aT ((b9 p).before l):=o.down (L4 _);have z5:=ah.size;have z8:=J.size;have dC:=v.size;have b1:∀b,B0 u1 b->wc.heap.size<=b:=λb c=>D4 (D.free c);have b2:∀b,B0 u6 b->wc.heap.size<=b:=λb c=>by have:=D4 (E.free c);omega
 have b3:∀b,B0 u9 b->wc.heap.size<=b:=λb c=>by have:=D4 (m.free c);omega
 have b4:∀b,B0 aT b->wc.heap.size<=b:=λb c=>by have:=D4 (o.free c);omega
 have hc:∀b,cN gc rs vs () b->b<wc.heap.size:=λb c=>sc.lt c;have bs:=sc.more (((ah.trans J).trans v).trans Q);have l1:((b9 p).thenB k).length=(b9 p).wv.length:=by unfold Bk.thenB;rw[G5,H]
 have l2:((b9 p).before l).length=(b9 p).wv.length:=by unfold Bk.before;rw[G5,j]
 have ao:(wcC p C (ac6 C)).N.length=(b9 p).wv.length:=ar3;clear aI D aJ E aq m O o;simp only[i4,simprocAttr];apply z6 (aZ3 s rfl rfl U ao aE Z hw bs (a1.flatR λb c=>E9 λh=>by have:=hc b h;have:=b1 b c;omega) (a4.flatR λb c=>E9 λh=>by have:=hc b h;have:=b4 b c;omega) H l2 dG dG dG (eE8 _));rintro _ cw ⟨bA,S2,H2,T2,bt,j2,bg,a0,bq,ce⟩;obtain⟨⟨D2,e2,aW⟩,bZ,ba⟩:=j2.fin hE hC (λa t=>eL8);have aj:=j2.size K dG (eE8 _);have hq:∀b,wc.heap.size<=b->b<L.heap.size->¬cN gc rs vs bA b:=λb h1 h2 h=>by
  have:=hc b (cx4 ce h2 h);omega
 have ac:∀{u:Value} {X:List Bool},B7 hZ L 4 u X->(∀b,B0 u b->wc.heap.size<=b)->R (D9 cw (cN gc rs vs bA)) u X:=λha c=>(ha.mod bq λb h h'=>by have:=hc b h';have:=c b h;omega).flatR λb h=>E9 (hq b (c b h) (ha.lt h));simp only[i4,simprocAttr];apply z6 (aZ3 s rfl rfl U ao aE Z hw bt (ac a3 b3) (ac a2 b2) l1 j (by rw[bg];simp) bZ aj.1 aj.2.1);rintro _ dx ⟨cv,S3,H3,T3,bu,j3,bR,a5,cm,dc⟩;obtain⟨⟨D3,e3,aX⟩,b0,bb⟩:=j3.fin hE hC (λa t=>eL8);have aP:=j3.size K aj.1 aj.2.1;have aZ:H3=T3:=by rw[e3,aX,e2,aW]
 have bm:=ChJ.start K aZ b0 ba bb (by rw[bR,bg];simp) a0 a5;clear a1 a2 a3 a4 hq ac j2 j3 e2 aW e3 aX ba bb a0 a5 bs bt bq cm aj aZ;simp only[i4,simprocAttr];refine B4 [0,7] (σ:=(Value×List Bool)×(List (Nat×Nat)×List (Nat×Nat)×List (Nat×Nat))) (λt f S=>CS w S g gc rs vs t.1.1 t.1.2 t.2.1 t.2.2.1/\ChJ p k l t.1.2 t.2.1 t.2.2.1 t.2.2.2/\(∀h∈t.2.1,h∈aZ0 (b9 p).wv.length)/\t.2.2.1.length<=t.2.1.length) (λt=>2*((b9 p).wv.length*(b9 p).wv.length-t.2.1.length)+t.2.2.1.length) ((cv,S3),(H3,T3,[])) ?_ ?_
 .simp only[simprocAttr];exact⟨bu,bm,aP.1,aP.2.1⟩
 clear bu bm aP;rintro⟨⟨v4,S4⟩,H4,T4,Q4⟩ f M ⟨r0,r7,_⟩ ⟨A,j4,aa,a6⟩;simp only at A j4 aa a6;have bi:vlen v4=T4.length:=by rw[A.oT.vlen,eE3]
 simp only[eF,simprocAttr,r7,A.ld (i:=3) (u:=v4) rfl cs9,A.oT.isS,bi];refine B2 (λaH=>?_) (λaH=>?_);rotate_left
 .have cd:T4=[]:=by
   have:¬(0:Int)<(T4.length:Int):=by simpa using aH
   exact List.length_eq_zero_iff.1 om
  subst cd;have bc:=j4.fin K;subst bc;simp only[eF,simprocAttr,r7,A.ld (i:=1) (u:=vs) rfl aQ5];exact o8 results53 ⟨A.oS.up (L4 _) λb c=>aE5 (A.ge (.inr (.inr (.inl c)))),A.ext⟩
 obtain⟨n,bY⟩:∃n,T4.length=n+1:=⟨T4.length-1,by
  have:(0:Int)<(T4.length:Int):=by simpa using aH
  omega⟩
 obtain⟨T,q,rfl,db,_,_⟩:=bm7 bY;have cj:=aa q ((j4.hqt q).2 (.inr dG));obtain⟨ac,cc⟩:=bg5.1 cj;have bJ:=J5 j4.nd aa;rw[bz3]at bJ;have bo:IntKind.i64.wrap (((T.length+1:Nat):Int)-1)=(T.length:Int):=by rw[N7 _ om];omega
 have ak:=A.more (o6.drew M);obtain⟨_,bd,az,aG,ay,_⟩:=ak.popT;obtain⟨d,wz,Y,aF,I,ci,bp,ap⟩:=cV3 (P:=prog) (w:=M.drew) (N:=cN gc rs vs v4) (T:=THp) (SV.ofN (n8 M.drew) (bB1 q)) (λb c=>ak.lt c) dJ2 rfl bE3;have I:(Instr.storeAt THp d (.agg #[q.1,q.2])).run prog wz = .ok () Y:=I;have k1:J4 prog (λS=>o6 M.drew S) 145 ⟨gc,3,none⟩ v4:=sdx λS h=>(ak.more h).ld (i:=3) (u:=v4) rfl cs9;have k2:∀K f d z,X8 prog (o6 M.drew) (Instr.loadAt THp (I2 v4 (T.length*2))) K f d z=K (G9 f d (.agg #[q.1,q.2])) z:=λK f d z=>L5 (w0:=M.drew) (t8.refl _) λS h=>(ak.more h).popT.1;have bv:=ak.more (bp.trans (o6.drew Y));obtain⟨_,_,_,_,_,B,bx,cp,cn,cL⟩:=bv.popT;have k3:J4 prog (λS=>S=Y.drew) 145 ⟨gc,3,none⟩ v4:=sdq (bv.ld (i:=3) (u:=v4) rfl cs9);have ap:=L8.atI ap;have aw:E6 (D9 Y (cN gc rs vs v4)) (n8 B.drew):=A3 (G8 (A3 (B6 _ _) (b7 (o6.drew Y))) cn λb c=>G2 c) (b7 (o6.drew B));have k4:∀K f d' z,X8 prog (o6 B.drew) (Instr.loadAt 3 d) K f d' z=K (G9 f d' q.1) z:=λK f d' z=>L5 (w0:=B.drew) (t8.refl _) λS h=>(ap.ip S (A3 aw (b7 h))).1;have k5:∀K f d' z,X8 prog (o6 B.drew) (Instr.loadAt 3 (d.add 1)) K f d' z=K (G9 f d' q.2) z:=λK f d' z=>L5 (w0:=B.drew) (t8.refl _) λS h=>(ap.ip S (A3 aw (b7 h))).2;have ar:=cp.more (o6.drew B);have aB:=s.more ar.ext;rw[eD4,eG3]at bi a6;simp only[i4,simprocAttr];refine C4 (o6 M.drew) 13 (A8 [0,1,2,3,4,5,6,7,8,9,10,11,12]) ?_;simp only[D7,A8,i4,n9,A6,simprocAttr,r7,k1,ay,az,bo,bd,k2,aF,F2];refine⟨ci,?_⟩;simp only[i4,simprocAttr,I];refine C4 (· = Y.drew) 12 (A8 [0,1,2,3,4,5,6,7,8,9,10,11]) ?_;simp only[D7,A8,i4,n9,G7,simprocAttr,r7,k3,ay,az,bo,aG];simp only[i4,simprocAttr,bx];refine C4 (o6 B.drew) 9 (A8 [0,1,2,3,5,6,7,4,8]) ?_;simp only[D7,A8,i4,n9,simprocAttr,r0,r7,k4,k5];apply z6 (bM8 aB q.1 ac U ao (by show(b9 p).wv.length<=_;omega));rintro ub bD ⟨W,F⟩;refine⟨F,?_⟩;dsimp only[wcC]at W;rw[ax0 Z hw hC E0]at W;have W:B7 (n8 B.drew) bD 4 ub ((b9 p).behind q.1):=W;simp only[eY,simprocAttr];apply z6 (by3 (aB.more F) q.2 cc aD ah7 (by show(b9 p).wv.length<=_;omega));rintro ua cx ⟨V,ag⟩;refine⟨F.trans ag,?_⟩;dsimp only[wcC]at V;rw[af7 Z hw hC E0]at V;have V:B7 (n8 bD) cx 4 ua ((b9 p).ahead q.2):=V;have cq:=ar.more (F.trans ag);have bM:((b9 p).behind q.1).length=(b9 p).wv.length:=by unfold Bk.behind;rw[G5,E0]
 have bL:((b9 p).ahead q.2).length=(b9 p).wv.length:=by unfold Bk.ahead;rw[G5,E0]
 have dD:=F.size;simp only[eY,simprocAttr];apply z6 (aZ3 s rfl rfl U ao aE Z hw cq (((W.ext ag).down (L4 _)).flatR λb c=>E9 λh=>by have:=ar.lt h;have:=D4 (W.free c);omega) ((V.down (L4 _)).flatR λb c=>E9 λh=>by have:=ar.lt h;have:=D4 (V.free c);omega) bM bL j4.len j4.nd aa om);rintro _ dy ⟨v5,S5,H5,T5,cr,j5,bT,bK,dm,dd⟩;obtain⟨⟨D5,e5,aY⟩,b5,bO⟩:=j5.fin hE hC (λa t=>eL8);have aQ:=j5.size K aa om;have cM:H5.length=H4.length+D5.length:=by rw[e5,eD4]
 have cO:T5.length=T.length+D5.length:=by rw[aY,eD4]
 simp only[i4,simprocAttr];refine⟨((v5,S5),(H5,T5,Q4++[q])),?_,cr,?_,aQ.1,aQ.2.1⟩
 .have:=aQ.2.2;simp only[eD4,eG3];omega
 .simp only[];rw[aY];exact j4.step K e5 b5 bO bT bK
end
section
variable {p:Pg}
def levelB(p:Pg)(a b:Vx):Bool:=A5 (I0 (V7 (b9 p).wv (b9 p).all [1,2,3]) (W2 (b9 p).wv.length [((C5 (b9 p).wv a:Nat):Int)])) ((C5 (b9 p).wv b:Nat):Int)
end
section
variable {p:Pg} {a v u b x y:Vx} {e g:Eg} {o:List Int}
def cp4(K:Known p){k l:List Int}{h:Nat×Nat}(a:h∈(b9 p).hops k l):J2 (b9 p).wv.length (h.1:Int)=true/\J2 (b9 p).wv.length (h.2:Int)=true:=by
 have:h.1<(b9 p).wv.length/\h.2<(b9 p).wv.length:=(ad3 K k l).2.2 (λh=>h.1<(b9 p).wv.length/\h.2<(b9 p).wv.length) (λh a=>by
  obtain⟨e,_,b,_⟩:=ae0.1 a;exact bb5 K b) (λg _ h a=>by
  obtain⟨e,_,_,b⟩:=aI8.1 a;exact bb5 K b) h a
 exact⟨C0.2 ⟨om,om⟩,C0.2 ⟨om,om⟩⟩
def ec9(C:C8 p=true)(hw:C1 p<=1000000)(S:a∈(b9 p).wv)(hb:b∈(b9 p).wv):∀{o:List Int} {x y:Vx},by7 p a o x->bq0 p b o y->aN8 p lvK x y ->
  let k:=[((C5 (b9 p).wv a:Nat):Int)];let l:=[((C5 (b9 p).wv b:Nat):Int)]
  (A5 ((b9 p).first k) (C5 (b9 p).wv x:Nat)=true/\A5 ((b9 p).before l) (C5 (b9 p).wv y:Nat)=true)\/(A5 ((b9 p).thenB k) (C5 (b9 p).wv x:Nat)=true/\A5 ((b9 p).last l) (C5 (b9 p).wv y:Nat)=true) \/
  ∃h∈(b9 p).hops k l,az9 p lvK (h.1:Nat) (C5 (b9 p).wv x:Nat)/\az9 p lvK (C5 (b9 p).wv y:Nat) (h.2:Nat):=by
 have K:=(D6 C).toKnown;have mk:∀z:Vx,Mk p [((C5 (b9 p).wv z:Nat):Int)] ((C5 (b9 p).wv z:Nat):Int):=λz=>⟨an1 (J3 K) z,dG⟩;intro o
 induction o with
 | nil=>
  intro x y n i _;exact .inl ⟨(aa5 K).2 ⟨_,mk a,n⟩,(Y8 K).2 ⟨_,mk b,i⟩⟩
 | cons id o N=>
  intro x y n i u;obtain⟨m,O,P⟩:=by7.fit K n;rcases i with i|⟨e,I,J,L,B,M⟩
  .exact .inr (.inl ⟨(ak0 K).2 ⟨_,mk a,m,O,P⟩,(ah1 K).2 ⟨_,mk b,i⟩⟩)
  .obtain⟨g,E,F,G,H,A⟩:=n;obtain⟨r,j,q,s,Q,v⟩:=bP4 C hw F G I J (by rw[L,H]) (Y6.trans A (Y6.trans u B));have D:=W9 K j Q;rw[q,s]at D;refine .inr (.inr ⟨(C5 (b9 p).wv g.dst,C5 (b9 p).wv e.src),?_,A,B⟩);rcases N E M D with⟨c,d⟩|⟨c,d⟩|⟨R,t,c,d⟩
   .exact(ad3 K _ _).1 _ (ae0.2 ⟨r,j,v,.inl ⟨by rw[q];exact c,by rw[s];exact d⟩⟩)
   .exact(ad3 K _ _).1 _ (ae0.2 ⟨r,j,v,.inr ⟨by rw[q];exact c,by rw[s];exact d⟩⟩)
   .refine(ad3 K _ _).2.1 _ t _ (aI8.2 ⟨r,j,⟨?_,?_⟩,v⟩)
    .rw[q];obtain⟨w,f⟩:=cp4 K t;exact(aR9 K).2 ⟨w,c⟩
    .rw[s];obtain⟨w,f⟩:=cp4 K t;exact(be7 K).2 ⟨f,d⟩
def dq1(c:C8 p=true)(hw:C1 p<=1000000)(l:a∈(b9 p).wv)(hb:b∈(b9 p).wv)(j:aq3 (b9 p).we a v o)(k:at0 (b9 p).we v o b):
  A5 ((b9 p).chopB [((C5 (b9 p).wv a:Nat):Int)] [((C5 (b9 p).wv b:Nat):Int)]) ((C5 (b9 p).wv v:Nat):Int)=true:=by
 have K:=(D6 c).toKnown;apply(aa8 (V1 (J3 K) _)).2;rcases ec9 c hw l hb (j.inv c hw) (k.rest c hw) .refl with h|h|⟨h,d,e,f⟩
 .exact .inl h
 .exact .inr (.inl h)
 .obtain⟨g,i⟩:=cp4 K d;exact .inr (.inr ⟨h,d,(aR9 K).2 ⟨g,e⟩,(be7 K).2 ⟨i,f⟩⟩)
end
def cL1{V:List Vx}{y:Vx}(h:y∈V):atV V y=some (C5 V y):=by
 obtain⟨a,b⟩:=eJ0.1 (Z8.2 h);unfold C5;rw[b];rfl
def cW5{V:List Vx}{y:Vx}(h:y∉V):atV V y=none:=by
 cases e:atV V y with
 | none=>rfl
 | some a=>exact fj (Z8.1 (by rw[e];rfl)) h
def nuI(p:Pg)(v:Vx):Int:=((C5 (b9 p).wv v:Nat):Int)
section
variable {p:Pg} {a b v:Vx} {xs ys:List Vx} {k l:List Int} {e:Eg}
def cE4(h:∀u∈xs,u∈(b9 p).wv):R2 (b9 p).wv xs=some (xs.map (nuI p)):=by
 cases e:R2 (b9 p).wv xs with
 | none=>
  obtain⟨u,a,b⟩:=ax3.1 e;exact fj (h u a) b
 | some l=>rw[(bu4 e).2];rfl
def bf0(a:C8 p=true)(b:∀u∈xs,u∈(b9 p).wv)(c:∀u∈ys,u∈(b9 p).wv):P5 p xs ys=(F3 (b9 p).wv ((b9 p).chopB (xs.map (nuI p)) (ys.map (nuI p))),0):=by
 unfold P5;rw[fh (by rw[a];simp),cE4 b,cE4 c]
def at3(a:E3 p)(hw:C1 p<=1000000)(hv:v∈(b9 p).wv):v∈F3 (b9 p).wv ((b9 p).chopB k l)↔A5 ((b9 p).chopB k l) (nuI p v)=true:=ap5 (Z7 a hw) hv
end
def em7{V vs:List Vx}{u:Value}{w w'}(d:R2 V vs=none->u = .tuple #[.slice none 0 0,.bool false])(f:∀l,R2 V vs=some l->∃c,u = .tuple #[c,.bool true]/\B7 (n8 w) w' 3 c l):
  ∃a b,u = .tuple #[a,.bool b]/\(b=false->R2 V vs=none)/\(b=true->∃l,R2 V vs=some l/\B7 (n8 w) w' 3 a l):=by
 cases h:R2 V vs with
 | none=>exact⟨_,_,d h,λ_=>rfl,λh=>(by cases h)⟩
 | some l=>
  obtain⟨a,e,g⟩:=f l h;exact⟨a,true,e,λh=>(by cases h),λ_=>⟨l,rfl,g⟩⟩
section
variable {p:Pg}
def ab9(v O P:Value)(xs ys:List Vx)(w)(hv:SV (n8 w) v p)(hw:C1 p<=1000000)(ah:R (n8 w) O xs)(aj:R (n8 w) P ys)(aF:xs.length<=1000000)(aG:ys.length<=1000000):
  p7 prog 18 #[v,O,P] w λu w'=>(∃ul,u = .tuple #[ul,.int .i64 (P5 p xs ys).2]/\R (n8 w') ul (P5 p xs ys).1/\(P5 p xs ys).1.length<=480000/\o6 w w'):=by
 apply y5 [v,O,P] func18 rfl;obtain⟨c,wa,V,M,B⟩:=L3 hv (n7 _);obtain⟨sp,aa,N,_⟩:=B.pg_v;simp only[eF,simprocAttr,V,N wa (n7 _)];apply z6 (an7 sp p wa aa hw);rintro u w2 ⟨hf,ht,ag⟩;have f:=M.trans ag;cases hR:C8 p
 .obtain rfl:=hf hR;have o:P5 p xs ys=([],1):=by unfold P5;rw[fi hR]
  simp only[eF,simprocAttr,au4];apply Q0 results18;simp only[C9,simprocAttr];rw[o];exact⟨_,rfl,(B7.nil (n8 w2) w2 0).rw_ (n7 _),eE2 _,f⟩
 obtain⟨w1,g,r,ab,vP,x,rfl,af,T,aI,s⟩:=ht hR;rw[be3]at s;have ae:=ah0 (D6 hR) hw;simp only[eF,simprocAttr,au4];apply z6 (aK8 s rfl O xs (A9.mono (b7 f) ah) om);rintro u3 w3 ⟨k,H,q⟩;have m:=f.trans q;obtain⟨a3,b3,rfl,D,d⟩:=em7 k H;have s3:=s.more q;simp only[i4,simprocAttr];apply z6 (aK8 s3 rfl P ys (A9.mono (b7 m) aj) om);rintro u4 Q ⟨l,I,t⟩;have n:=m.trans t;obtain⟨a4,b4,rfl,E,e⟩:=em7 l I;have s4:=s3.more t;have W:(wcC p [] []).V=(b9 p).wv:=rfl;rw[W]at D d E e;clear k H l I;rcases eD2 b3 with q3|q3<;>subst q3;rotate_left
 .have o:P5 p xs ys=([],9):=by
   unfold P5;rw[fh (by rw[hR];simp),D rfl]
  simp only[eF,simprocAttr];apply Q0 results18;simp only[C9,simprocAttr];rw[o];exact⟨_,rfl,(B7.nil (n8 Q) Q 0).rw_ (n7 _),eE2 _,n⟩
 obtain⟨z,S,d⟩:=d rfl;rcases eD2 b4 with q4|q4<;>subst q4;rotate_left
 .have o:P5 p xs ys=([],9):=by
   unfold P5;rw[fh (by rw[hR];simp),E rfl,S]
  simp only[eF,simprocAttr];apply Q0 results18;simp only[C9,simprocAttr];rw[o];exact⟨_,rfl,(B7.nil (n8 Q) Q 0).rw_ (n7 _),eE2 _,n⟩
 obtain⟨A,e4,e⟩:=e rfl;obtain⟨X,aD⟩:=bM3 hR S;obtain⟨Y,aE⟩:=bM3 hR e4;have o:P5 p xs ys=(F3 (b9 p).wv ((b9 p).chopB z A),0):=by
  unfold P5;rw[fh (by rw[hR];simp),S,e4]
 simp only[eF,simprocAttr];apply z6 (aN7 s4 hR hw);rintro _ w5 ⟨x5,C,rfl,s5,J,hC,G⟩;have K:o6 w w5:=M.trans (af.trans s5.ext);have z3:=q.size;have ac:R (n8 w5) a3 z:=((d.ext t).mod G λb U ⟨i,h⟩=>by
  have:=s.lt h;have:=D4 (d.free U);omega).flatR λ_ _=>rfl
 have ad:R (n8 w5) a4 A:=(e.mod G λb U ⟨i,h⟩=>by
  have:=s.lt h;have:=D4 (e.free U);omega).flatR λ_ _=>rfl
 simp only[i4,simprocAttr];apply z6 (dr1 s5 T hR hw J hC ac ad X Y om om);rintro u6 w6 ⟨Z,y⟩;have F:((b9 p).chopB z A).length=(b9 p).wv.length:=bP0;have a:=bB8 (b9 p).wv ((b9 p).chopB z A);simp only[i4,simprocAttr];apply z6 (aG8 (s5.more y) u6 _ (Z.rw_ (b7 y)) F (by show(b9 p).wv.length<=_;omega));rintro u7 w7 ⟨j,L⟩;have j:B7 (n8 w6) w7 27 u7 (F3 (b9 p).wv ((b9 p).chopB z A)):=j;rw[o];rw[F]at a;generalize F3 (b9 p).wv ((b9 p).chopB z A)=LL at j a;simp only[i4,simprocAttr];exact Q0 results18 ⟨u7,rfl,j.rw_ (b7 L),eD7 a ae,(K.trans y).trans L⟩
def aM5(v)(a b:Vx)(w)(hv:SV (n8 w) v p)(hw:C1 p<=1000000):
  p7 prog 19 #[v,.agg (A0.cells a).toArray,.agg (A0.cells b).toArray] w λu w'=>(∃ul,u = .tuple #[ul,.int .i64 (H7 p a b).2]/\R (n8 w') ul (H7 p a b).1/\(H7 p a b).1.length<=480000/\o6 w w'):=by
 apply y5 [v,.agg (A0.cells a).toArray,.agg (A0.cells b).toArray] func19 rfl;obtain⟨c,wa,aN,aT,aj⟩:=af3 (w:=w) (λ_=>False) hv (λ_ h=>h.elim);obtain⟨ca,wb,aK,aw,ag⟩:=aS1 (w:=wa) (λ_=>False) (SV.ofN (n8 wa) a) (λ_ h=>h.elim);obtain⟨cb,wc,aL,Z,ah⟩:=aS1 (w:=wb) (λ_=>False) (SV.ofN (n8 wb) b) (λ_ h=>h.elim);have l1:=(L8.pg_v hv aj).1 wc (A3 (B6 _ _) (b7 (aw.trans Z)));have D:=(aT.trans aw).trans Z;simp only[eF,simprocAttr,aN,aK,aL,l1];apply z6 (an7 v p wc (hv.mono (b7 D)) hw);rintro u w2 ⟨hf,ht,X⟩;have O:=D.trans X;cases hR:C8 p
 .obtain rfl:=hf hR;have F:H7 p a b=([],1):=by unfold H7;rw[fi hR]
  simp only[eF,simprocAttr,au4];apply Q0 results19;simp only[C9,simprocAttr];rw[F];exact⟨_,rfl,(B7.nil (n8 w2) w2 0).rw_ (n7 _),eE2 _,O⟩
 obtain⟨w1,g,r,ab,vP,x,rfl,aS,a8,bd,s⟩:=ht hR;rw[be3]at s;have hr:=D6 hR;have aR:=ah0 hr hw;have h0:=J3 hr.toKnown;have la:=(L8.vx_v (SV.ofN (n8 wa) a) ag).1 w2 (A3 (B6 _ _) (b7 (Z.trans X)));have am:(wcC p [] []).kv=as6 (b9 p).wv:=rfl;simp only[eF,simprocAttr,au4,la];refine B3 (cl9 s a) (λw3 Y=>?_);rw[am,bm6,bt5];have s3:=s.more Y;have lb:=(L8.vx_v (SV.ofN (n8 wb) b) ah).1 w3 (A3 (B6 _ _) (b7 (X.trans Y)));simp only[i4,simprocAttr,lb];refine B3 (cl9 s3 b) (λw4 ar=>?_);rw[am,bm6,bt5];have s4:=s3.more ar;have Q:=(O.trans Y).trans ar;cases hda:decide (a∈(b9 p).wv)
 .have F:H7 p a b=([],9):=by
   unfold H7;rw[fh (by rw[hR];simp),cW5 (eD6 hda)]
  simp only[eF,simprocAttr];apply Q0 results19;simp only[C9,simprocAttr];rw[F];exact⟨_,rfl,(B7.nil (n8 w4) w4 0).rw_ (n7 _),eE2 _,Q⟩
 cases hdb:decide (b∈(b9 p).wv)
 .have F:H7 p a b=([],9):=by
   unfold H7;rw[fh (by rw[hR];simp),cW5 (eD6 hdb),cL1 (eD3 hda)]
  simp only[eF,simprocAttr];apply Q0 results19;simp only[C9,simprocAttr];rw[F];exact⟨_,rfl,(B7.nil (n8 w4) w4 0).rw_ (n7 _),eE2 _,Q⟩
 have F:H7 p a b=(F3 (b9 p).wv ((b9 p).levelB (C5 (b9 p).wv a) (C5 (b9 p).wv b)),0):=by
  unfold H7;rw[fh (by rw[hR];simp),cL1 (eD3 hdb),cL1 (eD3 hda)]
 simp only[eF,simprocAttr];apply z6 (aN7 s4 hR hw);rintro _ w5 ⟨x5,C,rfl,s5,N,hC,_⟩;have aq:o6 w w5:=D.trans (aS.trans s5.ext);have an:=V1 h0 a;have ao:=V1 h0 b;generalize C5 (b9 p).wv a=A at an F;generalize C5 (b9 p).wv b=B at ao F;simp only[i4,simprocAttr];apply z6 (bM8 s5 A an (bh0 hR hw N).2 ar3 (by show(b9 p).wv.length<=_;omega));rintro u6 w6 ⟨i,au⟩;dsimp only[wcC]at i;rw[ax0 hR hw hC E0]at i;have i:B7 (n8 w5) w6 4 u6 ((b9 p).behind A):=i;simp only[i4,simprocAttr];apply z6 (by3 (s5.more au) B ao (bh0 hR hw N).1 ah7 (by show(b9 p).wv.length<=_;omega));rintro u7 w7 ⟨j,av⟩;dsimp only[wcC]at j;rw[af7 hR hw hC E0]at j;have j:B7 (n8 w6) w7 4 u7 ((b9 p).ahead B):=j;have U:((b9 p).behind A).length=(b9 p).wv.length:=by unfold Bk.behind;rw[G5,E0]
 have aJ:((b9 p).ahead B).length=(b9 p).wv.length:=by unfold Bk.ahead;rw[G5,E0]
 have aQ:vlen u6=(b9 p).wv.length:=by rw[i.vlen,U]
 have I:=λv (hv:v<(b9 p).wv.length)=>dl6 (p:=p) (x:=A) (y:=B) hv;have V:((b9 p).levelB A B).length=(b9 p).wv.length:=by simp[Bk.levelB]
 generalize(b9 p).levelB A B=LB at F I V;generalize(b9 p).behind A=XB at i U I;generalize(b9 p).ahead B=XA at j aJ I;simp only[eF,simprocAttr,i.isS,aQ];refine B4 [8,13,14,47] (σ:=Nat×List Bool) (λt f w'=>f 48 = .int .i64 t.1/\t.1<=(b9 p).wv.length/\B7 (n8 w5) w' 4 u6 t.2/\B7 (n8 w6) w' 4 u7 XA/\t.2.length=(b9 p).wv.length/\(∀v,v<(b9 p).wv.length->(A5 t.2 (v:Int)=true↔A5 XB (v:Int)=true/\(v<t.1->A5 XA (v:Int)=true)))/\o6 w5 w') (λt=>(b9 p).wv.length-t.1) (0,XB) ?_ ?_
 .exact⟨rfl,eE2 _,i.ext av,j,U,λv hv=>⟨λh=>⟨h,λh=>om⟩,λh=>h.1⟩,au.trans av⟩
 rintro⟨k,S⟩ f w8 ⟨r8,ac,aU,aV,_⟩ ⟨G,aP,o,W,n,hS,J⟩;simp only at G aP o n hS;simp only[eF,simprocAttr,G,aV];refine A7 (λbb=>?_) ?_;rotate_left
 .rintro rfl;have aI:S=LB:=bO5 (by rw[n,V]) λv hv=>by
   rw[V]at hv;rw[hS v hv,I v hv];exact and_congr_right λ_=>⟨λh=>h hv,λh _=>h⟩
  subst aI;have z:=bB8 (b9 p).wv S;simp only[i4,simprocAttr,r8,ac];apply z6 (aG8 (s5.more J) u6 _ (o.rw_ (b7 J)) n (by show(b9 p).wv.length<=_;omega));rintro u9 w9 ⟨d,E⟩;have d:B7 (n8 w8) w9 27 u9 (F3 (b9 p).wv S):=d;rw[F];rw[n]at z;generalize F3 (b9 p).wv S=LL at d z;simp only[i4,simprocAttr];exact Q0 results19 ⟨u9,rfl,d.rw_ (b7 E),eD7 z aR,(aq.trans J).trans E⟩
 have H:k<S.length:=om
 have T:k<XA.length:=om
 have L:=o.inS H;have al:=W.inS T;have aa:(Instr.loadAt 4 (.pointer (some (I2 u6 k)))).run prog w8 = .ok (.bool S[k]) w8:=E8 (P:=prog) o (eD1 H) ag4;have ax:(Instr.loadAt 4 (.pointer (some (I2 u7 k)))).run prog w8 = .ok (.bool XA[k]) w8:=E8 (P:=prog) W (eD1 T) ag4;have bS:=aS0 H;have bA:=aS0 T;generalize S[k]=sk at aa bS;generalize XA[k]=xk at ax bA;obtain⟨ib,aO,ak⟩:=ay1 (P:=prog) Y5 aK1;obtain⟨w9,K,d,ap,_⟩:=G4 (P:=prog) (t:=4) o rfl H (x:=.bool (sk&&xk)) (y:=(sk&&xk)) rfl rfl aO ak;have E:o6 w5 w9:=o.ext2 J ap;have M:B7 (n8 w6) w9 4 u7 XA:=W.mod ap λb hb h=>by
  have:=i.lt h;have:=D4 (j.free hb);omega
 have aM:∀e:Int,A5 (S.set k (sk&&xk)) e=if e=(k:Int)then(sk&&xk)else A5 S e:=λe=>by
  have:=O2 (l:=S) (a:=(k:Int)) (b:=e) (v:=(sk&&xk)) (C0.2 ⟨om,om⟩);rw[eF4]at this;exact this
 have m:∀v,v<(b9 p).wv.length->(A5 (S.set k (sk&&xk)) (v:Int)=true↔A5 XB (v:Int)=true/\(v<k+1->A5 XA (v:Int)=true)):=λv hv=>by
  rw[aM];by_cases hvk:v=k
  .subst hvk;rw[fi rfl,eF1,<-bS,<-bA,hS v hv];exact⟨λh=>⟨h.1.1,λ_=>h.2⟩,λh=>⟨⟨h.1,λh'=>fj h' (Nat.lt_irrefl _)⟩,h.2 (Nat.lt_succ_self _)⟩⟩
  .rw[fh om,hS v hv];exact and_congr_right λ_=>⟨λh h'=>h om,λh h'=>h om⟩
 rcases eD2 sk with q|q<;>subst q
 .rw[eJ4]at K d m;simp only[i4,n9,A6,simprocAttr,G,ac,aU,L,al,aa,ax,K];exact U5 (k+1,S.set k xk) ⟨d,M,by simp only[eK6];exact n,m,E⟩
 .rw[Bool.false_and]at K d m;simp only[i4,n9,A6,simprocAttr,G,ac,L,aa,K];exact U5 (k+1,S.set k false) ⟨d,M,by simp only[eK6];exact n,m,E⟩
end
end Go.Proofs.YtpebpfiglfmegaaGreat
namespace Go.Proofs
open Go.Shelf
end Go.Proofs
namespace Go.Proofs.YtpebpfiglfmegaaGreat
open Go Tryz List IntKind Region
def ad4(y:Vx)(w):∃u a,(Instr.buildSlice 35 1 #[(0,y)]).run prog w = .ok u a/\R (n8 a) u [y]/\o6 w a:=by
 obtain⟨u,a,c,d,b,_⟩:=lit (P:=prog) (t:=35) (w:=w) (h:=n8 w) (α:=Vx) (xs:=[y]) (ys:=[y]) (parts:=#[(0,y)]) (n:=1) aD8 rfl (aq7 ((A0.iff_ _ _ _).2 (by simp[Value.cells]))) (by simp[Value.cells];rfl) rfl rfl dG dG (n7 _);exact⟨u,a,c,d.rw_ (b7 b),b⟩
def cp0{α:Type}(P:α->Bool){l:List α}{k}(h:k<l.length):(l.take (k+1)).filter P=(l.take k).filter P++(if P l[k]then[l[k]]else[]):=by
 rw[eD9 h,eJ8];cases hp:P l[k]<;>simp[hp]
def Y1(v)(l:List Vx)(x:Vx)(w)(hv:R (n8 w) v l)(X:l.length<=1000000000):
  p7 prog 26 #[v,x] w λu A=>(u=(l.contains x)/\o6 w A):=by
 apply y5 [v,x] func26 rfl;have O:=hv.isS;have Q:=hv.vlen;obtain⟨V,U,C,g,n⟩:=ak4 (SV.ofN (n8 w) x) (n7 _);obtain⟨S,t,_,I⟩:=n.vx_v;obtain rfl:=t.N;simp only[eF,simprocAttr,C,O,Q];refine B4 [0,3,6,7] (σ:=Nat) (λi f A=>f 8=i/\i<=l.length/\(∀j y,j<i->l[j]?=some y->y≠x)/\o6 U A) (λi=>l.length-i) 0 ?_ ?_
 .exact⟨rfl,eE2 _,λj _ h=>om,t8.refl _⟩
 rintro i f k ⟨e0,K,W,N,_⟩ ⟨B,P,q,z⟩;simp only[eF,simprocAttr,B,N];refine A7 (λd=>?_) ?_;rotate_left
 .rintro rfl;simp only[i4,simprocAttr];apply o8 results26;simp only[C9,simprocAttr];refine⟨?_,g.trans z⟩;have:l.contains x=false:=by
   rw[eN8];intro h;obtain⟨j,D⟩:=eM7.1 (eE6.1 h);exact q j x (eD8.1 D).1 D rfl
  rw[this]
 have o:=hv.inS d;have c:=z.trans (o6.drew k);have m:=hv.at_ (i:=i) (x:=l[i]) (eD1 d);have H:A9.sz Vx=4:=rfl;rw[H]at m;obtain⟨Y,F,_,J⟩:=m.vx_v;obtain rfl:=F.N;have L:=J (o6 k.drew) k.drew (t8.refl _) λA h=>b7 (g.trans (c.trans h));have M:=I (o6 k.drew) k.drew (t8.refl _) λA h=>b7 (c.trans h);have s:=λT a b=>bA7 T a b l[i] x;have p:l[i]=x->l.contains x=true:=λe=>eE6.2 (e ▸ eE1 d);have r:l[i]≠x->∀j y,j<i+1->l[j]?=some y->y≠x:=λE j y D G=>by
  rcases eH4 j i with h|h
  .exact q j y h G
  .obtain rfl:j=i:=om
   rw[eD1 d]at G;obtain rfl:=eF3 G;exact E
 rcases eD2 (decide (l[i]=x))with hq|hq
 .simp only[i4,simprocAttr,B];refine C4 (o6 k.drew) 5 (A8 [0,1,2,3,4]) ?_;simp only[D7,A8,i4,n9,A6,simprocAttr,e0,K,o,L,M];simp only[i4,simprocAttr,T8,A0.cells,s,hq];apply o8 results26;simp only[C9,simprocAttr];exact⟨by rw[p (eD3 hq)],g.trans c⟩
 .simp only[i4,simprocAttr,B];refine C4 (o6 k.drew) 5 (A8 [0,1,2,3,4]) ?_;simp only[D7,A8,i4,n9,A6,simprocAttr,e0,K,o,L,M];simp only[eF,simprocAttr,T8,A0.cells,s,hq,B];exact U5 (i+1) ⟨r (eD6 hq),c⟩
def ar4(l:List Vx)(n:Int):Vx:=l.getD (cD8 n l.length).toNat aR0
def aB2{l:List Vx}(h:0<l.length)(n):ar4 l n∈l:=by
 obtain⟨N,b,a⟩:=aP4 n l.length h;unfold ar4;rw[b,eF4,getD,eD1 a];exact eE1 a
def S7(v)(l:List Vx)(n w)(hv:R (n8 w) v l)(t:l.length<=1000000000):
  p7 prog 16 #[v,.int .i64 n] w λu r=>(u = .agg (A0.cells (ar4 l n)).toArray/\o6 w r):=by
 apply y5 [v,n] func16 rfl;obtain⟨m,d,i,a⟩:=dE9 w;have o:=hv.isS;have p:=hv.vlen;rcases eD2 (decide ((l.length:Int)=0))with h0|h0
 .have g:l=[]:=List.length_eq_zero_iff.1 (by have:=eD3 h0;omega);obtain⟨s,j,k,c⟩:=a m aR0 (t8.refl _);simp only[eF,simprocAttr,d,o,p,h0,bz7,j];refine R4 results16 (ad:=⟨w.heap.size,0,none⟩) (by simp only[C9,simprocAttr]) k ?_;refine⟨?_,c⟩;subst g;rfl
 have e:0<l.length:=by have:=eD6 h0;omega
 obtain⟨N,hN,b⟩:=aP4 n l.length e;have f:=hv.inS b;have h:=bt7 hv (b7 i) (eD1 b);obtain⟨s,j,k,c⟩:=a m l[N] (t8.refl _);have q:ar4 l n=l[N]:=by
  unfold ar4;rw[hN,eF4,getD,eD1 b];rfl
 simp only[eF,simprocAttr,d,o,p,h0];apply F6 (bM1 n l.length m om);rw[hN];simp only[i4,n9,A6,simprocAttr,f,h,j];refine R4 results16 (ad:=⟨w.heap.size,0,none⟩) (by simp only[C9,simprocAttr]) k ?_;exact⟨by rw[q],c⟩
def ah8(va vb)(g j:List Vx)(w)(p:R (n8 w) va g)(hb:R (n8 w) vb j)(L:g.length<=1000000000)(B:j.length<=1000000000):
  p7 prog 25 #[va,vb] w λu E=>(u=(g.all λx=>j.contains x)/\o6 w E):=by
 apply y5 [va,vb] func25 rfl;simp only[eF,simprocAttr,p.isS,p.vlen];refine B4 [1,7,8] (σ:=Nat) (λk f E=>f 9=k/\k<=g.length/\(∀x∈g.take k,x∈j)/\o6 w E) (λk=>g.length-k) 0 ?_ ?_
 .exact⟨rfl,eE2 _,λx h=>(by simp at h),t8.refl _⟩
 rintro k f F ⟨H,I,J,_⟩ ⟨r,K,a,i⟩;simp only[eF,simprocAttr,r,J];refine A7 (λe=>?_) ?_;rotate_left
 .rintro rfl;rw[eE4]at a;simp only[i4,simprocAttr];apply o8 results25;simp only[C9,simprocAttr];refine⟨?_,i⟩;rw[eJ1.2 λx q=>eE6.2 (a x q)]
 have A:=p.inS e;obtain⟨M,m,l⟩:=G1 (P:=prog) (t:=27) p (b7 i) (eD1 e) aB7 aB8 av4 R3;rw[R3]at l;have n:=eD9 e;have hm:=eE1 e;generalize g[k]=y at m n hm;obtain rfl:=m.N;obtain⟨d,O,G,s,C,D,v⟩:=aF4 (w:=F) (λ_=>False) (SV.ofN (n8 F) y) λb hb=>hb.elim;have c:=i.trans D;simp only[i4,n9,A6,simprocAttr,r,H,I,A,l,s,C,(L8.vx_v (SV.ofN (n8 F) y) v).1 G (B6 _ _)];refine B3 (Y1 vb j y G (A9.mono (b7 c) hb) B) (λN o=>?_);rcases eD2 (j.contains y)with hq|hq
 .simp only[eF,simprocAttr,hq,r];refine U5 (k+1) ⟨λx q=>?_,c.trans o⟩;rw[n]at q;rcases eE0.1 q with h|h
  .exact a x h
  .simp only[eE7]at h;subst h;exact eE6.1 hq
 .simp only[eF,simprocAttr,hq];apply o8 results25;simp only[C9,simprocAttr];refine⟨?_,c.trans o⟩;have z:(g.all λx=>j.contains x)=false:=eN8.2 λh=>by
   have:=eJ1.1 h y hm;rw[hq]at this;cases this
  rw[z]
def dg7(q:B9)(k d)(s:B9):D0 prog 27 [(0,A4 q),(1,.int .i64 k),(2,.int .i64 d),(3,A4 s)]=some (.agg (A0.cells (⟨q,k,d,s⟩:Vx)).toArray):=by
 have h:A0.cells (⟨q,k,d,s⟩:Vx)=[A4 q,.int .i64 k,.int .i64 d,A4 s]:=rfl;rw[h];simp[D0,bJ9,M2,Instr.fill,Value.cells,A4]
def aA1(w):p7 prog 11 #[] w λu b=>(u = .bool true/\o6 w b):=by
 apply y5 [] func11 rfl;have N:Value.string {data:=#[109,97,105,110]}=A4 H9:=rfl;have Q:Value.string {data:=#[121]}=A4 sY:=rfl;obtain⟨c1,c2,c3⟩:(P5 ac9 [V9] [ag0]).2=0/\(P5 ac9 [V9] [ag0]).1.length=7/\(P5 ac9 [V9] [ag0]).1[0]?=some V9:=by
  have h:=do8;simp only[Prod.mk.injEq]at h;exact h
 obtain⟨m1,m2,m3⟩:(H7 ac9 V9 ag0).2=0/\(H7 ac9 V9 ag0).1.length=4/\(H7 ac9 V9 ag0).1[3]?=some ⟨H9,6,2,sY⟩:=by
  have h:=cS9;simp only[Prod.mk.injEq]at h;exact h
 simp only[i4,simprocAttr];apply z6 (cw1 w);rintro u w1 ⟨hu,T⟩;obtain⟨d,wz,w2,H,O,U,I⟩:=dd2 hu (n7 _);obtain⟨sp,r,D,aA⟩:=I.pg_v;have J:D0 prog 27 [(0,A4 H9),(1,.int .i64 2),(2,.int .i64 1)]=some (.agg (A0.cells V9).toArray):=bz8 H9 2 1;have L:D0 prog 27 [(0,A4 H9),(1,.int .i64 2),(2,.int .i64 3)]=some (.agg (A0.cells ag0).toArray):=bz8 H9 2 3;have M:=dg7 H9 6 2 sY;obtain⟨dv,dw,aI,wa,wb,Z,n,o,s,t,e,p,q⟩:=vx2 V9 ag0 w2;obtain⟨uV,hV,B,Y⟩:=p.vx_v;obtain rfl:=hV.N;obtain⟨uW,hW,C,_⟩:=q.vx_v;obtain rfl:=hW.N;obtain⟨u4,w4,q4,r4,v⟩:=ad4 V9 Z;obtain⟨u5,w5,q5,r5,z⟩:=ad4 ag0 w4;have j:=v.trans z;simp only[i4,simprocAttr,H,O,N,J,L,n,o,s,t,D Z (b7 e),B Z (n7 _),q4,C w4 (b7 v),q5];apply z6 (ab9 sp u4 u5 [V9] [ag0] w5 (r.mono (b7 (e.trans j))) bx0 (A9.mono (b7 z) r4) r5 dG dG);rintro _ G ⟨ul,rfl,rl,nl,V⟩;have a:=j.trans V;rw[c1];simp only[i4,simprocAttr,D G (b7 (e.trans a)),B G (b7 a),C G (b7 a)];apply z6 (aM5 sp V9 ag0 G (r.mono (b7 (e.trans a))) bx0);rintro _ c ⟨um,rfl,rm,nm,A⟩;rw[m1];have l:=(a.trans A).trans (o6.drew c);have g:R (n8 c.drew) ul (P5 ac9 [V9] [ag0]).1:=A9.mono (b7 (A.trans (o6.drew c))) rl;have i:R (n8 c.drew) um (H7 ac9 V9 ag0).1:=A9.mono (b7 (o6.drew c)) rm;have E:=g.vlen;have F:=i.vlen;have W:=g.inS (k:=0) om;have X:=i.inS (k:=3) om;rw[c2]at E;rw[m2]at F;have t1:=Y (o6 c.drew) c.drew (t8.refl _) λb h=>b7 (l.trans h);have t2:J4 prog (λb=>o6 c.drew b) 27 (I2 ul 0) (.agg (A0.cells V9).toArray):=sdx λb h=>bt7 g (b7 h) c3;have t3:J4 prog (λb=>o6 c.drew b) 27 (I2 um 12) (.agg (A0.cells (⟨H9,6,2,sY⟩:Vx)).toArray):=sdx λb h=>bt7 i (b7 h) m3;have t4:=λ(x y:Operand) K f d m=>L5 (P:=prog) (S:=λb=>o6 c.drew b) (K:=K) (f:=f) (d:=d) (w:=m) (w0:=c.drew) (t8.refl _) λb h=>bA7 b x y V9 V9;have t5:=λ(x y:Operand) K f d m=>L5 (P:=prog) (S:=λb=>o6 c.drew b) (K:=K) (f:=f) (d:=d) (w:=m) (w0:=c.drew) (t8.refl _) λb h=>bA7 b x y (⟨H9,6,2,sY⟩:Vx) ⟨H9,6,2,sY⟩;have d4:decide (V9=V9)=true:=eG9 rfl;have d5:decide ((⟨H9,6,2,sY⟩:Vx)=⟨H9,6,2,sY⟩)=true:=eG9 rfl;rw[d4]at t4;rw[d5]at t5;simp only[i4,simprocAttr];refine C4 (o6 c.drew) 31 (A8 [0,1,2,3,4,5,6,7,8,9,10,11,12,13,14,15,16,17,18,19,20,21,22,23,24,25,26,27,28,29,30]) ?_;simp only[D7,A8,i4,n9,A6,simprocAttr,t1,t2,t3,g.isS,E,i.isS,F,W,X,Q,M,T8,A0.cells,t4,t5];exact o8 results11 ⟨rfl,((T.trans U).trans e).trans l⟩
def aL7{p}(v m w)(hv:SV (n8 w) v p)(hw:C1 p<=1000000):
  p7 prog 20 #[v,.int .i64 m] w λu l=>(u = .bool (C8 p&&decide (((bi8 p:Nat):Int)<=m))/\o6 w l):=by
 apply y5 [v,m] func20 rfl;obtain⟨c,k,g,f,d⟩:=L3 hv (n7 _);obtain⟨i,e,b,_⟩:=d.pg_v;simp only[eF,simprocAttr,g,b k (n7 _)];refine B3 (ak3 i p k e hw) (λj a=>?_);cases hR:C8 p
 .simp only[i4,simprocAttr];exact o8 results20 ⟨rfl,f.trans a⟩
 simp only[eF,simprocAttr,b j (b7 a)];refine B3 (cc2 i p j (e.mono (b7 a)) hw) (λn h=>?_);simp only[eF,simprocAttr];exact o8 results20 ⟨rfl,(f.trans a).trans h⟩
end Go.Proofs.YtpebpfiglfmegaaGreat

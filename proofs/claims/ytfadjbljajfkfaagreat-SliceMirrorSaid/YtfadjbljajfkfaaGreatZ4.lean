/- sliceMirror.proved: for every input the law returns true. No condition. Part 4 of 7. -/
import Derived.Test.YtfadjbljajfkfaaGreatZ3
set_option maxRecDepth 1000000
set_option maxHeartbeats 8000000
set_option linter.unusedVariables false
set_option linter.unusedSimpArgs false
set_option linter.unnecessarySimpa false
set_option linter.defProp false
namespace Go.Proofs.YtfadjbljajfkfaaGreat
open Go Tryz
def J7:=zJ (zJ (zJ (zJ (zJ (zJ @bn7 @dC4) (zJ @dB7 @ds5)) (zJ (zJ @dC0 @dF9) (zJ @dB8 (zJ @dB9 @dG0)))) (zJ (zJ (zJ @dF6 @dz6) (zJ @dF7 (zJ @dF8 @dt6))) (zJ (zJ @dq9 @dt7) (zJ @dt8 (zJ @dE3 @dE2))))) (zJ (zJ (zJ (zJ @dG3 @dK3) (zJ @dK8 (zJ @ds3 @dF2))) (zJ (zJ @ds4 @dF3) (zJ @dI5 (zJ @dK7 @dd0)))) (zJ (zJ (zJ @dx8 @dd1) (zJ @dx9 (zJ @dy0 @dn8))) (zJ (zJ @di4 @di3) (zJ @dx7 (zJ @dI7 @dI6)))))) (zJ (zJ (zJ (zJ (zJ @dn7 @dI9) (zJ @dI8 (zJ @dF0 @cW7))) (zJ (zJ @dw9 @dI0) (zJ @dc8 (zJ @dr9 @dn3)))) (zJ (zJ (zJ @dH5 @dI1) (zJ @dr8 (zJ @dE9 @dx1))) (zJ (zJ @dE8 @ev.eq_1) (zJ @ev.eq_2 (zJ @ev.eq_3 @ev.eq_4))))) (zJ (zJ (zJ (zJ @C4.eq_1 @C4.eq_2) (zJ @dK1 (zJ @dI2 @dF4))) (zJ (zJ @dF5 @List.map_cons.{0,0}) (zJ @List.map_nil.{0,0} (zJ @List.map_toArray.{0,0} @bQ9.eq_1)))) (zJ (zJ (zJ @bQ9.eq_2 @dr5) (zJ @cL6.eq_1 (zJ @List.getElem?_toArray.{0} @List.getElem?_cons_zero.{0}))) (zJ (zJ @List.getElem?_cons_succ.{0} @Option.bind_some.{0,0}) (zJ @Option.some.injEq.{0} (zJ @dS7 @Bool.true_eq_false))))))
def zVB:=zJ (zJ (zJ (zJ @Option.map_some.{0,0} (zJ @Option.map_none.{0,0} @Int.toNat_zero)) (zJ (zJ @Option.isNone_none.{0} @Option.isNone_some.{0}) (zJ @L7 @bL3.eq_1))) (zJ (zJ @bL3.eq_2 (zJ @cZ3.eq_1 @bg9.eq_1)) (zJ (zJ @bg9.eq_2 @cO4.eq_1) (zJ @cO2.eq_1 @TY)))) (zJ (zJ (zJ @Option.isSome_some.{0} (zJ @dT7 @Bool.and_true)) (zJ (zJ @dT8 @dP0) (zJ @dH2 @Int.cast_ofNat_Int))) (zJ (zJ @decide_true (zJ @add_lit @dQ2)) (zJ (zJ @Nat.zero_mul @Nat.one_mul) (zJ @Bool.not_true @Bool.not_false))))
def bf9{a:List W}{i:Nat}(h:i<a.length):a[i]?=some (a.getD i 0#64):=by simp[List.getD,h]
def do1:F4 prog 332 167 1 8=true:=by kernel_rfl
def dd4(h:Hp)(v:Value)(a:List W)(f:Nat)(w:World)(j:A8 h w 167 v a)(l:f / 64<a.length)(m:f<1000000000000):
  p7 prog 283 #[v,.int .i64 f] w λu r=>(u = .bool (!Q8 a f)/\A8 h r 167 v (cD1 a f)/\o9 (A3 v) w r):=by
 refine p9 [v,.int .i64 f] func283 rfl ?_;have b:=j.inS l;have o:=bf9 l;have d:=D3 (P:=prog) (t:=167) j o an2;simp only[I4.val]at d;have p:=bK0 (P:=prog) (t:=3) f m;have q:=cI9 (P:=prog) (t:=3) f;have hm:f % 64<64:=Nat.mod_lt _ (by decide);have g:Q8 a f=(a.getD (f / 64) 0#64).getLsbD (f % 64):=rfl;have n:cD1 a f=a.set (f / 64) (a.getD (f / 64) 0#64 ||| (1#64 <<< (f % 64))):=rfl;rw[g,n];generalize f / 64=i at *;generalize f % 64=k at *;generalize a.getD i 0#64=x at *;have z:=cJ0 (P:=prog) (t:=167) x k hm;have A:=cI7 (P:=prog) (t:=167) x k;have B:=dl4 (P:=prog) (t:=167) (x.getLsbD k);have C:=dl7 (P:=prog) (t:=167) k hm;have D:=cI8 (P:=prog) (t:=167) x (1#64 <<< k);have c:=o7.drew w;obtain⟨I,E,F,G,H⟩:=E4 (P:=prog) (t:=167) (j.ext c) rfl (k:=i) l (x:=.int .u64 (((x ||| 1#64 <<< k).toNat:Nat):Int)) (y:=(x ||| 1#64 <<< k)) rfl rfl (z7 aE2).choose_spec.1 (by rw[<-D9 (z7 aE2).choose_spec.1];exact bP3);simp only[J7,zVB,y0,simprocAttr,p,q,z,A,B,b,d];refine C0 (λs=>s=w.drew) 8 (A5 [0,1,2,3,4,5,6,7]) ?_;simp only[D6,A5,J7,zVB,y0,simprocAttr,p,b];refine⟨.int .u64 (x.toNat:Nat),λs e=>by subst e;exact D3 (j.ext c) o an2,?_⟩;simp only[D6,J7,zVB,y0,simprocAttr,q,C,D,b,E];exact o8 results283 ⟨rfl,F,(c.weaken λ_ _ h=>h.elim).trans G⟩
def ac5(a:List W)(k:Nat):List Int:=((List.range k).filter (Q8 a)).map λ(i:Nat)=>(i:Int)
def ch7(a:List W)(k:Nat):ac5 a (k+1)=if Q8 a k then ac5 a k++[(k:Int)]else ac5 a k:=by
 unfold ac5;rw[dW7,dS4,dP6];cases h:Q8 a k<;>simp[h]
def cB4(a:List W)(k:Nat):(ac5 a k).length<=k:=by
 unfold ac5;rw[dN4];exact dN1 (dP3 _ _) (by simp)
def cO1(v:Value)(a:List W)(most:Nat)(w:World)(hv:R (i4 w) v a)(I:most<=1000000)(H:∀f,f<most->f / 64<a.length):
  p7 prog 287 #[v,.int .i64 most] w λu d=>(A8 (i4 w) d 3 u (ac5 a most)/\o7 w d):=by
 refine p9 [v,.int .i64 most] func287 rfl ?_;simp only[L4,O5,simprocAttr];refine n9 [0,1] (σ:=Nat) (λk f d=>f 6 = .int .i64 k/\k<=most/\A8 (i4 w) d 3 (f 5) (ac5 a k)/\o7 w d) (λk=>most-k) 0 ?_ ?_
 ·simp only[p8,simprocAttr];exact⟨by first|rfl|trivial,dN6 _,A8.nil _ _ _,o9.refl _⟩
 ·rintro k f d z ⟨m,G,n,l⟩;simp only[dM6,p8,simprocAttr]at z;obtain⟨e0,E,_⟩:=z;simp only[L4,B4,E5,simprocAttr,m,E];refine n7 (λo=>?_) (λo=>?_)
  ·have r:k<most:=by simpa using o
   have h:=H k r;have q:=hv.inS h;have F:=bf9 h;have j:=M4 (P:=prog) (t:=167) hv (b7 l) F an2;simp only[I4.val]at j;have L:=bK0 (P:=prog) (t:=3) k (by omega);have M:=cI9 (P:=prog) (t:=3) k;have s:k % 64<64:=Nat.mod_lt _ (by decide);have g:Q8 a k=(a.getD (k / 64) 0#64).getLsbD (k % 64):=rfl;have c:=ch7 a k;rw[g]at c;generalize k / 64=i at *;generalize k % 64=b at *;generalize a.getD i 0#64=x at *;have N:=cJ0 (P:=prog) (t:=167) x b s;have O:=cI7 (P:=prog) (t:=167) x b;have Q:=dl5 (P:=prog) (t:=167) (x.getLsbD b);have D:B4 prog .add 3 (.int .i64 k) (.int .i64 1)=some (.int .i64 ((k+1:Nat):Int)):=by
    simp only[B4,E5,dS6];rw[B0 k (by omega)]
   generalize x.getLsbD b=t at *;simp only[J7,zVB,y0,simprocAttr,L,M,N,O,Q,q,j,e0,m];cases t
   ·simp only[J7,simprocAttr,m,D];refine⟨k+1,by omega,by trivial,by omega,?_,l⟩;rw[c,if_neg (by simp)];exact n
   ·have A:=cB4 a k;obtain⟨B,T,U,C,J,K,S⟩:=push (e:=24) U2 rfl n (x:=.int .i64 k) (y:=(k:Int)) rfl (by omega) (by omega) (b7 l);simp only[Value.cells]at B C;simp only[J7,simprocAttr,m,D,B,C];refine⟨k+1,by omega,by trivial,by omega,?_,n.ext2 l K⟩;rw[c,if_pos rfl];exact J
  ·have p:k=most:=by simp at o;omega
   subst p;simp only[L4,simprocAttr];exact o8 results287 ⟨n,l⟩
def aE5(b c:List W)(k:Nat):List W:=(orB b c).take k++b.drop k
def cg7(b c:List W):aE5 b c 0=b:=by simp[aE5]
def cA1{b c:List W}(a:b.length=c.length):aE5 b c b.length=orB b c:=by
 unfold aE5;rw[dV9,dP8,dQ9];rw[bN1 a];exact dO0 _
def cA2{b c:List W}(a:b.length=c.length)(k:Nat):(aE5 b c k).length=b.length:=by
 simp[aE5,orB,a];omega
def cL7{b c:List W}(a:b.length=c.length){k:Nat}(d:k<b.length):(aE5 b c k)[k]?=some (b.getD k 0#64):=by
 unfold aE5;rw[dR4 (by simp[orB,a];omega)];have:k-((orB b c).take k).length=0:=by simp[orB,a];omega
 rw[this,dW6];simp[List.getD,d]
def cg6{b c:List W}(g:b.length=c.length){k:Nat}(f:k<b.length):(aE5 b c k).set k (b.getD k 0#64 ||| c.getD k 0#64)=aE5 b c (k+1):=by
 have e:(orB b c).length=b.length:=bN1 g;apply dZ5;intro i;rw[List.getElem?_set];unfold aE5;have a:((orB b c).take k).length=k:=by rw[dN9,e];omega
 have d:((orB b c).take (k+1)).length=k+1:=by rw[dN9,e];omega
 by_cases h1:k=i
 ·subst h1;rw[if_pos rfl,if_pos (by rw[dM7,a,dU8];omega),dR6 (by rw[d];omega),List.getElem?_take_of_lt (by omega),dM4 (by rw[e];exact f)];unfold orB;rw[List.getElem_zipWith];simp[List.getD,f,show k<c.length by omega]
 ·rw[if_neg h1];by_cases h2:i<k
  ·rw[dR6 (by rw[a];exact h2),dR6 (by rw[d];omega),List.getElem?_take_of_lt h2,List.getElem?_take_of_lt (by omega)]
  ·rw[dR4 (by rw[a];omega),dR4 (by rw[d];omega),a,d,dW6,dW6]
   congr 1;omega
def ci3{b c:List W}(d:b.length=c.length){k:Nat}(a:k<b.length):ai6 (b.take (k+1)) (c.take (k+1))=(ai6 (b.take k) (c.take k)||((c.getD k 0#64 &&& ~~~(b.getD k 0#64):W) != 0#64)):=by
 unfold ai6;rw[dN3 a,dN3 (show k<c.length by omega),List.zipWith_append (by simp;omega),List.any_append];simp[List.getD,a,show k<c.length by omega]
def cN1(h:Hp)(v u:Value)(b c:List W)(w:World)(H:A8 h w 167 v b)(hw:B5 h (i4 w))(I:R h u c)(A:b.length=c.length)(U:b.length<=1000000):
  p7 prog 286 #[v,u] w λr a=>(r = .bool (ai6 b c)/\A8 h a 167 v (orB b c)/\o9 (A3 v) w a):=by
 refine p9 [v,u] func286 rfl ?_;have hS:=H.isS;have N:=H.vlen;simp only[L4,O5,N7,simprocAttr,hS,N];refine n9 [0,1,6,7] (σ:=Nat) (λk f a=>f 8 = .int .i64 k/\k<=b.length/\f 4 = .bool (ai6 (b.take k) (c.take k))/\A8 h a 167 v (aE5 b c k)/\o9 (A3 v) w a) (λk=>b.length-k) 0 ?_ ?_
 ·simp only[p8,simprocAttr];exact⟨by first|rfl|trivial,dN6 _,by simp[ai6],by rw[cg7];exact H,o9.refl _⟩
 ·rintro k f a T ⟨B,ad,G,l,Q⟩;simp only[dM6,p8,simprocAttr]at T;obtain⟨e0,J,e6,Z,_⟩:=T;simp only[L4,B4,E5,simprocAttr,B,Z];refine n7 (λK=>?_) (λK=>?_)
  ·have q:k<b.length:=by simpa using K
   have ac:=cA2 A k;have g:=l.inS (k:=k) (by omega);have i:=I.inS (k:=k) (by omega);have o:=cL7 A q;have p:=bf9 (show k<c.length by omega);have s:=cg6 A q;have C:=ci3 A q;generalize b.getD k 0#64=x at *;generalize c.getD k 0#64=y at *;have O:B5 h (i4 a):=H5 hw Q λb hb=>H.free hb;have L:=o7.drew a;have n:=o7.drew a.drew;have E:B5 h (i4 a.drew):=t8 O (b7 L);have m:B5 h (i4 a.drew.drew):=t8 E (b7 n);have D:=l.ext L;have j:=D.ext n;have q1:=bB7 (P:=prog) (t:=167) y x;have q2:=dl6 (P:=prog) (t:=167) (y &&& ~~~x);have V:=cI8 (P:=prog) (t:=167) x y;have X:B4 prog .add 3 (.int .i64 k) (.int .i64 1)=some (.int .i64 ((k+1:Nat):Int)):=by
    simp only[B4,E5,dS6];rw[B0 k (by omega)]
   generalize hz:(y &&& ~~~x != 0#64)=z at *;obtain⟨w2,Y,S,s3,s4⟩:=E4 (P:=prog) (t:=167) j rfl (k:=k) (by omega) (x:=.int .u64 (((x ||| y).toNat:Nat):Int)) (y:=(x ||| y)) rfl rfl (z7 aE2).choose_spec.1 (by rw[<-D9 (z7 aE2).choose_spec.1];exact bP3);rw[s]at S;have F:o9 (A3 v) w w2:=(Q.trans ((L.trans n).weaken λ_ _ h=>h.elim)).trans s3;generalize ae:ai6 (b.take k) (c.take k)=m0 at *;cases m0
   ·simp only[J7,simprocAttr,B];refine C0 (λd=>d=a.drew) 10 (A5 [0,1,2,3,4,5,6,7,8,9]) ?_;simp only[D6,A5,J7,zVB,y0,simprocAttr,G,J,i];refine⟨.int .u64 (y.toNat:Nat),λd e=>by subst e;exact M4 (P:=prog) (t:=167) I E p an2,?_⟩;simp only[D6,J7,zVB,y0,simprocAttr,e0,g];refine⟨.int .u64 (x.toNat:Nat),λd e=>by subst e;exact D3 D o an2,?_⟩;simp only[D6,J7,simprocAttr,q1,q2];refine C0 (λd=>d=a.drew.drew) 8 (A5 [0,1,2,3,4,5,6,7]) ?_;simp only[D6,A5,J7,zVB,y0,simprocAttr,e0,g];refine⟨.int .u64 (x.toNat:Nat),λd e=>by subst e;exact D3 j o an2,?_⟩;simp only[D6,J7,zVB,y0,simprocAttr,J,i];refine⟨.int .u64 (y.toNat:Nat),λd e=>by subst e;exact M4 (P:=prog) (t:=167) I m p an2,?_⟩;simp only[D6,J7,zVB,y0,simprocAttr,V,g,Y,B,X];exact⟨k+1,by omega,by trivial,by omega,by rw[C];simp,S,F⟩
   ·simp only[J7,simprocAttr,B];refine C0 (λd=>d=a.drew) 10 (A5 [0,1,2,3,4,5,6,7,8,9]) ?_;simp only[D6,A5,J7,simprocAttr,G];refine C0 (λd=>d=a.drew.drew) 8 (A5 [0,1,2,3,4,5,6,7]) ?_;simp only[D6,A5,J7,zVB,y0,simprocAttr,e0,g];refine⟨.int .u64 (x.toNat:Nat),λd e=>by subst e;exact D3 j o an2,?_⟩;simp only[D6,J7,zVB,y0,simprocAttr,J,i];refine⟨.int .u64 (y.toNat:Nat),λd e=>by subst e;exact M4 (P:=prog) (t:=167) I m p an2,?_⟩;simp only[D6,J7,zVB,y0,simprocAttr,V,g,Y,B,X];exact⟨k+1,by omega,by trivial,by omega,by rw[C];simp,S,F⟩
  ·have M:k=b.length:=by simp at K;omega
   subst M;rw[cA1 A]at l;rw[dN8,A,dN8]at G;simp only[L4,simprocAttr,G];exact o8 results286 ⟨rfl,l,Q⟩
def dT3:=@List.getElem?_set_self
def dj2:F4 prog 314 332 1 24=true:=by kernel_rfl
def I6.put{P:Program}{α:Type}[A4 α]{h:Hp}{w a:World}{T T' t:TypeId}{v:Value}{us:List U1}{f:List (List α)}(m:I6 h w T T' v us f){i:Nat}{u:U1}(j:us[i]?=some u){u':Value}{xs:List α}
  (hm:o9 (A3 u.v) w a) (o:A8 h a T' u' xs) (hv:F0 w u.v u') {e:TypeInfo} (d:P.info? t=some e) (r:e.size=1) :
  ∃c,(Instr.storeAt t (.pointer (some (G4 v i))) u').run P a = .ok () c/\I6 h c T T' v (us.set i ⟨u'⟩) (f.set i xs)/\o9 (A3 v) a c/\c.heap.size=a.heap.size:=by
 have n:=o.isS;have k:i<us.length:=(dM9.1 j).1;have l:A8 h a T v us:=m.outer.mod hm λb q g=>m.off i u j b g q;obtain⟨c,s,z,p,A⟩:=E4 (P:=P) (t:=t) l rfl k (x:=u') (y:=(⟨u'⟩:U1)) ⟨rfl,X8 n⟩ (E3 n) d r;exact⟨c,s,m.set j hm o hv p z,p,A⟩
def af5{α:Type}[A4 α]{h:Hp}{w:World}{T T':TypeId}{v:Value}{n:Nat}(e:A8 h w T v (List.replicate n C8)):I6 h w T T' v (List.replicate n C8) (List.replicate n ([]:List α)):=by
 have d:∀(i:Nat) (u:U1),(List.replicate n C8)[i]?=some u->u=C8:=λi u a=>dT2 (dO4 a);refine⟨e,by simp,λi u k a f=>?_,λi j u g _ a _ b c=>?_,λi u a b c=>?_⟩
 ·rw[d i u a,dT2 (dO4 f)];exact A8.nil _ _ _
 ·rw[d i u a]at c;exact absurd c D1
 ·rw[d i u a]at c;exact absurd c D1
def dt0(most:Nat)(x:List Int)(b:List W):Prop:=b.length=most / 64+1/\∀f:Nat,Q8 b f=true↔(f:Int)∈x
def aU6(l:List (List Int))(most:Nat):Prop:=∀x∈l,∀f∈x,0<=f/\f<most
def cG7(most:Nat)(l:List (List Int))(a:List (List W)):Prop:=a.length=l.length/\∀(i:Nat) (x:List Int),l[i]?=some x->∃b,a[i]?=some b/\dt0 most x b
def bZ9(v:Value)(l:List (List Int))(most:Nat)(w:World)(hv:R (i4 w) v l)(bb:most<=1000000)(hl:l.length<=1000000)(aK:∀x∈l,x.length<=1000000000):
  p7 prog 262 #[v,.int .i64 most] w λu K=>((∃ub ok,u = .tuple #[ub,.bool ok]/\(ok=true->aU6 l most/\∃m,R (i4 K) ub m/\cG7 most l m)/\(ok=false->¬aU6 l most))/\o7 w K):=by
 refine p9 [v,.int .i64 most] func262 rfl ?_;have hS:=hv.isS;have aQ:=hv.vlen;have hz:A4.enc (i4 w) (Value.slice none 0 0).cells.toList C8:=⟨rfl,rfl⟩;obtain⟨u0,w0,aL,aN,aR,a8,_⟩:=mk (P:=prog) (w:=w) (h:=i4 w) dj2 bf6 (α:=U1) (y:=C8) hz (n:=l.length) (by omega) (by omega) (i5 _);have N:I6 (i4 w) w0 332 167 u0 (List.replicate l.length C8) (List.replicate l.length ([]:List W)):=af5 aN;simp only[L4,O5,N7,simprocAttr,hS,aQ,aL];refine n9 [0,1,6,14,15] (σ:=Nat) (λi f K=>f 16 = .int .i64 i/\i<=l.length/\(∃us m,I6 (i4 w) K 332 167 u0 us m/\m.length=l.length/\(∀(j:Nat) (x:List Int),j<i->l[j]?=some x->((∃b,m[j]?=some b/\dt0 most x b)/\∀f∈x,0<=f/\f<most)))/\o7 w K) (λi=>l.length-i) 0 ?_ ?_
 ·simp only[p8,simprocAttr];exact⟨by first|rfl|trivial,dN6 _,⟨_,_,N,by simp,λj x L=>by omega⟩,aR⟩
 ·rintro i f K hk ⟨V,a9,⟨us,m,d,X,B⟩,hx⟩;simp only[dM6,p8,simprocAttr]at hk;obtain⟨e0,e1,e6,ae,af,_⟩:=hk;simp only[L4,B4,E5,simprocAttr,V,af];refine n7 (λY=>?_) (λY=>?_)
  ·have s:i<l.length:=by simpa using Y
   have aJ:=hv.inS s;obtain⟨ux,H,aH⟩:=hv.row (dM4 s);have ap:=H7 (P:=prog) (t:=24) aH (b7 hx) ad0;have p:l[i]∈l:=dN5 s;have U:l[i]?=some l[i]:=dM4 s;generalize l[i]=x at H p U;have bc:=aK x p;have aE:=H.isS;have aM:=H.vlen;have q1:=bK0 (P:=prog) (t:=3) most (by omega);have q2:B4 prog .add 3 (.int .i64 ((most / 64:Nat):Int)) (.int .i64 1)=some (.int .i64 ((most / 64+1:Nat):Int)):=by
    simp only[B4,E5,dS6];rw[B0 _ (by omega)]
   obtain⟨ur,w1,au,aO,ax,aI,_⟩:=mk (P:=prog) (w:=K) (h:=i4 w) do1 aE2 (α:=W) (y:=0#64) rfl (n:=most / 64+1) (by omega) (by omega) (b7 hx);have a2:us.length=l.length:=by rw[d.len,X]
   have aw:us[i]?=some (us[i]'(by omega)):=dM4 _;generalize us[i]'(by omega)=u at aw;obtain⟨w2,s1,s2,s3,s4⟩:=d.put (P:=prog) (t:=332) aw (ax.weaken λ_ _ h=>h.elim) aO (λb hb=>.inr (aI b hb)) (z7 bf6).choose_spec.1 (by rw[<-D9 (z7 bf6).choose_spec.1];exact cm2);have aS:o7 w w2:=o9.ext_of (hx.trans ax) s3 λb hb=>by
    have:=d.outer.free hb;exact dZ9 λs=>by simp[i4,s]at this
   have am:=d.outer.inS (k:=i) (by omega);have o:(us.set i ⟨ur⟩)[i]?=some (⟨ur⟩:U1):=dT3 (by omega);generalize a1:us.set i ⟨ur⟩=aA at *;generalize ar:most / 64=ay at *;simp only[J7,zVB,y0,N7,simprocAttr,V,ae,e6,e1,aJ,ap,q1,q2,au,am,s1,aE,aM];refine n9 [0,1,6,7,14,15,16,28,29] (σ:=Nat) (λk f K=>f 30 = .int .i64 k/\k<=x.length/\(∃g b,I6 (i4 w) K 332 167 u0 aA g/\g.length=l.length/\(∀j:Nat,j≠i->g[j]?=m[j]?)/\g[i]?=some b/\b.length=ay+1/\(∀f:Nat,Q8 b f=true↔(f:Int)∈x.take k)/\∀f∈x.take k,0<=f/\f<most)/\o7 w K) (λk=>x.length-k) 0 ?_ ?_
   ·simp only[p8,simprocAttr];refine⟨by first|rfl|trivial,dN6 _,⟨_,List.replicate (ay+1) 0#64,s2,by simp[X],λj L=>dU7 (λe=>L e.symm),dT3 (by omega),by simp,λf=>by rw[bU9];simp,by simp⟩,aS⟩
   ·rintro k f w3 hk ⟨E,ba,⟨g,b,a,Q,S,aj,A,z,G⟩,I⟩;simp only[dM6,p8,simprocAttr]at hk;simp only[e0,e1,e6,ae,af,V]at hk;obtain⟨i0,i1,i6,i7,be,bf,aV,ac,aW,_⟩:=hk;simp only[L4,B4,E5,simprocAttr,E,aW];refine n7 (λY=>?_) (λY=>?_)
    ·have M:k<x.length:=by simpa using Y
     have F:=H.inS M;have q:=M4 (P:=prog) (t:=3) H (b7 I) (dM4 M) G3;simp only[I4.val]at q;have C:x[k]∈x:=dN5 M;have aa:x.take (k+1)=x.take k++[x[k]]:=dN3 M;generalize x[k]=J at q C aa;by_cases hlo:J<0
     ·have d0:decide (J<0)=true:=by simpa using hlo
      simp only[L4,O5,B4,E5,y0,simprocAttr,E,ac,F,q,d0];exact T3 results262 ⟨⟨_,false,rfl,(λh=>(by cases h)),(λ_ D=>(by have:=D x p J C;omega))⟩,I⟩
     ·have d0:decide (J<0)=false:=by simpa using hlo
      by_cases hhi:J≥most
      ·have d1:decide (J≥(most:Int))=true:=by simpa using hhi
       simp only[L4,O5,B4,E5,y0,simprocAttr,E,ac,i1,F,q,d0,d1];exact T3 results262 ⟨⟨_,false,rfl,(λh=>(by cases h)),(λ_ D=>(by have:=D x p J C;omega))⟩,I⟩
      ·have d1:decide (J≥(most:Int))=false:=by simpa using hhi
       obtain⟨fn,ak⟩:∃fn:Nat,J=fn:=⟨J.toNat,by omega⟩;have an:=a.outer.inS (k:=i) (by rw[a.len];omega);have ao:=aD3 (P:=prog) (t:=332) a o bf2;have av:=a.row i ⟨ur⟩ b o aj
       have al:fn / 64<b.length:=by rw[A];have:fn<most:=by omega
                                    have:=Nat.div_le_div_right (c:=64) (Nat.le_of_lt this);omega
       have T:=dd4 (i4 w) ur b fn w3 av al (by omega);rw[<-ak]at T;simp only[L4,O5,B4,E5,y0,simprocAttr,E,ac,i1,i6,i7,F,q,d0,d1,an,ao];refine y5 T ?_;rintro r w4 ⟨hr,aP,aq⟩;have aT:o7 w w4:=o9.ext_of I aq λb hb=>by
        have:=av.free hb;exact dZ9 λs=>by simp[i4,s]at this
       have O:=a.write o aq aP;simp only[L4,B4,E5,simprocAttr,E];refine⟨k+1,by omega,dO2 _ (B0 k (by omega)),by omega,⟨_,_,O,by simp[Q],λj L=>?_,dT3 (by omega),by rw[cQ6,A],λf=>?_,λf D=>?_⟩,aT⟩
       ·rw[dU7 (λe=>L e.symm)];exact S j L
       ·rw[cM1 al,aa,dX4,z f,dN7,dP1,dQ3];constructor
        ·rintro(h|h)
         ·exact .inr (by rw[h,ak])
         ·exact .inl h
        ·rintro(h|h)
         ·exact .inr h
         ·exact .inl (by omega)
       ·rw[aa,dN7,dP1]at D;rcases D with D|D
        ·exact G f D
        ·subst D;exact⟨by omega,by omega⟩
    ·have Z:k=x.length:=by simp at Y;omega
     subst Z;rw[dN8]at z G;simp only[L4,B4,E5,simprocAttr,aV];refine⟨i+1,by omega,dO2 _ (B0 i (by omega)),by omega,⟨aA,g,a,Q,λj y L hy=>?_⟩,I⟩;by_cases hji:j=i
     ·subst hji;rw[U]at hy;obtain rfl:=dO3 hy;exact⟨⟨b,aj,by rw[A,ar],z⟩,G⟩
     ·obtain⟨⟨b',aF,aG⟩,h3⟩:=B j y (by omega) hy;exact⟨⟨b',by rw[S j hji];exact aF,aG⟩,h3⟩
  ·have Z:i=l.length:=by simp at Y;omega
   subst Z;simp only[L4,simprocAttr,e6];refine T3 results262 ?_;simp only[p8,simprocAttr];refine⟨⟨_,true,rfl,λ_=>⟨λx hx f D=>?_,m,d.ro (b7 hx),X,λi x hi=>?_⟩,(λh=>(by cases h))⟩,hx⟩
   ·obtain⟨j,L⟩:=dV3.1 hx;exact(B j x (dM9.1 L).1 L).2 f D
   ·exact(B i x (dM9.1 hi).1 hi).1
def aW5(n:Nat)(l:List (Int×Int)):(ao6 n l).length=n:=by simp[ao6]
def bX2{n:Nat}(l:List (Int×Int)){q:Nat}(a:q<n):(ao6 n l)[q]?=some ((l.filter λt=>decide (t.1=(q:Int))).map (·.2)):=by simp[ao6,a]
def bX3(n:Nat):ao6 n []=List.replicate n []:=by
 apply dS8
 ·simp[ao6]
 ·intro j a b;simp[ao6]
def bF3{n:Nat}(l:List (Int×Int)){q:Nat}(d:q<n)(b:Int):ao6 n (l++[((q:Int),b)])=(ao6 n l).set q (((l.filter λt=>decide (t.1=(q:Int))).map (·.2))++[b]):=by
 apply dS8
 ·simp[ao6]
 ·intro j a c;rw[List.getElem_set];simp only[ao6,dT4,dY7,dS4,dP6];by_cases hjq:q=j
  ·subst hjq;simp[]
  ·rw[if_neg hjq];have:decide ((q:Int)=(j:Int))=false:=by simp;omega
   simp[this]
def aC6(l:List (Int×Int))(q:Nat):((l.filter λt=>decide (t.1=(q:Int))).map (·.2)).length<=l.length:=by
 rw[dN4];exact dP3 _ _
def aW6{n:Nat}{l:List (Int×Int)}{x:List Int}(d:x∈ao6 n l):x.length<=l.length/\∀b∈x,∃t∈l,t.2=b:=by
 obtain⟨q,_,rfl⟩:=dO7.1 d;refine⟨aC6 l q,λb a=>?_⟩;obtain⟨t,c,rfl⟩:=dO7.1 a;exact⟨t,(dP2.1 c).1,rfl⟩
def bv6{P:Program}{h:Hp}{w:World}{T t:TypeId}{v:Value}{us:List U1}(e:A8 h w T v us){i:Nat}{u:U1}(d:us[i]?=some u)(f:I7 P t=false):
  (Instr.loadAt t (.pointer (some (G4 v i)))).run P w = .ok u.v w:=by
 obtain⟨g,⟨c,_⟩,b⟩:=e.get d;have:=b 0 u.v (by rw[c];rfl);rw[L7]at this;have a:(i*A4.sz U1)=i:=dT8 i;rw[a]at this;exact S3 f this
def bq0{p:Pg}{i x y:Nat}{wy:Wy}(c:D4 p)(hw:C5 p<=1000000)(b:i<p.procs.length)(a:ao1 p i x y wy):∀t∈wy.pairs wy.data,(0<=t.1/\t.1<wy.n)/\(0<=t.2/\t.2<wy.n):=aX1 a.toWyOk (bK5 c hw b a)
def bY9{v u':Value}{us:List U1}{i b:Nat}(h:L6 v (us.set i ⟨u'⟩) b):L6 v us b\/A3 u' b:=by
 rcases h with h|⟨u,c,a⟩
 ·exact .inl (.inl h)
 ·rcases dU4 c with h|rfl
  ·exact .inl (.inr ⟨u,h,a⟩)
  ·exact .inr a
def cX1(a:Addr)(wy:Wy)(p:Pg)(i x y:Nat)(w:World)(ha:At (i4 w) a wy)(Z:D4 p)(hw:C5 p<=1000000)(hi:i<p.procs.length)(g:ao1 p i x y wy):
  p7 prog 174 #[.pointer (some a)] w λu l=>(R (i4 l) u wy.net/\o7 w l):=by
 refine p9 [.pointer (some a)] func174 rfl ?_;obtain⟨_,_,_,_,_,_,aK,_⟩:=ha.wy;have lw:=aK w (i5 _);have aN:=J1 Z.may;have aT:=g.part.ok.len;have aS:=g.part.ok.le;have hn:=g.n;have a3:=aU2 Z hw hi g;have ay:=bK5 Z hw hi g;have W:=bq0 Z hw hi g;have V:wy.n=((wy.n.toNat:Nat):Int):=by omega
 have aH:(wy.pairs wy.data).length=wy.data.length:=dN4 _;have hF:wy.net=ao6 wy.n.toNat (wy.pairs wy.data):=rfl;generalize hM:wy.n.toNat=M at hF V;have hz:A4.enc (i4 w) (Value.slice none 0 0).cells.toList C8:=⟨rfl,rfl⟩;obtain⟨A,w1,U,aF,J,aP,_⟩:=mk (P:=prog) (w:=w) (h:=i4 w) ck2 ai0 (α:=U1) (y:=C8) hz (n:=M) (by omega) (by omega) (i5 _);rw[<-V]at U;have aa:I6 (i4 w) w1 24 3 A (List.replicate M C8) (ao6 M []):=by rw[bX3];exact af5 aF
 simp only[m8,o6,simprocAttr,lw,U];refine y5 (bQ1 a wy p i x y w1 (ha.mono (b7 J)) Z hw hi g) ?_;rintro ud w2 ⟨aG,z⟩;simp only[m8,simprocAttr];refine y5 (ap4 a wy p i x y ud _ w2 (ha.mono (b7 (J.trans z))) g.toWyOk (aG.rw_ (b7 z)) ay (by omega)) ?_;rintro uq w3 ⟨I,aj⟩;have ab:=aa.ext (z.trans aj);have T:∀b,L6 A (List.replicate M C8) b->b<w2.heap.size:=λb j=>(aa.ext z).lt j;generalize wy.pairs wy.data=G at I hF W aH;have E:R (B6 w3 (L6 A (List.replicate M C8))) uq G:=I.flatRN λb j=>D8 λaw=>by
  have h1:=T b aw;have h2:=D0 (I.free j);omega
 have ag:=J.trans (z.trans aj);have aq:=E.isS;have aE:=E.vlen;simp only[m8,o6,simprocAttr,aq,aE];refine n9 [0,3,14,15] (σ:=Nat×List U1) (λs f l=>f 16 = .int .i64 s.1/\s.1<=G.length/\I6 (i4 w) l 24 3 A s.2 (ao6 M (G.take s.1))/\o9 (L6 A (List.replicate M C8)) w3 l/\(∀b,L6 A s.2 b->L6 A (List.replicate M C8) b\/w3.heap.size<=b)) (λs=>G.length-s.1) (0,List.replicate M C8) ?_ ?_
 ·simp only[p8,simprocAttr];exact⟨by trivial,dN6 _,by simpa using ab,o9.refl _,λb j=>.inl j⟩
 rintro⟨k,us⟩ f w4 hk ⟨B,aC,o,D,m⟩;simp only at B aC o m;simp only[dM6,p8,simprocAttr]at hk;obtain⟨e0,e3,an,ao,_⟩:=hk;have v:o7 w w4:=o9.ext_of ag D λb j=>D0 (ab.free j);simp only[m8,o6,simprocAttr,B,ao];refine n7 (λhc=>?_) (λhc=>?_);rotate_left
 ·have az:k=G.length:=by simp at hc;omega
  subst az;rw[dN8]at o;simp only[m8,simprocAttr,e3];exact o8 results174 ⟨by rw[hF];exact o.ro (b7 v),v⟩
 have C:k<G.length:=by simpa using hc
 have aB:=E.inS C;have H:=cN6 E (E1 D) (dM4 C);have af:=dN3 C;obtain⟨X,Y⟩:=W _ (dN5 C);generalize G[k]=t at H af X Y;obtain⟨z1,z2⟩:=t;simp only at X Y H;obtain⟨Q,rfl⟩:∃Q:Nat,z1=(Q:Int):=⟨z1.toNat,by omega⟩;have hQ:Q<M:=by omega
 obtain⟨c,wz,r,au,ae,F,aA,aQ⟩:=cV3 (w:=w4) (Q:Int) z2;have q:=o.ext (F.trans (o7.drew r));have a4:us.length=M:=by rw[o.len,aW5]
 obtain⟨u,L⟩:∃u,us[Q]?=some u:=⟨us[Q]'(by omega),dM4 (by omega)⟩;have ad:=q.row Q u _ L (bX2 _ hQ);have aJ:=aC6 (G.take k) Q;rw[dN9]at aJ;have O:¬A3 u.v c:=λj=>by
  have:=o.lt (.inr ⟨u,dO4 L,j⟩);omega
 have N:r.drew.heap[c]?=some (.cells #[.int .i64 (Q:Int),.int .i64 z2] 205 (0,0)):=aA;have t0:∀K f d w0,F3 prog (λl=>o9 (A3 u.v) r.drew l) (Instr.loadAt 3 (.pointer (some ⟨c,0,none⟩))) K f d w0=K (C4 f d (.int .i64 (Q:Int))) w0:=λK f d w0=>B7 (w0:=r.drew) (o9.refl _) λl h=>(ao9 N h O).1;have t1:∀K f d w0,F3 prog (λl=>o9 (A3 u.v) r.drew l) (Instr.loadAt 3 (.pointer (some ⟨c,1,none⟩))) K f d w0=K (C4 f d (.int .i64 z2)) w0:=λK f d w0=>B7 (w0:=r.drew) (o9.refl _) λl h=>(ao9 N h O).2;have t2:∀K f d w0,F3 prog (λl=>o9 (A3 u.v) r.drew l) (Instr.loadAt 24 (.pointer (some (G4 A Q)))) K f d w0=K (C4 f d u.v) w0:=λK f d w0=>B7 (w0:=r.drew) (o9.refl _) λl h=>bv6 (q.outer.mod h λb j av=>q.off Q u L b av j) L ad0;have a2:=q.outer.isS;have S:=q.outer.inS (k:=Q) (by omega);have ah:=v.trans (F.trans (o7.drew r));obtain⟨p1,u6,w6,p2,p3,p4,p5⟩:=push (e:=24) U2 rfl ad (x:=.int .i64 z2) (y:=z2) rfl (by omega) (by omega) (b7 ah);simp only[Value.cells]at p1 p2;obtain⟨w7,s1,aI,aD,_⟩:=q.put (P:=prog) (t:=24) L p4 p3 p5 (z7 ai0).choose_spec.1 (by rw[<-D9 (z7 ai0).choose_spec.1];exact bl2);simp only[m8,o6,y0,simprocAttr,B,an,aB,H,au,ae];refine C0 (λl=>o9 (A3 u.v) r.drew l) 12 (A5 [0,1,2,3,4,5,6,7,8,9,10,11]) ?_;simp only[D6,A5,m8,o6,y0,simprocAttr,e3,t0,t1,t2,S,p1,p2,E8];refine⟨o9.up (o7.alloc _ _),p4,?_⟩;simp only[m8,o6,simprocAttr,s1,B];have ac:∀b,A3 u.v b->L6 A us b:=λb j=>.inr ⟨u,dO4 L,j⟩;have aU:w3.heap.size<=r.drew.heap.size:=dN1 D.size ((F.trans (o7.drew r)).size);refine⟨(k+1,us.set Q ⟨u6⟩),by omega,dO2 _ (B0 k (by omega)),by omega,?_,?_,λb j=>?_⟩
 ·simp only[];rw[af,bF3 _ hQ];exact aI
 ·refine(D.chain (o9.up (M:=λ_=>False) (F.trans (o7.drew r))) λ_ _ h=>h.elim).chain (o9.trans (M:=λb=>A3 u.v b\/A3 A b) (p4.weaken λb _ h=>.inl h) (aD.weaken λb _ h=>.inr h)) (λb j h=>?_);rcases h with h|h
  ·exact(m b (ac b h)).resolve_right (by omega)
  ·exact .inl h
 ·rcases bY9 j with h|h
  ·exact m b h
  ·rcases p5 b h with h|h
   ·exact m b (ac b h)
   ·exact .inr (by omega)
def bz7(r:List Bool):Nat:=r.count true
def bb8(f:List (List Bool)):Nat:=(f.map bz7).sum
def cp4:∀(r s:List Bool),s.length=r.length->(∀i,s.getD i false=true->r.getD i false=true)->bz7 s<=bz7 r/\(s≠r->bz7 s<bz7 r)
 | [],[],_,_=>by simp[bz7]
 | x::r,y::s,hl,h=>by
  have c:=cp4 r s (by simpa using hl) λi b=>by have:=h (i+1);simpa using this (by simpa using b)
  have a:=h 0;simp only[List.getD_cons_zero]at a;unfold bz7 at c ⊢;simp only[List.count_cons];cases x<;>cases y<;>simp_all
  all_goals omega
def bS0:∀(f:List (List Bool)) (a:Nat) (l:List Bool) (b:a<f.length),bb8 (f.set a l)+bz7 f[a]=bb8 f+bz7 l
 | x::f,0,l,_=>by simp[bb8];omega
 | x::f,a+1,l,b=>by
  have:=bS0 f a l (by simpa using b);simp only[bb8,List.set_cons_succ,dQ8,dX8,dX2]at *;omega
structure SqM (n:Nat) (f:List (List Bool)):Prop where
 len:f.length=n
 row:∀r∈f,r.length=n
def SqM.get{n:Nat}{f:List (List Bool)}(h:SqM n f){a:Nat}(b:a<n):f[a]?=some (f.getD a [])/\(f.getD a []).length=n:=by
 have:a<f.length:=by rw[h.len];exact b
 rw[List.getD,dM4 this];exact⟨rfl,h.row _ (dN5 this)⟩
def mAt(f:List (List Bool))(a b:Nat):Bool:=(f.getD a []).getD b false
def af7(f:List (List Bool))(l:List Int):(aa7 f l).length=f.length:=by simp[aa7]
def bw4{n:Nat}{f:List (List Bool)}(h:SqM n f)(l:List Int){b:Nat}(hb:b<n):(aa7 f l).getD b false=l.all λa=>mAt f a.toNat b:=by
 unfold aa7;rw[List.getD,dP9,dU6 (by rw[h.len];exact hb)];simp only[dS5,dR9];unfold atB mAt;simp
def Z5(next:List (List Int))(f:List (List Bool))(a:Nat):List Bool:=(aa7 f (next.getD a [])).set a true
def aD2(next:List (List Int))(f:List (List Bool))(a:Nat):(Z5 next f a).length=f.length:=by simp[Z5,af7]
def bd7{n:Nat}{next:List (List Int)}{f:List (List Bool)}(h:SqM n f){a b:Nat}(d:a<n):(Z5 next f a).getD b false=(decide (b<n)&&(decide (a=b)||(next.getD a []).all λc=>mAt f c.toNat b)):=by
 unfold Z5;by_cases hb:b<n
 ·by_cases hab:a=b
  ·subst hab;rw[List.getD,dT3 (by rw[af7,h.len];exact hb)];simp[hb]
  ·rw[List.getD,dU7 hab];have:=bw4 h (next.getD a []) hb;rw[List.getD]at this;rw[this];simp[hb,hab]
 ·rw[List.getD,dV0 (by rw[dU0,af7,h.len];omega)];simp[hb]
def cG0(n:Nat)(next:List (List Int))(f:List (List Bool)):Prop:=∀a,a+1<n->∀b,(Z5 next f a).getD b false=true->mAt f a b=true
def aj0(n:Nat):SqM n (T6 n):=⟨by simp[T6],λr b=>by
 obtain⟨a,_,rfl⟩:=dO7.1 b;simp⟩
theorem br3{n a b:Nat}(d:a<n)(hb:b<n):mAt (T6 n) a b=(decide (a+1<n)||decide (a=b)):=by
 have c:(T6 n).getD a []=(List.range n).map λb=>decide (a+1<n)||decide (a=b):=by
  unfold T6;rw[List.getD,dP9,dU6 d];rfl
 unfold mAt;rw[c,List.getD,dP9,dU6 hb];rfl
def bU1(n:Nat)(next:List (List Int)):cG0 n next (T6 n):=by
 intro a d b c;rw[bd7 (aj0 n) (by omega)]at c;have:b<n:=by
  rw[dO8]at c;exact dM8 c.1
 rw[br3 (by omega) this];simp[d]
def cp3(n:Nat):∀(f:List (List Bool)),(∀r∈f,r.length=n)->bb8 f<=f.length*n
 | [],_=>by simp[bb8]
 | r::f,h=>by
  have d:=cp3 n f λs b=>h s (by simp[b]);have c:bz7 r<=n:=by
   have:=List.count_le_length (a:=true) (l:=r);rw[h r (by simp)]at this;exact this
  simp only[bb8,dQ8,dX8,dP4]at *;rw[dY1];omega
def aY5{α:Type}{f:List α}{a:Nat}{l d:α}(c:Nat)(b:a<f.length):(f.set a l).getD c d=if a=c then l else f.getD c d:=by
 by_cases h:a=c
 ·subst h;simp[List.getD,b]
 ·rw[if_neg h,List.getD,List.getD,dU7 h]
def bZ8{α:Type}{f:List α}{a:Nat}{l:α}(h:f[a]?=some l):f.set a l=f:=by
 apply dZ5;intro i;by_cases hi:a=i
 ·subst hi;rw[dT3 (dM9.1 h).1,h]
 ·rw[dU7 hi]
def ck8{n:Nat}{next:List (List Int)}{f:List (List Bool)}(i:SqM n f)(k:cG0 n next f){a:Nat}(s:a+1<n):
  SqM n (S9 next f a)/\cG0 n next (S9 next f a)/\(Z5 next f a=f.getD a []->S9 next f a=f)/\(Z5 next f a≠f.getD a []->bb8 (S9 next f a)<bb8 f):=by
 have d:a<f.length:=by rw[i.len];omega
 have e:S9 next f a=f.set a (Z5 next f a):=rfl
 rw[e];obtain⟨v,m⟩:=i.get (a:=a) (by omega);have j:SqM n (f.set a (Z5 next f a)):=⟨by rw[dU0,i.len],λr w=>by
  rcases dU4 w with h|h
  ·exact i.row r h
  ·rw[h,aD2,i.len]⟩
 have B5:∀c b,mAt (f.set a (Z5 next f a)) c b=true->mAt f c b=true:=by
  intro c b h;unfold mAt at h ⊢;rw[aY5 c d]at h;split at h
  ·next g=>subst g;exact k a s b h
  ·exact h
 have hm:=bS0 f a (Z5 next f a) d;have l:f[a]=f.getD a []:=by rw[List.getD,dM4 d];rfl
 obtain⟨_,o⟩:=cp4 (f.getD a []) (Z5 next f a) (by rw[aD2,i.len,m]) λb t=>k a s b t;refine⟨j,?_,λh=>by rw[h];exact bZ8 v,λh=>by have:=o h;rw[l]at hm;omega⟩;intro c u b h;rw[bd7 j (by omega)]at h;have p:(Z5 next f c).getD b false=true:=by
  rw[bd7 i (by omega)];rw[dO8,dX4]at h ⊢;refine⟨h.1,h.2.imp id λq=>?_⟩;rw[dW0]at q ⊢;exact λx y=>B5 _ _ (q x y)
 unfold mAt;rw[aY5 c d];split
 ·next g=>subst g;exact p
 ·exact k c u b p
def aU8{next:List (List Int)}{m:Nat}{f:List (List Bool)}(h:O4 next f m=f):∀k,ad2 next m k f=f
 | 0=>rfl
 | k+1=>by rw[ad2,h,aU8 h k]
def aI2(next:List (List Int))(m:Nat):∀(j k:Nat) (f:List (List Bool)),ad2 next m (j+k) f=ad2 next m k (ad2 next m j f)
 | 0,k,f=>by rw[dQ2];rfl
 | j+1,k,f=>by rw[show j+1+k=(j+k)+1 by omega,ad2,ad2,aI2 next m j k]
def ak7{α:Type}{l:List α}{d x:α}{n b:Nat}(e:l.length=n)(hb:b<n)(c:l[b]?=some x):(l.take b++List.replicate (n-b) d).set b x=l.take (b+1)++List.replicate (n-(b+1)) d:=by
 have a:(l.take b).length=b:=by rw[dN9];omega
 rw[List.set_append_right _ _ (by omega),a,Nat.sub_self,show n-b=(n-(b+1))+1 by omega,List.replicate_succ,List.set_cons_zero,dZ0,c];simp
def az9{P:Program}{t:TypeId}{z:Value}(c:G8 P t=some z)(b:L9 P t=1):∃i,P.info? t=some i/\i.size=1:=by
 obtain⟨i,a,d⟩:=z7 c;exact⟨i,a,by rw[<-D9 a];exact b⟩
def cj8(vf vs:Value)(n:Nat)(g:List (List Bool))(l:List Int)(w:World)(hf:R (i4 w) vf g)(hs:R (i4 w) vs l)(Y:SqM n g)(hl:∀c∈l,0<=c/\c<(n:Int))(hn:n<=1000000)(aX:l.length<=1000000000):
  p7 prog 232 #[vf,vs] w λu E=>(A8 (i4 w) E 4 u (aa7 g l)/\o7 w E):=by
 refine p9 [vf,vs] func232 rfl ?_;have al:=hf.isS;have W:=hf.vlen;rw[Y.len]at W;have an:=hs.isS;have aA:=hs.vlen;obtain⟨ib,M,A⟩:=az9 (P:=prog) T5 aE1;obtain⟨vo,w1,ax,ho,aD,_,_⟩:=mk (P:=prog) (w:=w) (h:=i4 w) (α:=Bool) bw9 T5 (y:=false) rfl (n:=n) (by omega) (by omega) (i5 _);have am:=ho.isS;have az:vlen vo=n:=by rw[ho.vlen,dR7]
 have Z:(aa7 g l).length=n:=by rw[af7,Y.len]
 simp only[m8,o6,simprocAttr,al,W,ax,am,az];refine n9 [0,1,5,13] (σ:=Nat) (λb f E=>f 14 = .int .i64 b/\b<=n/\A8 (i4 w) E 4 vo ((aa7 g l).take b++List.replicate (n-b) false)/\o7 w E) (λb=>n-b) 0 ?_ ?_
 ·simp only[p8,simprocAttr];exact⟨by trivial,dN6 _,by simpa using ho,aD⟩
 rintro b f w2 Q ⟨F,aR,p,ac⟩;simp only[dM6,p8,simprocAttr]at Q;obtain⟨e0,e1,e5,K,_⟩:=Q;simp only[m8,o6,simprocAttr,F,K];refine n7 (λhc=>?_) (λhc=>?_);rotate_left
 ·have I:b=n:=by simp at hc;omega
  subst I;rw[Nat.sub_self,List.replicate_zero,dP8,<-Z,dN8]at p;simp only[m8,simprocAttr,e5];exact o8 results232 ⟨p,ac⟩
 have U:b<n:=by simpa using hc
 have j:=ak7 (d:=false) Z U (dM4 (by omega));have ao:(aa7 g l)[b]'(by omega)=l.all λa=>mAt g a.toNat b:=by
  have:=bw4 Y l U;rw[List.getD,dM4 (by omega)]at this;exact this
 rw[ao]at j;have hX:((aa7 g l).take b++List.replicate (n-b) false).length=n:=by rw[dM7,dN9,dR7];omega
 generalize(aa7 g l).take b++List.replicate (n-b) false=X at p j hX;have au:=p.inS (k:=b) (by omega);obtain⟨w3,s1,aC,av,_⟩:=E4 (P:=prog) (t:=4) p rfl (k:=b) (by omega) (x:=.bool true) (y:=true) rfl rfl M A;have aE:=p.ext2 ac av;simp only[m8,o6,y0,simprocAttr,F,e1,e5,au,s1,an,aA];refine n9 [0,1,5,6,13,14,20,21] (σ:=Nat) (λk f E=>f 22 = .int .i64 k/\k<=l.length/\A8 (i4 w) E 4 vo (X.set b ((l.take k).all λa=>mAt g a.toNat b))/\o7 w E) (λk=>l.length-k) 0 ?_ ?_
 ·simp only[p8,simprocAttr];exact⟨by trivial,dN6 _,by simpa using aC,aE⟩
 rintro k f2 w4 Q ⟨G,aV,q,v⟩;simp only[dM6,p8,simprocAttr]at Q;obtain⟨r0,r1,r5,r6,aF,ae,af,aG,_⟩:=Q;rw[e0]at r0;rw[e5]at r5;rw[K]at aF;rw[F]at ae;simp only[m8,o6,simprocAttr,G,aG];refine n7 (λH=>?_) (λH=>?_);rotate_left
 ·have I:k=l.length:=by simp at H;omega
  subst I;rw[dN8,j]at q;simp only[m8,o6,simprocAttr,ae];refine⟨b+1,by omega,dO2 _ (B0 b (by omega)),by omega,q,v⟩
 have o:k<l.length:=by simpa using H
 have B:=hs.inS o;have J:=aF7 hs (b7 v) o;have ar:=hl _ (dN5 o);have aa:=dN3 o;generalize l[k]=c at J ar aa;obtain⟨C,rfl⟩:∃C:Nat,c=(C:Int):=⟨c.toNat,by omega⟩;obtain⟨hg,aT⟩:=Y.get (a:=C) (by omega);obtain⟨uc,ab,aq⟩:=R.row hf hg;have S:=H7 (P:=prog) (t:=95) aq (b7 v) aF5;have O:=hf.inS (k:=C) (by rw[Y.len];omega);have N:=ab.inS (k:=b) (by omega);have s:=ldB ab (b7 v) (k:=b) (by omega);have ay:(g.getD C [])[b]'(by omega)=mAt g C b:=by
  have hh:∀r:List Bool,∀h:b<r.length,r[b]=r.getD b false:=λr h=>by simp[List.getD,h]
  exact hh _ _
 rw[ay]at s;have D:=q.inS (k:=b) (by rw[dU0];omega);have T:=D3 (P:=prog) (t:=4) q (k:=b) (dT3 (by omega)) am6;have e:(l.take (k+1)).all (λa=>mAt g a.toNat b)=((l.take k).all (λa=>mAt g a.toNat b)&&mAt g C b):=by
  rw[aa,List.all_append];simp
 obtain⟨w5,s2,z,aw,_⟩:=E4 (P:=prog) (t:=4) q rfl (k:=b) (by rw[dU0];omega) (x:=.bool ((l.take (k+1)).all (λa=>mAt g a.toNat b))) (y:=(l.take (k+1)).all (λa=>mAt g a.toNat b)) rfl rfl M A;rw[List.set_set]at z;have ad:=q.ext2 v aw;have i:(Instr.loadAt 4 (.pointer (some (G4 vo b)))).run prog w4 = .ok (.bool ((l.take k).all λa=>mAt g a.toNat b)) w4:=T;generalize L:(l.take (k+1)).all (λa=>mAt g a.toNat b)=V' at e s2 z;generalize(l.take k).all (λa=>mAt g a.toNat b)=V at i e;generalize mAt g C b=m at s e;rcases dM5 V with hV|hV<;>subst hV
 ·have:V'=m:=by simpa using e
  subst this;simp only[m8,o6,y0,simprocAttr,G,r0,r5,r6,af,B,J,D,i,O,S,N,s,s2];refine⟨k+1,by omega,dO2 _ (B0 k (by omega)),by omega,by rw[L];exact z,ad⟩
 ·have:V'=false:=by simpa using e
  subst this;simp only[m8,o6,y0,simprocAttr,G,r5,r6,af,B,J,D,i,s2];refine⟨k+1,by omega,dO2 _ (B0 k (by omega)),by omega,by rw[L];exact z,ad⟩
def dj0:F4 prog 249 95 1 24=true:=by decide +kernel
def co3{p:Pg}{i x y:Nat}{wy:Wy}(d:D4 p)(hw:C5 p<=1000000)(b:i<p.procs.length)(a:ao1 p i x y wy):wy.aug.length<=2000000:=by
 have c:wy.aug=at5 (wy.virtual++wy.real++[⟨0,-1,2⟩]++((b9 p).of i).flatMap W8):=by unfold Wy.aug;rw[a.s,a.proc]
 have e:=bP5 d hw b a;have f:=(bi9 p hw i b).2;have g:=N5 W8 1 ((b9 p).of i) λx _=>bt1 x;rw[c];refine dN1 (aS4 _) ?_;simp only[dM7,dP7];omega
def bJ4{p:Pg}{i x y:Nat}{wy:Wy}(e:D4 p)(hw:C5 p<=1000000)(d:i<p.procs.length)(a:ao1 p i x y wy):∀t∈wy.aug,RgS x y t:=by
 have c:wy.aug=at5 (wy.virtual++wy.real++[⟨0,-1,2⟩]++((b9 p).of i).flatMap W8):=by unfold Wy.aug;rw[a.s,a.proc]
 intro t b;rw[c]at b;exact cH5 e hw d a t (aS5 b)
def cd1(a:Addr)(wy:Wy)(p:Pg)(i x y:Nat)(w:World)(ha:At (i4 w) a wy)(hr:D4 p)(hw:C5 p<=1000000)(hi:i<p.procs.length)(S:ao1 p i x y wy):
  p7 prog 182 #[.pointer (some a)] w λu m=>(R (i4 m) u wy.follow/\o7 w m):=by
 refine p9 [.pointer (some a)] func182 rfl ?_;obtain⟨_,_,_,_,_,_,aR,c1⟩:=ha.wy;have lw:=aR w (i5 _);have dc:=J1 hr.may;have dj:=S.part.ok.len;have di:=S.part.ok.le;have hn:=S.n;have cB:=co3 hr hw hi S;have a9:=bJ4 hr hw hi S;have aM:=aX1 S.toWyOk a9;have aK:wy.n=((wy.n.toNat:Nat):Int):=by omega
 have bP:(wy.pairs wy.aug).length=wy.aug.length:=dN4 _;have hF:wy.follow=ad2 (ao6 wy.n.toNat (wy.pairs wy.aug)) (wy.n.toNat-1) (wy.n.toNat*wy.n.toNat+1) (T6 wy.n.toNat):=rfl;have a4:wy.n.toNat<=202:=by omega
 have cr:2<=wy.n.toNat:=by omega
 generalize hM:wy.n.toNat=M at hF aK a4 cr;have hz:A4.enc (i4 w) (Value.slice none 0 0).cells.toList C8:=⟨rfl,rfl⟩;obtain⟨vo,w1,ak,bN,aP,bv,_⟩:=mk (P:=prog) (w:=w) (h:=i4 w) ck2 ai0 (α:=U1) (y:=C8) hz (n:=M) (by omega) (by omega) (i5 _);rw[<-aK]at ak;have bj:I6 (i4 w) w1 24 3 vo (List.replicate M C8) (ao6 M []):=by rw[bX3];exact af5 bN
 simp only[m8,o6,simprocAttr,lw,ak];refine y5 (cn5 a wy p i x y w1 (ha.mono (b7 aP)) hr hw hi S) ?_;rintro ud w2 ⟨bO,an⟩;simp only[m8,simprocAttr];refine y5 (ap4 a wy p i x y ud _ w2 (ha.mono (b7 (aP.trans an))) S.toWyOk (bO.rw_ (b7 an)) a9 (by omega)) ?_;rintro uq w3 ⟨aL,bm⟩;have bk:=bj.ext (an.trans bm);have N:∀b,L6 vo (List.replicate M C8) b->b<w2.heap.size:=λb z=>(bj.ext an).lt z;generalize wy.pairs wy.aug=ps at aL hF aM bP;have aD:R (B6 w3 (L6 vo (List.replicate M C8))) uq ps:=aL.flatRN λb z=>D8 λcy=>by
  have h1:=N b cy;have h2:=D0 (aL.free z);omega
 have b5:=aP.trans (an.trans bm);have bq:=aD.isS;have bL:=aD.vlen;simp only[m8,o6,simprocAttr,bq,bL];refine n9 [0,3,20,21] (σ:=Nat×List U1) (λs f m=>f 22 = .int .i64 s.1/\s.1<=ps.length/\I6 (i4 w) m 24 3 vo s.2 (ao6 M (ps.take s.1))/\o9 (L6 vo (List.replicate M C8)) w3 m/\(∀b,L6 vo s.2 b->L6 vo (List.replicate M C8) b\/w3.heap.size<=b)) (λs=>ps.length-s.1) (0,List.replicate M C8) ?_ ?_
 ·simp only[p8,simprocAttr];exact⟨by trivial,dN6 _,by simpa using bk,o9.refl _,λb z=>.inl z⟩
 rintro⟨k,us⟩ f L hk ⟨aF,bF,ac,az,O⟩;simp only at aF bF ac O;simp only[dM6,p8,simprocAttr]at hk;obtain⟨e0,e3,cm,cn,_⟩:=hk;have D:o7 w L:=o9.ext_of b5 az λb z=>D0 (bk.free z);simp only[m8,o6,simprocAttr,aF,cn];refine n7 (λhc=>?_) (λhc=>?_)
 ·have ab:k<ps.length:=by simpa using hc
  have bd:=aD.inS ab;have be:=cN6 aD (E1 az) (dM4 ab);have b2:=dN3 ab;obtain⟨bQ,bR⟩:=aM _ (dN5 ab);generalize ps[k]=t at be b2 bQ bR;obtain⟨z1,z2⟩:=t;simp only at bQ bR be;obtain⟨Q,rfl⟩:∃Q:Nat,z1=(Q:Int):=⟨z1.toNat,by omega⟩;have hQ:Q<M:=by omega
  obtain⟨c,wz,w5,cw,b0,ao,cD,dg⟩:=cV3 (w:=L) (Q:Int) z2;have T:=ac.ext (ao.trans (o7.drew w5));have cM:us.length=M:=by rw[ac.len,aW5]
  obtain⟨u,hu⟩:∃u,us[Q]?=some u:=⟨us[Q]'(by omega),dM4 (by omega)⟩;have C:=T.row Q u _ hu (bX2 _ hQ);have aN:=aC6 (ps.take k) Q;rw[dN9]at aN;have bu:¬A3 u.v c:=λz=>by
   have:=ac.lt (.inr ⟨u,dO4 hu,z⟩);omega
  have br:w5.drew.heap[c]?=some (.cells #[.int .i64 (Q:Int),.int .i64 z2] 205 (0,0)):=cD;have t0:∀K f d w0,F3 prog (λm=>o9 (A3 u.v) w5.drew m) (Instr.loadAt 3 (.pointer (some ⟨c,0,none⟩))) K f d w0=K (C4 f d (.int .i64 (Q:Int))) w0:=λK f d w0=>B7 (w0:=w5.drew) (o9.refl _) λm h=>(ao9 br h bu).1;have t1:∀K f d w0,F3 prog (λm=>o9 (A3 u.v) w5.drew m) (Instr.loadAt 3 (.pointer (some ⟨c,1,none⟩))) K f d w0=K (C4 f d (.int .i64 z2)) w0:=λK f d w0=>B7 (w0:=w5.drew) (o9.refl _) λm h=>(ao9 br h bu).2;have t2:∀K f d w0,F3 prog (λm=>o9 (A3 u.v) w5.drew m) (Instr.loadAt 24 (.pointer (some (G4 vo Q)))) K f d w0=K (C4 f d u.v) w0:=λK f d w0=>B7 (w0:=w5.drew) (o9.refl _) λm h=>bv6 (T.outer.mod h λb z cx=>T.off Q u hu b cx z) hu ad0;have dz:=T.outer.isS;have bE:=T.outer.inS (k:=Q) (by omega);have b6:=D.trans (ao.trans (o7.drew w5));obtain⟨p1,u6,w6,p2,p3,p4,p5⟩:=push (e:=24) U2 rfl C (x:=.int .i64 z2) (y:=z2) rfl (by omega) (by omega) (b7 b6);simp only[Value.cells]at p1 p2;obtain⟨w7,s1,aC,cG,_⟩:=T.put (P:=prog) (t:=24) hu p4 p3 p5 (z7 ai0).choose_spec.1 (by rw[<-D9 (z7 ai0).choose_spec.1];exact bl2);simp only[m8,o6,y0,simprocAttr,aF,cm,bd,be,cw,b0];refine C0 (λm=>o9 (A3 u.v) w5.drew m) 12 (A5 [0,1,2,3,4,5,6,7,8,9,10,11]) ?_;simp only[D6,A5,m8,o6,y0,simprocAttr,e3,t0,t1,t2,bE,p1,p2,E8];refine⟨o9.up (o7.alloc _ _),p4,?_⟩;simp only[m8,o6,simprocAttr,s1,aF];have bV:∀b,A3 u.v b->L6 vo us b:=λb z=>.inr ⟨u,dO4 hu,z⟩;have dk:w3.heap.size<=w5.drew.heap.size:=dN1 az.size ((ao.trans (o7.drew w5)).size);refine⟨(k+1,us.set Q ⟨u6⟩),by simp only[];omega,by simp only[];rw[B0 k (by omega)],by simp only[];omega,?_,?_,λb z=>?_⟩
  ·simp only[];rw[b2,bF3 _ hQ];exact aC
  ·refine(az.chain (o9.up (M:=λ_=>False) (ao.trans (o7.drew w5))) λ_ _ h=>h.elim).chain (o9.trans (M:=λb=>A3 u.v b\/A3 vo b) (p4.weaken λb _ h=>.inl h) (cG.weaken λb _ h=>.inr h)) (λb z h=>?_);rcases h with h|h
   ·exact(O b (bV b h)).resolve_right (by omega)
   ·exact .inl h
  ·rcases bY9 z with h|h
   ·exact O b h
   ·rcases p5 b h with h|h
    ·exact O b (bV b h)
    ·exact .inr (by omega)
 have bc:k=ps.length:=by simp at hc;omega
 subst bc;rw[dN8]at ac;have bf:=ac.ro (b7 D);have b8:∀a∈ao6 M ps,∀b∈a,0<=b/\b<(M:Int):=λa ha b z=>by
  obtain⟨t,ht,rfl⟩:=(aW6 ha).2 b z;have:=(aM t ht).2;omega
 have bK:∀a∈ao6 M ps,a.length<=2000000:=λa ha=>by have:=(aW6 ha).1;omega
 have bM:=aW5 M ps;generalize ao6 M ps=E at bf b8 bK bM hF;clear ac az O aD aL bk bj bN ak bO N bm an aP aM bP a9 cB;clear lw bF bq bL bv;have lw:=aR L (b7 D);have cR:A4.enc (i4 L) (Value.slice none 0 0).cells.toList C8:=⟨rfl,rfl⟩;obtain⟨vf,w5,ak,bg,ao,_,_⟩:=mk (P:=prog) (w:=L) (h:=i4 L) dj0 bH5 (α:=U1) (y:=C8) cR (n:=M) (by omega) (by omega) (i5 _);rw[<-aK]at ak;have T:=af5 (α:=Bool) (T':=4) bg;have ct:=bg.isS;have cI:vlen vf=M:=by rw[bg.vlen,dR7]
 simp only[m8,o6,simprocAttr,e0,lw,ak,ct,cI];obtain⟨ib,bz,aW⟩:=az9 (P:=prog) T5 aE1;obtain⟨dF,aX,ax⟩:=az9 (P:=prog) bH5 cu1;have ba:(T6 M).length=M:=(aj0 M).len;refine n9 [0,3,6,46] (σ:=Nat×List U1) (λs f m=>f 47 = .int .i64 s.1/\s.1<=M/\I6 (i4 L) m 95 4 vf s.2 ((T6 M).take s.1++List.replicate (M-s.1) [])/\o7 L m) (λs=>M-s.1) (0,List.replicate M C8) ?_ ?_
 ·simp only[p8,simprocAttr];exact⟨by trivial,dN6 _,by simpa using T,ao⟩
 rintro⟨g,aq⟩ f2 w6 hk ⟨aG,cF,H,aQ⟩;simp only at aG cF H;simp only[dM6,p8,simprocAttr]at hk;obtain⟨g0,g3,g6,bp,_⟩:=hk;rw[e0]at g0;rw[e3]at g3;have cU:=aR w6 (b7 (D.trans aQ));simp only[m8,o6,simprocAttr,aG,bp];refine n7 (λa6=>?_) (λa6=>?_)
 ·have ab:g<M:=by simpa using a6
  obtain⟨vr,w7,a1,bi,Z,bw,_⟩:=mk (P:=prog) (w:=w6) (h:=i4 L) (α:=Bool) bw9 T5 (y:=false) rfl (n:=M) (by omega) (by omega) (b7 aQ);rw[<-aK]at a1;have cM:aq.length=M:=by rw[H.len,dM7,dN9,dR7];omega
  obtain⟨u,hu⟩:∃u,aq[g]?=some u:=⟨aq[g]'(by omega),dM4 (by omega)⟩;have bd:=H.outer.inS (k:=g) (by omega);obtain⟨w8,s1,o,cH,_⟩:=H.put (P:=prog) (t:=95) hu (o9.up Z) bi (λb z=>.inr (bw b z)) aX ax;have I:o7 L w8:=(H.outer.ext Z).ext2 (aQ.trans Z) cH;have Y:(aq.set g ⟨vr⟩)[g]?=some ⟨vr⟩:=dT3 (by omega);have ay:=bv6 (P:=prog) (t:=95) o.outer Y aF5;have cu:=bi.isS;have cJ:vlen vr=M:=by rw[bi.vlen,dR7]
  obtain⟨rk,bl⟩:∃r,(T6 M)[g]?=some r:=⟨_,dM4 (by omega)⟩;have aN:rk.length=M:=(aj0 M).row rk (dO4 bl);have bU:∀b (z:b<M),rk[b]?=some (decide (g+1<M)||decide (g=b)):=λb z=>by
   have:=br3 ab z;unfold mAt at this;rw[List.getD,List.getD,bl,dR9,dM4 (by omega)]at this;rw[dM4 (by omega)];exact dO2 some this
  have aA:=ak7 (d:=([]:List Bool)) ba ab bl;have cv:((T6 M).take g++List.replicate (M-g) ([]:List Bool)).length=M:=by rw[dM7,dN9,dR7];omega
  generalize(T6 M).take g++List.replicate (M-g) ([]:List Bool)=X at H o aA cv;generalize hU:aq.set g ⟨vr⟩=U at o Y;have dh:=o.outer.inS (k:=g) (dM9.1 Y).1;simp only[m8,o6,y0,simprocAttr,aG,g0,g6,cU,a1,bd,s1,ay,cu,cJ];refine n9 [0,3,6,7,46,47,62] (σ:=Nat) (λb f m=>f 63 = .int .i64 b/\b<=M/\I6 (i4 L) m 95 4 vf U (X.set g (rk.take b++List.replicate (M-b) false))/\o7 L m) (λb=>M-b) 0 ?_ ?_
  ·simp only[p8,simprocAttr];exact⟨by trivial,dN6 _,by simpa using o,I⟩
  rintro b f3 w9 hk ⟨av,dB,W,ap⟩;simp only[dM6,p8,simprocAttr]at hk;obtain⟨q0,q3,q6,q7,cY,ca,c0,_⟩:=hk;rw[g0]at q0;rw[g3]at q3;rw[g6]at q6;rw[aG]at ca;rw[bp]at cY;simp only[m8,o6,simprocAttr,av,c0];refine n7 (λa7=>?_) (λa7=>?_);rotate_left
  ·have bc:b=M:=by simp at a7;omega
   subst bc;rw[Nat.sub_self,List.replicate_zero,dP8,<-aN,dN8,aA]at W;simp only[m8,o6,simprocAttr,ca];refine⟨(g+1,U),by simp only[];omega,by simp only[];rw[B0 g (by omega)],by simp only[];omega,W,ap⟩
  have N:b<M:=by simpa using a7
  have al:=ak7 (d:=false) aN N (bU b N);have cs:(rk.take b++List.replicate (M-b) false).length=M:=by rw[dM7,dN9,dR7];omega
  generalize rk.take b++List.replicate (M-b) false=r at W al cs;have C:=(W.ext (o7.drew w9)).row g _ r Y (dT3 (by omega));simp only at C;have aZ:=C.inS (k:=b) (by omega);have b4:IntKind.i64.wrap (wy.n-1)=((M-1:Nat):Int):=by rw[M3 _ (by omega)];omega
  have sw:=c1 (λm=>o7 w9.drew m) w9.drew (o9.refl _) λm h=>b7 (D.trans (ap.trans ((o7.drew w9).trans h)));have tr:∀K f d w0,F3 prog (λm=>o7 w9.drew m) (Instr.loadAt 95 (.pointer (some (G4 vf g)))) K f d w0=K (C4 f d vr) w0:=λK f d w0=>B7 (w0:=w9.drew) (o9.refl _) λm h=>bv6 (W.outer.ext ((o7.drew w9).trans h)) Y aF5;have aY:=W.outer.inS (k:=g) (dM9.1 Y).1;have hV:(decide (g+1<M)||decide (g=b))=(decide ((g:Int)<((M-1:Nat):Int))||decide ((g:Int)=(b:Int))):=by
   congr 1
   ·rw[dR5];omega
   ·rw[dR5];omega
  rw[hV]at al;have bZ:=λV:Bool=>E4 (P:=prog) (t:=4) C rfl (k:=b) (by omega) (x:=.bool V) (y:=V) rfl rfl bz aW;rcases dM5 (decide ((g:Int)<((M-1:Nat):Int)))with hq|hq
  ·rw[hq,dY4]at al;obtain⟨ar,s2,aB,B,_⟩:=bZ true;have v:=(W.ext (o7.drew w9)).write Y B aB;rw[List.set_set,al]at v;have q:o7 L ar:=C.ext2 (ap.trans (o7.drew w9)) B;simp only[m8,simprocAttr,av];refine C0 (λm=>o7 w9.drew m) 17 (A5 [0,1,2,3,4,5,6,7,8,9,10,11,12,13,14,15,16]) ?_;simp only[D6,A5,m8,o6,y0,simprocAttr,q0,q6,q7,sw,tr,aY,b4,hq];simp only[m8,o6,simprocAttr,aZ,s2,av];refine⟨b+1,by omega,by rw[B0 b (by omega)],by omega,v,q⟩
  ·rw[hq,dZ4]at al;obtain⟨ar,s2,aB,B,_⟩:=bZ (decide ((g:Int)=(b:Int)));have v:=(W.ext (o7.drew w9)).write Y B aB;rw[List.set_set,al]at v;have q:o7 L ar:=C.ext2 (ap.trans (o7.drew w9)) B;simp only[m8,simprocAttr,av];refine C0 (λm=>o7 w9.drew m) 17 (A5 [0,1,2,3,4,5,6,7,8,9,10,11,12,13,14,15,16]) ?_;simp only[D6,A5,m8,o6,y0,simprocAttr,q0,q6,q7,sw,tr,aY,b4,hq];simp only[m8,o6,simprocAttr,aZ,s2,av];refine⟨b+1,by omega,by rw[B0 b (by omega)],by omega,v,q⟩
 have bx:g=M:=by simp at a6;omega
 subst bx;rw[Nat.sub_self,List.replicate_zero,dP8]at H;rw[dQ9 (by rw[ba];exact dO0 _)]at H;have bS:=H;have cQ:=aQ;generalize aq=c7 at bS;simp only[m8,simprocAttr];refine n9 [0,3,6] (σ:=(Nat×List U1)×(List (List Bool)×Bool)) (λs f m=>f 9 = .bool s.2.2/\I6 (i4 L) m 95 4 vf s.1.2 s.2.1/\o7 L m/\s.2.1=ad2 E (g-1) s.1.1 (T6 g)/\SqM g s.2.1/\cG0 g E s.2.1/\bb8 s.2.1+s.1.1<=g*g/\(s.2.2=false->O4 E s.2.1 (g-1)=s.2.1)) (λs=>if s.2.2 then bb8 s.2.1+1 else 0) ((0,c7),(T6 g,true)) ?_ ?_
 ·simp only[p8,simprocAttr];refine⟨by trivial,bS,cQ,rfl,aj0 _,bU1 _ _,?_,λh=>by cases h⟩;have:=cp3 g (T6 g) (aj0 g).row;rw[ba]at this;simpa using this
 rintro⟨⟨K,c8⟩,fm,tu⟩ f7 w7 hk ⟨h9,aC,Z,aJ,bY,aU,bs,aV⟩;simp only at h9 aC aJ bY aU bs aV;simp only[dM6,p8,simprocAttr]at hk;obtain⟨j0,j3,j6,_⟩:=hk;rw[g0]at j0;rw[g3]at j3;rw[g6]at j6;have cV:=aR w7 (b7 (D.trans Z));simp only[m8,simprocAttr,h9];refine n7 (λht=>?_) (λht=>?_);rotate_left
 ·have bb:=aV ht;have bW:wy.follow=fm:=by
   rw[hF,show g*g+1=K+(g*g+1-K) by omega,aI2,<-aJ,aU8 bb]
  simp only[m8,simprocAttr,j6];exact o8 results182 ⟨by rw[bW];exact aC.ro (b7 Z),D.trans Z⟩
 subst ht;have cP:IntKind.i64.wrap (wy.n-2)=((g-1:Nat):Int)-1:=by rw[M3 _ (by omega)];omega
 simp only[m8,o6,simprocAttr,j0,cV,cP];refine n9 [0,3,6] (σ:=(Nat×List U1)×(List (List Bool)×Bool)) (λs f m=>f 10 = .int .i64 ((s.1.1:Int)-1)/\s.1.1+1<=g/\f 9 = .bool s.2.2/\I6 (i4 L) m 95 4 vf s.1.2 s.2.1/\o7 L m/\O4 E s.2.1 s.1.1=O4 E fm (g-1)/\SqM g s.2.1/\cG0 g E s.2.1/\(s.2.2=false->s.2.1=fm)/\(s.2.2=true->bb8 s.2.1<bb8 fm)) (λs=>s.1.1) ((g-1,c8),(fm,false)) ?_ ?_
 ·simp only[p8,simprocAttr];exact⟨by trivial,by omega,by trivial,aC,Z,by trivial,bY,aU,λ_=>by trivial,λh=>by cases h⟩
 rintro⟨⟨J,ae⟩,gm,tv⟩ f8 w8 hk ⟨aa,hJ,aH,o,I,am,l,A,aI,aO⟩;simp only at aa hJ aH o am l A aI aO;simp only[dM6,p8,simprocAttr]at hk;obtain⟨m0,m3,m6,_⟩:=hk;rw[j0]at m0;rw[j3]at m3;rw[j6]at m6;simp only[m8,o6,simprocAttr,aa];refine n7 (λa8=>?_) (λa8=>?_);rotate_left
 ·have cq:J=0:=by simp at a8;omega
  subst cq;have a2:gm=O4 E fm (g-1):=am;cases tv with
  | false=>
   have e:=aI rfl;have bb:O4 E fm (g-1)=fm:=by rw[<-a2];exact e
   simp only[m8,o6,simprocAttr];refine⟨((K,ae),gm,false),by simp,aH,o,I,by rw[e];exact aJ,l,A,by rw[e];exact bs,λ_=>?_⟩;simp only[];rw[e];exact bb
  | true=>
   have e:=aO rfl;simp only[m8,o6,simprocAttr];refine⟨((K+1,ae),gm,true),by simp;omega,aH,o,I,?_,l,A,by simp only[];omega,λh=>by cases h⟩;simp only[];rw[aI2,<-aJ,a2];rfl
 obtain⟨j,rfl⟩:∃j,J=j+1:=⟨J-1,by simp at a8;omega⟩;have hj:j+1<g:=hJ;have aw:((j+1:Nat):Int)-1=(j:Int):=by omega
 rw[aw]at aa;obtain⟨un,cN,bt⟩:=R.row bf (show E[j]?=some (E.getD j []) by rw[List.getD,dM4 (by omega)];rfl);have bJ:E.getD j []∈E:=by rw[List.getD,dM4 (by omega)];exact dN5 _
 have bC:=bf.inS (k:=j) (by omega);have bG:=H7 (P:=prog) (t:=24) bt (b7 I) ad0;simp only[m8,o6,y0,simprocAttr,aw,aa,m3,m6,bC,bG];refine y5 (cj8 vf un g gm (E.getD j []) w8 (o.ro (b7 I)) (A4.mono (b7 I) cN) l (b8 _ bJ) (by omega) (by have:=bK _ bJ;omega)) ?_;rintro ul w9 ⟨bh,ap⟩;have bB:=bh.inS (k:=j) (by rw[af7,l.len];omega);obtain⟨ar,s1,G,B,_⟩:=E4 (P:=prog) (t:=4) bh rfl (k:=j) (by rw[af7,l.len];omega) (x:=.bool true) (y:=true) rfl rfl bz aW;have bI:(aa7 gm (E.getD j [])).set j true=Z5 E gm j:=rfl;rw[bI]at G;have q:o7 w8 ar:=bh.ext2 ap B;have ad:=I.trans q;have v:=o.ext q;have aT:=v.ro (b7 ad);obtain⟨hg,cC⟩:=l.get (a:=j) (by omega);obtain⟨ur,cO,cA⟩:=R.row aT hg;have ay:=H7 (P:=prog) (t:=95) cA (i5 _) aF5;have bA:=aT.inS (k:=j) (by rw[l.len];omega);simp only[m8,o6,y0,simprocAttr,bB,s1,aa,m6,bA,ay];refine y5 (cf4 ul ur (Z5 E gm j) (gm.getD j []) ar (G.rw_ (b7 q)) cO (by rw[aD2,l.len];omega) (by rw[cC];omega)) ?_;rintro _ dR ⟨rfl,F⟩;obtain⟨c2,c3,c4,c5⟩:=ck8 l A hj;have bX:O4 E gm (j+1)=O4 E (S9 E gm j) j:=rfl;rw[bX]at am;have b3:IntKind.i64.wrap ((j:Int)-1)=(j:Int)-1:=M3 _ (by omega);rcases dM5 (decide (Z5 E gm j=gm.getD j []))with he|he
 ·have cK:=c4 (dM8 he);rw[cK]at am;simp only[m8,o6,simprocAttr,he,aa,b3];refine⟨((j,ae),gm,tv),by simp,by trivial,by simp only[];omega,aH,v.ext F,ad.trans F,am,l,A,aI,aO⟩
 ·have a0:=c5 (dN2 he);have dl:ae.length=g:=by rw[o.len,l.len]
  obtain⟨u8,cL⟩:∃u,ae[j]?=some u:=⟨ae[j]'(by omega),dM4 (by omega)⟩;obtain⟨dS,s2,bT,bH,_⟩:=o.put (P:=prog) (t:=95) cL (o9.up (q.trans F)) ((G.ext F).back I) (λb z=>.inr (D0 (G.free z))) aX ax;have bD:=o.outer.inS (k:=j) (by omega);simp only[m8,o6,y0,simprocAttr,he,m6,bD,s2,aa,b3];refine⟨((j,ae.set j ⟨ul⟩),S9 E gm j,true),by simp,by trivial,by simp only[];omega,by trivial,bT,(o.outer.ext (q.trans F)).ext2 (ad.trans F) bH,am,c2,c3,(λh=>by cases h),λ_=>?_⟩;simp only[];cases tv with
  | false=>rw[aI rfl]at a0 ⊢;exact a0
  | true=>have:=aO rfl;omega
def bA0{n:Nat}{next:List (List Int)}{f:List (List Bool)}(b:SqM n f)(a:Nat):SqM n (S9 next f a):=by
 have e:S9 next f a=f.set a (Z5 next f a):=rfl
 rw[e];refine⟨by rw[dU0,b.len],λr c=>?_⟩;rcases dU4 c with h|h
 ·exact b.row r h
 ·rw[h,aD2,b.len]
def aI3{n:Nat}{next:List (List Int)}:∀(m:Nat) {f:List (List Bool)},SqM n f->SqM n (O4 next f m)
 | 0,_,h=>h
 | m+1,_,h=>aI3 m (bA0 h m)
def br4{n:Nat}{next:List (List Int)}{m:Nat}:∀(k:Nat) {f:List (List Bool)},SqM n f->SqM n (ad2 next m k f)
 | 0,_,h=>h
 | k+1,_,h=>br4 k (aI3 m h)
def cz7(wy:Wy):SqM wy.n.toNat wy.follow:=by
 unfold Wy.follow;exact br4 _ (aj0 _)
def ai2(f:List (List Bool))(M:Nat)(l:List (Int×Int))(a b:Nat):Bool:=decide (1<=b)&&decide (b+1<M)&&l.any λt=>decide (t.1=(a:Int))&&(mAt f t.2.toNat b&&(decide (a=b) || !mAt f a b))
def cy4(f:List (List Bool))(M:Nat)(l:List (Int×Int))(t:Int×Int)(a b:Nat):ai2 f M (l++[t]) a b=(ai2 f M l a b||(decide (1<=b)&&decide (b+1<M)&&decide (t.1=(a:Int))&&(mAt f t.2.toNat b&&(decide (a=b) || !mAt f a b)))):=by
 unfold ai2;rw[List.any_append];cases decide (1<=b)<;>cases decide (b+1<M)<;>simp
def aQ8{wy:Wy}{M:Nat}(d:wy.n=(M:Int)):wy.decides=(List.range M).flatMap λa=>((List.range M).filter λb=>ai2 wy.follow M (wy.pairs wy.aug) a b).map λ(b:Nat)=>(wy.place (a:Int),wy.place (b:Int)):=by
 unfold Wy.decides;simp only[];rw[d,dP0]
 congr 1
 funext a
 congr 1
 refine List.filter_congr λb e=>?_;unfold ai2;have c:decide ((b:Int)<(M:Int)-1)=decide (b+1<M):=by rw[dR5];omega
 rw[c];refine dO2 (λg=>decide (1<=b)&&decide (b+1<M)&&(wy.pairs wy.aug).any g) (funext λt=>?_);unfold atB mAt;rw[dP0,Bool.and_assoc]
theorem bL5{α:Type}{l:List α}{k:Nat}{d x:α}(h:l[k]?=some x):l.getD k d=x:=by rw[List.getD,h];rfl
def bQ2(a:Addr)(wy:Wy)(p:Pg)(i x y:Nat)(w:World)(ha:At (i4 w) a wy)(hr:D4 p)(hw:C5 p<=1000000)(hi:i<p.procs.length)(F:ao1 p i x y wy):
  p7 prog 135 #[.pointer (some a)] w λu w'=>(A8 (i4 w) w' 205 u wy.decides/\o7 w w'):=by
 refine p9 [.pointer (some a)] func135 rfl ?_;obtain⟨_,_,_,_,_,_,bm,dE⟩:=ha.wy;have c4:=J1 hr.may;have dc:=F.part.ok.len;have db:=F.part.ok.le;have hn:=F.n;have dt:=co3 hr hw hi F;have bA:=bJ4 hr hw hi F;have bN:=aX1 F.toWyOk bA;have cH:(wy.pairs wy.aug).length=wy.aug.length:=dN4 _;have aU:wy.n=((wy.n.toNat:Nat):Int):=by omega
 have J:=cz7 wy;have a7:wy.n.toNat<=202:=by omega
 have cm:2<=wy.n.toNat:=by omega
 generalize hM:wy.n.toNat=M at aU a7 cm J;have hF:=aQ8 aU;simp only[m8,o6,simprocAttr];refine y5 (cd1 a wy p i x y w ha hr hw hi F) ?_;rintro vf w1 ⟨aI,au⟩;generalize wy.follow=g at aI hF J;have cQ:=bm w1 (b7 au);have hz:A4.enc (i4 w1) (Value.slice none 0 0).cells.toList C8:=⟨rfl,rfl⟩;obtain⟨vo,w2,bJ,N,cN,_,_⟩:=mk (P:=prog) (w:=w1) (h:=i4 w1) dj0 bH5 (α:=U1) (y:=C8) hz (n:=M) (by omega) (by omega) (i5 _);rw[<-aU]at bJ;have bR:=af5 (α:=Bool) (T':=4) N;have br:=N.isS;have bL:vlen vo=M:=by rw[N.vlen,dR7]
 obtain⟨ib,cz,bD⟩:=az9 (P:=prog) T5 aE1;obtain⟨dx,bE,be⟩:=az9 (P:=prog) bH5 cu1;have b0:(List.replicate M (List.replicate M false)).length=M:=dR7;simp only[m8,o6,simprocAttr,cQ,bJ,br,bL];refine n9 [0,3,4,21] (σ:=Nat×List U1) (λs f w'=>f 22 = .int .i64 s.1/\s.1<=M/\I6 (i4 w1) w' 95 4 vo s.2 ((List.replicate M (List.replicate M false)).take s.1++List.replicate (M-s.1) [])/\o7 w1 w') (λs=>M-s.1) (0,List.replicate M C8) ?_ ?_
 ·simp only[p8,simprocAttr];exact⟨by trivial,dN6 _,by simpa using bR,cN⟩
 rintro⟨k,us⟩ f w3 hk ⟨a5,cA,O,av⟩;simp only at a5 cA O;simp only[dM6,p8,simprocAttr]at hk;obtain⟨e0,e3,e4,cg,_⟩:=hk;have cR:=bm w3 (b7 (au.trans av));simp only[m8,o6,simprocAttr,a5,cg];refine n7 (λhc=>?_) (λhc=>?_)
 ·have ab:k<M:=by simpa using hc
  obtain⟨vr,w4,a2,cF,S,bB,_⟩:=mk (P:=prog) (w:=w3) (h:=i4 w1) (α:=Bool) bw9 T5 (y:=false) rfl (n:=M) (by omega) (by omega) (b7 av);rw[<-aU]at a2;have cL:us.length=M:=by rw[O.len,dM7,dN9,dR7,dR7];omega
  obtain⟨u,hu⟩:∃u,us[k]?=some u:=⟨us[k]'(by omega),dM4 (by omega)⟩;have bf:=O.outer.inS (k:=k) (by omega);obtain⟨w5,s1,ac,cB,_⟩:=O.put (P:=prog) (t:=95) hu (o9.up S) cF (λb hb=>.inr (bB b hb)) bE be;rw[ak7 (d:=([]:List Bool)) b0 ab (by rw[dW9,if_pos ab])]at ac;simp only[m8,o6,y0,simprocAttr,a5,e0,e4,cR,a2,bf,s1];refine⟨(k+1,us.set k ⟨vr⟩),by omega,dO2 _ (B0 k (by omega)),by omega,ac,(O.outer.ext S).ext2 (av.trans S) cB⟩
 have o:k=M:=by simp at hc;omega
 subst o;rw[Nat.sub_self,List.replicate_zero,dP8,dQ9 (by rw[b0];exact dO0 _)]at O;simp only[m8,simprocAttr,e0];refine y5 (cn5 a wy p i x y w3 (ha.mono (b7 (au.trans av))) hr hw hi F) ?_;rintro ud w4 ⟨bM,S⟩;simp only[m8,simprocAttr];refine y5 (ap4 a wy p i x y ud _ w4 (ha.mono (b7 (au.trans (av.trans S)))) F.toWyOk (bM.rw_ (b7 S)) bA (by omega)) ?_;rintro uq w5 ⟨aV,bZ⟩;have ac:=O.ext (S.trans bZ);generalize wy.pairs wy.aug=l at aV hF bN cH;have bX:=av.trans (S.trans bZ);have aH:R (B6 w5 (L6 vo us)) uq l:=aV.flatRN λb hb=>D8 λcq=>by
  have T:=(O.ext S).lt cq;have h2:=D0 (aV.free hb);omega
 have al:∀b,L6 vo us b->i4 w1 b=none:=λb hb=>ac.free hb;have cL:us.length=k:=by rw[ac.len,dR7]
 have co:=aH.isS;have cD:=aH.vlen;have bw:∀A B,A<k->B<k->mAt (List.replicate k (List.replicate k false)) A B=ai2 g k [] A B:=λA B hA hB=>by
  unfold mAt ai2;rw[bL5 (show(List.replicate k (List.replicate k false))[A]?=some (List.replicate k false) by rw[dW9,if_pos hA]),bL5 (show(List.replicate k false)[B]?=some false by rw[dW9,if_pos hB])];simp
 have bT:SqM k (List.replicate k (List.replicate k false)):=⟨dR7,λr hr=>by rw[dT2 hr,dR7]⟩;simp only[m8,o6,simprocAttr,co,cD];refine n9 [0,3,4,37,38] (σ:=Nat×List (List Bool)) (λs f w'=>f 39 = .int .i64 s.1/\s.1<=l.length/\I6 (i4 w1) w' 95 4 vo us s.2/\o9 (L6 vo us) w5 w'/\SqM k s.2/\∀A B,A<k->B<k->mAt s.2 A B=ai2 g k (l.take s.1) A B) (λs=>l.length-s.1) (0,List.replicate k (List.replicate k false)) ?_ ?_
 ·simp only[p8,simprocAttr];exact⟨by trivial,dN6 _,ac,o9.refl _,bT,by simpa using bw⟩
 rintro⟨q,X⟩ f6 w6 hk ⟨aO,cI,aE,aT,Y,aA⟩;simp only at aO cI aE Y aA;simp only[dM6,p8,simprocAttr]at hk;obtain⟨g0,g3,g4,ci,cj,_⟩:=hk;rw[e0]at g0;rw[e3]at g3;rw[e4]at g4;have aL:o7 w1 w6:=o9.ext_of bX aT λb hb=>D0 (al b hb);simp only[m8,o6,simprocAttr,aO,cj];refine n7 (λa9=>?_) (λa9=>?_)
 ·have ab:q<l.length:=by simpa using a9
  have bf:=aH.inS ab;have bg:=cN6 aH (E1 aT) (dM4 ab);have bV:=dN3 ab;obtain⟨bP,bQ⟩:=bN _ (dN5 ab);generalize l[q]=t at bg bV bP bQ;obtain⟨z1,z2⟩:=t;simp only at bP bQ bg;obtain⟨A,rfl⟩:∃Q:Nat,z1=(Q:Int):=⟨z1.toNat,by omega⟩;obtain⟨C,rfl⟩:∃Q:Nat,z2=(Q:Int):=⟨z2.toNat,by omega⟩;have hA:A<k:=by omega
  have hC:C<k:=by omega
  have aS:∀A' B,ai2 g k (l.take (q+1)) A' B=(ai2 g k (l.take q) A' B||(decide (1<=B)&&decide (B+1<k)&&decide (A=A')&&(mAt g C B&&(decide (A'=B) || !mAt g A' B)))):=λA' B=>by
   rw[bV,cy4];simp only[dP0];have:decide ((A:Int)=(A':Int))=decide (A=A'):=by rw[dR5];omega
   rw[this]
  obtain⟨c,wz,w7,cp,bU,bk,bC,da⟩:=cV3 (w:=w6) (A:Int) (C:Int);have cJ:=aE.ext bk;have ct:¬L6 vo us c:=λhb=>by
   have:=aE.lt hb;omega
  have bY:=aL.trans bk;have bH:o9 (L6 vo us) w5 w7:=aT.chain (o9.up (M:=λ_=>False) bk) λ_ _ h=>h.elim;obtain⟨bd,aB⟩:=Y.get hA;obtain⟨uA,aW⟩:∃u,us[A]?=some u:=⟨us[A]'(by omega),dM4 (by omega)⟩;obtain⟨cy,c9⟩:=J.get hC;obtain⟨cx,c8⟩:=J.get hA;obtain⟨uC,bW,cs⟩:=R.row aI cy;obtain⟨dG,ad,aR⟩:=R.row aI cx;have L:=aI.inS (k:=C) (by rw[J.len];exact hC);have aC:=aI.inS (k:=A) (by rw[J.len];exact hA);have bF:=ao9 bC (M:=λ_=>False) (o9.refl w7) id;have cM:IntKind.i64.wrap (wy.n-1)=((k-1:Nat):Int):=by rw[M3 _ (by omega)];omega
  simp only[m8,o6,y0,simprocAttr,aO,ci,bf,bg,cp,bU,bF];refine n9 [0,3,4,7,8,37,38,39] (σ:=Nat×List Bool) (λs f w'=>f 9 = .int .i64 s.1/\1<=s.1/\s.1+1<=k/\I6 (i4 w1) w' 95 4 vo us (X.set A s.2)/\o9 (L6 vo us) w7 w'/\s.2.length=k/\∀B,B<k->s.2.getD B false=if B<s.1 then ai2 g k (l.take (q+1)) A B else ai2 g k (l.take q) A B) (λs=>k-s.1) (1,X.getD A []) ?_ ?_
  ·simp only[p8,simprocAttr];refine⟨by trivial,by simp,by omega,by rw[bZ8 bd];exact cJ,o9.refl _,aB,λB hB=>?_⟩;have T:=aA A B hA hB;unfold mAt at T;rw[T];split
   ·next dp=>
    have:B=0:=by omega
    subst this;rw[aS];simp
   ·rfl
  rintro⟨b,r⟩ f8 w8 hk ⟨h9,bx,a8,W,aq,ar,aF⟩;simp only at h9 bx a8 W ar aF;simp only[dM6,p8,simprocAttr]at hk;obtain⟨j0,j3,j4,j7,j8,dy,dz,b2,_⟩:=hk;rw[g0]at j0;rw[g3]at j3;rw[g4]at j4;rw[aO]at b2;have Z:o7 w1 w8:=o9.ext_of bY aq λb hb=>D0 (al b hb);have cS:=bm w8 (b7 (au.trans Z));have ah:=ao9 bC aq ct;have ak:=H7 (P:=prog) (t:=95) cs (b7 Z) aF5;have aj:=H7 (P:=prog) (t:=95) aR (b7 Z) aF5;simp only[m8,o6,simprocAttr,j0,h9,cS,cM];refine n7 (λba=>?_) (λba=>?_);rotate_left
  ·have dr:b+1=k:=by simp at ba;omega
   have bv:∀B,B<k->r.getD B false=ai2 g k (l.take (q+1)) A B:=λB hB=>by
    rw[aF B hB];split
    ·rfl
    ·rw[aS];have:decide (B+1<k)=false:=by simp;omega
     rw[this];simp
   simp only[m8,o6,simprocAttr,b2];refine⟨(q+1,X.set A r),by omega,dO2 _ (B0 q (by omega)),by omega,W,bH.chain aq λ_ _ h=>h,⟨by rw[dU0,Y.len],λs hs=>?_⟩,λA' B ck hB=>?_⟩
   ·rcases dU4 hs with h|h
    ·exact Y.row s h
    ·rw[h];exact ar
   ·unfold mAt;simp only[];rw[aY5 A' (by rw[Y.len];exact hA)];split
    ·next a6=>subst a6;exact bv B hB
    ·next a6=>
     have T:=aA A' B ck hB;unfold mAt at T;rw[T,aS];simp[a6]
  have bG:b+1<k:=by
   have:=dM8 ba;omega
  have bz:b<k:=by omega
  have af:=bW.inS (k:=b) (by omega);have j:=ldB bW (b7 Z) (k:=b) (by omega);have K:=ad.inS (k:=b) (by omega);have v:=ldB ad (b7 Z) (k:=b) (by omega);have o:∀r:List Bool,∀h:b<r.length,r[b]=r.getD b false:=λr h=>by simp[List.getD,h]
  rw[o]at j v;have cC:(g.getD C []).getD b false=mAt g C b:=rfl;have bh:(g.getD A []).getD b false=mAt g A b:=rfl;rw[cC]at j;rw[bh]at v;have cK:(X.set A r)[A]?=some r:=dT3 (by rw[Y.len];exact hA);have a3:=W.row A uA r aW cK;have bS:=aF b bz;rw[if_neg (Nat.lt_irrefl _)]at bS;have m:=aS A b;have cu:decide (1<=b)=true:=by simpa using bx
  have cv:decide (b+1<k)=true:=by simpa using bG
  rw[cu,cv]at m;simp only[decide_true,dT7]at m;have H:(mAt g C b&&(decide (A=b) || !mAt g A b))=false->∀B,B<k->r.getD B false=if B<b+1 then ai2 g k (l.take (q+1)) A B else ai2 g k (l.take q) A B:=λhf B hB=>by
   rw[aF B hB];by_cases T:B<b
   ·rw[if_pos T,if_pos (by omega)]
   ·rw[if_neg T];by_cases h2:B=b
    ·subst h2;rw[if_pos (by omega),m,hf,Bool.or_false]
    ·rw[if_neg (by omega)]
  have E:(mAt g C b&&(decide (A=b) || !mAt g A b))=true->∀B,B<k->(r.set b true).getD B false=if B<b+1 then ai2 g k (l.take (q+1)) A B else ai2 g k (l.take q) A B:=λhf B hB=>by
   rw[aY5 B (by omega)];by_cases T:b=B
   ·subst T;rw[if_pos rfl,if_pos (by omega),m,hf,dY5]
   ·rw[if_neg T,aF B hB];by_cases h2:B<b
    ·rw[if_pos h2,if_pos (by omega)]
    ·rw[if_neg h2,if_neg (by omega)]
  have aX:IntKind.i64.wrap ((b:Int)+1)=((b+1:Nat):Int):=B0 b (by omega);obtain⟨w9,s1,cE,bI,_⟩:=E4 (P:=prog) (t:=4) a3 rfl (k:=b) (by omega) (x:=.bool true) (y:=true) rfl rfl cz bD;have bj:=W.write aW bI cE;rw[List.set_set]at bj;have a1:o9 (L6 vo us) w7 w9:=aq.chain bI λz _ h=>.inr ⟨uA,dO4 aW,h⟩;have a0:=bv6 (P:=prog) (t:=95) W.outer aW aF5;have aZ:=W.outer.inS (k:=A) (by omega);have U:=a3.inS (k:=b) (by omega);have aQ:decide ((A:Int)=(b:Int))=decide (A=b):=by rw[dR5];omega
  generalize mAt g C b=vC at j H E m;generalize mAt g A b=vA at v H E m;generalize ds:decide (A=b)=dd at aQ H E m;rcases dM5 vC with T|T<;>subst T;rotate_left
  ·simp only[m8,o6,y0,simprocAttr,j3,j7,h9,ah,L,ak,af,j,aX];refine⟨(b+1,r),by omega,by trivial,by omega,by omega,W,aq,ar,H rfl⟩
  rcases dM5 dd with h2|h2<;>subst h2
  ·simp only[m8,o6,y0,simprocAttr,j3,j4,j7,j8,h9,ah,L,ak,af,j,aQ,aX,aZ,a0,U,s1];refine⟨(b+1,r.set b true),by omega,by trivial,by omega,by omega,bj,a1,by rw[dU0];exact ar,E rfl⟩
  rcases dM5 vA with h3|h3<;>subst h3
  ·simp only[m8,o6,y0,simprocAttr,j3,j7,j8,h9,ah,L,ak,af,j,aQ,aX,aC,aj,K,v];refine⟨(b+1,r),by omega,by trivial,by omega,by omega,W,aq,ar,H rfl⟩
  ·simp only[m8,o6,y0,simprocAttr,j3,j4,j7,j8,h9,ah,L,ak,af,j,aQ,aX,aC,aj,K,v,aZ,a0,U,s1];refine⟨(b+1,r.set b true),by omega,by trivial,by omega,by omega,bj,a1,by rw[dU0];exact ar,E rfl⟩
 have o:q=l.length:=by simp at a9;omega
 subst o;rw[dN8]at aA;have bs:=aE.ro (b7 aL);have aJ:=au.trans aL;have bu:=ha.mono (b7 aJ);clear aE aT aH aV ac O bR bM;generalize hG:(λa:Nat=>((List.range k).filter λb=>ai2 g k l a b).map λ(b:Nat)=>(wy.place (a:Int),wy.place (b:Int)))=G at hF;have bq:∀A,G A=((List.range k).filter λb=>ai2 g k l A b).map λ(b:Nat)=>(wy.place (A:Int),wy.place (b:Int)):=λA=>by rw[<-hG]
 have cl:∀A,(G A).length<=k:=λA=>by
  rw[bq,dN4];exact dN1 (dP3 _ _) (by simp)
 have bO:∀A,A<=k->((List.range A).flatMap G).length<=202*202:=λA hA=>dN1 (N5 G k _ λx _=>cl x) (by rw[dR3];exact Nat.mul_le_mul (by omega) (by omega));simp only[m8,o6,simprocAttr,g4,br,bL];refine n9 [0,4,85] (σ:=Nat×Value) (λs f w'=>f 86 = .int .i64 s.1/\f 10=s.2/\s.1<=k/\A8 (i4 w6) w' 205 s.2 ((List.range s.1).flatMap G)/\o7 w6 w') (λs=>k-s.1) (0,.slice none 0 0) ?_ ?_
 ·simp only[p8,simprocAttr];exact⟨by trivial,by trivial,dN6 _,by simpa using A8.nil _ _ _,o9.refl _⟩
 rintro⟨A,u⟩ f9 w9 hk ⟨aP,a4,bp,ho,bl⟩;simp only at aP a4 bp ho;simp only[dM6,p8,simprocAttr]at hk;obtain⟨m0,m4,b3,_⟩:=hk;rw[g0]at m0;rw[g4]at m4;simp only[m8,o6,simprocAttr,aP,b3];refine n7 (λbb=>?_) (λbb=>?_);rotate_left
 ·have o:A=k:=by simp at bb;omega
  subst o;simp only[m8,simprocAttr,a4];exact o8 results135 ⟨by rw[hF];exact ho.backN aJ,aJ.trans bl⟩
 have hA:A<k:=by simpa using bb
 obtain⟨bd,aB⟩:=Y.get hA;obtain⟨uA,ad,aR⟩:=R.row bs bd;have aj:=H7 (P:=prog) (t:=95) aR (b7 bl) aF5;have K:=bs.inS (k:=A) (by rw[Y.len];exact hA);have cn:=ad.isS;have bK:=ad.vlen;rw[aB]at bK;have cG:=bO A bp;have am:(List.range (A+1)).flatMap G=(List.range A).flatMap G++G A:=by rw[dW7,dZ6];simp
 generalize(List.range A).flatMap G=pre at ho cG am;simp only[m8,o6,y0,simprocAttr,aP,m4,K,aj,cn,bK];refine n9 [0,4,11,85,86,93] (σ:=Nat×Value) (λs f w'=>f 94 = .int .i64 s.1/\f 10=s.2/\s.1<=k/\A8 (i4 w6) w' 205 s.2 (pre++((List.range s.1).filter λb=>ai2 g k l A b).map λ(b:Nat)=>(wy.place (A:Int),wy.place (b:Int)))/\o7 w6 w') (λs=>k-s.1) (0,u) ?_ ?_
 ·simp only[p8,simprocAttr];exact⟨by trivial,a4,dN6 _,by simpa using ho,bl⟩
 rintro⟨b,u2⟩ dn cZ hk ⟨az,ae,a8,N,I⟩;simp only at az ae a8 N;simp only[dM6,p8,simprocAttr]at hk;obtain⟨n0,n4,b4,cW,b5,cX,_⟩:=hk;rw[m0]at n0;rw[m4]at n4;rw[b3]at cW;rw[aP]at b5;have c7:(((List.range b).filter λb=>ai2 g k l A b).map λ(b:Nat)=>(wy.place (A:Int),wy.place (b:Int))).length<=b:=by
  rw[dN4];exact dN1 (dP3 _ _) (by simp)
 simp only[m8,o6,simprocAttr,az,cX];refine n7 (λbc=>?_) (λbc=>?_);rotate_left
 ·have o:b=k:=by simp at bc;omega
  subst o;simp only[m8,o6,simprocAttr,b5];refine⟨(A+1,u2),by omega,dO2 _ (B0 A (by omega)),ae,by omega,?_,I⟩;simp only[];rw[am,bq];exact N
 have hb:b<k:=by simpa using bc
 have U:=ad.inS (k:=b) (by omega);have V:=ldB ad (b7 I) (k:=b) (by omega);have o:∀r:List Bool,∀h:b<r.length,r[b]=r.getD b false:=λr h=>by simp[List.getD,h]
 rw[o]at V;have bh:(X.getD A []).getD b false=ai2 g k l A b:=aA A b hA hb;rw[bh]at V;have aG:(((List.range (b+1)).filter λb=>ai2 g k l A b).map λ(b:Nat)=>(wy.place (A:Int),wy.place (b:Int)))=(((List.range b).filter λb=>ai2 g k l A b).map λ(b:Nat)=>(wy.place (A:Int),wy.place (b:Int)))++if ai2 g k l A b then[(wy.place (A:Int),wy.place (b:Int))]else[]:=by
  rw[dW7,dS4,dP6]
  congr 1
  cases h:ai2 g k l A b<;>simp[h]
 have aD:=H7 (P:=prog) (t:=95) aR (b7 I) aF5;generalize ai2 g k l A b=D at V aG;rcases dM5 D with T|T<;>subst T;rotate_left
 ·simp only[m8,o6,y0,simprocAttr,az,n4,b4,K,aD,U,V];refine⟨(b+1,u2),by omega,dO2 _ (B0 b (by omega)),ae,by omega,?_,I⟩;simp only[];rw[aG,if_neg (by simp),dP8];exact N
 ·simp only[m8,o6,y0,simprocAttr,az,ae,n0,n4,b4,K,aD,U,V];refine B9 (ae8 a wy p i x y (A:Int) cZ (bu.mono (b7 I)) F.toWyOk (by omega)) (λc0 an=>?_);simp only[m8,simprocAttr,n0];refine B9 (ae8 a wy p i x y (b:Int) c0 (bu.mono (b7 (I.trans an))) F.toWyOk (by omega)) (λdM aK=>?_);have aM:=I.trans (an.trans aK);obtain⟨p1,u',dN,p2,p3,p4,p5⟩:=push (e:=203) dz0 rfl (N.ext (an.trans aK)) (x:=.agg #[.int .i64 (wy.place (A:Int)),.int .i64 (wy.place (b:Int))]) (y:=(wy.place (A:Int),wy.place (b:Int))) (dh3 _ _) (by rw[dM7];omega) (by rw[dM7];omega) (b7 aM);simp only[m8,o6,simprocAttr,az,bJ9,p1,p2];refine⟨(b+1,u'),by omega,dO2 _ (B0 b (by omega)),by trivial,by omega,?_,(N.ext (an.trans aK)).ext2 aM p4⟩;simp only[];rw[aG,if_pos rfl,<-dP5];exact p3
def bT4{α:Type}(P:α->Bool):∀(l:List α) (i:Nat) {f:α},l.find? P=some f->∃k,l[k]?=some f/\aa1 P i l=((i+k:Nat):Int)
 | [],i,f,h=>by simp at h
 | x::l,i,f,h=>by
  rw[List.find?_cons]at h;rw[aa1];split at h
  ·next a=>exact⟨0,by simpa using h,by rw[if_pos a];rfl⟩
  ·next a=>
   obtain⟨k,b,c⟩:=bT4 P l (i+1) h;exact⟨k+1,by simpa using b,by rw[if_neg (by simp[a]),c];congr 1;omega⟩
structure aw1 (p:Pg) (s:St) (k:Nat):Prop where
 lt:k<p.procs.length
 idx:ac4 p.procs s.proc=(k:Int)
 fn:dm0 p s.proc=p.procs[k]
 len:p.procs[k].params.length=s.args.length
 ref:∀j (h1:j<s.args.length) (h2:j<p.procs[k].params.length),p.procs[k].params[j].ref=s.args[j].ref
def cv3{α β:Type}(g:α×β->Bool):∀(l:List α) (m:List β),(l.zip m).all g=true->∀j (a:j<l.length) (b:j<m.length),g (l[j],m[j])=true
 | x::l,y::m,h,0,_,_=>by
  simp only[List.zip_cons_cons,List.all_cons,dO8]at h;exact h.1
 | x::l,y::m,h,j+1,a,b=>by
  simp only[List.zip_cons_cons,List.all_cons,dO8]at h;exact cv3 g l m h.2 j (by simpa using a) (by simpa using b)
def U6{p:Pg}{s:St}(h:ag9 p s=true):∃k,aw1 p s k:=by
 unfold ag9 at h;rw[dO8]at h;cases hf:p.procs.find? λf=>decide (f.name=s.proc)with
 | none=>rw[hf]at h;simp at h
 | some f=>
  rw[hf]at h;obtain⟨k,c,d⟩:=bT4 _ p.procs 0 hf;obtain⟨e,rfl⟩:=dM9.1 c;have b:=h.2;unfold bw0 at b;simp only[dO8,dQ3]at b;have a:ac4 p.procs s.proc=(k:Int):=by unfold ac4;rw[d];simp
  refine⟨k,e,a,?_,b.1,λj c d=>?_⟩
  ·unfold dm0;rw[a,dP0,List.getD,dM4 e];rfl
  ·have:=cv3 _ _ _ b.2 j d c;simpa using this
def aw1.pr{p:Pg}{s:St}{k:Nat}(h:aw1 p s k):(b9 p).pr s.proc=(k:Int):=by
 unfold Sh.pr;rw[K9];exact h.idx
theorem aY1{α:Type}{l:List (List α)}{k:Nat}(a:k<l.length):G2 l (k:Int)=l[k]:=by
 unfold G2;rw[dP0,List.getD,dM4 a];rfl
def cD2{α:Type}{l:List (List α)}{k:Nat}(a:k<l.length):l[k]?=some (G2 l (k:Int)):=by
 rw[aY1 a,dM4 a]
def bV7{P:Program}{c:Code}{Q:Exit->Fr->World->Prop}{f:Fr}{w:World}(a:List Nat)(J:Fr->World->Prop)
  (k:CW P c (af8 J Q) f w) (l:∀b d,(∀i∈a,b i=f i)->J b d->Q .normal b d) (j:a.all (λi=>!(wrC c).contains i)=true:=by decide +kernel):CW P c Q f w:=by
 refine cF6 c (af8 J Q) _ f w (λe b d m h=>?_) k;have g:∀i∈a,b i=f i:=λi n=>m i λhm=>by
  have:=dW0.1 j i n;simp[hm]at this
 cases e
 case normal=>exact l b d g h
 all_goals exact h
structure cv6 (p:Pg) (b:Bk):Prop where
 s:b.s=b9 p
 outs:M8 p.procs.length 25 b.outs
 ins:M8 p.procs.length 25 b.ins
def M8.row{n B:Nat}{X:Rws}(h:M8 n B X){k:Nat}(d:k<n):X[k]?=some (G2 X (k:Int))/\(G2 X (k:Int)).Pairwise (λa b=>ltS a b=true)/\(G2 X (k:Int)).length<=B:=by
 have c:k<X.length:=by rw[h.len];exact d
 have e:=aY1 c;exact⟨cD2 c,by rw[e];exact h.rise _ (dN5 c),by rw[e];exact h.few _ (dN5 c)⟩
def aj6{h:Hp}{w:World}{v:Value}{l:List A6}(k:A8 h w 9 v l)(g:l.length<=1000000000):
  p7 prog 120 #[v] w λu i=>(A8 h i 9 u (D7 l)/\o9 (A3 v) w i/\F0 w v u):=by
 refine p9 [v] func120 rfl ?_;simp only[m8,o6,simprocAttr];refine y5 (aj5 k g) ?_;rintro _ m ⟨e,a⟩;simp only[m8,simprocAttr];refine y5 (bc1 e (by rw[U0];exact g)) ?_;rintro u n ⟨f,c,d⟩;simp only[m8,simprocAttr];refine o8 results120 ?_;simp only[p8,simprocAttr];refine⟨f,a.chain c λ_ _ h=>h,λb j=>?_⟩;rcases d b j with h|h
 ·exact .inl h
 ·exact .inr (dN1 a.size h)
def At.book{p:Pg}{h:Hp}{a:Addr}{b:Bk}(t:At h a b)(u:b.s=b9 p):∃(c:Addr) (g i j k l:Value),At h c (b9 p)/\R h g b.wp/\R h i b.defs/\R h j b.uses/\R h k b.ins/\R h l b.outs /\
  (∀w,B5 h (i4 w)->(Instr.loadAt 116 (.pointer (some a))).run prog w = .ok (.pointer (some c)) w/\(Instr.loadAt 134 (.pointer (some (a.add 1)))).run prog w = .ok g w/\(Instr.loadAt 135 (.pointer (some (a.add 2)))).run prog w = .ok i w/\(Instr.loadAt 135 (.pointer (some (a.add 3)))).run prog w = .ok j w/\(Instr.loadAt 135 (.pointer (some (a.add 4)))).run prog w = .ok k w/\(Instr.loadAt 135 (.pointer (some (a.add 5)))).run prog w = .ok l w) /\
  (∀(S:World->Prop) (y:World),S y->(∀w,S w->B5 h (i4 w))->(∀K f d w,F3 prog S (Instr.loadAt 116 (.pointer (some a))) K f d w=K (C4 f d (.pointer (some c))) w)/\(∀K f d w,F3 prog S (Instr.loadAt 134 (.pointer (some (a.add 1)))) K f d w=K (C4 f d g) w)/\(∀K f d w,F3 prog S (Instr.loadAt 135 (.pointer (some (a.add 2)))) K f d w=K (C4 f d i) w)/\(∀K f d w,F3 prog S (Instr.loadAt 135 (.pointer (some (a.add 3)))) K f d w=K (C4 f d j) w)/\(∀K f d w,F3 prog S (Instr.loadAt 135 (.pointer (some (a.add 4)))) K f d w=K (C4 f d k) w)/\(∀K f d w,F3 prog S (Instr.loadAt 135 (.pointer (some (a.add 5)))) K f d w=K (C4 f d l) w)):=by
 obtain⟨z,g,i,j,k,l,m,n,o,q,r,s,v,x⟩:=t.bk;obtain⟨c,rfl,has⟩:=Ptr.at_ m;have e:At h c (b9 p):=by rw[<-u];exact has
 exact⟨c,g,i,j,k,l,e,n,o,q,r,s,v,x⟩
def bw2{P:Program}{h:Hp}{v u:Value}{t:TypeId}{k:Nat}(c:L3 h (G4 v k)=some u)(e:I7 P t=false)(S:World->Prop)(w0:World)(b:S w0)(hS:∀w,S w->B5 h (i4 w)):
  ∀K f d w,F3 P S (Instr.loadAt t (.pointer (some (G4 v k)))) K f d w=K (C4 f d u) w:=λK f d w=>B7 b λg a=>H7 c (hS g a) e
def aP9(a:Addr)(b:Bk)(p:Pg)(n:A6)(w:World)(i:At (i4 w) a b)(j:b.s=b9 p)(d:N2 p=true):
  p7 prog 170 #[.pointer (some a),p6 n] w λu q=>(u = .bool (O7 p n)/\q=w):=by
 refine p9 [.pointer (some a),p6 n] func170 rfl ?_;obtain⟨r,_,_,_,_,_,has,_,_,_,_,_,f,_⟩:=i.book j;obtain⟨_,_,_,_,_,_,c,_,_⟩:=has.sh;rw[K9]at c;obtain⟨o,s,e,k,g,_⟩:=c.pg;have l:=f w (i5 _);have m:=g w (i5 _);have h:O7 p n=(decide (n=ofA #[36,105,110])||p.globals.contains n):=rfl;rcases dM5 (decide (n=ofA #[36,105,110]))with h1|h1
 ·simp only[m8,o6,simprocAttr,h1];exact o8 results170 ⟨by rw[h,h1];rfl,rfl⟩
 ·simp only[m8,o6,simprocAttr,h1,l,m];refine E0 (P6 o p.globals n w e (by have:=(W2 d).1;omega)) ?_;simp only[m8,simprocAttr];exact o8 results170 ⟨by rw[h,h1];rfl,rfl⟩
def aq8(a:Addr)(b:Bk)(p:Pg)(v:Value)(s:St)(w:World)(o:At (i4 w) a b)(q:b.s=b9 p)(j:N2 p=true)(hv:SV (i4 w) v s):
  p7 prog 173 #[.pointer (some a),v] w λu e=>(u = .int .i64 ((b9 p).pr s.proc)/\o7 w e):=by
 refine p9 [.pointer (some a),v] func173 rfl ?_;obtain⟨x,_,_,_,_,_,has,_,_,_,_,_,_,m⟩:=o.book q;obtain⟨c,f,i,k,g⟩:=ao2 hv (i5 _);obtain⟨_,_,_,_,_,_,_,_,_,_,n⟩:=g.st;have d:=k.trans (o7.drew f);have r:=n (λe=>o7 f.drew e) f.drew (o9.refl _) λe h=>b7 ((o7.drew f).trans h);have t:=m (λe=>o7 f.drew e) f.drew (o9.refl _) λe h=>b7 (d.trans h);simp only[m8,o6,simprocAttr,i];refine C0 (λe=>o7 f.drew e) 6 (A5 [0,1,2,3,4,5]) ?_;simp only[D6,A5,m8,o6,simprocAttr,r,t];refine B9 (at0 x (b9 p) s.proc f.drew (has.mono (b7 d)) (by rw[K9];have:=(W2 j).2;omega)) (λy l=>?_);simp only[m8,simprocAttr];exact o8 results173 ⟨rfl,d.trans l⟩
def cW0:=zJ (zJ (zJ (zJ (zJ (zJ @dC3 @ds9) (zJ @dq5 (zJ @ds8 @dC1))) (zJ (zJ @ds6 @ds7) (zJ @dC2 (zJ @dz7 @dz6)))) (zJ (zJ (zJ @dz8 @dz9) (zJ @dr0 (zJ @dq9 @dr1))) (zJ (zJ @dr2 @du8) (zJ @du7 (zJ @dC6 @dG2))))) (zJ (zJ (zJ (zJ @dK2 @ds3) (zJ @dF2 (zJ @ds4 @dF3))) (zJ (zJ @dI5 @dK7) (zJ @dd0 (zJ @dx8 @dd1)))) (zJ (zJ (zJ @dx9 @dy0) (zJ @dn8 (zJ @di4 @di3))) (zJ (zJ @dx7 @dI7) (zJ @dI6 (zJ @dn7 @dI9)))))) (zJ (zJ (zJ (zJ (zJ @dI8 @dF0) (zJ @cW7 (zJ @dw9 @dI0))) (zJ (zJ @dc8 @dr9) (zJ @dn3 (zJ @dH5 @dI1)))) (zJ (zJ (zJ @dr8 @dE9) (zJ @dx1 (zJ @dE8 @ev.eq_1))) (zJ (zJ @ev.eq_2 @ev.eq_3) (zJ @ev.eq_4 (zJ @C4.eq_1 @C4.eq_2))))) (zJ (zJ (zJ (zJ @dK1 @dI2) (zJ @dJ1 (zJ @dJ2 @List.map_cons.{0,0}))) (zJ (zJ @List.map_nil.{0,0} @List.map_toArray.{0,0}) (zJ @bQ9.eq_1 (zJ @bQ9.eq_2 @dm1)))) (zJ (zJ (zJ @dD9 @dE0) (zJ @cL6.eq_1 (zJ @List.getElem?_toArray.{0} @List.getElem?_cons_zero.{0}))) (zJ (zJ @List.getElem?_cons_succ.{0} @Option.bind_some.{0,0}) (zJ @Option.some.injEq.{0} (zJ @dS7 @Bool.true_eq_false))))))
def aH8{α β:Type}(P:α->Bool)(g:α->β)(l:List α){k:Nat}(a:k<l.length):((l.take (k+1)).filter P).map g=((l.take k).filter P).map g++if P l[k]then[g l[k]]else[]:=by
 rw[dN3 a,dS4,dP6]
 congr 1
 cases h:P l[k]<;>simp[h]
def al6{α:Type}(P:α->Bool)(l:List α){k:Nat}(a:k<l.length):(l.take (k+1)).filter P=(l.take k).filter P++if P l[k]then[l[k]]else[]:=by
 rw[dN3 a,dS4]
 congr 1
 cases h:P l[k]<;>simp[h]
def pushS{h:Hp}{w:World}{v:Value}{l:List A6}(c:A8 h w 9 v l)(x:A6)(d:l.length<=100000000)(hw:B5 h (i4 w)){e:TypeId}:
  (Instr.buildSlice 31 1 #[(0,p6 x)]).run prog w = .ok (.slice (some ⟨w.heap.size,0,none⟩) 1 1) (w.alloc (.cells #[p6 x] 9)) /\
  ∃a b,(Builtin.append_ #[31,31] e #[v,.slice (some ⟨w.heap.size,0,none⟩) 1 1]).run prog (w.alloc (.cells #[p6 x] 9)) = .ok a b/\A8 h b 9 a (l++[x])/\o9 (A3 v) w b/\F0 w v a:=by
 have:=push (P:=prog) (e:=e) at4 rfl c (x:=p6 x) (y:=x) rfl (by omega) (by omega) hw;exact this
def ce0(a:Addr)(b:Bk)(p:Pg)(v:Value)(s:St)(w:World)(ha:At (i4 w) a b)(V:cv6 p b)(aq:N2 p=true)(hv:SV (i4 w) v s)(bL:R4 s<=1000000)(aC:ag9 p s=true):
  p7 prog 169 #[.pointer (some a),v] w λu l=>(A8 (i4 w) l 9 u (ao3 p b.outs s)/\o7 w l):=by
 refine p9 [.pointer (some a),v] func169 rfl ?_;obtain⟨k,y⟩:=U6 aC;have bv:=y.lt;obtain⟨sh,_,_,_,_,vo,has,_,_,_,_,aJ,bi,bk⟩:=ha.book V.s;obtain⟨_,_,_,_,_,_,aI,_,_⟩:=has.sh;rw[K9]at aI;obtain⟨vg,vp,bK,aK,bQ,bm⟩:=aI.pg;obtain⟨O,N,aB⟩:=V.outs.row y.lt;have bJ:=R1 aq y.lt;have hF:ao3 p b.outs s=(if s.name=e0 then[]else[s.name])++(((s.args.zip p.procs[k].params).filter λx=>x.1.ref&&(G2 b.outs (k:Int)).contains x.2.name).map λx=>x.1.name)++(G2 b.outs (k:Int)).filter (O7 p):=by
  unfold ao3;rw[y.fn,y.idx]
 have a8:=y.pr;generalize G2 b.outs (k:Int)=g at O N aB hF;obtain⟨uo,Q,aA⟩:=R.row aJ O;have ab:=aJ.inS (k:=k) (dM9.1 O).1;have aa:=aK.at_ (i:=k) (x:=p.procs[k]) (dM4 y.lt);have aF:=aK.inS (k:=k) y.lt;have be:A4.sz Pr=5:=rfl;rw[be]at aa;obtain⟨bY,_,_,_,ah,_,_,_,bR,bn⟩:=aa.pr;obtain⟨c,H,a5,G,ax⟩:=ao2 hv (i5 _);obtain⟨_,va,_,_,_,X,_,_,_,aP,_⟩:=ax.st;obtain⟨sv,W,aQ,_⟩:=ax.st_v;have l1:=aP H (i5 _);have bw:=y.len;generalize al:(if s.name=e0 then[]else[s.name])=L1 at hF;have bt:L1.length<=1:=by rw[<-al];split<;>simp
 simp only[cW0,o6,simprocAttr,a5,l1];refine bV7 [0,3] (λf' l=>A8 (i4 H) l 9 (f' 5) L1/\o7 H l) ?_ ?_
 ·rcases dM5 (decide (s.name=ofA #[]))with I|I
  ·simp only[m8,o6,simprocAttr,I];refine⟨?_,o9.refl _⟩;rw[<-al,if_pos (dM8 I)];exact A8.nil _ _ _
  ·obtain⟨p1,u2,w2,p2,p3,p4,p5⟩:=pushS (e:=31) (A8.nil (i4 H) H 9) s.name (by simp) (i5 _);simp only[m8,o6,simprocAttr,I,l1,p1,p2];refine⟨?_,(A8.nil (α:=A6) (i4 H) H 9).ext2 (o9.refl _) p4⟩;rw[<-al,if_neg (dN2 I)];exact p3
 rintro f w2 hk ⟨ho,T⟩;simp only[dM6,p8,simprocAttr]at hk;obtain⟨av,e3,_⟩:=hk;have l2:=aQ w2 (b7 T);have aL:=G.trans T;generalize h5:f 5=u2 at ho;simp only[m8,simprocAttr,av,e3,l2];refine B9 (aq8 a b p sv s w2 (ha.mono (b7 aL)) V.s aq (W.mono (b7 T))) (λw3 au=>?_);rw[a8];have l3:=aP w3 (b7 (T.trans au));have a2:=X.isS;have ba:=X.vlen;have bM:(s.args.zip p.procs[k].params).length=s.args.length:=by rw[List.length_zip];omega
 have aM:=T.trans au;simp only[m8,o6,simprocAttr,e3,l3,a2,ba];refine n9 [0,3,6,23,24] (σ:=Nat×Value) (λo f l=>f 25 = .int .i64 o.1/\f 5=o.2/\o.1<=s.args.length/\A8 (i4 H) l 9 o.2 (L1++(((s.args.zip p.procs[k].params).take o.1).filter λx=>x.1.ref&&g.contains x.2.name).map λx=>x.1.name)/\o7 H l) (λo=>s.args.length-o.1) (0,u2) ?_ ?_
 ·simp only[p8,simprocAttr];exact⟨by trivial,h5,dN6 _,by simpa using ho.ext au,aM⟩
 rintro⟨j,u⟩ f2 w4 hk ⟨A,J,a7,M,C⟩;simp only at A J a7 M;simp only[dM6,p8,simprocAttr]at hk;obtain⟨g0,g3,g6,aw,a0,_⟩:=hk;rw[av]at g0;have S:=G.trans C;have az:((((s.args.zip p.procs[k].params).take j).filter λx=>x.1.ref&&g.contains x.2.name).map λx=>x.1.name).length<=j:=by
  rw[dN4];refine dN1 (dP3 _ _) ?_;rw[dN9];omega
 simp only[m8,o6,simprocAttr,A,a0];refine n7 (λhc=>?_) (λhc=>?_)
 ·have E:j<s.args.length:=by simpa using hc
  have ae:j<p.procs[k].params.length:=by omega
  have aH:j<(s.args.zip p.procs[k].params).length:=by omega
  have aE:=X.inS E;obtain⟨sv,W,ap⟩:=F9 (P:=prog) (t:=124) X (b7 C) (dM4 E) aK3 aK4 aE0 X1;rw[X1]at ap;have m:=aH8 (λx:Ar×Pa=>x.1.ref&&g.contains x.2.name) (λx=>x.1.name) _ aH;rw[List.getElem_zip]at m;simp only at m;have B:=ah.at_ (i:=j) (x:=p.procs[k].params[j]) (dM4 ae);have ao:=ah.inS (k:=j) ae;have bd:A4.sz Pa=2:=rfl;rw[bd]at B;obtain⟨aO,ak⟩:=B.pa;generalize p.procs[k].params[j]=pa at B aO ak m;generalize s.args[j]=ag at W m;obtain⟨d,wz,r,Z,af,aN,ay⟩:=ba0 (W.mono (b7 C)) (i5 _);obtain⟨_,bj,bl⟩:=ay.ar;have aj:=S.trans (aN.trans (o7.drew r));have t1:=bl (λl=>o7 r.drew l) r.drew (o9.refl _) λl h=>b7 ((o7.drew r).trans h);have hh:∀l,o7 r.drew l->B5 (i4 w) (i4 l):=λl h=>b7 (aj.trans h);have t2:=bk (λl=>o7 r.drew l) r.drew (o9.refl _) hh;have t3:=bm (λl=>o7 r.drew l) r.drew (o9.refl _) hh;have t4:=bn (λl=>o7 r.drew l) r.drew (o9.refl _) hh;have t5:=ak (λl=>o7 r.drew l) r.drew (o9.refl _) hh;have t6:=bw2 (P:=prog) (t:=31) aA O0 (λl=>o7 r.drew l) r.drew (o9.refl _) hh;have D:=aN.trans (o7.drew r);have ar:=M.ext D;have L:(ag.ref&&g.contains pa.name)=false->∀Y,o7 r.drew Y->∃o:Nat×Value,s.args.length-o.1<s.args.length-j/\(Value.int .i64 (IntKind.i64.wrap ((j:Int)+1)) = .int .i64 o.1/\u=o.2/\o.1<=s.args.length/\A8 (i4 H) Y 9 o.2 (L1++(((s.args.zip p.procs[k].params).take o.1).filter λx=>x.1.ref&&g.contains x.2.name).map λx=>x.1.name)/\o7 H Y):=λhf Y z=>by
   refine⟨(j+1,u),by omega,dO2 _ (B0 j (by omega)),by trivial,by omega,?_,C.trans (D.trans z)⟩;simp only[];rw[m,hf,if_neg (by simp),dP8];exact ar.ext z
  rcases dM5 ag.ref with I|I;rotate_left
  ·rw[I]at t1;simp only[m8,o6,y0,simprocAttr,A,aw,aE,ap,Z,af];refine C0 (λl=>o7 r.drew l) 26 (A5 [0,1,2,3,4,5,6,7,8,9,10,11,12,13,14,15,16,17,18,19,20,21,22,23,24,25]) ?_;simp only[D6,A5,m8,o6,simprocAttr,t1,A,J];exact L (by rw[I];rfl) _ (o9.refl _)
  ·rw[I]at t1;simp only[m8,o6,y0,simprocAttr,A,aw,aE,ap,Z,af];refine C0 (λl=>o7 r.drew l) 26 (A5 [0,1,2,3,4,5,6,7,8,9,10,11,12,13,14,15,16,17,18,19,20,21,22,23,24,25]) ?_;simp only[D6,A5,m8,o6,y0,simprocAttr,t1,t2,t3,t4,t5,t6,ab,aF,ao,g0,g6];refine E0 (af2 uo g pa.name r.drew (A4.mono (b7 aj) Q) (by omega) N) ?_;have a6:(ag.ref&&g.contains pa.name)=g.contains pa.name:=by rw[I];rfl
   rw[a6]at m L;rcases dM5 (g.contains pa.name)with h2|h2;rotate_left
   ·simp only[m8,o6,simprocAttr,h2,A,J];exact L h2 _ (o9.refl _)
   ·have l5:=bj r.drew (b7 (o7.drew r));obtain⟨p1,u6,Y,p2,p3,p4,p5⟩:=pushS (e:=31) ar ag.name (by rw[dM7];omega) (b7 (C.trans D));simp only[m8,o6,simprocAttr,h2,A,J,l5,p1,p2];refine⟨(j+1,u6),by omega,dO2 _ (B0 j (by omega)),by trivial,by omega,?_,ar.ext2 (C.trans D) p4⟩;simp only[];rw[m,h2,if_pos rfl,<-dP5];exact p3
 have an:j=s.args.length:=by simp at hc;omega
 subst an;rw[show(s.args.zip p.procs[k].params).take s.args.length=s.args.zip p.procs[k].params from dQ9 (by omega)]at M;rw[show(s.args.zip p.procs[k].params).take s.args.length=s.args.zip p.procs[k].params from dQ9 (by omega)]at az;generalize a1:L1++((s.args.zip p.procs[k].params).filter λx=>x.1.ref&&g.contains x.2.name).map (λx=>x.1.name)=L2 at M hF;have bu:L2.length<=9:=by rw[<-a1,dM7];omega
 have bh:=bi w4 (b7 S);have a9:=H7 (P:=prog) (t:=31) aA (b7 S) O0;have a3:=Q.isS;have bb:=Q.vlen;simp only[m8,o6,y0,simprocAttr,g0,g6,bh,ab,a9,a3,bb];refine n9 [0,70,71] (σ:=Nat×Value) (λo f l=>f 72 = .int .i64 o.1/\f 5=o.2/\o.1<=g.length/\A8 (i4 H) l 9 o.2 (L2++(g.take o.1).filter (O7 p))/\o7 H l) (λo=>g.length-o.1) (0,u) ?_ ?_
 ·simp only[p8,simprocAttr];exact⟨by trivial,J,dN6 _,by simpa using M,C⟩
 rintro⟨q,u6⟩ f6 Y hk ⟨K,U,bc,F,z⟩;simp only at K U bc F;simp only[dM6,p8,simprocAttr]at hk;obtain⟨j0,bf,bg,_⟩:=hk;rw[g0]at j0;simp only[m8,o6,simprocAttr,K,bg];refine n7 (λhc=>?_) (λhc=>?_);rotate_left
 ·have an:q=g.length:=by simp at hc;omega
  subst an;rw[dN8]at F;simp only[m8,simprocAttr,U];exact o8 results169 ⟨by rw[hF];exact F.back G,G.trans z⟩
 have E:q<g.length:=by simpa using hc
 have aG:=Q.inS E;have ad:(Instr.loadAt 9 (.pointer (some (G4 uo q)))).run prog Y = .ok (p6 g[q]) Y:=M4 (P:=prog) (α:=A6) (xs:=g) Q (b7 (G.trans z)) (dM4 E) V4;have m:=al6 (O7 p) g E;have bH:((g.take q).filter (O7 p)).length<=25:=dN1 (dP3 _ _) (by rw[dN9];omega);generalize g[q]=n at ad m;simp only[m8,o6,y0,simprocAttr,K,j0,bf,aG,ad];refine E0 (aP9 a b p n Y (ha.mono (b7 (G.trans z))) V.s aq) ?_;rcases dM5 (O7 p n)with h2|h2;rotate_left
 ·simp only[m8,o6,simprocAttr,h2,K];refine⟨(q+1,u6),by omega,dO2 _ (B0 q (by omega)),U,by omega,?_,z⟩;simp only[];rw[m,h2,if_neg (by simp),dP8];exact F
 ·obtain⟨p1,u7,w7,p2,p3,p4,p5⟩:=pushS (e:=31) F n (by rw[dM7];omega) (b7 z);simp only[m8,o6,simprocAttr,h2,K,U,p1,p2];refine⟨(q+1,u7),by omega,dO2 _ (B0 q (by omega)),by trivial,by omega,?_,F.ext2 z p4⟩;simp only[];rw[m,h2,if_pos rfl,<-dP5];exact p3
def cr3(x:A6)(w:World){h:Hp}(hw:B5 h (i4 w)):∃v a,(Instr.buildSlice 31 1 #[(0,p6 x)]).run prog w = .ok v a/\A8 h a 9 v [x]/\o7 w a/\(∀b,A3 v b->w.heap.size<=b):=
 lit (P:=prog) (w:=w) (h:=h) (α:=A6) (xs:=[p6 x]) (ys:=[x]) (parts:=#[(0,p6 x)]) (n:=1) at4 rfl (ay0.2 rfl) (by simp[p6,Value.cells]) rfl rfl (by simp) (by simp) hw
def dv9(x y:A6)(w:World){h:Hp}(hw:B5 h (i4 w)):∃v a,(Instr.buildSlice 31 2 #[(0,p6 x),(1,p6 y)]).run prog w = .ok v a/\A8 h a 9 v [x,y]/\o7 w a/\(∀b,A3 v b->w.heap.size<=b):=
 lit (P:=prog) (w:=w) (h:=h) (α:=A6) (xs:=[p6 x,p6 y]) (ys:=[x,y]) (parts:=#[(0,p6 x),(1,p6 y)]) (n:=2) at4 rfl (ay0.2 rfl) (by simp[p6,Value.cells]) rfl rfl (by simp) (by simp) hw
def cJ9(a:Addr)(b:Bk)(p:Pg)(v:Value)(s:St)(w:World)(D:At (i4 w) a b)(x:cv6 p b)(r:N2 p=true)(hv:SV (i4 w) v s)(z:R4 s<=1000000)(j:s.kind=4->ag9 p s=true):
  p7 prog 121 #[.pointer (some a),v] w λu C=>(A8 (i4 w) C 9 u (af0 p b.outs s)/\o7 w C):=by
 refine p9 [.pointer (some a),v] func121 rfl ?_;obtain⟨c,g,f,d,i⟩:=ao2 hv (i5 _);obtain⟨_,H,_,_,_,E,_,_,_,B,_⟩:=i.st;obtain⟨G,y,l,_⟩:=i.st_v;have k:=B g (i5 _);have F:=l g (i5 _);have e:af0 p b.outs s=if s.kind=1 then[s.name]else if s.kind=2 then[s.name,ab1]else if s.kind=9 then[R5]else if s.kind=4 then ao3 p b.outs s else[]:=rfl;rcases dM5 (decide (s.kind=1))with k1|k1
 ·rw[if_pos (dM8 k1)]at e;obtain⟨u,q,m,n,o,_⟩:=cr3 s.name g (b7 d);simp only[m8,o6,simprocAttr,f,k,k1,m];exact o8 results121 ⟨by rw[e];exact n,d.trans o⟩
 rw[if_neg (dN2 k1)]at e;rcases dM5 (decide (s.kind=2))with k2|k2
 ·rw[if_pos (dM8 k2)]at e;obtain⟨u,q,m,n,o,_⟩:=dv9 s.name ab1 g (b7 d);have h:(Instr.buildSlice 31 2 #[(0,p6 s.name),(1,.string ⟨#[36,105,110]⟩)]).run prog g = .ok u q:=m;simp only[m8,o6,simprocAttr,f,k,k1,k2,h];exact o8 results121 ⟨by rw[e];exact n,d.trans o⟩
 rw[if_neg (dN2 k2)]at e;rcases dM5 (decide (s.kind=9))with k9|k9
 ·rw[if_pos (dM8 k9)]at e;obtain⟨u,q,m,n,o,_⟩:=cr3 R5 g (b7 d);have h:(Instr.buildSlice 31 1 #[(0,.string ⟨#[36,114,101,116]⟩)]).run prog g = .ok u q:=m;simp only[m8,o6,simprocAttr,f,k,k1,k2,k9,h];exact o8 results121 ⟨by rw[e];exact n,d.trans o⟩
 rw[if_neg (dN2 k9)]at e;rcases dM5 (decide (s.kind=4))with k4|k4
 ·rw[if_pos (dM8 k4)]at e;simp only[m8,o6,simprocAttr,f,k,k1,k2,k9,k4,F];refine y5 (ce0 a b p G s g (D.mono (b7 d)) x r y z (j (dM8 k4))) ?_;rintro u q ⟨t,A⟩;simp only[m8,simprocAttr];exact o8 results121 ⟨by rw[e];exact t.back d,d.trans A⟩
 rw[if_neg (dN2 k4)]at e;simp only[m8,o6,simprocAttr,f,k,k1,k2,k9,k4];exact o8 results121 ⟨by rw[e];exact A8.nil _ _ _,d⟩
def cV1(a:Addr)(b:Bk)(p:Pg)(v:Value)(s:St)(w:World)(ha:At (i4 w) a b)(X:cv6 p b)(aU:N2 p=true)(hv:SV (i4 w) v s)(aZ:R4 s<=1000000)(ak:s.kind=4->ag9 p s=true):
  p7 prog 124 #[.pointer (some a),v] w λu g=>(A8 (i4 w) g 9 u (an9 p b.ins s)/\o7 w g):=by
 refine p9 [.pointer (some a),v] func124 rfl ?_;obtain⟨sh,_,_,_,vi,_,has,_,_,_,ar,_,bB,bb⟩:=ha.book X.s;obtain⟨c,D,aM,A,af⟩:=ao2 hv (i5 _);obtain⟨_,va,_,_,_,I,_,_,ah,ay,bE⟩:=af.st;obtain⟨sv,z,bj,az⟩:=af.st_v;obtain⟨ux,aY,a2,_⟩:=ah.ex_v;have a4:=a2 D (i5 _);have av:=aZ;rw[S8]at av;have bv:=ae3 s.x;have bs:=aq6 s.args;have bt:=O1 s.args;simp only[m8,o6,simprocAttr,aM,a4];refine y5 (ar0 ux s.x D aY (by omega)) ?_;rintro u2 w2 ⟨T,J⟩;have l2:=ay w2 (b7 J);generalize q:ae2 s.x++(if s.kind=2 then[ab1]else[])=P1;have bg:P1.length<=U3 s.x+1:=by
  rw[<-q,dM7];have:(if s.kind=2 then[ab1]else[]).length<=1:=by split<;>simp
  omega
 have hF:an9 p b.ins s=P1++if s.kind=4 then s.args.flatMap L0++G2 b.ins (ac4 p.procs s.proc)else[]:=by rw[<-q];rfl
 simp only[cW0,o6,simprocAttr,l2];refine bV7 [0,3] (λf' g=>A8 (i4 D) g 9 (f' 5) P1/\o7 D g) ?_ ?_
 ·rcases dM5 (decide (s.kind=2))with k2|k2
  ·rw[if_pos (dM8 k2)]at q;obtain⟨p1,u3,w3,p2,p3,p4,p5⟩:=pushS (e:=31) T ab1 (by omega) (b7 J);have a7:(Instr.buildSlice 31 1 #[(0,.string ⟨#[36,105,110]⟩)]).run prog w2=_:=p1;simp only[m8,simprocAttr,k2,a7,p2];exact⟨by rw[<-q];exact p3,T.ext2 J p4⟩
  ·rw[if_neg (dN2 k2)]at q;simp only[m8,simprocAttr,k2];exact⟨by rw[<-q];simpa using T,J⟩
 rintro f w3 L ⟨U,Z⟩;simp only[dM6,p8,simprocAttr]at L;obtain⟨aF,e3,_⟩:=L;generalize h5:f 5=u3 at U;have l3:=ay w3 (b7 Z);rcases dM5 (decide (s.kind=4))with k4|k4;rotate_left
 ·rw[if_neg (dN2 k4),dP8]at hF;simp only[m8,o6,simprocAttr,e3,l3,k4,h5];exact o8 results124 ⟨by rw[hF];exact U.back A,A.trans Z⟩
 rw[if_pos (dM8 k4)]at hF;obtain⟨k,S⟩:=U6 (ak (dM8 k4));have aL:=I.isS;have aV:=I.vlen;simp only[m8,o6,simprocAttr,e3,l3,k4,aL,aV];refine n9 [0,3,22,23] (σ:=Nat×Value) (λs' f g=>f 24 = .int .i64 s'.1/\f 5=s'.2/\s'.1<=s.args.length/\A8 (i4 D) g 9 s'.2 (P1++(s.args.take s'.1).flatMap L0)/\o7 D g) (λs'=>s.args.length-s'.1) (0,u3) ?_ ?_
 ·simp only[p8,simprocAttr];exact⟨by trivial,h5,dN6 _,by simpa using U,Z⟩
 rintro⟨j,u⟩ f2 r L ⟨E,F,aS,n,aa⟩;simp only at E F aS n;simp only[dM6,p8,simprocAttr]at L;obtain⟨g0,g3,aI,aJ,_⟩:=L;rw[aF]at g0;rw[e3]at g3;have M:((s.args.take j).flatMap L0).length<=ad1 s.args:=dN1 (O1 _) (au0 _ _);simp only[m8,o6,simprocAttr,E,aJ];refine n7 (λhc=>?_) (λhc=>?_)
 ·have G:j<s.args.length:=by simpa using hc
  have aR:=I.inS G;obtain⟨sv,z,an⟩:=F9 (P:=prog) (t:=124) I (b7 aa) (dM4 G) aK3 aK4 aE0 X1;rw[X1]at an;have H:=H4 L0 s.args G;have au:=aO0 (dN5 G);have i:((s.args.take (j+1)).flatMap L0).length<=ad1 s.args:=dN1 (O1 _) (au0 _ _);rw[H]at i;generalize s.args[j]=y at z H au i;have K:L0 y=(if y.ref then[y.name]else[])++ae2 y.x:=rfl;rw[K]at i;simp only[dM7]at i;generalize(s.args.take j).flatMap L0=pre at n M i H;obtain⟨d,wz,w5,ae,ap,m,ag⟩:=cu5 (w:=r) (A3 u) z (λb Q=>n.lt Q);obtain⟨uy,aq,O,a1,_⟩:=K7.ar z ag;obtain⟨a3,_⟩:=K7.ex_v aq O;have V:=n.ext m;have N:=aa.trans m;have l5:=a1 w5 (B2 _ _);have bu:(if y.ref=true then[y.name]else[]).length<=1:=by split<;>simp
  simp only[cW0,o6,y0,simprocAttr,E,aI,aR,an,ae,ap,l5];refine bV7 [0,3,7,22,23,24] (λf' g=>A8 (i4 D) g 9 (f' 5) (P1++pre++if y.ref then[y.name]else[])/\o9 (A3 u) w5 g) ?_ ?_
  ·rcases dM5 y.ref with h1|h1
   ·obtain⟨p1,u6,w6,p2,p3,p4,p5⟩:=pushS (e:=31) V y.name (by simp only[dM7];omega) (b7 N);rw[h1]at l5;simp only[m8,o6,simprocAttr,h1,l5,F,p1,p2];exact⟨p3,p4⟩
   ·simp only[m8,simprocAttr,h1,F];exact⟨by simpa using V,o9.refl _⟩
  rintro f6 w6 L ⟨W,ao⟩;simp only[dM6,p8,simprocAttr]at L;obtain⟨j0,j3,j7,bw,bx,ax,_⟩:=L;rw[E]at ax;generalize aK:f6 5=u6 at W;have B:o7 D w6:=o9.ext_of N ao λb Q=>D0 (V.free Q);have a5:=a3 w6 (E1 ao);simp only[m8,o6,simprocAttr,aK,j7,a5];refine y5 (ar0 uy y.x w6 (aq.mono (b7 B)) (by unfold an3 at au;omega)) ?_;rintro u8 w8 ⟨aW,C⟩;obtain⟨u9,w9,c1,c2,c3,c4⟩:=am3 (P:=prog) (e:=31) at4 (W.ext C) (aW.rw_ (b7 C)) (i5 _) (by simp only[dM7];omega) (by simp only[dM7];omega) (b7 (B.trans C));have aw:o7 D w9:=o9.ext_of (B.trans C) c3 λb Q=>D0 ((W.ext C).free Q);simp only[m8,o6,simprocAttr,c1,ax];refine⟨(j+1,u9),by omega,dO2 _ (B0 j (by omega)),by trivial,by omega,?_,aw⟩;simp only[];rw[H,K];simp only[dP5]at c2 ⊢;exact c2
 have aP:j=s.args.length:=by simp at hc;omega
 subst aP;rw[dN8]at n M;obtain⟨x,Y,aj⟩:=X.ins.row S.lt;rw[S.idx]at hF;have aT:=S.pr;generalize G2 b.ins (k:Int)=bD at x Y aj hF;obtain⟨ui,aX,aO⟩:=R.row ar x;have am:=ar.inS (k:=k) (dM9.1 x).1;have l:=aa.trans (o7.drew r);have o:=A.trans l;have aQ:∀g,o7 r.drew g->B5 (i4 D) (i4 g):=λg h=>b7 (l.trans h);have al:∀g,o7 r.drew g->B5 (i4 w) (i4 g):=λg h=>b7 (o.trans h);have t1:=bb (λg=>o7 r.drew g) r.drew (o9.refl _) al;have t2:=az (λg=>o7 r.drew g) r.drew (o9.refl _) aQ;have t3:=bw2 (P:=prog) (t:=31) aO O0 (λg=>o7 r.drew g) r.drew (o9.refl _) al;simp only[m8,simprocAttr];refine C0 (λg=>o7 r.drew g) 10 (A5 [0,1,2,3,4,5,6,7,8,9]) ?_;simp only[D6,A5,m8,o6,simprocAttr,g0,g3,F,t1,t2];refine B9 (aq8 a b p sv s r.drew (ha.mono (b7 o)) X.s aU (z.mono (b7 l))) (λw5 m=>⟨m,?_⟩);rw[aT];obtain⟨u9,w9,c1,c2,c3,c4⟩:=am3 (P:=prog) (e:=31) at4 (n.ext ((o7.drew r).trans m)) aX (b7 (o.trans m)) (by simp only[dM7];omega) (by simp only[dM7];omega) (b7 (l.trans m));simp only[D6,m8,o6,y0,simprocAttr,am,t3,c1];refine o8 results124 ?_;simp only[p8,simprocAttr];refine⟨?_,A.trans (o9.ext_of (l.trans m) c3 λb Q=>D0 (n.free Q))⟩;rw[hF,<-dP5];exact c2.back A
instance:A0 Pa:=⟨Pa.cells,λ_ _ _=>dU5⟩
def SV.N{α:Type}[A4 α][A0 α]{h:Hp}{v:Value}{x:α}(hv:SV h v x):v = .agg (A0.cells x).toArray:=by
 obtain⟨b,rfl,a⟩:=hv;rw[(A0.iff_ _ _ _).1 a]
theorem ac3{P:Program}{op:BinOp}{t:TypeId}{a b:Array Value}:B4 P op t (.agg a) (.agg b)=none:=by
 cases op<;>rfl
def bQ6(v:Value)(l:List Pa)(x:Pa)(w:World)(hv:R (i4 w) v l)(X:l.length<=1000000000):
  p7 prog 211 #[v,.agg x.cells.toArray] w λu e=>(u = .int .i64 (aa1 (λy=>decide (x=y)) 0 l)/\o7 w e):=by
 refine p9 [v,.agg x.cells.toArray] func211 rfl ?_;have Q:=hv.isS;have U:=hv.vlen;obtain⟨c,O,C,p,B⟩:=co7 (SV.ofN (i4 w) x) (i5 _);obtain⟨Z,G,_,J⟩:=B.pa_v;obtain rfl:=G.N;have r:(Instr.box 78 (.agg x.cells.toArray)).run prog w = .ok (.pointer (some c)) O:=C;simp only[m8,o6,simprocAttr,r,Q,U];refine n9 [0,3,6,7] (σ:=Nat) (λk f e=>f 8 = .int .i64 k/\k<=l.length/\(∀j (m:j<l.length),j<k->decide (x=l[j])=false)/\o7 O e) (λk=>l.length-k) 0 ?_ ?_
 ·simp only[p8,simprocAttr];exact⟨by trivial,dN6 _,λj _ h=>by omega,o9.refl _⟩
 rintro k f q L ⟨A,T,o,z⟩;simp only[dM6,p8,simprocAttr]at L;obtain⟨e0,K,W,P,_⟩:=L;simp only[m8,o6,simprocAttr,A,P];refine n7 (λD=>?_) (λD=>?_);rotate_left
 ·have E:k=l.length:=by simp at D;omega
  subst E;simp only[m8,simprocAttr];refine o8 results211 ?_;simp only[p8,simprocAttr];exact⟨by rw[ay3 _ _ _ (bn0 λj m=>o j m m)],p.trans z⟩
 have n:k<l.length:=by simpa using D
 have s:=hv.inS n;have d:=z.trans (o7.drew q);have M:=J (λe=>o7 q.drew e) q.drew (o9.refl _) λe h=>b7 (d.trans h);have g:=hv.at_ (i:=k) (x:=l[k]) (dM4 n);have H:A4.sz Pa=2:=rfl;rw[H]at g;obtain⟨Y,F,_,I⟩:=g.pa_v;obtain rfl:=F.N;have N:=I (λe=>o7 q.drew e) q.drew (o9.refl _) λe h=>b7 (p.trans (d.trans h));have t:=λV a b=>dl9 V a b x l[k];rcases dM5 (decide (x=l[k]))with hq|hq
 ·simp only[m8,simprocAttr,A];refine C0 (λe=>o7 q.drew e) 5 (A5 [0,1,2,3,4]) ?_;simp only[D6,A5,m8,o6,y0,simprocAttr,e0,K,s,M,N];simp only[m8,simprocAttr,ac3,A0.cells,t,hq];refine o8 results211 ?_;simp only[p8,simprocAttr];exact⟨by rw[as1 _ l 0 k n (λj m=>o j (by omega) m) hq,dQ2],p.trans d⟩
 ·simp only[m8,simprocAttr,A];refine C0 (λe=>o7 q.drew e) 5 (A5 [0,1,2,3,4]) ?_;simp only[D6,A5,m8,o6,y0,simprocAttr,e0,K,s,M,N];simp only[m8,o6,simprocAttr,ac3,A0.cells,t,hq,A];refine⟨k+1,by omega,dO2 _ (B0 k (by omega)),by omega,λj m S=>?_,d⟩;rcases dQ7 j k with h|h
  ·exact o j m h
  ·obtain rfl:j=k:=by omega
   exact hq
def bV2{α:Type}(P:α->Bool):∀(l:List α) (i:Nat),decide (0<=aa1 P i l)=l.any P
 | [],i=>by simp[aa1]
 | x::l,i=>by
  rw[aa1,List.any_cons];split
  ·next h=>simp[h]
  ·next h=>rw[bV2 P l (i+1)];simp[h]
theorem cH2{α:Type}[DecidableEq α](x:α):∀l:List α,(l.any λy=>decide (x=y))=l.contains x
 | []=>rfl
 | y::l=>by
  rw[List.any_cons,cH2 x l,List.contains_cons];rfl
def cA4(v:Value)(l:List Pa)(x:Pa)(w:World)(hv:R (i4 w) v l)(j:l.length<=1000000000):
  p7 prog 171 #[v,.agg x.cells.toArray] w λu m=>(u = .bool (l.contains x)/\o7 w m):=by
 refine p9 [v,.agg x.cells.toArray] func171 rfl ?_;obtain⟨c,i,e,b,d⟩:=co7 (SV.ofN (i4 w) x) (i5 _);obtain⟨n,f,h,_⟩:=d.pa_v;obtain rfl:=f.N;have a:(Instr.box 78 (.agg x.cells.toArray)).run prog w = .ok (.pointer (some c)) i:=e;have k:=h i (i5 _);simp only[m8,o6,simprocAttr,a,k];refine B9 (bQ6 v l x i (A4.mono (b7 b) hv) j) (λo g=>?_);simp only[m8,o6,simprocAttr];refine o8 results171 ?_;simp only[p8,simprocAttr];exact⟨by rw[bV2,cH2],b.trans g⟩
def am9{α:Type}[A4 α]{h:Hp}{v:Value}{l:List (Ptr α)}(hv:R h v l){k:Nat}{p:Ptr α}(g:l[k]?=some p):∃a,L3 h (G4 v k)=some (.pointer (some a))/\At h a p.to:=by
 obtain⟨_,i,f,e⟩:=hv.get g;obtain⟨a,b,rfl,c,d⟩:=f;have:=e 0 _ rfl;rw[L7,show k*A4.sz (Ptr α)=k from dT8 k]at this;exact⟨a,this,b,c,d⟩
def cI3(n:A6)(b:Bool):B8 prog 78 [(0,p6 n),(1,.bool b)]=some (.agg (Pa.cells ⟨n,b⟩).toArray):=by
 simp[B8,cT3,K8,Instr.fill,Value.cells,p6,Pa.cells]
def bc3{α β:Type}(P:α->Bool)(g:α->List β):∀l:List α,(l.filter P).flatMap g=l.flatMap λx=>if P x then g x else[]
 | []=>rfl
 | x::l=>by
  rw[List.filter_cons,dW2,<-bc3 P g l];cases h:P x<;>simp
theorem S7{p:Pg}{i:Nat}(a:i<p.procs.length):(I0 p)[i]?=some (D5 (b9 p) i):=by
 unfold I0;rw[dP9,dU6 a];rfl
def cQ0(a:Addr)(b:Bk)(p:Pg)(i:Nat)(w:World)(ha:At (i4 w) a b)(aR:cv6 p b)(W:b.ways=I0 p)(M:M8 (b9 p).l.length 100 b.defs)(hr:D4 p)(hw:C5 p<=1000000)(hi:i<p.procs.length):
  p7 prog 122 #[.pointer (some a),.int .i64 i] w λu j=>(A8 (i4 w) j 9 u (ac0 p b.defs i)/\o7 w j):=by
 refine p9 [.pointer (some a),.int .i64 i] func122 rfl ?_;obtain⟨x,pt⟩:=J5 hr.may hw i hi;have ax:=P2 pt;generalize x+A9 p.procs[i].body=y at pt ax;have bJ:=J1 hr.may;have bM:=pt.ok.len;obtain⟨sh,vw,vd,_,_,_,has,aY,aW,_,_,_,a0,a1⟩:=ha.book aR.s;obtain⟨_,_,_,_,_,_,aS,_,_⟩:=has.sh;rw[K9]at aS;obtain⟨vg,vp,bS,aX,bz,b0⟩:=aS.pg;obtain⟨aw,bi,aF⟩:=am9 (hv:=aY) (k:=i) (p:=⟨D5 (b9 p) i⟩) (by unfold Bk.wp;rw[W,dP9,S7 hi];rfl);simp only at aF;have aL:=aY.inS (k:=i) (by unfold Bk.wp;rw[W];unfold I0;simpa using hi);have lb:=a0 w (i5 _);have lp:=bz w (i5 _);have C:=aX.inS hi;obtain⟨sv,T,o⟩:=F9 (P:=prog) (t:=75) aX (i5 _) (dM4 hi) av8 av9 at7 R2;rw[R2]at o;have bq:=R1 hr.may hi;have U:∀n,Z6 p i n=(O7 p n||p.procs[i].params.contains ⟨n,true⟩):=λn=>by
  unfold Z6;rw[List.getD,dM4 hi];rfl
 obtain⟨c,wz,G,be,aU,v,aD⟩:=aN7 T (i5 _);obtain⟨bH,_,_,_,ag,_,_,_,bA,_⟩:=aD.pr;have bx:=a0 G (b7 v);generalize p.procs[i].params=ae at U ag bq;simp only[m8,o6,y0,simprocAttr,lb,lp,C,o,be,aU,bx];refine y5 (az3 (i4 w) sh (b9 p) i x y G has (b7 v) pt.ok) ?_;rintro ui w3 ⟨V,bt⟩;have N:=pt.ids;have ar:((b9 p).of i).length<=200:=by
  have:=pt.ok.of_;rw[this,dU8,dN9];omega
 have hF:ac0 p b.defs i=((b9 p).of i).flatMap λit=>if(D5 (b9 p) i).lives it.s.id then(G2 b.defs (it.s.id-1)).filter (Z6 p i)else[]:=by
  unfold ac0;rw[bc3]
 generalize ba:(λit:It=>if(D5 (b9 p) i).lives it.s.id then(G2 b.defs (it.s.id-1)).filter (Z6 p i)else[])=H at hF;have hH:∀it,H it=if(D5 (b9 p) i).lives it.s.id then(G2 b.defs (it.s.id-1)).filter (Z6 p i)else[]:=λit=>by rw[<-ba]
 have B:∀it∈(b9 p).of i,∃q:Nat,it.s.id-1=(q:Int)/\q<(b9 p).l.length:=λit aq=>by
  have:=N it aq;exact⟨(it.s.id-1).toNat,by omega,by omega⟩
 generalize(b9 p).of i=l at V hF N ar B;have bb:∀it∈l,(H it).length<=100:=λit aq=>by
  rw[hH];split
  ·obtain⟨q,e,hq⟩:=B it aq;rw[e];exact dN1 (dP3 _ _) (M.row hq).2.2
  ·simp
 have bf:∀k,((l.take k).flatMap H).length<=20000:=λk=>by
  refine dN1 (N5 H 100 _ λx hx=>bb x (dU2 hx)) ?_;rw[dN9];have:min k l.length<=200:=by omega
  omega
 have bd:=V.isS;have bn:=V.vlen;simp only[m8,o6,simprocAttr,bd,bn];refine n9 [0,1,6,27,28] (σ:=Nat×Value) (λs f j=>f 29 = .int .i64 s.1/\f 5=s.2/\s.1<=l.length/\A8 (i4 G) j 9 s.2 ((l.take s.1).flatMap H)/\o7 G j) (λs=>l.length-s.1) (0,.slice none 0 0) ?_ ?_
 ·simp only[p8,simprocAttr];exact⟨by trivial,by trivial,dN6 _,by simpa using A8.nil _ _ _,bt⟩
 rintro⟨k,u⟩ f w4 hk ⟨K,h5,bk,ho,ad⟩;simp only at K h5 bk ho;simp only[dM6,p8,simprocAttr]at hk;obtain⟨e0,e1,e6,a7,a8,_⟩:=hk;have aT:=bf k;simp only[m8,o6,simprocAttr,K,a8];refine n7 (λhc=>?_) (λhc=>?_);rotate_left
 ·have ao:k=l.length:=by simp at hc;omega
  subst ao;rw[dN8]at ho;simp only[m8,simprocAttr,h5];exact o8 results122 ⟨by rw[hF];exact ho.back v,v.trans ad⟩
 have Z:k<l.length:=by simpa using hc
 clear C o aU T;have C:=V.inS Z;obtain⟨sv,T,o⟩:=F9 (P:=prog) (t:=150) V (b7 (v.trans ad)) (dM4 Z) X0 X2 V5 H9;rw[H9]at o;have aa:=H4 H l Z;have af:=dN5 Z;have aJ:=N _ af;obtain⟨q,au,hq⟩:=B _ af;have E:=hH l[k];generalize l[k]=it at T aa aJ au E;generalize(l.take k).flatMap H=pre at ho aT aa;obtain⟨d,cb,I,aB,aV,bu,aC⟩:=ak8 (T.mono (b7 (v.trans ad))) (i5 _);obtain⟨aE,_,_⟩:=aC.it;obtain⟨_,_,_,_,_,_,_,_,_,_,a2⟩:=aE.st;have am:=bu.trans (o7.drew I);have ak:=ad.trans am;have ah:=v.trans ak;have bo:=ho.ext am;have aH:∀j,o7 I.drew j->B5 (i4 w) (i4 j):=λj h=>b7 (ah.trans h);have t1:=a2 (λj=>o7 I.drew j) I.drew (o9.refl _) λj h=>b7 ((o7.drew I).trans h);have t2:=a1 (λj=>o7 I.drew j) I.drew (o9.refl _) aH;have t3:=bw2 (P:=prog) (t:=114) bi an1 (λj=>o7 I.drew j) I.drew (o9.refl _) aH;simp only[m8,o6,y0,simprocAttr,K,a7,C,o,aB,aV];refine C0 (λj=>o7 I.drew j) 10 (A5 [0,1,2,3,4,5,6,7,8,9]) ?_;simp only[D6,A5,m8,o6,y0,simprocAttr,e0,e1,t1,t2,t3,aL];refine B9 (aK8 aw (D5 (b9 p) i) p i x y it.s.id I.drew (aF.mono (b7 ah)) ax.toWyOk aJ ax.live) (λY az=>?_);have al:=ak.trans az;have aP:=bo.ext az;generalize(D5 (b9 p) i).lives it.s.id=lv at E;rcases dM5 lv with aN|aN<;>subst aN;rotate_left
 ·simp only[m8,o6,simprocAttr,K,h5];refine⟨(k+1,u),by omega,dO2 _ (B0 k (by omega)),by trivial,by omega,?_,al⟩;simp only[];rw[aa,E,if_neg (by simp),dP8];exact aP
 rw[if_pos rfl,au]at E;obtain⟨S,_,aG⟩:=M.row hq;generalize G2 b.defs (q:Int)=g at S aG E;obtain⟨ud,ac,bh⟩:=R.row aW S;have aK:=aW.inS (dM9.1 S).1;have X:=al.trans (o7.drew Y);have ay:=v.trans X;have aI:∀j,o7 Y.drew j->B5 (i4 w) (i4 j):=λj h=>b7 (ay.trans h);have t4:=a2 (λj=>o7 Y.drew j) Y.drew (o9.refl _) λj h=>b7 ((o7.drew I).trans (az.trans ((o7.drew Y).trans h)));have t5:=a1 (λj=>o7 Y.drew j) Y.drew (o9.refl _) aI;have t6:=bw2 (P:=prog) (t:=31) bh O0 (λj=>o7 Y.drew j) Y.drew (o9.refl _) aI;have bs:IntKind.i64.wrap (it.s.id-1)=(q:Int):=by rw[au];exact M3 _ (by omega)
 have bc:=ac.isS;have bm:=ac.vlen;have aQ:=aP.ext (o7.drew Y);simp only[m8,o6,simprocAttr];refine C0 (λj=>o7 Y.drew j) 12 (A5 [0,1,2,3,4,5,6,7,8,9,10,11]) ?_;simp only[D6,A5,m8,o6,y0,simprocAttr,e0,t4,t5,t6,bs,aK,bc,bm];refine n9 [0,1,6,27,28,29,54,55] (σ:=Nat×Value) (λs f j=>f 56 = .int .i64 s.1/\f 5=s.2/\s.1<=g.length/\A8 (i4 G) j 9 s.2 (pre++(g.take s.1).filter (Z6 p i))/\o7 G j) (λs=>g.length-s.1) (0,u) ?_ ?_
 ·simp only[p8,simprocAttr];exact⟨by trivial,h5,dN6 _,by simpa using aQ,X⟩
 rintro⟨m,u7⟩ f7 w7 hk ⟨D,L,bl,A,z⟩;simp only at D L bl A;simp only[dM6,p8,simprocAttr]at hk;obtain⟨j0,j1,j6,bV,bW,aZ,bv,bw,_⟩:=hk;rw[e0]at j0;rw[e1]at j1;rw[e6]at j6;rw[K]at aZ;have aj:=v.trans z;have bR:((g.take m).filter (Z6 p i)).length<=100:=dN1 (dP3 _ _) (by rw[dN9];omega);simp only[m8,o6,simprocAttr,D,bw];refine n7 (λan=>?_) (λan=>?_);rotate_left
 ·have ao:m=g.length:=by simp at an;omega
  subst ao;rw[dN8]at A;simp only[m8,o6,simprocAttr,aZ];refine⟨(k+1,u7),by omega,dO2 _ (B0 k (by omega)),L,by omega,?_,z⟩;simp only[];rw[aa,E];exact A
 have O:m<g.length:=by simpa using an
 clear C o;have C:=ac.inS O;have o:=ldS ac (b7 aj) O;have ab:=al6 (Z6 p i) g O;generalize g[m]=n at o ab;rw[U]at ab;have av:(O7 p n||ae.contains ⟨n,true⟩)=false->∀J,o7 w7 J->∃F:Nat×Value,g.length-F.1<g.length-m/\(Value.int .i64 (IntKind.i64.wrap ((m:Int)+1)) = .int .i64 F.1/\u7=F.2/\F.1<=g.length/\A8 (i4 G) J 9 F.2 (pre++(g.take F.1).filter (Z6 p i))/\o7 G J):=λhf J r=>by
  refine⟨(m+1,u7),by omega,dO2 _ (B0 m (by omega)),by trivial,by omega,?_,z.trans r⟩;simp only[];rw[ab,hf,if_neg (by simp),dP8];exact A.ext r
 have Q:(O7 p n||ae.contains ⟨n,true⟩)=true->∀u8 J,A8 (i4 G) J 9 u8 (pre++(g.take m).filter (Z6 p i)++[n])->o7 G J->∃F:Nat×Value,g.length-F.1<g.length-m/\(Value.int .i64 (IntKind.i64.wrap ((m:Int)+1)) = .int .i64 F.1/\u8=F.2/\F.1<=g.length/\A8 (i4 G) J 9 F.2 (pre++(g.take F.1).filter (Z6 p i))/\o7 G J):=λhf u8 J bp r=>by
  refine⟨(m+1,u8),by omega,dO2 _ (B0 m (by omega)),by trivial,by omega,?_,r⟩;simp only[];rw[ab,hf,if_pos rfl,<-dP5];exact bp
 simp only[m8,o6,y0,simprocAttr,D,j0,bv,C,o];refine E0 (aP9 a b p n w7 (ha.mono (b7 aj)) aR.s hr.may) ?_;rcases dM5 (O7 p n)with h1|h1
 ·obtain⟨p1,u8,J,p2,p3,p4,p5⟩:=pushS (e:=31) A n (by rw[dM7];omega) (b7 z);simp only[m8,o6,simprocAttr,h1,D,L,p1,p2];exact Q (by rw[h1];rfl) _ _ p3 (A.ext2 z p4)
 ·have bB:=bA w7 (b7 z);simp only[m8,o6,simprocAttr,h1,j6,bB,cI3];refine B9 (cA4 bH ae ⟨n,true⟩ w7 (A4.mono (b7 z) ag) (by omega)) (λJ r=>?_);rcases dM5 (ae.contains ⟨n,true⟩)with h2|h2
  ·obtain⟨p1,u9,w9,p2,p3,p4,p5⟩:=pushS (e:=31) (A.ext r) n (by rw[dM7];omega) (b7 (z.trans r));simp only[m8,o6,simprocAttr,h2,D,L,p1,p2];exact Q (by rw[h1,h2];rfl) _ _ p3 ((A.ext r).ext2 (z.trans r) p4)
  ·simp only[m8,o6,simprocAttr,h2,D,L];exact av (by rw[h1,h2];rfl) _ r
structure NJ (M:Nat) (nx:List (List Int)) (hit:Nat->Bool) (todo:List Int) (seen:List Bool) (x:Int->Prop):Prop where
 len:seen.length=M
 td:∀c∈todo,H1 M c=true/\Y5 nx 0 c
 done:∀c:Int,H1 M c=true->(c=0\/A7 seen c=true)->c∈todo\/x c\/(hit c.toNat=false/\∀d∈C9 nx c,A7 seen d=true)
section
variable {M:Nat} {nx:List (List Int)} {hit:Nat->Bool} {todo:List Int} {seen:List Bool} {x:Int->Prop}
def NJ.start(b:H1 M 0=true):NJ M nx hit [0] (List.replicate M false) (λ_=>False):=by
 refine⟨by simp,λc a=>?_,λc _ a=>?_⟩
 ·simp at a;subst a;exact⟨b,.refl⟩
 ·rcases a with rfl|a
  ·exact .inl (by simp)
  ·rw[ax5]at a;cases a
def NJ.pop{c:Int}(h:NJ M nx hit (todo++[c]) seen (λ_=>False)):NJ M nx hit todo seen (λd=>d=c)/\H1 M c=true/\Y5 nx 0 c:=by
 refine⟨⟨h.len,λd e=>h.td d (dQ1 _ e),λd e f=>?_⟩,h.td c (by simp)⟩;rcases h.done d e f with a|a|a
 ·rcases dN7.1 a with b|b
  ·exact .inl b
  ·exact .inr (.inl (by simpa using b))
 ·exact a.elim
 ·exact .inr (.inr a)
def NJ.close{c:Int}(h:NJ M nx hit todo seen (λd=>d=c))(e:hit c.toNat=false)(f:∀d∈C9 nx c,A7 seen d=true):NJ M nx hit todo seen (λ_=>False):=by
 refine⟨h.len,h.td,λd b g=>?_⟩;rcases h.done d b g with a|a|a
 ·exact .inl a
 ·subst a;exact .inr (.inr ⟨e,f⟩)
 ·exact .inr (.inr a)
def NJ.push{d:Int}(h:NJ M nx hit todo seen x)(i:H1 M d=true)(hw:Y5 nx 0 d):NJ M nx hit (todo++[d]) (seen.set d.toNat true) x:=by
 have j:H1 seen.length d=true:=by rw[h.len];exact i
 have b:∀e,A7 seen e=true->A7 (seen.set d.toNat true) e=true:=λe g=>by
  rw[M6 j];split
  ·rfl
  ·exact g
 refine⟨by rw[dU0,h.len],λc a=>?_,λc a k=>?_⟩
 ·rcases dN7.1 a with a|a
  ·exact h.td c a
  ·simp at a;subst a;exact⟨i,hw⟩
 ·by_cases hcd:c=d
  ·subst hcd;exact .inl (by simp)
  ·rw[M6 j,if_neg hcd]at k;rcases h.done c a k with f|f|f
   ·exact .inl (dQ1 _ f)
   ·exact .inr (.inl f)
   ·exact .inr (.inr ⟨f.1,λe g=>b e (f.2 e g)⟩)
def NJ.fin(h:NJ M nx hit [] seen (λ_=>False))(e:OkR nx)(l:nx.length=M)(j:H1 M 0=true):∀c,Y5 nx 0 c->hit c.toNat=false:=by
 have f:∀c,Y5 nx 0 c->H1 M c=true/\(c=0\/A7 seen c=true):=λc d=>by
  induction d with
  | refl=>exact⟨j,.inl rfl⟩
  | step _ g i=>
   refine⟨by rw[<-l];exact e _ _ g,.inr ?_⟩;rcases h.done _ i.1 i.2 with a|a|a
   ·simp at a
   ·exact a.elim
   ·exact a.2 _ g
 intro c d;obtain⟨a,k⟩:=f c d;rcases h.done c a k with b|b|b
 ·simp at b
 ·exact b.elim
 ·exact b.1
end
def bt3{α:Type}{l:List α}{n:Nat}(h:l.length=n+1):∃(t:List α) (c:α),l=t++[c]/\t.length=n/\l[n]?=some c/\l.take n=t:=by
 have a:n<l.length:=by omega
 refine⟨l.take n,l[n],?_,by rw[dN9];omega,dM4 a,rfl⟩;have:=dN3 a;rw[<-this,dQ9 (by omega)]
def bY4{α:Type}[A4 α]{h:Hp}{w:World}{T:TypeId}{v:Value}{xs:List α}(t:A8 h w T v xs){i:Nat}(n:i<=xs.length){sz:Nat}:
  A8 h w T (reS v 0 i sz) (xs.take i)/\∀b,A3 (reS v 0 i sz) b↔A3 v b:=by
 rcases t with⟨rfl,rfl⟩|⟨b,c,d,rfl,p,q,y,r,s,l⟩
 ·have:i=0:=by simpa using n
  subst this;exact⟨.inl ⟨rfl,rfl⟩,λb=>dU5⟩
 ·have e:reS (.slice (some ⟨b,0,none⟩) xs.length c) 0 i sz = .slice (some ⟨b,0,none⟩) i c:=by
   simp only[reS,Nat.zero_mul,dS5,Nat.sub_zero,L7,ite_self]
  rw[e];have f:(xs.take i).length=i:=by rw[dN9];omega
  refine⟨.inr ⟨b,c,d,by rw[f],p,q,by omega,r,s,?_⟩,λu=>dU5⟩;rw[f];have o:xs=xs.take i++xs.drop i:=(dR8 i xs).symm;rw[o]at l;obtain⟨g,x,j,k,_⟩:=ad7 _ _ l;have a:=M2 k;rw[f]at a;rw[<-o]at j;have:d.toList.take (i*A4.sz α)=g:=by
   have m:(d.toList.take (xs.length*A4.sz α)).take (i*A4.sz α)=g:=by rw[j,<-a,dW1]
   rw[List.take_take,dT1 (dV6 _ n)]at m;exact m
  rw[this];exact k
def cO8{p:Pg}{i x y:Nat}{wy:Wy}(k:D4 p)(hw:C5 p<=1000000)(h:i<p.procs.length)(c:ao1 p i x y wy):OkR wy.net/\wy.net.length=wy.n.toNat/\∀r∈wy.net,r.length<=1000000:=by
 have g:=bq0 k hw h c;have l:=aU2 k hw h c;have j:wy.net.length=wy.n.toNat:=aW5 _ _;have e:wy.net=ao6 wy.n.toNat (wy.pairs wy.data):=rfl;refine⟨λa b f=>?_,j,λr d=>?_⟩
 ·unfold C9 at f;split at f
  ·next q=>
   have hm:wy.net.getD a.toNat []∈wy.net:=by
    rw[List.getD,dM4 (by omega)];exact dN5 _
   rw[e]at hm;obtain⟨t,m,rfl⟩:=(aW6 hm).2 b f;have:=(g t m).2;rw[j];exact B3.2 ⟨by omega,by omega⟩
  ·simp at f
 ·rw[e]at d;have n:=(aW6 d).1;have o:(wy.pairs wy.data).length=wy.data.length:=dN4 _;omega
def cC3(a:Addr)(b:Bk)(p:Pg)(i:Nat)(vn:Value)(name:A6)(w:World)(ha:At (i4 w) a b)(bG:cv6 p b)(ay:b.ways=I0 p)(a2:M8 (b9 p).l.length 100 b.defs)(a7:M8 (b9 p).l.length 2000000 b.uses)
  (hr:D4 p) (hw:C5 p<=1000000) (hi:i<p.procs.length) (a8:R (i4 w) vn (D5 (b9 p) i).net) :
  p7 prog 176 #[.pointer (some a),.int .i64 i,vn,p6 name] w λu w'=>(u = .bool (aC5 (D5 (b9 p) i) (G2 b.outs i) b.uses b.defs name)/\o7 w w'):=by
 refine p9 [.pointer (some a),.int .i64 i,vn,p6 name] func176 rfl ?_;obtain⟨x,pt⟩:=J5 hr.may hw i hi;have ae:=P2 pt;generalize x+A9 p.procs[i].body=y at pt ae;have cZ:=J1 hr.may;have c3:=pt.ok.len;have c2:=pt.ok.le;have hn:=ae.n;obtain⟨aa,ar,bE⟩:=cO8 hr hw hi ae;obtain⟨sh,vw,vd,vu,_,vo,has,bT,bQ,bS,_,bR,ba,_⟩:=ha.book bG.s;obtain⟨aw,cq,aC⟩:=am9 (hv:=bT) (k:=i) (p:=⟨D5 (b9 p) i⟩) (by unfold Bk.wp;rw[ay,dP9,S7 hi];rfl);simp only at aC;have bx:=bT.inS (k:=i) (by unfold Bk.wp;rw[ay];unfold I0;simpa using hi);obtain⟨au,aH,cF⟩:=bG.outs.row hi;generalize D5 (b9 p) i=o at ae hn aa ar bE a8 aC ⊢;have bD:o.n=((o.n.toNat:Nat):Int):=by omega
 have cg:2<=o.n.toNat:=by omega
 have aY:o.n.toNat<=202:=by omega
 have aI:=ae.toWyOk.place;have Q:=bF2 (outs:=G2 b.outs i) (uses:=b.uses) (defs:=b.defs) (name:=name) aa ar (by omega);have aN:∀c:Nat,ch0 o (G2 b.outs i) b.uses name c=if(c:Int)=o.n-1 then(G2 b.outs i).contains name else !decide (c=0)&&(G2 b.uses (o.place c-1)).contains name:=λc=>rfl;have an:∀c:Nat,aV3 o b.uses b.defs name c=(decide ((c:Int)=o.n-1) || !decide (c=0)&&((G2 b.uses (o.place c-1)).contains name||(G2 b.defs (o.place c-1)).contains name)):=λc=>rfl;generalize ch0 o (G2 b.outs i) b.uses name=O at Q aN;generalize aV3 o b.uses b.defs name=G at Q an;generalize aC5 o (G2 b.outs i) b.uses b.defs name=bb at Q ⊢;obtain⟨uo,cO,co⟩:=R.row bR au;have bv:=bR.inS (dM9.1 au).1;have aS:=ay8 aa G;have aJ:=aa8 o.net G;have av:=aq3 o.net G;rw[ar]at aJ;generalize av6 o.net G=nx at Q aS aJ av;obtain⟨_,_,_,_,_,_,b1,_⟩:=aC.wy;generalize hM:o.n.toNat=M at Q ar aJ bD cg aY;have h0:H1 M 0=true:=B3.2 ⟨by omega,by omega⟩;obtain⟨ib,cu,br⟩:=az9 (P:=prog) T5 aE1;have lb:=ba w (i5 _);have lw:=b1 w (i5 _);have cC:=H7 (P:=prog) (t:=114) cq (i5 _) an1;obtain⟨vs,w1,bB,bI,bW,c1,_⟩:=mk (P:=prog) (w:=w) (h:=i4 w) (α:=Bool) bw9 T5 (y:=false) rfl (n:=M) (by omega) (by omega) (i5 _);rw[<-bD]at bB;obtain⟨vt,w2,cx,cG,bX,bp⟩:=lit (P:=prog) (w:=w1) (h:=i4 w) (α:=Int) (xs:=[.int .i64 0]) (ys:=[0]) (parts:=#[(0,.int .i64 0)]) (n:=1) U2 rfl (G5.2 rfl) (by simp[Value.cells]) rfl rfl (by simp) (by simp) (b7 bW);have aT:IntKind.i64.wrap (o.n-1)=((M-1:Nat):Int):=by rw[M3 _ (by omega)];omega
 simp only[m8,o6,y0,simprocAttr,lb,bx,cC,lw,bB,cx];refine n9 [0,1,2,3,9,10] (σ:=Value×List Int×List Bool) (λs f w'=>f 11=s.1/\A8 (i4 w) w' 3 s.1 s.2.1/\A8 (i4 w) w' 4 vs s.2.2/\(∀b,A3 s.1 b->¬A3 vs b)/\o7 w w'/\NJ M nx O s.2.1 s.2.2 (λ_=>False)/\s.2.1.length+s.2.2.count false<=203) (λs=>s.2.1.length+s.2.2.count false) (vt,[0],List.replicate M false) ?_ ?_
 ·simp only[p8,simprocAttr];refine⟨by trivial,cG,bI.ext bX,λb hb aD=>?_,bW.trans bX,NJ.start h0,by simp only[dP7];have:=List.count_le_length (a:=false) (l:=List.replicate M false);rw[dR7]at this;omega⟩;have:=bI.lt aD;have:=bp b hb;omega
 rintro⟨v,L,r⟩ f w3 Z ⟨aA,ho,ab,bn,F,hJ,ci⟩;simp only at aA ho ab bn hJ ci;simp only[dM6,p8,simprocAttr]at Z;obtain⟨e0,e1,e2,e3,e9,cd,_⟩:=Z;have aZ:=ho.isS;have aF:=ho.vlen;have c0:=ho.vcap;have cJ:=hJ.len;simp only[m8,o6,simprocAttr,aA,aZ,aF];refine n7 (λhc=>?_) (λhc=>?_);rotate_left
 ·have cK:L=[]:=by
   have:¬(0:Int)<(L.length:Int):=by simpa using hc
   exact List.length_eq_zero_iff.1 (by omega)
  subst cK;have cE:=hJ.fin aS aJ h0;have bN:bb=false:=by
   cases hrs:bb with
   | false=>rfl
   | true=>
    obtain⟨c,di,ah,ck⟩:=Q.1 hrs;have:=cE _ ck;rw[dP0,ah]at this;cases this
  simp only[m8,simprocAttr];refine o8 results176 ?_;simp only[p8,simprocAttr];exact⟨by rw[bN],F⟩
 obtain⟨n,bC⟩:∃n,L.length=n+1:=⟨L.length-1,by have:(0:Int)<(L.length:Int):=by simpa using hc
                                              omega⟩
 obtain⟨td,c,rfl,ds,cL,cM⟩:=bt3 bC;obtain⟨bi,cn,aM⟩:=hJ.pop;obtain⟨dh,dj⟩:=B3.1 cn;obtain⟨C,rfl⟩:∃C:Nat,c=(C:Int):=⟨c.toNat,by omega⟩;have ce:C<M:=by omega
 have bU:IntKind.i64.wrap (((n+1:Nat):Int)-1)=(n:Int):=by rw[M3 _ (by omega)];omega
 rw[bC]at aF;have bs:=ho.inS (k:=n) (by omega);have bz:(Instr.loadAt 3 (.pointer (some (G4 v n)))).run prog w3 = .ok (.int .i64 (C:Int)) w3:=D3 (P:=prog) ho cL G3;obtain⟨J,bl⟩:=bY4 (sz:=1) ho (i:=n) (by omega);rw[cM]at J;have aj:decide ((n:Int)<=(vcap v:Int))=true:=by simp;omega
 have X:∀b,A3 (reS v 0 n 1) b->¬A3 vs b:=λb hb=>bn b ((bl b).1 hb);have b2:=b1 w3 (b7 F);have cR:=ba w3 (b7 F);have cA:=H7 (P:=prog) (t:=31) co (b7 F) O0;generalize bP:reS v 0 n 1=v2 at J X;have aq:td.length+r.count false<(td++[(C:Int)]).length+r.count false:=by rw[dM7];simp
 have aL:td.length+r.count false<=203:=by omega
 have E:=aN C;have z:=an C;have S:=av (C:Int);rw[dP0]at S;have al:G C=true->O C=false->NJ M nx O td r (λ_=>False):=λI h2=>bi.close h2 (by rw[S,if_pos I];simp);have aU:O C=true->bb=true:=λI=>Q.2 ⟨C,ce,I,aM⟩;have bh:decide ((C:Int)=((M-1:Nat):Int))=decide ((C:Int)=o.n-1):=by rw[dR5];omega
 rcases dM5 (decide ((C:Int)=((M-1:Nat):Int)))with hq|hq
 ·have ad:(C:Int)=o.n-1:=by rw[bh]at hq;exact dM8 hq
  rw[if_pos ad]at E;rw[dV2 ad]at z;simp only[m8,o6,y0,F8,simprocAttr,aA,aZ,aF,bU,bs,bz,aj,bP,e9,b2,aT,hq,e0,e1,e3,cR,bv,cA];refine E0 (af2 uo _ name w3 (A4.mono (b7 F) cO) (by omega) aH) ?_;rw[<-E];rcases dM5 (O C)with I|I
  ·simp only[m8,simprocAttr,I];refine o8 results176 ?_;simp only[p8,simprocAttr];exact⟨by rw[aU I],F⟩
  ·simp only[m8,simprocAttr,I];exact⟨(v2,td,r),aq,by trivial,J,ab,X,F,al z I,aL⟩
 have ad:¬(C:Int)=o.n-1:=by rw[bh]at hq;exact dN2 hq
 rw[if_neg ad]at E;rw[dW8 ad,dZ4]at z;simp only[cW0,o6,y0,F8,simprocAttr,aA,aZ,aF,bU,bs,bz,aj,bP,e9,b2,aT];rw[cF5];simp only[cW0,o6,simprocAttr,hq];refine bV7 [0,1,2,3,9,10,11,12] (λf' w'=>O C=false/\G C=false/\o7 w3 w') ?_ ?_
 ·rcases Nat.eq_zero_or_pos C with aX|aX
  ·subst aX;simp only[m8,o6,simprocAttr];exact⟨by rw[E];simp,by rw[z];simp,o9.refl _⟩
  ·have cr:decide ((0:Int)<(C:Int))=true:=by simpa using aX
   have bg:(!decide (C=0))=true:=by simp;omega
   obtain⟨q,bL,bK⟩:∃q:Nat,o.place (C:Int)-1=(q:Int)/\q<(b9 p).l.length:=by
    refine⟨x+C-1,?_,by omega⟩;rw[aI,if_neg (by omega),if_neg ad];omega
   have bV:IntKind.i64.wrap (o.place (C:Int)-1)=(q:Int):=by rw[bL];exact M3 _ (by omega)
   rw[bL,bg,dT7]at E z;obtain⟨V,ac,a6⟩:=a7.row bK;obtain⟨N,Y,a3⟩:=a2.row bK;generalize G2 b.uses (q:Int)=ur at V ac a6 E z;generalize G2 b.defs (q:Int)=dr at N Y a3 z;obtain⟨uu,cP,cp⟩:=R.row bS V;obtain⟨ud,cN,cm⟩:=R.row bQ N;have bw:=bS.inS (dM9.1 V).1;have bu:=bQ.inS (dM9.1 N).1;simp only[m8,simprocAttr,cr,e9];refine B9 (ae8 aw o p i x y (C:Int) w3 (aC.mono (b7 F)) ae.toWyOk (by omega)) (λw4 K=>?_);have g:=F.trans K;have b0:=ba w4 (b7 g);have cB:=H7 (P:=prog) (t:=31) cp (b7 g) O0;have cy:=H7 (P:=prog) (t:=31) cm (b7 g) O0;simp only[m8,o6,y0,simprocAttr,e0,e3,b0,bV,bw,cB];refine E0 (af2 uu ur name w4 (A4.mono (b7 g) cP) (by omega) ac) ?_;rcases dM5 (ur.contains name)with I|I
   ·simp only[m8,simprocAttr,I];refine o8 results176 ?_;simp only[p8,simprocAttr];exact⟨by rw[aU (by rw[E];exact I)],g⟩
   rw[I]at E;rw[I,dZ4]at z;simp only[m8,o6,y0,simprocAttr,I,e0,e3,b0,bV,bu,cy];refine E0 (af2 ud dr name w4 (A4.mono (b7 g) cN) (by omega) Y) ?_;rcases dM5 (dr.contains name)with h2|h2
   ·rw[h2]at z;simp only[m8,simprocAttr,h2];exact⟨(v2,td,r),aq,by trivial,J.ext K,ab.ext K,X,g,al z E,aL⟩
   ·rw[h2]at z;simp only[m8,simprocAttr,h2];exact⟨E,z,K⟩
 rintro f4 w4 Z ⟨ct,cw,K⟩;simp only[dM6,p8,simprocAttr]at Z;obtain⟨r0,r1,r2,r3,r9,b3,cS,cT,_⟩:=Z;rw[e0]at r0;rw[e1]at r1;rw[e2]at r2;rw[e3]at r3;rw[e9]at r9;rw[cd]at b3;rw[cw,if_neg (by simp)]at S;have bM:C9 o.net (C:Int)=o.net.getD C []:=by
  unfold C9;rw[if_pos ⟨by omega,by omega⟩,dP0]
 rw[bM]at S;have a4:o.net[C]?=some (o.net.getD C []):=by rw[List.getD,dM4 (by omega)];rfl
 have cI:=bE _ (dO4 a4);have bt:=a8.inS (dM9.1 a4).1;obtain⟨uR,ax,cl⟩:=R.row a8 a4;have bO:∀d∈o.net.getD C [],H1 M d=true:=λd hd=>by
  have:=aa (C:Int) d (by rw[bM];exact hd);rw[ar]at this;exact this
 generalize o.net.getD C []=B at S cI ax bO;have g:=F.trans K;have cz:=H7 (P:=prog) (t:=24) cl (b7 g) ad0;have ch:=ax.isS;have cD:=ax.vlen;simp only[m8,o6,y0,simprocAttr,r2,cT,bt,cz,ch,cD];refine n9 [0,1,2,3,9,10,87,88] (σ:=(Nat×Value)×(List Int×List Bool)) (λs f w'=>f 89 = .int .i64 s.1.1/\f 11=s.1.2/\s.1.1<=B.length/\A8 (i4 w) w' 3 s.1.2 s.2.1/\A8 (i4 w) w' 4 vs s.2.2/\(∀b,A3 s.1.2 b->¬A3 vs b)/\o7 w w'/\NJ M nx O s.2.1 s.2.2 (λd=>d=(C:Int))/\(∀j (hj:j<B.length),j<s.1.1->A7 s.2.2 B[j]=true)/\s.2.1.length+s.2.2.count false=td.length+r.count false) (λs=>B.length-s.1.1) ((0,v2),(td,r)) ?_ ?_
 ·simp only[p8,simprocAttr];exact⟨by trivial,cS,dN6 _,J.ext K,ab.ext K,X,g,bi,λj hj h=>by omega,by trivial⟩
 rintro⟨⟨j,v6⟩,bc,m⟩ f6 w6 Z ⟨aB,W,cv,aG,A,H,aK,ag,T,ak⟩;simp only at aB W cv aG A H ag T ak;simp only[dM6,p8,simprocAttr]at Z;obtain⟨j0,j1,j2,j3,j9,a9,bZ,cQ,_⟩:=Z;rw[r0]at j0;rw[r1]at j1;rw[r2]at j2;rw[r3]at j3;rw[r9]at j9;rw[b3]at a9;simp only[m8,o6,simprocAttr,aB,cQ];refine n7 (λah=>?_) (λah=>?_);rotate_left
 ·have cs:j=B.length:=by simp at ah;omega
  subst cs;have cf:=ag.close (by rw[dP0];exact ct) (λd hd=>by
   rw[S]at hd;obtain⟨k,Z,rfl⟩:=dT0.1 hd;exact T k Z Z)
  simp only[m8,simprocAttr];exact⟨(v6,bc,m),by simp only[];omega,W,aG,A,H,aK,cf,by simp only[];omega⟩
 have aE:j<B.length:=by simpa using ah
 have aP:=ax.inS aE;have ap:=aF7 ax (b7 aK) aE;have am:=bO _ (dN5 aE);have bo:B[j]∈C9 nx (C:Int):=by rw[S];exact dN5 aE
 have U:∀sn:List Bool,(∀e,A7 m e=true->A7 sn e=true)->A7 sn B[j]=true->∀k (Z:k<B.length),k<j+1->A7 sn B[k]=true:=λsn hm hd k Z dp=>by
  rcases dQ7 k j with h|h
  ·exact hm _ (T k Z h)
  ·obtain rfl:k=j:=by omega
   exact hd
 generalize B[j]=d at ap am bo U;obtain⟨dk,dl⟩:=B3.1 am;obtain⟨D,rfl⟩:∃D:Nat,d=(D:Int):=⟨d.toNat,by omega⟩;have aR:=ag.len;have af:D<m.length:=by omega
 have aO:=A.inS af;have ao:(Instr.loadAt 4 (.pointer (some (G4 vs D)))).run prog w6 = .ok (.bool m[D]) w6:=D3 (P:=prog) A (dM4 af) am6;have bk:A7 m (D:Int)=m[D]:=by
  rw[(N0 (by rw[aR];exact am)).2,dP0,List.getD,dM4 af];rfl
 have a1:=Y7 (l:=m) af;generalize m[D]=sb at ao bk a1;rcases dM5 sb with I|I<;>subst I
 ·simp only[m8,o6,y0,simprocAttr,aB,a9,bZ,aP,ap,aO,ao];exact⟨((j+1,v6),(bc,m)),by simp only[];omega,by simp only[];rw[B0 j (by omega)],W,by simp only[];omega,aG,A,H,aK,ag,U m (λ_ h=>h) bk,ak⟩
 ·have a1:=a1 rfl;obtain⟨w7,s1,aQ,bA,_⟩:=E4 (P:=prog) (t:=4) A rfl af (x:=.bool true) (y:=true) rfl rfl cu br;have bF:=aG.mod bA H;have bY:=A.ext2 aK bA;obtain⟨p1,u8,w8,p2,p3,p4,p5⟩:=push (P:=prog) (t:=24) (e:=24) U2 rfl bF (x:=.int .i64 (D:Int)) (y:=(D:Int)) rfl (by omega) (by omega) (b7 bY);simp only[Value.cells]at p1 p2;have bJ:=aQ.mod p4 λb hb h=>H b h hb;have bj:=ag.push am (Y5.step aM bo);rw[dP0]at bj;have bH:H1 m.length (D:Int)=true:=by rw[aR];exact am
  have bm:∀e,A7 (m.set D true) e=if e=(D:Int)then true else A7 m e:=λe=>by
   have:=M6 (l:=m) (a:=(D:Int)) (b:=e) (v:=true) bH;rw[dP0]at this;exact this
  simp only[m8,o6,y0,simprocAttr,aB,W,a9,bZ,aP,ap,aO,ao,s1,p1,p2];refine⟨((j+1,u8),(bc++[(D:Int)],m.set D true)),by simp only[];omega,by simp only[];rw[B0 j (by omega)],by trivial,by simp only[];omega,p3,bJ,λb hb aD=>?_,bF.ext2 bY p4,bj,U _ (λe he=>?_) ?_,?_⟩
  ·rcases p5 b hb with h|h
   ·exact H b h aD
   ·have:=aQ.lt aD;omega
  ·rw[bm];split
   ·rfl
   ·exact he
  ·rw[bm,if_pos rfl]
  ·simp only[dM7,dP7];omega
def db4(a:Addr)(b:Bk)(p:Pg)(i:Nat)(w:World)(ha:At (i4 w) a b)(I:cv6 p b)(c:b.ways=I0 p)(r:M8 (b9 p).l.length 100 b.defs)(A:M8 (b9 p).l.length 2000000 b.uses)
  (S:D4 p) (hw:C5 p<=1000000) (E:i<p.procs.length) :
  p7 prog 125 #[.pointer (some a),.int .i64 i] w λu Q=>(A8 (i4 w) Q 9 u (aE7 p b.outs b.uses b.defs i)/\o7 w Q):=by
 refine p9 [.pointer (some a),.int .i64 i] func125 rfl ?_;obtain⟨x,pt⟩:=J5 S.may hw i E;have L:=P2 pt;generalize x+A9 p.procs[i].body=y at pt L;obtain⟨sh,vw,_,_,_,_,has,K,_,_,_,_,O,_⟩:=ha.book I.s;obtain⟨_,_,_,_,_,_,J,_,_⟩:=has.sh;rw[K9]at J;obtain⟨vg,vp,ag,az,aj,_⟩:=J.pg;obtain⟨aw,Z,C⟩:=am9 (hv:=K) (k:=i) (p:=⟨D5 (b9 p) i⟩) (by unfold Bk.wp;rw[c,dP9,S7 E];rfl);simp only at C;have F:=K.inS (k:=i) (by unfold Bk.wp;rw[c];unfold I0;simpa using E);have ay:=(W2 S.may).1;have lb:=O w (i5 _);have ad:=H7 (P:=prog) (t:=114) Z (i5 _) an1;simp only[m8,o6,y0,simprocAttr,lb,F,ad];refine y5 (cX1 aw (D5 (b9 p) i) p i x y w C S hw E L) ?_;rintro un T ⟨af,m⟩;have ah:=O T (b7 m);have ak:=aj T (b7 m);simp only[m8,o6,simprocAttr,ah,ak];refine y5 (ar5 vg p.globals T (A4.mono (b7 m) ag) (by omega)) ?_;rintro uc w3 ⟨H,N⟩;obtain⟨p1,ul,w4,p2,p3,p4,p5⟩:=pushS (e:=31) H ab1 (by omega) (b7 N);have al:(Instr.buildSlice 31 1 #[(0,.string ⟨#[36,105,110]⟩)]).run prog w3=_:=p1;have d:o7 T w4:=H.ext2 N p4;have l:=p3.rw_ (b7 d);have W:aE7 p b.outs b.uses b.defs i=(p.globals++[ab1]).filter (aC5 (D5 (b9 p) i) (G2 b.outs i) b.uses b.defs):=rfl;have D:(p.globals++[ab1]).length<=17:=by rw[dM7,dP7];omega
 generalize p.globals++[ab1]=o at l W D;generalize hP:aC5 (D5 (b9 p) i) (G2 b.outs i) b.uses b.defs=P at W;have X:=l.isS;have ae:=l.vlen;simp only[m8,o6,simprocAttr,al,p2,X,ae];refine n9 [0,1,6,27,28] (σ:=Nat×Value) (λs f Q=>f 29 = .int .i64 s.1/\f 5=s.2/\s.1<=o.length/\A8 (i4 w4) Q 9 s.2 ((o.take s.1).filter P)/\o7 w4 Q) (λs=>o.length-s.1) (0,.slice none 0 0) ?_ ?_
 ·simp only[p8,simprocAttr];exact⟨by trivial,by trivial,dN6 _,by simpa using A8.nil _ _ _,o9.refl _⟩
 rintro⟨k,u⟩ f w5 hk ⟨j,R,ac,B,g⟩;simp only at j R ac B;simp only[dM6,p8,simprocAttr]at hk;obtain⟨e0,e1,e6,U,V,_⟩:=hk;have q:=m.trans (d.trans g);have M:=d.trans g;simp only[m8,o6,simprocAttr,j,V];refine n7 (λY=>?_) (λY=>?_);rotate_left
 ·have aa:k=o.length:=by simp at Y;omega
  subst aa;rw[dN8]at B;simp only[m8,simprocAttr,R];exact o8 results125 ⟨by rw[W];exact B.back (m.trans d),q⟩
 have v:k<o.length:=by simpa using Y
 have ab:=l.inS v;have G:=ldS l (b7 g) v;have z:=al6 P o v;have ax:((o.take k).filter P).length<=17:=dN1 (dP3 _ _) (by rw[dN9];omega);generalize o[k]=n at G z;simp only[m8,o6,y0,simprocAttr,j,e0,e1,e6,U,ab,G];refine B9 (cC3 a b p i un n w5 (ha.mono (b7 q)) I c r A S hw E (A4.mono (b7 M) af)) (λw6 h=>?_);rw[hP];rcases dM5 (P n)with h1|h1
 ·obtain⟨q1,u7,w7,q2,q3,q4,q5⟩:=pushS (e:=31) (B.ext h) n (by omega) (b7 (g.trans h));simp only[m8,o6,simprocAttr,h1,j,R,q1,q2];refine⟨(k+1,u7),by omega,dO2 _ (B0 k (by omega)),by trivial,by omega,?_,(B.ext h).ext2 (g.trans h) q4⟩;simp only[];rw[z,h1,if_pos rfl];exact q3
 ·simp only[m8,o6,simprocAttr,h1,j,R];refine⟨(k+1,u),by omega,dO2 _ (B0 k (by omega)),by trivial,by omega,?_,g.trans h⟩;simp only[];rw[z,h1,if_neg (by simp),dP8];exact B.ext h
def nB(a:Nat)(c d:Value)(Z:Nat->Prop)(b:Nat):Prop:=b=a\/A3 c b\/A3 d b\/Z b
structure BM {α β:Type} [A4 α] [A4 β] (H:Hp) (w0 wz w:World) (Z:Nat->Prop) (gb:Nat) (TB TX TY:TypeId) (cells:Value->Array Value) (vx vy:Value) (xs:List α) (ys:List β):Prop where
 ext:o7 w0 w
 ge:w0.heap.size<=gb
 cb:w.heap[gb]?=some (.cells (cells vx) TB (0,0))
 ox:A8 (B6 w (nB gb vx vy Z)) w TX vx xs
 oy:A8 (B6 w (nB gb vx vy Z)) w TY vy ys
 dx:∀b,A3 vx b->w0.heap.size<=b/\b≠gb/\¬A3 vy b/\¬Z b
 dy:∀b,A3 vy b->w0.heap.size<=b/\b≠gb/\¬Z b
 dz:∀b,Z b->b≠gb/\b<wz.heap.size
 zk:∀b,Z b->w.heap[b]?=wz.heap[b]?
 sz:wz.heap.size<=w.heap.size
 base:B5 H (B6 w (nB gb vx vy Z))
section
variable {α β:Type} [A4 α] [A4 β] {H:Hp} {w0 wz w:World} {Z:Nat->Prop} {gb:Nat} {TB TX TY:TypeId} {cells:Value->Array Value} {vx vy:Value} {xs:List α} {ys:List β} {P:Program}
def BM.lt(s:BM H w0 wz w Z gb TB TX TY cells vx vy xs ys){b:Nat}(h:nB gb vx vy Z b):b<w.heap.size:=by
 rcases h with rfl|h|h|h
 ·exact(dN0.1 s.cb).1
 ·exact s.ox.lt h
 ·exact s.oy.lt h
 ·have:=(s.dz b h).2;have:=s.sz;omega
def BM.more(s:BM H w0 wz w Z gb TB TX TY cells vx vy xs ys){c:World}(a:o7 w c):BM H w0 wz c Z gb TB TX TY cells vx vy xs ys:=by
 have d:B5 (B6 w (nB gb vx vy Z)) (B6 c (nB gb vx vy Z)):=I9 a (λ_ h=>h.elim) λb h=>.inl h;have hN:∀(v:Value),(∀b,A3 v b->nB gb vx vy Z b)->∀b,A3 v b->B6 c (nB gb vx vy Z) b=none:=λv f b e=>F2 (f b e);exact⟨s.ext.trans a,s.ge,(a.block gb (dN0.1 s.cb).1 id).trans s.cb,(s.ox.ext a).up d (hN vx λb h=>.inr (.inl h)),(s.oy.ext a).up d (hN vy λb h=>.inr (.inr (.inl h))),s.dx,s.dy,s.dz,
  λb h=>(a.block b (s.lt (.inr (.inr (.inr h)))) id).trans (s.zk b h),dN1 s.sz a.size,t8 s.base d⟩
def BM.fresh(s:BM H w0 wz w Z gb TB TX TY cells vx vy xs ys){d:Type}[I4 d]{c:World}{T:TypeId}{u:Value}{l:List d}(a:A8 (i4 w) c T u l):R (B6 c (nB gb vx vy Z)) u l:=
 (a.down (h:=λ_=>none) (λ_ _ h=>by cases h)).ro (λ_ _ h=>by cases h) λb e=>D8 λh=>by
  have f:=s.lt h;have g:=D0 (a.free e);omega
def BM.reset(s:BM H w0 wz w Z gb TB TX TY cells vx vy xs ys){ix:Nat}(i:ix<(cells vx).size)(e:∀v l,(cells v).setIfInBounds ix l=cells l){t:TypeId}{f:TypeInfo}(d:P.info? t=some f)(n:f.size=1):
  ∃g,(Instr.storeAt t (.pointer (some ⟨gb,ix,none⟩)) (.slice none 0 0)).run P w = .ok () g/\BM H w0 wz g Z gb TB TX TY cells (.slice none 0 0) vy ([]:List α) ys:=by
 obtain⟨g,m,j,c⟩:=ag5 (P:=P) (t:=t) (x:=.slice none 0 0) s.cb i rfl rfl d n;rw[e]at j;have k:B5 (B6 w (nB gb vx vy Z)) (B6 g (nB gb (.slice none 0 0) vy Z)):=I9 c (λb h=>.inl h) λb h=>by
  rcases h with h|h|h
  ·exact .inl (.inl h)
  ·exact absurd h D1
  ·exact .inl (.inr (.inr h))
 refine⟨g,m,o9.ext_of s.ext c λb a=>by subst a;exact s.ge,s.ge,j,A8.nil _ _ _,?_,λb a=>absurd a D1,s.dy,s.dz,λb h=>(c.block b (s.lt (.inr (.inr (.inr h)))) (s.dz b h).1).trans (s.zk b h),dN1 s.sz c.size,t8 s.base k⟩;exact(s.oy.mod c λb a=>(s.dy b a).2.1).up k λb a=>F2 (.inr (.inr (.inl a)))
def BM.push(s:BM H w0 wz w Z gb TB TX TY cells vx vy xs ys){t e:TypeId}{sz m:Nat}(z:F4 P t TX sz m=true)(A:A4.sz α=sz){x:Value}{y:α}(I:A4.enc (B6 w (nB gb vx vy Z)) x.cells.toList y)
  (F:xs.length+1<=1000000000000) (hb:(xs.length+1)*m<=140737488355328) {ix:Nat} (u:ix<(cells vx).size) (o:∀v a,(cells v).setIfInBounds ix a=cells a) {q:TypeInfo} (n:P.info? t=some q) (G:q.size=1) :
  (Instr.buildSlice t 1 #[(0,x)]).run P w = .ok (.slice (some ⟨w.heap.size,0,none⟩) 1 1) (w.alloc (.cells x.cells TX)) /\
  ∃a f c,(Builtin.append_ #[t,t] e #[vx,.slice (some ⟨w.heap.size,0,none⟩) 1 1]).run P (w.alloc (.cells x.cells TX)) = .ok a f/\(Instr.storeAt t (.pointer (some ⟨gb,ix,none⟩)) a).run P f = .ok () c /\
   BM H w0 wz c Z gb TB TX TY cells a vy (xs++[y]) ys/\o9 (A3 vx) w f:=by
 obtain⟨J,a,f,K,C,i,D⟩:=Go.Proofs.YtfadjbljajfkfaaGreat.push (P:=P) (e:=e) z A s.ox I F hb (B2 _ _);have r:f.heap[gb]?=some (.cells (cells vx) TB (0,0)):=(i.block gb (dN0.1 s.cb).1 λh=>(s.dx gb h).2.1 rfl).trans s.cb;obtain⟨c,E,g,l⟩:=ag5 (P:=P) (t:=t) (x:=a) r u (E3 C.isS) (X8 C.isS) n G;rw[o]at g;have B:o7 w0 f:=o9.ext_of s.ext i λb hb=>(s.dx b hb).1;have j:B5 (B6 w (nB gb vx vy Z)) (B6 f (nB gb a vy Z)):=I9 i (λb h=>.inr (.inl h)) λb h=>by
  rcases h with h|h|h
  ·exact .inl (.inl h)
  ·rcases D b h with h|h
   ·exact .inl (.inr (.inl h))
   ·exact .inr h
  ·exact .inl (.inr (.inr h))
 have k:B5 (B6 f (nB gb a vy Z)) (B6 c (nB gb a vy Z)):=I9 l (λb h=>.inl h) λb h=>.inl h;have d:=λb (h:nB gb vx vy Z b)=>s.lt h;have p:∀b,A3 a b->w0.heap.size<=b/\b≠gb/\¬A3 vy b/\¬Z b:=λb hb=>by
  rcases D b hb with h|h
  ·exact s.dx b h
  ·refine⟨dN1 s.ext.size h,λe=>?_,λg=>?_,λg=>?_⟩
   ·have:=d b (.inl e);omega
   ·have:=d b (.inr (.inr (.inl g)));omega
   ·have:=d b (.inr (.inr (.inr g)));omega
 refine⟨J,a,f,c,K,E,⟨o9.ext_of B l λb hb=>by subst hb;exact s.ge,s.ge,g,?_,?_,p,s.dy,s.dz,λb h=>?_,dN1 s.sz (dN1 i.size l.size),t8 s.base (t8 j k)⟩,i⟩
 ·exact(C.mod l λb hb=>(p b hb).2.1).up (t8 j k) λb hb=>F2 (.inr (.inl hb))
 ·exact((s.oy.mod i λb hb h=>(s.dx b h).2.2.1 hb).mod l λb hb=>(s.dy b hb).2.1).up (t8 j k) λb hb=>F2 (.inr (.inr (.inl hb)))
 ·have hb:=d b (.inr (.inr (.inr h)));exact(l.block b (dS9 hb i.size) (s.dz b h).1).trans ((i.block b hb λg=>(s.dx b g).2.2.2 h).trans (s.zk b h))
def BM.set(s:BM H w0 wz w Z gb TB TX TY cells vx vy xs ys)(o:A4.sz β=1){k:Nat}(j:k<ys.length){u:Value}{y:β}(n:A4.enc (B6 w (nB gb vx vy Z)) [u] y)(m:u.cells=#[u]){t:TypeId}{e:TypeInfo}(d:P.info? t=some e)(l:e.size=1):
  ∃f,(Instr.storeAt t (.pointer (some (G4 vy k))) u).run P w = .ok () f/\BM H w0 wz f Z gb TB TX TY cells vx vy xs (ys.set k y):=by
 obtain⟨f,p,q,c,_⟩:=E4 (P:=P) (t:=t) s.oy o j (x:=u) n m d l;have g:B5 (B6 w (nB gb vx vy Z)) (B6 f (nB gb vx vy Z)):=I9 c (λb h=>.inr (.inr (.inl h))) λb h=>.inl h;refine⟨f,p,o9.ext_of s.ext c λb a=>(s.dy b a).1,s.ge,(c.block gb (dN0.1 s.cb).1 λh=>(s.dy gb h).2.1 rfl).trans s.cb,?_,?_,s.dx,s.dy,s.dz,λb h=>(c.block b (s.lt (.inr (.inr (.inr h)))) λi=>(s.dy b i).2.2 h).trans (s.zk b h),dN1 s.sz c.size,t8 s.base g⟩
 ·exact(s.ox.mod c λb a h=>(s.dx b a).2.2.1 h).up g λb a=>F2 (.inr (.inl a))
 ·exact q.up g λb a=>F2 (.inr (.inr (.inl a)))
def BM.rx(s:BM H w0 wz w Z gb TB TX TY cells vx vy xs ys):R (i4 w) vx xs:=s.ox.rw_ (B2 _ _)
def BM.ry(s:BM H w0 wz w Z gb TB TX TY cells vx vy xs ys):R (i4 w) vy ys:=s.oy.rw_ (B2 _ _)
def BM.hb(s:BM H w0 wz w Z gb TB TX TY cells vx vy xs ys):B5 H (i4 w):=t8 s.base (B2 _ _)
end
def bC9{α:Type}[A4 α]{h k:Hp}:∀{n:Nat} {b:List Value},O3 h b (List.replicate n ([]:List α))->O3 k b (List.replicate n ([]:List α))
 | 0,_,e=>e
 | n+1,b,⟨c1,c2,e,h1,h2⟩=>⟨c1,c2,e,by
   obtain⟨a,m,c,i,l,o,f,d,p⟩:=h1;refine⟨a,m,c,i,l,o,f,d,λj v g=>?_⟩;have:f=[]:=d;rw[this]at g;simp at g,bC9 h2⟩
def A8.renil{α:Type}[A4 α]{h k:Hp}{w e:World}{T:TypeId}{v:Value}{n:Nat}(m:A8 h w T v (List.replicate n ([]:List α)))(l:∀b,A3 v b->k b=none)(hw:∀b,A3 v b->e.heap[b]?=w.heap[b]?):A8 k e T v (List.replicate n ([]:List α)):=by
 rcases m with⟨rfl,d⟩|⟨b,c,a,rfl,o,d,f,g,i,j⟩
 ·exact .inl ⟨rfl,d⟩
 ·exact .inr ⟨b,c,a,rfl,l b rfl,(hw b rfl).trans d,f,g,i,bC9 j⟩
def aK2{n B:Nat}{X:Rws}(h:M8 n B X)(i:Int):(G2 X i).length<=B:=by
 unfold G2;rw[List.getD];cases hx:X[i.toNat]? with
 | none=>simp
 | some r=>exact h.few r (dO4 hx)
def aL2{p:Pg}(hm:N2 p=true){n:Nat}{X:Rws}(h:M8 n 25 X){s:St}(d:s.kind=4->ag9 p s=true):(af0 p X s).length<=100:=by
 unfold af0;split
 ·simp
 split
 ·simp
 split
 ·simp
 split
 ·rename_i b;obtain⟨k,a⟩:=U6 (d b);have e:=R1 hm a.lt;have f:=a.len;unfold ao3;rw[a.fn];have g:=aK2 h (ac4 p.procs s.proc);have c:=dP3 (λx:Ar×Pa=>x.1.ref&&(G2 X (ac4 p.procs s.proc)).contains x.2.name) (s.args.zip (p.procs[k]'a.lt).params);rw[List.length_zip]at c;have i:=dP3 (O7 p) (G2 X (ac4 p.procs s.proc));have j:(if s.name=e0 then([]:List A6)else[s.name]).length<=1:=by split<;>simp
  simp only[dM7,dN4];omega
 ·simp
def bf7{p:Pg}{n:Nat}{X:Rws}(h:M8 n 25 X){s:St}(hw:R4 s<=1000000):(an9 p X s).length<=2000000:=by
 rw[S8]at hw;have a:=ae3 s.x;have b:=O1 s.args;have c:=aK2 h (ac4 p.procs s.proc);unfold an9;simp only[dM7];have d:(if s.kind=2 then[ab1]else[]).length<=1:=by split<;>simp
 have e:(if s.kind=4 then s.args.flatMap L0++G2 X (ac4 p.procs s.proc)else[]).length<=ad1 s.args+25:=by
  split
  ·rw[dM7];omega
  ·simp
 omega
def aY4{l:List It}{f:It->List A6}{B:Nat}(c:∀it∈l,(f it).length<=B):M8 l.length B (l.map λit=>D7 (f it)):=by
 refine⟨by simp,λr b=>?_,λr b=>?_⟩
 ·obtain⟨it,_,rfl⟩:=dO7.1 b;exact S6 _
 ·obtain⟨it,a,rfl⟩:=dO7.1 b;exact dN1 (av5 _) (c it a)
def aR3(new old:Rws)(i:Nat):Rws:=new.take i++old.drop i
section
variable {new old:Rws} {n i:Nat}
def bM3(a:new.length=n)(b:old.length=n):(aR3 new old i).length=n:=by
 unfold aR3;rw[dM7,dN9,dU8];omega
def bW9:aR3 new old 0=old:=by simp[aR3]
def cr5(a:new.length=n)(b:old.length=n):aR3 new old n=new:=by
 unfold aR3;rw[dQ9 (by omega),List.drop_eq_nil_of_le (by omega),dP8]
def cr6(a:new.length=n)(b:i<n):(aR3 new old i)[i]?=old[i]?:=by
 unfold aR3;rw[dR4 (by rw[dN9];omega),dN9,dW6]
 congr 1;omega
def cr7(c:new.length=n)(d:old.length=n)(e:i<n){x:List A6}(b:new[i]?=some x):(aR3 new old i).set i x=aR3 new old (i+1):=by
 unfold aR3;have a:(new.take i).length=i:=by rw[dN9];omega
 rw[List.set_append_right _ _ (by omega),a,Nat.sub_self,dR1 (by omega),List.set_cons_zero,dZ0,b];simp
def cO5{B:Nat}(c:M8 n B new)(d:M8 n B old):M8 n B (aR3 new old i):=by
 have b:∀r∈aR3 new old i,r∈new\/r∈old:=λr a=>by
  rcases dN7.1 a with h|h
  ·exact .inl (dU2 h)
  ·exact .inr (dX9 h)
 exact⟨bM3 c.len d.len,λr a=>(b r a).elim (c.rise r) (d.rise r),λr a=>(b r a).elim (c.few r) (d.few r)⟩
end
def ct4:F4 prog 135 31 1 24=true:=by kernel_rfl
def dz3:F4 prog 134 114 1 8=true:=by kernel_rfl
def cH6(s vi a:Value)(d:s.cells=#[s])(b:vi.cells=#[vi])(c:a.cells=#[a]):B8 prog 137 [(0,s),(4,vi),(5,a)]=some (.agg #[s,.slice none 0 0,.slice none 0 0,.slice none 0 0,vi,a]):=by
 simp[B8,do4,K8,Instr.fill,d,b,c]
def SBs(d:Nat)(e c a:Value)(b:Nat):Prop:=b=d\/A3 e b\/A3 c b\/A3 a b
def ShS.lts{h:Hp}{w:World}{d:Nat}{i vp e c a:Value}{L:List It}{g f:List Int}(s:ShS h w d i vp e c a L g f){b:Nat}(hb:SBs d e c a b):b<w.heap.size:=by
 rcases hb with rfl|hb|hb|hb
 ·exact s.lt
 ·exact s.oL.lt hb
 ·exact s.oLo.lt hb
 ·exact s.oHi.lt hb
def bb7{k:Hp}{a j:Nat}{cs:Array Value}{T:TypeId}{b:Nat×Nat}{u:Value}(d:k a=some (.cells cs T b))(c:cs[j]?=some u):L3 k ((⟨a,0,none⟩:Addr).add j)=some u:=by
 rw[add_lit,dQ2];unfold L3;rw[d];simpa using c
def ShS.atK{h k:Hp}{w:World}{g:Nat}{f vp i d c:Value}{L:List It}{m l:List Int}{p:Pg}(s:ShS h w g f vp i d c L m l)(e:B5 h k)(a:∀b,SBs g i d c b->k b=w.heap[b]?)(n:R h f p.globals)(q:R h vp p.procs):At k ⟨g,0,none⟩ (⟨p,L,m,l⟩:Sh):=by
 refine⟨[f,vp,i,d,c],⟨[f,vp],i,d,c,rfl,⟨f,vp,rfl,A4.mono e n,A4.mono e q⟩,s.oL.ro e λb h=>a b (.inr (.inl h)),s.oLo.ro e λb h=>a b (.inr (.inr (.inl h))),s.oHi.ro e λb h=>a b (.inr (.inr (.inr h)))⟩,λj u o=>?_⟩;exact bb7 ((a g (.inl rfl)).trans s.cell) (by simpa using o)
def dq4{k:Hp}{d:Nat}{a:Addr}{wy:Wy}{c b:Value}(e:k d=some (.cells #[.pointer (some a),.int .i64 wy.proc,.int .i64 wy.n,c,b] 119 (0,0)))(i:At k a wy.s)(h:R k c wy.real)(g:R k b wy.live):At k ⟨d,0,none⟩ wy:=
 ⟨[.pointer (some a),.int .i64 wy.proc,.int .i64 wy.n,c,b],⟨_,_,_,rfl,i.ptr,h,g⟩,λj u f=>bb7 e (by simpa using f)⟩
def BM.freshN{α β:Type}[A4 α][A4 β]{H:Hp}{w0 n w:World}{Z:Nat->Prop}{d:Nat}{j k TY:TypeId}{a:Value->Array Value}{f g:Value}{xs:List α}{ys:List β}(s:BM H w0 n w Z d j k TY a f g xs ys){c:Type}[A4 c][A0 c]{i:World}{T:TypeId}{u:Value}{l:List c}(e:A8 (i4 w) i T u l):R (B6 i (nB d f g Z)) u l:=
 e.flatRN λb m=>D8 λh=>by
  have o:=s.lt h;have p:=D0 (e.free m);omega
def cD6(p:Pg):b9 p=⟨p,(b9 p).l,(b9 p).lo,(b9 p).hi⟩:=by
 have:=K9 p;cases hq:b9 p;rw[hq]at this;simp only at this;rw[this]
structure NI (wd w:World) (p:Pg) (us vi vo:Value):Prop where
 sh:∃gs vg vp vL vLo vHi,us = .pointer (some ⟨gs,0,none⟩)/\ShS (i4 wd) w gs vg vp vL vLo vHi (b9 p).l (b9 p).lo (b9 p).hi/\R (i4 wd) vg p.globals/\R (i4 wd) vp p.procs/\∀b,SBs gs vL vLo vHi b->wd.heap.size<=b/\¬A3 vi b/\¬A3 vo b
 oi:A8 (i4 wd) w 31 vi (List.replicate p.procs.length ([]:List A6))
 oo:A8 (i4 wd) w 31 vo (List.replicate p.procs.length ([]:List A6))
 gi:∀b,A3 vi b->wd.heap.size<=b/\¬A3 vo b
 go:∀b,A3 vo b->wd.heap.size<=b
 ext:o7 wd w
def NI.mk'{a w:World}{p:Pg}{f:Nat}{v vp u e d vi x:Value}(g k i l j m:Nat)(t:ShS (i4 a) w f v vp u e d (b9 p).l (b9 p).lo (b9 p).hi)(B:R (i4 a) v p.globals)(C:R (i4 a) vp p.procs)
  (n:∀b,SBs f u e d b->g<=b/\b<k) (o:∀b,A3 vi b->i<=b/\b<l) (q:∀b,A3 x b->j<=b/\b<m) (y:k<=i\/l<=g) (z:k<=j\/m<=g) (A:l<=j\/m<=i) (E:a.heap.size<=g/\a.heap.size<=i/\a.heap.size<=j)
  (r:A8 (i4 a) w 31 vi (List.replicate p.procs.length ([]:List A6))) (s:A8 (i4 a) w 31 x (List.replicate p.procs.length ([]:List A6))) (D:o7 a w):NI a w p (.pointer (some ⟨f,0,none⟩)) vi x:=by
 refine⟨⟨f,v,vp,u,e,d,rfl,t,B,C,λb c=>⟨?_,λh=>?_,λh=>?_⟩⟩,r,s,λb c=>⟨?_,λh=>?_⟩,λb c=>?_,D⟩
 ·have:=n b c;omega
 ·have:=n b c;have:=o b h;omega
 ·have:=n b c;have:=q b h;omega
 ·have:=o b c;omega
 ·have:=o b c;have:=q b h;omega
 ·have:=q b c;omega
def cj0{p:Pg}(hm:N2 p=true){D:Rws}(b:M8 (b9 p).l.length 100 D)(a:(b9 p).l.length<=200)(i:Nat)(hw:C5 p<=1000000)(f:i<p.procs.length):(ac0 p D i).length<=20000:=by
 have e:ac0 p D i=((b9 p).of i).flatMap λit=>if(D5 (b9 p) i).lives it.s.id then(G2 D (it.s.id-1)).filter (Z6 p i)else[]:=by
  unfold ac0;rw[bc3]
 rw[e];have c:=N5 (λit:It=>if(D5 (b9 p) i).lives it.s.id then(G2 D (it.s.id-1)).filter (Z6 p i)else[]) 100 ((b9 p).of i) λit _=>by
  split
  ·exact dN1 (dP3 _ _) (aK2 b _)
  ·simp
 have d:((b9 p).of i).length<=200:=by
  unfold Sh.of;rw[dU8,dN9];omega
 omega
def cA7{p:Pg}(hm:N2 p=true)(O U D:Rws)(i:Nat):(aE7 p O U D i).length<=17:=by
 unfold aE7;refine dN1 (dP3 _ _) ?_;have:=(W2 hm).1;rw[dM7,dP7];omega
def ci4{p:Pg}(c:D4 p)(hw:C5 p<=1000000)(i:Nat)(b:i<p.procs.length):OkR (D5 (b9 p) i).net/\(D5 (b9 p) i).net.length=(D5 (b9 p) i).n.toNat/\0<(D5 (b9 p) i).n:=by
 obtain⟨x,d⟩:=J5 c.may hw i b;have a:=P2 d;obtain⟨e,f,_⟩:=cO8 c hw b a;have g:=a.n;have:=d.ok.le;exact⟨e,f,by omega⟩
def dg7{w:World}{g:Nat}{a:Addr}{f c e vi d:Value}{b:Bk}(o:w.heap[g]?=some (.cells #[.pointer (some a),f,c,e,vi,d] 137 (0,0)))(h:At (i4 w) a b.s)(i:R (i4 w) f b.wp)(k:R (i4 w) c b.defs)(l:R (i4 w) e b.uses)(m:R (i4 w) vi b.ins)(n:R (i4 w) d b.outs):At (i4 w) ⟨g,0,none⟩ b:=
 ⟨[.pointer (some a),f,c,e,vi,d],⟨_,_,_,_,_,_,rfl,h.ptr,i,k,l,m,n⟩,λj u p=>bb7 o (by simpa using p)⟩
def cX2(v:Value)(p:Pg)(w:World)(hv:SV (i4 w) v p)(hw:C5 p<=1000000):
  p7 prog 74 #[v] w λu j=>((I5 p=false->u = .pointer none)/\(I5 p=true->∃ad,u = .pointer (some ad)/\At (i4 j) ad (d9 p))/\o7 w j):=by
 refine p9 [v] func74 rfl ?_;obtain⟨c,w1,dZ,du,cq⟩:=X5 hv (i5 _);obtain⟨sp,dq,dB,dF⟩:=cq.pg_v;obtain⟨eN,eO,es,cw,cQ,ed⟩:=cq.pg;have l1:=dB w1 (i5 _);simp only[m8,o6,simprocAttr,dZ,l1];refine B9 (aT4 sp p w1 dq hw) (λG dv=>?_);rcases dM5 (I5 p)with hR|hR;rotate_left
 ·simp only[m8,o6,simprocAttr,hR];exact o8 results74 ⟨λ_=>rfl,λh=>(by cases h),du.trans dv⟩
 have hr:=N3 hR;obtain⟨ep,er⟩:=W2 hr.may;have X:=dv.trans (o7.drew G);have a8:=cw.isS;have bg:=cw.vlen;have t1:=dF (λj=>o7 G.drew j) G.drew (o9.refl _) λj h=>b7 (X.trans h);have t2:=ed (λj=>o7 G.drew j) G.drew (o9.refl _) λj h=>b7 (X.trans h);have aM:=dq.mono (b7 X);have hz:A4.enc (i4 G.drew) (Value.slice none 0 0).cells.toList ([]:List A6):=bd1 _;have aQ:=λ(wa:World) (ha:o7 G.drew wa)=>mk (P:=prog) (w:=wa) (h:=i4 G.drew) (α:=List A6) ct4 cc0 (y:=[]) hz (n:=p.procs.length) (by omega) (by omega) (b7 ha);simp only[m8,o6,simprocAttr,hR];refine bS7 [1] (λj=>o7 G.drew j) 10 (.op 0 (.op 2 (.op 3 (.op 4 (.op 6 (.op 7 (.op 8 (.fork [1,5,9] (λi=>if i=1 then(.fork [5,9] (λi=>if i=5 then(A5 [9])else(A5 [5])))else if i=5 then(.fork [1,9] (λi=>if i=1 then(A5 [9])else(A5 [1])))else(.fork [1,5] (λi=>if i=1 then(A5 [5])else(A5 [1]))))))))))))
  (λf' j=>NI G.drew j p (f' 19) (f' 23) (f' 27)) (by decide +kernel) (by decide +kernel) (o9.refl _) ?_ ?_
 ·simp only[D6,A5,m8,o6,simprocAttr,t1,t2,a8,bg];refine ah3 (by decide +kernel) (λi hi=>?_);simp only[dO6,dR2,dX1]at hi;rcases hi with rfl|rfl|rfl
  ·simp only[D6,m8,simprocAttr];refine y5 (ae7 (i4 G.drew) sp p G.drew aM (i5 _) hw) ?_;rintro _ wA ⟨S,vg,vp,vL,ay,ax,rfl,J,hg,ak,F,aD,g⟩;refine⟨g,?_⟩;have av:∀b,SBs S vL ay ax b->G.drew.heap.size<=b/\b<wA.heap.size:=λb a=>⟨by rcases a with rfl|a;exact F;exact aD b a,J.lts a⟩;obtain⟨va,wB,m1,o1,E,f1,_⟩:=aQ wA g;obtain⟨vb,wC,m2,o2,T,f2,_⟩:=aQ wB (g.trans E);have dp:=(J.ext E).ext T;refine ah3 (by decide +kernel) (λi hi=>?_);simp only[dO6,dR2,dX1]at hi;rcases hi with rfl|rfl
   ·simp only[D6,m8,simprocAttr,m1,m2,E8];exact⟨g.trans E,(g.trans E).trans T,NI.mk' _ _ wA.heap.size wB.heap.size wB.heap.size wC.heap.size dp hg ak av (λb a=>⟨f1 b a,o1.lt a⟩) (λb a=>⟨f2 b a,o2.lt a⟩) (.inl (dO0 _)) (.inl E.size) (.inl (dO0 _)) ⟨dO0 _,g.size,dN1 g.size E.size⟩ (o1.ext T) o2 ((g.trans E).trans T)⟩
   ·simp only[D6,m8,simprocAttr,m1,m2,E8];exact⟨g.trans E,(g.trans E).trans T,NI.mk' _ _ wB.heap.size wC.heap.size wA.heap.size wB.heap.size dp hg ak av (λb a=>⟨f2 b a,o2.lt a⟩) (λb a=>⟨f1 b a,o1.lt a⟩) (.inl E.size) (.inl (dO0 _)) (.inr (dO0 _)) ⟨dO0 _,dN1 g.size E.size,g.size⟩ o2 (o1.ext T) ((g.trans E).trans T)⟩
  ·obtain⟨va,wB,m1,o1,E,f1,_⟩:=aQ G.drew (o9.refl _);simp only[D6,m8,simprocAttr,m1,E8];refine⟨E,?_⟩;refine ah3 (by decide +kernel) (λi hi=>?_);simp only[dO6,dR2,dX1]at hi;rcases hi with rfl|rfl
   ·simp only[D6,m8,simprocAttr];refine y5 (ae7 (i4 G.drew) sp p wB aM (b7 E) hw) ?_;rintro _ wA ⟨S,vg,vp,vL,ay,ax,rfl,J,hg,ak,F,aD,g⟩;have av:∀b,SBs S vL ay ax b->wB.heap.size<=b/\b<wA.heap.size:=λb a=>⟨by rcases a with rfl|a;exact F;exact aD b a,J.lts a⟩;obtain⟨vb,wC,m2,o2,T,f2,_⟩:=aQ wA (E.trans g);refine⟨E.trans g,?_⟩;simp only[D6,m8,simprocAttr,m2,E8];exact⟨(E.trans g).trans T,NI.mk' _ _ G.drew.heap.size wB.heap.size wA.heap.size wC.heap.size (J.ext T) hg ak av (λb a=>⟨f1 b a,o1.lt a⟩) (λb a=>⟨f2 b a,o2.lt a⟩) (.inr (dO0 _)) (.inl (dO0 _)) (.inl g.size) ⟨E.size,dO0 _,dN1 E.size g.size⟩ ((o1.ext g).ext T) o2 ((E.trans g).trans T)⟩
   ·obtain⟨vb,wC,m2,o2,T,f2,_⟩:=aQ wB E;simp only[D6,m8,simprocAttr,m2,E8];refine⟨E.trans T,?_⟩;refine y5 (ae7 (i4 G.drew) sp p wC aM (b7 (E.trans T)) hw) ?_;rintro _ wA ⟨S,vg,vp,vL,ay,ax,rfl,J,hg,ak,F,aD,g⟩;have av:∀b,SBs S vL ay ax b->wC.heap.size<=b/\b<wA.heap.size:=λb a=>⟨by rcases a with rfl|a;exact F;exact aD b a,J.lts a⟩;refine⟨(E.trans T).trans g,?_⟩;simp only[D6,m8,simprocAttr];exact NI.mk' _ _ G.drew.heap.size wB.heap.size wB.heap.size wC.heap.size J hg ak av (λb a=>⟨f1 b a,o1.lt a⟩) (λb a=>⟨f2 b a,o2.lt a⟩) (.inr T.size) (.inr (dO0 _)) (.inl (dO0 _)) ⟨(E.trans T).size,dO0 _,E.size⟩ ((o1.ext T).ext g) (o2.ext g) ((E.trans T).trans g)
  ·obtain⟨va,wB,m1,o1,E,f1,_⟩:=aQ G.drew (o9.refl _);simp only[D6,m8,simprocAttr,m1,E8];refine⟨E,?_⟩;refine ah3 (by decide +kernel) (λi hi=>?_);simp only[dO6,dR2,dX1]at hi;rcases hi with rfl|rfl
   ·simp only[D6,m8,simprocAttr];refine y5 (ae7 (i4 G.drew) sp p wB aM (b7 E) hw) ?_;rintro _ wA ⟨S,vg,vp,vL,ay,ax,rfl,J,hg,ak,F,aD,g⟩;have av:∀b,SBs S vL ay ax b->wB.heap.size<=b/\b<wA.heap.size:=λb a=>⟨by rcases a with rfl|a;exact F;exact aD b a,J.lts a⟩;obtain⟨vb,wC,m2,o2,T,f2,_⟩:=aQ wA (E.trans g);refine⟨E.trans g,?_⟩;simp only[D6,m8,simprocAttr,m2,E8];exact⟨(E.trans g).trans T,NI.mk' _ _ wA.heap.size wC.heap.size G.drew.heap.size wB.heap.size (J.ext T) hg ak av (λb a=>⟨f2 b a,o2.lt a⟩) (λb a=>⟨f1 b a,o1.lt a⟩) (.inl (dO0 _)) (.inr (dO0 _)) (.inr g.size) ⟨E.size,dN1 E.size g.size,dO0 _⟩ o2 ((o1.ext g).ext T) ((E.trans g).trans T)⟩
   ·obtain⟨vb,wC,m2,o2,T,f2,_⟩:=aQ wB E;simp only[D6,m8,simprocAttr,m2,E8];refine⟨E.trans T,?_⟩;refine y5 (ae7 (i4 G.drew) sp p wC aM (b7 (E.trans T)) hw) ?_;rintro _ wA ⟨S,vg,vp,vL,ay,ax,rfl,J,hg,ak,F,aD,g⟩;have av:∀b,SBs S vL ay ax b->wC.heap.size<=b/\b<wA.heap.size:=λb a=>⟨by rcases a with rfl|a;exact F;exact aD b a,J.lts a⟩;refine⟨(E.trans T).trans g,?_⟩;simp only[D6,m8,simprocAttr];exact NI.mk' _ _ wB.heap.size wC.heap.size G.drew.heap.size wB.heap.size J hg ak av (λb a=>⟨f2 b a,o2.lt a⟩) (λb a=>⟨f1 b a,o1.lt a⟩) (.inr (dO0 _)) (.inr T.size) (.inr (dO0 _)) ⟨(E.trans T).size,E.size,dO0 _⟩ (o2.ext g) ((o1.ext T).ext g) ((E.trans T).trans g)
 rintro f w3 hk dW;simp only[dM6,p8,simprocAttr]at hk;obtain⟨e1,_⟩:=hk;obtain⟨⟨S,vg,vp,vL,ay,ax,dS,J,hg,ak,ca⟩,a0,bs,bH,b5,cb⟩:=dW;generalize dT:f 23=A at a0 bs bH b5 ca;generalize dU:f 27=C at a0 bs bH b5 ca;obtain⟨z,w4,dh,a2,d0,di⟩:∃z w4,(Instr.box 137 (.agg #[.pointer (some ⟨S,0,none⟩),.slice none 0 0,.slice none 0 0,.slice none 0 0,A,C])).run prog w3 = .ok (.pointer (some ⟨z,0,none⟩)) w4/\o7 w3 w4/\w4.heap[z]?=some (.cells #[.pointer (some ⟨S,0,none⟩),.slice none 0 0,.slice none 0 0,.slice none 0 0,A,C] 137 (0,0))/\w3.heap.size<=z:=
  ⟨_,_,rfl,o7.alloc _ _,dQ5 w3 _,dO0 _⟩
 have cK:G.drew.heap.size<=z:=dN1 cb.size di;have bp:∀b,(A3 A b\/A3 C b)->G.drew.heap.size<=b/\b<w3.heap.size:=λb h=>by
  rcases h with h|h
  ·exact⟨(bH b h).1,a0.lt h⟩
  ·exact⟨b5 b h,bs.lt h⟩
 have db:∀b,nB z (.slice none 0 0) (.slice none 0 0) (λb=>A3 A b\/A3 C b) b->b=z\/A3 A b\/A3 C b:=λb h=>by
  rcases h with h|h|h|h
  ·exact .inl h
  ·exact absurd h D1
  ·exact absurd h D1
  ·exact .inr h
 have bB:At (B6 w4 (nB z (.slice none 0 0) (.slice none 0 0) (λb=>A3 A b\/A3 C b))) ⟨S,0,none⟩ (b9 p):=by
  rw[cD6];refine(J.ext a2).atK (aL8 (cb.trans a2) λb a=>?_) (λb a=>D8 λh=>?_) hg ak
  ·rcases db b a with h|h
   ·omega
   ·exact(bp b h).1
  ·rcases db b h with h|h|h
   ·have:=J.lts a;omega
   ·exact(ca b a).2.1 h
   ·exact(ca b a).2.2 h
 have c7:BM (α:=Ptr Wy) (β:=List A6) (B6 w4 (nB z (.slice none 0 0) (.slice none 0 0) (λb=>A3 A b\/A3 C b))) G.drew w4 w4 (λb=>A3 A b\/A3 C b) z 137 114 31 (λv=>#[.pointer (some ⟨S,0,none⟩),v,.slice none 0 0,.slice none 0 0,A,C]) (.slice none 0 0) (.slice none 0 0) [] []:=
  ⟨cb.trans a2,cK,d0,A8.nil _ _ _,A8.nil _ _ _,λb h=>absurd h D1,λb h=>absurd h D1,λb h=>⟨by have:=(bp b h).2;omega,dS9 (bp b h).2 a2.size⟩,λ_ _=>rfl,dO0 _,i5 _⟩
 have dw:=X.trans (cb.trans a2);have ec:=cQ w4 (b7 dw);obtain⟨iw,d2,dj⟩:=az9 (P:=prog) dq0 dp4;obtain⟨il,b8,be⟩:=az9 (P:=prog) dq1 dp5;obtain⟨iS,b6,bd⟩:=az9 (P:=prog) cc0 cT7;have dX:=a0.isS;have dY:=bs.isS;simp only[D6,m8,o6,simprocAttr,dS,dT,dU,cH6 (.pointer (some ⟨S,0,none⟩)) A C rfl (E3 dX) (E3 dY),dh,e1,ec,a8,bg];refine n9 [1,3,32] (σ:=Nat×Value) (λs f j=>f 33 = .int .i64 s.1/\s.1<=p.procs.length/\BM (α:=Ptr Wy) (β:=List A6) (B6 w4 (nB z (.slice none 0 0) (.slice none 0 0) (λb=>A3 A b\/A3 C b))) G.drew w4 j (λb=>A3 A b\/A3 C b) z 137 114 31 (λv=>#[.pointer (some ⟨S,0,none⟩),v,.slice none 0 0,.slice none 0 0,A,C]) s.2 (.slice none 0 0) (((I0 p).take s.1).map λw=>⟨w⟩) []) (λs=>p.procs.length-s.1) (0,.slice none 0 0) ?_ ?_
 ·simp only[p8,simprocAttr];exact⟨by trivial,dN6 _,by simpa using c7⟩
 clear c7;rintro⟨k,vx⟩ f5 w5 hk ⟨bZ,d3,s5⟩;simp only at bZ d3 s5;simp only[dM6,p8,simprocAttr]at hk;obtain⟨g1,g3,dQ,_⟩:=hk;rw[e1]at g1;simp only[m8,o6,simprocAttr,bZ,dQ];refine n7 (λhc=>?_) (λhc=>?_)
 ·have q:k<p.procs.length:=by simpa using hc
  obtain⟨x,pt⟩:=J5 hr.may hw k q;have d8:(I0 p).length=p.procs.length:=by unfold I0;simp
  have aG:((I0 p).take (k+1)).map (λw=>(⟨w⟩:Ptr Wy))=((I0 p).take k).map (λw=>(⟨w⟩:Ptr Wy))++[⟨D5 (b9 p) k⟩]:=by
   rw[dZ0,S7 q,dP6];rfl
  have sd:=s5.more (o7.drew w5);have bq:∀j,o9 (A3 vx) w5.drew j->j.heap[z]?=some (.cells #[.pointer (some ⟨S,0,none⟩),vx,.slice none 0 0,.slice none 0 0,A,C] 137 (0,0)):=λj hm=>(hm.block z (dN0.1 sd.cb).1 λh=>(sd.dx z h).2.1 rfl).trans sd.cb;have k0:∀K f d w0,F3 prog (λj=>o9 (A3 vx) w5.drew j) (Instr.loadAt 116 (.pointer (some ⟨z,0,none⟩))) K f d w0=K (C4 f d (.pointer (some ⟨S,0,none⟩))) w0:=λK f d w0=>B7 (w0:=w5.drew) (o9.refl _) λj h=>E2 (i:=0) (bq j h) rfl aS8;have k1:∀K f d w0,F3 prog (λj=>o9 (A3 vx) w5.drew j) (Instr.loadAt 134 (.pointer (some ⟨z,1,none⟩))) K f d w0=K (C4 f d vx) w0:=λK f d w0=>B7 (w0:=w5.drew) (o9.refl _) λj h=>E2 (i:=1) (bq j h) rfl cl7;simp only[m8,simprocAttr,bZ];refine C0 (λj=>o9 (A3 vx) w5.drew j) 13 (A5 [0,1,2,3,4,5,6,7,8,9,10,11,12]) ?_;simp only[D6,A5,m8,o6,simprocAttr,g3,k0,k1];refine y5 (cm9 ⟨S,0,none⟩ p k x _ w5.drew (bB.mono sd.hb) hr hw q pt) ?_;rintro _ w6 ⟨gw,vr,vl,rfl,d1,eq,d6,d5,cc⟩;refine⟨o9.up cc,?_⟩;have s6:=sd.more cc;have d4:¬nB z vx (.slice none 0 0) (λb=>A3 A b\/A3 C b) gw:=λh=>by have:=sd.lt h;omega
  have dg:At (B6 w6 (nB z vx (.slice none 0 0) (λb=>A3 A b\/A3 C b))) ⟨gw,0,none⟩ (D5 (b9 p) k):=dq4 (wy:=D5 (b9 p) k) ((D8 d4).trans d1) (bB.mono s6.base) (sd.freshN d6) (sd.fresh d5);obtain⟨p1,eg,w7,w8,p2,p3,O,p4⟩:=s6.push (P:=prog) (e:=134) dz3 rfl (x:=.pointer (some ⟨gw,0,none⟩)) (y:=(⟨D5 (b9 p) k⟩:Ptr Wy)) dg.ptr (by rw[dN4,dN9];omega) (by rw[dN4,dN9];omega) (ix:=1) (by simp) (λv v'=>by simp) d2 dj;simp only[Value.cells]at p1 p2;simp only[D6,m8,o6,simprocAttr,p1,p2,E8];refine⟨(o9.up cc).trans (o9.up (o7.alloc _ _)),(o9.up cc).trans p4,?_⟩;simp only[m8,o6,simprocAttr,bZ,p3];refine⟨(k+1,eg),by omega,dO2 _ (B0 k (by omega)),by omega,?_⟩;simp only[];rw[aG];exact O
 have F:k=p.procs.length:=by simp at hc;omega
 subst F;have d8:(I0 p).length=p.procs.length:=by unfold I0;simp
 rw[dQ9 (by omega)]at s5;have dc:∀b,nB z (.slice none 0 0) C (A3 A) b->nB z vx (.slice none 0 0) (λb=>A3 A b\/A3 C b) b:=λb h=>by
  rcases h with h|h|h|h
  ·exact .inl h
  ·exact absurd h D1
  ·exact .inr (.inr (.inr (.inr h)))
  ·exact .inr (.inr (.inr (.inl h)))
 have cs:B5 (B6 w5 (nB z vx (.slice none 0 0) (λb=>A3 A b\/A3 C b))) (B6 w5 (nB z (.slice none 0 0) C (A3 A))):=I9 (M:=λ_=>False) (o9.refl w5) (λ_ h=>h.elim) λb h=>.inl (dc b h);have aT:=(bB.mono s5.base).mono cs;have cx:R (B6 w5 (nB z (.slice none 0 0) C (A3 A))) vx ((I0 p).map λw=>(⟨w⟩:Ptr Wy)):=s5.ox.ro cs λb a=>D8 λh=>by
  have hd:=s5.dx b a;rcases h with h|h|h|h
  ·exact hd.2.1 h
  ·exact D1 h
  ·exact hd.2.2.2 (.inr h)
  ·exact hd.2.2.2 (.inl h)
 have dn:A8 (B6 w5 (nB z (.slice none 0 0) C (A3 A))) w5 31 C (List.replicate p.procs.length ([]:List A6)):=bs.renil (λb a=>F2 (.inr (.inr (.inl a)))) λb a=>(s5.zk b (.inr a)).trans (a2.block b (bs.lt a) id);have cv:∀b,A3 A b->w5.heap[b]?=w3.heap[b]?:=λb a=>(s5.zk b (.inl a)).trans (a2.block b (a0.lt a) id);have c8:BM (α:=List A6) (β:=List A6) (B6 w5 (nB z (.slice none 0 0) C (A3 A))) G.drew w5 w5 (A3 A) z 137 31 31 (λv=>#[.pointer (some ⟨S,0,none⟩),vx,v,.slice none 0 0,A,C]) (.slice none 0 0) C [] (List.replicate p.procs.length []):=
  ⟨s5.ext,cK,s5.cb,A8.nil _ _ _,dn,λb h=>absurd h D1,λb a=>⟨b5 b a,by have:=(bp b (.inr a)).2;omega,λh=>(bH b h).2 a⟩,λb a=>⟨by have:=(bp b (.inl a)).2;omega,s5.lt (.inr (.inr (.inr (.inl a))))⟩,λ_ _=>rfl,dO0 _,i5 _⟩
 have d7:∀j,(∀b,A3 A b->j.heap[b]?=w5.heap[b]?)->R (i4 j) A (List.replicate p.procs.length ([]:List A6)):=λj h=>(a0.renil (k:=λ_=>none) (λ_ _=>rfl) λb a=>(h b a).trans (cv b a)).rw_ λ_ _ h=>by cases h
 clear s5;have cr:∀(j:World) (vd:Value) (xs ys:Rws),BM (α:=List A6) (β:=List A6) (B6 w5 (nB z (.slice none 0 0) C (A3 A))) G.drew w5 j (A3 A) z 137 31 31 (λv=>#[.pointer (some ⟨S,0,none⟩),vx,v,.slice none 0 0,A,C]) vd C xs ys->At (i4 j) ⟨z,0,none⟩ (⟨b9 p,I0 p,xs,[],List.replicate p.procs.length [],ys⟩:Bk):=λj vd xs ys s=>dg7 s.cb (aT.mono s.hb) (A4.mono s.hb cx) s.rx (bd1 _) (d7 j s.zk) s.ry;obtain⟨_,_,_,bh,_,_,_,dz,_⟩:=aT.sh;have c6:=J1 hr.may;have bK:=ah5 p hw;have bz:aE3 (G0 p) p.procs.length 25:=aR6 hr.may;simp only[m8,simprocAttr];refine n9 [1,3] (σ:=(Value×Nat)×(Bool×Rws)) (λs f j=>f 5 = .bool s.2.1/\BM (α:=List A6) (β:=List A6) (B6 w5 (nB z (.slice none 0 0) C (A3 A))) G.drew w5 j (A3 A) z 137 31 31 (λv=>#[.pointer (some ⟨S,0,none⟩),vx,v,.slice none 0 0,A,C]) s.1.1 C s.2.2 (F6 (G0 p) s.1.2 (List.replicate p.procs.length []))/\s.1.2<=aA0 (F6 (G0 p) s.1.2 (List.replicate p.procs.length []))/\(s.2.1=false->G0 p (F6 (G0 p) s.1.2 (List.replicate p.procs.length []))=F6 (G0 p) s.1.2 (List.replicate p.procs.length [])/\s.2.2=I8 p (F6 (G0 p) s.1.2 (List.replicate p.procs.length [])))) (λs=>if s.2.1 then p.procs.length*25+2-aA0 (F6 (G0 p) s.1.2 (List.replicate p.procs.length []))else 0) ((.slice none 0 0,0),(true,[])) ?_ ?_
 ·simp only[p8,simprocAttr];exact⟨by trivial,c8,dN6 _,λh=>by cases h⟩
 clear c8;rintro⟨⟨vx2,K2⟩,eH,eS⟩ ey H hk ⟨ct,Y,ck,aC⟩;simp only at ct Y ck aC;simp only[dM6,p8,simprocAttr]at hk;obtain⟨cD,bX,_⟩:=hk;rw[g1]at cD;rw[g3]at bX;have W:=bz.iter_ok K2;have I:=bz.ok (F6 (G0 p) K2 (List.replicate p.procs.length []));have a7:=bz.more K2;have en:=bz.bound K2;have cG:=bz.bound (K2+1);have aK:=Z0 (G0 p) K2 (List.replicate p.procs.length []);simp only[m8,simprocAttr,ct];refine n7 (λhc=>?_) (λhc=>?_)
 ·subst hc;clear aC;generalize ba:F6 (G0 p) K2 (List.replicate p.procs.length [])=Z at *;generalize cm:G0 p Z=Q2 at *;obtain⟨cT,z2,cf⟩:=Y.reset (P:=prog) (t:=135) (ix:=2) (by simp) (λv v'=>by simp) b8 be;have dx:(Instr.loadAt 116 (.pointer (some ⟨z,0,none⟩))).run prog cT = .ok (.pointer (some ⟨S,0,none⟩)) cT:=E2 (i:=0) cf.cb rfl aS8;have cy:=dz cT cf.hb;simp only[add_lit,dQ2]at cy;have de:=bh.isS;have dk:=bh.vlen;simp only[m8,o6,simprocAttr,bX,z2,dx,cy,de,dk];refine n9 [1,3,5,62,63] (σ:=Nat×Value) (λs f j=>f 64 = .int .i64 s.1/\s.1<=(b9 p).l.length/\BM (α:=List A6) (β:=List A6) (B6 w5 (nB z (.slice none 0 0) C (A3 A))) G.drew w5 j (A3 A) z 137 31 31 (λv=>#[.pointer (some ⟨S,0,none⟩),vx,v,.slice none 0 0,A,C]) s.2 C (((b9 p).l.take s.1).map λit=>D7 (af0 p Z it.s)) Z) (λs=>(b9 p).l.length-s.1) (0,.slice none 0 0) ?_ ?_
  ·simp only[p8,simprocAttr];exact⟨by trivial,dN6 _,cf⟩
  clear cf Y;rintro⟨m,vd⟩ f7 w7 hk ⟨aF,bN,s7⟩;simp only at aF bN s7;simp only[dM6,p8,simprocAttr]at hk;obtain⟨b1,b3,bm,bl,bn,_⟩:=hk;rw[cD]at b1;rw[bX]at b3;simp only[m8,o6,simprocAttr,aF,bn];refine n7 (λhc=>?_) (λhc=>?_)
  ·have q:m<(b9 p).l.length:=by simpa using hc
   have cL:=bh.inS q;obtain⟨sv,a1,bL⟩:=F9 (P:=prog) (t:=150) bh (s7.hb) (dM4 q) X0 X2 V5 H9;rw[H9]at bL;have aG:((b9 p).l.take (m+1)).map (λit=>D7 (af0 p Z it.s))=((b9 p).l.take m).map (λit=>D7 (af0 p Z it.s))++[D7 (af0 p Z (b9 p).l[m].s)]:=by
    rw[dN3 q,dP6];rfl
   have ag:=hr.fits _ (dN5 q);have aA:=bK _ (dN5 q);have aX:((((b9 p).l.take m).map λit=>D7 (af0 p Z it.s))).length<=200:=by rw[dN4,dN9];omega
   generalize(b9 p).l[m]=it at a1 aG ag aA;generalize((b9 p).l.take m).map (λit=>D7 (af0 p Z it.s))=xs at s7 aG aX;obtain⟨d,ei,w8,cJ,cN,cP,bD⟩:=aN8 (w:=w7) (A3 vd) a1 (λb a=>s7.ox.lt a);obtain⟨us,bQ,bE,_,_⟩:=K7.it a1 bD;have O:=(s7.more cP).more (o7.drew w8);have bq:∀j,o9 (A3 vd) w8.drew j->j.heap[z]?=some (.cells ((λv=>#[.pointer (some ⟨S,0,none⟩),vx,v,.slice none 0 0,A,C]) vd) 137 (0,0)):=λj hm=>(hm.block z (dN0.1 O.cb).1 λh=>(O.dx z h).2.1 rfl).trans O.cb;have k2:∀K f d w0,F3 prog (λj=>o9 (A3 vd) w8.drew j) (Instr.loadAt 135 (.pointer (some ⟨z,2,none⟩))) K f d w0=K (C4 f d vd) w0:=λK f d w0=>B7 (w0:=w8.drew) (o9.refl _) λj h=>E2 (i:=2) (bq j h) rfl ac2;have k3:=(K7.st_v bQ bE).2 (λj=>o9 (A3 vd) w8.drew j) w8.drew (o9.refl _) λj h=>E1 ((o9.up (M:=A3 vd) (o7.drew w8)).trans h);simp only[m8,o6,y0,simprocAttr,aF,bl,cL,bL,cJ,cN];refine C0 (λj=>o9 (A3 vd) w8.drew j) 12 (A5 [0,1,2,3,4,5,6,7,8,9,10,11]) ?_;simp only[D6,A5,m8,o6,simprocAttr,b3,k2,k3];refine y5 (cJ9 ⟨z,0,none⟩ ⟨b9 p,I0 p,_,[],List.replicate p.procs.length [],_⟩ p us it.s w8.drew (cr _ _ _ _ O) ⟨rfl,W,bv7 _ _⟩ hr.may (bQ.mono O.hb) aA ag) ?_;rintro u9 w9 ⟨ap,aH⟩;refine⟨o9.up aH,?_⟩;simp only[D6,m8,simprocAttr];refine y5 (aj6 ap (dN1 (aL2 hr.may W ag) (by decide))) ?_;rintro ar Q ⟨B,am,_⟩;have D:o7 w8.drew Q:=ap.ext2 aH am;refine⟨o9.up D,?_⟩;have L:=O.more D;obtain⟨p1,cS,a6,bS,p2,p3,N,p4⟩:=L.push (P:=prog) (e:=135) ct4 rfl (x:=ar) (y:=D7 (af0 p Z it.s)) (by rw[E3 B.isS];exact O.fresh B) (by omega) (by omega) (ix:=2) (by simp) (λv v'=>by simp) b8 be;rw[E3 B.isS]at p1 p2;simp only[D6,m8,o6,simprocAttr,p1,p2,E8];refine⟨(o9.up D).trans (o9.up (o7.alloc _ _)),(o9.up D).trans p4,?_⟩;simp only[m8,o6,simprocAttr,aF,p3];refine⟨(m+1,cS),by omega,dO2 _ (B0 m (by omega)),by omega,?_⟩;simp only[];rw[aG];exact N
  have F:m=(b9 p).l.length:=by simp at hc;omega
  subst F;rw[dN8]at s7;have bx:((b9 p).l.map λit=>D7 (af0 p Z it.s))=I8 p Z:=rfl;rw[bx]at s7;have aI:M8 (b9 p).l.length 100 (I8 p Z):=aY4 λit bJ=>aL2 hr.may W (hr.fits it bJ);have cR:=cQ w7 (b7 (X.trans s7.ext));simp only[m8,o6,simprocAttr,b1,cR,a8,bg];refine n9 [1,3,85] (σ:=Nat×Bool) (λs f j=>f 86 = .int .i64 s.1/\s.1<=p.procs.length/\f 5 = .bool s.2/\BM (α:=List A6) (β:=List A6) (B6 w5 (nB z (.slice none 0 0) C (A3 A))) G.drew w5 j (A3 A) z 137 31 31 (λv=>#[.pointer (some ⟨S,0,none⟩),vx,v,.slice none 0 0,A,C]) vd C (I8 p Z) (aR3 Q2 Z s.1)/\(s.2=false->Q2.take s.1=Z.take s.1)/\(s.2=true->Q2≠Z)) (λs=>p.procs.length-s.1) (0,false) ?_ ?_
  ·simp only[p8,simprocAttr];exact⟨by trivial,dN6 _,bm,by rw[bW9];exact s7,λ_=>by simp,λh=>by cases h⟩
  clear s7;rintro⟨i,mo⟩ f8 w8 hk ⟨ah,bI,ao,O,aE,aZ⟩;simp only at ah bI ao O aE aZ;simp only[dM6,p8,simprocAttr]at hk;obtain⟨c1,c3,cn,_⟩:=hk;rw[b1]at c1;rw[b3]at c3;simp only[m8,o6,simprocAttr,ah,cn];refine n7 (λhc=>?_) (λhc=>?_);rotate_left
  ·have F:i=p.procs.length:=by simp at hc;omega
   subst F;rw[cr5 I.len W.len]at O;rw[dQ9 (by rw[I.len];exact dO0 _),dQ9 (by rw[W.len];exact dO0 _)]at aE;cases mo with
   | false=>
    have e:=aE rfl;simp only[m8,simprocAttr];refine⟨((vd,K2),(false,I8 p Z)),?_,ao,?_,?_,λ_=>?_⟩
    ·simp only[ba];simp;omega
    ·simp only[ba];rw[e]at O;exact O
    ·simp only[ba];exact ck
    ·simp only[ba];exact⟨cm.trans e,trivial⟩
   | true=>
    have e:=aZ rfl;have q:=a7 e;rw[aK]at q cG;simp only[m8,simprocAttr];refine⟨((vd,K2+1),(true,I8 p Z)),?_,ao,?_,?_,λh=>by cases h⟩
    ·simp only[aK];simp;omega
    ·simp only[aK];exact O
    ·simp only[aK];omega
  have q:i<p.procs.length:=by simpa using hc
  have aq:Q2[i]?=some (D7 (ac0 p (I8 p Z) i)):=by
   rw[<-cm];unfold G0;rw[dP9,dU6 q];rfl
  have a3:Z[i]?=some (Z[i]'(by rw[W.len];exact q)):=dM4 _;have an:=cr6 (old:=Z) I.len q;rw[a3]at an;have aY:=cr7 I.len W.len q aq;have cM:=cO5 (i:=i) I W;have bN:=bM3 (i:=i) I.len W.len;have bO:Q2.take (i+1)=Q2.take i++[D7 (ac0 p (I8 p Z) i)]:=by rw[dZ0,aq];rfl
  have bP:Z.take (i+1)=Z.take i++[Z[i]'(by rw[W.len];exact q)]:=by rw[dZ0,a3];rfl
  simp only[m8,simprocAttr,ah,c3];refine y5 (cQ0 ⟨z,0,none⟩ ⟨b9 p,I0 p,_,[],List.replicate p.procs.length [],_⟩ p i w8 (cr _ _ _ _ O) ⟨rfl,cM,bv7 _ _⟩ rfl aI hr hw q) ?_;rintro u9 w9 ⟨ap,aH⟩;simp only[m8,simprocAttr];refine y5 (aj6 ap (dN1 (cj0 hr.may aI c6 i hw q) (by decide))) ?_;rintro ar Q ⟨B,am,_⟩;have D:o7 w8 Q:=ap.ext2 aH am;have L:=O.more D;have aB:(D7 (ac0 p (I8 p Z) i)).length<=25:=I.few _ (dO4 aq);have aU:(Z[i]'(by rw[W.len];exact q)).length<=25:=W.few _ (dN5 _);have aO:=a3;generalize Z[i]'(by rw[W.len];exact q)=yi at an bP aU aO;generalize D7 (ac0 p (I8 p Z) i)=qi at aq aY bO B aB;have bG:=O.fresh B;have aa:=L.oy.inS (k:=i) (by omega);cases mo with
  | true=>
   obtain⟨bS,q1,N⟩:=L.set (P:=prog) (t:=31) rfl (k:=i) (by omega) (u:=ar) (y:=qi) bG (E3 B.isS) b6 bd;rw[aY]at N;have a4:(Instr.loadAt 135 (.pointer (some ⟨z,5,none⟩))).run prog Q = .ok C Q:=E2 (i:=5) L.cb rfl ac2;simp only[m8,o6,y0,simprocAttr,ao,ah,c3,a4,aa,q1];refine⟨(i+1,true),by omega,dO2 _ (B0 i (by omega)),by omega,by trivial,N,(λh=>by cases h),λ_=>aZ rfl⟩
  | false=>
   obtain⟨ur,cO,bM⟩:=bj0 (P:=prog) (t:=31) L.oy an O0;have a4:(Instr.loadAt 135 (.pointer (some ⟨z,5,none⟩))).run prog Q = .ok C Q:=E2 (i:=5) L.cb rfl ac2;simp only[m8,o6,y0,simprocAttr,ao,c3,a4,aa,bM];refine y5 (bq8 ar ur qi yi Q (B.rw_ (b7 D)) (A4.mono (B2 _ _) cO) (by omega) (by omega)) ?_;rintro _ a6 ⟨rfl,aN⟩;have bR:=L.more aN;have aW:=A4.mono (I9 aN (λ_ h=>h.elim) λb h=>.inl h) bG;obtain⟨bS,q1,N⟩:=bR.set (P:=prog) (t:=31) rfl (k:=i) (by omega) (u:=ar) (y:=qi) aW (E3 B.isS) b6 bd;rw[aY]at N;have aP:(Instr.loadAt 135 (.pointer (some ⟨z,5,none⟩))).run prog a6 = .ok C a6:=E2 (i:=5) bR.cb rfl ac2;rcases dM5 (decide (qi=yi))with he|he
   ·have e:=dM8 he;simp only[m8,o6,y0,simprocAttr,he,ah,c3,aP,aa,q1];refine⟨(i+1,false),by omega,dO2 _ (B0 i (by omega)),by omega,by trivial,N,λ_=>?_,λh=>by cases h⟩;simp only[];rw[bO,bP,aE rfl,e]
   ·have e:=dN2 he;simp only[m8,o6,y0,simprocAttr,he,ah,c3,aP,aa,q1];refine⟨(i+1,true),by omega,dO2 _ (B0 i (by omega)),by omega,by trivial,N,(λh=>by cases h),λ_ h=>e ?_⟩;have h1:=dO2 (λl:Rws=>l[i]?) h;simp only[aq,aO]at h1;exact dO3 h1
 have aL:=aC hc;have dd:J3 p=F6 (G0 p) K2 (List.replicate p.procs.length []):=aB2 K2 1000 _ (by omega) aL.1;rw[<-dd]at Y aL W;rw[aL.2]at Y;have cI:=W;have dV:M8 (b9 p).l.length 100 (I8 p (J3 p)):=aY4 λit bJ=>aL2 hr.may cI (hr.fits it bJ);clear aC aL a7 aK I;generalize cp:J3 p=o at *;generalize cj:I8 p o=r at *;have bf:B5 (B6 H (nB z vx2 C (A3 A))) (B6 H (nB z (.slice none 0 0) A (λ_=>False))):=I9 (M:=λ_=>False) (o9.refl H) (λ_ h=>h.elim) λb h=>.inl (by
  rcases h with h|h|h|h
  ·exact .inl h
  ·exact absurd h D1
  ·exact .inr (.inr (.inr h))
  ·exact h.elim)
 have bC:=(aT.mono Y.base).mono bf;have dt:=A4.mono bf (A4.mono Y.base cx);have dr:R (B6 H (nB z (.slice none 0 0) A (λ_=>False))) vx2 r:=Y.ox.ro bf λb a=>D8 λh=>by
  have hd:=Y.dx b a;rcases h with h|h|h|h
  ·exact hd.2.1 h
  ·exact D1 h
  ·exact hd.2.2.2 h
  ·exact h.elim
 have ds:R (B6 H (nB z (.slice none 0 0) A (λ_=>False))) C o:=Y.oy.ro bf λb a=>D8 λh=>by
  have hd:=Y.dy b a;rcases h with h|h|h|h
  ·exact hd.2.1 h
  ·exact D1 h
  ·exact hd.2.2 h
  ·exact h.elim
 have dm:A8 (B6 H (nB z (.slice none 0 0) A (λ_=>False))) H 31 A (List.replicate p.procs.length ([]:List A6)):=a0.renil (λb a=>F2 (.inr (.inr (.inl a)))) λb a=>(Y.zk b a).trans (cv b a);have c9:BM (α:=List A6) (β:=List A6) (B6 H (nB z (.slice none 0 0) A (λ_=>False))) G.drew H H (λ_=>False) z 137 31 31 (λv=>#[.pointer (some ⟨S,0,none⟩),vx,vx2,v,A,C]) (.slice none 0 0) A [] (List.replicate p.procs.length []):=
  ⟨Y.ext,cK,Y.cb,A8.nil _ _ _,dm,λb h=>absurd h D1,λb a=>⟨(bH b a).1,by have:=(bp b (.inl a)).2;omega,id⟩,λb a=>a.elim,λb a=>a.elim,dO0 _,i5 _⟩
 clear Y;have bF:∀(j:World) (vd:Value) (xs ys:Rws),BM (α:=List A6) (β:=List A6) (B6 H (nB z (.slice none 0 0) A (λ_=>False))) G.drew H j (λ_=>False) z 137 31 31 (λv=>#[.pointer (some ⟨S,0,none⟩),vx,vx2,v,A,C]) vd A xs ys->At (i4 j) ⟨z,0,none⟩ (⟨b9 p,I0 p,r,xs,ys,o⟩:Bk):=λj vd xs ys s=>dg7 s.cb (bC.mono s.hb) (A4.mono s.hb dt) (A4.mono s.hb dr) s.rx s.ry (A4.mono s.hb ds);obtain⟨_,_,_,bi,_,_,_,dA,_⟩:=bC.sh;have bA:aE3 (Q6 p o r) p.procs.length 25:=bc7 hr.may o r λi hi=>ci4 hr hw i hi;simp only[m8,simprocAttr];refine n9 [1,3] (σ:=(Value×Nat)×(Bool×Rws)) (λs f j=>f 10 = .bool s.2.1/\BM (α:=List A6) (β:=List A6) (B6 H (nB z (.slice none 0 0) A (λ_=>False))) G.drew H j (λ_=>False) z 137 31 31 (λv=>#[.pointer (some ⟨S,0,none⟩),vx,vx2,v,A,C]) s.1.1 A s.2.2 (F6 (Q6 p o r) s.1.2 (List.replicate p.procs.length []))/\s.1.2<=aA0 (F6 (Q6 p o r) s.1.2 (List.replicate p.procs.length []))/\(s.2.1=false->Q6 p o r (F6 (Q6 p o r) s.1.2 (List.replicate p.procs.length []))=F6 (Q6 p o r) s.1.2 (List.replicate p.procs.length [])/\s.2.2=O6 p (F6 (Q6 p o r) s.1.2 (List.replicate p.procs.length [])))) (λs=>if s.2.1 then p.procs.length*25+2-aA0 (F6 (Q6 p o r) s.1.2 (List.replicate p.procs.length []))else 0) ((.slice none 0 0,0),(true,[])) ?_ ?_
 ·simp only[p8,simprocAttr];exact⟨by trivial,c9,dN6 _,λh=>by cases h⟩
 clear c9;rintro⟨⟨eP,K3⟩,eI,eT⟩ ez eQ hk ⟨cu,a5,cl,aV⟩;simp only at cu a5 cl aV;simp only[dM6,p8,simprocAttr]at hk;obtain⟨c4,bY,_⟩:=hk;rw[cD]at c4;rw[bX]at bY;have ae:=bA.iter_ok K3;have V:=bA.ok (F6 (Q6 p o r) K3 (List.replicate p.procs.length []));have b0:=bA.more K3;have eo:=bA.bound K3;have cH:=bA.bound (K3+1);have a9:=Z0 (Q6 p o r) K3 (List.replicate p.procs.length []);simp only[m8,simprocAttr,cu];refine n7 (λhc=>?_) (λhc=>?_)
 ·subst hc;clear aV;generalize bc:F6 (Q6 p o r) K3 (List.replicate p.procs.length [])=U at *;generalize co:Q6 p o r U=Q3 at *;obtain⟨cU,z3,cg⟩:=a5.reset (P:=prog) (t:=135) (ix:=3) (by simp) (λv v'=>by simp) b8 be;have dy:(Instr.loadAt 116 (.pointer (some ⟨z,0,none⟩))).run prog cU = .ok (.pointer (some ⟨S,0,none⟩)) cU:=E2 (i:=0) cg.cb rfl aS8;have cz:=dA cU cg.hb;simp only[add_lit,dQ2]at cz;have df:=bi.isS;have dl:=bi.vlen;simp only[m8,o6,simprocAttr,bY,z3,dy,cz,df,dl];refine n9 [1,3,10,124,125] (σ:=Nat×Value) (λs f j=>f 126 = .int .i64 s.1/\s.1<=(b9 p).l.length/\BM (α:=List A6) (β:=List A6) (B6 H (nB z (.slice none 0 0) A (λ_=>False))) G.drew H j (λ_=>False) z 137 31 31 (λv=>#[.pointer (some ⟨S,0,none⟩),vx,vx2,v,A,C]) s.2 A (((b9 p).l.take s.1).map λit=>D7 (an9 p U it.s)) U) (λs=>(b9 p).l.length-s.1) (0,.slice none 0 0) ?_ ?_
  ·simp only[p8,simprocAttr];exact⟨by trivial,dN6 _,cg⟩
  clear cg a5;rintro⟨m,vd⟩ f7 w7 hk ⟨aF,bN,s7⟩;simp only at aF bN s7;simp only[dM6,p8,simprocAttr]at hk;obtain⟨b1,b3,bm,bl,bn,_⟩:=hk;rw[c4]at b1;rw[bY]at b3;simp only[m8,o6,simprocAttr,aF,bn];refine n7 (λhc=>?_) (λhc=>?_)
  ·have q:m<(b9 p).l.length:=by simpa using hc
   have cL:=bi.inS q;obtain⟨sv,a1,bL⟩:=F9 (P:=prog) (t:=150) bi (s7.hb) (dM4 q) X0 X2 V5 H9;rw[H9]at bL;have aG:((b9 p).l.take (m+1)).map (λit=>D7 (an9 p U it.s))=((b9 p).l.take m).map (λit=>D7 (an9 p U it.s))++[D7 (an9 p U (b9 p).l[m].s)]:=by
    rw[dN3 q,dP6];rfl
   have ag:=hr.fits _ (dN5 q);have aA:=bK _ (dN5 q);have aX:((((b9 p).l.take m).map λit=>D7 (an9 p U it.s))).length<=200:=by rw[dN4,dN9];omega
   generalize(b9 p).l[m]=it at a1 aG ag aA;generalize((b9 p).l.take m).map (λit=>D7 (an9 p U it.s))=xs at s7 aG aX;obtain⟨d,ei,w8,cJ,cN,cP,bD⟩:=aN8 (w:=w7) (A3 vd) a1 (λb a=>s7.ox.lt a);obtain⟨us,bQ,bE,_,_⟩:=K7.it a1 bD;have O:=(s7.more cP).more (o7.drew w8);have bq:∀j,o9 (A3 vd) w8.drew j->j.heap[z]?=some (.cells ((λv=>#[.pointer (some ⟨S,0,none⟩),vx,vx2,v,A,C]) vd) 137 (0,0)):=λj hm=>(hm.block z (dN0.1 O.cb).1 λh=>(O.dx z h).2.1 rfl).trans O.cb;have k2:∀K f d w0,F3 prog (λj=>o9 (A3 vd) w8.drew j) (Instr.loadAt 135 (.pointer (some ⟨z,3,none⟩))) K f d w0=K (C4 f d vd) w0:=λK f d w0=>B7 (w0:=w8.drew) (o9.refl _) λj h=>E2 (i:=3) (bq j h) rfl ac2;have k3:=(K7.st_v bQ bE).2 (λj=>o9 (A3 vd) w8.drew j) w8.drew (o9.refl _) λj h=>E1 ((o9.up (M:=A3 vd) (o7.drew w8)).trans h);simp only[m8,o6,y0,simprocAttr,aF,bl,cL,bL,cJ,cN];refine C0 (λj=>o9 (A3 vd) w8.drew j) 12 (A5 [0,1,2,3,4,5,6,7,8,9,10,11]) ?_;simp only[D6,A5,m8,o6,simprocAttr,b3,k2,k3];refine y5 (cV1 ⟨z,0,none⟩ ⟨b9 p,I0 p,r,_,_,o⟩ p us it.s w8.drew (bF _ _ _ _ O) ⟨rfl,cI,ae⟩ hr.may (bQ.mono O.hb) aA ag) ?_;rintro u9 w9 ⟨ap,aH⟩;refine⟨o9.up aH,?_⟩;simp only[D6,m8,simprocAttr];refine y5 (aj6 ap (dN1 (bf7 ae aA) (by decide))) ?_;rintro ar Q ⟨B,am,_⟩;have D:o7 w8.drew Q:=ap.ext2 aH am;refine⟨o9.up D,?_⟩;have L:=O.more D;obtain⟨p1,cS,a6,bS,p2,p3,N,p4⟩:=L.push (P:=prog) (e:=135) ct4 rfl (x:=ar) (y:=D7 (an9 p U it.s)) (by rw[E3 B.isS];exact O.fresh B) (by omega) (by omega) (ix:=3) (by simp) (λv v'=>by simp) b8 be;rw[E3 B.isS]at p1 p2;simp only[D6,m8,o6,simprocAttr,p1,p2,E8];refine⟨(o9.up D).trans (o9.up (o7.alloc _ _)),(o9.up D).trans p4,?_⟩;simp only[m8,o6,simprocAttr,aF,p3];refine⟨(m+1,cS),by omega,dO2 _ (B0 m (by omega)),by omega,?_⟩;simp only[];rw[aG];exact N
  have F:m=(b9 p).l.length:=by simp at hc;omega
  subst F;rw[dN8]at s7;have bx:((b9 p).l.map λit=>D7 (an9 p U it.s))=O6 p U:=rfl;rw[bx]at s7;have aI:M8 (b9 p).l.length 2000000 (O6 p U):=aY4 λit bJ=>bf7 ae (bK it bJ);have cR:=cQ w7 (b7 (X.trans s7.ext));simp only[m8,o6,simprocAttr,b1,cR,a8,bg];refine n9 [1,3,147] (σ:=Nat×Bool) (λs f j=>f 148 = .int .i64 s.1/\s.1<=p.procs.length/\f 10 = .bool s.2/\BM (α:=List A6) (β:=List A6) (B6 H (nB z (.slice none 0 0) A (λ_=>False))) G.drew H j (λ_=>False) z 137 31 31 (λv=>#[.pointer (some ⟨S,0,none⟩),vx,vx2,v,A,C]) vd A (O6 p U) (aR3 Q3 U s.1)/\(s.2=false->Q3.take s.1=U.take s.1)/\(s.2=true->Q3≠U)) (λs=>p.procs.length-s.1) (0,false) ?_ ?_
  ·simp only[p8,simprocAttr];exact⟨by trivial,dN6 _,bm,by rw[bW9];exact s7,λ_=>by simp,λh=>by cases h⟩
  clear s7;rintro⟨i,mo⟩ f8 w8 hk ⟨ah,bI,ao,O,aE,aZ⟩;simp only at ah bI ao O aE aZ;simp only[dM6,p8,simprocAttr]at hk;obtain⟨c1,c3,cn,_⟩:=hk;rw[b1]at c1;rw[b3]at c3;simp only[m8,o6,simprocAttr,ah,cn];refine n7 (λhc=>?_) (λhc=>?_);rotate_left
  ·have F:i=p.procs.length:=by simp at hc;omega
   subst F;rw[cr5 V.len ae.len]at O;rw[dQ9 (by rw[V.len];exact dO0 _),dQ9 (by rw[ae.len];exact dO0 _)]at aE;cases mo with
   | false=>
    have e:=aE rfl;simp only[m8,simprocAttr];refine⟨((vd,K3),(false,O6 p U)),?_,ao,?_,?_,λ_=>?_⟩
    ·simp only[bc];simp;omega
    ·simp only[bc];rw[e]at O;exact O
    ·simp only[bc];exact cl
    ·simp only[bc];exact⟨co.trans e,trivial⟩
   | true=>
    have e:=aZ rfl;have q:=b0 e;rw[a9]at q cH;simp only[m8,simprocAttr];refine⟨((vd,K3+1),(true,O6 p U)),?_,ao,?_,?_,λh=>by cases h⟩
    ·simp only[a9];simp;omega
    ·simp only[a9];exact O
    ·simp only[a9];omega
  have q:i<p.procs.length:=by simpa using hc
  have aq:Q3[i]?=some (D7 (aE7 p o (O6 p U) r i)):=by
   rw[<-co];unfold Q6;rw[dP9,dU6 q];rfl
  have a3:U[i]?=some (U[i]'(by rw[ae.len];exact q)):=dM4 _;have an:=cr6 (old:=U) V.len q;rw[a3]at an;have aY:=cr7 V.len ae.len q aq;have cM:=cO5 (i:=i) V ae;have bN:=bM3 (i:=i) V.len ae.len;have bO:Q3.take (i+1)=Q3.take i++[D7 (aE7 p o (O6 p U) r i)]:=by rw[dZ0,aq];rfl
  have bP:U.take (i+1)=U.take i++[U[i]'(by rw[ae.len];exact q)]:=by rw[dZ0,a3];rfl
  simp only[m8,simprocAttr,ah,c3];refine y5 (db4 ⟨z,0,none⟩ ⟨b9 p,I0 p,r,_,_,o⟩ p i w8 (bF _ _ _ _ O) ⟨rfl,cI,cM⟩ rfl dV aI hr hw q) ?_;rintro u9 w9 ⟨ap,aH⟩;simp only[m8,simprocAttr];refine y5 (aj6 ap (dN1 (cA7 hr.may o (O6 p U) r i) (by decide))) ?_;rintro ar Q ⟨B,am,_⟩;have D:o7 w8 Q:=ap.ext2 aH am;have L:=O.more D;have aB:(D7 (aE7 p o (O6 p U) r i)).length<=25:=V.few _ (dO4 aq);have aU:(U[i]'(by rw[ae.len];exact q)).length<=25:=ae.few _ (dN5 _);have aO:=a3;generalize U[i]'(by rw[ae.len];exact q)=yi at an bP aU aO;generalize D7 (aE7 p o (O6 p U) r i)=qi at aq aY bO B aB;have bG:=O.fresh B;have aa:=L.oy.inS (k:=i) (by omega);cases mo with
  | true=>
   obtain⟨bS,q1,N⟩:=L.set (P:=prog) (t:=31) rfl (k:=i) (by omega) (u:=ar) (y:=qi) bG (E3 B.isS) b6 bd;rw[aY]at N;have a4:(Instr.loadAt 135 (.pointer (some ⟨z,4,none⟩))).run prog Q = .ok A Q:=E2 (i:=4) L.cb rfl ac2;simp only[m8,o6,y0,simprocAttr,ao,ah,c3,a4,aa,q1];refine⟨(i+1,true),by omega,dO2 _ (B0 i (by omega)),by omega,by trivial,N,(λh=>by cases h),λ_=>aZ rfl⟩
  | false=>
   obtain⟨ur,cO,bM⟩:=bj0 (P:=prog) (t:=31) L.oy an O0;have a4:(Instr.loadAt 135 (.pointer (some ⟨z,4,none⟩))).run prog Q = .ok A Q:=E2 (i:=4) L.cb rfl ac2;simp only[m8,o6,y0,simprocAttr,ao,c3,a4,aa,bM];refine y5 (bq8 ar ur qi yi Q (B.rw_ (b7 D)) (A4.mono (B2 _ _) cO) (by omega) (by omega)) ?_;rintro _ a6 ⟨rfl,aN⟩;have bR:=L.more aN;have aW:=A4.mono (I9 aN (λ_ h=>h.elim) λb h=>.inl h) bG;obtain⟨bS,q1,N⟩:=bR.set (P:=prog) (t:=31) rfl (k:=i) (by omega) (u:=ar) (y:=qi) aW (E3 B.isS) b6 bd;rw[aY]at N;have aP:(Instr.loadAt 135 (.pointer (some ⟨z,4,none⟩))).run prog a6 = .ok A a6:=E2 (i:=4) bR.cb rfl ac2;rcases dM5 (decide (qi=yi))with he|he
   ·have e:=dM8 he;simp only[m8,o6,y0,simprocAttr,he,ah,c3,aP,aa,q1];refine⟨(i+1,false),by omega,dO2 _ (B0 i (by omega)),by omega,by trivial,N,λ_=>?_,λh=>by cases h⟩;simp only[];rw[bO,bP,aE rfl,e]
   ·have e:=dN2 he;simp only[m8,o6,y0,simprocAttr,he,ah,c3,aP,aa,q1];refine⟨(i+1,true),by omega,dO2 _ (B0 i (by omega)),by omega,by trivial,N,(λh=>by cases h),λ_ h=>e ?_⟩;have h1:=dO2 (λl:Rws=>l[i]?) h;simp only[aq,aO]at h1;exact dO3 h1
 have aL:=aV hc;have da:ab7 p=F6 (Q6 p o r) K3 (List.replicate p.procs.length []):=by
  unfold ab7;rw[cp,cj];exact aB2 K3 1000 _ (by omega) aL.1
 rw[<-da]at a5 aL;rw[aL.2]at a5;have b4:d9 p=⟨b9 p,I0 p,r,O6 p (ab7 p),ab7 p,o⟩:=by
  unfold d9;rw[cp,cj]
 simp only[m8,simprocAttr,bY];exact o8 results74 ⟨λh=>(by cases h),λ_=>⟨_,rfl,by rw[b4];exact bF _ _ _ _ a5⟩,du.trans (X.trans a5.ext)⟩
def bu7{p:Pg}(hm:N2 p=true):∃k,J3 p=F6 (G0 p) k (List.replicate p.procs.length [])/\G0 p (J3 p)=J3 p:=by
 have c:=aR6 hm;have g:=(W2 hm).2;have a:∀m,(∃k,k<=m/\G0 p (F6 (G0 p) k (List.replicate p.procs.length []))=F6 (G0 p) k (List.replicate p.procs.length []))\/m<=aA0 (F6 (G0 p) m (List.replicate p.procs.length [])):=λm=>by
  induction m with
  | zero=>exact .inr (dN6 _)
  | succ m d=>
   rcases d with⟨k,f,e⟩|d
   ·exact .inl ⟨k,by omega,e⟩
   ·by_cases e:G0 p (F6 (G0 p) m (List.replicate p.procs.length []))=F6 (G0 p) m (List.replicate p.procs.length [])
    ·exact .inl ⟨m,by omega,e⟩
    ·have:=c.more m e;exact .inr (by omega)
 rcases a 500 with⟨k,f,e⟩|h
 ·have b:J3 p=F6 (G0 p) k (List.replicate p.procs.length []):=aB2 k 1000 _ (by omega) e;exact⟨k,b,by rw[b];exact e⟩
 ·have:=c.bound 500;omega
def cq8{p:Pg}(b:D4 p)(hw:C5 p<=1000000):∃k,ab7 p=F6 (Q6 p (J3 p) (I8 p (J3 p))) k (List.replicate p.procs.length [])/\Q6 p (J3 p) (I8 p (J3 p)) (ab7 p)=ab7 p:=by
 have a:=bc7 b.may (J3 p) (I8 p (J3 p)) λi j=>ci4 b hw i j;have n:=(W2 b.may).2;generalize g:Q6 p (J3 p) (I8 p (J3 p))=G at a;have c:∀m,(∃k,k<=m/\G (F6 G k (List.replicate p.procs.length []))=F6 G k (List.replicate p.procs.length []))\/m<=aA0 (F6 G m (List.replicate p.procs.length [])):=λm=>by
  induction m with
  | zero=>exact .inr (dN6 _)
  | succ m f=>
   rcases f with⟨k,l,e⟩|f
   ·exact .inl ⟨k,by omega,e⟩
   ·by_cases e:G (F6 G m (List.replicate p.procs.length []))=F6 G m (List.replicate p.procs.length [])
    ·exact .inl ⟨m,by omega,e⟩
    ·have:=a.more m e;exact .inr (by omega)
 rcases c 500 with⟨k,l,e⟩|h
 ·have d:ab7 p=F6 G k (List.replicate p.procs.length []):=by
   unfold ab7;rw[g];exact aB2 k 1000 _ (by omega) e
  exact⟨k,d,by rw[d];exact e⟩
 ·have:=a.bound 500;omega
def ay9{p:Pg}(hm:N2 p=true):M8 p.procs.length 25 (J3 p):=by
 obtain⟨k,e,_⟩:=bu7 hm;rw[e];exact(aR6 hm).iter_ok k
def aL9{p:Pg}(a:D4 p)(hw:C5 p<=1000000):M8 p.procs.length 25 (ab7 p):=by
 obtain⟨k,e,_⟩:=cq8 a hw;rw[e];exact(bc7 a.may (J3 p) (I8 p (J3 p)) λi b=>ci4 a hw i b).iter_ok k
def bB5{p:Pg}(b:D4 p)(hw:C5 p<=1000000):M8 (b9 p).l.length 100 (d9 p).defs:=aY4 λit a=>aL2 b.may (ay9 b.may) (b.fits it a)
def bB6{p:Pg}(b:D4 p)(hw:C5 p<=1000000):M8 (b9 p).l.length 2000000 (d9 p).uses:=aY4 λit a=>bf7 (aL9 b hw) (ah5 p hw it a)
def L8{p:Pg}{i:Nat}(a:i<p.procs.length):(d9 p).way (i:Int)=D5 (b9 p) i:=by
 unfold Bk.way;rw[dP0];exact bL5 (S7 a)
theorem Q5{p:Pg}{i:Nat}(a:i<p.procs.length):(d9 p).s.fn (i:Int)=p.procs[i]:=by
 have e:(d9 p).s=b9 p:=rfl;rw[e];unfold Sh.fn;rw[K9,dP0,List.getD,dM4 a];rfl
theorem aJ1{α β:Type}(g:α->β)(l:List α){k:Nat}(a:k<l.length):(l.take (k+1)).map g=(l.take k).map g++[g l[k]]:=by
 rw[dN3 a,dP6];rfl
def aj3{p:Pg}{i x y:Nat}{wy:Wy}(a:ao1 p i x y wy){k:Nat}(b:k≠0)(d:(k:Int)<wy.n-1):∃q:Nat,wy.place (k:Int)-1=(q:Int)/\q<(b9 p).l.length/\wy.place (k:Int)=(q:Int)+1/\(x:Int)<(q:Int)+1/\(q:Int)+1<=(y:Int):=by
 have f:=a.n;have c:=a.part.ok.len;have e:wy.place (k:Int)=(x:Int)+1+k-1:=by
  rw[a.toWyOk.place,if_neg (by omega),if_neg (by omega)]
 exact⟨x+k-1,by omega,by omega,by omega,by omega,by omega⟩
def cw1(h:Hp)(a:Addr)(p:Pg)(i k:Nat)(w:World)(ha:At h a (d9 p))(L:B5 h (i4 w))(hr:D4 p)(hw:C5 p<=1000000)(E:i<p.procs.length)(hk:(k:Int)<(D5 (b9 p) i).n):
  p7 prog 235 #[.pointer (some a),.int .i64 i,.int .i64 k] w λu o=>(R (bs0 h w o) u ((d9 p).gives i k)/\o7 w o):=by
 refine p9 [.pointer (some a),.int .i64 i,.int .i64 k] func235 rfl ?_;obtain⟨x,pt⟩:=J5 hr.may hw i E;have A:=P2 pt;generalize x+A9 p.procs[i].body=y at pt A;have be:=J1 hr.may;have r:(d9 p).gives (i:Int) (k:Int)=if(k:Int)=0 then D7 (G2 (ab7 p) (i:Int)++p.procs[i].params.map (·.name))else if(k:Int)=(D5 (b9 p) i).n-1\/atB (D5 (b9 p) i).live (k:Int)=false then[]else G2 (I8 p (J3 p)) ((D5 (b9 p) i).place (k:Int)-1):=by
  unfold Bk.gives;rw[L8 E,Q5 E];rfl
 obtain⟨sh,vw,vd,_,vi,_,has,ar,ao,_,ap,_,au,bc⟩:=ha.book rfl;obtain⟨_,_,_,_,_,_,aj,_,_⟩:=has.sh;rw[K9]at aj;obtain⟨vg,vp,bn,aq,a6,bu⟩:=aj.pg;obtain⟨aw,aJ,D⟩:=am9 (hv:=ar) (k:=i) (p:=⟨D5 (b9 p) i⟩) (by show((I0 p).map λw=>(⟨w⟩:Ptr Wy))[i]?=_;rw[dP9,S7 E];rfl);simp only at D;have v:=ar.inS (k:=i) (by show i<((I0 p).map λw=>(⟨w⟩:Ptr Wy)).length;unfold I0;simpa using E);have lb:=au w L;have F:=H7 (P:=prog) (t:=114) aJ L an1;have c:∀o,o7 w o->B5 h (i4 o):=λo hx=>t8 L (b7 hx);have hn:=A.n;have bf:=pt.ok.len;rcases Nat.eq_zero_or_pos k with ag|ag
 ·subst ag;rw[if_pos (by trivial)]at r;obtain⟨C,W,ac⟩:=(aL9 hr hw).row E;generalize G2 (ab7 p) (i:Int)=J at C W ac r;obtain⟨ui,a0,aI⟩:=R.row ap (show(d9 p).ins[i]?=some J from C);have ae:=ap.inS (k:=i) (show i<(ab7 p).length from(dM9.1 C).1);have aQ:=H7 (P:=prog) (t:=31) aI L O0;simp only[m8,o6,y0,simprocAttr,lb,v,F,ae,aQ];refine y5 (ar5 ui J w (A4.mono L a0) (by omega)) ?_;rintro u2 w2 ⟨aU,H⟩;have a4:=au w2 (c w2 H);have a9:=a6 w2 (c w2 H);have K:=aq.at_ (i:=i) (x:=p.procs[i]) (dM4 E);have af:=aq.inS (k:=i) E;have a3:A4.sz Pr=5:=rfl;rw[a3]at K;obtain⟨bA,_,_,_,l,_,_,_,a7,_⟩:=K.pr;have ba:=a7 w2 (c w2 H);have aW:=R1 hr.may E;generalize p.procs[i].params=n at l aW r;have aE:=l.isS;have aT:=l.vlen;simp only[m8,o6,y0,simprocAttr,a4,a9,af,ba,aE,aT];refine n9 [40,41] (σ:=Nat×Value) (λs f o=>f 42 = .int .i64 s.1/\f 8=s.2/\s.1<=n.length/\A8 (i4 w) o 9 s.2 (J++(n.take s.1).map (·.name))/\o7 w o) (λs=>n.length-s.1) (0,u2) ?_ ?_
  ·simp only[p8,simprocAttr];exact⟨by trivial,by trivial,dN6 _,by simpa using aU,H⟩
  rintro⟨j,u⟩ f w3 hk ⟨O,h8,aN,ho,m⟩;simp only at O h8 aN ho;simp only[dM6,p8,simprocAttr]at hk;obtain⟨aB,aC,_⟩:=hk;simp only[m8,o6,simprocAttr,O,aC];refine n7 (λhc=>?_) (λhc=>?_)
  ·have V:j<n.length:=by simpa using hc
   have aM:=l.inS V;obtain⟨sv,am,ah⟩:=F9 (P:=prog) (t:=78) l (c w3 m) (dM4 V) bx9 by3 bl1 at8;rw[at8]at ah;have an:=aJ1 (λq:Pa=>q.name) n V;generalize n[j]=pa at am an;obtain⟨d,wz,w4,aF,aY,I,Q⟩:=aN6 (am.mono (c w3 m)) (i5 _);obtain⟨a5,_⟩:=Q.pa;have l4:=a5 w4 (i5 _);obtain⟨p1,u5,w5,p2,p3,p4,p5⟩:=pushS (e:=31) (ho.ext I) pa.name (by rw[dM7,dN4,dN9];omega) (b7 (m.trans I));simp only[m8,o6,y0,simprocAttr,O,h8,aB,aM,ah,aF,aY,l4,p1,p2];refine⟨(j+1,u5),by omega,dO2 _ (B0 j (by omega)),by trivial,by omega,?_,(ho.ext I).ext2 (m.trans I) p4⟩;simp only[];rw[an,<-dP5];exact p3
  ·have aL:j=n.length:=by simp at hc;omega
   subst aL;rw[dN8]at ho;simp only[m8,simprocAttr,h8];refine y5 (aj6 ho (by rw[dM7,dN4];omega)) ?_;rintro u6 w6 ⟨aV,aR,_⟩;simp only[m8,simprocAttr];refine o8 results235 ?_;simp only[p8,simprocAttr];have e:(d9 p).gives (i:Int) 0=D7 (J++n.map (·.name)):=r;exact⟨by rw[e];exact aV.upR,ho.ext2 m aR⟩
 have B:decide ((k:Int)=0)=false:=by simp;omega
 rw[if_neg (by omega)]at r;have z:=λh0 aO=>aj3 A (k:=k) h0 aO;have U:=A.live;obtain⟨_,_,vl,_,_,X,a8,bd⟩:=D.wy;have lw:=a8 w L;have G:IntKind.i64.wrap ((D5 (b9 p) i).n-1)=(D5 (b9 p) i).n-1:=M3 _ (by omega);generalize bj:D5 (b9 p) i=Z at A hn r z U X lw G hk D bd;rcases dM5 (decide ((k:Int)=Z.n-1))with hq|hq
 ·rw[if_pos (.inl (dM8 hq))]at r;simp only[m8,o6,y0,simprocAttr,lb,v,F,B,lw,G,hq];exact o8 results235 ⟨by rw[r];exact bd1 _,o9.refl _⟩
 have T:k<Z.live.length:=by omega
 have M:=X.inS T;have g:=ldB X L T;have Q:Z.live[k]=atB Z.live (k:Int):=by
  unfold atB;rw[dP0,List.getD,dM4 T];rfl
 rw[Q]at g;have aS:=dN2 hq;rcases dM5 (atB Z.live (k:Int))with hl|hl;rotate_left
 ·rw[if_pos (.inr hl)]at r;rw[hl]at g;simp only[m8,o6,y0,simprocAttr,lb,v,F,B,lw,G,hq,M,g];exact o8 results235 ⟨by rw[r];exact bd1 _,o9.refl _⟩
 rw[if_neg (by rw[hl];simp[aS])]at r;rw[hl]at g;obtain⟨q,ak,aX,bm,_⟩:=z (by omega) (by omega);rw[ak]at r;obtain⟨S,av,aK⟩:=(bB5 hr hw).row aX;have b:(I8 p (J3 p))[q]?=some (G2 (I8 p (J3 p)) (q:Int)):=S;generalize G2 (I8 p (J3 p)) (q:Int)=dr at b r;obtain⟨ud,aZ,aH⟩:=R.row ao (show(d9 p).defs[q]?=some dr from b);have ad:=ao.inS (k:=q) (show q<(I8 p (J3 p)).length from(dM9.1 b).1);have Y:=o7.drew w;have t1:=bc (λo=>o7 w.drew o) w.drew (o9.refl _) λo hx=>c o (Y.trans hx);simp only[m8,o6,y0,simprocAttr,lb,v,F,B,lw,G,hq,M,g];refine C0 (λo=>o7 w.drew o) 8 (A5 [0,1,2,3,4,5,6,7]) ?_;simp only[D6,A5,m8,o6,simprocAttr,t1];refine B9 (ae8 aw Z p i x y (k:Int) w.drew (D.mono (c _ Y)) A.toWyOk (by omega)) (λw3 m=>⟨m,?_⟩);have a1:IntKind.i64.wrap (Z.place (k:Int)-1)=(q:Int):=by rw[ak];exact M3 _ (by omega)
 have N:=Y.trans m;have aP:=H7 (P:=prog) (t:=31) aH (c w3 N) O0;simp only[D6,m8,o6,y0,simprocAttr,a1,ad,aP];exact o8 results235 ⟨by rw[r];exact A4.mono (bD6 L) aZ,N⟩
def cw5(h:Hp)(a:Addr)(p:Pg)(i k:Nat)(w:World)(ha:At h a (d9 p))(v:B5 h (i4 w))(Y:D4 p)(hw:C5 p<=1000000)(K:i<p.procs.length)(hk:(k:Int)<(D5 (b9 p) i).n):
  p7 prog 187 #[.pointer (some a),.int .i64 i,.int .i64 k] w λu l=>(R (bs0 h w l) u ((d9 p).takes i k)/\o7 w l):=by
 refine p9 [.pointer (some a),.int .i64 i,.int .i64 k] func187 rfl ?_;obtain⟨x,pt⟩:=J5 Y.may hw i K;have j:=P2 pt;generalize x+A9 p.procs[i].body=y at pt j;have aB:=J1 Y.may;have g:(d9 p).takes (i:Int) (k:Int)=if(k:Int)=(D5 (b9 p) i).n-1 then D7 (G2 (J3 p) (i:Int)++[R5])else if(k:Int)=0\/atB (D5 (b9 p) i).live (k:Int)=false then[]else G2 (O6 p (ab7 p)) ((D5 (b9 p) i).place (k:Int)-1):=by
  unfold Bk.takes;rw[L8 K];rfl
 obtain⟨sh,vw,_,vu,_,vo,has,T,_,S,_,Q,av,az⟩:=ha.book rfl;obtain⟨aw,af,o⟩:=am9 (hv:=T) (k:=i) (p:=⟨D5 (b9 p) i⟩) (by show((I0 p).map λw=>(⟨w⟩:Ptr Wy))[i]?=_;rw[dP9,S7 K];rfl);simp only at o;have d:=T.inS (k:=i) (by show i<((I0 p).map λw=>(⟨w⟩:Ptr Wy)).length;unfold I0;simpa using K);have Z:=av w v;have r:=H7 (P:=prog) (t:=114) af v an1;have C:∀l,o7 w l->B5 h (i4 l):=λl hx=>t8 v (b7 hx);have hn:=j.n;have aD:=pt.ok.len;have aC:=pt.ok.le;have f:=λs ag=>aj3 j (k:=k) s ag;have E:=j.live;obtain⟨_,_,vl,_,_,G,ax,aA⟩:=o.wy;have W:=ax w v;have n:IntKind.i64.wrap ((D5 (b9 p) i).n-1)=(D5 (b9 p) i).n-1:=M3 _ (by omega);generalize aH:D5 (b9 p) i=I at j hn g f E G W n hk o aA;rcases dM5 (decide ((k:Int)=I.n-1))with hq|hq
 ·rw[if_pos (dM8 hq)]at g;obtain⟨m,F,J⟩:=(ay9 Y.may).row K;generalize G2 (J3 p) (i:Int)=X at m F J g;obtain⟨ui,aq,ae⟩:=R.row Q (show(d9 p).outs[i]?=some X from m);have M:=Q.inS (k:=i) (show i<(J3 p).length from(dM9.1 m).1);have aj:=H7 (P:=prog) (t:=31) ae v O0;simp only[m8,o6,y0,simprocAttr,Z,d,r,W,n,hq,M,aj];refine y5 (ar5 ui X w (A4.mono v aq) (by omega)) ?_;rintro u2 w2 ⟨N,U⟩;obtain⟨p1,u5,w5,p2,p3,p4,p5⟩:=pushS (e:=31) N R5 (by omega) (b7 U);have ay:(Instr.buildSlice 31 1 #[(0,.string ⟨#[36,114,101,116]⟩)]).run prog w2=_:=p1;simp only[m8,simprocAttr,ay,p2];refine y5 (aj6 p3 (by rw[dM7,dP7];omega)) ?_;rintro u6 w6 ⟨am,ak,_⟩;simp only[m8,simprocAttr];exact o8 results187 ⟨by rw[g];exact am.upR,p3.ext2 (N.ext2 U p4) ak⟩
 have al:=dN2 hq;rw[if_neg al]at g;rcases dM5 (decide ((k:Int)=0))with s|s
 ·rw[if_pos (.inl (dM8 s))]at g;simp only[m8,o6,y0,simprocAttr,Z,d,r,W,n,hq,s];exact o8 results187 ⟨by rw[g];exact bd1 _,o9.refl _⟩
 have ab:=dN2 s;have D:k<I.live.length:=by omega
 have z:=G.inS D;have c:=ldB G v D;have ac:I.live[k]=atB I.live (k:Int):=by
  unfold atB;rw[dP0,List.getD,dM4 D];rfl
 rw[ac]at c;rcases dM5 (atB I.live (k:Int))with hl|hl;rotate_left
 ·rw[if_pos (.inr hl)]at g;rw[hl]at c;simp only[m8,o6,y0,simprocAttr,Z,d,r,s,W,n,hq,z,c];exact o8 results187 ⟨by rw[g];exact bd1 _,o9.refl _⟩
 rw[if_neg (λan=>an.elim ab λe=>by rw[hl]at e;cases e)]at g;rw[hl]at c;obtain⟨q,O,ao,aL,_⟩:=f (by omega) (by omega);rw[O]at g;obtain⟨B,_,_⟩:=(bB6 Y hw).row ao;have b:(O6 p (ab7 p))[q]?=some (G2 (O6 p (ab7 p)) (q:Int)):=B;generalize G2 (O6 p (ab7 p)) (q:Int)=dr at b g;obtain⟨ud,ap,ad⟩:=R.row S (show(d9 p).uses[q]?=some dr from b);have L:=S.inS (k:=q) (show q<(O6 p (ab7 p)).length from(dM9.1 b).1);have H:=o7.drew w;have t1:=az (λl=>o7 w.drew l) w.drew (o9.refl _) λl hx=>C l (H.trans hx);simp only[m8,o6,y0,simprocAttr,Z,d,r,s,W,n,hq,z,c];refine C0 (λl=>o7 w.drew l) 8 (A5 [0,1,2,3,4,5,6,7]) ?_;simp only[D6,A5,m8,o6,simprocAttr,t1];refine B9 (ae8 aw I p i x y (k:Int) w.drew (o.mono (C _ H)) j.toWyOk (by omega)) (λw3 V=>⟨V,?_⟩);have ar:IntKind.i64.wrap (I.place (k:Int)-1)=(q:Int):=by rw[O];exact M3 _ (by omega)
 have A:=H.trans V;have ah:=H7 (P:=prog) (t:=31) ad (C w3 A) O0;simp only[D6,m8,o6,y0,simprocAttr,ar,L,ah];exact o8 results187 ⟨by rw[g];exact A4.mono (bD6 v) ap,A⟩
def cC7{α:Type}{l:List α}(h:l.Nodup){i j:Nat}(c:i<l.length)(d:j<l.length)(e:l[i]=l[j]):i=j:=by
 refine dZ2 λa=>?_;have b:=dT5.1 h;rcases Nat.lt_or_gt_of_ne a with h|h
 ·exact b i j c d h e
 ·exact b j i d c h e.symm
def aC4{n:A6}(h:R0 n=true):n≠ab1/\n≠R5/\n≠e0:=by
 refine⟨?_,?_,?_⟩<;>rintro rfl<;>exact absurd h (by decide)
def bO7:ab1≠R5/\ab1≠e0/\R5≠e0:=by decide
def bY7{p:Pg}(hm:N2 p=true){i:Nat}(e:i<p.procs.length):∃n m,V8 p.procs[i] n=some m:=by
 unfold N2 at hm;rw[dO8]at hm;have b:∀(l:List Pr) (n:Int),(l.foldlM (λn f=>V8 f n) n).isSome=true->∀f∈l,∃n m,V8 f n=some m:=by
  intro l
  induction l with
  | nil=>intro n _ f a;simp at a
  | cons g l o=>
   intro n h f a;rw[List.foldlM_cons]at h;obtain⟨k,j⟩:=dS1.1 h;obtain⟨m,c,d⟩:=dU9.1 j;rcases dO6.1 a with rfl|a
   ·exact⟨n,m,c⟩
   ·exact o m (by rw[d];rfl) f a
 exact b _ _ hm.2 _ (dN5 e)
def bj4{f:Pr}{n m:Int}(h:V8 f n=some m):R0 f.name=true/\(∀a∈f.params,R0 a.name=true)/\(∀v∈f.vars,R0 v=true)/\K5 12 f.body n=some m:=by
 unfold V8 at h;split at h
 ·cases h
 ·rename_i b;simp only[not_or,Bool.not_eq_false]at b;refine⟨b.2.2.1,?_,?_,h⟩
  ·have:=b.2.2.2.2.2;rw[dW0]at this;exact this
  ·have:=b.2.2.2.1;unfold ae1 at this;rw[dW0]at this;exact this
def bW5{p:Pg}(hm:N2 p=true){i:Nat}(e:i<p.procs.length):R0 p.procs[i].name=true/\(∀a∈p.procs[i].params,R0 a.name=true)/\(∀v∈p.procs[i].vars,R0 v=true):=by
 obtain⟨n,m,h⟩:=bY7 hm e;obtain⟨b,c,d,_⟩:=bj4 h;exact⟨b,c,d⟩
def bW4{p:Pg}(hm:N2 p=true):∀n∈p.globals,R0 n=true:=by
 unfold N2 at hm;simp only[dO8]at hm;have:=hm.1.2;unfold ae1 at this;rw[dW0]at this;exact this
mutual
def da8:∀(t:St) (d:Nat) (n m:Int),U9 t=true->((K5 d t.thn n).bind λm=>K5 d t.els m)=some m->∀(k:Nat) (f g e b:Int),∀it∈Y9 t k f g e b,U9 it.s=true
 | .mk id kind labels name proc x has args thn els,d,n,m,hf,h,k,f,g,e,b,it,a=>by
  simp only[St.thn,St.els]at h;obtain⟨c,i,j⟩:=dU9.1 h;rw[R8]at a;rcases dO6.1 a with rfl|a
  ·exact hf
  ·rcases dN7.1 a with a|a
   ·exact aU7 thn d n c i _ _ _ _ _ it a
   ·exact aU7 els d c m j _ _ _ _ _ it a
def aU7:∀(l:List St) (d:Nat) (n m:Int),K5 d l n=some m->∀(k:Nat) (e f c b:Int),∀it∈D2 l k e f c b,U9 it.s=true
 | [],d,n,m,h,k,e,f,c,b,it,a=>by simp[D2]at a
 | t::l,0,n,m,h,k,e,f,c,b,it,a=>by simp[K5]at h
 | t::l,d+1,n,m,h,k,e,f,c,b,it,a=>by
  rw[aR8]at h;obtain⟨j,g,o⟩:=dU9.1 h;split at g
  ·cases g
  ·rename_i i;simp only[not_or,Bool.not_eq_false]at i;rw[D2]at a;rcases dN7.1 a with a|a
   ·exact da8 t d (n+1) j i.2.2.2 g _ _ _ _ _ it a
   ·exact aU7 l (d+1) j m o _ _ _ _ _ it a
end
def ci0{p:Pg}(hm:N2 p=true){i:Nat}(b:i<p.procs.length)(hw:C5 p<=1000000):∀it∈(b9 p).of i,U9 it.s=true:=by
 obtain⟨x,_,a⟩:=V9 p hw i b;obtain⟨n,m,h⟩:=bY7 hm b;intro it hit;rw[a]at hit;exact aU7 _ _ _ _ (bj4 h).2.2.2 _ _ _ _ _ it hit
def bh4{s:St}(h:U9 s=true):∀a∈s.args,a.ref=true->R0 a.name=true:=by
 unfold U9 at h;split at h
 ·cases h
 ·simp only[dO8]at h;have:=h.2;unfold aL6 at this;rw[dW0]at this;intro a b c;have:=this a b;rw[dO8]at this;have:=this.1;unfold Z3 at this;rw[c]at this;simpa using this
theorem bs9{p:Pg}(hm:N2 p=true){it:It}(a:it∈(b9 p).l):(b9 p).l[(it.s.id-1).toNat]?=some it/\(b9 p).it it.s.id=it/\1<=it.s.id:=by
 obtain⟨j,b⟩:=dV3.1 a;have h:=az4 hm j it b;have e:(it.s.id-1).toNat=j:=by omega
 refine⟨by rw[e];exact b,?_,by omega⟩;unfold Sh.it;rw[e,List.getD,b];rfl
def aR4{p:Pg}{i x y:Nat}(b:ar1 p i x y){it:It}(a:it∈(b9 p).of i):it∈(b9 p).l:=by
 rw[b.ok.of_]at a;exact dU2 (dX9 a)
theorem bS6{p:Pg}(hm:N2 p=true)(X:Rws){it:It}(a:it∈(b9 p).l):G2 (I8 p X) (it.s.id-1)=D7 (af0 p X it.s):=by
 unfold G2 I8;rw[List.getD,dP9,(bs9 hm a).1];rfl
def bo6:∀(l a:List A6),∃t,R6 a l=a++t
 | [],a=>⟨[],by simp[R6]⟩
 | n::l,a=>by
  rw[R6];obtain⟨t,e⟩:=bo6 l (if a.contains n then a else a++[n]);rw[e];split
  ·exact⟨t,rfl⟩
  ·exact⟨n::t,by simp⟩
def aQ4(g:A6->List A6):∀(m i:Nat) (a:List A6),∀x∈a,x∈P4 g m i a
 | 0,i,a,x,h=>h
 | m+1,i,a,x,h=>by
  rw[P4];split
  ·exact h
  ·exact aQ4 g m (i+1) _ x ((ar2 _ _ _).2 (.inl h))
def aw2{g:A6->List A6}{names:List A6}(q:∀m∈names,∀x∈g m,x∈names):∀(m i:Nat) (a:List A6),a.Nodup->(∀x∈a,x∈names)->names.length+1<=i+m->i<=a.length ->
  (∀k y,k<i->a[k]?=some y->∀x∈g y,x∈a)->∀y∈P4 g m i a,∀x∈g y,x∈P4 g m i a
 | 0,i,a,hn,hs,hl,hi,hc=>by
  have:=I2 hn hs;omega
 | m+1,i,a,hn,hs,hl,hi,hc=>by
  rw[P4];split
  ·rename_i h;intro y e x b;obtain⟨k,l⟩:=dV3.1 e;have:=(dM9.1 l).1;have:=List.getElem?_eq_none_iff.1 h;exact hc k y (by omega) l x b
  ·rename_i n h;obtain⟨f,j⟩:=dM9.1 h;have o:n∈names:=hs n (j ▸ dN5 f);obtain⟨t,p⟩:=bo6 (g n) a;refine aw2 q m (i+1) _ (aA6 _ _ hn) (λx b=>?_) (by omega) (by rw[p,dM7];omega) λk y l e x b=>?_
   ·rcases(ar2 _ _ _).1 b with b|b
    ·exact hs x b
    ·exact q n o x b
   ·have c:a[k]?=some y:=by
     rw[p,dR6 (by omega)]at e;exact e
    refine(ar2 _ _ _).2 ?_;rcases dQ7 k i with d|d
    ·exact .inl (hc k y d c x b)
    ·obtain rfl:k=i:=by omega
     rw[h]at c;obtain rfl:=dO3 c;exact .inr b
def bo8{s:Sh}{n x:A6}:x∈ax3 s n↔x∈P4 (ag7 s) (s.p.procs.length+1) 0 [n]:=(T0 _).mem_iff
def bB2(s:Sh)(n:A6):n∈ax3 s n:=bo8.2 (aQ4 _ _ _ _ _ (by simp))
def bg5{p:Pg}(K:Known p){n:A6}(hn:n∈p.procs.map (·.name)):∀y∈ax3 (b9 p) n,∀x∈ag7 (b9 p) y,x∈ax3 (b9 p) n:=by
 intro y b x a;rw[bo8]at b ⊢;refine aw2 (names:=p.procs.map (·.name)) (λm hm x a=>aH0 K hm a) _ _ _ (by simp) (λx a=>?_) (by rw[K9];simp) (by simp) (λk y c=>by omega) y b x a;simp only[dP1]at a;subst a;exact hn
def cd6{p:Pg}(K:Known p){n m:A6}(hn:n∈p.procs.map (·.name))(hm:m∈ax3 (b9 p) n):∀x∈ax3 (b9 p) m,x∈ax3 (b9 p) n:=by
 intro x a;rw[bo8]at a;exact(aB1 (names:=ax3 (b9 p) n) (bg5 K hn) _ _ _ (by simp) (λx a=>by
  simp only[dP1]at a;subst a;exact hm)).2 x a
def bZ2{p:Pg}(h:I5 p=true):(N8 p).1=0:=by
 have h:=dM8 h;unfold aH1 at h;split at h
 ·simp at h
 split at h
 ·rename_i a;exact absurd h a
 ·rename_i a;exact dZ2 a
def be7{p:Pg}(h:(N8 p).1=0){n v:A6}(hn:n∈p.procs.map (·.name)):v∈P5 p n↔∃m∈ax3 (b9 p) n,∃it∈(b9 p).of ((b9 p).pr m),v∈K1 it.s/\v∈p.globals:=by
 have a:aI8 p n=true:=by
  unfold aI8;obtain⟨q,b,rfl⟩:=dO7.1 hn;rw[dV2 h,dT7,dZ8];exact⟨q,b,by simp⟩
 unfold P5;rw[if_pos a];simp only[I3,dQ0,dP2,dO5]
def cS4{p:Pg}(h:(N8 p).1=0)(K:Known p){n m v:A6}(hn:n∈p.procs.map (·.name))(hm:m∈ax3 (b9 p) n)(a:m∈p.procs.map (·.name))(hv:v∈P5 p m):v∈P5 p n:=by
 rw[be7 h a]at hv;rw[be7 h hn];obtain⟨q,b,r⟩:=hv;exact⟨q,cd6 K hn hm q b,r⟩
def bi8{p:Pg}(K:Known p){i:Nat}(b:i<p.procs.length):(b9 p).pr p.procs[i].name=(i:Int):=by
 obtain⟨k,d,e,f⟩:=Q9 (p:=p) (n:=p.procs[i].name) (dO7.2 ⟨_,dN5 b,rfl⟩);rw[e];have a:k=i:=by
  have c:(p.procs.map (·.name))[k]'(by simpa using d)=(p.procs.map (·.name))[i]'(by simpa using b):=by simp[f]
  exact cC7 K.names _ _ c
 rw[a]
def cj1{p:Pg}(h:(N8 p).1=0)(g:D4 p)(hw:C5 p<=1000000):∀(k i:Nat) (j:i<p.procs.length) (n:A6),n∈G2 (F6 (G0 p) k (List.replicate p.procs.length [])) (i:Int)->n∈p.globals->n∈P5 p p.procs[i].name:=by
 intro k
 induction k with
 | zero=>
  intro i j n a _;rw[F6,aY1 (by simpa using j)]at a;simp at a
 | succ k w=>
  intro i j n a u;rw[Z0]at a;generalize F6 (G0 p) k (List.replicate p.procs.length [])=X at w a;have o:p.procs[i].name∈p.procs.map (·.name):=dO7.2 ⟨_,dN5 j,rfl⟩;rw[aY1 (by unfold G0;simpa using j)]at a;unfold G0 at a;rw[dT4,dY7,I3]at a;unfold ac0 at a;obtain⟨it,d,a⟩:=dQ0.1 a;have d:=(dP2.1 d).1;have a:=(dP2.1 a).1;obtain⟨x,s⟩:=J5 g.may hw i j;rw[bS6 g.may X (aR4 s d),I3]at a;have m:=aC4 (bW4 g.may n u);have b:n∈K1 it.s->n∈P5 p p.procs[i].name:=λE=>by
   rw[be7 h o];exact⟨_,bB2 _ _,it,by rw[bi8 g.toKnown j];exact d,E,u⟩
  have f:it.s.kind≠10->n=it.s.name->n∈K1 it.s:=λl e=>by
   unfold K1;rw[if_pos ⟨l,by rw[<-e];exact m.2.2⟩,e];simp
  unfold af0 at a;split at a
  ·rename_i l;exact b (f (by omega) (by simpa using a))
  split at a
  ·rename_i l;simp only[dO6,dR2,dX1]at a;rcases a with e|e
   ·exact b (f (by omega) e)
   ·exact absurd e m.1
  split at a
  ·simp only[dP1]at a;exact absurd a m.2.1
  split at a
  ·rename_i l;unfold ao3 at a;rcases dN7.1 a with a|a
   ·rcases dN7.1 a with a|a
    ·split at a
     ·simp at a
     ·exact b (f (by omega) (by simpa using a))
    ·obtain⟨z,v,rfl⟩:=dO7.1 a;obtain⟨v,q⟩:=dP2.1 v;rw[dO8]at q;refine b ?_;unfold K1;refine dS0 _ (dQ0.2 ⟨z.1,(List.of_mem_zip v).1,?_⟩);unfold L0;rw[if_pos q.1];simp
   ·have a:=(dP2.1 a).1;obtain⟨c,r⟩:=U6 (g.fits it (aR4 s d) l);rw[r.idx]at a;have D:=r.lt;have t:p.procs[c].name=it.s.proc:=by
     obtain⟨y,C,A,B⟩:=Q9 (aA9 g.toKnown hw (aR4 s d) l);rw[r.pr]at A;obtain rfl:c=y:=by omega
     exact B
    have:=w c r.lt n a u;rw[t]at this;refine cS4 h g.toKnown o (bg5 g.toKnown o _ (bB2 _ _) _ ?_) (aA9 g.toKnown hw (aR4 s d) l) this;unfold ag7;rw[I3,bi8 g.toKnown j];exact dO7.2 ⟨it,dP2.2 ⟨d,by simpa using l⟩,rfl⟩
  ·simp at a
def bX9{p:Pg}(a:I5 p=true)(hw:C5 p<=1000000){i:Nat}(c:i<p.procs.length){n:A6}(hn:n∈G2 (J3 p) (i:Int))(b:n∈p.globals):n∈P5 p p.procs[i].name:=by
 obtain⟨k,e,_⟩:=bu7 (N3 a).may;rw[e]at hn;exact cj1 (bZ2 a) (N3 a) hw k i c n hn b
def aS1{name:A6}{d:List A6}:∀{l:List Ar} {f:List A6},ah7 name d f l=true->(∀(j:Nat) (a:Ar),l[j]?=some a->a.ref=true->a.name∉f/\a.name≠name/\a.name∉d) /\
  ∀(j k:Nat) (a b:Ar),l[j]?=some a->l[k]?=some b->a.ref=true->b.ref=true->a.name=b.name->j=k
 | [],f,_=>⟨λj a h=>by simp at h,λj k a b h=>by simp at h⟩
 | c::l,f,h=>by
  rw[ah7]at h;by_cases hr:c.ref=true
  ·rw[if_pos hr]at h;split at h
   ·cases h
   ·rename_i p;have p:=dX7.2 p;simp only[Bool.or_eq_false_iff,dY8]at p;obtain⟨⟨t,v⟩,u⟩:=p;obtain⟨o,s⟩:=aS1 h;have q:c.name∉f:=λhm=>by rw[dO5.2 hm]at t;cases t
    have r:c.name∉d:=λhm=>by rw[dO5.2 hm]at u;cases u
    refine⟨λj a g i=>?_,λj k a b g m i n e=>?_⟩
    ·cases j with
     | zero=>
      obtain rfl:c=a:=by simpa using g
      exact⟨q,v,r⟩
     | succ j=>
      obtain⟨w,x⟩:=o j a (by simpa using g) i;exact⟨λhm=>w (dQ1 _ hm),x⟩
    ·cases j with
     | zero=>
      obtain rfl:c=a:=by simpa using g
      cases k with
      | zero=>rfl
      | succ k=>
       have:=(o k b (by simpa using m) n).1;exact absurd (dS0 _ (by rw[e];simp)) this
     | succ j=>
      cases k with
      | zero=>
       obtain rfl:c=b:=by simpa using m
       have:=(o j a (by simpa using g) i).1;exact absurd (dS0 _ (by rw[e];simp)) this
      | succ k=>rw[s j k a b (by simpa using g) (by simpa using m) i n e]
  ·rw[if_neg hr]at h;obtain⟨o,s⟩:=aS1 h;refine⟨λj a g i=>?_,λj k a b g m i n e=>?_⟩
   ·cases j with
    | zero=>
     obtain rfl:c=a:=by simpa using g
     exact absurd i hr
    | succ j=>exact o j a (by simpa using g) i
   ·cases j with
    | zero=>
     obtain rfl:c=a:=by simpa using g
     exact absurd i hr
    | succ j=>
     cases k with
     | zero=>
      obtain rfl:c=b:=by simpa using m
      exact absurd n hr
     | succ k=>rw[s j k a b (by simpa using g) (by simpa using m) i n e]
def dm2:ak6 prog 134=true:=by kernel_rfl
def cz8(x y:Fw)(w:World):p7 prog 191 #[.agg (A0.cells x).toArray,.agg (A0.cells y).toArray] w λu d=>(u = .int .i64 (fwC x y)/\Gr w d):=by
 refine p9 [.agg (A0.cells x).toArray,.agg (A0.cells y).toArray] func191 rfl ?_;obtain⟨a,C,i,k,r⟩:=bR5 (P:=prog) (T:=210) (SV.ofN (i4 w) x) (i5 _);obtain⟨b,c,j,e,s⟩:=bR5 (P:=prog) (T:=210) (SV.ofN (i4 C) y) (i5 _);obtain⟨_,z⟩:=(r.mono (b7 e.ext)).fw;obtain⟨_,A⟩:=s.fw;have t:=z (λd=>Gr c.drew d) c.drew (Gr.refl _) λd h=>b7 ((Gr.drew c).trans h).ext;have v:=A (λd=>Gr c.drew d) c.drew (Gr.refl _) λd h=>b7 ((Gr.drew c).trans h).ext;simp only[m8,o6,simprocAttr,i,j];refine C0 (λd=>Gr c.drew d) 18 (A5 [0,1,3,4,7,8,10,11,14,15,16,17,2,5,6,9,12,13]) ?_ (hS:=Gr.refl _);simp only[D6,A5,m8,o6,simprocAttr,t,v];refine E0 (al1 _ _) ⟨Gr.refl _,?_⟩;simp only[D6,m8,simprocAttr];refine E0 (al1 _ _) ⟨Gr.refl _,?_⟩;simp only[D6,m8,simprocAttr];refine E0 (U4 _ _ _) ⟨Gr.refl _,?_⟩;simp only[D6,m8,simprocAttr];refine E0 (al1 _ _) ⟨Gr.refl _,?_⟩;simp only[D6,m8,simprocAttr];refine E0 (al1 _ _) ⟨Gr.refl _,?_⟩;simp only[D6,m8,simprocAttr];refine E0 (U4 _ _ _) ⟨Gr.refl _,?_⟩;simp only[D6,m8,simprocAttr];refine E0 (aA4 _ _ _) ?_;generalize m:[K6 (F1 x.src) (F1 y.src),K6 (F1 x.dst) (F1 y.dst),ab4 x.var y.var]=l;have q:fwC x y=orF l:=by rw[<-m];rfl
 have p:l.length=3:=by rw[<-m];rfl
 obtain⟨B,D,g,o,f⟩:=dc0 (P:=prog) (w:=c.drew) (h:=i4 c.drew) (α:=Int) (xs:=[.int .i64 (K6 (F1 x.src) (F1 y.src)),.int .i64 (K6 (F1 x.dst) (F1 y.dst)),.int .i64 (ab4 x.var y.var)]) (ys:=l) (parts:=#[(0,.int .i64 (K6 (F1 x.src) (F1 y.src))),(1,.int .i64 (K6 (F1 x.dst) (F1 y.dst))),(2,.int .i64 (ab4 x.var y.var))]) (n:=3) U2 rfl (by rw[<-m];exact G5.2 rfl) (by simp[Value.cells]) rfl p (by simp) (by simp) (i5 _);simp only[m8,simprocAttr,g];refine E0 (bI8 B l D (o.rw_ (b7 f.ext)) (by omega)) ?_;simp only[m8,simprocAttr];refine o8 results191 ?_;simp only[p8,simprocAttr];exact⟨by rw[q],k.trans (e.trans ((Gr.drew c).trans f))⟩
def bb0(x y:Vx)(w:World):p7 prog 134 #[.agg (A0.cells x).toArray,.agg (A0.cells y).toArray] w λu d=>(u = .int .i64 (vxC x y)/\Gr w d):=by
 refine p9 [.agg (A0.cells x).toArray,.agg (A0.cells y).toArray] func134 rfl ?_;obtain⟨a,C,i,k,r⟩:=bR5 (P:=prog) (T:=26) (SV.ofN (i4 w) x) (i5 _);obtain⟨b,c,j,e,s⟩:=bR5 (P:=prog) (T:=26) (SV.ofN (i4 C) y) (i5 _);obtain⟨_,z⟩:=(r.mono (b7 e.ext)).vx;obtain⟨_,A⟩:=s.vx;have t:=z (λd=>Gr c.drew d) c.drew (Gr.refl _) λd h=>b7 ((Gr.drew c).trans h).ext;have v:=A (λd=>Gr c.drew d) c.drew (Gr.refl _) λd h=>b7 ((Gr.drew c).trans h).ext;simp only[m8,o6,simprocAttr,i,j];refine C0 (λd=>Gr c.drew d) 19 (A5 [0,1,2,3,5,6,7,8,10,11,12,13,15,16,17,18,4,9,14]) ?_ (hS:=Gr.refl _);simp only[D6,A5,m8,o6,simprocAttr,t,v];refine E0 (aA4 _ _ _) ⟨Gr.refl _,?_⟩;simp only[D6,m8,simprocAttr];refine E0 (U4 _ _ _) ⟨Gr.refl _,?_⟩;simp only[D6,m8,simprocAttr];refine E0 (U4 _ _ _) ⟨Gr.refl _,?_⟩;simp only[D6,m8,simprocAttr];refine E0 (aA4 _ _ _) ?_;generalize m:[ab4 x.proc y.proc,K6 x.kind y.kind,K6 x.id y.id,ab4 x.slot y.slot]=l;have q:vxC x y=orF l:=by rw[<-m];rfl
 have p:l.length=4:=by rw[<-m];rfl
 obtain⟨B,D,g,o,f⟩:=dc0 (P:=prog) (w:=c.drew) (h:=i4 c.drew) (α:=Int) (xs:=[.int .i64 (ab4 x.proc y.proc),.int .i64 (K6 x.kind y.kind),.int .i64 (K6 x.id y.id),.int .i64 (ab4 x.slot y.slot)]) (ys:=l) (parts:=#[(0,.int .i64 (ab4 x.proc y.proc)),(1,.int .i64 (K6 x.kind y.kind)),(2,.int .i64 (K6 x.id y.id)),(3,.int .i64 (ab4 x.slot y.slot))]) (n:=4) U2 rfl (by rw[<-m];exact G5.2 rfl) (by simp[Value.cells]) rfl p (by simp) (by simp) (i5 _);simp only[m8,simprocAttr,g];refine E0 (bI8 B l D (o.rw_ (b7 f.ext)) (by omega)) ?_;simp only[m8,simprocAttr];refine o8 results134 ?_;simp only[p8,simprocAttr];exact⟨by rw[q],k.trans (e.trans ((Gr.drew c).trans f))⟩
def dh0{P:Program}{k:Nat}{args:List Value}{w:World}{K:Fr->World->Prop}{f:Fr}{d:Option Nat}{v:Value}(hb:ak6 P k=true)
  (h:Calls P k args.toArray w λe a=>∃u,e = .returned u/\(u=v/\Gr w a)) (c:∀a,Gr w a->K (C4 f d v) a):ax0 P k args w K f d:=
 y5 (hb:=hb) h λu a ⟨e,b⟩=>by subst e;exact c a b
def cy6(x y:Eg)(w:World):p7 prog 142 #[.agg (A0.cells x).toArray,.agg (A0.cells y).toArray] w λu c=>(u = .int .i64 (egC x y)/\Gr w c):=by
 refine p9 [.agg (A0.cells x).toArray,.agg (A0.cells y).toArray] func142 rfl ?_;obtain⟨a,w1,o,q,O⟩:=bR5 (P:=prog) (T:=67) (SV.ofN (i4 w) x) (i5 _);obtain⟨b,d,p,i,Q⟩:=bR5 (P:=prog) (T:=67) (SV.ofN (i4 w1) y) (i5 _);obtain⟨E,D,_,Y⟩:=(O.mono (b7 i.ext)).eg;obtain⟨G,F,_,Z⟩:=Q.eg;obtain⟨aa,t,_,I⟩:=E.vx_v;obtain⟨ab,A,_,J⟩:=D.vx_v;obtain⟨ac,B,_,K⟩:=G.vx_v;obtain⟨ad,C,_,L⟩:=F.vx_v;have hN:∀{v:Value} {z:Vx},SV (i4 d) v z->v = .agg (A0.cells z).toArray:=fun{v z} ⟨cs,e,h1⟩=>by rw[e,(A0.iff_ _ _ _).1 h1]
 obtain rfl:=hN t;obtain rfl:=hN A;obtain rfl:=hN B;obtain rfl:=hN C;have g:∀c,Gr d.drew c->B5 (i4 d) (i4 c):=λc h=>b7 ((Gr.drew d).trans h).ext;have R:=Y (λc=>Gr d.drew c) d.drew (Gr.refl _) g;have S:=Z (λc=>Gr d.drew c) d.drew (Gr.refl _) g;have U:=I (λc=>Gr d.drew c) d.drew (Gr.refl _) g;have V:=J (λc=>Gr d.drew c) d.drew (Gr.refl _) g;have W:=K (λc=>Gr d.drew c) d.drew (Gr.refl _) g;have X:=L (λc=>Gr d.drew c) d.drew (Gr.refl _) g;simp only[m8,o6,simprocAttr,o,p];refine C0 (λc=>Gr d.drew c) 14 (A5 [0,1,2,3,5,6,7,8,10,11,12,13,4,9]) ?_ (hS:=Gr.refl _);simp only[D6,A5,m8,o6,simprocAttr,R,S,U,V,W,X];refine dh0 dm2 (bb0 x.src y.src _) (λw3 f=>⟨f,?_⟩);simp only[D6,m8,simprocAttr];refine dh0 dm2 (bb0 x.dst y.dst _) (λH j=>⟨f.trans j,?_⟩);simp only[D6,m8,simprocAttr];refine E0 (U4 _ _ _) ?_;generalize r:[vxC x.src y.src,vxC x.dst y.dst,K6 x.kind y.kind]=l;have N:egC x y=orF l:=by rw[<-r];rfl
 have M:l.length=3:=by rw[<-r];rfl
 obtain⟨vt,w5,m,s,k⟩:=dc0 (P:=prog) (w:=H) (h:=i4 H) (α:=Int) (xs:=[.int .i64 (vxC x.src y.src),.int .i64 (vxC x.dst y.dst),.int .i64 (K6 x.kind y.kind)]) (ys:=l) (parts:=#[(0,.int .i64 (vxC x.src y.src)),(1,.int .i64 (vxC x.dst y.dst)),(2,.int .i64 (K6 x.kind y.kind))]) (n:=3) U2 rfl (by rw[<-r];exact G5.2 rfl) (by simp[Value.cells]) rfl M (by simp) (by simp) (i5 _);simp only[m8,simprocAttr,m];refine E0 (bI8 vt l w5 (s.rw_ (b7 k.ext)) (by omega)) ?_;simp only[m8,simprocAttr];refine o8 results142 ?_;simp only[p8,simprocAttr];exact⟨by rw[N],q.trans (i.trans ((Gr.drew d).trans ((f.trans j).trans k)))⟩
def or3(a b c:Int):orF [a,b,c]=if a=0 then(if b=0 then(if c=0 then 0 else c)else b)else a:=by simp only[orF]
def or4(a b c d:Int):orF [a,b,c,d]=if a=0 then(if b=0 then(if c=0 then(if d=0 then 0 else d)else c)else b)else a:=by simp only[orF]
def bR9:Cm fwC:=by
 have h:=(aH2.key (λx:Fw=>F1 x.src)).lex ((aH2.key (λx:Fw=>F1 x.dst)).lex ((ce6.key (λx:Fw=>x.var)).lex Cm.zero));have e:fwC=λx y:Fw=>if K6 (F1 x.src) (F1 y.src)=0 then(if K6 (F1 x.dst) (F1 y.dst)=0 then(if ab4 x.var y.var=0 then 0 else ab4 x.var y.var)else K6 (F1 x.dst) (F1 y.dst))else K6 (F1 x.src) (F1 y.src):=by
  funext x y
  exact or3 _ _ _
 rw[e];exact h
def bC2:Cm vxC:=by
 have h:=(ce6.key (λx:Vx=>x.proc)).lex ((aH2.key (λx:Vx=>x.kind)).lex ((aH2.key (λx:Vx=>x.id)).lex ((ce6.key (λx:Vx=>x.slot)).lex Cm.zero)));have e:vxC=λx y:Vx=>if ab4 x.proc y.proc=0 then(if K6 x.kind y.kind=0 then(if K6 x.id y.id=0 then(if ab4 x.slot y.slot=0 then 0 else ab4 x.slot y.slot)else K6 x.id y.id)else K6 x.kind y.kind)else ab4 x.proc y.proc:=by
  funext x y
  exact or4 _ _ _ _
 rw[e];exact h
def dh1:Cm egC:=by
 have h:=(bC2.key (λx:Eg=>x.src)).lex ((bC2.key (λx:Eg=>x.dst)).lex ((aH2.key (λx:Eg=>x.kind)).lex Cm.zero));have e:egC=λx y:Eg=>if vxC x.src y.src=0 then(if vxC x.dst y.dst=0 then(if K6 x.kind y.kind=0 then 0 else K6 x.kind y.kind)else vxC x.dst y.dst)else vxC x.src y.src:=by
  funext x y
  exact or3 _ _ _
 rw[e];exact h
def bU4{a b:Fw}(c:plc a.src/\plc a.dst)(d:plc b.src/\plc b.dst)(h:fwC a b=0):a=b:=by
 unfold fwC at h;rw[or3]at h;by_cases q1:K6 (F1 a.src) (F1 b.src)=0
 ·rw[if_pos q1]at h;by_cases q2:K6 (F1 a.dst) (F1 b.dst)=0
  ·rw[if_pos q2]at h;by_cases q3:ab4 a.var b.var=0
   ·have e:=aX7 c.1 d.1 (aa0 q1);have f:=aX7 c.2 d.2 (aa0 q2);have g:=ax9 q3;cases a;cases b;simp_all
   ·rw[if_neg q3]at h;exact absurd h q3
  ·rw[if_neg q2]at h;exact absurd h q2
 ·rw[if_neg q1]at h;exact absurd h q1
def ba6{a b:Vx}(h:vxC a b=0):a=b:=by
 unfold vxC at h;rw[or4]at h;by_cases q1:ab4 a.proc b.proc=0
 ·rw[if_pos q1]at h;by_cases q2:K6 a.kind b.kind=0
  ·rw[if_pos q2]at h;by_cases q3:K6 a.id b.id=0
   ·rw[if_pos q3]at h;by_cases q4:ab4 a.slot b.slot=0
    ·have c:=ax9 q1;have d:=aa0 q2;have e:=aa0 q3;have f:=ax9 q4;cases a;cases b;simp_all
    ·rw[if_neg q4]at h;exact absurd h q4
   ·rw[if_neg q3]at h;exact absurd h q3
  ·rw[if_neg q2]at h;exact absurd h q2
 ·rw[if_neg q1]at h;exact absurd h q1
def cK3{a b:Eg}(h:egC a b=0):a=b:=by
 unfold egC at h;rw[or3]at h;by_cases q1:vxC a.src b.src=0
 ·rw[if_pos q1]at h;by_cases q2:vxC a.dst b.dst=0
  ·rw[if_pos q2]at h;by_cases q3:K6 a.kind b.kind=0
   ·have c:=ba6 q1;have d:=ba6 q2;have e:=aa0 q3;cases a;cases b;simp_all
   ·rw[if_neg q3]at h;exact absurd h q3
  ·rw[if_neg q2]at h;exact absurd h q2
 ·rw[if_neg q1]at h;exact absurd h q1
def Cm.eq0{α:Type}{c:α->α->Int}(h:Cm c){a b:α}(d:decide (c a b<=0)=true)(e:decide (c b a<=0)=true):c a b=0:=by
 have f:=dM8 d;have g:=dM8 e;have i:=h.anti a b;omega
def dy8:F4 prog 207 210 3 32=true:=by kernel_rfl
def bk1:F4 prog 22 26 4 48=true:=by kernel_rfl
def ct3:F4 prog 55 67 9 104=true:=by kernel_rfl
def cB7:(Tryz.lySortF_ren.f 6)=190:=by kernel_rfl
def bE6:(Tryz.lySortF_ren.t 24)=210:=by kernel_rfl
def ck4{h:Hp}{w:World}{v:Value}{xs:List Fw}(k:A8 h w 210 v xs)(j:xs.length<=1000000000)(l:∀a∈xs,∀b∈xs,decide (fwC a b<=0)=true->decide (fwC b a<=0)=true->a=b):
  Calls prog 190 #[v,.func (.func 191) #[] #[]] w λe c=>∃u,e = .returned u/\(A8 h c 210 v (Y0 bA1 xs)/\o9 (A3 v) w c):=by
 rw[<-cB7];have d:∀w,(isAgg (Tryz.lySortF_ren.t 24)).run prog w = .ok true w:=λw=>by
  rw[bE6,aa4 _ cT9,cS7]
 have m:∀w,(Go.sizeOf (Tryz.lySortF_ren.t 24)).run prog w = .ok (A4.sz Fw) w:=λw=>by
  rw[bE6,P8 cm0,by2];rfl
 exact aM7 (P:=prog) (T:=210) Tryz.lySortF d m fwC bR9 191 (enters_of func191 (by kernel_rfl) rfl) (λx y w=>(cz8 x y w).mono λe c ⟨u,f,g,i⟩=>⟨by rw[f,g],i⟩) k j l
def cB9:(Tryz.lySortV_ren.f 6)=133:=by kernel_rfl
def bE8:(Tryz.lySortV_ren.t 24)=26:=by kernel_rfl
def ck5{h:Hp}{w:World}{v:Value}{xs:List Vx}(k:A8 h w 26 v xs)(j:xs.length<=1000000000)(l:∀a∈xs,∀b∈xs,decide (vxC a b<=0)=true->decide (vxC b a<=0)=true->a=b):
  Calls prog 133 #[v,.func (.func 134) #[] #[]] w λe c=>∃u,e = .returned u/\(A8 h c 26 v (Y0 cF0 xs)/\o9 (A3 v) w c):=by
 rw[<-cB9];have d:∀w,(isAgg (Tryz.lySortV_ren.t 24)).run prog w = .ok true w:=λw=>by
  rw[bE8,aa4 _ at9,at6]
 have m:∀w,(Go.sizeOf (Tryz.lySortV_ren.t 24)).run prog w = .ok (A4.sz Vx) w:=λw=>by
  rw[bE8,P8 an8,O9];rfl
 exact aM7 (P:=prog) (T:=26) Tryz.lySortV d m vxC bC2 134 (enters_of func134 (by kernel_rfl) rfl) (λx y w=>(bb0 x y w).mono λe c ⟨u,f,g,i⟩=>⟨by rw[f,g],i⟩) k j l
def cB6:(Tryz.lySortE_ren.f 6)=141:=by kernel_rfl
def bE5:(Tryz.lySortE_ren.t 24)=67:=by kernel_rfl
def ca7{h:Hp}{w:World}{v:Value}{xs:List Eg}(k:A8 h w 67 v xs)(j:xs.length<=1000000000)(l:∀a∈xs,∀b∈xs,decide (egC a b<=0)=true->decide (egC b a<=0)=true->a=b):
  Calls prog 141 #[v,.func (.func 142) #[] #[]] w λe c=>∃u,e = .returned u/\(A8 h c 67 v (Y0 cy7 xs)/\o9 (A3 v) w c):=by
 rw[<-cB6];have d:∀w,(isAgg (Tryz.lySortE_ren.t 24)).run prog w = .ok true w:=λw=>by
  rw[bE5,aa4 _ cu2,ct9]
 have m:∀w,(Go.sizeOf (Tryz.lySortE_ren.t 24)).run prog w = .ok (A4.sz Eg) w:=λw=>by
  rw[bE5,P8 bH3,aZ8];rfl
 exact aM7 (P:=prog) (T:=67) Tryz.lySortE d m egC dh1 142 (enters_of func142 (by kernel_rfl) rfl) (λx y w=>(cy6 x y w).mono λe c ⟨u,f,g,i⟩=>⟨by rw[f,g],i⟩) k j l
def bX0(n:Int)(k:Nat)(d:0<k):∃N:Nat,ci2 n k=N/\N<k:=by
 have a:¬((k:Int)<1):=by omega
 have b : -(k:Int)<n.tmod k:=Int.lt_tmod_of_pos n (by omega);have c:n.tmod k<k:=Int.tmod_lt_of_pos n (by omega);unfold ci2;rw[if_neg a];split
 ·exact⟨(n.tmod k+k).toNat,by omega,by omega⟩
 ·exact⟨(n.tmod k).toNat,by omega,by omega⟩
def E6.rowlen{n:Nat}{l:List (List Int)}(h:E6 n l)(a:Int):(C9 l a).length<=n:=by
 have:=aD6 (n:=n) (m:=0) (h.row a).1 (λy b=>B3.1 ((h.row a).2 y b)) (by omega);omega
inductive ax1 (nx gen kill:List (List Int)):Int->Nat->Prop
 | gen {a b:Int} {f:Nat}:b∈C9 nx a->(f:Int)∈C9 gen a->ax1 nx gen kill b f
 | step {a b:Int} {f:Nat}:b∈C9 nx a->ax1 nx gen kill a f->(f:Int)∉C9 kill a->ax1 nx gen kill b f
def wAt(a:List (List W))(b:Int):List W:=a.getD b.toNat []
def al7(a:List (List W))(b:Int)(f:Nat):Bool:=Q8 (wAt a b) f
def df8{c:List (List W)}{n:Nat}(g:c.length=n){a b:Int}(d:H1 n a=true)(hb:H1 n b=true)(r:List W):wAt (c.set a.toNat r) b=if b=a then r else wAt c b:=by
 have e:=B3.1 d;have f:=B3.1 hb;unfold wAt;simp only[List.getD];by_cases h:b=a
 ·subst h;rw[if_pos rfl,dT3 (by omega)];rfl
 ·rw[if_neg h,dU7 (by omega)]
def ak9{b:List (List W)}{n:Nat}(e:b.length=n){a:Int}(c:H1 n a=true):b[a.toNat]?=some (wAt b a):=by
 have d:=B3.1 c;unfold wAt;have:a.toNat<b.length:=by omega
 simp[List.getD,this]
def bz6(most:Nat)(r:List W):Nat:=(List.range most).countP (Q8 r)
def aJ8(most:Nat)(a:List (List W)):Nat:=(a.map (bz6 most)).sum
def cZ6(most:Nat)(r:List W):bz6 most r<=most:=by
 have:=List.countP_le_length (p:=Q8 r) (l:=List.range most);rw[dR3]at this;exact this
def aX3(most:Nat):∀a:List (List W),aJ8 most a<=a.length*most
 | []=>by simp[aJ8]
 | r::a=>by
  have b:=aX3 most a;have c:=cZ6 most r;simp only[aJ8,dQ8,dX8,dP4]at *;rw[dY1];omega
def aX4(most:Nat):∀(a:List (List W)) (i:Nat) (r b:List W),a[i]?=some r->aJ8 most (a.set i b)+bz6 most r=aJ8 most a+bz6 most b
 | [],i,r,b,h=>by simp at h
 | x::a,0,r,b,h=>by
  simp at h;subst h;simp only[aJ8,List.set_cons_zero,dQ8,dX8];omega
 | x::a,i+1,r,b,h=>by
  have:=aX4 most a i r b (by simpa using h);simp only[aJ8,List.set_cons_succ,dQ8,dX8]at *;omega
def bp9{p q:Nat->Bool}{m:Nat}:∀{l:List Nat},(∀x,p x=true->q x=true)->m∈l->q m=true->p m=false->l.countP p<l.countP q
 | [],_,h,_,_=>by cases h
 | x::l,hqp,h,hp,hq=>by
  have B5:l.countP p<=l.countP q:=List.countP_mono_left λx _=>hqp x;rw[List.countP_cons,List.countP_cons];by_cases hx:m=x
  ·subst hx;simp[hp,hq];omega
  ·have hm:m∈l:=by
    rcases dO6.1 h with h|h
    ·exact absurd h hx
    ·exact h
   have:=bp9 hqp hm hp hq;by_cases h1:p x=true
   ·simp[h1,hqp x h1];omega
   ·simp only[h1,dS7,dU1];split<;>omega
def bp7{most:Nat}{b c:List W}(a:b.length=c.length)(g:∀f,Q8 c f=true->f<most)(hm:ai6 b c=true):bz6 most b<bz6 most (orB b c):=by
 obtain⟨f,d,e⟩:=(bF1 a).1 hm;exact bp9 (m:=f) (λx h=>by rw[aB7 a,h];rfl) (dQ6.2 (g f d)) (by rw[aB7 a,d];simp) e
theorem dc9{b c:List W}(a:b.length=c.length)(hm:ai6 b c=false)(f:Nat):Q8 (orB b c) f=Q8 b f:=by
 rw[aB7 a];cases hb:Q8 b f
 ·cases hc:Q8 c f
  ·rfl
  ·have:=(bF1 a).2 ⟨f,hc,hb⟩;rw[hm]at this;cases this
 ·rfl
def bQ5(c b:List (List Int))(d:List (List W))(a:Int)(f:Nat):Prop:=(f:Int)∈C9 c a\/(al7 d a f=true/\(f:Int)∉C9 b a)
section
variable (nx gen kill:List (List Int)) (most:Nat)
structure SB (ins:List (List W)) (todo:List Int) (waits:List Bool):Prop where
 ilen:ins.length=nx.length
 rlen:∀r∈ins,r.length=most / 64+1
 wlen:waits.length=nx.length
 ok:∀a∈todo,H1 nx.length a=true
 wt:∀a,A7 waits a=true↔a∈todo
 nodup:todo.Nodup
 sound:∀b f,H1 nx.length b=true->al7 ins b f=true->ax1 nx gen kill b f
 low:∀b f,H1 nx.length b=true->al7 ins b f=true->f<most
def cF8(c:List (List W))(a:Int):Prop:=∀b∈C9 nx a,∀f,bQ5 gen kill c a f->al7 c b f=true
structure SI (ins:List (List W)) (todo:List Int) (waits:List Bool) (T:Nat):Prop extends SB nx gen kill most ins todo waits where
 closed:∀a,H1 nx.length a=true->A7 waits a=false->cF8 nx gen kill ins a
 few:T+todo.length<=nx.length+aJ8 most ins
 many:nx.length<=T+todo.length
structure SJ (a:Int) (goes:List W) (k:Nat) (ins:List (List W)) (todo:List Int) (waits:List Bool) (T:Nat):Prop extends SB nx gen kill most ins todo waits where
 closed:∀c,H1 nx.length c=true->c≠a->A7 waits c=false->cF8 nx gen kill ins c
 mine:A7 waits a=false->∀f,Q8 goes f=true↔bQ5 gen kill ins a f
 done:∀b∈(C9 nx a).take k,∀f,Q8 goes f=true->al7 ins b f=true
 few:T+todo.length<=nx.length+aJ8 most ins
 many:nx.length<=T+todo.length
end
section
variable {nx gen kill:List (List Int)} {most:Nat} {ins:List (List W)} {todo:List Int} {waits:List Bool} {T:Nat} {a:Int} {goes:List W} {k:Nat}
def SI.start(c:ins=List.replicate nx.length (List.replicate (most / 64+1) 0#64))(d:∀a,a∈todo↔H1 nx.length a=true)(k:todo.Nodup)(m:todo.length=nx.length)(hw:waits=List.replicate nx.length true):SI nx gen kill most ins todo waits 0:=by
 have i:∀b f,H1 nx.length b=true->al7 ins b f=false:=by
  intro b f e;have:=B3.1 e;subst c;unfold al7 wAt;simp only[List.getD,dW9];rw[if_pos (by omega)];exact bU9
 have g:∀b,A7 waits b=true↔H1 nx.length b=true:=by
  intro b;subst hw;constructor
  ·intro h;have:=Y6 h;simpa using this
  ·intro h;have n:=(N0 (l:=List.replicate nx.length true) (b:=b) (by simpa using h)).2;rw[n];have:=B3.1 h;simp only[List.getD,dW9];rw[if_pos (by omega)];rfl
 refine⟨⟨by subst c;simp,λr o=>?_,by subst hw;simp,λa j=>(d a).1 j,λa=>by rw[g,d],k,(λb f e h=>(by rw[i b f e]at h;cases h)),(λb f e h=>(by rw[i b f e]at h;cases h))⟩,λa j h=>?_,by omega,by omega⟩
 ·subst c;rw[dT2 o];simp
 ·have:=(g a).2 j;rw[h]at this;cases this
def SI.pop{d:List Int}(h:SI nx gen kill most ins (a::d) waits T)(n:∀f,Q8 goes f=true↔bQ5 gen kill ins a f):SJ nx gen kill most a goes 0 ins d (waits.set a.toNat false) (T+1):=by
 have l:H1 nx.length a=true:=h.ok a (by simp);have j:∀b,A7 (waits.set a.toNat false) b=if b=a then false else A7 waits b:=λb=>M6 (by rw[h.wlen];exact l);have g:=dY6.1 h.nodup;refine⟨⟨h.ilen,h.rlen,by simp[h.wlen],λb e=>h.ok b (by simp[e]),λb=>?_,g.2,h.sound,h.low⟩,λc m i k=>?_,λ_=>n,λb e=>by simp at e,?_,?_⟩
 ·rw[j];by_cases e:b=a
  ·subst e;simp[g.1]
  ·rw[if_neg e,h.wt];simp[e]
 ·rw[j,if_neg i]at k;exact h.closed c m k
 ·have:=h.few;simp only[dP4]at this;omega
 ·have:=h.many;simp only[dP4]at this;omega
def SJ.core{b:Int}(q:E6 nx.length nx)(h:SJ nx gen kill most a goes k ins todo waits T)(B:goes.length=most / 64+1)(C:∀f,Q8 goes f=true->f<most/\∀b∈C9 nx a,ax1 nx gen kill b f)(hb:(C9 nx a)[k]?=some b)(w:H1 nx.length b=true)
  {i:List Int} {g:List Bool} (M:g.length=nx.length) (K:∀a∈i,H1 nx.length a=true) (N:∀c,A7 g c=true↔c∈i) (J:i.Nodup) (u:∀c,A7 g c=false->A7 waits c=false)
  (y:ai6 (wAt ins b) goes=true->A7 g b=true) (A:T+i.length<=nx.length+aJ8 most (ins.set b.toNat (orB (wAt ins b) goes))) (x:nx.length<=T+i.length) :
  SJ nx gen kill most a goes (k+1) (ins.set b.toNat (orB (wAt ins b) goes)) i g T:=by
 have s:(wAt ins b).length=goes.length:=by rw[B];exact h.rlen _ (dO4 (ak9 h.ilen w))
 have z:b∈C9 nx a:=dO4 hb;have m:∀c f,H1 nx.length c=true->al7 (ins.set b.toNat (orB (wAt ins b) goes)) c f=if c=b then(al7 ins b f||Q8 goes f)else al7 ins c f:=by
  intro c f l;unfold al7;rw[df8 h.ilen w l];by_cases e:c=b
  ·rw[if_pos e,if_pos e,aB7 s]
  ·rw[if_neg e,if_neg e]
 have v:∀c f,H1 nx.length c=true->al7 ins c f=true->al7 (ins.set b.toNat (orB (wAt ins b) goes)) c f=true:=by
  intro c f l o;rw[m c f l];split
  ·rename_i e;subst e;rw[o];rfl
  ·exact o
 have E:∀c,H1 nx.length c=true->A7 g c=false->∀f,al7 (ins.set b.toNat (orB (wAt ins b) goes)) c f=al7 ins c f:=by
  intro c l t f;rw[m c f l];split
  ·rename_i e;subst e;have hm:ai6 (wAt ins c) goes=false:=by
    cases e:ai6 (wAt ins c) goes
    ·rfl
    ·rw[y e]at t;cases t
   have:=dc9 s hm f;rw[aB7 s]at this;exact this
  ·rfl
 have D:∀c d,d∈C9 nx c->H1 nx.length c=true:=by
  intro c d n;cases e:H1 nx.length c
  ·rw[aY0 e]at n;cases n
  ·rfl
 have j:∀c,H1 nx.length c=true->A7 g c=false->∀f,bQ5 gen kill (ins.set b.toNat (orB (wAt ins b) goes)) c f↔bQ5 gen kill ins c f:=by
  intro c l t f;unfold bQ5;rw[E c l t f]
 refine⟨⟨by simp[h.ilen],λr R=>?_,M,K,N,J,λc f l o=>?_,λc f l o=>?_⟩,λc l F t d n f Q=>?_,λt f=>?_,λd n f O=>?_,A,x⟩
 ·rcases dU4 R with p|p
  ·exact h.rlen r p
  ·rw[p,bN1 s,s,B]
 ·rw[m c f l]at o;split at o
  ·rename_i e;subst e;rcases Bool.or_eq_true_iff.1 o with p|p
   ·exact h.sound _ f l p
   ·exact(C f p).2 _ z
  ·exact h.sound c f l o
 ·rw[m c f l]at o;split at o
  ·rename_i e;subst e;rcases Bool.or_eq_true_iff.1 o with p|p
   ·exact h.low _ f l p
   ·exact(C f p).1
  ·exact h.low c f l o
 ·have I:=(j c l t f).1 Q;have G:=h.closed c l F (u c t) d n f I;have H:H1 nx.length d=true:=(q.row c).2 d n;exact v d f H G
 ·have P:H1 nx.length a=true:=D a b z;rw[j a P t f];exact h.mine (u a t) f
 ·have L:(C9 nx a).take (k+1)=(C9 nx a).take k++[b]:=by
   rw[dZ0,hb];rfl
  rw[L,dN7,dP1]at n;rcases n with n|n
  ·exact v d f ((q.row a).2 d (dU2 n)) (h.done d n f O)
  ·subst n;rw[m d f w,if_pos rfl,O,dY5]
def SJ.old{b:Int}(d:E6 nx.length nx)(h:SJ nx gen kill most a goes k ins todo waits T)(g:goes.length=most / 64+1)(i:∀f,Q8 goes f=true->f<most/\∀b∈C9 nx a,ax1 nx gen kill b f)(hb:(C9 nx a)[k]?=some b)(c:H1 nx.length b=true)
  (e:ai6 (wAt ins b) goes=false\/A7 waits b=true):SJ nx gen kill most a goes (k+1) (ins.set b.toNat (orB (wAt ins b) goes)) todo waits T:=by
 have j:(wAt ins b).length=goes.length:=by rw[g];exact h.rlen _ (dO4 (ak9 h.ilen c))
 have n:=aX4 most ins b.toNat (wAt ins b) (orB (wAt ins b) goes) (ak9 h.ilen c);have B5:bz6 most (wAt ins b)<=bz6 most (orB (wAt ins b) goes):=List.countP_mono_left λx _ m=>by rw[aB7 j,m];rfl
 refine h.core d g i hb c h.wlen h.ok h.wt h.nodup (λ_ l=>l) (λhm=>?_) (by have:=h.few;omega) h.many;rcases e with e|e
 ·rw[hm]at e;cases e
 ·exact e
def SJ.new{b:Int}(i:E6 nx.length nx)(h:SJ nx gen kill most a goes k ins todo waits T)(j:goes.length=most / 64+1)(l:∀f,Q8 goes f=true->f<most/\∀b∈C9 nx a,ax1 nx gen kill b f)(hb:(C9 nx a)[k]?=some b)(d:H1 nx.length b=true)
  (hm:ai6 (wAt ins b) goes=true) (m:A7 waits b=false):SJ nx gen kill most a goes (k+1) (ins.set b.toNat (orB (wAt ins b) goes)) (todo++[b]) (waits.set b.toNat true) T:=by
 have o:(wAt ins b).length=goes.length:=by rw[j];exact h.rlen _ (dO4 (ak9 h.ilen d))
 have v:=aX4 most ins b.toNat (wAt ins b) (orB (wAt ins b) goes) (ak9 h.ilen d);have t:=bp7 (most:=most) o (λf r=>(l f r).1) hm;have p:∀c,A7 (waits.set b.toNat true) c=if c=b then true else A7 waits c:=λc=>M6 (by rw[h.wlen];exact d);have n:b∉todo:=λs=>by rw[(h.wt b).2 s]at m;cases m
 refine h.core i j l hb d (by simp[h.wlen]) (λc g=>?_) (λc=>?_) ?_ (λc g=>?_) (λ_=>by rw[p,if_pos rfl]) ?_ ?_
 ·rcases dN7.1 g with g|g
  ·exact h.ok c g
  ·simp at g;subst g;exact d
 ·rw[p];by_cases e:c=b
  ·subst e;simp
  ·rw[if_neg e,h.wt];simp[e]
 ·refine dR0.2 ⟨h.nodup,by simp,?_⟩;intro x u y q e;simp at q;subst q;subst e;exact n u
 ·rw[p]at g;split at g
  ·cases g
  ·exact g
 ·have:=h.few;simp only[dM7,dP4,dT9];omega
 ·have:=h.many;simp only[dM7,dP4,dT9];omega
def SJ.pot{b:Int}(h:SJ nx gen kill most a goes k ins todo waits T)(e:goes.length=most / 64+1)(g:∀f,Q8 goes f=true->f<most/\∀b∈C9 nx a,ax1 nx gen kill b f)(c:H1 nx.length b=true):
  aJ8 most ins<=aJ8 most (ins.set b.toNat (orB (wAt ins b) goes))/\(ai6 (wAt ins b) goes=true->aJ8 most ins+1<=aJ8 most (ins.set b.toNat (orB (wAt ins b) goes))):=by
 have d:(wAt ins b).length=goes.length:=by rw[e];exact h.rlen _ (dO4 (ak9 h.ilen c))
 have m:=aX4 most ins b.toNat (wAt ins b) (orB (wAt ins b) goes) (ak9 h.ilen c);have B5:bz6 most (wAt ins b)<=bz6 most (orB (wAt ins b) goes):=List.countP_mono_left λx _ l=>by rw[aB7 d,l];rfl
 refine⟨by omega,λhm=>?_⟩;have j:=bp7 (most:=most) d (λf i=>(g f i).1) hm;omega
def SJ.fin(h:SJ nx gen kill most a goes k ins todo waits T)(l:k=(C9 nx a).length):SI nx gen kill most ins todo waits T:=by
 refine⟨h.toSB,λc g b=>?_,h.few,h.many⟩;by_cases e:c=a
 ·subst e;intro d i f j;refine h.done d ?_ f ((h.mine b f).2 j);rw[l,dN8];exact i
 ·exact h.closed c g e b
def SI.fin(k:E6 nx.length nx)(h:SI nx gen kill most ins [] waits T):(∀b f,H1 nx.length b=true->(al7 ins b f=true↔ax1 nx gen kill b f))/\nx.length<=T/\T<=nx.length+nx.length*most:=by
 have n:∀a,A7 waits a=false:=λa=>by
  cases e:A7 waits a
  ·rfl
  ·have:=(h.wt a).1 e;cases this
 have g:∀c d,d∈C9 nx c->H1 nx.length c=true:=by
  intro c d m;cases e:H1 nx.length c
  ·rw[aY0 e]at m;cases m
  ·rfl
 refine⟨λb f l=>⟨h.sound b f l,λp=>?_⟩,by simpa using h.many,?_⟩
 ·clear l
  induction p with
  | gen i j=>exact h.closed _ (g _ _ i) (n _) _ i _ (.inl j)
  | step i _ o q=>exact h.closed _ (g _ _ i) (n _) _ i _ (.inr ⟨q,o⟩)
 ·have i:=h.few;have j:=aX3 most ins;rw[h.ilen]at j;simp only[dT9]at i;omega
def dh9(n most:Nat)(ins:List (List W))(todo:List Int):Nat:=(n*most-aJ8 most ins)+todo.length
end
def bj9{nx:List (List Int)}{a b:Int}(h:b∈C9 nx a):0<=a/\a<nx.length:=by
 unfold C9 at h;split at h
 ·next c=>exact c
 ·simp at h
def cy0{nx s y:List (List Int)}{g:List Nat}(v:∀(a:Int) (f:Nat),(f:Int)∈C9 s a↔∃A:Nat,g[f]?=some A/\a=(A:Int))(w:∀(a:Int) (f:Nat),f<g.length->((f:Int)∈C9 y a↔∃A∈g,a=(A:Int)))
  {f A:Nat} (p:g[f]?=some A) (c:Int):ax1 nx s y c f↔∃d∈C9 nx (A:Int),Y5 (av6 nx λq=>g.contains q) d c:=by
 have k:f<g.length:=(dM9.1 p).1;constructor
 ·intro h;generalize u:f=F at h
  induction h with
  | @gen a b B m l=>
   subst u;obtain⟨z,t,rfl⟩:=(v _ _).1 l;rw[p]at t;obtain rfl:=dO3 t;exact⟨b,m,.refl⟩
  | @step a b B m i e r=>
   subst u;obtain⟨d,o,n⟩:=r rfl;refine⟨d,o,.step n ?_⟩;have D:=bj9 m;rw[aq3,if_neg]
   ·exact m
   ·intro j;rw[dO5]at j;exact e ((w a f k).2 ⟨a.toNat,j,by omega⟩)
 ·rintro⟨d,o,n⟩
  induction n with
  | refl=>exact .gen o ((v _ _).2 ⟨A,p,rfl⟩)
  | @step b c n i r=>
   rw[aq3]at i;split at i
   ·simp at i
   ·next x=>
    refine .step i r λe=>?_;obtain⟨z,C,rfl⟩:=(w b f k).1 e;rw[dP0]at x;exact x (dO5.2 C)
def ce7{nx:List (List Int)}(a:OkR nx){b:List Nat}{A c:Nat}:bb9 nx b A c=true↔∃d∈C9 nx (A:Int),Y5 (av6 nx λq=>b.contains q) d (c:Int):=by
 unfold bb9;rw[dZ8];constructor
 ·rintro⟨d,e,h⟩;exact⟨d,e,(bN6 (ay8 a _) (by rw[aa8];exact a _ _ e)).1 h⟩
 ·rintro⟨d,e,h⟩;exact⟨d,e,(bN6 (ay8 a _) (by rw[aa8];exact a _ _ e)).2 h⟩
def af6(a:List Nat)(g:Nat->List Int)(n:Nat):Nat->List (List Int)
 | 0=>List.replicate n []
 | k+1=>(af6 a g n k).set (a.getD k 0) (g k)
def W7(a:List Nat)(g:Nat->List Int)(n:Nat):∀k,(af6 a g n k).length=n
 | 0=>by simp[af6]
 | k+1=>by rw[af6,dU0,W7 a g n k]
def az2{b:List Nat}{g:Nat->List Int}{n:Nat}(m:b.Nodup)(d:∀a∈b,a<n):∀k,k<=b.length->∀(a:Nat) (r:List Int),(af6 b g n k)[a]?=some r->(∃f,f<k/\b[f]?=some a/\r=g f)\/((∀f,f<k->b[f]?≠some a)/\r=[])
 | 0,_,a,r,h=>by
  rw[af6]at h;exact .inr ⟨λf p=>by omega,dT2 (dO4 h)⟩
 | k+1,hk,a,r,h=>by
  have c:k<b.length:=by omega
  have l:b.getD k 0=b[k]:=by rw[List.getD,dM4 c];rfl
  rw[af6,l]at h;by_cases ha:b[k]=a
  ·subst ha;rw[dT3 (by rw[W7];exact d _ (dN5 c))]at h;exact .inl ⟨k,by omega,dM4 c,(dO3 h).symm⟩
  ·rw[dU7 ha]at h;rcases az2 m d k (by omega) a r h with⟨f,p,i,j⟩|⟨i,j⟩
   ·exact .inl ⟨f,by omega,i,j⟩
   ·refine .inr ⟨λf p=>?_,j⟩;rcases dQ7 f k with o|o
    ·exact i f o
    ·obtain rfl:f=k:=by omega
     rw[dM4 c];exact λe=>ha (dO3 e)
def bG5{b:List Nat}{g:Nat->List Int}{n:Nat}(e:b.Nodup)(d:∀a∈b,a<n)(a x:Int):x∈C9 (af6 b g n b.length) a↔∃(f A:Nat),b[f]?=some A/\a=(A:Int)/\x∈g f:=by
 constructor
 ·intro h;obtain⟨t,u⟩:=bj9 h;unfold C9 at h;rw[if_pos ⟨t,u⟩]at h;have c:(af6 b g n b.length)[a.toNat]?=some ((af6 b g n b.length).getD a.toNat []):=by
   rw[List.getD,dM4 (by omega)];rfl
  rcases az2 e d _ (dO0 _) _ _ c with⟨f,k,i,j⟩|⟨_,j⟩
  ·rw[j]at h;exact⟨f,a.toNat,i,by omega,h⟩
  ·rw[j]at h;simp at h
 ·rintro⟨f,A,k,rfl,y⟩;have v:=d A (dO4 k);have m:f<b.length:=(dM9.1 k).1;unfold C9;rw[W7,if_pos ⟨by omega,by omega⟩,dP0];have c:(af6 b g n b.length)[A]?=some ((af6 b g n b.length).getD A []):=by
   rw[List.getD,dM4 (by rw[W7];exact v)];rfl
  rcases az2 e d _ (dO0 _) _ _ c with⟨l,w,i,j⟩|⟨i,_⟩
  ·have:f=l:=by
    obtain⟨o,p⟩:=dM9.1 k;obtain⟨q,r⟩:=dM9.1 i;have s:=dT5.1 e;rcases Nat.lt_trichotomy f l with h|h|h
    ·exact absurd (p.trans r.symm) (s f l o q h)
    ·exact h
    ·exact absurd (r.trans p.symm) (s l f q o h)
   subst this;rw[j];exact y
  ·exact absurd k (i f m)
structure GM (h:Hp) (w0 w:World) (r:Nat) (kv:List (A6×Value)) (G:A6->List Int):Prop where
 map:aO2 w r kv
 ge:w0.heap.size<=r
 ext:o7 w0 w
 row:∀n v,N1 kv n=some v->A8 h w 3 v (G n)/\G n≠[]
 no:∀n,N1 kv n=none->G n=[]
 apart:∀n m v u,n≠m->N1 kv n=some v->N1 kv m=some u->∀b,A3 v b->¬A3 u b
 off:∀n v,N1 kv n=some v->∀b,A3 v b->b≠r/\w0.heap.size<=b
def GM.N(r:Nat)(kv:List (A6×Value))(b:Nat):Prop:=b=r\/∃n v,N1 kv n=some v/\A3 v b
section
variable {h:Hp} {w0 w:World} {r:Nat} {kv:List (A6×Value)} {G:A6->List Int}
def GM.more(s:GM h w0 w r kv G){b:World}(a:o7 w b):GM h w0 b r kv G:=
 ⟨s.map.mod a id,s.ge,s.ext.trans a,λn v e=>⟨(s.row n v e).1.ext a,(s.row n v e).2⟩,s.no,s.apart,s.off⟩
def GM.lt(s:GM h w0 w r kv G){b:Nat}(hb:GM.N r kv b):b<w.heap.size:=by
 rcases hb with rfl|⟨n,v,e,hb⟩
 ·exact s.map.lt
 ·exact(s.row n v e).1.lt hb
def GM.nge(s:GM h w0 w r kv G){b:Nat}(hb:GM.N r kv b):w0.heap.size<=b:=by
 rcases hb with rfl|⟨n,v,e,hb⟩
 ·exact s.ge
 ·exact(s.off n v e b hb).2
def GM.push(s:GM h w0 w r kv G)(M:B5 h (i4 w))(n:A6)(a:Int)(V:(G n).length<=100000000){P:Program}(U:P=prog){e:TypeId}:
  (Instr.lookup 253 (.map (some r)) (p6 n) false).run prog w = .ok ((N1 kv n).getD (.slice none 0 0)) w /\
  (Instr.buildSlice 24 1 #[(0,.int .i64 a)]).run prog w = .ok (.slice (some ⟨w.heap.size,0,none⟩) 1 1) (w.alloc (.cells #[.int .i64 a] 3)) /\
  ∃p D l,(Builtin.append_ #[24,24] e #[(N1 kv n).getD (.slice none 0 0),.slice (some ⟨w.heap.size,0,none⟩) 1 1]).run prog (w.alloc (.cells #[.int .i64 a] 3)) = .ok p D /\
   (Instr.mapUpdate 253 (.map (some r)) (p6 n) p).run prog D = .ok () l/\GM h w0 l r (aK0 kv n p) (λm=>if m=n then G n++[a]else G m)/\o9 (GM.N r kv) w l/\(∀b,GM.N r (aK0 kv n p) b->GM.N r kv b\/w.heap.size<=b):=by
 have L:prog.underlying 253=some (.map 9 24):=Tryz.underlying253;have K:prog.underlying 9=some .string:=Tryz.underlying9;have F:=s.map.lookup (P:=prog) L K ai0 n;have I:A8 h w 3 ((N1 kv n).getD (.slice none 0 0)) (G n):=by
  cases he:N1 kv n with
  | none=>rw[s.no n he];exact A8.nil _ _ _
  | some v=>exact(s.row n v he).1
 have g:∀b,A3 ((N1 kv n).getD (.slice none 0 0)) b->∃v,N1 kv n=some v/\A3 v b:=λb c=>by
  cases he:N1 kv n with
  | none=>rw[he]at c;exact absurd c D1
  | some v=>rw[he]at c;exact⟨v,rfl,c⟩
 obtain⟨N,p,D,O,Q,B,J⟩:=Go.Proofs.YtfadjbljajfkfaaGreat.push (P:=prog) (t:=24) (e:=e) U2 rfl I (x:=.int .i64 a) (y:=a) rfl (by omega) (by omega) M;have H:=s.map.mod B λc=>by
  obtain⟨v,e,c⟩:=g r c;exact(s.off n v e r c).1 rfl
 obtain⟨l,R,S,C⟩:=H.update (P:=prog) L K n p;refine⟨F,N,p,D,l,O,R,?_,?_,?_⟩
 ·have A:∀b,A3 p b->b≠r/\w0.heap.size<=b:=λb c=>by
   rcases J b c with d|d
   ·obtain⟨v,e,d⟩:=g b d;exact s.off n v e b d
   ·have:=s.map.lt;have:=s.ext.size;exact⟨by omega,by omega⟩
  have z:∀m u,m≠n->N1 kv m=some u->∀b,A3 u b->¬A3 p b:=λm u j e b c f=>by
   rcases J b f with d|d
   ·obtain⟨v,o,d⟩:=g b d;exact s.apart m n u v j e o b c d
   ·have:=(s.row m u e).1.lt c;omega
  refine⟨S,s.ge,o9.ext_of (o9.ext_of s.ext B λb c=>?_) C λb c=>by subst c;exact s.ge,λm v e=>?_,λm e=>?_,λm k v u j q o b c f=>?_,λm v e b c=>?_⟩
  ·obtain⟨v,e,c⟩:=g b c;exact(s.off n v e b c).2
  ·rw[aq0]at e;split at e
   ·next i=>
    obtain rfl:=dO3 e;subst i;simp only[dS6];exact⟨Q.mod C λb c=>(A b c).1,by simp⟩
   ·next i=>
    simp only[i,dU1];refine⟨((s.row m v e).1.mod B λb c f=>?_).mod C λb c=>(s.off m v e b c).1,(s.row m v e).2⟩;obtain⟨T,o,f⟩:=g b f;exact s.apart m n v T i e o b c f
  ·rw[aq0]at e;split at e
   ·cases e
   ·next i=>simp only[i,dU1];exact s.no m e
  ·rw[aq0]at q o;split at q
   ·next d=>
    obtain rfl:=dO3 q;rw[if_neg (λE=>j (d.trans E.symm))]at o;exact z k u (λE=>j (d.trans E.symm)) o b f c
   ·next d=>
    split at o
    ·obtain rfl:=dO3 o;exact z m v d q b c f
    ·exact s.apart m k v u j q o b c f
  ·rw[aq0]at e;split at e
   ·obtain rfl:=dO3 e;exact A b c
   ·exact s.off m v e b c
 ·exact o9.trans (B.weaken λb _ c=>by
   obtain⟨v,e,c⟩:=g b c;exact .inr ⟨n,v,e,c⟩) (C.weaken λb _ c=>.inl c)
 ·intro b c;rcases c with d|⟨m,v,e,c⟩
  ·exact .inl (.inl d)
  ·rw[aq0]at e;split at e
   ·obtain rfl:=dO3 e;rcases J b c with d|d
    ·obtain⟨v,e,d⟩:=g b d;exact .inl (.inr ⟨n,v,e,d⟩)
    ·exact .inr d
   ·exact .inl (.inr ⟨m,v,e,c⟩)
end
def aR0{p:Pg}{i:Nat}(f:D4 p)(hw:C5 p<=1000000)(d:i<p.procs.length){k:Nat}(s:(k:Int)<(D5 (b9 p) i).n):((d9 p).gives (i:Int) (k:Int)).Pairwise (λa b=>ltS a b=true)/\((d9 p).gives (i:Int) (k:Int)).length<=100:=by
 obtain⟨x,m⟩:=J5 f.may hw i d;have c:=P2 m;generalize x+A9 p.procs[i].body=y at m c;unfold Bk.gives;rw[L8 d,Q5 d];split
 ·refine⟨S6 _,dN1 (av5 _) ?_⟩;have l:=aK2 (aL9 f hw) (i:Int);have r:=R1 f.may d;rw[dM7,dN4];have e:G2 (d9 p).ins (i:Int)=G2 (ab7 p) (i:Int):=rfl;rw[e];omega
 ·next o=>
  split
  ·exact⟨List.Pairwise.nil,by simp⟩
  ·next l=>
   have n:¬(k:Int)=(D5 (b9 p) i).n-1:=λh=>l (.inl h);obtain⟨q,j,g,_⟩:=aj3 c (k:=k) (by omega) (by omega);rw[j];exact((bB5 f hw).row g).2
def cL2(p:Pg)(i:Nat)(n:A6):List Int:=((d9 p).givers (i:Int) n).map λ(a:Nat)=>(a:Int)
def cz9(a:Addr)(p:Pg)(i:Nat)(w:World)(ha:At (i4 w) a (d9 p))(hr:D4 p)(hw:C5 p<=1000000)(S:i<p.procs.length):
  p7 prog 186 #[.pointer (some a),.int .i64 i] w λu T=>(∃r O c,u = .tuple #[.map (some r),.int .i64 c]/\GM (i4 w) w T r O (cL2 p i)):=by
 refine p9 [.pointer (some a),.int .i64 i] func186 rfl ?_;obtain⟨x,pt⟩:=J5 hr.may hw i S;have af:=P2 pt;generalize x+A9 p.procs[i].body=y at pt af;have aS:=J1 hr.may;have hn:=af.n;have aW:=pt.ok.len;have aV:=pt.ok.le;have K:=λk (D:((k:Nat):Int)<(D5 (b9 p) i).n)=>aR0 hr hw S D;have j:=λ(k:Nat) (wa:World) (hh:B5 (i4 w) (i4 wa)) (D:(k:Int)<(D5 (b9 p) i).n)=>cw1 (i4 w) a p i k wa ha hh hr hw S D;have C:∀n,cL2 p i n=((List.range (D5 (b9 p) i).n.toNat).filter λ(a:Nat)=>((d9 p).gives (i:Int) (a:Int)).contains n).map λ(a:Nat)=>(a:Int):=λn=>by
  unfold cL2 Bk.givers;rw[L8 S]
 obtain⟨sh,vw,_,_,_,_,has,ae,_,_,_,_,aN,_⟩:=ha.book rfl;obtain⟨aw,aC,W⟩:=am9 (hv:=ae) (k:=i) (p:=⟨D5 (b9 p) i⟩) (by show((I0 p).map λw=>(⟨w⟩:Ptr Wy))[i]?=_;rw[dP9,S7 S];rfl);simp only at W;have Y:=ae.inS (k:=i) (by show i<((I0 p).map λw=>(⟨w⟩:Ptr Wy)).length;unfold I0;simpa using S);obtain⟨_,_,_,_,_,_,ak,_⟩:=W.wy;obtain⟨ab,aa,A⟩:=aO2.new (P:=prog) w 253;generalize a5:w.alloc (.map #[] 0)=w1 at ab aa A;have aq:GM (i4 w) w w1 w.heap.size [] (λ_=>[]):=⟨aa,dO0 _,A,λn v e=>by simp[N1]at e,λ_ _=>rfl,λn m v u _ e=>by simp[N1]at e,λn v e=>by simp[N1]at e⟩;generalize ar:(λk:Nat=>(d9 p).gives (i:Int) (k:Int))=g at *;have au:∀k:Nat,(d9 p).gives (i:Int) (k:Int)=g k:=λk=>by rw[<-ar]
 simp only[au]at K j C;generalize(D5 (b9 p) i).n=wn at hn K j C ak;obtain⟨M,rfl⟩:∃M:Nat,wn=(M:Int):=⟨wn.toNat,by omega⟩;rw[dP0]at C;have lb:=aN w1 (b7 A);have aG:=H7 (P:=prog) (t:=114) aC (b7 A) an1;have lw:=ak w1 (b7 A);simp only[m8,o6,y0,simprocAttr,aC8,ab,lb,Y,aG,lw];have av:∀k,(λn=>((List.range k).filter λ(a:Nat)=>(g a).contains n).map (λ(a:Nat)=>(a:Int))++if((g k).take (g k).length).contains n then[(k:Int)]else[])=λn=>((List.range (k+1)).filter λ(a:Nat)=>(g a).contains n).map λ(a:Nat)=>(a:Int):=λk=>by
  funext n
  rw[dN8,dW7,dS4,dP6]
  congr 1
  rw[List.filter_cons,List.filter_nil];cases(g k).contains n<;>rfl
 refine n9 [0,1,4,19] (σ:=Nat×List (A6×Value)) (λs f T=>f 20 = .int .i64 s.1/\s.1<=M/\(∃c:Int,f 5 = .int .i64 c)/\GM (i4 w) w T w.heap.size s.2 (λn=>((List.range s.1).filter λ(a:Nat)=>(g a).contains n).map λ(a:Nat)=>(a:Int))) (λs=>M-s.1) (0,[]) ?_ ?_
 ·simp only[p8,simprocAttr];exact⟨by trivial,dN6 _,⟨0,by trivial⟩,aq⟩
 rintro⟨k,O⟩ f w5 D ⟨B,aE,⟨c,h5⟩,Q⟩;simp only at B aE Q;simp only[dM6,p8,simprocAttr]at D;obtain⟨e0,e1,e4,U,_⟩:=D;simp only[m8,o6,simprocAttr,B,U];refine n7 (λhc=>?_) (λhc=>?_);rotate_left
 ·have J:k=M:=by simp at hc;omega
  subst J;simp only[m8,simprocAttr,e4,h5];refine T3 results186 ?_;simp only[p8,simprocAttr];refine⟨w.heap.size,O,c,by trivial,?_⟩;have:cL2 p i=λn=>((List.range k).filter λ(a:Nat)=>(g a).contains n).map λ(a:Nat)=>(a:Int):=by funext n;exact C n
  rw[this];exact Q
 have a2:k<M:=by simpa using hc
 obtain⟨o,X⟩:=K k (by omega);have E:=av k;simp only[m8,simprocAttr,B,e0,e1];refine y5 (j k w5 (b7 Q.ext) (by omega)) ?_;rintro u w6 ⟨hu,ag⟩;have s6:=Q.more ag;have z:R (B6 w6 (GM.N w.heap.size O)) u (g k):=A4.mono (cq7 (b7 Q.ext) ag λb H=>⟨Q.lt H,aV5 (Q.nge H)⟩) hu;have ac:=as7 o;generalize g k=d at z o X E ac;have az:=z.isS;have aI:=z.vlen;simp only[m8,o6,simprocAttr,az,aI];refine n9 [0,1,4,6,19,20,26,27] (σ:=Nat×List (A6×Value)) (λs f T=>f 28 = .int .i64 s.1/\s.1<=d.length/\(∃c:Int,f 5 = .int .i64 c)/\GM (i4 w) w T w.heap.size s.2 (λn=>((List.range k).filter λ(a:Nat)=>(g a).contains n).map (λ(a:Nat)=>(a:Int))++if(d.take s.1).contains n then[(k:Int)]else[])/\o9 (GM.N w.heap.size O) w6 T/\(∀b,GM.N w.heap.size s.2 b->GM.N w.heap.size O b\/w6.heap.size<=b)) (λs=>d.length-s.1) (0,O) ?_ ?_
 ·simp only[p8,simprocAttr];refine⟨by trivial,dN6 _,⟨c,h5⟩,?_,o9.refl _,λb H=>.inl H⟩;simp only[dX3,List.contains_nil,dS7,dU1,dP8];exact s6
 rintro⟨q,aj⟩ f7 w7 D ⟨F,aJ,⟨c7,V⟩,s7,L,G⟩;simp only at F aJ s7 G;simp only[dM6,p8,simprocAttr]at D;obtain⟨j0,j1,j4,j6,aK,ah,aL,aM,_⟩:=D;rw[e0]at j0;rw[e1]at j1;rw[e4]at j4;rw[U]at aK;rw[B]at ah;simp only[m8,o6,simprocAttr,F,aM];refine n7 (λI=>?_) (λI=>?_);rotate_left
 ·have J:q=d.length:=by simp at I;omega
  subst J;rw[E]at s7;simp only[m8,o6,simprocAttr,ah];exact⟨(k+1,aj),by omega,dO2 _ (B0 k (by omega)),by omega,⟨c7,V⟩,s7⟩
 have l:q<d.length:=by simpa using I
 have aD:=z.inS l;have Z:=ldS z (E1 L) l;have N:=dN3 l;have ad:(d.take q).contains d[q]=false:=by
  cases h:(d.take q).contains d[q]
  ·rfl
  ·exfalso
   have h1:=dO5.1 h;have h2:(d.take (q+1)).Nodup:=ac.sublist (List.take_sublist _ _);rw[N,dR0]at h2;exact h2.2.2 _ h1 _ (by simp) rfl
 generalize d[q]=n at Z N ad;have aF:(((List.range k).filter λ(a:Nat)=>(g a).contains n).map (λ(a:Nat)=>(a:Int))++if(d.take q).contains n then[(k:Int)]else[]).length<=1000:=by
  rw[dM7,dN4];have h1:=dP3 (λ(a:Nat)=>(g a).contains n) (List.range k);rw[dR3]at h1;have h2:(if(d.take q).contains n then[(k:Int)]else[]).length<=1:=by split<;>simp
  omega
 obtain⟨q1,q2,v',w8,w9,q3,q4,s9,aH,ay⟩:=s7.push (b7 s7.ext) n (k:Int) (by omega) rfl (e:=24);have ax:(λm=>if m=n then(((List.range k).filter λ(a:Nat)=>(g a).contains n).map (λ(a:Nat)=>(a:Int))++if(d.take q).contains n then[(k:Int)]else[])++[(k:Int)]else((List.range k).filter λ(a:Nat)=>(g a).contains m).map (λ(a:Nat)=>(a:Int))++if(d.take q).contains m then[(k:Int)]else[])=λm=>((List.range k).filter λ(a:Nat)=>(g a).contains m).map (λ(a:Nat)=>(a:Int))++if(d.take (q+1)).contains m then[(k:Int)]else[]:=by
  funext m
  have aB:(d.take (q+1)).contains m=((d.take q).contains m||decide (m=n)):=by
   rw[N,dY0,dX4,dO5,dO5,dN7,dP1,decide_eq_true_iff]
  rw[aB];split
  ·next h=>subst h;rw[ad];simp
  ·next h=>simp[h]
 rw[ax]at s9;simp only[m8,o6,y0,simprocAttr,F,V,j4,j6,aL,aD,Z,q1,q2,q3,aC9,q4];exact⟨(q+1,aK0 aj n v'),by omega,dO2 _ (B0 q (by omega)),by omega,⟨_,by trivial⟩,s9,L.chain aH (λb H h=>(G b h).resolve_right (by omega)),λb H=>(ay b H).elim (G b) λh=>.inr (dN1 L.size h)⟩
def cl3{p:Pg}{i:Nat}(g:D4 p)(hw:C5 p<=1000000)(j:i<p.procs.length){k:Nat}(r:(k:Int)<(D5 (b9 p) i).n):((d9 p).takes (i:Int) (k:Int)).Pairwise (λa b=>ltS a b=true)/\((d9 p).takes (i:Int) (k:Int)).length<=2000000:=by
 obtain⟨x,l⟩:=J5 g.may hw i j;have c:=P2 l;generalize x+A9 p.procs[i].body=y at l c;unfold Bk.takes;rw[L8 j];split
 ·refine⟨S6 _,dN1 (av5 _) ?_⟩;have o:=aK2 (ay9 g.may) (i:Int);rw[dM7,dP7];have e:G2 (d9 p).outs (i:Int)=G2 (J3 p) (i:Int):=rfl;rw[e];omega
 ·next o=>
  split
  ·exact⟨List.Pairwise.nil,by simp⟩
  ·next m=>
   have n:¬(k:Int)=0:=λh=>m (.inl h);obtain⟨q,f,d,_⟩:=aj3 c (k:=k) (by omega) (by omega);rw[f];exact((bB6 g hw).row d).2
def an6(b:Bk)(i:Int)(n:A6)(c:Nat):List Nat:=(List.range (b.givers i n).length).filter λf=>bb9 (b.nx i) (b.givers i n) ((b.givers i n).getD f 0) c
def ab5(b:Bk)(i:Int)(n:A6)(c:Nat)(f:Nat):List Fw:=if(b.takes i c).contains n then[⟨(b.way i).place (((b.givers i n).getD f 0:Nat):Int),(b.way i).place c,n⟩]else[]
def aE4(b:Bk)(i:Int)(n:A6)(c:Nat):List Fw:=(an6 b i n c).flatMap (ab5 b i n c)
def an5(b:Bk)(i:Int)(n:A6):List Fw:=(List.range (b.way i).n.toNat).flatMap (aE4 b i n)
def aV2(b:Bk)(i:Int)(n:A6):(b.givers i n).Nodup:=by
 unfold Bk.givers;exact List.nodup_range.filter _
def aa2{b:Bk}{i:Int}{n:A6}{x:Fw}:x∈an5 b i n↔∃a c:Nat,a∈b.givers i n/\c<(b.way i).n.toNat/\(b.takes i c).contains n=true/\bb9 (b.nx i) (b.givers i n) a c=true/\x=⟨(b.way i).place a,(b.way i).place c,n⟩:=by
 unfold an5 aE4 ab5 an6;simp only[dQ0,dQ6,dP2];constructor
 ·rintro⟨c,h,f,⟨e,d⟩,g⟩;split at g
  ·next j=>
   rw[dP1]at g;refine⟨(b.givers i n).getD f 0,c,?_,h,j,d,g⟩;rw[List.getD,dM4 e];exact dN5 e
  ·simp at g
 ·rintro⟨a,c,l,h,j,d,rfl⟩;obtain⟨f,e,rfl⟩:=dT0.1 l;have k:(b.givers i n).getD f 0=(b.givers i n)[f]:=by rw[List.getD,dM4 e];rfl
  exact⟨c,h,f,⟨e,by rw[k];exact d⟩,by rw[if_pos j,k];simp⟩
def aM3{b:Bk}{i:Int}{x:Fw}:x∈b.flow0 i↔∃n,x∈an5 b i n:=by
 unfold Bk.flow0;simp only[dQ0,dQ6,dO7,dP2,dO8,aa2];constructor
 ·rintro⟨a,e,n,h,c,⟨f,g,d⟩,rfl⟩;refine⟨n,a,c,?_,f,g,d,rfl⟩;unfold Bk.givers;rw[dP2,dQ6,dO5];exact⟨e,h⟩
 ·rintro⟨n,a,c,e,f,g,d,rfl⟩;unfold Bk.givers at e;rw[dP2,dQ6,dO5]at e;exact⟨a,e.1,n,e.2,c,⟨f,g,d⟩,rfl⟩
def as5{α β:Type}{f:α->List β}:∀{l:List α},l.Nodup->(∀a∈l,(f a).Nodup)->(∀a∈l,∀b∈l,∀x,x∈f a->x∈f b->a=b)->(l.flatMap f).Nodup
 | [],_,_,_=>by simp
 | a::l,hn,h1,h2=>by
  rw[dY6]at hn;rw[dW2,dR0];refine⟨h1 a (by simp),as5 hn.2 (λb d=>h1 b (by simp[d])) (λb d c h=>h2 b (by simp[d]) c (by simp[h])),λx i y j e=>?_⟩;subst e;obtain⟨b,d,g⟩:=dQ0.1 j;have:=h2 a (by simp) b (by simp[d]) x i g;subst this;exact hn.1 d
def bA8(w:Wy):Prop:=∀a c:Nat,a<w.n.toNat->c<w.n.toNat->w.place a=w.place c->a=c
def ci6{l:List Nat}(h:l.Nodup){f a:Nat}(d:f<l.length)(b:a<l.length)(e:l.getD f 0=l.getD a 0):f=a:=by
 have g:l.getD f 0=l[f]:=by rw[List.getD,dM4 d];rfl
 have i:l.getD a 0=l[a]:=by rw[List.getD,dM4 b];rfl
 rw[g,i]at e;have c:=dT5.1 h;rcases Nat.lt_trichotomy f a with h|h|h
 ·exact absurd e (c f a d b h)
 ·exact h
 ·exact absurd e.symm (c a f b d h)
def bD3{l:List Nat}{f:Nat}(a:f<l.length):l.getD f 0∈l:=by
 rw[List.getD,dM4 a];exact dN5 a
def af3(b:Bk)(i:Int)(n:A6):∀a∈b.givers i n,a<(b.way i).n.toNat:=λa c=>by
 unfold Bk.givers at c;exact dQ6.1 (dP2.1 c).1
def aC3{b:Bk}{i:Int}{n:A6}{c f:Nat}{x:Fw}(h:x∈ab5 b i n c f):x.src=(b.way i).place (((b.givers i n).getD f 0:Nat):Int)/\x.dst=(b.way i).place c:=by
 unfold ab5 at h;split at h
 ·rw[dP1]at h;subst h;exact⟨rfl,rfl⟩
 ·simp at h
def bT9{b:Bk}{i:Int}(m:bA8 (b.way i))(n:A6):(an5 b i n).Nodup:=by
 unfold an5;refine as5 List.nodup_range (λc k=>?_) λc k q h x d a=>?_
 ·unfold aE4;refine as5 (List.nodup_range.filter _) (λf l=>?_) λf l p j x d a=>?_
  ·unfold ab5;split<;>simp
  ·have o:=(aC3 d).1.symm.trans (aC3 a).1;have e:=dQ6.1 (dP2.1 l).1;have g:=dQ6.1 (dP2.1 j).1;exact ci6 (aV2 b i n) e g (m _ _ (af3 b i n _ (bD3 e)) (af3 b i n _ (bD3 g)) o)
 ·unfold aE4 at d a;obtain⟨f,_,d⟩:=dQ0.1 d;obtain⟨p,_,a⟩:=dQ0.1 a;exact m _ _ (dQ6.1 k) (dQ6.1 h) ((aC3 d).2.symm.trans (aC3 a).2)
def bT8{b:Bk}{i:Int}(k:bA8 (b.way i))(l:∀a:Nat,a<(b.way i).n.toNat->(b.gives i a).Nodup):(b.flow0 i).Nodup:=by
 unfold Bk.flow0;refine as5 List.nodup_range (λa g=>?_) λa g q h x f d=>?_
 ·refine as5 (l a (dQ6.1 g)) (λn m=>?_) λn m p o x f d=>?_
  ·rw[List.Nodup,List.pairwise_map];refine List.Pairwise.imp_of_mem (fun{c j} hc hc' hne e=>?_) (List.nodup_range.filter _);exact hne (k _ _ (dQ6.1 (dP2.1 hc).1) (dQ6.1 (dP2.1 hc').1) (dO2 Fw.dst e))
  ·obtain⟨c,_,rfl⟩:=dO7.1 f;obtain⟨j,_,e⟩:=dO7.1 d;exact(dO2 Fw.var e).symm
 ·obtain⟨n,_,f⟩:=dQ0.1 f;obtain⟨p,_,d⟩:=dQ0.1 d;obtain⟨c,_,rfl⟩:=dO7.1 f;obtain⟨j,_,e⟩:=dO7.1 d;exact(k _ _ (dQ6.1 h) (dQ6.1 g) (dO2 Fw.src e)).symm
def cg0{b:Bk}{i:Int}(k:bA8 (b.way i))(l:∀a:Nat,a<(b.way i).n.toNat->(b.gives i a).Nodup){c:List A6}(m:c.Nodup)(d:∀n,b.givers i n≠[]->n∈c):(c.flatMap (an5 b i)).Perm (b.flow0 i):=by
 have f:(c.flatMap (an5 b i)).Nodup:=as5 m (λn _=>bT9 k n) λn _ p _ x o g=>by
  obtain⟨_,_,_,_,_,_,rfl⟩:=aa2.1 o;obtain⟨_,_,_,_,_,_,e⟩:=aa2.1 g;exact dO2 Fw.var e
 rw[List.perm_ext_iff_of_nodup f (bT8 k l)];intro x;rw[aM3,dQ0];constructor
 ·rintro⟨n,_,h⟩;exact⟨n,h⟩
 ·rintro⟨n,h⟩;refine⟨n,d n λe=>?_,h⟩;obtain⟨a,_,j,_⟩:=aa2.1 h;rw[e]at j;simp at j
def cK9{b:Bk}{i:Int}(v:bA8 (b.way i))(u:∀a:Nat,a<(b.way i).n.toNat->(b.gives i a).Nodup)(f:∀a:Nat,a<(b.way i).n.toNat->plc ((b.way i).place a)){l:List Fw}(h:l.Perm (b.flow0 i)):Y0 bA1 l=b.flows i:=by
 have d:∀x∈b.flow0 i,plc x.src/\plc x.dst:=λx s=>by
  obtain⟨n,h⟩:=aM3.1 s;obtain⟨a,c,j,r,_,_,rfl⟩:=aa2.1 h;have e:a<(b.way i).n.toNat:=by
   unfold Bk.givers at j;exact dQ6.1 (dP2.1 j).1
  exact⟨f a e,f c r⟩
 have p:∀a b:Fw,bA1 a b=true\/bA1 b a=true:=λa b=>bR9.total a b;have g:∀a b c:Fw,bA1 a b=true->bA1 b c=true->bA1 a c=true:=λa b c k m=>dV2 (bR9.trans a b c (dM8 k) (dM8 m));unfold Bk.flows;refine aD7 (le:=bA1) ((F5 _ _).trans (h.trans (F5 _ _).symm)) (λa j t q k m=>?_) (ah8 (λa _ b _=>p a b) λa _ b _ c _=>g a b c) (ah8 (λa _ b _=>p a b) λa _ b _ c _=>g a b c);have e:=h.mem_iff.1 ((F5 _ _).mem_iff.1 j);have o:=h.mem_iff.1 ((F5 _ _).mem_iff.1 q);exact bU4 (d _ e) (d _ o) (bR9.eq0 k m)
def bU5{kv:List (A6×Value)}(hn:(kv.map (·.1)).Nodup){n:A6}{v:Value}(h:(n,v)∈kv):N1 kv n=some v:=by
 induction kv with
 | nil=>simp at h
 | cons p l b=>
  rw[dQ8,dY6]at hn;rcases dO6.1 h with rfl|h
  ·simp[N1]
  ·have a:p.1≠n:=λe=>hn.1 (by rw[e];exact dO7.2 ⟨_,h,rfl⟩);have:=b hn.2 h;simp only[N1]at this ⊢;simp[a,this]
def cL1{kv:List (A6×Value)}{n:A6}{v:Value}(h:N1 kv n=some v):(n,v)∈kv:=by
 unfold N1 at h;obtain⟨p,a,rfl⟩:=Option.map_eq_some_iff.1 h;have b:=List.find?_some a;have c:=dM8 b;subst c;exact List.mem_of_find?_eq_some a
def aL5{α β:Type}{f:α->List β}{B:Nat}:∀{l:List α},(∀a∈l,(f a).length<=B)->(l.flatMap f).length<=l.length*B
 | [],_=>by simp
 | a::l,h=>by
  rw[dW2,dM7,dP4,dY1,Nat.one_mul];have d:=h a (by simp);have e:=aL5 (l:=l) (f:=f) (B:=B) λb c=>h b (by simp[c]);omega
def cg3(b:Bk)(i:Int)(n:A6):(b.givers i n).length<=(b.way i).n.toNat:=by
 unfold Bk.givers;exact dN1 (dP3 _ _) (by simp)
def bD2(b:Bk)(i:Int)(n:A6)(c:Nat):(an6 b i n c).length<=(b.way i).n.toNat:=by
 unfold an6;refine dN1 (dP3 _ _) ?_;rw[dR3];exact cg3 b i n
def br1(b:Bk)(i:Int)(n:A6)(c f:Nat):(ab5 b i n c f).length<=1:=by
 unfold ab5;split<;>simp
def cf9(b:Bk)(i:Int)(n:A6)(c q:Nat):(((an6 b i n c).take q).flatMap (ab5 b i n c)).length<=(b.way i).n.toNat:=by
 have a:=aL5 (l:=(an6 b i n c).take q) (f:=ab5 b i n c) (B:=1) λf _=>br1 b i n c f;have d:=bD2 b i n c;have e:((an6 b i n c).take q).length<=(an6 b i n c).length:=by rw[dN9];omega
 omega
def cz3(b:Bk)(i:Int)(n:A6)(c:Nat):(aE4 b i n c).length<=(b.way i).n.toNat:=by
 have h:=cf9 b i n c (an6 b i n c).length;rw[dN8]at h;exact h
def br0(b:Bk)(i:Int)(n:A6)(c:Nat):((List.range c).flatMap (aE4 b i n)).length<=c*(b.way i).n.toNat:=by
 have a:=aL5 (l:=List.range c) (f:=aE4 b i n) (B:=(b.way i).n.toNat) λc _=>cz3 b i n c
 rwa [dR3]at a
def cz4(b:Bk)(i:Int)(n:A6):(an5 b i n).length<=(b.way i).n.toNat*(b.way i).n.toNat:=br0 b i n _
def cN3{b:Bk}{i:Int}{c:List A6}(j:c.Nodup)(e:∀n∈c,b.givers i n≠[])(h:∀a:Nat,a<(b.way i).n.toNat->(b.gives i a).length<=100):c.length<=(b.way i).n.toNat*100:=by
 have g:=aL5 (l:=List.range (b.way i).n.toNat) (f:=λ(a:Nat)=>b.gives i (a:Int)) (B:=100) λa d=>h a (dQ6.1 d);rw[dR3]at g;refine dN1 (I2 j λn k=>?_) g;obtain⟨a,d⟩:=List.exists_mem_of_ne_nil _ (e n k);unfold Bk.givers at d;rw[dP2,dO5]at d;exact dQ0.2 ⟨a,d.1,d.2⟩
def dn9{p:Pg}{i x y:Nat}{wy:Wy}(h:WyOk p i x y wy)(b:(b9 p).l.length<=200):bA8 wy:=λa c g j e=>by
 have k:=h.n;have d:=h.part.ok.len;have f:=h.part.ok.le;rw[h.place,h.place]at e;split at e<;>split at e<;>first|omega|(split at e<;>first|omega|(split at e<;>omega))
def do0{p:Pg}{i x y:Nat}{wy:Wy}(h:WyOk p i x y wy)(b:(b9 p).l.length<=200)(a:Nat)(e:a<wy.n.toNat):plc (wy.place a):=by
 have f:=h.n;have c:=h.part.ok.len;have d:=h.part.ok.le;rw[h.place];unfold plc;split
 ·omega
 ·split<;>omega
def cz5{b:Bk}{i:Int}(d:∀a:Nat,a<(b.way i).n.toNat->plc ((b.way i).place a)){n m:A6}{s t:Fw}(l:s∈an5 b i n)(o:t∈an5 b i m)(g:decide (fwC s t<=0)=true)(h:decide (fwC t s<=0)=true):s=t:=by
 obtain⟨a,c,j,k,_,_,rfl⟩:=aa2.1 l;obtain⟨p,q,e,f,_,_,rfl⟩:=aa2.1 o;exact bU4 ⟨d _ (af3 _ _ _ _ j),d _ k⟩ ⟨d _ (af3 _ _ _ _ e),d _ f⟩ (bR9.eq0 g h)
theorem cI0(s d:Int)(n:A6):B8 prog 210 [(0,.int .i64 s),(1,.int .i64 d),(2,p6 n)]=some (.agg (A0.cells (⟨s,d,n⟩:Fw)).toArray):=by
 simp[B8,do9,K8,Instr.fill,Value.cells,p6];rfl
def aF1(T:Nat->List A6)(M k:Nat):List (List A6):=(List.range M).map λc=>if c<k then T c else[]
def bd8(T:Nat->List A6)(M k:Nat):(aF1 T M k).length=M:=by simp[aF1]
def cj7(T:Nat->List A6)(M:Nat):List.replicate M []=aF1 T M 0:=by
 apply dS8
 ·simp[aF1]
 ·intro i a b;simp[aF1]
def cD4{T:Nat->List A6}{M k:Nat}:(aF1 T M k).set k (T k)=aF1 T M (k+1):=by
 apply dS8
 ·simp[aF1]
 ·intro i a b;rw[List.getElem_set];simp only[aF1,dT4,dY7];split
  ·next h=>subst h;rw[if_pos (by omega)]
  ·next h=>
   by_cases h3:i<k
   ·rw[if_pos h3,if_pos (by omega)]
   ·rw[if_neg h3,if_neg (by omega)]
def cD3{T:Nat->List A6}{M c:Nat}(a:c<M):(aF1 T M M)[c]?=some (T c):=by
 simp only[aF1,dP9,dU6 a,dS5,if_pos a]
theorem cR4{l:List (List Int)}{c:Nat}(a:c<l.length):l[c]?=some (C9 l c):=by
 unfold C9;rw[if_pos ⟨by omega,by omega⟩,dP0,List.getD,dM4 a];rfl
def keyN(kv:List (A6×Value))(j:Nat):A6:=match kv[j]? with
 | some q=>q.1
 | none=>e0
def aV8{kv:List (A6×Value)}{j:Nat}{q:A6×Value}(h:kv[j]?=some q):keyN kv j=q.1:=by
 unfold keyN;rw[h]
def cN2{kv:List (A6×Value)}(hn:(kv.map (·.1)).Nodup){j q:Nat}(b:j<kv.length)(c:q<kv.length)(e:keyN kv j=keyN kv q):j=q:=by
 rw[aV8 (dM4 b),aV8 (dM4 c)]at e;have h:=dT5.1 hn;rcases Nat.lt_trichotomy j q with a|a|a
 ·exact absurd (by rw[dT4,dT4];exact e) (h j q (by simpa using b) (by simpa using c) a)
 ·exact a
 ·exact absurd (by rw[dT4,dT4];exact e.symm) (h q j (by simpa using c) (by simpa using b) a)
theorem bv5{n:Nat}(f:Nat->List A6){i:Nat}(a:i<n):G2 ((List.range n).map f) (i:Int)=f i:=by
 unfold G2;rw[dP0,List.getD,dP9,dU6 a];rfl
def W5{l:List A6}{x:A6}:x∈T4 l↔x∈l:=(T0 l).mem_iff
section
variable {p:Pg} {i:Nat}
def bY0(hm:N2 p=true)(a:i<p.procs.length):G2 (J3 p) (i:Int)=D7 (ac0 p (I8 p (J3 p)) i):=by
 obtain⟨_,_,e⟩:=bu7 hm
 conv=>lhs;rw[<-e]
 exact bv5 _ a
def cq9(b:D4 p)(hw:C5 p<=1000000)(a:i<p.procs.length):G2 (ab7 p) (i:Int)=D7 (aE7 p (J3 p) (O6 p (ab7 p)) (I8 p (J3 p)) i):=by
 obtain⟨_,_,e⟩:=cq8 b hw
 conv=>lhs;rw[<-e]
 exact bv5 _ a
def bd3(hm:N2 p=true)(b:i<p.procs.length){n:A6}(hn:n∈G2 (J3 p) (i:Int)):n=ab1\/R0 n=true:=by
 rw[bY0 hm b,I3]at hn;have:=bH2 (aX0 hn);rw[List.getD,dM4 b]at this;simp only[dO6,dN7,dO7,dR9]at this;rcases this with h|h|⟨a,c,rfl⟩
 ·exact .inl h
 ·exact .inr (bW4 hm n h)
 ·exact .inr ((bW5 hm b).2.1 a c)
def cM9(b:D4 p)(hw:C5 p<=1000000)(a:i<p.procs.length){n:A6}(hn:n∈G2 (ab7 p) (i:Int)):n∈p.globals\/n=ab1:=by
 rw[cq9 b hw a,I3]at hn;unfold aE7 at hn;simpa using(dP2.1 hn).1
def ct2{l:List A6}(h:l.Pairwise (λa b=>ltS a b=true)):l.Nodup:=as7 h
theorem aS3(a:i<p.procs.length):(d9 p).slotsIn (i:Int)=T4 (G2 (ab7 p) (i:Int)++p.procs[i].params.map (·.name)):=by
 unfold Bk.slotsIn;rw[Q5 a];rfl
theorem bk0:(d9 p).slotsOut (i:Int)=T4 (G2 (J3 p) (i:Int)++[R5]):=rfl
def aP3(d:D4 p)(hw:C5 p<=1000000)(c:i<p.procs.length):((d9 p).slotsIn (i:Int)).Nodup:=by
 rw[aS3 c,(T0 _).nodup_iff,dR0];obtain⟨f,g,_⟩:=d.proc i c;unfold bm0 at f g;refine⟨by rw[cq9 d hw c];exact ct2 (S6 _),(dR0.1 f).1,λa k b j e=>?_⟩;subst e;rcases cM9 d hw c k with h|h
 ·exact g a (dQ1 _ j) h
 ·obtain⟨q,l,e⟩:=dO7.1 j;exact(aC4 ((bW5 d.may c).2.1 q l)).1 (by rw[e,h])
def at3(hm:N2 p=true)(d:i<p.procs.length):((d9 p).slotsOut (i:Int)).Nodup:=by
 rw[bk0,(T0 _).nodup_iff,dR0];refine⟨by rw[bY0 hm d];exact ct2 (S6 _),by simp,λa f b c e=>?_⟩;subst e;simp only[dP1]at c;rcases bd3 hm d f with h|h
 ·exact bO7.1 (by rw[<-h,c])
 ·exact(aC4 h).2.1 c
def ca3(hm:N2 p=true):(b9 p).l.Nodup:=by
 refine dT5.2 λj k b d c e=>?_;have a:=az4 hm j _ (dM4 b);have f:=az4 hm k _ (dM4 d);rw[e]at a;omega
def cP5(hm:N2 p=true){x y:Nat}(a:ar1 p i x y):((b9 p).of i).Nodup:=by
 rw[a.ok.of_];exact((ca3 hm).sublist (List.take_sublist _ _)).sublist (List.drop_sublist _ _)
end
def O8{b:Bk}{i:Int}{v:Vx}:v∈b.vert0 i↔v=⟨(b.s.fn i).name,1,0,e0⟩\/(∃n∈b.slotsIn i,v=⟨(b.s.fn i).name,3,0,n⟩)\/(∃n∈b.slotsOut i,v=⟨(b.s.fn i).name,4,0,n⟩) \/
  ∃it∈b.s.of i,v=⟨(b.s.fn i).name,2,it.s.id,e0⟩\/(it.s.kind=4/\((∃n∈b.slotsIn (b.s.pr it.s.proc),v=⟨(b.s.fn i).name,5,it.s.id,n⟩)\/∃n∈b.callOut it.s,v=⟨(b.s.fn i).name,6,it.s.id,n⟩)):=by
 unfold Bk.vert0;simp only[dN7,dP1,dO7,dQ0,List.mem_ite_nil_right];constructor
 ·rintro(((h|⟨n,c,h⟩)|⟨n,c,h⟩)|⟨it,a,h|⟨d,⟨n,c,h⟩|⟨n,c,h⟩⟩⟩)
  ·exact .inl h
  ·exact .inr (.inl ⟨n,c,h.symm⟩)
  ·exact .inr (.inr (.inl ⟨n,c,h.symm⟩))
  ·exact .inr (.inr (.inr ⟨it,a,.inl h⟩))
  ·exact .inr (.inr (.inr ⟨it,a,.inr ⟨d,.inl ⟨n,c,h.symm⟩⟩⟩))
  ·exact .inr (.inr (.inr ⟨it,a,.inr ⟨d,.inr ⟨n,c,h.symm⟩⟩⟩))
 ·rintro(h|⟨n,c,h⟩|⟨n,c,h⟩|⟨it,a,h|⟨d,⟨n,c,h⟩|⟨n,c,h⟩⟩⟩)
  ·exact .inl (.inl (.inl h))
  ·exact .inl (.inl (.inr ⟨n,c,h.symm⟩))
  ·exact .inl (.inr ⟨n,c,h.symm⟩)
  ·exact .inr ⟨it,a,.inl h⟩
  ·exact .inr ⟨it,a,.inr ⟨d,.inl ⟨n,c,h.symm⟩⟩⟩
  ·exact .inr ⟨it,a,.inr ⟨d,.inr ⟨n,c,h.symm⟩⟩⟩
def aC7{α β:Type}{f:α->β}(c:∀a b,f a=f b->a=b){l:List α}(h:l.Nodup):(l.map f).Nodup:=by
 induction l with
 | nil=>simp
 | cons x l g=>
  rw[dY6]at h;rw[dQ8,dY6];refine⟨λhm=>?_,g h.2⟩;obtain⟨y,d,e⟩:=dO7.1 hm;exact h.1 (c _ _ e ▸ d)
section
variable {p:Pg} {i x y:Nat}
def bz4(d:D4 p){it:It}(b:it∈(b9 p).l)(f:it.s.kind=4):((d9 p).callOut it.s).Nodup:=by
 obtain⟨c,a⟩:=U6 (d.fits it b f);have e:(d9 p).s.pr it.s.proc=(c:Int):=a.pr;unfold Bk.callOut;rw[e];split
 ·exact(at3 d.may a.lt).sublist List.filter_sublist
 ·exact at3 d.may a.lt
def cc1(l:D4 p)(hw:C5 p<=1000000)(C:i<p.procs.length)(r:ar1 p i x y):((d9 p).vert0 (i:Int)).Nodup:=by
 unfold Bk.vert0;generalize((d9 p).s.fn (i:Int)).name=q;have D:(d9 p).s=b9 p:=rfl;rw[D];have o:∀it∈(b9 p).of i,1<=it.s.id/\(b9 p).it it.s.id=it:=λit g=>⟨(bs9 l.may (aR4 r g)).2.2,(bs9 l.may (aR4 r g)).2.1⟩;have j:∀it:It,∀v:Vx,v∈([⟨q,2,it.s.id,e0⟩]++if it.s.kind=4 then(((d9 p).slotsIn ((b9 p).pr it.s.proc)).map λn=>(⟨q,5,it.s.id,n⟩:Vx))++((d9 p).callOut it.s).map λn=>(⟨q,6,it.s.id,n⟩:Vx)else[])->v.id=it.s.id:=by
  intro it v s;simp only[dN7,dP1,List.mem_ite_nil_right,dO7]at s;rcases s with rfl|⟨_,⟨n,_,rfl⟩|⟨n,_,rfl⟩⟩<;>rfl
 rw[dR0,dR0,dR0];refine⟨⟨⟨by simp,aC7 (λa b h=>by simpa using h) (aP3 l hw C),?_⟩,aC7 (λa b h=>by simpa using h) (at3 l.may C),?_⟩,?_,?_⟩
 ·rintro a d b f rfl;simp only[dP1,dO7]at d f;obtain⟨n,_,e⟩:=f;rw[d]at e;simp at e
 ·rintro a d b f rfl;simp only[dN7,dP1,dO7]at d f;obtain⟨n,_,e⟩:=f;rcases d with d|⟨m,_,d⟩
  ·rw[d]at e;simp at e
  ·rw[<-d]at e;simp at e
 ·refine as5 (cP5 l.may r) (λit g=>?_) λa d b f v t u=>?_
  ·rw[dR0];refine⟨by simp,?_,?_⟩
   ·split
    ·rename_i A;obtain⟨c,B⟩:=U6 (l.fits it (aR4 r g) A);rw[dR0];refine⟨aC7 (λa b h=>by simpa using h) ?_,aC7 (λa b h=>by simpa using h) (bz4 l (aR4 r g) A),?_⟩
     ·rw[B.pr];exact aP3 l hw B.lt
     ·rintro a d b f rfl;simp only[dO7]at d f;obtain⟨n,_,e⟩:=d;obtain⟨m,_,w⟩:=f;rw[<-e]at w;simp at w
    ·simp
   ·rintro a d b f rfl;simp only[dP1,List.mem_ite_nil_right,dN7,dO7]at d f;subst d;obtain⟨_,⟨n,_,e⟩|⟨n,_,e⟩⟩:=f<;>simp at e
  ·have k:=j a v t;have z:=j b v u;rw[<-(o a d).2,<-(o b f).2,<-k,<-z]
 ·rintro a d b f rfl;obtain⟨it,g,s⟩:=dQ0.1 f;have k:=j it a s;have z:=(o it g).1;simp only[dN7,dP1,dO7]at d;rcases d with(d|⟨n,_,d⟩)|⟨n,_,d⟩
  ·rw[d]at k;simp only at k;omega
  ·rw[<-d]at k;simp only at k;omega
  ·rw[<-d]at k;simp only at k;omega
def aN4(hm:N2 p=true)(c:ar1 p i x y){d:Int}(a:(x:Int)<d)(b:d<=(y:Int)):(⟨((d9 p).s.fn (i:Int)).name,2,d,e0⟩:Vx)∈(d9 p).vert0 (i:Int):=by
 rw[O8];obtain⟨e,f,_⟩:=c.at_ d a b;exact .inr (.inr (.inr ⟨_,e,.inl (by rw[f])⟩))
def cf1{wy:Wy}(q:D4 p)(hw:C5 p<=1000000)(o:i<p.procs.length)(c:ao1 p i x y wy):∀d∈wy.decides,(d.1=0\/((x:Int)<d.1/\d.1<=(y:Int)))/\((x:Int)<d.2/\d.2<=(y:Int)):=by
 have B:=c.n;have B5:=c.part.ok.le;have n:wy.n=((y-x+2:Nat):Int):=by omega
 rw[aQ8 n];intro d g;obtain⟨a,A,g⟩:=dQ0.1 g;obtain⟨b,k,rfl⟩:=dO7.1 g;obtain⟨k,f⟩:=dP2.1 k;unfold ai2 at f;simp only[dO8,dQ3,dZ8]at f;obtain⟨⟨u,v⟩,t,m,e,_⟩:=f;have l:(a:Int)<wy.n-1:=by
  unfold Wy.pairs at m;obtain⟨s,r,rfl⟩:=dO7.1 m;have j:=(bJ4 q hw o c s r).1;simp only at e;rw[<-e,c.toWyOk.index];rcases j with h|⟨w,z⟩
  ·rw[if_pos h];omega
  ·rw[if_neg (by omega),if_neg (by omega),if_pos (by omega)];omega
 simp only;rw[c.toWyOk.place,c.toWyOk.place];constructor
 ·by_cases h0:(a:Int)=0
  ·rw[if_pos h0];exact .inl rfl
  ·rw[if_neg h0,if_neg (by omega)];right;omega
 ·rw[if_neg (by omega),if_neg (by omega)];omega
def aO6(f:D4 p){it:It}(d:it∈(b9 p).l)(g:it.s.kind=4){c:Nat}(b:aw1 p it.s c){n:A6}(hn:n∈G2 (J3 p) (c:Int)):n∈(d9 p).callOut it.s:=by
 have e:(d9 p).s.pr it.s.proc=(c:Int):=b.pr;unfold Bk.callOut;rw[e];have hm:n∈(d9 p).slotsOut (c:Int):=by
  rw[bk0,W5];exact dQ1 _ hn
 have a:n≠R5:=by
  rcases bd3 f.may b.lt hn with h|h
  ·rw[h];exact bO7.1
  ·exact(aC4 h).2.1
 split
 ·exact dP2.2 ⟨hm,by simp[a]⟩
 ·exact hm
def cv4{α β:Type}{l:List α}{m:List β}{z:α×β}(h:z∈l.zip m):∃j:Nat,l[j]?=some z.1/\m[j]?=some z.2:=by
 obtain⟨j,a⟩:=dV3.1 h;rw[List.getElem?_zip_eq_some]at a;exact⟨j,a⟩
def cL3(X:I5 p=true)(hw:C5 p<=1000000)(Y:i<p.procs.length)(L:ar1 p i x y){a:Nat}(ha:(a:Int)<(D5 (b9 p) i).n){n:A6}(t:n∈(d9 p).gives (i:Int) (a:Int)):
  (d9 p).giver ((d9 p).s.fn (i:Int)).name ((D5 (b9 p) i).place (a:Int)) n∈(d9 p).vert0 (i:Int):=by
 have u:=N3 X;have H:=P2 L;have I:(d9 p).s=b9 p:=rfl;unfold Bk.gives at t;rw[L8 Y]at t;unfold Bk.giver;by_cases h0:(a:Int)=0
 ·rw[if_pos h0,I3]at t;rw[if_pos (by rw[H.toWyOk.place,if_pos h0]),O8];refine .inr (.inl ⟨n,?_,rfl⟩);unfold Bk.slotsIn;rw[W5];exact t
 ·rw[if_neg h0]at t;split at t
  ·simp at t
  ·rename_i hc;have ah:¬(a:Int)=(D5 (b9 p) i).n-1:=λh=>hc (.inl h);obtain⟨q,N,W,B,e4,e5⟩:=aj3 H (k:=a) (by omega) (by omega);obtain⟨J,M,q3⟩:=L.at_ ((D5 (b9 p) i).place (a:Int)) (by rw[B];omega) (by rw[B];omega);rw[if_neg (by omega),I];generalize ak:(D5 (b9 p) i).place (a:Int)=pl at t N B J M q3;generalize Z:(b9 p).it pl=it at J M q3;have f:=aR4 L J;have d:n∈D7 (af0 p (J3 p) it.s):=by
    rw[<-bS6 u.may (J3 p) f,M];exact t
   rw[I3]at d;have D:=ci0 u.may Y hw it J;by_cases h4:it.s.kind=4
   ·rw[if_neg (by simpa using h4)];obtain⟨c,b⟩:=U6 (u.fits it f h4);have aj:=b.lt;have l:((d9 p).callee it.s).params=p.procs[c].params:=by
     unfold Bk.callee;rw[I,b.pr,<-I,Q5 b.lt]
    have r:=aS1 (show ah7 it.s.name (P5 p it.s.proc) [] it.s.args=true from u.single it f h4);have P:p.procs[c].name=it.s.proc:=by
     obtain⟨c',ag,N,W⟩:=Q9 (aA9 u.toKnown hw f h4);rw[b.pr]at N;obtain rfl:c=c':=by omega
     exact W
    have o:∀m,m∈(d9 p).callOut it.s->(⟨((b9 p).fn (i:Int)).name,6,pl,m⟩:Vx)∈(d9 p).vert0 (i:Int):=λm hm=>by
     rw[O8];exact .inr (.inr (.inr ⟨it,J,.inr ⟨h4,.inr ⟨m,hm,by rw[M,I]⟩⟩⟩))
    unfold af0 at d;rw[if_neg (by omega),if_neg (by omega),if_neg (by omega),if_pos h4]at d;unfold ao3 at d;rw[b.idx,b.fn]at d;by_cases hname:it.s.name=n
    ·rw[if_pos hname];refine o _ ?_;have T:it.s.name≠e0:=by
      intro C;rw[hname]at C;rcases dN7.1 d with h|h
      ·rcases dN7.1 h with h|h
       ·rw[hname,if_pos C]at h;simp at h
       ·obtain⟨z,s,A⟩:=dO7.1 h;obtain⟨s,g⟩:=dP2.1 s;rw[dO8]at g;exact(aC4 (bh4 D z.1 (List.of_mem_zip s).1 g.1)).2.2 (by rw[A,C])
      ·have:=(dP2.1 h).1;rcases bd3 u.may b.lt this with h|h
       ·exact bO7.2.1 (by rw[<-h,C])
       ·exact(aC4 h).2.2 C
     unfold Bk.callOut;rw[if_neg T];unfold Bk.slotsOut;rw[W5];simp
    ·rw[if_neg hname,l];have d:(∃z∈it.s.args.zip p.procs[c].params,z.1.ref=true/\z.2.name∈G2 (J3 p) (c:Int)/\z.1.name=n)\/(n∈G2 (J3 p) (c:Int)/\O7 p n=true):=by
      rcases dN7.1 d with h|h
      ·rcases dN7.1 h with h|h
       ·split at h
        ·simp at h
        ·simp only[dP1]at h;exact absurd h.symm hname
       ·obtain⟨z,s,A⟩:=dO7.1 h;obtain⟨s,g⟩:=dP2.1 s;rw[dO8,dO5]at g;exact .inl ⟨z,s,g.1,g.2,A⟩
      ·exact .inr (dP2.1 h)
     split
     ·rename_i z K;have s:=List.mem_of_find?_eq_some K;have e:=List.find?_some K;rw[dO8,dQ3]at e;refine o _ ?_;obtain⟨j,E,Q⟩:=cv4 s;rcases d with⟨z',w,U,r2,V⟩|⟨O,v⟩
      ·obtain⟨k,S,F⟩:=cv4 w;have R:=r.2 j k _ _ E S e.1 U (by rw[e.2,V]);subst R;rw[Q]at F;rw[dO3 F];exact aO6 u f h4 b r2
      ·exfalso
       have G:=bh4 D z.1 (List.of_mem_zip s).1 e.1;rw[e.2]at G;unfold O7 at v;rw[dX4,dO5,dQ3]at v;rcases v with v|v
       ·exact(aC4 G).1 v
       ·have:=(r.1 j _ E e.1).2.2;rw[e.2,<-P]at this;exact this (bX9 X hw b.lt O v)
     ·rename_i K;refine o _ ?_;rcases d with⟨z',w,U,r2,V⟩|⟨O,v⟩
      ·have:=dW5.1 K z' w;simp[U,V]at this
      ·exact aO6 u f h4 b O
   ·rw[if_pos h4,<-I];exact aN4 u.may L (by rw[B];omega) (by rw[B];omega)
def cE7(F:I5 p=true)(hw:C5 p<=1000000)(J:i<p.procs.length)(r:ar1 p i x y){a:Nat}(Q:(a:Int)<(D5 (b9 p) i).n){n:A6}(f:n∈(d9 p).takes (i:Int) (a:Int)):
  ∀v∈(d9 p).takers ((d9 p).s.fn (i:Int)).name ((D5 (b9 p) i).place (a:Int)) n,v∈(d9 p).vert0 (i:Int):=by
 have B:=N3 F;have j:=P2 r;have l:(d9 p).s=b9 p:=rfl;have K:=j.n;have B5:=r.ok.le;intro v d;unfold Bk.takes at f;rw[L8 J]at f;unfold Bk.takers at d;by_cases h0:(a:Int)=(D5 (b9 p) i).n-1
 ·rw[if_pos h0,I3]at f;rw[if_pos (by rw[j.toWyOk.place,if_neg (by omega),if_pos h0])]at d;simp only[dP1]at d;subst d;rw[O8];refine .inr (.inr (.inl ⟨n,?_,rfl⟩));unfold Bk.slotsOut;rw[W5];exact f
 ·rw[if_neg h0]at f;split at f
  ·simp at f
  ·rename_i G;have H:¬(a:Int)=0:=λh=>G (.inl h);obtain⟨q,E,N,o,O,P⟩:=aj3 j (k:=a) (by omega) (by omega);obtain⟨s,u,D⟩:=r.at_ ((D5 (b9 p) i).place (a:Int)) (by rw[o];omega) (by rw[o];omega);rw[if_neg (by omega),l]at d;generalize L:(D5 (b9 p) i).place (a:Int)=C at d f E o s u D;generalize A:(b9 p).it C=it at d s u D;have t:=aR4 r s;by_cases h4:it.s.kind=4
   ·rw[if_neg (by simpa using h4)]at d;obtain⟨c,b⟩:=U6 (B.fits it t h4);have I:=b.lt;have e:((d9 p).callee it.s).params=p.procs[c].params:=by
     unfold Bk.callee;rw[l,b.pr,<-l,Q5 b.lt]
    have g:∀m,m∈(d9 p).slotsIn (c:Int)->(⟨((b9 p).fn (i:Int)).name,5,C,m⟩:Vx)∈(d9 p).vert0 (i:Int):=λm hm=>by
     rw[O8];refine .inr (.inr (.inr ⟨it,s,.inr ⟨h4,.inl ⟨m,?_,by rw[u,l]⟩⟩⟩));rw[l,b.pr];exact hm
    rw[e,b.pr]at d;rcases dN7.1 d with h|h
    ·obtain⟨z,M,rfl⟩:=dO7.1 h;refine g _ ?_;rw[aS3 b.lt,W5];exact dS0 _ (dO7.2 ⟨_,(List.of_mem_zip (dP2.1 M).1).2,rfl⟩)
    ·split at h
     ·rename_i w;simp only[dP1]at h;subst h;refine g _ ?_;rw[dO8,dO5]at w;rw[aS3 b.lt,W5];exact dQ1 _ w.2
     ·simp at h
   ·rw[if_pos h4]at d;simp only[dP1]at d;subst d;rw[<-l];exact aN4 B.may r (by rw[o];omega) (by rw[o];omega)
def cK2(w:I5 p=true)(hw:C5 p<=1000000)(k:i<p.procs.length):∀e∈(d9 p).edge0 (i:Int),e.src∈(d9 p).vert0 (i:Int)/\e.dst∈(d9 p).vert0 (i:Int)/\(e.kind=1\/e.kind=2):=by
 have m:=N3 w;obtain⟨x,h⟩:=J5 m.may hw i k;have s:=P2 h;have j:(⟨((d9 p).s.fn (i:Int)).name,1,0,e0⟩:Vx)∈(d9 p).vert0 (i:Int):=O8.2 (.inl rfl);intro e b;unfold Bk.edge0 at b;rw[L8 k]at b;rcases dN7.1 b with b|b
 ·rcases dN7.1 b with b|b
  ·obtain⟨d,E,rfl⟩:=dO7.1 b;obtain⟨o,B,C⟩:=cf1 m hw k s d E;unfold ag8;refine⟨?_,aN4 m.may h B C,.inl rfl⟩;simp only;split
   ·exact j
   ·rename_i z;rcases o with o|⟨o,u⟩
    ·exact absurd o z
    ·exact aN4 m.may h o u
  ·obtain⟨v,g,b⟩:=dQ0.1 b;have g:v∈(d9 p).vert0 (i:Int):=(F5 _ _).mem_iff.1 g;unfold H8 at b;split at b
   ·simp only[dP1]at b;subst b;exact⟨j,g,.inl rfl⟩
   ·split at b
    ·rename_i t;simp only[dP1]at b;subst b;refine⟨?_,g,.inl rfl⟩;simp only;rw[O8]at g;rcases g with rfl|⟨n,_,rfl⟩|⟨n,_,rfl⟩|⟨it,r,rfl|⟨_,⟨n,_,rfl⟩|⟨n,_,rfl⟩⟩⟩
     ·simp at t
     ·simp at t
     ·simp at t
     ·simp at t
     ·have:=h.ids it r;exact aN4 m.may h this.1 this.2
     ·have:=h.ids it r;exact aN4 m.may h this.1 this.2
    ·simp at b
 ·obtain⟨f,l,b⟩:=dQ0.1 b;obtain⟨v,g,rfl⟩:=dO7.1 b;have l:f∈(d9 p).flow0 (i:Int):=(F5 _ _).mem_iff.1 l;rw[aM3]at l;obtain⟨n,l⟩:=l;rw[aa2]at l;obtain⟨a,c,q,D,A,_,rfl⟩:=l;rw[L8 k]at D g;have y:=af3 _ _ _ a q;rw[L8 k]at y;have q:=(dP2.1 q).2;rw[dO5]at q A;have F:=s.n;rw[L8 k];exact⟨cL3 w hw k h (by omega) q,cE7 w hw k h (by omega) A v g,.inr rfl⟩
end
end Go.Proofs.YtfadjbljajfkfaaGreat

/- What the functions of the program do, for every input; plain facts. No condition, no statement of its own. Part 6. -/
import Derived.Test.YtggahhenbbgffaaGreatZ6
set_option maxRecDepth 1000000
set_option maxHeartbeats 8000000
set_option linter.unusedVariables false
set_option linter.unusedSimpArgs false
set_option linter.unnecessarySimpa false
set_option linter.defProp false
namespace Go.Proofs.YtggahhenbbgffaaGreat
open Go Tryz
def cQ7{w d:World}{v c:Value}(hm:o8 (A0 v) w d)(hv:E9 w v c):B8 (aq7 w v) (aq7 d c):=λb o e=>by
 by_cases h:A0 v b
 .rw[aE2 h]at e;cases e
 .rw[ad5 h]at e;have g:b<w.heap.size:=(ef5.1 e).1;have f:¬A0 c b:=λa=>by
   rcases hv b a with k|k
   .exact h k
   .omega
  rw[ad5 f,hm.block b g h];exact e
def cQ6{w a:World}{v:Value}(d:o6 w a):B8 (aq7 w v) (aq7 a v):=λb o e=>by
 by_cases h:A0 v b
 .rw[aE2 h]at e;cases e
 .rw[ad5 h]at e;have c:b<w.heap.size:=(ef5.1 e).1;rw[ad5 h,d.block b c id];exact e
section
variable {α:Type} [A3 α] {h:Hp} {w:World} {T:TypeId} {v:Value} {xs:List α}
def B0.but(e:B0 (aq7 w v) w T v xs){a:World}(c:o6 w a):B0 (aq7 a v) a T v xs:=
 (e.ext c).up (cQ6 c) λb d=>aE2 d
end
def dl9:H3 prog 111=some (.agg #[.int .i64 0,.int .i64 0,.slice none 0 0,.string ⟨#[]⟩,.string ⟨#[]⟩,.int .i64 0,.int .i64 0,.string ⟨#[]⟩,.slice none 0 0,.bool false,.slice none 0 0,.slice none 0 0,.slice none 0 0,.int .i64 0,.int .i64 0,.bool false]):=by kernel_rfl
def cb6:J5 prog 111=true:=by kernel_rfl
def cc1:(prog.underlying 111).isSome=true:=by kernel_rfl
def dk7:P2 prog 111=some (#[.int .i64 0,.int .i64 0,.slice none 0 0,.string ⟨#[]⟩,.string ⟨#[]⟩,.int .i64 0,.int .i64 0,.string ⟨#[]⟩,.slice none 0 0,.bool false,.slice none 0 0,.slice none 0 0,.slice none 0 0,.int .i64 0,.int .i64 0,.bool false],[(0,13),(13,1),(14,1),(15,1)]):=by kernel_rfl
end Go.Proofs.YtggahhenbbgffaaGreat
namespace Go.Proofs
open Go.Shelf
end Go.Proofs
namespace Go.Proofs.YtggahhenbbgffaaGreat
open Go Tryz
def dj9{l:List Int}{x:Int}{k:Nat}(a:k<l.length)(h:(l.take k).contains x=false):(l.take (k+1)).contains x=(x==l[k]):=by
 rw[ef8 a];simp only[List.contains_append,h,er3];simp only[List.contains_cons,List.contains_nil,Bool.or_false]
def ci4{l:List Int}{x:Int}{k:Nat}(h:(l.take k).contains x=true):l.contains x=true:=by
 simp only[eg7]at *;exact em8 h
def dd5(v:Value)(l:List Int)(x:Int)(w:World)(hv:R (m8 w) v l)(q:l.length<=1000000000000):
  o9 prog 37 #[v,.int .i64 x] w λu d=>(u = .bool (l.contains x)/\d=w):=by
 refine p9 [v,.int .i64 x] func37 rfl ?_;simp only[L7,R9,C4,F6,unV,aZ6,y4,ac6,J0,T6,M5.val,simprocAttr,hv.isS,hv.vlen];refine A6 [1,7,8] (σ:=Nat) (λk f d=>f 9 = .int .i64 k/\k<=l.length/\(l.take k).contains x=false/\d=w) (λk=>l.length-k) 0 ?_ ?_
 .simp only[B3,simprocAttr];exact⟨by first|rfl|trivial,eg3 _,by simp,by trivial⟩
 .rintro k f d ⟨o,j,m,_⟩ ⟨g,p,c,rfl⟩;simp only[L7,R9,C4,F6,unV,aZ6,y4,ac6,J0,T6,M5.val,simprocAttr,g,j,m];refine y5 (λb=>?_) ?_
  .have h:=N7 (P:=prog) (t:=3) hv (n7 _) (ef1 b) G3;have n:=dj9 b c;simp only[L7,R9,C4,F6,unV,aZ6,y4,ac6,J0,T6,M5.val,simprocAttr,g,j,m,o,hv.inS b,h];refine A4 (λa=>?_) (λa=>?_)
   .simp only[L7,R9,C4,F6,unV,aZ6,y4,ac6,J0,T6,M5.val,simprocAttr];refine o7 results37 ?_;simp only[B3,simprocAttr];have i:x=l[k]:=by simp at a;first|exact a|exact a.symm
    exact⟨by rw[ci4 (k:=k+1) (by rw[n,i];simp)],by trivial⟩
   .simp only[L7,R9,C4,F6,unV,aZ6,y4,ac6,J0,T6,M5.val,simprocAttr,g];have i:¬x=l[k]:=by simp at a;first|exact a|exact λe=>a e.symm
    refine T4 (k+1) ⟨by rw[n];simpa using i,by trivial⟩
  .rintro rfl;simp only[L7,R9,C4,F6,unV,aZ6,y4,ac6,J0,T6,M5.val,simprocAttr];refine o7 results37 ?_;simp only[B3,simprocAttr];rw[eg4]at c;exact⟨by rw[c],by trivial⟩
def do7(v:Value)(l:List Int)(x:Int)(w:World)(hv:R (m8 w) v l)(b:l.length<=1000000000000):
  o9 prog 10 #[v,.int .i64 x] w λu a=>(u = .bool (l.contains x)/\a=w):=by
 refine p9 [v,.int .i64 x] func10 rfl ?_;simp only[L7,R9,simprocAttr];refine t8 (dd5 v l x w hv b) ?_;rintro u a ⟨rfl,rfl⟩;simp only[L7,simprocAttr];exact o7 results10 ⟨rfl,rfl⟩
end Go.Proofs.YtggahhenbbgffaaGreat
namespace Go.Proofs
open Go.Shelf
end Go.Proofs
namespace Go.Proofs.YtggahhenbbgffaaGreat
open Go Tryz
end Go.Proofs.YtggahhenbbgffaaGreat
namespace Go.Proofs
open Go.Shelf
end Go.Proofs
namespace Go.Proofs.YtggahhenbbgffaaGreat
open Go Tryz
def cC4(a:Addr)(p:Pg)(i x y:Nat)(w:World)(f:At (m8 w) a (d9 p))(m:D3 p)(hw:B7 p<=1000000)(l:i<p.procs.length)(n:as2 p i x y):o9 prog 90 #[.pointer (some a),.int .i64 i] w λu d=>(∃b,u = .pointer (some b)/\At (m8 d) b (D7 (d9 p) i)/\o6 w d):=by
 refine Calls.mono (bK0 a p i x y w f m hw l n) ?_;rintro e d ⟨u,k,o,r,q,rfl,j,_,g,h,c⟩;exact⟨_,k,_,rfl,dD1 (wy:=D7 (d9 p) i) j (f.mono (b7 c)) (g.rw_ (b7 c)) (h.rw_ (b7 c)),c⟩
def cr2(p:Pg)(n:A9)(k:Nat):Prop:=E0 p=true/\af8 p.procs n=(k:Int)/\k<p.procs.length
section
variable {p:Pg}
def dS2(m:D3 p)(hw:B7 p<=1000000){id:Int}{i:Nat}(r:i<p.procs.length)(h:(d9 p).it id∈(d9 p).of i)(g:((d9 p).it id).s.id=id):
  (⟨p.procs[i].name,2,id,e0⟩:Vx)∈(i4 p).wv↔p.procs[i].name∈(i4 p).reached:=by
 constructor
 .intro o;obtain⟨n,d,o⟩:=bF2.1 o;have:=aq0 m.toKnown d o;simp only at this;rw[this];exact d
 .intro d;refine bF2.2 ⟨_,d,?_⟩;obtain⟨k,j,e,q⟩:=Y9 m.toKnown d;rw[M3 j]at q;have l:k=i:=by
   have f:=em0.1 m.names;have c:k<(p.procs.map (·.name)).length:=by simpa using j
   have b:i<(p.procs.map (·.name)).length:=by simpa using r
   have a:(p.procs.map (·.name))[k]=(p.procs.map (·.name))[i]:=by rw[em7,em7];exact q
   rcases Nat.lt_trichotomy k i with h|h|h
   .exact absurd a (f k i c b h)
   .exact h
   .exact absurd a.symm (f i k b c h)
  subst l;rw[e];refine an6.2 (N4.2 (.inr (.inr (.inr ⟨_,h,.inl ?_⟩))));rw[M3 j,g]
def dr5(k:D3 p)(hw:B7 p<=1000000){id:Int}(g:1<=id)(h:id<=(d9 p).l.length):∃(i:Nat) (d:i<p.procs.length),((d9 p).it id).proc=(i:Int)/\(d9 p).it id∈(d9 p).of i /\
  (i4 p).crit id=if p.procs[i].name∈(i4 p).reached/\((i4 p).way (i:Int)).lives id=true then some ⟨p.procs[i].name,2,id,e0⟩else none:=by
 obtain⟨i,d,b,j,f⟩:=bx3 k.may hw g h;refine⟨i,d,j,b,?_⟩;have l:(i4 p).s=d9 p:=rfl;unfold Bk.crit;rw[l,j];have e:((d9 p).fn (i:Int)).name=p.procs[i].name:=by have:=M3 (p:=p) d;rw[l]at this;rw[this]
 rw[e];have c:=dS2 k hw d b f;by_cases hl:((i4 p).way (i:Int)).lives id=true
 .rw[if_pos ⟨g,h,hl⟩];by_cases hn:p.procs[i].name∈(i4 p).reached
  .rw[if_pos (ab2.2 (c.2 hn)),if_pos ⟨hn,hl⟩]
  .rw[if_neg (λa=>hn (c.1 (ab2.1 a))),if_neg (λa=>hn a.1)]
 .rw[if_neg (λa=>hl a.2.2),if_neg (λa=>hl a.2)]
end
def bY2(V:List Vx)(v:Vx):(al6 (as4 V) v).isSome=decide (v∈V):=by
 rw[aT4,Option.isSome_map,eq7,ab2,decide_eq_true_iff]
section
variable {p:Pg}
def ca3(v:Value)(w:World)(hv:SV (m8 w) v p)(hw:B7 p<=1000000):
  o9 prog 32 #[v] w λu o=>(R (m8 o) u (if E0 p then(i4 p).reached else[])/\o6 w o):=by
 refine p9 [v] func32 rfl ?_;obtain⟨c,q,f,l,b⟩:=Q4 hv (n7 _);obtain⟨B,h,e,_⟩:=b.pg_v;simp only[i5,n9,simprocAttr,f,e q (n7 _)];refine t8 (aq3 B p q h hw) ?_;rintro u m ⟨y,z,k⟩;have a:=l.trans k;cases hR:E0 p
 .obtain rfl:=y hR;simp only[i5,n9,simprocAttr,bR6];exact o7 results32 ⟨(B0.nil (m8 m) m 0).rw_ (n7 _),a⟩
 obtain⟨D,g,r,C,n,x,rfl,A,t,j,s⟩:=z hR;have d:R (m8 m) n (i4 p).reached:=A3.mono s.base j;simp only[i5,n9,simprocAttr,bR6,s.ld (i:=1) (u:=n) rfl P8];exact o7 results32 ⟨d,a⟩
def bH3(v:Value)(y:Vx)(w:World)(hv:SV (m8 w) v p)(hw:B7 p<=1000000):
  o9 prog 20 #[v,.agg (p8.cells y).toArray] w λu F=>(u = .bool (E0 p&&decide (y∈(i4 p).wv))/\o6 w F):=by
 refine p9 [v,.agg (p8.cells y).toArray] func20 rfl ?_;obtain⟨c,o,j,n,d⟩:=W9 (w:=w) (λ_=>False) hv (λ_ h=>h.elim);obtain⟨I,q,k,i,e⟩:=aH1 (w:=o) (λ_=>False) (SV.ofN (m8 o) y) (λ_ h=>h.elim);have D:=(I6.pg_v hv d).1 q (p7 (A8 _ _) (b7 i));have b:=n.trans i;simp only[i5,n9,simprocAttr,j,k,D];refine t8 (aq3 v p q (hv.mono (b7 b)) hw) ?_;rintro u G ⟨z,A,f⟩;have a:=b.trans f;cases hR:E0 p
 .obtain rfl:=z hR;simp only[i5,n9,simprocAttr,aC4];exact o7 results20 ⟨rfl,a⟩
 obtain⟨K,g,r,H,J,x,rfl,C,t,B,s⟩:=A hR;rw[bK2]at s;have E:=(I6.vx_v (SV.ofN (m8 o) y) e).1 G (p7 (A8 _ _) (b7 f));simp only[i5,n9,simprocAttr,aC4,E];refine B2 (bU9 s y) (λL m=>?_);have l:(wcC p [] []).kv=as4 (i4 p).wv:=rfl;rw[l,bY2];simp only[i5,simprocAttr];exact o7 results20 ⟨rfl,a.trans m⟩
end
end Go.Proofs.YtggahhenbbgffaaGreat
namespace Go.Proofs
open Go.Shelf
end Go.Proofs
namespace Go.Proofs.YtggahhenbbgffaaGreat
open Go Tryz
end Go.Proofs.YtggahhenbbgffaaGreat

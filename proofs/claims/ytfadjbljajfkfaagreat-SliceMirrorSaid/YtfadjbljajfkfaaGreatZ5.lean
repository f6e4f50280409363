/- sliceMirror.proved: for every input the law returns true. No condition. Part 5 of 7. -/
import Derived.ArgAppend
import Derived.Laws.IdiomRangeMap
import Derived.Test.YtfadjbljajfkfaaGreatZ4
set_option maxRecDepth 1000000
set_option maxHeartbeats 8000000
set_option linter.unusedVariables false
set_option linter.unusedSimpArgs false
set_option linter.unnecessarySimpa false
set_option linter.defProp false
namespace Go.Proofs.YtfadjbljajfkfaaGreat
open Go Tryz
def bS2{α:Type}[DecidableEq α]{le:α->α->Prop}(i:∀a b c,le a b->le b c->le a c)(d:∀a b,le a b->le b a->a=b):∀{l:List α},l.Pairwise le->(G7 l).Pairwise λa b=>le a b/\a≠b
 | [],_=>by simp[G7]
 | [x],_=>by simp[G7]
 | x::y::l,h=>by
  rw[dS3]at h;have j:=bS2 i d h.2;rw[G7];split
  ·exact j
  ·rename_i f;rw[dS3];refine⟨λz g=>?_,j⟩;rw[ai8]at g;refine⟨h.1 z g,λe=>?_⟩;subst e;rcases dO6.1 g with e|g
   ·exact f e
   ·exact f (d _ _ (h.1 y (by simp)) ((dS3.1 h.2).1 x g))
def aW0(a b:Vx):Bool:=if a.proc≠b.proc then ltS a.proc b.proc else if a.kind≠b.kind then decide (a.kind<b.kind)else if a.id≠b.id then decide (a.id<b.id)else ltS a.slot b.slot
def cp1{a b:Int}(h:a≠b):K6 a b≠0:=λe=>h (aa0 e)
def cZ5{a b:A6}(h:a≠b):ab4 a b≠0:=λe=>h (ax9 e)
def bC3(a:Int):K6 a a=0:=by unfold K6;simp
def cx8(a:A6):ab4 a a=0:=by unfold ab4;simp[L5]
def cp0{a b:Int}:decide (K6 a b<0)=decide (a<b):=by
 unfold K6;by_cases h:a<b
 ·simp[h]
 ·rw[if_neg h];split<;>simp[h]
def cp2{a b:A6}:decide (ab4 a b<0)=ltS a b:=by
 unfold ab4;cases h:ltS a b
 ·simp only[dS7,dU1];split<;>simp
 ·simp
def bW1(a b:Vx):aW0 a b=decide (vxC a b<0):=by
 unfold aW0 vxC;rw[or4];by_cases h1:a.proc=b.proc
 ·rw[if_neg (by simpa using h1),h1,cx8,if_pos rfl];by_cases h2:a.kind=b.kind
  ·rw[if_neg (by simpa using h2),h2,bC3,if_pos rfl];by_cases h3:a.id=b.id
   ·rw[if_neg (by simpa using h3),h3,bC3,if_pos rfl];by_cases h4:ab4 a.slot b.slot=0
    ·rw[if_pos h4,ax9 h4,L5];rfl
    ·rw[if_neg h4,cp2]
   ·rw[if_pos h3,if_neg (cp1 h3),cp0]
  ·rw[if_pos h2,if_neg (cp1 h2),cp0]
 ·rw[if_pos h1,if_neg (cZ5 h1),cp2]
def cV6(a:Vx):vxC a a=0:=bC2.refl a
section
variable {α:Type} {c:α->α->Int}
def Cm.letr(h:Cm c){x y z:α}(a:c x y<=0)(b:c y z<=0):c x z<=0:=h.trans x y z a b
def cR8(h:Cm c)(l:List α):(Y0 (λa b=>decide (c a b<=0)) l).Pairwise λa b=>c a b<=0:=by
 have:=ah8 (le:=λa b=>decide (c a b<=0)) (l:=l) (λa _ b _=>h.total a b) λa _ b _ d _ e f=>dV2 (h.letr (dM8 e) (dM8 f));exact this.imp λh=>dM8 h
end
def cm8{b:Bk}{i:Int}(hn:(b.vert0 i).Nodup):(b.verts i).Pairwise λu v=>aW0 u v=true:=by
 have c:(b.verts i).Pairwise λu v=>vxC u v<=0:=cR8 bC2 _;have a:(b.verts i).Pairwise λu v=>u≠v:=((F5 cF0 _).nodup_iff.2 hn);refine(c.and a).imp fun{u v} ⟨c,a⟩=>?_;rw[bW1];refine dV2 ?_;have:vxC u v≠0:=λe=>a (ba6 e);omega
def cC1{b:Bk}{i:Int}{e:Eg}:e∈b.edges i↔e∈b.edge0 i:=by
 unfold Bk.edges aw4;rw[ai8,(F5 cy7 _).mem_iff]
def aM4{b:Bk}{i:Int}{v:Vx}:v∈b.verts i↔v∈b.vert0 i:=(F5 cF0 _).mem_iff
def ad4(h:Hp)(w:World)(T:TypeId)(v:Value)(xs:List Int):Prop:=
 (v = .slice none 0 0/\xs=[]) \/
 ∃b d c a,v = .slice (some ⟨b,d,none⟩) xs.length c/\h b=none/\w.heap[b]?=some (.cells a T (0,0))/\xs.length<=c/\c<=maxLen/\d+c<=a.size /\
  ∀(j:Nat) (x:Int),xs[j]?=some x->a[d+j]?=some (.int .i64 x)
section
variable {P:Program} {h:Hp} {w:World} {t T:TypeId} {v:Value} {xs:List Int}
def A8.toQ(t:A8 h w T v xs):ad4 h w T v xs:=by
 rcases t with s|⟨b,c,a,rfl,k,m,n,o,p,f⟩
 ·exact .inl s
 ·have q:a.size=c:=by rw[p];exact dT8 c
  have d:a.toList.take xs.length=N6 xs:=G5.1 (by
   have:xs.length*A4.sz Int=xs.length:=dT8 _;rw[this]at f;exact f)
  refine .inr ⟨b,0,c,a,rfl,k,m,n,o,by omega,λj x i=>?_⟩;have e:=(dM9.1 i).1;have g:=dO2 (λl=>l[j]?) d;simp only[List.getElem?_take_of_lt e]at g;rw[dQ2];have r:a[j]?=a.toList[j]?:=by simp
  rw[r,g];simp[N6,i]
theorem ad4.isS(d:ad4 h w T v xs):isS v=true:=by
 rcases d with⟨rfl,rfl⟩|⟨b,e,c,a,rfl,_⟩<;>rfl
theorem ad4.vlen(d:ad4 h w T v xs):vlen v=xs.length:=by
 rcases d with⟨rfl,rfl⟩|⟨b,e,c,a,rfl,_⟩<;>rfl
def ad4.vcap(e:ad4 h w T v xs):xs.length<=vcap v:=by
 rcases e with⟨rfl,rfl⟩|⟨b,f,c,a,rfl,_,_,d,_⟩
 ·simp
 ·exact d
def ad4.inS(e:ad4 h w T v xs){k:Nat}(a:k<xs.length):inS v k=true:=by
 rcases e with⟨rfl,rfl⟩|⟨b,f,c,d,rfl,_⟩
 ·simp at a
 ·simp[Go.Proofs.YtfadjbljajfkfaaGreat.inS,a]
def ad4.free(e:ad4 h w T v xs){b:Nat}(hb:A3 v b):h b=none:=by
 rcases e with⟨rfl,_⟩|⟨g,f,c,a,rfl,d,_⟩
 ·exact absurd hb D1
 ·simp[A3,Value.ownBlock]at hb;subst hb;exact d
def ad4.lt(e:ad4 h w T v xs){b:Nat}(hb:A3 v b):b<w.heap.size:=by
 rcases e with⟨rfl,_⟩|⟨g,f,c,a,rfl,i,d,_⟩
 ·exact absurd hb D1
 ·simp[A3,Value.ownBlock]at hb;subst hb;exact(dN0.1 d).1
def ad4.mod{M:Nat->Prop}{g:World}(l:ad4 h w T v xs)(hm:o9 M w g)(j:∀b,A3 v b->¬M b):ad4 h g T v xs:=by
 rcases l with k|⟨b,e,c,d,rfl,i,f,a⟩
 ·exact .inl k
 ·exact .inr ⟨b,e,c,d,rfl,i,(hm.block b (dN0.1 f).1 (j b rfl)).trans f,a⟩
def ad4.ext{a:World}(b:ad4 h w T v xs)(hm:o7 w a):ad4 h a T v xs:=b.mod hm λ_ _=>id
theorem ad4.head{x:Int}{a:List Int}(i:ad4 h w T v (x::a))(j:I7 P t=false):(Instr.loadAt t (.pointer (some (G4 v 0)))).run P w = .ok (.int .i64 x) w:=by
 rcases i with⟨_,k⟩|⟨b,e,c,d,rfl,l,f,m,n,o,g⟩
 ·cases k
 ·refine S3 j ?_;simp only[G4,L7];rw[dU3 w b e d T (0,0) f];exact g 0 x rfl
def ad4.tail{x:Int}{a:List Int}(o:ad4 h w T v (x::a)):ad4 h w T (reS v 1 (a.length+1) 1) a/\∀b,A3 (reS v 1 (a.length+1) 1) b↔A3 v b:=by
 rcases o with⟨_,q⟩|⟨b,d,c,f,rfl,i,k,m,r,s,n⟩
 ·cases q
 ·simp only[dP4]at m;have e:(⟨b,d,none⟩:Addr).add (1*1)=⟨b,d+1,none⟩:=by unfold Addr.add;split<;>simp_all
  by_cases hc:c=1
  ·subst hc;have p:a=[]:=List.eq_nil_of_length_eq_zero (by omega);subst p;refine⟨.inr ⟨b,d,0,f,rfl,i,k,dO0 _,dN6 _,by omega,λj y g=>by simp at g⟩,λl=>dU5⟩
  ·refine⟨.inr ⟨b,d+1,c-1,f,?_,i,k,by omega,by omega,by omega,λj y g=>?_⟩,λl=>?_⟩
   ·simp[reS,hc,e]
   ·have:=n (j+1) y (by simpa using g);rw[<-this];congr 1;omega
   ·simp[reS,hc,e,A3,Value.ownBlock]
def ad4.push{e:TypeId}{n:Nat}(R:F4 P t T 1 n=true)(ho:ad4 h w T v xs)(y:Int)
  (hl:xs.length+1<=1000000000000) (hb:(xs.length+1)*n<=140737488355328) (hw:B5 h (i4 w)) :
  (Instr.buildSlice t 1 #[(0,.int .i64 y)]).run P w = .ok (.slice (some ⟨w.heap.size,0,none⟩) 1 1) (w.alloc (.cells #[.int .i64 y] T)) /\
  ∃A B,(Builtin.append_ #[t,t] e #[v,.slice (some ⟨w.heap.size,0,none⟩) 1 1]).run P (w.alloc (.cells #[.int .i64 y] T)) = .ok A B/\ad4 h B T A (xs++[y])/\o9 (A3 v) w B/\F0 w v A:=by
 have l:=Go.Proofs.YtfadjbljajfkfaaGreat.push (e:=e) (α:=Int) R rfl (A8.nil h w T) (x:=.int .i64 y) (y:=y) rfl (by simp) (by simp only[dT9,dQ2]at *;have:=dV6 n (show 1<=xs.length+1 by omega);omega) hw;simp only[Value.cells,dX5]at l;refine⟨l.1,?_⟩;rcases ho with⟨rfl,rfl⟩|⟨b,a,c,g,rfl,Y,O,h3,Z,h5,Q⟩
 ·obtain⟨A,B,M,N,k3,k4⟩:=l.2;exact⟨A,B,M,by simpa using N.toQ,k3,k4⟩
 ·obtain⟨s1,⟨z,hz,L⟩,r,U,s5,s6⟩:=S5 R;obtain⟨i,C,H⟩:=z7 hz;rw[D9 C]at r;rw[ax7 C]at U;have S:=N4 s1;have q:=o7.alloc w (.cells #[.int .i64 y] T);have E:b<w.heap.size:=(dN0.1 O).1;have m:(w.alloc (.cells #[.int .i64 y] T)).heap[b]?=some (.cells g T (0,0)):=(q.block b E id).trans O;have k:∀j u,[Value.int .i64 y][j]?=some u->(w.alloc (.cells #[.int .i64 y] T)).cell? ((⟨w.heap.size,0,none⟩:Addr).add j)=some u:=by
   intro j u d;have D:(⟨w.heap.size,0,none⟩:Addr).add j=⟨w.heap.size,j,none⟩:=by unfold Addr.add;split<;>simp_all
   rw[D,dY2];simpa using d
  generalize K:w.alloc (.cells #[.int .i64 y] T)=f at *;by_cases hroom:xs.length+1<=c
  ·have s:=run_append_room_cells (P:=P) f t e T i S C b a xs.length c ⟨w.heap.size,0,none⟩ 1 1 [.int .i64 y] (by simp[r]) k (by simp[Value.oneCell']) hroom
    (λj d=>by
     simp only[dP4,dT9]at d;rw[r,dU3 f b _ g T (0,0) m,dV8 (by omega)];rfl)
    (λj _=>frozen_of_row f b _ g T m)
   rw[r,dT8]at s;simp only[World.setCells]at s;refine⟨_,_,s,.inr ⟨b,a,c,g.setIfInBounds (a+xs.length) (.int .i64 y),by simp,Y,heap_setCell_same f b (a+xs.length) g T _ m,by simpa using hroom,Z,by simpa using h5,λj x d=>?_⟩,?_,λV o=>.inl o⟩
   ·rw[Array.getElem?_setIfInBounds];by_cases hjx:j<xs.length
    ·rw[dR6 hjx]at d;rw[if_neg (by omega)];exact Q j x d
    ·rw[dR4 (by omega)]at d;have I:j-xs.length=0:=by
      have:=(dM9.1 d).1;simp at this;omega
     rw[I]at d;simp at d;subst d;rw[if_pos (by omega),if_pos (by omega)]
   ·exact(q.weaken λ_ _ h=>h.elim).trans (o9.setCell _ _ _ (by simp[A3,Value.ownBlock]))
  ·have p:∀j u,((N6 xs))[j]?=some u->f.cell? ((⟨b,a,none⟩:Addr).add j)=some u:=by
    intro j u d;have D:(⟨b,a,none⟩:Addr).add j=⟨b,a+j,none⟩:=by unfold Addr.add;split<;>simp_all
    rw[D,dU3 f b (a+j) g T (0,0) m];simp only[N6,dP9]at d;obtain⟨x,M,N⟩:=Option.map_eq_some_iff.1 d;rw[Q j x M,<-N]
   have s:=run_append_grow (P:=P) f t e T i z S C H ⟨b,a,none⟩ xs.length c (N6 xs) (by simp[N6,r]) p ⟨w.heap.size,0,none⟩ 1 1 [.int .i64 y] (by simp[r]) k (by omega)
    (by omega) (growslice_fits (by omega) (by rw[U];exact hb))
   have G:=grownCap_ge f (xs.length+1) c T;have F:=grownCap_le_maxLen f (xs.length+1) c T (by simp only[maxLen];omega);have ab:f.heap.size=w.heap.size+1:=by rw[<-K];simp
   refine⟨_,_,s,.inr ⟨f.heap.size,0,_,_,by simp,aB8 hw (by omega),dQ5 f.drew _,by simpa using G,F,?_,λj x d=>?_⟩,?_,λV o=>?_⟩
   ·simp only[Array.size_append,dW4,size_zeroCells,L,N6,dN4,dP4,dT9];omega
   ·rw[dQ2];have J:=(dM9.1 d).1;simp only[dM7,dP4,dT9]at J;have W:((N6 xs).toArray++#[Value.int .i64 y])=(N6 (xs++[y])).toArray:=by simp[N6]
    have X:([Value.int .i64 y].toArray)=#[Value.int .i64 y]:=rfl;rw[Array.getElem?_append_left (by simp[N6];omega),X,W,List.getElem?_toArray];simp only[N6,dP9,d];rfl
   ·refine(q.weaken λ_ _ h=>h.elim).trans ?_;exact o9.trans ((o7.drew f).weaken (λ_ _ h=>h.elim)) ((o7.alloc f.drew _).weaken (λ_ _ h=>h.elim))
   ·simp[A3,Value.ownBlock]at o;exact .inr (by omega)
end
section
variable {P:Program} {h:Hp} {w:World} {t T:TypeId} {v:Value}
def ad4.set{xs:List Int}(A:ad4 h w T v xs){k:Nat}(l:k<xs.length)(y:Int){f:TypeInfo}(d:P.info? t=some f)(B:f.size=1):
  ∃g,(Instr.storeAt t (.pointer (some (G4 v k))) (.int .i64 y)).run P w = .ok () g/\ad4 h g T v (xs.set k y)/\o9 (A3 v) w g:=by
 rcases A with⟨rfl,rfl⟩|⟨b,a,c,m,rfl,n,o,p,q,r,s⟩
 ·simp at l
 ·have u:(⟨b,a,.none⟩:Addr).add k=⟨b,a+k,.none⟩:=by unfold Addr.add;split<;>simp_all
  obtain⟨g,C,D,E⟩:=ag5 (P:=P) (t:=t) (i:=a+k) (x:=.int .i64 y) o (by omega) rfl rfl d B;refine⟨g,by simp only[G4,u];exact C,.inr ⟨b,a,c,_,by simp,n,D,by simpa using p,q,by simpa using r,λj x e=>?_⟩,E.weaken λF _ z=>by subst z;rfl⟩;rw[Array.getElem?_setIfInBounds];rw[List.getElem?_set]at e;by_cases hkj:k=j
  ·subst hkj;rw[if_pos rfl,if_pos l]at e;obtain rfl:=dO3 e;rw[if_pos rfl,if_pos (by omega)]
  ·rw[if_neg hkj]at e;rw[if_neg (by omega)];exact s j x e
end
structure ST (w0 w:World) (rb gb:Nat) (ui uw vt:Value) (us:List U1) (ins:List (List W)) (waits:List Bool) (todo:List Int) (T:Int):Prop where
 rows:I6 (i4 w0) w 332 167 ui us ins
 wts:A8 (i4 w0) w 4 uw waits
 q:ad4 (i4 w0) w 3 vt todo
 cg:w.heap[gb]?=some (.cells #[.slice none 0 0,.int .i64 T] 295 (0,0))
 cr:w.heap[rb]?=some (.cells #[.slice none 0 0,.int .i64 0] 295 (0,0))
 d1:∀b,L6 ui us b->¬A3 vt b/\¬A3 uw b/\b≠gb/\b≠rb
 d2:∀b,A3 vt b->¬A3 uw b/\b≠gb/\b≠rb
 d3:∀b,A3 uw b->b≠gb/\b≠rb
 d4:gb≠rb
 ext:o7 w0 w
 fg:w0.heap.size<=gb
 frb:w0.heap.size<=rb
section
variable {w0 w:World} {rb gb:Nat} {ui uw vt:Value} {us:List U1} {ins:List (List W)} {waits:List Bool} {todo:List Int} {T:Int}
def ST.lg(s:ST w0 w rb gb ui uw vt us ins waits todo T):gb<w.heap.size:=(dN0.1 s.cg).1
def ST.lr(s:ST w0 w rb gb ui uw vt us ins waits todo T):rb<w.heap.size:=(dN0.1 s.cr).1
def ST.ge(s:ST w0 w rb gb ui uw vt us ins waits todo T){b:Nat}(hb:i4 w0 b=none):w0.heap.size<=b:=
 dZ9 λa=>by simp[i4,a]at hb
def ST.more(s:ST w0 w rb gb ui uw vt us ins waits todo T){b:World}(a:o7 w b):ST w0 b rb gb ui uw vt us ins waits todo T:=
 ⟨s.rows.ext a,s.wts.ext a,s.q.ext a,(a.block gb s.lg id).trans s.cg,(a.block rb s.lr id).trans s.cr,s.d1,s.d2,s.d3,s.d4,s.ext.trans a,s.fg,s.frb⟩
def ST.wait{P:Program}{t:TypeId}(s:ST w0 w rb gb ui uw vt us ins waits todo T){k:Nat}(g:k<waits.length)(y:Bool){d:TypeInfo}(c:P.info? t=some d)(i:d.size=1):
  ∃f,(Instr.storeAt t (.pointer (some (G4 uw k))) (.bool y)).run P w = .ok () f/\ST w0 f rb gb ui uw vt us ins (waits.set k y) todo T:=by
 obtain⟨f,j,l,e,m⟩:=E4 (P:=P) (t:=t) s.wts rfl g (x:=.bool y) (y:=y) rfl rfl c i;refine⟨f,j,s.rows.mod e λb a=>(s.d1 b a).2.1,l,s.q.mod e λb a=>(s.d2 b a).1,(e.block gb s.lg λh=>(s.d3 gb h).1 rfl).trans s.cg,(e.block rb s.lr λh=>(s.d3 rb h).2 rfl).trans s.cr,s.d1,s.d2,s.d3,s.d4,o9.ext_of s.ext e λb a=>s.ge (s.wts.free a),s.fg,s.frb⟩
def ST.wait2{P:Program}{t:TypeId}(s:ST w0 w rb gb ui uw vt us ins waits todo T){k:Nat}(g:k<waits.length)(y:Bool){e:TypeInfo}(d:P.info? t=some e)(i:e.size=1):
  ∃f,(Instr.storeAt t (.pointer (some (G4 uw k))) (.bool y)).run P w = .ok () f/\ST w0 f rb gb ui uw vt us ins (waits.set k y) todo T/\o9 (A3 uw) w f:=by
 obtain⟨f,j,l,a,m⟩:=E4 (P:=P) (t:=t) s.wts rfl g (x:=.bool y) (y:=y) rfl rfl d i;refine⟨f,j,⟨s.rows.mod a λb c=>(s.d1 b c).2.1,l,s.q.mod a λb c=>(s.d2 b c).1,(a.block gb s.lg λh=>(s.d3 gb h).1 rfl).trans s.cg,(a.block rb s.lr λh=>(s.d3 rb h).2 rfl).trans s.cr,s.d1,s.d2,s.d3,s.d4,o9.ext_of s.ext a λb c=>s.ge (s.wts.free c),s.fg,s.frb⟩,a⟩
def ST.times{P:Program}{t:TypeId}(s:ST w0 w rb gb ui uw vt us ins waits todo T)(T':Int){d:TypeInfo}(c:P.info? t=some d)(g:d.size=1):
  ∃f,(Instr.storeAt t (.pointer (some ⟨gb,1,none⟩)) (.int .i64 T')).run P w = .ok () f/\ST w0 f rb gb ui uw vt us ins waits todo T':=by
 obtain⟨f,j,k,e⟩:=ag5 (P:=P) (t:=t) (i:=1) (x:=.int .i64 T') s.cg (by simp) rfl rfl c g;refine⟨f,j,s.rows.mod e λb a=>(s.d1 b a).2.2.1,s.wts.mod e λb a=>(s.d3 b a).1,s.q.mod e λb a=>(s.d2 b a).2.1,k,(e.block rb s.lr λh=>s.d4 h.symm).trans s.cr,s.d1,s.d2,s.d3,s.d4,o9.ext_of s.ext e λb a=>by subst a;exact s.fg,s.fg,s.frb⟩
def ST.tail{x:Int}{a:List Int}(s:ST w0 w rb gb ui uw vt us ins waits (x::a) T):ST w0 w rb gb ui uw (reS vt 1 (a.length+1) 1) us ins waits a T:=by
 obtain⟨e,d⟩:=s.q.tail;exact⟨s.rows,s.wts,e,s.cg,s.cr,λb c=>⟨λh=>(s.d1 b c).1 ((d b).1 h),(s.d1 b c).2⟩,λb c=>s.d2 b ((d b).1 c),s.d3,s.d4,s.ext,s.fg,s.frb⟩
def ST.push{P:Program}{t e:TypeId}{a:Nat}(i:F4 P t 3 1 a=true)(s:ST w0 w rb gb ui uw vt us ins waits todo T)(y:Int)(o:todo.length+1<=1000000000000)(hb:(todo.length+1)*a<=140737488355328):
  (Instr.buildSlice t 1 #[(0,.int .i64 y)]).run P w = .ok (.slice (some ⟨w.heap.size,0,none⟩) 1 1) (w.alloc (.cells #[.int .i64 y] 3)) /\
  ∃d f,(Builtin.append_ #[t,t] e #[vt,.slice (some ⟨w.heap.size,0,none⟩) 1 1]).run P (w.alloc (.cells #[.int .i64 y] 3)) = .ok d f/\ST w0 f rb gb ui uw d us ins waits (todo++[y]) T:=by
 obtain⟨k,d,f,l,m,c,j⟩:=s.q.push (e:=e) i y o hb (b7 s.ext);refine⟨k,d,f,l,s.rows.mod c λb hb=>(s.d1 b hb).1,s.wts.mod c λb hb g=>(s.d2 b g).1 hb,m,(c.block gb s.lg λh=>(s.d2 gb h).2.1 rfl).trans s.cg,(c.block rb s.lr λh=>(s.d2 rb h).2.2 rfl).trans s.cr,λb hb=>⟨λh=>?_,(s.d1 b hb).2⟩,λb hb=>?_,s.d3,s.d4,o9.ext_of s.ext c λb hb=>s.ge (s.q.free hb),s.fg,s.frb⟩
 ·rcases j b h with h|h
  ·exact(s.d1 b hb).1 h
  ·have:=s.rows.lt hb;omega
 ·rcases j b hb with h|h
  ·exact s.d2 b h
  ·exact⟨λn=>by have:=s.wts.lt n;omega,by have:=s.lg;omega,by have:=s.lr;omega⟩
def ST.push2{P:Program}{t e:TypeId}{c:Nat}(j:F4 P t 3 1 c=true)(s:ST w0 w rb gb ui uw vt us ins waits todo T)(y:Int)(o:todo.length+1<=1000000000000)(hb:(todo.length+1)*c<=140737488355328):
  (Instr.buildSlice t 1 #[(0,.int .i64 y)]).run P w = .ok (.slice (some ⟨w.heap.size,0,none⟩) 1 1) (w.alloc (.cells #[.int .i64 y] 3)) /\
  ∃d f,(Builtin.append_ #[t,t] e #[vt,.slice (some ⟨w.heap.size,0,none⟩) 1 1]).run P (w.alloc (.cells #[.int .i64 y] 3)) = .ok d f/\ST w0 f rb gb ui uw d us ins waits (todo++[y]) T/\o9 (A3 vt) w f/\F0 w vt d:=by
 obtain⟨k,d,f,l,m,a,g⟩:=s.q.push (e:=e) j y o hb (b7 s.ext);refine⟨k,d,f,l,⟨s.rows.mod a λb hb=>(s.d1 b hb).1,s.wts.mod a λb hb i=>(s.d2 b i).1 hb,m,(a.block gb s.lg λh=>(s.d2 gb h).2.1 rfl).trans s.cg,(a.block rb s.lr λh=>(s.d2 rb h).2.2 rfl).trans s.cr,λb hb=>⟨λh=>?_,(s.d1 b hb).2⟩,λb hb=>?_,s.d3,s.d4,o9.ext_of s.ext a λb hb=>s.ge (s.q.free hb),s.fg,s.frb⟩,a,g⟩
 ·rcases g b h with h|h
  ·exact(s.d1 b hb).1 h
  ·have:=s.rows.lt hb;omega
 ·rcases g b hb with h|h
  ·exact s.d2 b h
  ·exact⟨λn=>by have:=s.wts.lt n;omega,by have:=s.lg;omega,by have:=s.lr;omega⟩
def ST.row(s:ST w0 w rb gb ui uw vt us ins waits todo T){e:World}{i:Nat}{u:U1}(f:us[i]?=some u){r:List W}(hm:o9 (A3 u.v) w e)(g:A8 (i4 w0) e 167 u.v r):ST w0 e rb gb ui uw vt us (ins.set i r) waits todo T:=by
 have d:∀b,A3 u.v b->L6 ui us b:=λb a=>.inr ⟨u,dO4 f,a⟩;exact⟨s.rows.write f hm g,s.wts.mod hm λb a c=>(s.d1 b (d b c)).2.1 a,s.q.mod hm λb a c=>(s.d1 b (d b c)).1 a,(hm.block gb s.lg λh=>(s.d1 gb (d gb h)).2.2.1 rfl).trans s.cg,(hm.block rb s.lr λh=>(s.d1 rb (d rb h)).2.2.2 rfl).trans s.cr,s.d1,s.d2,s.d3,s.d4,o9.ext_of s.ext hm λb a=>s.ge (s.rows.free (d b a)),s.fg,s.frb⟩
def ST.put{P:Program}{t:TypeId}(s:ST w0 w rb gb ui uw vt us ins waits todo T){n:World}(p:o7 w n){i:Nat}{u:U1}(q:us[i]?=some u){u':Value}{r:List W}(v:A8 (i4 w0) n 167 u' r)(o:∀b,A3 u' b->w.heap.size<=b){g:TypeInfo}(e:P.info? t=some g)(y:g.size=1):
  ∃k,(Instr.storeAt t (.pointer (some (G4 ui i))) u').run P n = .ok () k/\ST w0 k rb gb ui uw vt (us.set i ⟨u'⟩) (ins.set i r) waits todo T:=by
 obtain⟨k,z,A,j,C⟩:=s.rows.put (P:=P) (t:=t) q (p.weaken λ_ _ h=>h.elim) v (λb a=>.inr (o b a)) e y;have f:∀b,A3 ui b->L6 ui us b:=λb a=>.inl a;have d:=s.more p;refine⟨k,z,A,d.wts.mod j λb a c=>(s.d1 b (f b c)).2.1 a,d.q.mod j λb a c=>(s.d1 b (f b c)).1 a,(j.block gb d.lg λh=>(s.d1 gb (f gb h)).2.2.1 rfl).trans d.cg,(j.block rb d.lr λh=>(s.d1 rb (f rb h)).2.2.2 rfl).trans d.cr,λb a=>?_,s.d2,s.d3,s.d4,o9.ext_of d.ext j λb a=>s.ge (s.rows.free (f b a)),s.fg,s.frb⟩;rcases a with a|⟨x,m,a⟩
 ·exact s.d1 b (.inl a)
 ·rcases dU4 m with h|h
  ·exact s.d1 b (.inr ⟨x,h,a⟩)
  ·subst h;have B:=o b a;exact⟨λl=>by have:=s.q.lt l;omega,λl=>by have:=s.wts.lt l;omega,by have:=s.lg;omega,by have:=s.lr;omega⟩
def ST.qset{P:Program}{t:TypeId}(s:ST w0 w rb gb ui uw vt us ins waits todo T){k:Nat}(l:k<todo.length)(y:Int){e:TypeInfo}(d:P.info? t=some e)(m:e.size=1):
  ∃f,(Instr.storeAt t (.pointer (some (G4 vt k))) (.int .i64 y)).run P w = .ok () f/\ST w0 f rb gb ui uw vt us ins waits (todo.set k y) T:=by
 obtain⟨f,i,j,a⟩:=s.q.set (P:=P) (t:=t) l y d m;exact⟨f,i,s.rows.mod a λb c=>(s.d1 b c).1,s.wts.mod a λb c g=>(s.d2 b g).1 c,j,(a.block gb s.lg λh=>(s.d2 gb h).2.1 rfl).trans s.cg,(a.block rb s.lr λh=>(s.d2 rb h).2.2 rfl).trans s.cr,s.d1,s.d2,s.d3,s.d4,o9.ext_of s.ext a λb c=>s.ge (s.q.free c),s.fg,s.frb⟩
end
def bB3(w:World):(Instr.alloc 295 true (.tuple #[])).run prog w = .ok (.pointer (some ⟨w.heap.size,0,none⟩)) (w.alloc (.cells #[.slice none 0 0,.int .i64 0] 295)):=
 (aJ0 (P:=prog) (T:=295) bf5 (by rw[ah9];rfl) (cs:=#[.slice none 0 0,.int .i64 0]) (by rw[ah9];rfl) (by simp[Value.oneCell'])).1
def goW(g r k:List W)(i:Nat):W:=g.getD i 0#64 ||| (r.getD i 0#64 &&& ~~~(k.getD i 0#64))
def ab6(g r k:List W)(m i:Nat):List W:=(List.range m).map λj=>if j<i then goW g r k j else 0#64
def bU7(g r k:List W)(m:Nat):ab6 g r k m 0=List.replicate m 0#64:=by
 unfold ab6;apply dS8 (by simp);intro i a b;simp
def ar9(g r k:List W)(m i:Nat):(ab6 g r k m i).length=m:=by simp[ab6]
theorem br5(g r k:List W)(m i j:Nat):(ab6 g r k m i)[j]?=if j<m then some (if j<i then goW g r k j else 0#64)else none:=by
 unfold ab6;rw[dP9];by_cases hj:j<m
 ·rw[dU6 hj,if_pos hj];rfl
 ·rw[dV0 (by simp;omega),if_neg hj];rfl
def bU6(g r k:List W){m i:Nat}(a:i<m):(ab6 g r k m i).set i (goW g r k i)=ab6 g r k m (i+1):=by
 apply dZ5;intro j;rw[List.getElem?_set,br5,br5,ar9];by_cases e:i=j
 ·subst e;rw[if_pos rfl,if_pos a,if_pos a,if_pos (by omega)]
 ·rw[if_neg e];by_cases h3:j<i
  ·rw[if_pos h3,if_pos (show j<i+1 by omega)]
  ·rw[if_neg h3,if_neg (show ¬j<i+1 by omega)]
def cg4(g r k:List W){m:Nat}(c:g.length=m)(d:r.length=m)(e:k.length=m)(f:Nat):Q8 (ab6 g r k m m) f=(Q8 g f||(Q8 r f && !Q8 k f)):=by
 unfold Q8;by_cases hi:f / 64<m
 ·have b:(ab6 g r k m m).getD (f / 64) 0#64=goW g r k (f / 64):=by
   unfold ab6;simp only[List.getD,dP9,dU6 hi,dS5,dR9];rw[if_pos hi]
  rw[b];unfold goW;rw[BitVec.getLsbD_or,BitVec.getLsbD_and,BitVec.getLsbD_not];have:f % 64<64:=Nat.mod_lt _ (by decide);simp[this]
 ·have a:∀l:List W,l.length=m->l.getD (f / 64) 0#64=0#64:=λl h=>by
   simp only[List.getD];rw[dV0 (by omega)];rfl
  rw[a _ (ar9 g r k m m),a g c,a r d];simp
def ST.ge'{w0 w:World}{h g:Nat}{i j k:Value}{us:List U1}{e:List (List W)}{a:List Bool}{c:List Int}{T:Int}(s:ST w0 w h g i j k us e a c T){f:World}{b:Nat}(hb:i4 f b=none):f.heap.size<=b:=
 dZ9 λd=>by simp[i4,d]at hb
def cD8(pg:Value)(nx pv:List (List Int))(vg vk:Value)(gs ks:List (List W))(gl kl:List (List Int))(most:Nat)(w:World)
  (cy:GR (i4 w) pg nx pv) (cw:aF9 nx.length (nx,pv)) (c6:R (i4 w) vg gs) (c7:R (i4 w) vk ks) (eI:cG7 most gl gs) (eJ:cG7 most kl ks) (bx:gl.length=nx.length) (cE:kl.length=nx.length) (ep:aU6 gl most) (eC:nx.length<=5000) (eB:most<=5000) :
  p7 prog 263 #[pg,vg,vk,.int .i64 most] w λu V=>((∃vi bS T,u = .agg #[vi,.int .i64 (T:Nat)]/\R (B6 V (λb=>b<w.heap.size)) vi bS/\bS.length=nx.length/\(∀b,H1 nx.length b=true->∃f:Nat->Bool,C9 bS b=((List.range most).filter f).map (λ(i:Nat)=>(i:Int))/\∀i,f i=true↔ax1 nx gl kl b i)/\nx.length<=T/\T<=nx.length+nx.length*most)/\o7 w V):=by
 refine p9 [pg,vg,vk,.int .i64 most] func263 rfl ?_;have aV:=bB3;simp only[J7,zVB,simprocAttr,aV];have c1:(w.alloc (.cells #[.slice none 0 0,.int .i64 0] 295)).heap[w.heap.size]?=some (.cells #[.slice none 0 0,.int .i64 0] 295 (0,0)):=dQ5 w _;have x1:=o7.alloc w (.cells #[.slice none 0 0,.int .i64 0] 295);have gM:(w.alloc (.cells #[.slice none 0 0,.int .i64 0] 295)).heap.size=w.heap.size+1:=by simp
 generalize w.alloc (.cells #[.slice none 0 0,.int .i64 0] 295)=w1 at *;have c2:(w1.alloc (.cells #[.slice none 0 0,.int .i64 0] 295)).heap[w1.heap.size]?=some (.cells #[.slice none 0 0,.int .i64 0] 295 (0,0)):=dQ5 w1 _;have x2:=o7.alloc w1 (.cells #[.slice none 0 0,.int .i64 0] 295);have gN:(w1.alloc (.cells #[.slice none 0 0,.int .i64 0] 295)).heap.size=w1.heap.size+1:=by simp
 generalize w1.alloc (.cells #[.slice none 0 0,.int .i64 0] 295)=w2 at *;have aS:=x1.trans x2;have cz:=cy.mono (b7 aS);refine y5 (cX0 pg nx pv w2 cz) ?_;rintro u bU ⟨hu,eN⟩;subst eN;subst hu;have hz:A4.enc (i4 w) (Value.slice none 0 0).cells.toList C8:=⟨rfl,rfl⟩;obtain⟨ui,w3,m1,o1,x3,f1,s1⟩:=mk (P:=prog) (w:=bU) (h:=i4 w) dj2 bf6 (α:=U1) (y:=C8) hz (n:=nx.length) (by omega) (by omega) (b7 aS);obtain⟨ut,w4,m2,o2,x4,f2,s2⟩:=mk (P:=prog) (w:=w3) (h:=i4 w) U2 aw5 (α:=Int) (y:=0) rfl (n:=nx.length) (by omega) (by omega) (b7 (aS.trans x3));obtain⟨uw,w5,m3,o3,x5,f3,s3⟩:=mk (P:=prog) (w:=w4) (h:=i4 w) bw9 T5 (α:=Bool) (y:=false) rfl (n:=nx.length) (by omega) (by omega) (b7 ((aS.trans x3).trans x4));have dG:=(x3.trans x4).trans x5;have l1:w.heap.size<bU.heap.size:=by omega
 have l2:w1.heap.size<bU.heap.size:=by omega
 have ek:w5.heap[w.heap.size]?=some (.cells #[.slice none 0 0,.int .i64 0] 295 (0,0)):=(dG.block _ l1 id).trans ((x2.block _ (by omega) id).trans c1);have ej:w5.heap[w1.heap.size]?=some (.cells #[.slice none 0 0,.int .i64 0] 295 (0,0)):=(dG.block _ l2 id).trans c2;have dz:ST w w5 w.heap.size w1.heap.size ui uw ut (List.replicate nx.length C8) (List.replicate nx.length []) (List.replicate nx.length false) (List.replicate nx.length 0) 0:=by
  refine⟨af5 ((o1.ext x4).ext x5),o3,(o2.ext x5).toQ,ej,ek,λb p=>?_,λb p=>⟨λh=>?_,?_,?_⟩,λb p=>⟨?_,?_⟩,by omega,((aS.trans x3).trans x4).trans x5,by omega,dO0 _⟩
  ·have ch:=ac8 p;have k1:=f1 b ch;have k2:=o1.lt ch;exact⟨λh=>by have:=f2 b h;omega,λh=>by have:=f3 b h;omega,by omega,by omega⟩
  ·have:=o2.lt p;have:=f3 b h;omega
  ·have:=f2 b p;omega
  ·have:=f2 b p;omega
  ·have:=f3 b p;omega
  ·have:=f3 b p;omega
 have Si:=o1.isS;have ni:=o1.vlen;rw[dR7]at ni;have G:=cw.nx;generalize eF:w.heap.size=rb at *;generalize gf:w1.heap.size=gb at *;have q1:=bK0 (P:=prog) (t:=3) most (by omega);have q2:B4 prog .add 3 (.int .i64 ((most / 64:Nat):Int)) (.int .i64 1)=some (.int .i64 ((most / 64+1:Nat):Int)):=by
  simp only[B4,E5,dS6];rw[B0 _ (by omega)]
 have fy:most / 64+1<=100:=by omega
 obtain⟨cW,cX⟩:=eI;obtain⟨cY,cZ⟩:=eJ;generalize aX:most / 64+1=m at *;generalize aW:most / 64=m6 at *;simp only[J7,O5,N7,simprocAttr,m1,m2,m3,Si,ni];refine n9 [0,1,2,3,8,9,10,11,12,13,29,30] (σ:=Nat) (λk f V=>f 31 = .int .i64 k/\k<=nx.length/\∃us d q z,ST w V rb gb ui uw ut us d q z 0/\d.length=nx.length/\q.length=nx.length/\z.length=nx.length/\∀j:Nat,j<k->d[j]?=some (List.replicate m 0#64)/\q[j]?=some true/\z[j]?=some (j:Int)) (λk=>nx.length-k) 0 ?_ ?_
 ·simp only[p8,simprocAttr];exact⟨by first|rfl|trivial,dN6 _,_,_,_,_,dz,by simp,by simp,by simp,λj hj=>by omega⟩
 ·rintro k f w6 hk ⟨b8,cC,us,d,q,z,D,li,lw,lt,O⟩;simp only[dM6,p8,simprocAttr]at hk;obtain⟨e0,e1,e2,e3,e8,e9,d8,b3,b4,b5,ga,ea,_⟩:=hk;simp only[J7,B4,E5,simprocAttr,b8,ea];refine n7 (λX=>?_) (λX=>?_)
  ·have cK:k<nx.length:=by simpa using X
   have q6:B4 prog .add 3 (.int .i64 k) (.int .i64 1)=some (.int .i64 ((k+1:Nat):Int)):=by
    simp only[B4,E5,dS6];rw[B0 k (by omega)]
   obtain⟨ur,w7,m4,o4,x7,f4,s4⟩:=mk (P:=prog) (w:=w6) (h:=i4 w) do1 aE2 (α:=W) (y:=0#64) rfl (n:=m) (by omega) (by omega) (b7 D.ext);have bR:us.length=nx.length:=by rw[D.rows.len,li]
   have c5:us[k]?=some (us[k]'(by omega)):=dM4 _;generalize us[k]'(by omega)=u at c5;obtain⟨w8,t1,bT⟩:=D.put (P:=prog) (t:=332) x7 c5 o4 f4 (z7 bf6).choose_spec.1 (by rw[<-D9 (z7 bf6).choose_spec.1];exact cm2);obtain⟨w9,t2,a5⟩:=bT.qset (P:=prog) (t:=3) (k:=k) (by omega) (k:Int) (z7 aw5).choose_spec.1 (by rw[<-D9 (z7 aw5).choose_spec.1];exact aZ7);obtain⟨a9,t3,M⟩:=a5.wait (P:=prog) (t:=4) (k:=k) (by omega) true (z7 T5).choose_spec.1 (by rw[<-D9 (z7 T5).choose_spec.1];exact aE1);have eR:=D.rows.outer.inS (k:=k) (by omega);have eS:=D.q.inS (k:=k) (by omega);have eT:=D.wts.inS (k:=k) (by omega);simp only[J7,zVB,y0,simprocAttr,b8,b3,b4,b5,e3,q1,q2,m4,eR,eS,eT,t1,t2,t3,q6];refine⟨k+1,by omega,by trivial,by omega,_,_,_,_,M,by simp[li],by simp[lw],by simp[lt],λj hj=>?_⟩;by_cases hjk:j=k
   ·subst hjk;exact⟨dT3 (by omega),dT3 (by omega),dT3 (by omega)⟩
   ·rw[dU7 (λe=>hjk e.symm),dU7 (λe=>hjk e.symm),dU7 (λe=>hjk e.symm)];exact O j (by omega)
  ·have eu:k=nx.length:=by simp at X;omega
   subst eu;have bg:d=List.replicate nx.length (List.replicate m 0#64):=by
    apply dS8 (by simp[li]);intro j h1 h2;have:=(O j (by omega)).1;rw[dM4 h1]at this;simpa using this
   have bn:q=List.replicate nx.length true:=by
    apply dS8 (by simp[lw]);intro j h1 h2;have:=(O j (by omega)).2.1;rw[dM4 h1]at this;simpa using this
   have bL:z=(List.range nx.length).map λ(i:Nat)=>(i:Int):=by
    apply dS8 (by simp[lt]);intro j h1 h2;have:=(O j (by omega)).2.2;rw[dM4 h1]at this;simpa using this
   have dy:SI nx gl kl most d z q 0:=by
    refine SI.start (by rw[bg,<-aX,<-aW]) (λa=>?_) ?_ lt bn
    ·rw[bL,dO7,B3];constructor
     ·rintro⟨i,hi,rfl⟩;have:=dQ6.1 hi;omega
     ·rintro⟨h1,h2⟩;exact⟨a.toNat,dQ6.2 (by omega),by omega⟩
    ·rw[bL];refine List.Pairwise.map _ (λa b h=>?_) (List.nodup_range (n:=nx.length));omega
   simp only[J7,simprocAttr];clear O bg bn bL li lw lt dz;have q3:∀T:Nat,T<=100000000->B4 prog .add 3 (.int .i64 (T:Int)) (.int .i64 1)=some (.int .i64 ((T+1:Nat):Int)):=λT hT=>by
    simp only[B4,E5,dS6];rw[B0 T (by omega)]
   refine n9 [0,1,2,3,8,9,10,11,13] (σ:=List (List W)×List Int) (λs f V=>∃q T,ST w V rb gb ui uw (f 12) us s.1 q s.2 (T:Nat)/\SI nx gl kl most s.1 s.2 q T) (λs=>dh9 nx.length most s.1 s.2) (d,z) ?_ ?_
   ·simp only[p8,simprocAttr];simp only[b4];exact⟨q,0,D,dy⟩
   ·clear D dy d q z;rintro⟨d,z⟩ f w7 hk ⟨q,T,D,Q⟩;simp only[dM6,p8,simprocAttr]at hk;simp only[e0,e1,e2,e3,e8,e9,d8,b3,b5]at hk;obtain⟨i0,i1,i2,i3,i8,i9,df,bO,dg,_⟩:=hk;simp only at D Q;generalize c8:f 12=vt at *;have Sq:=D.q.isS;have nq:=D.q.vlen;have eE:=aX3 most d;rw[Q.ilen]at eE;have gm:nx.length*most<=25000000:=dN1 (Nat.mul_le_mul eC eB) (by decide);have cj:=Q.few;simp only[J7,O5,B4,E5,N7,simprocAttr,c8,Sq,nq];refine n7 (λX=>?_) (λX=>?_)
    ·have cR:0<z.length:=by simpa using X
     obtain⟨a,C,rfl⟩:∃a C,z=a::C:=by
      cases z with
      | nil=>simp at cR
      | cons a C=>exact⟨a,C,rfl⟩
     have an:H1 nx.length a=true:=Q.ok a (by simp);have cB:=B3.1 an;have d0:decide (0<=a)=true:=by simpa using cB.1
     have eV:=D.q.inS (k:=0) (by simp);have fe:=D.q.head (P:=prog) (t:=3) G3;have eM:=D.q.vcap;have d1:decide ((1:Int)<=(((a::C).length:Nat):Int))=true:=by simp;omega
     have d2:decide ((((a::C).length:Nat):Int)<=(vcap vt:Int))=true:=by
      have h9:=eM;simp only[dP4]at h9 ⊢;simp;omega
     have bT:=D.tail;have eA:(a::C).length=C.length+1:=rfl;rw[eA]at nq d1 d2;obtain⟨w8,t2,a5⟩:=bT.wait (P:=prog) (t:=4) (k:=a.toNat) (by rw[Q.wlen];omega) false (z7 T5).choose_spec.1 (by rw[<-D9 (z7 T5).choose_spec.1];exact aE1);have eW:=D.wts.inS (k:=a.toNat) (by rw[Q.wlen];omega);have fc:=E2 (P:=prog) (t:=3) (i:=1) (u:=.int .i64 (T:Int)) a5.cg rfl G3;have cf:T<=100000000:=by simp only[dP4]at cj;omega
     have qT:=q3 T cf;obtain⟨w9,t3,M⟩:=a5.times (P:=prog) (t:=3) ((T+1:Nat):Int) (z7 aw5).choose_spec.1 (by rw[<-D9 (z7 aw5).choose_spec.1];exact aZ7);obtain⟨ug,a9,m4,o4,dF,f4,s4⟩:=mk (P:=prog) (w:=w9) (h:=i4 w9) do1 aE2 (α:=W) (y:=0#64) rfl (n:=m) (by omega) (by omega) (i5 _);have gL:=M.more dF;have Sg:=o4.isS;have ng:=o4.vlen;rw[dR7]at ng;generalize bI:C.length+1=rl at *;generalize c9:reS vt 1 rl 1=ao at *;generalize bu:((T+1:Nat):Int)=T1 at *;simp only[J7,zVB,y0,F8,N7,simprocAttr,c8,Sq,nq,eV,fe,d1,d2,c9,dg,eW,d0,t2,i9,fc,qT,t3,i3,q1,q2,m4,Sg,ng];have aV:a.toNat<nx.length:=by omega
     have cx:gl[a.toNat]?=some (C9 gl a):=(ao7 (nx:=gl) (by rw[bx];exact an)).1;have cD:kl[a.toNat]?=some (C9 kl a):=(ao7 (nx:=kl) (by rw[cE];exact an)).1;obtain⟨g,es,cn,et⟩:=cX _ _ cx;obtain⟨kk,ey,cA,ez⟩:=cZ _ _ cD;rw[aW,aX]at cn cA;obtain⟨xg,bM,bd⟩:=c6.row es;obtain⟨xk,bN,be⟩:=c7.row ey;have aw:=ak9 Q.ilen an;have cT:(wAt d a).length=m:=by rw[<-aX,<-aW];exact Q.rlen _ (dO4 aw)
     have bR:us.length=nx.length:=by rw[D.rows.len,Q.ilen]
     have ag:us[a.toNat]?=some (us[a.toNat]'(by omega)):=dM4 _;generalize us[a.toNat]'(by omega)=ua at ag;have dh:=c6.inS (k:=a.toNat) (by rw[cW,bx];exact aV);have a2:=c7.inS (k:=a.toNat) (by rw[cY,cE];exact aV);have dj:=D.rows.outer.inS (k:=a.toNat) (by omega);have bz:=cg4 g (wAt d a) kk cn cT cA;refine n9 [0,1,2,3,8,9,10,11,12,13,15,16,68,69] (σ:=Nat) (λi f V=>f 70 = .int .i64 i/\i<=m/\A8 (i4 w9) V 167 ug (ab6 g (wAt d a) kk m i)/\o7 w9 V) (λi=>m-i) 0 ?_ ?_
     ·simp only[p8,simprocAttr];exact⟨by first|rfl|trivial,dN6 _,by rw[bU7];exact o4,dF⟩
     ·rintro i f aa hk ⟨bs,gh,aY,U⟩;simp only[dM6,p8,simprocAttr]at hk;simp only[i0,i1,i2,i3,i8,i9,df,bO,dg]at hk;obtain⟨j0,j1,j2,j3,j8,j9,dk,a3,eZ,e4,aM,dm,gr,e7,_⟩:=hk;simp only[J7,B4,E5,simprocAttr,bs,e7];refine n7 (λX=>?_) (λX=>?_)
      ·have bB:i<m:=by simpa using X
       have q6:B4 prog .add 3 (.int .i64 i) (.int .i64 1)=some (.int .i64 ((i+1:Nat):Int)):=by
        simp only[B4,E5,dS6];rw[B0 i (by omega)]
       have hd:=o7.drew aa;have F:=(M.more U).more hd;have cF:=H7 (P:=prog) (t:=332) bd (b7 F.ext) bf2;have cG:=H7 (P:=prog) (t:=332) be (b7 F.ext) bf2;have cH:=aD3 (P:=prog) (t:=332) F.rows ag bf2;have af:=F.rows.row _ _ _ ag aw;have v1:=M4 (P:=prog) (t:=167) bM (b7 F.ext) (bf9 (show i<g.length by omega)) an2;have v2:=M4 (P:=prog) (t:=167) bN (b7 F.ext) (bf9 (show i<kk.length by omega)) an2;have v3:=D3 (P:=prog) (t:=167) af (bf9 (show i<(wAt d a).length by omega)) an2;have y1:=bM.inS (k:=i) (by omega);have y2:=bN.inS (k:=i) (by omega);have y3:=af.inS (k:=i) (by omega);have ex:goW g (wAt d a) kk i=g.getD i 0#64 ||| ((wAt d a).getD i 0#64 &&& ~~~(kk.getD i 0#64)):=rfl;have c0:=bU6 g (wAt d a) kk bB;rw[ex]at c0;simp only[I4.val]at v1 v2 v3;generalize g.getD i 0#64=gi at *;generalize(wAt d a).getD i 0#64=ri at *;generalize kk.getD i 0#64=ki at *;have b1:=bB7 (P:=prog) (t:=167) ri ki;have b2:=cI8 (P:=prog) (t:=167) gi (ri &&& ~~~ki);have di:=aY.inS (k:=i) (by rw[ar9];exact bB);obtain⟨S,t4,o5,m5,_⟩:=E4 (P:=prog) (t:=167) (aY.ext hd) rfl (k:=i) (by rw[ar9];exact bB) (x:=.int .u64 (((gi ||| (ri &&& ~~~ki)).toNat:Nat):Int)) (y:=(gi ||| (ri &&& ~~~ki))) rfl rfl (z7 aE2).choose_spec.1 (by rw[<-D9 (z7 aE2).choose_spec.1];exact bP3);rw[c0]at o5;simp only[J7,simprocAttr,bs];refine C0 (λw3=>w3=aa.drew) 25 (A5 [0,1,2,3,4,5,6,7,8,9,10,11,12,13,14,15,16,17,18,19,20,21,22,23,24]) ?_;simp only[D6,A5,J7,zVB,y0,simprocAttr,dm,j1,aM,d0,dh];refine⟨xg,λw3 e=>by subst e;exact cF,?_⟩;simp only[D6,J7,zVB,y0,simprocAttr,y1];refine⟨.int .u64 (gi.toNat:Nat),λw3 e=>by subst e;exact v1,?_⟩;simp only[D6,J7,zVB,y0,simprocAttr,a3,aM,d0,dj];refine⟨ua.v,λw3 e=>by subst e;exact cH,?_⟩;simp only[D6,J7,zVB,y0,simprocAttr,y3];refine⟨.int .u64 (ri.toNat:Nat),λw3 e=>by subst e;exact v3,?_⟩;simp only[D6,J7,zVB,y0,simprocAttr,j2,aM,d0,a2];refine⟨xk,λw3 e=>by subst e;exact cG,?_⟩;simp only[D6,J7,zVB,y0,simprocAttr,y2];refine⟨.int .u64 (ki.toNat:Nat),λw3 e=>by subst e;exact v2,?_⟩;simp only[D6,J7,zVB,y0,simprocAttr,b1,b2,di,t4,bs,q6];exact⟨i+1,by omega,by trivial,by omega,o5,(aY.ext hd).ext2 (U.trans hd) m5⟩
      ·have ct:i=m:=by simp at X;omega
       subst ct;clear ag dh a2 dj bM bN bd be;have co:∀f,Q8 (ab6 g (wAt d a) kk i i) f=true↔bQ5 gl kl d a f:=by
        intro f;rw[bz f,dX4,dO8,Bool.not_eq_true',et f];have h8:=ez f;unfold bQ5 al7;constructor
        ·rintro(h|⟨h9,aU⟩)
         ·exact .inl h
         ·exact .inr ⟨h9,λed=>by rw[h8.2 ed]at aU;cases aU⟩
        ·rintro(h|⟨h9,aU⟩)
         ·exact .inl h
         ·refine .inr ⟨h9,?_⟩;cases e:Q8 kk f
          ·rfl
          ·exact absurd (h8.1 e) aU
       have ar:∀f,Q8 (ab6 g (wAt d a) kk i i) f=true->f<most/\∀b∈C9 nx a,ax1 nx gl kl b f:=by
        intro f hf;rcases(co f).1 hf with h|⟨h1,h2⟩
        ·refine⟨?_,λb p=>.gen p h⟩;have:=ep _ (as8 (nx:=gl) (by rw[bx];exact an)) _ h;omega
        ·exact⟨Q.low a f an h1,λb p=>.step p (Q.sound a f an h1) h2⟩
       have H:(ab6 g (wAt d a) kk i i).length=most / 64+1:=by rw[ar9,aW,aX]
       have fk:=Q.pop co;have F:=M.more U;have cO:=aY.down (b7 M.ext);have bA:=cy.mono (b7 F.ext);have er:∀b,A3 ug b->w9.heap.size<=b:=λb p=>f4 b p;generalize ab6 g (wAt d a) kk i i=gw at *;simp only[J7,simprocAttr,j0,aM];refine y5 (cG3 pg nx pv a aa bA (by rw[cw.pv.len]) (λx hx=>dN1 (G.row_len hx) (by omega))) ?_;rintro un S ⟨aZ,bo⟩;have Sn:=aZ.isS;have nn:=aZ.vlen;have bq:=F.more bo;have aH:=cO.ext bo;have bj:=aZ.down (b7 F.ext);have eq:∀b,A3 un b->aa.heap.size<=b:=λb p=>bq.ge' (aZ.free p);have cV:(C9 nx a).length<=nx.length:=G.rowlen a;simp only[J7,O5,N7,simprocAttr,Sn,nn];refine n9 [0,1,2,3,8,9,10,11,13,15,16,102,103] (σ:=Nat) (λk f V=>f 104 = .int .i64 k/\k<=(C9 nx a).length/\∃E J A,ST w V rb gb ui uw (f 12) us E A J T1/\SJ nx gl kl most a gw k E J A (T+1)/\J.length+aJ8 most d<=C.length+aJ8 most E/\o9 (λb=>L6 ui us b\/A3 uw b\/A3 ao b\/S.heap.size<=b) S V/\∀b,A3 (f 12) b->A3 ao b\/S.heap.size<=b) (λk=>(C9 nx a).length-k) 0 ?_ ?_
       ·simp only[p8,simprocAttr];simp only[eZ];exact⟨by trivial,dN6 _,d,C,_,bq,fk,dO0 _,o9.refl _,λb p=>.inl p⟩
       ·rintro k f ba hk ⟨ae,cC,E,J,A,ah,sj,fz,aG,au⟩;simp only[dM6,p8,simprocAttr]at hk;simp only[j0,j1,j2,j3,j8,j9,dk,a3,e4,aM,dm]at hk;obtain⟨k0,k1,k2,k3,k8,k9,gu,fa,dr,gv,fb,dp,dq,_⟩:=hk;generalize I:f 12=fU at *;simp only[J7,B4,E5,simprocAttr,ae,dq];refine n7 (λX=>?_) (λX=>?_)
        ·have Y:k<(C9 nx a).length:=by simpa using X
         have cc:∀b,A3 ug b->¬(L6 ui us b\/A3 uw b\/A3 ao b\/S.heap.size<=b):=λb p N=>by
          have h1:=er b p;rcases N with N|N|N|N
          ·have:=M.rows.lt N;omega
          ·have:=M.wts.lt N;omega
          ·have:=M.q.lt N;omega
          ·have:=aH.lt p;omega
         have ef:∀b,A3 un b->¬(L6 ui us b\/A3 uw b\/A3 ao b\/S.heap.size<=b):=λb p N=>by
          have h1:=eq b p;have h2:=U.size;rcases N with N|N|N|N
          ·have:=M.rows.lt N;omega
          ·have:=M.wts.lt N;omega
          ·have:=M.q.lt N;omega
          ·have:=bj.lt p;omega
         have bE:=aH.mod aG cc;have bG:=bj.mod aG ef;have cU:=bG.rw_ (b7 ah.ext);have ik:=cU.inS Y;have bP:=M4 (P:=prog) (t:=3) cU (i5 _) (dM4 Y) G3;simp only[I4.val]at bP;have aq:(C9 nx a)[k]?=some (C9 nx a)[k]:=dM4 Y;have K:=(G.row a).2 _ (dN5 Y);generalize(C9 nx a)[k]=b at bP aq K;have bw:=B3.1 K;have db:decide (0<=b)=true:=by simpa using bw.1
         have ci:b.toNat<nx.length:=by omega
         have ax:us[b.toNat]?=some (us[b.toNat]'(by omega)):=dM4 _;generalize us[b.toNat]'(by omega)=ub at ax;have eU:=ah.rows.outer.inS (k:=b.toNat) (by omega);have fd:=aD3 (P:=prog) (t:=332) ah.rows ax bf2;have bl:=ak9 sj.ilen K;have af:=ah.rows.row _ _ _ ax bl;have aJ:(wAt E b).length=gw.length:=by rw[H];exact sj.rlen _ (dO4 bl)
         have bh:B5 (i4 w) (aO7 ba ub.v):=λx o e=>by
          have hn:¬A3 ub.v x:=λbv=>by rw[af.free bv]at e;cases e
          rw[aL7 hn];exact b7 ah.ext x o e
         have bJ:=af.rebase (b7 ah.ext);have en:∀x,A3 ug x->¬A3 ub.v x:=λx hx eO=>cc x hx (.inl (.inr ⟨ub,dO4 ax,eO⟩));have eg:=bE.beside (v:=ub.v) bh en;have q6:B4 prog .add 3 (.int .i64 k) (.int .i64 1)=some (.int .i64 ((k+1:Nat):Int)):=by
          simp only[B4,E5,dS6];rw[B0 k (by omega)]
         simp only[J7,O5,y0,simprocAttr,ae,dp,fa,fb,ik,bP,db,eU,fd];refine y5 (cN1 (aO7 ba ub.v) ub.v ug (wAt E b) gw ba bJ (cM4 ba ub.v) eg aJ (by rw[aJ,H];omega)) ?_;rintro rj fp ⟨eG,cN,bi⟩;have bD:=cN.down bh;have aj:=ah.row ax bi bD;have ap:o9 (λb=>L6 ui us b\/A3 uw b\/A3 ao b\/S.heap.size<=b) S fp:=aG.trans (bi.weaken λx _ hx=>.inl (.inr ⟨ub,dO4 ax,hx⟩));obtain⟨gn,eD⟩:=sj.pot H ar K;have bp:=aj.wts.inS (k:=b.toNat) (by rw[sj.wlen];exact ci);have dc:=N0 (l:=A) (b:=b) (by rw[sj.wlen];exact K);have da:A[b.toNat]?=some (A7 A b):=by
          rw[dc.2];simp[List.getD,dc.1]
         have bQ:=D3 (P:=prog) (t:=4) aj.wts da am6;simp only[I4.val]at bQ;generalize cL:ai6 (wAt E b) gw=mo at *;generalize bm:A7 A b=wb at *;subst eG;cases mo
         ·have aP:=sj.old G H ar aq K (.inl cL);simp only[J7,simprocAttr,ae,q6];exact⟨k+1,by omega,by trivial,by omega,_,_,_,by simpa only[I]using aj,aP,by omega,ap,by simpa only[I]using au⟩
         ·cases wb
          ·have aP:=sj.new G H ar aq K cL bm;obtain⟨gT,t5,dA,dt⟩:=aj.wait2 (P:=prog) (t:=4) (k:=b.toNat) (by rw[sj.wlen];exact ci) true (z7 T5).choose_spec.1 (by rw[<-D9 (z7 T5).choose_spec.1];exact aE1);have go:J.length+1<=100000000:=by
            have:=sj.few;have h8:=aX3 most E;rw[sj.ilen]at h8;omega
           obtain⟨p1,v',fq,p2,dB,fg,du⟩:=dA.push2 (P:=prog) (t:=24) (e:=24) U2 b (by omega) (by omega);have cb:o9 (λb=>L6 ui us b\/A3 uw b\/A3 ao b\/S.heap.size<=b) S fq:=(ap.trans (dt.weaken λx _ hx=>.inr (.inl hx))).trans (fg.weaken λx _ hx=>by
            rcases au x hx with h|h
            ·exact .inr (.inr (.inl h))
            ·exact .inr (.inr (.inr h)))
           have eL:=(ap.trans (dt.weaken λx _ hx=>.inr (.inl hx))).size;have cS:∀x,A3 v' x->A3 ao x\/S.heap.size<=x:=λx hx=>by
            rcases du x hx with h|h
            ·exact au x h
            ·exact .inr (by omega)
           simp only[J7,zVB,unV,y0,simprocAttr,ae,dr,db,bp,bQ,q6,t5,I,p1,p2];exact⟨k+1,by omega,by trivial,by omega,_,_,_,dB,aP,by simp only[dM7,dP4,dT9];have:=eD rfl;omega,cb,cS⟩
          ·have aP:=sj.old G H ar aq K (.inr bm);simp only[J7,zVB,unV,y0,simprocAttr,ae,dr,db,bp,bQ,q6];exact⟨k+1,by omega,by trivial,by omega,_,_,_,by simpa only[I]using aj,aP,by omega,ap,by simpa only[I]using au⟩
        ·have cu:k=(C9 nx a).length:=by simp at X;omega
         subst cu;have dx:=sj.fin rfl;simp only[J7,simprocAttr];have cQ:=aX3 most E;rw[dx.ilen]at cQ;exact⟨(E,J),by simp only[dh9,dP4];omega,A,T+1,by rw[bu];simpa only[I]using ah,dx⟩
    ·have cM:z=[]:=by
      cases z with
      | nil=>rfl
      | cons x C=>simp at X
     subst cM;obtain⟨cl,bu,ei⟩:=Q.fin G;have Si:=D.rows.outer.isS;have bR:us.length=nx.length:=by rw[D.rows.len,Q.ilen]
     have ni:vlen ui=nx.length:=by rw[D.rows.outer.vlen,bR]
     have cp:rb<w7.heap.size:=D.lr;have cq:gb<w7.heap.size:=D.lg;have eh:∀b,L6 ui us b->b<w7.heap.size:=λb p=>D.rows.lt p;have a1:=D.rows;have el:∀b,L6 ui us b->b≠gb/\b≠rb:=λb p=>(D.d1 b p).2.2;have em:=D.d4;have ck:=D.fg;have cm:=D.frb;simp only[J7,O5,N7,simprocAttr,bO,Si,ni];refine n9 [0,1,2,3,8,9,10,11,129,130] (σ:=Nat) (λk f V=>f 131 = .int .i64 k/\k<=nx.length/\(∃B,V.heap[gb]?=some (.cells #[B,.int .i64 (T:Nat)] 295 (0,0))/\A8 (B6 V (λb=>A3 B b\/b<w7.heap.size)) V 24 B ((d.take k).map λr=>ac5 r most)/\∀b,A3 B b->w7.heap.size<=b) /\
      V.heap[rb]?=some (.cells #[.slice none 0 0,.int .i64 0] 295 (0,0))/\I6 (i4 w) V 332 167 ui us d/\o7 w V/\w7.heap.size<=V.heap.size) (λk=>nx.length-k) 0 ?_ ?_
     ·simp only[p8,simprocAttr];exact⟨by trivial,dN6 _,⟨_,D.cg,A8.nil _ _ _,λb p=>absurd p D1⟩,D.cr,a1,D.ext,dO0 _⟩
     ·rintro k f w8 hk ⟨aE,cC,⟨B,cg,a0,am⟩,cr,aK,hx,eK⟩;simp only[dM6,p8,simprocAttr]at hk;simp only[i0,i1,i2,i3,i8,i9,df,bO]at hk;obtain⟨j0,j1,j2,j3,j8,j9,dk,a3,fE,dl,_⟩:=hk;simp only[J7,B4,E5,simprocAttr,aE,dl];refine n7 (λX=>?_) (λX=>?_)
      ·have Y:k<nx.length:=by simpa using X
       have q6:B4 prog .add 3 (.int .i64 k) (.int .i64 1)=some (.int .i64 ((k+1:Nat):Int)):=by
        simp only[B4,E5,dS6];rw[B0 k (by omega)]
       have ag:us[k]?=some (us[k]'(by omega)):=dM4 _;generalize us[k]'(by omega)=ua at ag;have aw:d[k]?=some (d[k]'(by rw[Q.ilen];exact Y)):=dM4 _;have c4:(d.take (k+1)).map (λr=>ac5 r most)=(d.take k).map (λr=>ac5 r most)++[ac5 (d[k]'(by rw[Q.ilen];exact Y)) most]:=by
        rw[dN3 (by rw[Q.ilen];exact Y),dP6];rfl
       have bI:=Q.rlen _ (dO4 aw);generalize d[k]'(by rw[Q.ilen];exact Y)=r at aw c4 bI;have hd:=o7.drew w8;have br:=(hd.block gb (dN0.1 cg).1 id).trans cg;have b0:=(hd.block rb (dN0.1 cr).1 id).trans cr;have Z:=aK.ext hd;have de:=hx.trans hd;have a2:=aK.outer.inS (k:=k) (by omega);have b6:=(dN0.1 br).1;have fj:=(dN0.1 b0).1;have bt:=(Z.row _ _ _ ag aw).rw_ (b7 de);have bk:=a0.noMod hd (λb h=>h.elim) (λb _ h=>h) (N':=λb=>A3 B b\/b<w7.heap.size) (λb h=>.inl h) (λb h=>.inl h);generalize dd:w8.drew=wd at *;have c3:w7.heap.size<=wd.heap.size:=dN1 eK hd.size;simp only[J7,simprocAttr,aE];refine C0 (λw2=>o7 wd w2) 9 (A5 [0,1,2,3,4,5,6,7,8]) ?_ (hS:=by rw[dd];exact o9.refl _);rw[dd];simp only[D6,A5,J7,O5,simprocAttr,j9];refine⟨B,λw2 e=>E2 (i:=0) ((e.block gb b6 id).trans br) rfl V3,?_⟩;simp only[D6,J7,O5,y0,simprocAttr,a3,a2];refine⟨ua.v,λw2 e=>aD3 (Z.ext e) ag bf2,?_⟩;simp only[D6,J7,simprocAttr,j3];refine y5 (cO1 ua.v r most wd bt (by omega) (λf hf=>by rw[bI];have:=Nat.div_le_div_right (c:=64) (Nat.le_of_lt hf);omega)) ?_;rintro ul w9 ⟨bF,L⟩;have Sl:=bF.isS;have ee:∀b,A3 ul b->¬(A3 B b\/b<w7.heap.size):=λb p N=>by
        have h1:wd.heap.size<=b:=by
         have:=bF.free p;exact dZ9 λcK=>by simp[i4,cK]at this
        rcases N with N|N
        ·have:=bk.lt N;omega
        ·omega
       have aI:=bk.noMod L (λb h=>h.elim) (λb _ h=>h) (N':=λb=>A3 B b\/b<w7.heap.size) (λb h=>.inl h) (λb h=>.inl h);have ce:=(bF.down (h:=B6 wd (λb=>A3 B b\/b<w7.heap.size)) (B2 _ _)).roNo (I9 L (λb h=>h.elim) (N':=λb=>A3 B b\/b<w7.heap.size) λb h=>.inl h) ee;obtain⟨p1,v',a9,p2,p3,p4,p5⟩:=push (P:=prog) (t:=242) (e:=242) ck2 rfl aI (x:=ul) (y:=ac5 r most) (by rw[E3 Sl];exact ce) (by simp;omega) (by simp;omega) (B2 _ _);rw[E3 Sl]at p1 p2;have ew:¬A3 B gb:=λh=>by have:=am gb h;omega
       have eH:¬A3 B rb:=λh=>by have:=am rb h;omega
       have bY:=(L.block gb b6 id).trans br;have aT:=(L.block rb fj id).trans b0;have bW:=(p4.block gb (dN0.1 bY).1 ew).trans bY;have bc:=(p4.block rb (dN0.1 aT).1 eH).trans aT;have Sv:=p3.isS;obtain⟨aa,t6,bX,aO⟩:=ag5 (P:=prog) (t:=242) (i:=0) (x:=v') bW (by simp) (E3 Sv) (X8 Sv) (z7 cU5).choose_spec.1 (by rw[<-D9 (z7 cU5).choose_spec.1];exact dp7);have bZ:=(aO.block rb (dN0.1 bc).1 (λh=>em h.symm)).trans bc;have bf:∀b,A3 v' b->w7.heap.size<=b:=λb p=>by
        rcases p5 b p with h|h
        ·exact am b h
        ·have:=L.size;omega
       have bH:A8 (B6 aa (λb=>A3 v' b\/b<w7.heap.size)) aa 24 v' ((d.take k).map (λr=>ac5 r most)++[ac5 r most]):=by
        have h1:A8 (B6 a9 (λb=>A3 v' b\/b<w7.heap.size)) a9 24 v' ((d.take k).map (λr=>ac5 r most)++[ac5 r most]):=
         p3.reNo (I9 p4 (λb h=>.inl h) λb h=>by
          rcases h with h|h
          ·rcases p5 b h with h|h
           ·exact .inl (.inl h)
           ·exact .inr h
          ·exact .inl (.inr h)) λb h=>.inl h
        exact h1.noMod aO (λb h=>.inr (by subst h;exact cq)) (λb p h=>by subst h;have:=bf b p;omega) (λb h=>.inl h) (λb h=>.inl h)
       have aL:=((Z.ext L).mod p4 (λb p bv=>by have:=eh b p;have:=am b bv;omega)).mod aO (λb p h=>(el b p).1 h);have U:o7 w aa:=o9.ext_of (o9.ext_of (de.trans L) p4 λb p=>by have:=am b p;have:=D.ext.size;omega) aO λb p=>by subst p;exact ck
       have bK:w7.heap.size<=aa.heap.size:=dN1 c3 (dN1 L.size (dN1 p4.size aO.size));simp only[D6,J7,simprocAttr,E8,p1];refine⟨L,L.trans (o7.alloc w9 _),?_⟩;simp only[J7,zVB,simprocAttr,p2,j9,t6,aE,q6];refine⟨k+1,by omega,by trivial,by omega,⟨v',?_,?_,bf⟩,bZ,aL,U,bK⟩
       ·simpa using bX
       ·rw[c4];exact bH
      ·have cv:k=nx.length:=by simp at X;omega
       subst cv;rw[dQ9 (by rw[Q.ilen];exact dO0 _)]at a0;have cI:=ag4 (P:=prog) cg bP1 bP4 bP2 (by rw[ah9];rfl);have Sv:=a0.isS;have cP:∀u∈(#[B,Value.int .i64 (T:Nat)]:Array Value).toList,u.oneCell'=true:=by
        intro u hu;simp at hu;rcases hu with rfl|rfl
        ·exact X8 Sv
        ·rfl
       obtain⟨w9,t7,aT,m9⟩:=ak3 (P:=prog) cr bf5 (by rw[ah9];rfl) (cs:=#[B,.int .i64 (T:Nat)]) (by rw[ah9];rfl) cP;have aI:=a0.noMod m9 (λb h=>.inr (by subst h;exact cp)) (λb p h=>by subst h;have:=am b p;omega) (N':=λb=>A3 B b\/b<w7.heap.size) (λb h=>.inl h) (λb h=>.inl h);have cd:R (B6 w9 (λb=>b<w.heap.size)) B (d.map λr=>ac5 r most):=aI.ro (λb o e=>by
        by_cases h:b<w7.heap.size
        ·rw[F2 (.inr h)]at e;cases e
        ·by_cases h2:A3 B b
         ·rw[F2 (.inl h2)]at e;cases e
         ·rw[D8 (λN=>N.elim h2 h)]at e;rw[D8 (by have:=D.ext.size;omega)];exact e) λb p=>D8 (by have:=am b p;have:=D.ext.size;omega)
       have bC:=ag4 (P:=prog) aT bP1 bP4 bP2 (by rw[ah9];rfl);have L:o7 w w9:=o9.ext_of hx m9 λb p=>by subst p;exact cm
       simp only[J7,simprocAttr,j8,j9,cI,t7];refine M7 results263 (ad:=⟨rb,0,none⟩) (by simp only[p8,↓reduceIte,Nat.reduceEqDiff];exact j8) bC ?_;simp only[eF]at cd;refine⟨⟨B,d.map λr=>ac5 r most,T,rfl,cd,by rw[dN4,Q.ilen],λb p=>⟨Q8 (wAt d b),?_,λi=>cl b i p⟩,bu,ei⟩,L⟩;have h1:=ak9 Q.ilen p;have cJ:(d.map λr=>ac5 r most).length=nx.length:=by rw[dN4,Q.ilen]
       have h2:=(ao7 (nx:=d.map λr=>ac5 r most) (a:=b) (by rw[cJ];exact p)).1;rw[dP9,h1]at h2;exact(dO3 h2).symm
structure cG4 (n:Int) (steps:List (Int×Int)) (gl kl:List (List Int)) (most:Int):Prop where
 n0:0<=n
 n5:n<=5000
 m0:0<=most
 m5:most<=5000
 gn:(gl.length:Int)=n
 kn:(kl.length:Int)=n
 st:∀s∈steps,bf8 n.toNat s
 gf:aU6 gl most.toNat
 kf:aU6 kl most.toNat
structure dt1 (nx gl kl:List (List Int)) (most:Nat) (sol:List (List Int)) (T:Nat):Prop where
 len:sol.length=nx.length
 row:∀b,H1 nx.length b=true->∃f:Nat->Bool,C9 sol b=((List.range most).filter f).map (λ(i:Nat)=>(i:Int))/\∀i,f i=true↔ax1 nx gl kl b i
 lo:nx.length<=T
 hi:T<=nx.length+nx.length*most
def aj4{P:Program}{b:Func}{R:Value->World->Prop}{f:Fr}{w:World}{v:Value}{a t:Nat}{ty:TypeId}{ad:Addr}(h:b.results=#[.cell a ty,.tmp t])(d:f a = .pointer (some ad))(e:(Instr.loadAt ty (.pointer (some ad))).run P w = .ok v w)(c:R (.tuple #[v,f t]) w):bz0 P b R .ret f w:=by
 refine⟨[v,f t],?_,c⟩;rw[h];refine⟨?_,rfl,trivial⟩;show(do loadVar ty (<-asAddr (f a)):Sem Value).run P w = .ok v w;rw[d];exact e
theorem cx2:B8 prog 295 []=some (.agg #[.slice none 0 0,.int .i64 0]):=by
 have h:G8 prog 295=some (.agg #[.slice none 0 0,.int .i64 0]):=bf5
 first
 | (simp[B8,dp3,K8,Instr.fill];done)
 | rfl
def cP3(n most:Int)(a d:Nat):
  (decide (n<0)=true/\n<0)\/(decide (n<0)=false/\decide (n>5000)=true/\n>5000) \/
  (decide (n<0)=false/\decide (n>5000)=false/\decide (most<0)=true/\most<0)\/(decide (n<0)=false/\decide (n>5000)=false/\decide (most<0)=false/\decide (most>5000)=true/\most>5000) \/
  (decide (n<0)=false/\decide (n>5000)=false/\decide (most<0)=false/\decide (most>5000)=false/\((a:Int) != n)=true/\(a:Int)≠n) \/
  (decide (n<0)=false/\decide (n>5000)=false/\decide (most<0)=false/\decide (most>5000)=false/\((a:Int) != n)=false/\((d:Int) != n)=true/\(d:Int)≠n) \/
  (decide (n<0)=false/\decide (n>5000)=false/\decide (most<0)=false/\decide (most>5000)=false/\((a:Int) != n)=false/\((d:Int) != n)=false/\0<=n/\n<=5000/\0<=most/\most<=5000/\(a:Int)=n/\(d:Int)=n):=by
 by_cases h1:n<0
 ·exact .inl ⟨by simpa using h1,h1⟩
 ·have b:decide (n<0)=false:=by simpa using h1
  by_cases h2:n>5000
  ·exact .inr (.inl ⟨b,by simpa using h2,h2⟩)
  ·have c:decide (n>5000)=false:=by simpa using h2
   by_cases h3:most<0
   ·exact .inr (.inr (.inl ⟨b,c,by simpa using h3,h3⟩))
   ·have e:decide (most<0)=false:=by simpa using h3
    by_cases h4:most>5000
    ·exact .inr (.inr (.inr (.inl ⟨b,c,e,by simpa using h4,h4⟩)))
    ·have f:decide (most>5000)=false:=by simpa using h4
     by_cases h5:(a:Int)=n
     ·have g:((a:Int) != n)=false:=by simpa using h5
      by_cases h6:(d:Int)=n
      ·exact .inr (.inr (.inr (.inr (.inr (.inr ⟨b,c,e,f,g,by simpa using h6,by omega,by omega,by omega,by omega,h5,h6⟩)))))
      ·exact .inr (.inr (.inr (.inr (.inr (.inl ⟨b,c,e,f,g,by simpa using h6,h6⟩)))))
     ·exact .inr (.inr (.inr (.inr (.inl ⟨b,c,e,f,by simpa using h5,h5⟩))))
def dn6(n most:Int)(v vg vk:Value)(a:List (Int×Int))(D H:List (List Int))(w:World)(hv:R (i4 w) v a)(am:R (i4 w) vg D)(an:R (i4 w) vk H)(bR:a.length<=1000000)
  (ba:∀x∈D,x.length<=1000000000) (bg:∀x∈H,x.length<=1000000000) :
  p7 prog 236 #[.int .i64 n,v,vg,vk,.int .i64 most] w λu w'=>((∃vs ok,u = .tuple #[vs,.bool ok] /\
   (ok=true->cG4 n a D H most/\∃vi X T,vs = .agg #[vi,.int .i64 (T:Nat)]/\R (B6 w' (λb=>b<w.heap.size)) vi X/\dt1 (am0 n.toNat a).1 D H most.toNat X T) /\
   (ok=false->¬cG4 n a D H most/\vs = .agg #[.slice none 0 0,.int .i64 0]))/\o7 w w'):=by
 refine p9 [.int .i64 n,v,vg,vk,.int .i64 most] func236 rfl ?_;have a4:=bB3;have d:=cx2;have ak:=am.isS;have al:=am.vlen;have aA:=an.isS;have aH:=an.vlen;have hS:=hv.isS;have bu:=hv.vlen;have c1:(w.alloc (.cells #[.slice none 0 0,.int .i64 0] 295)).heap[w.heap.size]?=some (.cells #[.slice none 0 0,.int .i64 0] 295 (0,0)):=dQ5 w _;have x1:=o7.alloc w (.cells #[.slice none 0 0,.int .i64 0] 295);generalize bv:w.alloc (.cells #[.slice none 0 0,.int .i64 0] 295)=w1 at *;have c:=a4 w;rw[bv]at c;generalize bQ:w.heap.size=j at c1 c;have S:j<w1.heap.size:=(dN0.1 c1).1;have m:∀A,o7 w A->A.heap[j]?=some (.cells #[.slice none 0 0,.int .i64 0] 295 (0,0))->∃z,(Instr.storeAt 295 (.pointer (some ⟨j,0,none⟩)) (.agg #[.slice none 0 0,.int .i64 0])).run prog A = .ok () z/\o7 w z /\
   (Instr.loadAt 295 (.pointer (some ⟨j,0,none⟩))).run prog z = .ok (.agg #[.slice none 0 0,.int .i64 0]) z:=by
  intro A W a6;obtain⟨z,t1,t2,t3⟩:=ak3 (P:=prog) a6 bf5 (by rw[ah9];rfl) (cs:=#[.slice none 0 0,.int .i64 0]) (by rw[ah9];rfl) (by simp[Value.oneCell']);exact⟨z,t1,o9.ext_of W t3 λb i=>by subst i;omega,ag4 (P:=prog) t2 bP1 bP4 bP2 (by rw[ah9];rfl)⟩
 obtain⟨z,K,L,O⟩:=m w1 x1 c1;rcases cP3 n most D.length H.length with⟨q,i⟩|⟨q,B,i⟩|⟨q,B,J,i⟩|⟨q,B,J,d4,i⟩|⟨q,B,J,d4,d5,i⟩|⟨q,B,J,d4,d5,d6,i⟩|⟨q,B,J,d4,d5,d6,bk,bl,bi,bj,bb,bh⟩
 ·simp only[J7,O5,B4,E5,simprocAttr,c,q,d,K];exact aj4 results236 (ad:=⟨j,0,none⟩) (by simp only[p8,↓reduceIte,Nat.reduceEqDiff]) O ⟨⟨_,false,rfl,(λh=>(by cases h)),λ_=>⟨λh=>by have:=h.n0;omega,rfl⟩⟩,L⟩
 ·simp only[J7,O5,B4,E5,simprocAttr,c,q,B,d,K];exact aj4 results236 (ad:=⟨j,0,none⟩) (by simp only[p8,↓reduceIte,Nat.reduceEqDiff]) O ⟨⟨_,false,rfl,(λh=>(by cases h)),λ_=>⟨λh=>by have:=h.n5;omega,rfl⟩⟩,L⟩
 ·simp only[J7,O5,B4,E5,simprocAttr,c,q,B,J,d,K];exact aj4 results236 (ad:=⟨j,0,none⟩) (by simp only[p8,↓reduceIte,Nat.reduceEqDiff]) O ⟨⟨_,false,rfl,(λh=>(by cases h)),λ_=>⟨λh=>by have:=h.m0;omega,rfl⟩⟩,L⟩
 ·simp only[J7,O5,B4,E5,simprocAttr,c,q,B,J,d4,d,K];exact aj4 results236 (ad:=⟨j,0,none⟩) (by simp only[p8,↓reduceIte,Nat.reduceEqDiff]) O ⟨⟨_,false,rfl,(λh=>(by cases h)),λ_=>⟨λh=>by have:=h.m5;omega,rfl⟩⟩,L⟩
 ·simp only[J7,O5,B4,E5,N7,simprocAttr,c,ak,al,q,B,J,d4,d5,d,K];exact aj4 results236 (ad:=⟨j,0,none⟩) (by simp only[p8,↓reduceIte,Nat.reduceEqDiff]) O ⟨⟨_,false,rfl,(λh=>(by cases h)),λ_=>⟨λh=>i h.gn,rfl⟩⟩,L⟩
 ·simp only[J7,O5,B4,E5,N7,simprocAttr,c,ak,al,aA,aH,q,B,J,d4,d5,d6,d,K];exact aj4 results236 (ad:=⟨j,0,none⟩) (by simp only[p8,↓reduceIte,Nat.reduceEqDiff]) O ⟨⟨_,false,rfl,(λh=>(by cases h)),λ_=>⟨λh=>i h.kn,rfl⟩⟩,L⟩
 ·clear K L O z;simp only[J7,O5,B4,E5,N7,simprocAttr,c,ak,al,aA,aH,q,B,J,d4,d5,d6,hS,bu];obtain⟨N,hN⟩:∃N:Nat,n=N:=⟨n.toNat,by omega⟩;obtain⟨M,hM⟩:∃M:Nat,most=M:=⟨most.toNat,by omega⟩;have aj:n.toNat=N:=by omega
  have E:most.toNat=M:=by omega
  have Z:∀e:Int×Int,bz3 n e=false↔bf8 N e:=λe=>by rw[hN];exact cd7
  refine n9 [0,1,2,3,4,10,45,46] (σ:=Nat) (λk f w'=>f 47 = .int .i64 k/\k<=a.length/\(∀e∈a.take k,bf8 N e)/\o7 w1 w') (λk=>a.length-k) 0 ?_ ?_
  ·simp only[p8,simprocAttr];exact⟨by first|rfl|trivial,dN6 _,by simp,o9.refl _⟩
  ·rintro k f A hk ⟨r,bK,o,hx⟩;simp only[dM6,p8,simprocAttr]at hk;obtain⟨e0,K,L,O,e4,g,C,a0,_⟩:=hk;simp only[J7,B4,E5,simprocAttr,r,a0];refine n7 (λhc=>?_) (λhc=>?_)
   ·have Q:k<a.length:=by simpa using hc
    have F:=hv.inS Q;have p:=ldP hv (b7 (x1.trans hx)) (dM4 Q);have aa:a[k]∈a:=dN5 Q;have aK:a.take (k+1)=a.take k++[a[k]]:=dN3 Q;generalize a[k]=e at p aa aK;obtain⟨x,y⟩:=e;simp only at p;obtain⟨p1,p2⟩:=di7 A x y;have q0:=di5 A x y;have q1:=di6 A x y;have s:=hx.trans (o7.alloc A (.cells #[.int .i64 x,.int .i64 y] 205));generalize A.alloc (.cells #[.int .i64 x,.int .i64 y] 205)=z at *;obtain⟨w4,Y,g2,g3⟩:=m z (x1.trans s) ((s.block j S id).trans c1);have bm:∀{b:Bool},bz3 n (x,y)=true->¬cG4 n a D H most:=λi h=>by
     have h2:=h.st (x,y) aa;rw[aj]at h2;have:=(Z (x,y)).2 h2;rw[i]at this;cases this
    rcases cw9 n x y with⟨I,i⟩|⟨I,r2,i⟩|⟨I,r2,r3,i⟩|⟨I,r2,r3,r4,i⟩|⟨I,r2,r3,r4,i⟩
    case' inl=>simp only[J7,O5,B4,E5,y0,simprocAttr,r,C,F,p,p1,p2,q0,I,g,d,Y]
    case' inr.inl=>simp only[J7,O5,B4,E5,y0,simprocAttr,r,C,e0,F,p,p1,p2,q0,I,r2,g,d,Y]
    case' inr.inr.inl=>simp only[J7,O5,B4,E5,y0,simprocAttr,r,C,e0,F,p,p1,p2,q0,q1,I,r2,r3,g,d,Y]
    case' inr.inr.inr.inl=>simp only[J7,O5,B4,E5,y0,simprocAttr,r,C,e0,F,p,p1,p2,q0,q1,I,r2,r3,r4,g,d,Y]
    case' inr.inr.inr.inr=>simp only[J7,O5,B4,E5,y0,simprocAttr,r,C,e0,F,p,p1,p2,q0,q1,I,r2,r3,r4]
    case inr.inr.inr.inr=>
     refine⟨k+1,by omega,dO2 _ (B0 k (by omega)),by omega,λe he=>?_,s⟩;rw[aK,dN7,dP1]at he;rcases he with he|he
     ·exact o e he
     ·subst he;exact(Z _).1 i
    all_goals
     exact aj4 results236 (ad:=⟨j,0,none⟩) (by simp only[p8,↓reduceIte,Nat.reduceEqDiff];exact g) g3 ⟨⟨_,false,rfl,(λh=>(by cases h)),λ_=>⟨bm (b:=true) i,rfl⟩⟩,g2⟩
   ·have a9:k=a.length:=by simp at hc;omega
    subst a9;rw[dN8]at o;have W:=x1.trans hx;have aL:R (i4 A) vg D:=A4.mono (b7 W) am;have U:=bZ9 vg D M A aL (by omega) (by omega) ba;rw[<-hM]at U;simp only[J7,simprocAttr,L,e4];refine y5 U ?_;rintro I z ⟨⟨ub,bz,bp,a7,a8⟩,s⟩;subst bp;have aM:R (i4 z) vk H:=A4.mono (b7 (W.trans s)) an;have V:=bZ9 vk H M z aM (by omega) (by omega) bg;rw[<-hM]at V;simp only[J7,simprocAttr,O,e4];refine y5 V ?_;rintro r2 w4 ⟨⟨uk,bA,bq,bd,be⟩,aN⟩;subst bq;have l:=(hx.trans s).trans aN;have ae:=x1.trans l;obtain⟨w5,Y,g2,g3⟩:=m w4 ae ((l.block j S id).trans c1);cases bz
    ·simp only[J7,O5,unV,simprocAttr,g,d,Y];exact aj4 results236 (ad:=⟨j,0,none⟩) (by simp only[p8,↓reduceIte,Nat.reduceEqDiff];exact g) g3 ⟨⟨_,false,rfl,(λh=>(by cases h)),λ_=>⟨λh=>a8 rfl (by have:=h.gf;rw[E]at this;exact this),rfl⟩⟩,g2⟩
    ·cases bA
     ·simp only[J7,O5,unV,simprocAttr,g,d,Y];exact aj4 results236 (ad:=⟨j,0,none⟩) (by simp only[p8,↓reduceIte,Nat.reduceEqDiff];exact g) g3 ⟨⟨_,false,rfl,(λh=>(by cases h)),λ_=>⟨λh=>be rfl (by have:=h.kf;rw[E]at this;exact this),rfl⟩⟩,g2⟩
     ·clear Y g2 g3 w5;obtain⟨aC,gs,a2,az⟩:=a7 rfl;obtain⟨bf,ks,a3,aB⟩:=bd rfl;have ab:=cs3 N v a w4 (by omega) (A4.mono (b7 ae) hv) (by omega);rw[<-hN]at ab;simp only[J7,O5,unV,simprocAttr,e0,K];refine y5 ab ?_;rintro pg w5 ⟨⟨Mb,bc⟩,t⟩;have aD:=aj1 N a;have aF:=bc.read (b7 t);have bo:cG4 n a D H most:=⟨bk,bl,bi,bj,bb,bh,by rw[aj];exact o,by rw[E];exact aC,by rw[E];exact bf⟩;rw[aj,E];generalize am0 N a=G at *;obtain⟨nx,pv⟩:=G;simp only at aF;have bn:nx.length=N:=aD.nx.len;have aE:aF9 nx.length (nx,pv):=by rw[bn];exact aD
      have ac:=cD8 pg nx pv ub uk gs ks D H M w5 aF aE (A4.mono (b7 (aN.trans t)) a2) (A4.mono (b7 t) a3) az aB (by omega) (by omega) aC (by omega) (by omega);rw[<-hM]at ac;simp only[J7,simprocAttr,e4];refine y5 ac ?_;rintro r3 w6 ⟨⟨vi,X,T,br,ay,U,V,bs,bt⟩,bw⟩;subst br;have af:=(l.trans t).trans bw;have Sv:=ay.isS;have aI:∀u∈(#[vi,Value.int .i64 (T:Nat)]:Array Value).toList,u.oneCell'=true:=by
       intro u hu;simp at hu;rcases hu with rfl|rfl
       ·exact X8 Sv
       ·rfl
      obtain⟨w7,t1,t2,t3⟩:=ak3 (P:=prog) ((af.block j S id).trans c1) bf5 (by rw[ah9];rfl) (cs:=#[vi,.int .i64 (T:Nat)]) (by rw[ah9];rfl) aI;have aG:=ag4 (P:=prog) t2 bP1 bP4 bP2 (by rw[ah9];rfl);simp only[J7,simprocAttr,g,t1];refine aj4 results236 (ad:=⟨j,0,none⟩) (by simp only[p8,↓reduceIte,Nat.reduceEqDiff];exact g) aG ?_;simp only[p8,simprocAttr];refine⟨⟨_,true,rfl,λ_=>⟨bo,vi,X,T,rfl,?_,⟨U,V,bs,bt⟩⟩,(λh=>(by cases h))⟩,o9.ext_of (x1.trans af) t3 λb i=>by subst i;omega⟩;have aJ:j<w5.heap.size:=dS9 S (l.trans t).size;refine A4.mono (I9 t3 (λb i=>by subst i;exact aJ) λb i=>.inl ?_) ay;have:=(x1.trans (l.trans t)).size;omega
def dv8(x:Int)(w:World){h:Hp}(hw:B5 h (i4 w)):∃v a,(Instr.buildSlice 24 1 #[(0,.int .i64 x)]).run prog w = .ok v a/\A8 h a 3 v [x]/\o7 w a/\(∀b,A3 v b->w.heap.size<=b):=
 lit (P:=prog) (w:=w) (h:=h) (α:=Int) (xs:=[.int .i64 x]) (ys:=[x]) (parts:=#[(0,.int .i64 x)]) (n:=1) U2 rfl (G5.2 rfl) (by simp[Value.cells]) rfl rfl (by simp) (by simp) hw
def dz4(w:World){vi:Value}(T:Int)(b:isS vi=true):
  (Instr.alloc 295 true (.tuple #[])).run prog w = .ok (.pointer (some ⟨w.heap.size,0,none⟩)) (w.alloc (.cells #[.slice none 0 0,.int .i64 0] 295)) /\
  (Instr.storeAt 295 (.pointer (some ⟨w.heap.size,0,none⟩)) (.agg #[vi,.int .i64 T])).run prog (w.alloc (.cells #[.slice none 0 0,.int .i64 0] 295)) =
   .ok () (w.alloc (.cells #[vi,.int .i64 T] 295)):=
 aJ0 (P:=prog) (T:=295) bf5 (by rw[ah9];rfl) (cs:=#[vi,.int .i64 T]) (by rw[ah9];rfl) (by
  intro u a;simp only[dO6,dR2,dX1]at a;rcases a with rfl|rfl
  ·exact X8 b
  ·rfl)
def de0(w:World){vi:Value}{T:Int}:
  (Instr.loadAt 242 (.pointer (some ⟨w.heap.size,0,none⟩))).run prog (w.alloc (.cells #[vi,.int .i64 T] 295)) = .ok vi (w.alloc (.cells #[vi,.int .i64 T] 295)):=
 E2 (T:=295) (cs:=#[vi,.int .i64 T]) (i:=0) (dQ5 w _) rfl V3
def cL5{nx:List (List Int)}(d:E6 nx.length nx):OkR nx:=λa b c=>(d.row _).2 _ c
def cx9(a:Addr)(p:Pg)(i:Nat)(v aX:Value)(d:List Nat)(w:World)(ha:At (i4 w) a (d9 p))(G:D4 p)(hw:C5 p<=1000000)(hi:i<p.procs.length)(hv:R (i4 w) v ((D5 (b9 p) i).pairs (D5 (b9 p) i).data))(K:R (i4 w) aX (d.map λ(a:Nat)=>(a:Int)))(aa:d.Nodup)(bb:∀A∈d,(A:Int)<(D5 (b9 p) i).n):
  p7 prog 188 #[.pointer (some a),.int .i64 i,v,aX] w λu F=>((∃ag,R (B6 F (λb=>b<w.heap.size)) u ag/\(ag.length:Int)=(D5 (b9 p) i).n/\(∀c:Nat,(c:Int)<(D5 (b9 p) i).n->∃g:Nat->Bool,C9 ag c=((List.range d.length).filter g).map (λ(f:Nat)=>(f:Int))/\∀f A,d[f]?=some A->(g f=true↔bb9 ((d9 p).nx i) d A c=true)))/\o7 w F):=by
 refine p9 [.pointer (some a),.int .i64 i,v,aX] func188 rfl ?_;obtain⟨x,pt⟩:=J5 G.may hw i hi;have ao:=P2 pt;generalize x+A9 p.procs[i].body=y at pt ao;have b5:=J1 G.may;have hn:=ao.n;have ca:=pt.ok.len;have b8:=pt.ok.le;have a5:=aU2 G hw hi ao;have aT:=bq0 G hw hi ao;have bO:((D5 (b9 p) i).pairs (D5 (b9 p) i).data).length<=1000000:=dN1 (Nat.le_of_eq (dN4 _)) a5;clear a5;have be:(d9 p).nx (i:Int)=(am0 (D5 (b9 p) i).n.toNat ((D5 (b9 p) i).pairs (D5 (b9 p) i).data)).1:=by
  unfold Bk.nx;rw[L8 hi]
 obtain⟨sh,vw,_,_,_,_,has,bn,_,_,_,_,bW,_⟩:=ha.book rfl;obtain⟨aw,bH,a4⟩:=am9 (hv:=bn) (k:=i) (p:=⟨D5 (b9 p) i⟩) (by show((I0 p).map λw=>(⟨w⟩:Ptr Wy))[i]?=_;rw[dP9,S7 hi];rfl);simp only at a4;have ba:=bn.inS (k:=i) (by show i<((I0 p).map λw=>(⟨w⟩:Ptr Wy)).length;unfold I0;simpa using hi);obtain⟨_,_,_,_,_,_,br,_⟩:=a4.wy;rw[be];generalize(D5 (b9 p) i).pairs (D5 (b9 p) i).data=steps at hv aT bO;generalize(D5 (b9 p) i).n=wn at hn bb br aT;obtain⟨M,rfl⟩:∃M:Nat,wn=(M:Int):=⟨wn.toNat,by omega⟩;simp only[dP0];have l:∀A∈d,A<M:=λA hA=>by have:=bb A hA;omega
 have cu:d.length<=M:=by
  have:=I2 (m:=List.range M) aa λA hA=>dQ6.2 (l A hA);simpa using this
 have lb:=bW w (i5 _);have bM:=H7 (P:=prog) (t:=114) bH (i5 _) an1;have lw:=br w (i5 _);have hz:A4.enc (i4 w) (Value.slice none 0 0).cells.toList ([]:List Int):=bd1 _;have bs:=λ(wa:World) (ha:o7 w wa)=>mk (P:=prog) (w:=wa) (h:=i4 w) (α:=List Int) ck2 ai0 (y:=[]) hz (n:=M) (by omega) (by omega) (b7 ha);obtain⟨il,a7,ar⟩:=az9 (P:=prog) ai0 bl2;simp only[m8,o6,y0,simprocAttr,lb,ba,bM,lw];refine bS7 [2,3,9] (λF=>o7 w F) 6 (.op 0 (.op 2 (.fork [1,3] (λi=>if i=1 then(A5 [4,3,5])else(A5 [1,4,5])))))
  (λO F=>A8 (i4 w) F 24 (O 10) (List.replicate M ([]:List Int))/\A8 (i4 w) F 24 (O 11) (List.replicate M ([]:List Int))/\(∀b,A3 (O 10) b->¬A3 (O 11) b)/\o7 w F) (by decide +kernel) (by decide +kernel) (o7.drew w) ?_ ?_
 ·simp only[D6,A5,m8,simprocAttr];obtain⟨va,wA,m1,o1,xA,f1,_⟩:=bs w.drew (o7.drew w);have I:=(o7.drew w).trans xA;obtain⟨vb,wB,m2,o2,xB,f2,_⟩:=bs wA I;have H:∀b,A3 va b->¬A3 vb b:=λb Q U=>by have:=o1.lt Q;have:=f2 b U;omega
  refine ah3 (by decide +kernel) (λi hi=>?_);simp only[dO6,dR2,dX1]at hi;rcases hi with rfl|rfl
  ·simp only[D6,m8,simprocAttr,m1,m2,E8];exact⟨I,I.trans xB,o1.ext xB,o2,H,I.trans xB⟩
  ·simp only[D6,m8,simprocAttr,m1,m2,E8];exact⟨I,I.trans xB,o2,o1.ext xB,λb Q U=>H b U Q,I.trans xB⟩
 rintro f w1 hk ⟨am,an,H,bR⟩;simp only[dM6,p8,simprocAttr]at hk;obtain⟨e2,e3,e9,_⟩:=hk;generalize bz:f 10=B at am H;generalize bA:f 11=C at an H;have aF:=K.isS;have ak:=K.vlen;rw[dN4]at ak;simp only[D6,m8,o6,simprocAttr,e3,aF,ak];refine n9 [2,3,9,10,11,33] (σ:=Nat×Value) (λs f F=>f 34 = .int .i64 s.1/\f 12=s.2/\s.1<=d.length/\A8 (i4 w1) F 3 s.2 ((List.range s.1).map λ(f:Nat)=>(f:Int))/\o7 w1 F) (λs=>d.length-s.1) (0,.slice none 0 0) ?_ ?_
 ·simp only[p8,simprocAttr];exact⟨by first|rfl|trivial,trivial,dN6 _,A8.nil _ _ _,o9.refl _⟩
 rintro⟨k,ua⟩ f2 w2 hk ⟨aE,aD,aN,ab,S⟩;simp only at aE aD aN ab;simp only[dM6,p8,simprocAttr]at hk;obtain⟨g2,g3,g9,a0,a1,bx,_⟩:=hk;rw[e2]at g2;rw[e3]at g3;rw[e9]at g9;rw[bz]at a0;rw[bA]at a1;simp only[m8,o6,simprocAttr,aE,bx];refine n7 (λhc=>?_) (λhc=>?_)
 ·have E:k<d.length:=by simpa using hc
  obtain⟨p1,u3,w3,p2,p3,p4,p5⟩:=push (P:=prog) (t:=24) (e:=24) U2 rfl ab (x:=.int .i64 (k:Int)) (y:=(k:Int)) rfl (by rw[dN4,dR3];omega) (by rw[dN4,dR3];omega) (b7 S);simp only[Value.cells]at p1 p2;simp only[m8,o6,simprocAttr,aE,aD,p1,p2];refine⟨(k+1,u3),by omega,dO2 _ (B0 k (by omega)),by trivial,by omega,?_,ab.ext2 S p4⟩;simp only[];have e:(List.range (k+1)).map (λ(f:Nat)=>(f:Int))=(List.range k).map (λ(f:Nat)=>(f:Int))++[(k:Int)]:=by
   rw[dW7,dP6,List.map_singleton]
  rw[e];exact p3
 have aK:k=d.length:=by simp at hc;omega
 subst aK;have aA:=bR.trans S;have J:∀b,(A3 B b\/A3 C b)->w.heap.size<=b/\b<w1.heap.size:=λb h=>by
  rcases h with h|h
  ·exact⟨D0 (am.free h),am.lt h⟩
  ·exact⟨D0 (an.free h),an.lt h⟩
 have aq:B5 (i4 w) (B6 w2 (λb=>A3 B b\/A3 C b)):=aL8 aA λb j=>(J b j).1;have bf:=(am.ext S).reNo (N:=λb=>A3 B b\/A3 C b) aq λb j=>.inl j;have bi:=(an.ext S).reNo (N:=λb=>A3 B b\/A3 C b) aq λb j=>.inr j;have bl:R (B6 w2 (λb=>A3 B b\/A3 C b)) ua ((List.range d.length).map λ(f:Nat)=>(f:Int)):=ab.flatR λb j=>D8 λh=>by
  have Q:=D0 (ab.free j);have:=(J b h).2;omega
 have bC:=bl.isS;simp only[m8,o6,simprocAttr,g3,aF,ak];refine n9 [2,3,9,10,11,12,42,43] (σ:=Nat) (λk f F=>f 44 = .int .i64 k/\k<=d.length/\A8 (B6 F (λb=>A3 B b\/A3 C b)) F 24 B (af6 d (λf=>[(f:Int)]) M k)/\A8 (B6 F (λb=>A3 B b\/A3 C b)) F 24 C (af6 d (λ_=>(List.range d.length).map λ(f:Nat)=>(f:Int)) M k)/\o9 (λb=>A3 B b\/A3 C b) w2 F) (λk=>d.length-k) 0 ?_ ?_
 ·simp only[p8,simprocAttr];exact⟨by trivial,dN6 _,bf,bi,o9.refl _⟩
 rintro k f4 w4 hk ⟨a2,b6,ac,ad,aj⟩;simp only[dM6,p8,simprocAttr]at hk;obtain⟨j2,j3,j9,aV,aW,bq,bU,bV,_⟩:=hk;rw[g2]at j2;rw[g3]at j3;rw[g9]at j9;rw[a0]at aV;rw[a1]at aW;rw[aD]at bq;have L:o7 w w4:=o9.ext_of aA aj λb j=>(J b j).1;have bc:B5 (B6 w2 (λb=>A3 B b\/A3 C b)) (B6 w4 (λb=>A3 B b\/A3 C b)):=I9 aj (λ_ h=>h) λ_ h=>.inl h;simp only[m8,o6,simprocAttr,a2,bV];refine n7 (λaH=>?_) (λaH=>?_)
 ·have E:k<d.length:=by simpa using aH
  have bL:=K.inS (k:=k) (by rw[dN4];exact E);have aO:=aF7 K (b7 L) (k:=k) (by rw[dN4];exact E);rw[dT4]at aO;have V:=l _ (dN5 E);have aJ:d.getD k 0=d[k]:=by rw[List.getD,dM4 E];rfl
  generalize d[k]=A at aO V aJ;obtain⟨ul,w5,q1,q2,q3,q4⟩:=dv8 (k:Int) w4 (i5 _);have Y:B5 (B6 w4 (λb=>A3 B b\/A3 C b)) (B6 w5 (λb=>A3 B b\/A3 C b)):=I9 q3 (λ_ h=>h.elim) λ_ h=>.inl h;have a3:∀b,(A3 B b\/A3 C b)->b<w4.heap.size:=λb j=>dS9 (J b j).2 (dN1 S.size aj.size);have bQ:R (B6 w5 (λb=>A3 B b\/A3 C b)) ul [(k:Int)]:=q2.flatR λb j=>D8 λh=>by
   have Q:=q4 b j;have:=a3 b h;omega
  have ax:=(ac.ext q3).up Y λb j=>F2 (.inl j);have bj:=(ad.ext q3).up Y λb j=>F2 (.inr j);obtain⟨w6,s1,bg,aP,_⟩:=E4 (P:=prog) (t:=24) ax rfl (k:=A) (by rw[W7];exact V) (x:=ul) (y:=[(k:Int)]) bQ (E3 q2.isS) a7 ar;have Z:B5 (B6 w5 (λb=>A3 B b\/A3 C b)) (B6 w6 (λb=>A3 B b\/A3 C b)):=I9 aP (λ_ h=>.inl h) λ_ h=>.inl h;have ay:=(bj.mod aP λb j aG=>H b aG j).up Z λb j=>F2 (.inr j);have bm:=A4.mono (t8 bc (t8 Y Z)) bl;obtain⟨w7,s2,bk,aQ,_⟩:=E4 (P:=prog) (t:=24) ay rfl (k:=A) (by rw[W7];exact V) (x:=ua) (y:=(List.range d.length).map λ(f:Nat)=>(f:Int)) bm (E3 bC) a7 ar;have av:B5 (B6 w6 (λb=>A3 B b\/A3 C b)) (B6 w7 (λb=>A3 B b\/A3 C b)):=I9 aQ (λ_ h=>.inr h) λ_ h=>.inl h;have bh:=(((bg.up Z λb j=>F2 (.inl j)).mod aQ λb j aG=>H b j aG)).up av λb j=>F2 (.inl j);have aS:=bk.up av λb j=>F2 (.inr j);have a8:=ax.inS (k:=A) (by rw[W7];exact V);have a9:=ay.inS (k:=A) (by rw[W7];exact V);simp only[m8,o6,y0,simprocAttr,a2,aV,aW,bq,bU,bL,aO,q1,a8,s1,a9,s2];refine⟨k+1,by omega,dO2 _ (B0 k (by omega)),by omega,?_,?_,?_⟩
  ·rw[af6,aJ];exact bh
  ·rw[af6,aJ];exact aS
  ·exact(aj.trans (o9.up q3)).trans ((o9.weaken aP λb _ h=>.inl h).trans (o9.weaken aQ λb _ h=>.inr h))
 have aK:k=d.length:=by simp at aH;omega
 subst aK;have ae:=bG5 (g:=λf=>[(f:Int)]) (n:=M) aa l;have af:=bG5 (g:=λ_=>(List.range d.length).map λ(f:Nat)=>(f:Int)) (n:=M) aa l;have aL:∀r∈af6 d (λf=>[(f:Int)]) M d.length,r.length<=1000/\∀f∈r,0<=f/\f<(d.length:Int):=λr G=>by
  obtain⟨q,hq⟩:=dV3.1 G;rcases az2 aa l _ (dO0 _) q r hq with⟨f,hf,_,rfl⟩|⟨_,rfl⟩
  ·exact⟨by simp,λO D=>by simp at D;omega⟩
  ·exact⟨by simp,λO D=>by simp at D⟩
 have aM:∀r∈af6 d (λ_=>(List.range d.length).map λ(f:Nat)=>(f:Int)) M d.length,r.length<=1000/\∀f∈r,0<=f/\f<(d.length:Int):=λr G=>by
  obtain⟨q,hq⟩:=dV3.1 G;rcases az2 aa l _ (dO0 _) q r hq with⟨f,hf,_,rfl⟩|⟨_,rfl⟩
  ·refine⟨by simp;omega,λO D=>?_⟩;obtain⟨z,hz,rfl⟩:=dO7.1 D;have:=dQ6.1 hz;omega
  ·exact⟨by simp,λO D=>by simp at D⟩
 have bK:=W7 d (λf=>[(f:Int)]) M d.length;have aN:=W7 d (λ_=>(List.range d.length).map λ(f:Nat)=>(f:Int)) M d.length;generalize af6 d (λf=>[(f:Int)]) M d.length=gl at ac ae aL bK;generalize af6 d (λ_=>(List.range d.length).map λ(f:Nat)=>(f:Int)) M d.length=kl at ad af aM aN;have aR:cG4 (M:Int) steps gl kl (d.length:Int):=by
  refine⟨by omega,by omega,by omega,by omega,by omega,by omega,λs hs=>?_,λr G f hf=>?_,λr G f hf=>?_⟩
  ·have:=aT s hs;rw[dP0];unfold bf8;omega
  ·have:=(aL r G).2 f hf;rw[dP0];exact this
  ·have:=(aM r G).2 f hf;rw[dP0];exact this
 simp only[m8,o6,simprocAttr,j2,j3,j9,aV,aW,aF,ak];refine y5 (dn6 (M:Int) (d.length:Int) v B C steps gl kl w4 (A4.mono (b7 L) hv) (ac.rw_ (B2 _ _)) (ad.rw_ (B2 _ _)) (by omega) (λr G=>by have:=(aL r G).1;omega) λr G=>by have:=(aM r G).1;omega) ?_;rintro _ w5 ⟨⟨vs,bZ,rfl,bp,bN⟩,bS⟩;cases bZ with
 | false=>exact absurd aR (bN rfl).1
 | true=>
  obtain⟨_,vi,ag,T,rfl,az,aU⟩:=bp rfl;have bD:=az.isS;obtain⟨al,st⟩:=dz4 w5 (T:Int) bD;have bX:=de0 w5 (vi:=vi) (T:=(T:Int));simp only[m8,o6,simprocAttr,al,st,bX];refine o8 results188 ?_;simp only[p8,simprocAttr];have bo:=o7.alloc w5 (.cells #[vi,.int .i64 (T:Int)] 295);have X:=(aj1 M steps).nx;have W:=X.len;rw[dP0]at aU;refine⟨⟨ag,?_,?_,λc bG=>?_⟩,(L.trans bS).trans bo⟩
  ·refine A4.mono (λb o e=>?_) az;have bd:¬b<w4.heap.size:=λh=>by rw[F2 (N:=λb=>b<w4.heap.size) h]at e;cases e
   rw[D8 (N:=λb=>b<w4.heap.size) bd]at e;rw[D8 (N:=λb=>b<w.heap.size) (λh=>bd (dS9 h L.size))];exact b7 bo b o e
  ·rw[aU.len,W]
  ·obtain⟨g,a6,bJ⟩:=aU.row (c:Int) (B3.2 ⟨by omega,by rw[W];exact bG⟩);rw[dP0]at a6;refine⟨g,a6,λf A hf=>?_⟩;rw[bJ,ce7 (cL5 (by rw[W];exact X)),cy0 ?_ ?_ hf]
   ·intro a' O;rw[ae];constructor
    ·rintro⟨f2,A2,Q,U,h3⟩;have:O=f2:=by simp at h3;omega
     subst this;exact⟨A2,Q,U⟩
    ·rintro⟨A2,Q,U⟩;exact⟨O,A2,Q,U,by simp⟩
   ·intro a' O D;rw[af];constructor
    ·rintro⟨f2,A2,Q,U,_⟩;exact⟨A2,dO4 Q,U⟩
    ·rintro⟨A2,Q,U⟩;obtain⟨f2,bI⟩:=dV3.1 Q;exact⟨f2,A2,bI,U,dO7.2 ⟨O,dQ6.2 D,rfl⟩⟩
section
section
variable {P:Program} {K:Fr->World->Prop} {f:Fr} {w:World} {d:Option Nat} {ty:TypeId} {pos:String} {aft:Array Edge}
theorem cP9{t:Nat}{x:Operand}:B1 P none ⟨d,.range t x,ty,pos,aft,none⟩ K f w=ah2 ((Instr.range t (ev f x)).run P w) K f d:=by
 show P9 P _ K f w=_;unfold P9;simp only[execOp,dO9];generalize(Instr.range t (ev f x)).run P w=r;cases r<;>rfl
theorem cs8{x:Operand}{s:Bool}:B1 P none ⟨d,.next x s,ty,pos,aft,none⟩ K f w=ah2 ((Instr.next (ev f x) s ty).run P w) K f d:=by
 show P9 P _ K f w=_;unfold P9;simp only[execOp,dO9];generalize(Instr.next (ev f x) s ty).run P w=r;cases r<;>rfl
theorem cP8{x:Operand}:B1 P none ⟨d,.entry x,ty,pos,aft,none⟩ K f w=ah2 ((Instr.entry (ev f x)).run P w) K f d:=by
 show P9 P _ K f w=_;unfold P9;simp only[execOp,dO9];generalize(Instr.entry (ev f x)).run P w=r;cases r<;>rfl
end
open Go.ChangeMaps (setBlock)
structure RgI (w:World) (it r:Nat) (es:Array MapEntry) (clock:Nat) (D:List Nat):Prop where
 cur:∃c0,clock<=c0/\w.heap[it]?=some (.mapIter (some r) clock (D.map λj=>(es.getD j default).born).toArray c0)
 map:w.heap[r]?=some (.map es clock)
 born:∀x∈es.toList,x.born<clock
 nd:(es.toList.map (·.born)).Nodup
 dn:D.Nodup
 dl:∀j∈D,j<es.size
def RgI.mod{w c:World}{it r:Nat}{b:Array MapEntry}{a:Nat}{D:List Nat}{M:Nat->Prop}(s:RgI w it r b a D)(h:o9 M w c)(f:¬M it)(g:¬M r):RgI c it r b a D:=by
 obtain⟨d,i,e⟩:=s.cur;exact⟨⟨d,i,(h.block it (dN0.1 e).1 f).trans e⟩,(h.block r (dN0.1 s.map).1 g).trans s.map,s.born,s.nd,s.dn,s.dl⟩
def bN8{w:World}{it:Nat}{o:Obj}:o9 (λb=>b=it) w (setBlock w it o):=bn4 w it o
def RgI.next{P:Program}{w:World}{it r:Nat}{d:Array MapEntry}{c:Nat}{D:List Nat}(s:RgI w it r d c D)(J:it≠r)(ty:TypeId):
  ((∀j,j<d.size->j∈D)/\(Instr.next (.pointer (some ⟨it,0,none⟩)) false ty).run P w = .ok (.tuple #[.bool false]) w) \/
  ∃(j:Nat) (e:MapEntry) (H:World),d[j]?=some e/\j∉D/\(Instr.next (.pointer (some ⟨it,0,none⟩)) false ty).run P w = .ok (.tuple #[.bool true,e.key,e.val]) H/\RgI H it r d c (D++[j])/\o9 (λb=>b=it) w H /\
   (∀l,o9 (λb=>b≠it/\b≠r) H l->(Instr.entry (.pointer (some ⟨it,0,none⟩))).run P l = .ok (.tuple #[e.key,e.val]) l):=by
 obtain⟨N,S,e⟩:=s.cur;have F:∀j k,j<d.size->k<d.size->(d.getD j default).born=(d.getD k default).born->j=k:=λj k f n h=>by
  have y:=dT5.1 s.nd;have G:∀j (f:j<d.size),(d.toList.map (·.born))[j]'(by simpa using f)=(d.getD j default).born:=λj f=>by
   simp[Array.getD,f]
  rcases Nat.lt_trichotomy j k with t|t|t
  ·exact absurd (by rw[G j f,G k n];exact h) (y j k (by simpa using f) (by simpa using n) t)
  ·exact t
  ·exact absurd (by rw[G j f,G k n];exact h.symm) (y k j (by simpa using n) (by simpa using f) t)
 have A:∀j,j<d.size->(((D.map λj=>(d.getD j default).born).toArray.contains (d.getD j default).born)=true↔j∈D):=λj f=>by
  rw[<-Array.contains_toList,dO5,dO7];constructor
  ·rintro⟨k,n,h⟩;have:=F k j (s.dl k n) f h;rw[<-this];exact n
  ·exact λh=>⟨j,h,rfl⟩
 rcases run_next_at (P:=P) w ty it r c N _ d c e s.map s.born S with⟨t,O⟩|⟨x,M,E,K,C⟩
 ·left;refine⟨λj f=>?_,O⟩;refine dV4 λo=>?_;have I:leftOf d (D.map λj=>(d.getD j default).born).toArray=#[]:=Array.eq_empty_of_size_eq_zero t;unfold leftOf at I;rw[Array.filter_eq_empty_iff]at I;have y:=I d[j] (Array.getElem_mem f);have Q:d.getD j default=d[j]:=by simp[Array.getD,f]
  have L:=A j f;rw[Q]at L;rw[Bool.not_eq_true',dX7]at y;exact o (L.1 (Classical.not_not.1 y))
 ·right;unfold leftOf at M;have v:x∈d.toList/\(!(D.map λj=>(d.getD j default).born).toArray.contains x.born)=true:=by simpa using M
  obtain⟨j,f,rfl⟩:=dT0.1 v.1;have m:j<d.size:=by simpa using f
  have p:d.getD j default=d.toList[j]:=by simp[Array.getD,m]
  have o:j∉D:=λh=>by
   have:=(A j m).2 h;rw[p]at this;rw[this]at v;simp at v
  have z:o9 (λb=>b=it) w E:=by
   rcases K with rfl|rfl
   ·exact o9.refl _
   ·exact o9.up (o7.drew w)
  have B:it<E.heap.size:=dS9 (dN0.1 e).1 z.size;have u:((D.map λj=>(d.getD j default).born).toArray.push d.toList[j].born)=((D++[j]).map λj=>(d.getD j default).born).toArray:=by
   rw[dP6,<-p];simp
  have q:o9 (λb=>b=it) w (setBlock E it (.mapIter (some r) c ((D.map λj=>(d.getD j default).born).toArray.push d.toList[j].born) c)):=z.trans bN8;have g:=(q.block r (dN0.1 s.map).1 λh=>J h.symm).trans s.map;have i:(setBlock E it (.mapIter (some r) c ((D.map λj=>(d.getD j default).born).toArray.push d.toList[j].born) c)).heap[it]?=some (.mapIter (some r) c ((D.map λj=>(d.getD j default).born).toArray.push d.toList[j].born) c):=by
   show(E.heap.setIfInBounds it _)[it]?=_;simp[B]
  refine⟨j,d.toList[j],_,by rw[dV8 m];simp,o,C,⟨⟨c,dO0 _,by rw[<-u];exact i⟩,g,s.born,s.nd,?_,λk n=>?_⟩,q,λl h=>?_⟩
  ·rw[dR0];exact⟨s.dn,by simp,λa R b F=>by simp at F;subst F;rintro rfl;exact o R⟩
  ·rcases dN7.1 n with h|h
   ·exact s.dl k h
   ·simp at h;subst h;exact m
  ·exact run_entry_at (P:=P) l it r c _ d c d.toList[j] ((h.block it (dN0.1 i).1 λh=>h.1 rfl).trans i) ((h.block r (dN0.1 g).1 λh=>h.2 rfl).trans g) (dN5 f) s.nd
end
def cw0(a:Addr)(p:Pg)(i:Nat)(w:World)(ha:At (i4 w) a (d9 p))(hr:D4 p)(hw:C5 p<=1000000)(hi:i<p.procs.length):
  p7 prog 137 #[.pointer (some a),.int .i64 i] w λu U=>(A8 (i4 w) U 210 u ((d9 p).flows (i:Int))/\o7 w U):=by
 refine p9 [.pointer (some a),.int .i64 i] func137 rfl ?_;obtain⟨x,pt⟩:=J5 hr.may hw i hi;have H:=P2 pt;generalize x+A9 p.procs[i].body=y at pt H;have aY:=J1 hr.may;have hn:=H.n;have dp:=pt.ok.len;have dn:=pt.ok.le;have bk:=aU2 hr hw hi H;have b3:=bK5 hr hw hi H;have al:(D5 (b9 p) i).data.length<=10000000:=dN1 bk (by decide);obtain⟨M,hM⟩:∃M:Nat,(D5 (b9 p) i).n=(M:Int):=by
  generalize(D5 (b9 p) i).n=wn at hn;exact⟨wn.toNat,by omega⟩
 have V:M<=202:=by rw[hM]at hn;clear bk al;omega
 have aQ:(d9 p).way (i:Int)=D5 (b9 p) i:=L8 hi;have K:((d9 p).way (i:Int)).n.toNat=M:=by rw[aQ,hM,dP0]
 have a1:bA8 ((d9 p).way (i:Int)):=by rw[aQ];exact dn9 H.toWyOk aY
 have a2:∀a:Nat,a<((d9 p).way (i:Int)).n.toNat->plc (((d9 p).way (i:Int)).place a):=by rw[aQ];exact do0 H.toWyOk aY
 have bl:∀k:Nat,k<((d9 p).way (i:Int)).n.toNat->((d9 p).gives (i:Int) (k:Int)).Nodup/\((d9 p).gives (i:Int) (k:Int)).length<=100:=λk Y=>by
  rw[K]at Y;have h:=aR0 hr hw hi (k:=k) (by rw[hM];exact Int.ofNat_lt.2 Y);exact⟨as7 h.1,h.2⟩
 have b5:=λ(c:Nat) (hc:c<M)=>cl3 hr hw hi (k:=c) (by rw[hM];exact Int.ofNat_lt.2 hc);obtain⟨sh,vw,_,_,_,_,has,ce,_,_,_,_,de,_⟩:=ha.book rfl;obtain⟨aw,cK,ag⟩:=am9 (hv:=ce) (k:=i) (p:=⟨D5 (b9 p) i⟩) (by show((I0 p).map λw=>(⟨w⟩:Ptr Wy))[i]?=_;rw[dP9,S7 hi];rfl);simp only at ag;have bT:=ce.inS (k:=i) (by show i<((I0 p).map λw=>(⟨w⟩:Ptr Wy)).length;unfold I0;simpa using hi);obtain⟨_,_,_,_,_,_,df,_⟩:=ag.wy;have lb:=de w (i5 _);have cR:=H7 (P:=prog) (t:=114) cK (i5 _) an1;simp only[m8,o6,y0,simprocAttr,lb,bT,cR];refine y5 (bQ1 aw _ p i x y w ag hr hw hi H) ?_;rintro vd w1 ⟨cT,aV⟩;simp only[m8,simprocAttr];refine y5 (ap4 aw _ p i x y vd _ w1 (ag.mono (b7 aV)) H.toWyOk (cT.rw_ (b7 aV)) b3 al) ?_;rintro vp w2 ⟨cU,bu⟩;have c5:=cU.rw_ (b7 bu);clear bk al b3;simp only[m8,simprocAttr];refine y5 (cz9 a p i w2 (ha.mono (b7 (aV.trans bu))) hr hw hi) ?_;rintro _ w3 ⟨r,kv,cn,rfl,hG⟩;have aB:=aV.trans (bu.trans hG.ext);have lw:=df w3 (b7 aB);simp only[hM]at lw;have hz:A4.enc (i4 w3) (Value.slice none 0 0).cells.toList ([]:List A6):=bd1 _;obtain⟨vt,w4,m1,aX,x4,f4,_⟩:=mk (P:=prog) (w:=w3) (h:=i4 w3) (α:=List A6) ct4 cc0 (y:=[]) hz (n:=M) (by omega) (by omega) (i5 _);obtain⟨il,cM,bO⟩:=az9 (P:=prog) cc0 cT7;have cG:=aX.isS;have b1:=aX.vlen;rw[dR7]at b1;simp only[m8,o6,simprocAttr,lw,m1,cG,b1];have aP:∀b,A3 vt b->w3.heap.size<=b/\b<w4.heap.size:=λb o=>⟨f4 b o,aX.lt o⟩;have a9:=aX.reNo (aL8 x4 λb o=>(aP b o).1) (λb o=>o);rw[cj7 (λc=>(d9 p).takes (i:Int) (c:Int)) M]at a9;refine n9 [0,1,5,6,7,8,10,41] (σ:=Nat) (λk f U=>f 42 = .int .i64 k/\k<=M/\A8 (B6 U (A3 vt)) U 31 vt (aF1 (λc=>(d9 p).takes (i:Int) (c:Int)) M k)/\o7 w3 U/\w4.heap.size<=U.heap.size) (λk=>M-k) 0 ?_ ?_
 ·simp only[p8,simprocAttr];exact⟨by first|rfl|trivial,dN6 _,a9,x4,dO0 _⟩
 rintro k f E Y ⟨be,dL,cm,Q,c1⟩;simp only[dM6,p8,simprocAttr]at Y;obtain⟨e0,e1,e5,e6,e7,e8,bC,cx,_⟩:=Y;have C:=aB.trans Q;simp only[m8,o6,simprocAttr,be,cx];refine n7 (λhc=>?_) (λhc=>?_)
 ·have ar:k<M:=by simpa using hc
  simp only[m8,simprocAttr,be,e0,e1,bC];refine y5 (cw5 (i4 w) a p i k E ha (b7 C) hr hw hi (by rw[hM];exact Int.ofNat_lt.2 ar)) ?_;rintro u w6 ⟨hu,aC⟩;have ca:R (B6 w6 (A3 vt)) u ((d9 p).takes (i:Int) (k:Int)):=A4.mono (cq7 (b7 C) aC λb o=>⟨dS9 (aP b o).2 c1,aV5 (dN1 aB.size (aP b o).1)⟩) hu;have co:=(cm.ext aC).up (I9 aC (λ_ h=>h.elim) λ_ h=>.inl h) λb o=>F2 o;obtain⟨w7,s1,dg,bY,dP⟩:=E4 (P:=prog) (t:=31) co rfl (k:=k) (by rw[bd8];exact ar) (x:=u) (y:=(d9 p).takes (i:Int) (k:Int)) ca (E3 ca.isS) cM bO;have ba:=dg.up (I9 bY (λ_ h=>h) λ_ h=>.inl h) λb o=>F2 o;have cN:=co.inS (k:=k) (by rw[bd8];exact ar);rw[cD4 (T:=λc=>(d9 p).takes (i:Int) (c:Int))]at ba;have dO:=aC.size;simp only[m8,o6,y0,simprocAttr,be,cN,s1];exact⟨k+1,by omega,dO2 _ (B0 k (by omega)),by omega,ba,o9.ext_of (Q.trans aC) bY λb o=>(aP b o).1,by omega⟩
 have ao:M=k:=by simp at hc;omega
 subst ao;have cd:=cm.rw_ (B2 _ _);have cb:=A4.mono (b7 (hG.ext.trans Q)) c5;have aN:=hG.more Q;obtain⟨es,d,aR,bV,aa,bg,bH⟩:=aN.map;have a6:=run_range_map (P:=prog) E 253 _ _ r es d Tryz.underlying253 aR;have cg:=o7.alloc E (.mapIter (some r) d #[] d);have b2:RgI (E.alloc (.mapIter (some r) d #[] d)) E.heap.size r es d []:=⟨⟨d,dO0 _,dQ5 _ _⟩,((o7.alloc _ _).block _ (dN0.1 aR).1 id).trans aR,bg,bH,List.nodup_nil,by simp⟩;generalize E.alloc (.mapIter (some r) d #[] d)=w6 at a6 cg b2;have dq:r<E.heap.size:=(dN0.1 aR).1;have dl:kv.length=es.size:=by
  have:=dO2 List.length bV;simpa using this.symm
 have Z:∀n,(d9 p).givers (i:Int) n≠[]↔n∈kv.map (·.1):=λn=>by
  have bN:cL2 p i n=((d9 p).givers (i:Int) n).map λ(a:Nat)=>(a:Int):=rfl;constructor
  ·intro h;cases e:N1 kv n with
   | none=>
    have:=aN.no n e;rw[bN,List.map_eq_nil_iff]at this;exact absurd this h
   | some v=>exact dO7.2 ⟨_,cL1 e,rfl⟩
  ·intro h e;obtain⟨⟨m,v⟩,h1,rfl⟩:=dO7.1 h;have:=(aN.row m v (bU5 aa h1)).2;rw[bN]at this;simp only at e;rw[e]at this;exact this rfl
 have dm:kv.length<=M*100:=by
  have h:=cN3 (b:=d9 p) (i:=(i:Int)) aa (λn hn=>(Z n).2 hn) λa ha=>(bl a ha).2;rw[K,dN4]at h;exact h
 simp only[m8,simprocAttr,e8,cP9,a6];have bm:E.heap.size≠r:=λe=>by omega
 refine n9 [0,1,5,7,10,54] (σ:=List Nat×Value) (λs f U=>f 6=s.2/\RgI U E.heap.size r es d s.1/\o7 E U/\A8 (i4 E) U 210 s.2 ((s.1.map (keyN kv)).flatMap (an5 (d9 p) (i:Int)))/\(∀b,A3 s.2 b->b≠E.heap.size)) (λs=>es.size-s.1.length) ([],.slice none 0 0) ?_ ?_
 ·simp only[p8,simprocAttr];exact⟨e6,b2,cg,A8.nil _ _ _,λb o=>absurd o D1⟩
 rintro⟨D,vo⟩ f7 w7 Y ⟨h6,F,a8,au,aA⟩;simp only at h6 F au aA;simp only[dM6,p8,simprocAttr]at Y;obtain⟨g0,g1,g5,g7,bD,bd,_⟩:=Y;rw[e0]at g0;rw[e1]at g1;rw[e5]at g5;rw[e7]at g7;rw[bC]at bD;have dJ:D.length<=es.size:=by
  have:=I2 (m:=List.range es.size) F.dn λj hj=>dQ6.2 (F.dl j hj)
  rwa [dR3]at this
 have a3:((D.map (keyN kv)).flatMap (an5 (d9 p) (i:Int))).length<=824240800:=by
  have h:=aL5 (l:=D.map (keyN kv)) (f:=an5 (d9 p) (i:Int)) (B:=M*M) λn _=>by
   have:=cz4 (d9 p) (i:Int) n
   rwa [K]at this
  rw[dN4]at h;have h1:D.length<=20200:=by omega
  have h2:M*M<=202*202:=Nat.mul_le_mul V V;have h3:D.length*(M*M)<=20200*(202*202):=Nat.mul_le_mul h1 h2;exact dN1 h (dN1 h3 (by decide))
 rcases F.next (P:=prog) bm 0 with⟨bG,aS⟩|⟨j,e,w8,cP,dM,aS,av,bZ,bJ⟩
 ·simp only[m8,simprocAttr,bd,cs8,aS,h6];refine y5 (ck4 au (by omega) λs hs t ht h1 h2=>?_) ?_
  ·obtain⟨n,_,hs⟩:=dQ0.1 hs;obtain⟨m,_,ht⟩:=dQ0.1 ht;exact cz5 a2 hs ht h1 h2
  rintro u9 w9 ⟨aT,cS⟩;simp only[m8,simprocAttr,h6];refine o8 results137 ?_;simp only[p8,simprocAttr];have cQ:(D.map (keyN kv)).Nodup:=by
   rw[List.Nodup,List.pairwise_map];refine List.Pairwise.imp_of_mem (fun{j q} hj hq bm e=>?_) F.dn;exact bm (cN2 aa (by have:=F.dl j hj;omega) (by have:=F.dl q hq;omega) e)
  have bp:=cg0 a1 (λa ha=>(bl a ha).1) cQ λn hn=>by
   have h1:=(Z n).1 hn;obtain⟨q,hq,cX⟩:=dT0.1 h1;refine dO7.2 ⟨q,bG q (by rw[dN4]at hq;omega),?_⟩;rw[<-cX,dT4,aV8 (dM4 (by simpa using hq))]
  rw[cK9 a1 (λa ha=>(bl a ha).1) a2 bp]at aT;exact⟨aT.backN C,o9.ext_of (C.trans a8) cS λb o=>dN1 C.size (D0 (au.free o))⟩
 generalize hP:(D.map (keyN kv)).flatMap (an5 (d9 p) (i:Int))=bx at au a3;obtain⟨⟨n,v⟩,hq,bI,bK⟩:∃q:A6×Value,kv[j]?=some q/\e.key=p6 q.1/\e.val=q.2:=by
  have h1:=dO2 (λl=>l[j]?) bV;simp only[dP9,dY3,cP,dS5]at h1;obtain⟨q,h2,h3⟩:=Option.map_eq_some_iff.1 h1.symm;exact⟨q,h2,(dO2 Prod.fst h3).symm,(dO2 Prod.snd h3).symm⟩
 simp only at bI bK;have bU:keyN kv j=n:=aV8 hq;obtain⟨cV,_⟩:=aN.row n v (bU5 aa (dO4 hq));have am:=bJ w8 (o9.refl _);rw[bI,bK]at am aS;have S:o7 E w8:=o9.ext_of a8 bZ λb o=>by subst o;exact dO0 _
 have bo:=au.mod bZ λb o h=>aA b o h;have az:R (i4 E) v (((d9 p).givers (i:Int) n).map λ(a:Nat)=>(a:Int)):=cV.rw_ (b7 (hG.ext.trans Q));have bt:R (i4 w8) v (((d9 p).givers (i:Int) n).map λ(a:Nat)=>(a:Int)):=A4.mono (b7 S) az;have cc:=A4.mono (b7 S) cb;have dI:D.length+1<=es.size:=by
  have:=I2 (m:=List.range es.size) av.dn λq hq=>dQ6.2 (av.dl q hq)
  rwa [dR3,dM7,dP7]at this
 simp only[m8,simprocAttr,bd,cs8,cP8,aS,am,g0,g1,g7];refine y5 (cx9 a p i vp v ((d9 p).givers (i:Int) n) w8 (ha.mono (b7 (C.trans S))) hr hw hi cc bt (aV2 _ _ _) (λA hA=>by have:=af3 _ _ _ A hA;rw[K]at this;rw[hM];exact Int.ofNat_lt.2 this)) ?_;rintro vs w9 ⟨⟨cp,ae,c2,a5⟩,aW⟩;rw[hM]at c2;simp only[hM]at a5;have b4:cp.length=M:=by omega
 have br:∀c:Nat,c<M->C9 cp c=(an6 (d9 p) (i:Int) n c).map λ(f:Nat)=>(f:Int):=λc hc=>by
  obtain⟨g,h1,h2⟩:=a5 c (Int.ofNat_lt.2 hc);have e:(List.range ((d9 p).givers (i:Int) n).length).filter g=an6 (d9 p) (i:Int) n c:=by
   unfold an6;refine List.filter_congr λf hf=>?_;have bL:=dQ6.1 hf;have h3:=h2 f _ (dM4 bL);have h4:((d9 p).givers (i:Int) n).getD f 0=((d9 p).givers (i:Int) n)[f]:=by rw[List.getD,dM4 bL];rfl
   rw[h4,dY0];exact h3
  rw[h1,e]
 have cF:=ae.isS;have b0:=ae.vlen;rw[b4]at b0;have aT:=bo.ext aW;have a4:=av.mod aW (λh=>h) (λh=>h);have dk:E.heap.size<w9.heap.size:=by
  obtain⟨_,_,h⟩:=a4.cur;exact(dN0.1 h).1
 simp only[m8,o6,simprocAttr,cF,b0];refine n9 [0,1,5,7,10,12,13,54,64,65] (σ:=Nat×Value) (λs f U=>f 66 = .int .i64 s.1/\f 6=s.2/\s.1<=M/\A8 (i4 E) U 210 s.2 (bx++(List.range s.1).flatMap (aE4 (d9 p) (i:Int) n))/\o9 (λb=>E.heap.size<=b/\b≠E.heap.size/\(b<w8.heap.size\/w9.heap.size<=b)) w9 U/\(∀b,A3 s.2 b->E.heap.size<=b/\b≠E.heap.size/\(b<w8.heap.size\/w9.heap.size<=b))) (λs=>M-s.1) (0,vo) ?_ ?_
 ·simp only[p8,simprocAttr];exact⟨by first|rfl|trivial,h6,dN6 _,by rw[List.range_zero,List.flatMap_nil,dP8];exact aT,o9.refl _,λb o=>⟨D0 (bo.free o),aA b o,.inl (bo.lt o)⟩⟩
 rintro⟨c,v3⟩ f9 ec Y ⟨aL,bf,cH,ad,ac,X⟩;simp only at aL bf cH ad X;simp only[dM6,p8,simprocAttr]at Y;obtain⟨k0,k1,k5,k7,ch,c6,c7,c8,c9,da,_⟩:=Y;rw[g0]at k0;rw[g1]at k1;rw[g5]at k5;rw[g7]at k7;rw[bD]at ch;rw[bd]at c8;simp only[m8,o6,simprocAttr,aL,da];refine n7 (λbi=>?_) (λbi=>?_);rotate_left
 ·have ao:c=M:=by simp at bi;omega
  simp only[m8,simprocAttr];have bq:=a4.mod ac (λh=>h.2.1 rfl) (λh=>by have:=h.1;omega);have bv:=o9.ext_of (S.trans aW) ac λb o=>o.1;refine⟨(D++[j],v3),by simp only[dM7,dP7];omega,bf,bq,bv,?_,λb o=>(X b o).2.1⟩;simp only[];rw[dP6,dZ6,hP,dQ8,List.map_nil,bU,dW2,List.flatMap_nil,dP8];have:an5 (d9 p) (i:Int) n=(List.range c).flatMap (aE4 (d9 p) (i:Int) n):=by unfold an5;rw[K,ao]
  rw[this];exact ad
 have L:c<M:=by simpa using bi
 obtain⟨ur,ax,cI⟩:=R.row ae (k:=c) (cR4 (by omega));rw[br c L]at ax;have cC:=ac.weaken (N:=λb=>b<w8.heap.size) λb o h=>by rcases h.2.2 with h|h<;>omega
 have bQ:=ae.inS (k:=c) (by omega);have bW:=H7 (P:=prog) (t:=24) cI (E1 cC) ad0;have cE:=ax.isS;have bn:=ax.vlen;rw[dN4]at bn;obtain⟨ut,c4,cJ⟩:=R.row cd (cD3 (T:=λc=>(d9 p).takes (i:Int) (c:Int)) L);have bR:=cd.inS (k:=c) (by rw[bd8];exact L);have cW:(bx++(List.range c).flatMap (aE4 (d9 p) (i:Int) n)).length<=824240800+202*202:=by
  rw[dM7];have h:=br0 (d9 p) (i:Int) n c;rw[K]at h;have h2:c*M<=202*202:=Nat.mul_le_mul (by omega) V;exact Nat.add_le_add a3 (dN1 h h2)
 have aZ:=bD2 (d9 p) (i:Int) n c;rw[K]at aZ;have bM:aE4 (d9 p) (i:Int) n c=(an6 (d9 p) (i:Int) n c).flatMap (ab5 (d9 p) (i:Int) n c):=rfl;have a0:∀f∈an6 (d9 p) (i:Int) n c,f<((d9 p).givers (i:Int) n).length:=λf hf=>by
  unfold an6 at hf;exact dQ6.1 (dP2.1 hf).1
 generalize an6 (d9 p) (i:Int) n c=fl at ax bn aZ bM a0;generalize cD:bx++(List.range c).flatMap (aE4 (d9 p) (i:Int) n)=bb at ad cW;simp only[m8,o6,y0,simprocAttr,aL,c9,bQ,bW,cE,bn];refine n9 [0,1,5,7,10,12,13,14,54,64,65,66,71,72] (σ:=Nat×Value) (λs f U=>f 73 = .int .i64 s.1/\f 6=s.2/\s.1<=fl.length/\A8 (i4 E) U 210 s.2 (bb++(fl.take s.1).flatMap (ab5 (d9 p) (i:Int) n c))/\o9 (λb=>E.heap.size<=b/\b≠E.heap.size/\(b<w8.heap.size\/w9.heap.size<=b)) w9 U/\(∀b,A3 s.2 b->E.heap.size<=b/\b≠E.heap.size/\(b<w8.heap.size\/w9.heap.size<=b))) (λs=>fl.length-s.1) (0,v3) ?_ ?_
 ·simp only[p8,simprocAttr];exact⟨by first|rfl|trivial,bf,dN6 _,by rw[dX3,List.flatMap_nil,dP8];exact ad,ac,X⟩
 rintro⟨q,v4⟩ dE aE Y ⟨ak,aM,cY,O,I,G⟩;simp only at ak aM cY O G;simp only[dM6,p8,simprocAttr]at Y;obtain⟨l0,l1,l5,l7,ci,bw,cj,ck,dV,dW,dX,cl,dc,dd,_⟩:=Y;rw[k5]at l5;rw[ch]at ci;rw[c6]at bw;rw[c7]at cj;rw[aL]at cl;simp only[m8,o6,simprocAttr,ak,dd];refine n7 (λbj=>?_) (λbj=>?_);rotate_left
 ·have ao:q=fl.length:=by simp at bj;omega
  rw[ao,dN8]at O;simp only[m8,o6,simprocAttr,cl];refine⟨(c+1,v4),by omega,dO2 _ (B0 c (by omega)),aM,by omega,?_,I,G⟩;simp only[];rw[dW7,dZ6,<-dP5,cD,dW2,List.flatMap_nil,dP8,bM];exact O
 have ab:q<fl.length:=by simpa using bj
 have z:o7 E aE:=o9.ext_of (S.trans aW) I λb o=>o.1;have bF:=I.weaken (N:=λb=>b<w8.heap.size) λb o h=>by rcases h.2.2 with h|h<;>omega
 have ay:R (i4 aE) ur (fl.map λ(f:Nat)=>(f:Int)):=A4.mono (E1 bF) ax;have bP:=ay.inS (k:=q) (by rw[dN4];exact ab);have ap:=aF7 ay (i5 _) (k:=q) (by rw[dN4];exact ab);rw[dT4]at ap;have bX:=H7 (P:=prog) (t:=31) cJ (b7 z) O0;have an:=a0 _ (dN5 ab);have bs:=H4 (ab5 (d9 p) (i:Int) n c) fl ab;have dN:(bb++(fl.take q).flatMap (ab5 (d9 p) (i:Int) n c)).length<=824240800+202*202+202:=by
  rw[dM7];have h:=aL5 (l:=fl.take q) (f:=ab5 (d9 p) (i:Int) n c) (B:=1) λf _=>br1 _ _ _ _ f;rw[dN9,dT8]at h;omega
 generalize fl[q]=f at ap an bs;have af:R (i4 aE) v (((d9 p).givers (i:Int) n).map λ(a:Nat)=>(a:Int)):=A4.mono (b7 z) az;have bS:=af.inS (k:=f) (by rw[dN4];exact an);have aq:=aF7 af (i5 _) (k:=f) (by rw[dN4];exact an);rw[dT4]at aq;have cL:((d9 p).givers (i:Int) n).getD f 0=((d9 p).givers (i:Int) n)[f]:=by rw[List.getD,dM4 an];rfl
 have bE:=af3 _ _ _ _ (dN5 an);rw[K]at bE;have W:ab5 (d9 p) (i:Int) n c f=if((d9 p).takes (i:Int) (c:Int)).contains n then[⟨(D5 (b9 p) i).place ((((d9 p).givers (i:Int) n)[f]:Nat):Int),(D5 (b9 p) i).place (c:Int),n⟩]else[]:=by
  unfold ab5;rw[cL,aQ]
 generalize((d9 p).givers (i:Int) n)[f]=A at aq bE W;have b8:=(b5 c L).1;have b6:((d9 p).takes (i:Int) (c:Int)).length<=1000000000:=dN1 (b5 c L).2 (by decide);simp only[m8,o6,y0,simprocAttr,ak,dc,bP,ap,ci,ck,bR,bX,bw];refine E0 (af2 ut _ n aE (A4.mono (b7 z) c4) b6 b8) ?_;clear b6 b8;rcases dM5 (((d9 p).takes (i:Int) (c:Int)).contains n)with h|h;rotate_left
 ·rw[h,if_neg (by simp)]at W;simp only[m8,o6,simprocAttr,h,ak];refine⟨(q+1,v4),by omega,dO2 _ (B0 q (by omega)),aM,by omega,?_,I,G⟩;simp only[];rw[bs,W,dP8];exact O
 rw[h,if_pos rfl]at W;simp only[m8,o6,y0,simprocAttr,h,aM,l5,cj,bS,aq];refine y5 (ae8 aw _ p i x y (A:Int) aE (ag.mono (b7 (C.trans z))) H.toWyOk ⟨by omega,by omega⟩) ?_;rintro _ dh ⟨rfl,a7⟩;simp only[m8,simprocAttr,l5,ck];refine y5 (ae8 aw _ p i x y (c:Int) dh (ag.mono (b7 (C.trans (z.trans a7)))) H.toWyOk ⟨by omega,by omega⟩) ?_;rintro _ ed ⟨rfl,cf⟩;have J:=a7.trans cf;generalize(D5 (b9 p) i).place (A:Int)=s1 at W;generalize(D5 (b9 p) i).place (c:Int)=d1 at W;obtain⟨p1,v5,ee,p2,p3,p4,p5⟩:=push (P:=prog) (t:=207) (e:=207) dy8 rfl (O.ext J) (x:=.agg (A0.cells (⟨s1,d1,n⟩:Fw)).toArray) (y:=⟨s1,d1,n⟩) (bS8 _) (by omega) (by omega) (b7 (z.trans J));simp only[Value.cells]at p1 p2;have cB:=I.size;have c0:=J.size;simp only[m8,o6,simprocAttr,ak,bw,cI0,p1,p2];refine⟨(q+1,v5),by omega,dO2 _ (B0 q (by omega)),by trivial,by omega,?_,(I.trans (o9.up J)).trans (p4.weaken λb _ o=>G b o),λb o=>?_⟩
 ·simp only[];rw[bs,W,<-dP5];exact p3
 ·rcases p5 b o with h|h
  ·exact G b h
  ·exact⟨by omega,by omega,.inr (by omega)⟩
def bA9(a:Addr)(p:Pg)(i:Nat)(w:World)(ha:At (i4 w) a (d9 p))(hr:D4 p)(hw:C5 p<=1000000)(O:i<p.procs.length):
  p7 prog 129 #[.pointer (some a),.int .i64 i] w λu v=>(∃ui uo,u = .tuple #[ui,uo]/\A8 (i4 w) v 9 ui ((d9 p).slotsIn (i:Int))/\A8 (i4 w) v 9 uo ((d9 p).slotsOut (i:Int))/\(∀b,A3 ui b->¬A3 uo b)/\o7 w v):=by
 refine p9 [.pointer (some a),.int .i64 i] func129 rfl ?_;have F:(d9 p).slotsIn (i:Int)=T4 (G2 (ab7 p) (i:Int)++p.procs[i].params.map (·.name)):=by
  unfold Bk.slotsIn;rw[Q5 O];rfl
 have W:(d9 p).slotsOut (i:Int)=T4 (G2 (J3 p) (i:Int)++[R5]):=rfl;obtain⟨sh,vw,vd,_,vi,vo,has,a7,a5,_,aj,ak,L,bd⟩:=ha.book rfl;obtain⟨_,_,_,_,_,_,af,_,_⟩:=has.sh;rw[K9]at af;obtain⟨vg,vp,a6,al,aT,be⟩:=af.pg;have lb:=L w (i5 _);have g:∀v,o7 w v->B5 (i4 w) (i4 v):=λv hx=>b7 hx;obtain⟨r,K,Y⟩:=(aL9 hr hw).row O;generalize G2 (ab7 p) (i:Int)=M at r K Y F;obtain⟨ui,aM,ay⟩:=R.row aj (show(d9 p).ins[i]?=some M from r);have Z:=aj.inS (k:=i) (show i<(ab7 p).length from(dM9.1 r).1);have aD:=H7 (P:=prog) (t:=31) ay (i5 _) O0;obtain⟨m,y,G⟩:=(ay9 hr.may).row O;generalize G2 (J3 p) (i:Int)=D at m y G W;obtain⟨uo,aN,az⟩:=R.row ak (show(d9 p).outs[i]?=some D from m);have aa:=ak.inS (k:=i) (show i<(J3 p).length from(dM9.1 m).1);simp only[m8,o6,y0,F8,I4.val,simprocAttr,lb,Z,aD];refine y5 (ar5 ui M w aM (by omega)) ?_;rintro u2 Q ⟨aG,z⟩;have aQ:=L Q (g Q z);have aV:=aT Q (g Q z);have A:=al.at_ (i:=i) (x:=p.procs[i]) (dM4 O);have ab:=al.inS (k:=i) O;have aP:A4.sz Pr=5:=rfl;rw[aP]at A;obtain⟨bh,_,_,_,h,_,_,_,aU,_⟩:=A.pr;have aW:=aU Q (g Q z);have aJ:=R1 hr.may O;generalize p.procs[i].params=n at h aJ F;have au:=h.isS;have aF:=h.vlen;simp only[m8,o6,y0,F8,I4.val,simprocAttr,aQ,aV,ab,aW,au,aF];refine n9 [0,1,27,28] (σ:=Nat×Value) (λs f v=>f 29 = .int .i64 s.1/\f 4=s.2/\s.1<=n.length/\A8 (i4 w) v 9 s.2 (M++(n.take s.1).map (·.name))/\o7 w v) (λs=>n.length-s.1) (0,u2) ?_ ?_
 ·simp only[p8,simprocAttr];exact⟨by first|rfl|trivial,trivial,dN6 _,by simpa using aG,z⟩
 rintro⟨j,u⟩ f N hk ⟨E,h4,aC,I,c⟩;simp only at E h4 aC I;simp only[dM6,p8,simprocAttr]at hk;obtain⟨e0,e1,S,T,_⟩:=hk;simp only[m8,o6,y0,F8,I4.val,simprocAttr,E,S,T];refine n7 (λhc=>?_) (λhc=>?_)
 ·have H:j<n.length:=by simpa using hc
  have aB:=h.inS H;obtain⟨sv,ag,ac⟩:=F9 (P:=prog) (t:=78) h (g N c) (dM4 H) bx9 by3 bl1 at8;rw[at8]at ac;have ah:=aJ1 (λq:Pa=>q.name) n H;generalize n[j]=pa at ag ah;obtain⟨d,wz,w4,av,aL,l,aw⟩:=aN6 (ag.mono (g N c)) (i5 _);obtain⟨aS,_⟩:=aw.pa;have l4:=aS w4 (i5 _);obtain⟨p1,u5,w5,p2,p3,p4,p5⟩:=pushS (e:=31) (I.ext l) pa.name (by rw[dM7,dN4,dN9];omega) (b7 (c.trans l));simp only[m8,o6,y0,F8,I4.val,simprocAttr,E,h4,S,T,aB,ac,av,aL,l4,p1,p2];refine⟨(j+1,u5),by omega,dO2 _ (B0 j (by omega)),by trivial,by omega,?_,(I.ext l).ext2 (c.trans l) p4⟩;simp only[];rw[ah,<-dP5];exact p3
 have aA:j=n.length:=by simp at hc;omega
 subst aA;rw[dN8]at I;have aR:=L N (g N c);have aE:=H7 (P:=prog) (t:=31) az (g N c) O0;simp only[m8,o6,y0,F8,I4.val,simprocAttr,e0,e1,aR,aa,aE];refine y5 (ar5 uo D N (A4.mono (g N c) aN) (by omega)) ?_;rintro u4 w4 ⟨J,l⟩;obtain⟨p1,u5,w5,p2,p3,p4,p5⟩:=pushS (e:=31) J R5 (by omega) (b7 l);have aY:(Instr.buildSlice 31 1 #[(0,.string ⟨#[36,114,101,116]⟩)]).run prog w4=_:=p1;have X:∀b,A3 u b->¬A3 u4 b:=λb U V=>by
  have:=I.lt U;have:=D0 (J.free V);omega
 have o:∀b,A3 u b->¬A3 u5 b:=λb U V=>by
  have:=I.lt U;have:=D0 (p3.free V);omega
 have B:=(I.ext l).mod p4 X;have aO:o7 w w5:=c.trans (J.ext2 l p4);simp only[m8,o6,y0,F8,I4.val,simprocAttr,aY,p2,h4];refine y5 (aj5 B (by rw[dM7,dN4];omega)) ?_;rintro u6 w6 ⟨aH,ad⟩;have C:=(p3.mod ad λb U V=>o b V U).back c;simp only[m8,o6,y0,F8,I4.val,simprocAttr];refine y5 (aj5 C (by rw[dM7,dP7];omega)) ?_;rintro u7 w7 ⟨aI,ae⟩;simp only[m8,o6,y0,F8,I4.val,simprocAttr];refine T3 results129 ?_;simp only[p8,simprocAttr];rw[F,W];exact⟨u,u5,by rw[h4],aH.mod ae o,aI,o,C.ext2 (B.ext2 aO ad) ae⟩
def ci7(n:A6)(w:World):p7 prog 179 #[p6 n] w λu e=>(u = .bool (decide (n=R5))/\e=w):=by
 refine p9 [p6 n] func179 rfl ?_;have c:=λ(P:Program) (t:TypeId)=>co4 (P:=P) (t:=t) (a:=n) (b:=R5);have d:p6 R5 = .string ⟨#[36,114,101,116]⟩:=rfl;simp only[d]at c;simp only[m8,o6,simprocAttr,c];exact o8 results179 ⟨rfl,by trivial⟩
theorem bR8(q:A6)(k d:Int)(n:A6):B8 prog 26 [(0,p6 q),(1,.int .i64 k),(2,.int .i64 d),(3,p6 n)]=some (.agg (A0.cells (⟨q,k,d,n⟩:Vx)).toArray):=by
 simp[B8,bH4,K8,Instr.fill,Value.cells,p6];rfl
def J0(a:Addr)(i:Int)(q:A6)(b c d e g f:Value):Array Value:=#[.pointer (some a),.int .i64 i,p6 q,b,c,d,e,g,f]
def J6(e:Nat)(T:TypeId)(a:Array Value)(q:A6)(k d:Int)(n:A6)(w:World)(hb:w.heap[e]?=some (.cells a T (0,0)))(m:a[2]?=some (p6 q)):
  p7 prog 130 #[.pointer (some ⟨e,0,none⟩),.int .i64 k,.int .i64 d,p6 n] w λu p=>(u = .agg (A0.cells (⟨q,k,d,n⟩:Vx)).toArray/\o7 w p):=by
 refine p9 [.pointer (some ⟨e,0,none⟩),.int .i64 k,.int .i64 d,p6 n] func130 rfl ?_;have g:A0.cells (⟨q,k,d,n⟩:Vx)=[p6 q,.int .i64 k,.int .i64 d,p6 n]:=rfl;obtain⟨h,j⟩:=aJ0 (P:=prog) (w:=w) (T:=26) bl3 rfl (cs:=#[p6 q,.int .i64 k,.int .i64 d,p6 n]) (by rw[O9];rfl) (by simp[Value.oneCell',p6]);have b:=bR8 q k d n;rw[g]at b ⊢;have f:=λo=>((o7.alloc w o).block e (dN0.1 hb).1 id).trans hb;have l:=λo=>E2 (P:=prog) (t:=9) (i:=2) (u:=p6 q) (f o) m V4;have c:=ag4 (P:=prog) (T:=26) (dQ5 w (.cells #[p6 q,.int .i64 k,.int .i64 d,p6 n] 26)) at6 at9 an8 (by rw[O9];rfl);simp only[m8,o6,simprocAttr,h,l,b,j];refine M7 results130 (ad:=⟨w.heap.size,0,none⟩) (by simp only[p8,simprocAttr]) c ?_;exact⟨rfl,o7.alloc _ _⟩
def BM.rebase{α β:Type}[A4 α][A4 β]{H e:Hp}{w0 i w:World}{Z:Nat->Prop}{b:Nat}{f g TY:TypeId}{a:Value->Array Value}{c d:Value}{xs:List α}{ys:List β}(s:BM H w0 i w Z b f g TY a c d xs ys)(h:B5 e (B6 w (nB b c d Z))):BM e w0 i w Z b f g TY a c d xs ys:=
 ⟨s.ext,s.ge,s.cb,s.ox,s.oy,s.dx,s.dy,s.dz,s.zk,s.sz,h⟩
abbrev PV(H:Hp)(w0 w:World)(f:Nat)(a:Addr)(i:Int)(q:A6)(b c d e g:Value)(xs:List Vx):Prop:=
 BM (α:=Vx) (β:=Int) H w0 w0 w (λ_=>False) f 195 26 3 (λv=>J0 a i q b c d e v (.slice none 0 0)) g (.slice none 0 0) xs []
abbrev PE(H:Hp)(w0 w:World)(f:Nat)(a:Addr)(i:Int)(q:A6)(b c d e g:Value)(xs:List Eg):Prop:=
 BM (α:=Eg) (β:=Int) H w0 w0 w (λ_=>False) f 195 67 3 (λv=>J0 a i q b c d e (.slice none 0 0) v) g (.slice none 0 0) xs []
abbrev nP(a:Nat)(b:Value):Nat->Prop:=nB a b (.slice none 0 0) λ_=>False
def dh6:∃a,prog.info? 22=some a/\a.size=1:=az9 dk2 dj8
def bV3:∃a,prog.info? 55=some a/\a.size=1:=az9 dk4 dj9
def aM8(H:Hp)(b:Nat)(a:Addr)(i:Int)(q:A6)(F G I J E:Value)(xs:List Vx)(k d:Int)(u:Value)(g:List A6)(w0 w:World)(s:PV H w0 w b a i q F G I J E xs)(L:R (B6 w (nP b E)) u g)(hl:xs.length+g.length<=1000000):
  p7 prog 131 #[.pointer (some ⟨b,0,none⟩),.int .i64 k,.int .i64 d,u] w λr c=>(∃Y,PV (B6 w (nP b E)) w0 c b a i q F G I J Y (xs++g.map λn=>⟨q,k,d,n⟩)):=by
 refine p9 [.pointer (some ⟨b,0,none⟩),.int .i64 k,.int .i64 d,u] func131 rfl ?_;have hS:=L.isS;have hn:=L.vlen;obtain⟨il,T,A⟩:=dh6;simp only[m8,o6,simprocAttr,hS,hn];refine n9 [0,1,2,10,11] (σ:=Nat×Value) (λt f c=>f 12 = .int .i64 t.1/\t.1<=g.length/\PV (B6 w (nP b E)) w0 c b a i q F G I J t.2 (xs++(g.take t.1).map λn=>⟨q,k,d,n⟩)) (λt=>g.length-t.1) (0,E) ?_ ?_
 ·simp only[p8,simprocAttr];exact⟨by trivial,dN6 _,by simpa using s.rebase (i5 _)⟩
 clear s;rintro⟨j,v⟩ f z Z ⟨l,V,s⟩;simp only at l V s;simp only[dM6,p8,simprocAttr]at Z;obtain⟨e0,e1,e2,M,N,_⟩:=Z;simp only[m8,o6,simprocAttr,l,N];refine n7 (λO=>?_) (λO=>?_);rotate_left
 ·have S:j=g.length:=by simp at O;omega
  subst S;rw[dN8]at s;simp only[m8,simprocAttr];refine bG3 results131 ?_;exact⟨v,s⟩
 have o:j<g.length:=by simpa using O
 have U:=L.inS o;have B:=ldS L s.hb o;have C:=aJ1 (λn:A6=>(⟨q,k,d,n⟩:Vx)) g o;have W:(xs++(g.take j).map λn=>(⟨q,k,d,n⟩:Vx)).length+1<=1000000:=by rw[dM7,dN4,dN9];omega
 generalize g[j]=n at B C;generalize X:xs++(g.take j).map (λn=>(⟨q,k,d,n⟩:Vx))=ys at s W;have D:=s.more (o7.drew z);have Q:∀c,o9 (A3 v) z.drew c->c.heap[b]?=some (.cells (J0 a i q F G I J v (.slice none 0 0)) 195 (0,0)):=λc hm=>(hm.block b (dN0.1 D.cb).1 λh=>(D.dx b h).2.1 rfl).trans D.cb;have k7:∀K f d p,F3 prog (λc=>o9 (A3 v) z.drew c) (Instr.loadAt 22 (.pointer (some ⟨b,7,none⟩))) K f d p=K (C4 f d v) p:=λK f d p=>B7 (w0:=z.drew) (o9.refl _) λc h=>E2 (i:=7) (u:=v) (Q c h) rfl af9;simp only[m8,o6,y0,simprocAttr,l,M,U,B];refine C0 (λc=>o9 (A3 v) z.drew c) 12 (A5 [0,1,2,3,4,5,6,7,8,9,10,11]) ?_;simp only[D6,A5,m8,o6,simprocAttr,e0,e1,e2,k7];refine y5 (J6 b _ _ q k d n z.drew D.cb rfl) ?_;rintro _ w3 ⟨rfl,m⟩;refine⟨o9.up m,?_⟩;have s3:=D.more m;obtain⟨p1,v',w4,w5,p2,p3,s5,p4⟩:=s3.push (P:=prog) (e:=22) bk1 rfl (x:=.agg (A0.cells (⟨q,k,d,n⟩:Vx)).toArray) (y:=⟨q,k,d,n⟩) ((A0.iff_ _ _ _).2 rfl) (by omega) (by omega) (ix:=7) (by simp[J0]) (λv v'=>by simp[J0]) T A;simp only[D6,m8,o6,simprocAttr,p1,p2,E8];refine⟨(o9.up m).trans (o9.up (o7.alloc _ _)),(o9.up m).trans p4,?_⟩;simp only[m8,o6,simprocAttr,l,p3];refine⟨(j+1,v'),by omega,dO2 _ (B0 j (by omega)),by omega,?_⟩;simp only[];rw[C,<-dP5,X];exact s5
def bp3(x y:Vx)(k:Int):B8 prog 67 [(0,.agg (A0.cells x).toArray),(1,.agg (A0.cells y).toArray),(2,.int .i64 k)]=some (.agg (A0.cells (⟨x,y,k⟩:Eg)).toArray):=by
 have a:∀x:Vx,A0.cells x=[p6 x.proc,.int .i64 x.kind,.int .i64 x.id,p6 x.slot]:=λ_=>rfl;have b:A0.cells (⟨x,y,k⟩:Eg)=[p6 x.proc,.int .i64 x.kind,.int .i64 x.id,p6 x.slot,p6 y.proc,.int .i64 y.kind,.int .i64 y.id,p6 y.slot,.int .i64 k]:=rfl;rw[a,a,b];simp[B8,dA3,K8,Instr.fill,Value.cells,p6]
def aj2(H:Hp)(l:Nat)(a:Addr)(i:Int)(q:A6)(A B C D g:Value)(xs:List Eg)(x y:Vx)(k:Int)(w0 w:World)(s:PE H w0 w l a i q A B C D g xs)(hl:xs.length<=1000000000):
  p7 prog 136 #[.pointer (some ⟨l,0,none⟩),.agg (A0.cells x).toArray,.agg (A0.cells y).toArray,.int .i64 k] w λr c=>(∃O,PE H w0 c l a i q A B C D O (xs++[⟨x,y,k⟩])):=by
 refine p9 [.pointer (some ⟨l,0,none⟩),.agg (A0.cells x).toArray,.agg (A0.cells y).toArray,.int .i64 k] func136 rfl ?_;obtain⟨il,L,p⟩:=bV3;obtain⟨a1,Q,F,N,n⟩:=bJ7 (w:=w) (A3 g) (SV.ofN (i4 w) x) λb E=>s.ox.lt E;have R:=s.more N;obtain⟨a2,j,G,t,o⟩:=bJ7 (w:=Q) (A3 g) (SV.ofN (i4 Q) y) λb E=>R.ox.lt E;have z:=(R.more t).more (o7.drew j);have J:∀c,o9 (A3 g) j.drew c->c.heap[l]?=some (.cells (J0 a i q A B C D (.slice none 0 0) g) 195 (0,0)):=λc hm=>(hm.block l (dN0.1 z.cb).1 λh=>(z.dx l h).2.1 rfl).trans z.cb;have T:∀K f d m,F3 prog (λc=>o9 (A3 g) j.drew c) (Instr.loadAt 55 (.pointer (some ⟨l,8,none⟩))) K f d m=K (C4 f d g) m:=λK f d m=>B7 (w0:=j.drew) (o9.refl _) λc h=>E2 (i:=8) (u:=g) (J c h) rfl bk9;have Z:=(K7.vx_v (SV.ofN (i4 w) x) n).2 (λc=>o9 (A3 g) j.drew c) j.drew (o9.refl _) λc h=>E1 ((o9.up (M:=A3 g) (t.trans (o7.drew j))).trans h);have t2:=(K7.vx_v (SV.ofN (i4 Q) y) o).2 (λc=>o9 (A3 g) j.drew c) j.drew (o9.refl _) λc h=>E1 ((o9.up (M:=A3 g) (o7.drew j)).trans h);have I:=bp3 x y k;obtain⟨U,S,w4,w5,V,W,Y,X⟩:=z.push (P:=prog) (e:=55) ct3 rfl (x:=.agg (A0.cells (⟨x,y,k⟩:Eg)).toArray) (y:=⟨x,y,k⟩) ((A0.iff_ _ _ _).2 rfl) (by omega) (by omega) (ix:=8) (by simp[J0]) (λv S=>by simp[J0]) L p;simp only[m8,o6,simprocAttr,F,G];refine C0 (λc=>o9 (A3 g) j.drew c) 11 (A5 [0,1,2,3,4,5,6,7,8,9,10]) ?_;simp only[D6,A5,m8,o6,simprocAttr,T,Z,t2,I,U,V,E8];refine⟨o9.up (o7.alloc _ _),X,?_⟩;simp only[m8,simprocAttr,W];refine bG3 results136 ?_;exact⟨S,Y⟩
def dG7:ak6 prog 179=true:=by kernel_rfl
instance:A0 A6:=⟨λs=>[p6 s],λ_ _ _=>dU5⟩
def bs7{α:Type}(p:α->Bool):∀(l:List α) (i:Nat),aa1 p i l ≠ -1->∃k,aa1 p i l=((i+k:Nat):Int)/\(∃x,l[k]?=some x/\p x=true)/\∀j y,j<k->l[j]?=some y->p y=false
 | [],i,h=>absurd rfl h
 | x::l,i,h=>by
  rw[aa1]at h ⊢;cases hp:p x
  ·rw[hp,if_neg (by simp)]at h;rw[if_neg (by simp)];obtain⟨k,b,⟨y,c,d⟩,e⟩:=bs7 p l (i+1) h;refine⟨k+1,by rw[b];congr 1;omega,⟨y,by simpa using c,d⟩,λj z f a=>?_⟩;cases j with
   | zero=>
    obtain rfl:x=z:=by simpa using a
    exact hp
   | succ j=>exact e j z (by omega) (by simpa using a)
  ·rw[if_pos rfl];exact⟨0,by simp,⟨x,rfl,hp⟩,λj y f=>by omega⟩
def aH9{α:Type}(p:α->Bool):∀(l:List α),(∀(j:Nat) y,l[j]?=some y->p y=true)->l.filter p=l
 | [],_=>rfl
 | x::l,h=>by
  rw[List.filter_cons,if_pos (h 0 x rfl),aH9 p l λj y a=>h (j+1) y (by simpa using a)]
def dv2:∃a,prog.info? 9=some a/\a.size=1:=az9 dB1 dA8
def cK0{h:Hp}{w:World}{v:Value}{xs:List A6}(D:A8 h w 9 v xs)(hl:xs.length<=1000000)(hh:B5 h (i4 w)):
  Calls prog 178 #[v,.func (.func 179) #[] #[]] w λe o=>∃u,e = .returned u/\(A8 h o 9 u (xs.filter λn=>!decide (n=R5))/\o9 (A3 v) w o/\∀b,A3 u b->A3 v b):=by
 refine p9 [v,.func (.func 179) #[] #[]] func178 rfl ?_;have hS:=D.isS;have hn:=D.vlen;have aC:=D.vcap;obtain⟨il,Z,H⟩:=dv2;have a:∀(x:A6) (o:World),Calls prog 179 ([p6 x]++(#[]:Array Value).toList).toArray o λe R=>∃u,e = .returned u/\(u = .bool (decide (x=R5))/\o7 o R):=λx o=>(ci7 x o).mono λe R ⟨u,h1,h2,h3⟩=>⟨u,h1,h2,by rw[h3];exact o9.refl _⟩;generalize hP:(λn:A6=>decide (n=R5))=pred at a;have U:∀n:A6,decide (n=R5)=pred n:=λn=>by rw[<-hP]
 simp only[U]at a ⊢;simp only[m8,o6,simprocAttr];refine B9 (aG2 pred 179 #[] v xs w dG7 (D.rw_ hh) (by omega) λx o _ _=>a x o) (λw1 r=>?_);rcases dM5 (decide (aa1 pred 0 xs = -1))with hq|hq
 ·have e:=dM8 hq;simp only[m8,o6,simprocAttr,hq];refine o8 results178 ?_;simp only[p8,simprocAttr];have ag:xs.any pred=false:=by rw[<-ay2 pred xs 0,e];rfl
  rw[aH9 _ _ λj y C=>by
   have:=List.any_eq_false.1 ag y (dO4 C);simpa using this]
  exact⟨D.ext r,o9.up r,λb hb=>hb⟩
 obtain⟨k,q,⟨xk,aj,ah⟩,G⟩:=bs7 pred xs 0 (dN2 hq);rw[dQ2]at q;generalize aa1 pred 0 xs=z at hq q ⊢;obtain⟨ae,rfl⟩:=dM9.1 aj;have ad:IntKind.i64.wrap (z+1)=((k+1:Nat):Int):=by rw[q];exact B0 k (by omega)
 have O:(xs.take (k+1)).filter (λn=>!pred n)=xs.take k:=by
  rw[al6 _ xs ae,ah,if_neg (by simp),dP8];refine aH9 _ _ λj y C=>?_;rw[dV1]at C;split at C
  ·rename_i ab;rw[G j y ab C];rfl
  ·cases C
 simp only[m8,o6,simprocAttr,hq,ad];refine n9 [0,1] (σ:=Nat×Nat×List A6) (λs f o=>f 6 = .int .i64 s.1/\f 5 = .int .i64 s.2.1/\s.1<=xs.length/\s.2.1<s.1/\s.2.2.length=xs.length/\A8 h o 9 v s.2.2/\(∀m,s.1<=m->s.2.2[m]?=xs[m]?)/\s.2.2.take s.2.1=(xs.take s.1).filter (λn=>!pred n)/\o9 (A3 v) w o) (λs=>xs.length-s.1) (k+1,k,xs) ?_ ?_
 ·simp only[p8,simprocAttr];exact⟨by trivial,by rw[q],by omega,by omega,by trivial,D.ext r,λ_ _=>by trivial,O.symm,o9.up r⟩
 rintro⟨j,c,T⟩ f w2 hk ⟨E,S,ac,W,A,g,l,d,L⟩;simp only at E S ac W A g l d;simp only[dM6,p8,simprocAttr]at hk;obtain⟨e0,e1,_⟩:=hk;simp only[m8,o6,simprocAttr,E,e0,hS,hn];refine n7 (λV=>?_) (λV=>?_)
 ·have K:j<xs.length:=by simpa using V
  have Q:T[j]?=some xs[j]:=by rw[l j (dO0 _),dM4 K]
  have aa:=g.inS (k:=j) (by omega);have J:(Instr.loadAt 9 (.pointer (some (G4 v j)))).run prog w2 = .ok (p6 xs[j]) w2:=D3 g Q V4;have p:=al6 (λn=>!pred n) xs K;generalize xs[j]=n at J Q p;simp only[m8,o6,y0,simprocAttr,E,e0,e1,aa,J,dX5];refine B9 (a n w2) (λw3 B=>?_);have M:o9 (A3 v) w w3:=L.trans (o9.up B);rcases dM5 (pred n)with hp|hp
  ·rw[hp,if_neg (by simp),dP8]at p;simp only[m8,o6,simprocAttr,hp,E];refine⟨(j+1,c,T),by simp only[];omega,by simp only[];rw[B0 j (by omega)],S,by simp only[];omega,by simp only[];omega,A,g.ext B,λm hm=>l m (by simp only at hm;omega),?_,M⟩;simp only[];rw[d,p]
  ·rw[hp,if_pos (by simp)]at p;have I:=g.inS (k:=c) (by omega);obtain⟨w4,q1,q2,q3,_⟩:=E4 (P:=prog) (t:=9) (g.ext B) rfl (k:=c) (by omega) (x:=p6 n) (y:=n) rfl rfl Z H;simp only[m8,o6,y0,simprocAttr,hp,E,S,e0,I,q1];refine⟨(j+1,c+1,T.set c n),by simp only[];omega,by simp only[];rw[B0 j (by omega)],by simp only[];rw[B0 c (by omega)],by simp only[];omega,by simp only[];omega,by simp only[dU0];exact A,q2,λm hm=>?_,?_,M.trans q3⟩
   ·simp only at hm ⊢;rw[dU7 (by omega)];exact l m (by omega)
   ·simp only[];have X:c<(T.set c n).length:=by rw[dU0];omega
    rw[dN3 X,List.getElem_set_self,List.take_set_of_le (dO0 _),d,p]
 ·have Y:j=xs.length:=by simp at V;omega
  subst Y;rw[dN8]at d;have c3:decide ((c:Int)<=(xs.length:Int))=true:=by simp;omega
  have c4:decide ((c:Int)<=(vcap v:Int))=true:=by simp;omega
  have c5:decide ((xs.length:Int)<=(vcap v:Int))=true:=by simp;omega
  obtain⟨w6,e6,N,af,F⟩:=bd4 (P:=prog) (t:=31) (ty:=0) g rfl dB1 rfl (by simp[Value.cells,Value.oneCell']) (i:=c) (by omega);have hz:A4.sz A6=1:=rfl;rw[A,hz]at e6;rw[hz]at N F;simp only[m8,o6,F8,simprocAttr,bu6,S,e0,hS,hn,c3,c4,c5,e6];exact o8 results178 ⟨by rw[<-d];exact N,L.trans af,F⟩
def cD7(z:Nat)(T:TypeId)(y:Array Value)(a:Addr)(p:Pg)(vs:Value)(s:St)(c:Nat)(w:World)(hb:w.heap[z]?=some (.cells y T (0,0)))(M:y[0]?=some (.pointer (some a)))(V:At (i4 w) a (d9 p))(O:D4 p)(hw:C5 p<=1000000)(hv:SV (i4 w) vs s)(G:aw1 p s c):
  p7 prog 132 #[.pointer (some ⟨z,0,none⟩),vs] w λu m=>(∃x F,u = .tuple #[x,F]/\A8 (i4 w) m 9 x ((d9 p).slotsIn (c:Int))/\A8 (i4 w) m 9 F ((d9 p).callOut s)/\(∀b,A3 x b->¬A3 F b)/\o7 w m):=by
 refine p9 [.pointer (some ⟨z,0,none⟩),vs] func132 rfl ?_;have U:(d9 p).callOut s=if s.name=e0 then((d9 p).slotsOut (c:Int)).filter λn=>!decide (n=R5)else(d9 p).slotsOut (c:Int):=by
  have e:(d9 p).s.pr s.proc=(c:Int):=G.pr;unfold Bk.callOut;rw[e]
 have B:((d9 p).slotsOut (c:Int)).length<=1000000:=by
  have j:(d9 p).slotsOut (c:Int)=T4 (G2 (J3 p) (c:Int)++[R5]):=rfl;have:=((ay9 O.may).row G.lt).2.2;rw[j,U0,dM7,dP7];omega
 obtain⟨d,o,J,Q,A⟩:=ao2 hv (i5 _);obtain⟨Y,P,_,S⟩:=A.st_v;obtain⟨_,_,_,_,_,_,_,_,_,R,_⟩:=A.st;have k:=Q.trans (o7.drew o);have X:∀K f d v,F3 prog (λm=>o7 o.drew m) (Instr.loadAt 87 (.pointer (some ⟨z,0,none⟩))) K f d v=K (C4 f d (.pointer (some a))) v:=λK f d v=>B7 (w0:=o.drew) (o9.refl _) λm h=>E2 (i:=0) (((k.trans h).block z (dN0.1 hb).1 id).trans hb) M aA1;have Z:=S (λm=>o7 o.drew m) o.drew (o9.refl _) λm h=>b7 ((o7.drew o).trans h);simp only[m8,o6,simprocAttr,J];refine C0 (λm=>o7 o.drew m) 15 (A5 [0,1,2,3,4,5,6,7,8,9,10,11,12,13,14]) ?_;simp only[D6,A5,m8,o6,simprocAttr,X,Z];refine B9 (aq8 a (d9 p) p Y s o.drew (V.mono (b7 k)) rfl O.may (P.mono (b7 (o7.drew o)))) (λw2 q=>⟨q,?_⟩);rw[G.pr];have g:=k.trans q;simp only[D6,m8,simprocAttr];refine y5 (bA9 a p c w2 (V.mono (b7 g)) O hw G.lt) ?_;rintro _ w3 ⟨x,F,rfl,D,t,r,l⟩;refine⟨q.trans l,?_⟩;have E:=g.trans l;have W:=R w3 (b7 ((o7.drew o).trans (q.trans l)));rcases dM5 (decide (s.name=ofA #[]))with j|j
 ·simp only[D6,m8,o6,simprocAttr,W,j];have H:s.name=e0:=dM8 j;refine y5 (cK0 t B (b7 l)) ?_;rintro u4 w4 ⟨N,C,L⟩;simp only[m8,simprocAttr];refine T3 results132 ?_;simp only[p8,simprocAttr];rw[U,if_pos H];exact⟨x,u4,by trivial,(D.mod C λb j I=>r b j I).back g,N.back g,λb j I=>r b j (L b I),g.trans (t.ext2 l C)⟩
 ·simp only[D6,m8,o6,simprocAttr,W,j];have H:s.name≠e0:=dN2 j;refine T3 results132 ?_;simp only[p8,simprocAttr];rw[U,if_neg H];exact⟨x,F,by trivial,D.back g,t.back g,r,E⟩
def bR7(a:Addr)(i:Int)(q:A6)(b c d e:Value):B8 prog 195 [(0,.pointer (some a)),(1,.int .i64 i),(2,.agg #[p6 q,b,c,d,e])]=some (.agg (J0 a i q b c d e (.slice none 0 0) (.slice none 0 0))):=by
 unfold J0;simp[B8,do7,K8,Instr.fill,Value.cells,p6]
def PV.new{w d:World}(a:Addr)(i:Int)(q:A6)(f g j k:Value)(l:o7 (w.alloc (.cells (J0 a i q f g j k (.slice none 0 0) (.slice none 0 0)) 195)) d):
  PV (B6 d (nP w.heap.size (.slice none 0 0))) w d w.heap.size a i q f g j k (.slice none 0 0) []/\PE (B6 d (nP w.heap.size (.slice none 0 0))) w d w.heap.size a i q f g j k (.slice none 0 0) []:=by
 have c:o7 w d:=(o7.alloc _ _).trans l;have e:d.heap[w.heap.size]?=some (.cells (J0 a i q f g j k (.slice none 0 0) (.slice none 0 0)) 195 (0,0)):=(l.block _ (by simp) id).trans (dQ5 w _);exact⟨⟨c,dO0 _,e,A8.nil _ _ _,A8.nil _ _ _,λb h=>absurd h D1,λb h=>absurd h D1,λb h=>h.elim,λb h=>h.elim,c.size,i5 _⟩,
  ⟨c,dO0 _,e,A8.nil _ _ _,A8.nil _ _ _,λb h=>absurd h D1,λb h=>absurd h D1,λb h=>h.elim,λb h=>h.elim,c.size,i5 _⟩⟩
def cr8{w a:World}(d:o7 w a):B5 (i4 w) (B6 a (nP w.heap.size (.slice none 0 0))):=aL8 d λb c=>by
 rcases c with h|h|h|h
 ·rw[h];exact dO0 _
 ·exact absurd h D1
 ·exact absurd h D1
 ·exact h.elim
def cO6{w c d:World}(f:w.heap.size<c.heap.size){α:Type}[I4 α]{T:TypeId}{u:Value}{l:List α}(a:A8 (i4 c) d T u l):R (B6 d (nP w.heap.size (.slice none 0 0))) u l:=
 a.flatR λb e=>D8 λh=>by
  have:=D0 (a.free e);rcases h with h|h|h|h
  ·omega
  ·exact absurd h D1
  ·exact absurd h D1
  ·exact h.elim
def am5{p:Pg}(b:D4 p)(hw:C5 p<=1000000){i:Nat}(a:i<p.procs.length):((d9 p).slotsIn (i:Int)).length<=33:=by
 have c:=((aL9 b hw).row a).2.2;have d:=R1 b.may a;unfold Bk.slotsIn;rw[Q5 a,U0,dM7,dN4];have e:(d9 p).ins=ab7 p:=rfl;rw[e];omega
def aD5{p:Pg}(b:D4 p){i:Nat}(a:i<p.procs.length):((d9 p).slotsOut (i:Int)).length<=26:=by
 have c:=((ay9 b.may).row a).2.2;have e:(d9 p).slotsOut (i:Int)=T4 (G2 (J3 p) (i:Int)++[R5]):=rfl;rw[e,U0,dM7,dP7];omega
def bg6{p:Pg}(d:D4 p){s:St}{c:Nat}(b:aw1 p s c):((d9 p).callOut s).length<=26:=by
 have a:=aD5 d b.lt;have e:(d9 p).s.pr s.proc=(c:Int):=b.pr;unfold Bk.callOut;rw[e];split
 ·exact dN1 (dP3 _ _) a
 ·exact a
def V6(p:Pg)(q:A6)(it:It):List Vx:=[⟨q,2,it.s.id,e0⟩]++if it.s.kind=4 then(((d9 p).slotsIn ((d9 p).s.pr it.s.proc)).map λn=>(⟨q,5,it.s.id,n⟩:Vx))++((d9 p).callOut it.s).map λn=>(⟨q,6,it.s.id,n⟩:Vx)else[]
def bl4{p:Pg}(d:D4 p)(hw:C5 p<=1000000)(q:A6){it:It}(b:it∈(b9 p).l):(V6 p q it).length<=100:=by
 unfold V6;rw[dM7,dP7];split
 ·rename_i f;obtain⟨c,a⟩:=U6 (d.fits it b f);have e:(d9 p).s.pr it.s.proc=(c:Int):=a.pr;have g:=am5 d hw a.lt;have h:=bg6 d a;rw[e,dM7,dN4,dN4];omega
 ·simp
def cP4{p:Pg}{i x y:Nat}(b:ar1 p i x y){it:It}(a:it∈(b9 p).of i):it∈(b9 p).l:=by
 rw[b.ok.of_]at a;exact dU2 (dX9 a)
def aT8(a:Addr)(p:Pg)(i:Nat)(w:World)(ha:At (i4 w) a (d9 p))(T:D4 p)(hw:C5 p<=1000000)(hi:i<p.procs.length):
  p7 prog 77 #[.pointer (some a),.int .i64 i] w λu j=>(A8 (i4 w) j 26 u ((d9 p).verts (i:Int))/\o7 w j):=by
 refine p9 [.pointer (some a),.int .i64 i] func77 rfl ?_;obtain⟨il,aJ,ae⟩:=dh6;obtain⟨x,pt⟩:=J5 T.may hw i hi;have bV:=J1 T.may;obtain⟨sh,vw,vd,_,vi,vo,has,cd,b8,_,cb,cc,aZ,cj⟩:=ha.book rfl;obtain⟨_,_,_,_,_,_,aO,_,_⟩:=has.sh;rw[K9]at aO;obtain⟨vg,vp,ca,aS,bG,ck⟩:=aO.pg;have lb:=aZ w (i5 _);have lp:=bG w (i5 _);have hF:(d9 p).vert0 (i:Int)=([⟨p.procs[i].name,1,0,e0⟩]++((d9 p).slotsIn (i:Int)).map λn=>(⟨p.procs[i].name,3,0,n⟩:Vx))++(((d9 p).slotsOut (i:Int)).map λn=>(⟨p.procs[i].name,4,0,n⟩:Vx))++((b9 p).of i).flatMap (V6 p p.procs[i].name):=by
  unfold Bk.vert0;rw[Q5 hi];rfl
 have b4:=am5 T hw hi;have b5:=aD5 T hi;have ak:∀it∈(b9 p).of i,(V6 p p.procs[i].name it).length<=100:=λit am=>bl4 T hw _ (cP4 pt am);have hV:∀it,V6 p p.procs[i].name it=[⟨p.procs[i].name,2,it.s.id,e0⟩]++if it.s.kind=4 then(((d9 p).slotsIn ((d9 p).s.pr it.s.proc)).map λn=>(⟨p.procs[i].name,5,it.s.id,n⟩:Vx))++((d9 p).callOut it.s).map λn=>(⟨p.procs[i].name,6,it.s.id,n⟩:Vx)else[]:=λit=>rfl;have I:∀it∈(b9 p).of i,it.s.kind=4->∃c,aw1 p it.s c:=λit am h4=>U6 (T.fits it (cP4 pt am) h4);have an:((b9 p).of i).length<=200:=by
  rw[pt.ok.of_,dU8,dN9];omega
 have X:=aS.inS hi;obtain⟨sv,Q,s⟩:=F9 (P:=prog) (t:=75) aS (i5 _) (dM4 hi) av8 av9 at7 R2;rw[R2]at s;obtain⟨cs,rfl,E,F,G,H,rfl,_⟩:=Q;generalize p.procs[i].name=q at hF hV ak s;have bn:=bR7 a (i:Int) q E F G H;have bo:(Instr.box 195 (.agg (J0 a i q E F G H (.slice none 0 0) (.slice none 0 0)))).run prog w = .ok (.pointer (some ⟨w.heap.size,0,none⟩)) (w.alloc (.cells (J0 a i q E F G H (.slice none 0 0) (.slice none 0 0)) 195)):=rfl;simp only[m8,o6,y0,simprocAttr,lb,lp,X,s,bn,bo];have ax:=o7.alloc w (.cells (J0 a i q E F G H (.slice none 0 0) (.slice none 0 0)) 195);have R:w.heap.size<(w.alloc (.cells (J0 a i q E F G H (.slice none 0 0) (.slice none 0 0)) 195)).heap.size:=by simp
 generalize bA:w.alloc (.cells (J0 a i q E F G H (.slice none 0 0) (.slice none 0 0)) 195)=w1 at ax R;refine y5 (bA9 a p i w1 (ha.mono (b7 ax)) T hw hi) ?_;rintro _ w2 ⟨ui,uo,rfl,bv,bw,b3,aw⟩;have aT:=ax.trans aw;rw[<-bA]at aw;have s2:=(PV.new a i q E F G H aw).1;have aq:=cO6 R bv;have ar:=cO6 R bw;have g:=cr8 aT;generalize b6:w.heap.size=m at s2 aq ar g;generalize b2:B6 w2 (nP m (.slice none 0 0))=H0 at s2 aq ar g;have s3:=s2.more (o7.drew w2);have aH:∀j,o9 (λ_=>False) w2.drew j->j.heap[m]?=some (.cells (J0 a i q E F G H (.slice none 0 0) (.slice none 0 0)) 195 (0,0)):=λj hm=>(hm.block m (dN0.1 s3.cb).1 id).trans s3.cb;have k7:∀K f d D,F3 prog (λj=>o9 (λ_=>False) w2.drew j) (Instr.loadAt 22 (.pointer (some ⟨m,7,none⟩))) K f d D=K (C4 f d (.slice none 0 0)) D:=λK f d D=>B7 (w0:=w2.drew) (o9.refl _) λj h=>E2 (i:=7) (u:=.slice none 0 0) (aH j h) rfl af9;simp only[m8,simprocAttr];refine C0 (λj=>o9 (λ_=>False) w2.drew j) 9 (A5 [0,1,2,3,4,5,6,7,8]) ?_;have bx:Value.string {data:=#[]}=p6 e0:=rfl;simp only[D6,A5,m8,o6,simprocAttr,k7,bx];refine y5 (J6 m _ _ q 1 0 e0 w2.drew s3.cb rfl) ?_;rintro _ w3 ⟨rfl,Z⟩;refine⟨Z,?_⟩;have s4:=s3.more Z;obtain⟨p1,v5,w4,w5,p2,p3,s5,p4⟩:=s4.push (P:=prog) (e:=22) bk1 rfl (x:=.agg (A0.cells (⟨q,1,0,e0⟩:Vx)).toArray) (y:=⟨q,1,0,e0⟩) ((A0.iff_ _ _ _).2 rfl) (by simp) (by simp) (ix:=7) (by simp[J0]) (λv v'=>by simp[J0]) aJ ae;have bL:o9 (λ_=>False) w3 w4:=p4.weaken λb _ V=>D1 V;simp only[D6,m8,o6,simprocAttr,p1,p2,E8];refine⟨Z.trans (o7.alloc _ _),Z.trans bL,?_⟩;simp only[m8,simprocAttr,p3];simp only[dX5]at s5;have aQ:=A4.mono s5.base aq;refine y5 (aM8 H0 m a i q E F G H v5 _ 3 0 ui _ w w5 s5 aQ (by rw[dP7];omega)) ?_;rintro r6 w6 ⟨v6,s6⟩;have s6:=s6.rebase (t8 s5.base s6.base);have aR:=A4.mono s6.base ar;simp only[m8,simprocAttr];refine y5 (aM8 H0 m a i q E F G H v6 _ 4 0 uo _ w w6 s6 aR (by rw[dM7,dP7,dN4];omega)) ?_;rintro r7 w7 ⟨v7,s7⟩;have s7:=s7.rebase (t8 s6.base s7.base);have aG:B5 (i4 w) (i4 w7):=t8 g s7.hb;have bF:=aZ w7 aG;simp only[m8,o6,simprocAttr,bF];refine y5 (az3 (i4 w) sh (b9 p) i x _ w7 has aG pt.ok) ?_;rintro ul w8 ⟨S,bB⟩;have s8:=s7.more bB;have ao:(([(⟨q,1,0,e0⟩:Vx)]++((d9 p).slotsIn (i:Int)).map λn=>(⟨q,3,0,n⟩:Vx))++(((d9 p).slotsOut (i:Int)).map λn=>(⟨q,4,0,n⟩:Vx))).length<=60:=by
  rw[dM7,dM7,dP7,dN4,dN4];omega
 generalize(([(⟨q,1,0,e0⟩:Vx)]++((d9 p).slotsIn (i:Int)).map λn=>(⟨q,3,0,n⟩:Vx))++(((d9 p).slotsOut (i:Int)).map λn=>(⟨q,4,0,n⟩:Vx)))=pre at s8 hF ao;generalize(b9 p).of i=L at S hF ak I an;have bj:=S.isS;have bu:=S.vlen;clear s2 s3 s4 s5 s6 s7 aH k7;simp only[m8,o6,simprocAttr,bj,bu];refine n9 [0,1,5,53,54] (σ:=Nat×Value) (λt f j=>f 55 = .int .i64 t.1/\t.1<=L.length/\PV H0 w j m a i q E F G H t.2 (pre++(L.take t.1).flatMap (V6 p q))) (λt=>L.length-t.1) (0,v7) ?_ ?_
 ·simp only[p8,simprocAttr];exact⟨by trivial,dN6 _,by simpa using s8⟩
 clear s8;rintro⟨k,v⟩ f w9 hk ⟨N,bt,C⟩;simp only at N bt C;simp only[dM6,p8,simprocAttr]at hk;obtain⟨b1,e1,e5,bf,bg,_⟩:=hk;have aP:(pre++(L.take k).flatMap (V6 p q)).length<=30000:=by
  rw[dM7];have h1:=N5 (V6 p q) 100 (L.take k) λz hz=>ak z (dU2 hz);rw[dN9]at h1;have h2:min k L.length<=200:=by omega
  omega
 have bm:B5 (i4 w) (i4 w9):=t8 g C.hb;simp only[m8,o6,simprocAttr,N,bg];refine n7 (λhc=>?_) (λhc=>?_);rotate_left
 ·have bs:k=L.length:=by simp at hc;omega
  subst bs;rw[dN8]at C aP;have l7:(Instr.loadAt 22 (.pointer (some ⟨m,7,none⟩))).run prog w9 = .ok v w9:=E2 (i:=7) (u:=v) C.cb rfl af9;simp only[m8,o6,simprocAttr,e5,l7];refine y5 (ck5 C.ox (by omega) λa _ b _ h1 h2=>ba6 (bC2.eq0 h1 h2)) ?_;rintro _ l ⟨aL,af⟩;have bE:(Instr.loadAt 22 (.pointer (some ⟨m,7,none⟩))).run prog l = .ok v l:=E2 (i:=7) (u:=v) ((af.block m (dN0.1 C.cb).1 λh=>(C.dx m h).2.1 rfl).trans C.cb) rfl af9;simp only[m8,o6,simprocAttr,e5,bE];refine o8 results77 ?_;simp only[p8,simprocAttr];refine⟨?_,o9.ext_of C.ext af λb V=>(C.dx b V).1⟩;have e:(d9 p).verts (i:Int)=Y0 cF0 (pre++L.flatMap (V6 p q)):=by unfold Bk.verts;rw[hF]
  rw[e];exact aL.downN (t8 g C.base)
 have Y:k<L.length:=by simpa using hc
 have ap:=H4 (V6 p q) L Y;have aK:=dN5 Y;clear X s;have X:=S.inS Y;obtain⟨sv,Q,s⟩:=F9 (P:=prog) (t:=150) S (bm) (dM4 Y) X0 X2 V5 H9;rw[H9]at s;have r:=hV L[k];have aI:=I _ aK;generalize L[k]=it at Q ap r aI;generalize aW:pre++(L.take k).flatMap (V6 p q)=ys at C aP;obtain⟨d,wz,l,bl,bz,aU,ab⟩:=aN8 (w:=w9) (nP m v) Q λb V=>C.lt V;have M:=C.more aU;have U:=M.base;have M:=M.rebase (i5 _);generalize hK:B6 l (nP m v)=K at M U ab;obtain⟨us,av,ac,_,_⟩:=K7.it Q ab;obtain⟨_,_,_,_,_,_,_,_,_,_,_,ay,bN⟩:=K7.st av ac;have bH:=(K7.st_v av ac).1;have B:=M.more (o7.drew l);have O:∀j,o9 (A3 v) l.drew j->j.heap[m]?=some (.cells (J0 a i q E F G H v (.slice none 0 0)) 195 (0,0)):=λj hm=>(hm.block m (dN0.1 B.cb).1 λh=>(B.dx m h).2.1 rfl).trans B.cb;have k7:∀K f d D,F3 prog (λj=>o9 (A3 v) l.drew j) (Instr.loadAt 22 (.pointer (some ⟨m,7,none⟩))) K f d D=K (C4 f d v) D:=λK f d D=>B7 (w0:=l.drew) (o9.refl _) λj h=>E2 (i:=7) (u:=v) (O j h) rfl af9;have t1:=bN (λj=>o9 (A3 v) l.drew j) l.drew (o9.refl _) λj h=>t8 B.base (t8 (I9 h (λb V=>.inr (.inl V)) λb V=>.inl V) (B2 _ _));simp only[m8,o6,y0,simprocAttr,N,bf,X,s,bl,bz];refine C0 (λj=>o9 (A3 v) l.drew j) 12 (A5 [0,1,2,3,4,5,6,7,8,9,10,11]) ?_;simp only[D6,A5,m8,o6,simprocAttr,e5,k7,t1];refine y5 (J6 m _ _ q 2 it.s.id e0 l.drew B.cb rfl) ?_;rintro _ cu ⟨rfl,J⟩;refine⟨o9.up J,?_⟩;have a1:=B.more J;obtain⟨p1,v',cv,aa,p2,p3,o,p4⟩:=a1.push (P:=prog) (e:=22) bk1 rfl (x:=.agg (A0.cells (⟨q,2,it.s.id,e0⟩:Vx)).toArray) (y:=⟨q,2,it.s.id,e0⟩) ((A0.iff_ _ _ _).2 rfl) (by omega) (by omega) (ix:=7) (by simp[J0]) (λv v'=>by simp[J0]) aJ ae;simp only[D6,m8,o6,simprocAttr,p1,p2,E8];refine⟨(o9.up J).trans (o9.up (o7.alloc _ _)),(o9.up J).trans p4,?_⟩;have aY:=ay aa o.hb;have ad:B5 (i4 w) (i4 aa):=t8 g (t8 U o.hb);have ce:(ys++[(⟨q,2,it.s.id,e0⟩:Vx)]).length<=30001:=by rw[dM7,dP7];omega
 clear C M B a1 k7 O t1;rcases dM5 (decide (it.s.kind=4))with h4|h4
 ·have e4:=dM8 h4;obtain⟨c,W⟩:=aI e4;have bh:(d9 p).s.pr it.s.proc=(c:Int):=W.pr;have bq:=am5 T hw W.lt;have br:=bg6 T W;rw[if_pos e4,bh]at r;have a0:=bH aa o.hb;simp only[m8,o6,simprocAttr,e5,p3,aY,h4,a0];refine y5 (cD7 m _ _ a p us it.s c aa o.cb rfl (ha.mono ad) T hw (av.mono ad) W) ?_;rintro _ a5 ⟨bO,bP,rfl,aM,aN,bX,aV⟩;have az:=o.more aV;have ag:=o.fresh aM;have ah:=o.fresh aN;have bC:=ay a5 az.hb;generalize(d9 p).slotsIn (c:Int)=Si at r bq ag;generalize(d9 p).callOut it.s=So at r br ah;simp only[m8,o6,simprocAttr,e5,bC];refine y5 (aM8 K m a i q E F G H v' _ 5 it.s.id bO Si w a5 az ag (by omega)) ?_;rintro _ a6 ⟨bQ,aA⟩;have au:=A4.mono aA.base ah;have aF:=t8 az.base aA.base;have bD:=ay a6 (t8 aF (B2 _ _));simp only[m8,o6,simprocAttr,e5,bD];refine y5 (aM8 _ m a i q E F G H bQ _ 6 it.s.id bP So w a6 aA au (by rw[dM7,dN4];omega)) ?_;rintro _ cw ⟨bR,a2⟩;have A:pre++(L.take (k+1)).flatMap (V6 p q)=ys++[(⟨q,2,it.s.id,Go.Proofs.YtfadjbljajfkfaaGreat.e0⟩:Vx)]++(Si.map λn=>(⟨q,5,it.s.id,n⟩:Vx))++So.map λn=>(⟨q,6,it.s.id,n⟩:Vx):=by
   rw[ap,r,<-aW];simp only[dP5]
  simp only[m8,o6,simprocAttr,N];refine⟨(k+1,bR),by omega,dO2 _ (B0 k (by omega)),by omega,?_⟩;simp only[];rw[A];exact a2.rebase (t8 U (t8 aF a2.base))
 ·have e4:=dN2 h4;rw[if_neg e4,dP8]at r;have A:pre++(L.take (k+1)).flatMap (V6 p q)=ys++[(⟨q,2,it.s.id,Go.Proofs.YtfadjbljajfkfaaGreat.e0⟩:Vx)]:=by
   rw[ap,r,<-aW];simp only[dP5]
  simp only[m8,o6,simprocAttr,p3,aY,h4,N];refine⟨(k+1,v'),by omega,dO2 _ (B0 k (by omega)),by omega,?_⟩;simp only[];rw[A];exact o.rebase (t8 U o.base)
section
variable {p:Pg} {i:Nat}
def Mid(p:Pg)(a:Int):Prop:=∃j:Nat,a=(j:Int)+1/\j<(b9 p).l.length
def bh8(w:D4 p)(hw:C5 p<=1000000)(r:i<p.procs.length){f:Fw}(l:f∈(d9 p).flows (i:Int)):(f.src=0\/Mid p f.src)/\(f.dst = -1\/Mid p f.dst):=by
 obtain⟨x,y⟩:=J5 w.may hw i r;have d:=P2 y;have z:=d.n;have l:f∈(d9 p).flow0 (i:Int):=(F5 _ _).mem_iff.1 l;rw[aM3]at l;obtain⟨n,l⟩:=l;rw[aa2]at l;obtain⟨a,c,b,u,m,_,rfl⟩:=l;have o:=af3 _ _ _ a b;have b:=(dP2.1 b).2;rw[dO5]at b m;unfold Bk.gives at b;unfold Bk.takes at m;simp only[L8 r]at b m o u ⊢;have e:∀k:Nat,k≠0->(k:Int)<(D5 (b9 p) i).n-1->Mid p ((D5 (b9 p) i).place (k:Int)):=λk g v=>by
  obtain⟨q,_,s,t,_⟩:=aj3 d g v;exact⟨q,t,s⟩
 constructor
 ·by_cases g:(a:Int)=0
  ·left;rw[d.toWyOk.place,if_pos g]
  ·right;rw[if_neg g]at b;split at b
   ·simp at b
   ·rename_i j;have:¬(a:Int)=(D5 (b9 p) i).n-1:=λh=>j (.inl h);exact e a (by omega) (by omega)
 ·by_cases g:(c:Int)=(D5 (b9 p) i).n-1
  ·left;rw[d.toWyOk.place,if_neg (by omega),if_pos g]
  ·right;rw[if_neg g]at m;split at m
   ·simp at m
   ·rename_i j;have:¬(c:Int)=0:=λh=>j (.inl h);exact e c (by omega) (by omega)
def bH7(b:D4 p)(hw:C5 p<=1000000)(d:i<p.procs.length):∃M:Nat,(D5 (b9 p) i).n=(M:Int)/\M<=202:=by
 obtain⟨x,c⟩:=J5 b.may hw i d;have e:=(P2 c).n;have a:=c.ok.len;have:=J1 b.may;exact⟨(D5 (b9 p) i).n.toNat,by omega,by omega⟩
def bD0(g:D4 p)(hw:C5 p<=1000000)(d:i<p.procs.length):((d9 p).flows (i:Int)).length<=5000000:=by
 obtain⟨M,f,b⟩:=bH7 g hw d;have e:((d9 p).flows (i:Int)).length=((d9 p).flow0 (i:Int)).length:=(F5 bA1 _).length_eq;rw[e];unfold Bk.flow0;rw[L8 d,f,dP0];refine dN1 (N5 _ 20200 _ λa c=>?_) ?_
 ·have c:=dQ6.1 c;have h:=(aR0 g hw d (k:=a) (by rw[f];exact Int.ofNat_lt.2 c)).2;refine dN1 (N5 _ 202 _ λn j=>?_) ?_
  ·rw[dN4];refine dN1 (dP3 _ _) ?_;rw[dR3];exact b
  ·omega
 ·rw[dR3];omega
def aS6(h:D4 p)(hw:C5 p<=1000000){q:A6}{e:Int}{n:A6}(d:e = -1\/Mid p e):((d9 p).takers q e n).length<=9:=by
 unfold Bk.takers;split
 ·simp
 ·rename_i i;obtain⟨j,rfl,g⟩:=d.resolve_left i;have k:(d9 p).s=b9 p:=rfl;have a:(b9 p).it ((j:Int)+1)=(b9 p).l[j]:=by
   unfold Sh.it;rw[show((j:Int)+1-1).toNat=j by omega,List.getD,dM4 g];rfl
  split
  ·simp
  ·rename_i b;rw[k,a]at b ⊢;have b:((b9 p).l[j]).s.kind=4:=by simpa using b
   obtain⟨c,f⟩:=U6 (h.fits _ (dN5 g) b);have m:=R1 h.may f.lt;have o:=f.len;rw[dM7,dN4];have l:((((b9 p).l[j]).s.args.zip ((d9 p).callee ((b9 p).l[j]).s).params).filter λx=>(Y1 x.1).contains n).length<=8:=by
    refine dN1 (dP3 _ _) ?_;rw[List.length_zip];omega
   split<;>simp only[dP7,dT9]<;>omega
def bh0(e:D4 p)(hw:C5 p<=1000000)(d:i<p.procs.length):((D5 (b9 p) i).decides).length<=41000:=by
 obtain⟨M,c,b⟩:=bH7 e hw d;rw[aQ8 c];refine dN1 (N5 _ 202 _ λa f=>?_) ?_
 ·rw[dN4];refine dN1 (dP3 _ _) ?_;rw[dR3];exact b
 ·rw[dR3];omega
def aN9(a:D4 p)(hw:C5 p<=1000000)(b:i<p.procs.length):((d9 p).verts (i:Int)).length<=30000:=by
 obtain⟨x,f⟩:=J5 a.may hw i b;have d:=J1 a.may;have e:((d9 p).verts (i:Int)).length=((d9 p).vert0 (i:Int)).length:=(F5 cF0 _).length_eq;have h:=am5 a hw b;have j:=aD5 a b;have k:(((b9 p).of i).flatMap (V6 p p.procs[i].name)).length<=((b9 p).of i).length*100:=N5 _ 100 _ λit c=>bl4 a hw _ (cP4 f c);have l:((b9 p).of i).length<=200:=by
  rw[f.ok.of_,dU8,dN9];omega
 have g:(d9 p).vert0 (i:Int)=([(⟨p.procs[i].name,1,0,e0⟩:Vx)]++((d9 p).slotsIn (i:Int)).map λn=>(⟨p.procs[i].name,3,0,n⟩:Vx))++(((d9 p).slotsOut (i:Int)).map λn=>(⟨p.procs[i].name,4,0,n⟩:Vx))++((b9 p).of i).flatMap (V6 p p.procs[i].name):=by
  unfold Bk.vert0;rw[Q5 b];rfl
 rw[e,g];simp only[dM7,dP7,dN4];omega
end
def ck6(vs:Value)(b:Ar)(w:World)(hv:SV (i4 w) vs b)(o:U3 b.x<=1000000):
  p7 prog 193 #[vs] w λu n=>(A8 (i4 w) n 9 u (Y1 b)/\o7 w n):=by
 refine p9 [vs] func193 rfl ?_;obtain⟨d,g,e,a,h⟩:=cY5 hv (i5 _);obtain⟨c,k,_⟩:=h.ar;obtain⟨t,i,l,_⟩:=c.ex_v;have f:=k g (i5 _);have m:=l g (i5 _);unfold Y1;cases hr:b.ref
 ·rw[hr]at f;simp only[m8,o6,simprocAttr,e,f,m];refine y5 (ar0 t b.x g i o) ?_;rintro u v ⟨p,j⟩;simp only[m8,simprocAttr];exact o8 results193 ⟨p.back a,a.trans j⟩
 ·rw[hr]at f;obtain⟨u,v,q,r,s,_⟩:=cr3 b.name g (b7 a);simp only[m8,o6,simprocAttr,e,f,q];exact o8 results193 ⟨r,a.trans s⟩
def cR1(w:World):∃h,(Instr.alloc 26 true (.tuple #[])).run prog w = .ok (.pointer (some ⟨w.heap.size,0,none⟩)) h/\o7 w h/\∀(e:World) (y:Vx),o7 h e ->
  ∃a,(Instr.storeAt 26 (.pointer (some ⟨w.heap.size,0,none⟩)) (.agg (A0.cells y).toArray)).run prog e = .ok () a/\(Instr.loadAt 26 (.pointer (some ⟨w.heap.size,0,none⟩))).run prog a = .ok (.agg (A0.cells y).toArray) a/\o7 w a:=by
 obtain⟨z,j,d⟩:∃z,G8 prog 26=some z/\z.cells.size=L9 prog 26:=⟨_,bl3,by rw[O9];rfl⟩;have c:∀y:Vx,(A0.cells y).toArray.size=L9 prog 26:=λy=>by rw[O9];rfl
 have n:=(aJ0 (P:=prog) (w:=w) (T:=26) j d (cs:=(A0.cells (⟨e0,0,0,e0⟩:Vx)).toArray) (c _) (λu g=>W1 _ u (by simpa using g))).1;refine⟨_,n,o7.alloc _ _,λe y i=>?_⟩;have f:e.heap[w.heap.size]?=some (.cells z.cells 26 (0,0)):=(i.block _ (by simp) id).trans (dQ5 w _);obtain⟨a,k,l,m⟩:=ak3 (P:=prog) (T:=26) f j d (c y) (λu g=>W1 y u (by simpa using g));exact⟨a,k,ag4 l at6 at9 an8 (c y).symm,o9.ext_of ((o7.alloc _ _).trans i) m λb f=>by rw[f];exact dO0 _⟩
def bB9{p:Pg}{s:St}{c:Nat}(a:aw1 p s c):(d9 p).callee s=p.procs[c]'a.lt:=by
 have e:(d9 p).s.pr s.proc=(c:Int):=a.pr;unfold Bk.callee;rw[e,Q5 a.lt]
def cA0(H:Nat)(T:TypeId)(s:Array Value)(a:Addr)(p:Pg)(q:A6)(pl:Int)(n:A6)(w:World)(hb:w.heap[H]?=some (.cells s T (0,0)))(aF:s[0]?=some (.pointer (some a)))(N:s[2]?=some (p6 q))(ha:At (i4 w) a (d9 p))(hr:D4 p)(hw:C5 p<=1000000)
  (ba:pl=0\/∃j:Nat,pl=(j:Int)+1/\j<(b9 p).l.length) :
  p7 prog 138 #[.pointer (some ⟨H,0,none⟩),.int .i64 pl,p6 n] w λu e=>(u = .agg (A0.cells ((d9 p).giver q pl n)).toArray/\o7 w e):=by
 refine p9 [.pointer (some ⟨H,0,none⟩),.int .i64 pl,p6 n] func138 rfl ?_;obtain⟨w0,X,af,A⟩:=cR1 w;have l:∀e,o7 w e->e.heap[H]?=some (.cells s T (0,0)):=λe hx=>(hx.block H (dN0.1 hb).1 id).trans hb;have bb:Value.string {data:=#[]}=p6 e0:=rfl;have bc:Value.string {data:=#[36,114,101,116]}=p6 R5:=rfl;rcases dM5 (decide (pl=0))with h0|h0
 ·have a0:=dM8 h0;simp only[m8,o6,simprocAttr,X,h0];refine B9 (J6 H T s q 3 0 n w0 (l w0 af) N) (λw1 D=>?_);obtain⟨w2,q1,q2,o⟩:=A w1 ⟨q,3,0,n⟩ D;simp only[m8,simprocAttr,q1];refine M7 results138 (ad:=⟨w.heap.size,0,none⟩) (by simp only[p8,simprocAttr]) q2 ?_;refine⟨?_,o⟩;unfold Bk.giver;rw[if_pos a0]
 have aM:=dN2 h0;obtain⟨j,rfl,Z⟩:∃j:Nat,pl=(j:Int)+1/\j<(b9 p).l.length:=by
  rcases ba with h|h
  ·exact absurd h aM
  ·exact h
 have bw:=J1 hr.may;obtain⟨sh,vw,vd,_,vi,vo,has,bL,bH,_,bJ,bK,bj,bo⟩:=ha.book rfl;obtain⟨vl,_,_,aQ,_,_,aN,bm,_⟩:=has.sh;rw[K9]at aN;obtain⟨vg,vp,bI,aR,bO,bp⟩:=aN.pg;have F:=b7 af;have aw:=bj w0 F;have ax:=bm w0 F;have k0:(Instr.loadAt 87 (.pointer (some ⟨H,0,none⟩))).run prog w0 = .ok (.pointer (some a)) w0:=E2 (i:=0) (l w0 af) aF aA1;have av:IntKind.i64.wrap ((j:Int)+1-1)=(j:Int):=by rw[M3 _ (by omega)];omega
 have Q:=aQ.inS (k:=j) Z;have L:=aQ.at_ (i:=j) (x:=(b9 p).l[j]) (dM4 Z);have aU:A4.sz It=17:=rfl;rw[aU]at L;have aK:=dN5 Z;have O:=hr.fits _ aK;have aH:(b9 p).it ((j:Int)+1)=(b9 p).l[j]:=by
  unfold Sh.it;rw[show((j:Int)+1-1).toNat=j by omega,List.getD,dM4 Z];rfl
 have y:(d9 p).giver q ((j:Int)+1) n=if((b9 p).l[j]).s.kind≠4 then⟨q,2,(j:Int)+1,e0⟩else if((b9 p).l[j]).s.name=n then⟨q,6,(j:Int)+1,R5⟩
   else match(((b9 p).l[j]).s.args.zip ((d9 p).callee ((b9 p).l[j]).s).params).find? λx=>x.1.ref&&decide (x.1.name=n)with
    | some x=>⟨q,6,(j:Int)+1,x.2.name⟩
    | none=>⟨q,6,(j:Int)+1,n⟩:=by
  have hs:(d9 p).s=b9 p:=rfl;unfold Bk.giver;rw[if_neg aM,hs,aH];rfl
 generalize(b9 p).l[j]=it at L O y;obtain⟨aE,_,_⟩:=L.it;obtain⟨sv,ac,bn,_⟩:=aE.st_v;have ay:=bn w0 F;obtain⟨d,wz,w1,I,R,D,aC⟩:=ba3 (ac.mono F) (i5 _);obtain⟨_,va,_,_,_,ae,_,_,_,bk,_⟩:=aC.st;obtain⟨br,aP,_,aW⟩:=aC.st_v;have l1:=bk w1 (i5 _);have G:=af.trans D;rcases dM5 (decide (it.s.kind=4))with h4|h4;rotate_left
 ·have e4:=dN2 h4;simp only[m8,o6,y0,simprocAttr,X,h0,k0,aw,ax,av,Q,ay,I,R,l1,h4,bb];refine B9 (J6 H T s q 2 ((j:Int)+1) e0 w1 (l w1 G) N) (λw2 o=>?_);obtain⟨g,q1,q2,E⟩:=A w2 ⟨q,2,(j:Int)+1,e0⟩ (D.trans o);simp only[m8,simprocAttr,q1];refine M7 results138 (ad:=⟨w.heap.size,0,none⟩) (by simp only[p8,simprocAttr]) q2 ?_;refine⟨?_,E⟩;rw[y,if_pos e4]
 have e4:=dM8 h4;rw[if_neg (by simpa using e4)]at y;rcases dM5 (decide (it.s.name=n))with h5|h5
 ·have e5:=dM8 h5;simp only[m8,o6,y0,simprocAttr,X,h0,k0,aw,ax,av,Q,ay,I,R,l1,h4,h5,bc];refine B9 (J6 H T s q 6 ((j:Int)+1) R5 w1 (l w1 G) N) (λw2 o=>?_);obtain⟨g,q1,q2,E⟩:=A w2 ⟨q,6,(j:Int)+1,R5⟩ (D.trans o);simp only[m8,simprocAttr,q1];refine M7 results138 (ad:=⟨w.heap.size,0,none⟩) (by simp only[p8,simprocAttr]) q2 ?_;refine⟨?_,E⟩;rw[y,if_pos e5]
 have e5:=dN2 h5;obtain⟨c,hc⟩:=U6 (O e4);rw[if_neg e5,bB9 hc]at y;have aI:=hc.len;have aO:=R1 hr.may hc.lt;have ak:=aR.at_ (i:=c) (x:=p.procs[c]'hc.lt) (dM4 hc.lt);have aG:=aR.inS (k:=c) hc.lt;have bg:A4.sz Pr=5:=rfl;rw[bg]at ak;obtain⟨bW,_,_,_,U,_,_,_,_,bq⟩:=ak.pr;have a7:=hc.pr;generalize(p.procs[c]'hc.lt).params=pas at y aI aO U;have a4:=ae.isS;have a9:=ae.vlen;simp only[m8,o6,y0,simprocAttr,X,h0,k0,aw,ax,av,Q,ay,I,R,l1,h4,h5,a4,a9];refine n9 [0,1,2,6,7,44,45] (σ:=Nat) (λk f e=>f 46 = .int .i64 k/\k<=it.s.args.length/\(∀m (hm:m<it.s.args.length),m<k->(it.s.args[m].ref&&decide (it.s.args[m].name=n))=false)/\o7 w1 e) (λk=>it.s.args.length-k) 0 ?_ ?_
 ·simp only[p8,simprocAttr];exact⟨by trivial,dN6 _,λm _ h=>by omega,o9.refl _⟩
 rintro k f w2 hk ⟨W,bD,ab,o⟩;simp only[dM6,p8,simprocAttr]at hk;obtain⟨g0,g1,g2,g6,g7,ap,a3,_⟩:=hk;simp only[m8,o6,simprocAttr,W,a3];refine n7 (λaq=>?_) (λaq=>?_);rotate_left
 ·have a6:k=it.s.args.length:=by simp at aq;omega
  subst a6;simp only[m8,simprocAttr,g0,g1,g2];refine B9 (J6 H T s q 6 ((j:Int)+1) n w2 (l w2 (G.trans o)) N) (λg E=>?_);obtain⟨w4,q1,q2,V⟩:=A g ⟨q,6,(j:Int)+1,n⟩ (D.trans (o.trans E));simp only[m8,simprocAttr,g6,q1];refine M7 results138 (ad:=⟨w.heap.size,0,none⟩) (by simp only[p8,simprocAttr];exact g6) q2 ?_;refine⟨?_,V⟩;rw[y,dW5.2 λz hz=>?_];obtain⟨m,hm⟩:=dV3.1 hz;rw[List.getElem?_zip_eq_some]at hm;obtain⟨aL,a8⟩:=dM9.1 hm.1;have:=ab m aL aL;rw[a8]at this;simp[this]
 have aJ:k<it.s.args.length:=by simpa using aq
 have ar:=ae.inS aJ;obtain⟨sv,ac,aa⟩:=F9 (P:=prog) (t:=124) ae (b7 o) (dM4 aJ) aK3 aK4 aE0 X1;rw[X1]at aa;have bA:=ab;have B:∀(b:Bool),(it.s.args[k].ref&&decide (it.s.args[k].name=n))=b->(b=false->∀m (hm:m<it.s.args.length),m<k+1->(it.s.args[m].ref&&decide (it.s.args[m].name=n))=false):=λb hb a5 m hm bE=>by
  rcases dQ7 m k with h|h
  ·exact ab m hm h
  ·obtain rfl:m=k:=by omega
   rw[hb,a5]
 have am:k<pas.length:=by omega
 have C:(it.s.args[k].ref&&decide (it.s.args[k].name=n))=true->(it.s.args.zip pas).find? (λx=>x.1.ref&&decide (x.1.name=n))=some (it.s.args[k],pas[k]):=λht=>by
  rw[dV5];refine⟨ht,k,by rw[List.length_zip];omega,by rw[List.getElem_zip],λm hm=>?_⟩;rw[List.getElem_zip];have:=ab m (by omega) hm;simp only[this];rfl
 have M:=U.at_ (i:=k) (x:=pas[k]) (dM4 am);have au:=U.inS (k:=k) am;have bf:A4.sz Pa=2:=rfl;rw[bf]at M;obtain⟨_,an⟩:=M.pa;generalize pas[k]=pa at C an;generalize it.s.args[k]=ag at ac B C;obtain⟨d3,bY,g,J,S,E,aD⟩:=ba0 (ac.mono (b7 o)) (i5 _);obtain⟨_,bl,_⟩:=aD.ar;have l3:=bl g (i5 _);have r:=o.trans E;cases hrf:ag.ref
 ·rw[hrf]at l3;simp only[m8,o6,y0,simprocAttr,W,ap,ar,aa,J,S,l3];exact⟨k+1,by omega,dO2 _ (B0 k (by omega)),by omega,B false (by rw[hrf];rfl) rfl,r⟩
 rw[hrf]at l3;rcases dM5 (decide (ag.name=n))with h6|h6;rotate_left
 ·simp only[m8,o6,y0,simprocAttr,W,g2,ap,ar,aa,J,S,l3,h6];exact⟨k+1,by omega,dO2 _ (B0 k (by omega)),by omega,B false (by rw[hrf,h6];rfl) rfl,r⟩
 have aS:=G.trans r;have v:=aS.trans (o7.drew g);have Y:∀e,o7 g.drew e->B5 (i4 w) (i4 e):=λe h=>b7 (v.trans h);have t0:∀K f d aA,F3 prog (λe=>o7 g.drew e) (Instr.loadAt 87 (.pointer (some ⟨H,0,none⟩))) K f d aA=K (C4 f d (.pointer (some a))) aA:=λK f d aA=>B7 (w0:=g.drew) (o9.refl _) λe h=>E2 (i:=0) (l e (v.trans h)) aF aA1;have t1:=bo (λe=>o7 g.drew e) g.drew (o9.refl _) Y;have t2:=bp (λe=>o7 g.drew e) g.drew (o9.refl _) Y;have t3:=bq (λe=>o7 g.drew e) g.drew (o9.refl _) Y;have t4:=an (λe=>o7 g.drew e) g.drew (o9.refl _) Y;have t5:=aW (λe=>o7 g.drew e) g.drew (o9.refl _) λe h=>b7 ((r.trans (o7.drew g)).trans h);simp only[m8,o6,y0,simprocAttr,W,g2,ap,ar,aa,J,S,l3,h6];refine C0 (λe=>o7 g.drew e) 26 (A5 [0,1,2,3,4,5,6,7,8,9,10,11,12,13,14,15,16,17,22,18,19,20,21,23,24,25]) ?_;simp only[D6,A5,m8,o6,simprocAttr,g0,g1,g7,t0,t1,t2,t5];refine B9 (aq8 a (d9 p) p br it.s g.drew (ha.mono (b7 v)) rfl hr.may (aP.mono (b7 (r.trans (o7.drew g))))) (λw4 V=>⟨V,?_⟩);rw[a7];have aT:=v.trans V;simp only[D6,m8,o6,y0,simprocAttr,t3,t4,aG,au];refine B9 (J6 H T s q 6 ((j:Int)+1) pa.name w4 (l w4 aT) N) (λw5 bd=>?_);obtain⟨w6,q1,q2,be⟩:=A w5 ⟨q,6,(j:Int)+1,pa.name⟩ (D.trans (((r.trans (o7.drew g)).trans V).trans bd));simp only[m8,simprocAttr,g6,q1];refine M7 results138 (ad:=⟨w.heap.size,0,none⟩) (by simp only[p8,simprocAttr];exact g6) q2 ?_;refine⟨?_,be⟩;rw[y,C (by rw[hrf,h6];rfl)]
def di1(y:Vx)(w:World){h:Hp}(hw:B5 h (i4 w)):∃v a,(Instr.buildSlice 22 1 #[(0,.agg (A0.cells y).toArray)]).run prog w = .ok v a/\A8 h a 26 v [y]/\o7 w a/\(∀b,A3 v b->w.heap.size<=b):=
 lit (P:=prog) (w:=w) (h:=h) (α:=Vx) (xs:=[.agg (A0.cells y).toArray]) (ys:=[y]) (parts:=#[(0,.agg (A0.cells y).toArray)]) (n:=1) bk1 rfl (Y8.2 rfl) (λx c=>by rw[dP1.1 c];rfl) rfl rfl (by simp) (by simp) hw
def cQ5{h:Hp}{w:World}{v:Value}{l:List Vx}(c:A8 h w 26 v l)(y:Vx)(d:l.length<=1000000)(hw:B5 h (i4 w)){e:TypeId}:
  (Instr.buildSlice 22 1 #[(0,.agg (A0.cells y).toArray)]).run prog w = .ok (.slice (some ⟨w.heap.size,0,none⟩) 1 1) (w.alloc (.cells (A0.cells y).toArray 26)) /\
  ∃a b,(Builtin.append_ #[22,22] e #[v,.slice (some ⟨w.heap.size,0,none⟩) 1 1]).run prog (w.alloc (.cells (A0.cells y).toArray 26)) = .ok a b/\A8 h b 26 a (l++[y])/\o9 (A3 v) w b/\F0 w v a:=by
 have:=push (P:=prog) (e:=e) bk1 rfl c (x:=.agg (A0.cells y).toArray) (y:=y) ((A0.iff_ _ _ _).2 rfl) (by omega) (by omega) hw;exact this
def dg0(s:St):∀a∈s.args,U3 a.x<=R4 s:=by
 cases s;intro a h;have:=aO0 h;unfold an3 at this;simp only[St.args]at this;simp only[R4];omega
def cl2(E:Nat)(T:TypeId)(v:Array Value)(a:Addr)(p:Pg)(q:A6)(pl:Int)(n:A6)(w:World)(hb:w.heap[E]?=some (.cells v T (0,0)))(W:v[0]?=some (.pointer (some a)))(X:v[2]?=some (p6 q))(ha:At (i4 w) a (d9 p))(hr:D4 p)(hw:C5 p<=1000000)
  (bm:pl = -1\/∃j:Nat,pl=(j:Int)+1/\j<(b9 p).l.length) :
  p7 prog 139 #[.pointer (some ⟨E,0,none⟩),.int .i64 pl,p6 n] w λu s=>(A8 (i4 w) s 26 u ((d9 p).takers q pl n)/\o7 w s):=by
 refine p9 [.pointer (some ⟨E,0,none⟩),.int .i64 pl,p6 n] func139 rfl ?_;have m:∀s,o7 w s->s.heap[E]?=some (.cells v T (0,0)):=λs hx=>(hx.block E (dN0.1 hb).1 id).trans hb;have bo:Value.string {data:=#[]}=p6 e0:=rfl;rcases dM5 (decide (pl = -1))with h0|h0
 ·have bb:=dM8 h0;simp only[m8,o6,simprocAttr,h0];refine B9 (J6 E T v q 4 0 n w hb X) (λz g=>?_);obtain⟨u,w2,q1,q2,q3,_⟩:=di1 ⟨q,4,0,n⟩ z (b7 g);simp only[m8,simprocAttr,q1];refine o8 results139 ?_;simp only[p8,simprocAttr];refine⟨?_,g.trans q3⟩;unfold Bk.takers;rw[if_pos bb];exact q2
 have aN:=dN2 h0;obtain⟨j,rfl,Y⟩:∃j:Nat,pl=(j:Int)+1/\j<(b9 p).l.length:=by
  rcases bm with h|h
  ·exact absurd h aN
  ·exact h
 have bM:=J1 hr.may;obtain⟨sh,vw,vd,_,vi,vo,has,bX,bU,_,aT,bW,av,b6⟩:=ha.book rfl;obtain⟨vl,_,_,aU,_,_,aO,bw,_⟩:=has.sh;rw[K9]at aO;obtain⟨vg,vp,bV,aV,bu,b8⟩:=aO.pg;have a0:=av w (i5 _);have a4:=bw w (i5 _);have k0:(Instr.loadAt 87 (.pointer (some ⟨E,0,none⟩))).run prog w = .ok (.pointer (some a)) w:=E2 (i:=0) hb W aA1;have aW:IntKind.i64.wrap ((j:Int)+1-1)=(j:Int):=by rw[M3 _ (by omega)];omega
 have ah:=aU.inS (k:=j) Y;have H:=aU.at_ (i:=j) (x:=(b9 p).l[j]) (dM4 Y);have aZ:A4.sz It=17:=rfl;rw[aZ]at H;have ak:=dN5 Y;have L:=hr.fits _ ak;have am:=ah5 p hw _ ak;have aI:(b9 p).it ((j:Int)+1)=(b9 p).l[j]:=by
  unfold Sh.it;rw[show((j:Int)+1-1).toNat=j by omega,List.getD,dM4 Y];rfl
 have b:(d9 p).takers q ((j:Int)+1) n=if((b9 p).l[j]).s.kind≠4 then[⟨q,2,(j:Int)+1,e0⟩]
   else(((((b9 p).l[j]).s.args.zip ((d9 p).callee ((b9 p).l[j]).s).params).filter λx=>(Y1 x.1).contains n).map λx=>(⟨q,5,(j:Int)+1,x.2.name⟩:Vx)) ++
    if(O7 p n&&(G2 (ab7 p) ((b9 p).pr ((b9 p).l[j]).s.proc)).contains n)=true then[(⟨q,5,(j:Int)+1,n⟩:Vx)]else[]:=by
  have hs:(d9 p).s=b9 p:=rfl;have hi:(d9 p).ins=ab7 p:=rfl;unfold Bk.takers;rw[if_neg aN,hs,hi,aI,K9]
 generalize(b9 p).l[j]=it at H L b am;have aY:∀V∈it.s.args,U3 V.x<=1000000:=λV h=>dN1 (dg0 it.s V h) am;obtain⟨aE,_,_⟩:=H.it;obtain⟨sv,Z,bx,_⟩:=aE.st_v;have a5:=bx w (i5 _);obtain⟨d,wz,z,ae,al,g,aC⟩:=ba3 Z (i5 _);obtain⟨_,va,_,_,_,aa,_,_,_,a1,_⟩:=aC.st;obtain⟨bI,aS,_,a6⟩:=aC.st_v;have l1:=a1 z (i5 _);rcases dM5 (decide (it.s.kind=4))with h4|h4;rotate_left
 ·have e4:=dN2 h4;simp only[m8,o6,y0,simprocAttr,h0,k0,a0,a4,aW,ah,a5,ae,al,l1,h4,bo];refine B9 (J6 E T v q 2 ((j:Int)+1) e0 z (m z g) X) (λw2 ab=>?_);obtain⟨u,w3,q1,q2,q3,_⟩:=di1 ⟨q,2,(j:Int)+1,e0⟩ w2 (b7 (g.trans ab));simp only[m8,simprocAttr,q1];refine o8 results139 ?_;simp only[p8,simprocAttr];refine⟨?_,(g.trans ab).trans q3⟩;rw[b,if_pos e4];exact q2
 have e4:=dM8 h4;obtain⟨c,U⟩:=U6 (L e4);rw[if_neg (by simpa using e4),bB9 U,U.pr]at b;have aK:=U.len;have aP:=R1 hr.may U.lt;have af:=aV.at_ (i:=c) (x:=p.procs[c]'U.lt) (dM4 U.lt);have aH:=aV.inS (k:=c) U.lt;have br:A4.sz Pr=5:=rfl;rw[br]at af;obtain⟨cf,_,_,_,O,_,_,_,bv,_⟩:=af.pr;have bk:=U.pr;generalize(p.procs[c]'U.lt).params=pas at b aK aP O;obtain⟨N,M,aF⟩:=(aL9 hr hw).row U.lt;generalize G2 (ab7 p) (c:Int)=ax at N M aF b;obtain⟨ui,bp,bg⟩:=R.row aT (show(d9 p).ins[c]?=some ax from N);have aG:=aT.inS (k:=c) (show c<(ab7 p).length from(dM9.1 N).1);have be:=aa.isS;have bl:=aa.vlen;have ao:=g.trans (o7.drew z);have t0:∀K f d ay,F3 prog (λs=>o7 z.drew s) (Instr.loadAt 87 (.pointer (some ⟨E,0,none⟩))) K f d ay=K (C4 f d (.pointer (some a))) ay:=λK f d ay=>B7 (w0:=z.drew) (o9.refl _) λs h=>E2 (i:=0) (m s (ao.trans h)) W aA1;have t5:=a6 (λs=>o7 z.drew s) z.drew (o9.refl _) λs h=>b7 ((o7.drew z).trans h);simp only[m8,o6,y0,simprocAttr,h0,k0,a0,a4,aW,ah,a5,ae,al,l1,h4];refine C0 (λs=>o7 z.drew s) 5 (A5 [0,1,2,3,4]) ?_;simp only[D6,A5,m8,o6,simprocAttr,t0,t5];refine B9 (aq8 a (d9 p) p bI it.s z.drew (ha.mono (b7 ao)) rfl hr.may (aS.mono (b7 (o7.drew z)))) (λw2 ab=>?_);rw[bk];have an:=(o7.drew z).trans ab;have l2:=a1 w2 (b7 an);have b0:(it.s.args.zip pas).length=it.s.args.length:=by rw[List.length_zip];omega
 simp only[m8,o6,simprocAttr,l2,be,bl];refine n9 [0,1,2,7,9,47,48] (σ:=Nat×Value) (λt f s=>f 49 = .int .i64 t.1/\f 8=t.2/\t.1<=it.s.args.length/\A8 (i4 z) s 26 t.2 ((((it.s.args.zip pas).take t.1).filter λx=>(Y1 x.1).contains n).map λx=>(⟨q,5,(j:Int)+1,x.2.name⟩:Vx))/\o7 z s) (λt=>it.s.args.length-t.1) (0,.slice none 0 0) ?_ ?_
 ·simp only[p8,simprocAttr];exact⟨by trivial,by trivial,dN6 _,A8.nil _ _ _,an⟩
 rintro⟨k,u⟩ f w3 hk ⟨G,h8,bj,l,F⟩;simp only at G h8 bj l;simp only[dM6,p8,simprocAttr]at hk;obtain⟨g0,g1,g2,g7,g9,bc,bd,_⟩:=hk;have J:((((it.s.args.zip pas).take k).filter λx=>(Y1 x.1).contains n).map λx=>(⟨q,5,(j:Int)+1,x.2.name⟩:Vx)).length<=k:=by
  rw[dN4];refine dN1 (dP3 _ _) ?_;rw[dN9];omega
 have y:=g.trans F;simp only[m8,o6,simprocAttr,G,bd];refine n7 (λaq=>?_) (λaq=>?_)
 ·have au:k<it.s.args.length:=by simpa using aq
  have aj:k<pas.length:=by omega
  have aM:k<(it.s.args.zip pas).length:=by omega
  have bi:=aa.inS au;obtain⟨sv,Z,aJ⟩:=F9 (P:=prog) (t:=124) aa (b7 F) (dM4 au) aK3 aK4 aE0 X1;rw[X1]at aJ;have o:=aH8 (λx:Ar×Pa=>(Y1 x.1).contains n) (λx=>(⟨q,5,(j:Int)+1,x.2.name⟩:Vx)) _ aM;rw[List.getElem_zip]at o;simp only at o;have aX:=aY _ (dN5 au);have I:=O.at_ (i:=k) (x:=pas[k]) (dM4 aj);have ar:=O.inS (k:=k) aj;have bq:A4.sz Pa=2:=rfl;rw[bq]at I;obtain⟨ap,_⟩:=I.pa;generalize pas[k]=pa at o ap;generalize it.s.args[k]=V at Z o aX;generalize bZ:(((it.s.args.zip pas).take k).filter λx=>(Y1 x.1).contains n).map (λx=>(⟨q,5,(j:Int)+1,x.2.name⟩:Vx))=xs at l o J;obtain⟨d4,cg,w4,aB,aR,r,aD⟩:=ba0 (Z.mono (b7 F)) (i5 _);obtain⟨sa,bn,a2,_⟩:=aD.ar_v;have l4:=a2 w4 (i5 _);have aQ:(Y1 V).length<=1000000000:=by
   unfold Y1;split
   ·simp
   ·have:=ae3 V.x;omega
  simp only[m8,o6,y0,simprocAttr,G,bc,bi,aJ,aB,aR,l4];refine y5 (ck6 sa V w4 bn aX) ?_;rintro us S ⟨hos,hx5⟩;have D:=(F.trans r).trans hx5;have Q:=g.trans D;simp only[m8,simprocAttr,g2];refine E0 (P6 us (Y1 V) n S (hos.rw_ (b7 hx5)) aQ) ?_;rcases dM5 ((Y1 V).contains n)with h6|h6;rotate_left
  ·rw[h6,if_neg (by simp),dP8]at o;simp only[m8,o6,simprocAttr,h6,h8,G];refine⟨(k+1,u),by omega,dO2 _ (B0 k (by omega)),by trivial,by omega,?_,D⟩;simp only[];rw[o];exact(l.ext r).ext hx5
  rw[h6,if_pos rfl]at o;have C:=b7 Q;have k5:(Instr.loadAt 87 (.pointer (some ⟨E,0,none⟩))).run prog S = .ok (.pointer (some a)) S:=E2 (i:=0) (m S Q) W aA1;have bt:=av S C;have bz:=bu S C;have bA:=bv S C;have a3:=ap S C;simp only[m8,o6,y0,simprocAttr,h6,h8,g0,g1,g9,k5,bt,bz,aH,bA,ar,a3];refine B9 (J6 E T v q 5 ((j:Int)+1) pa.name S (m S Q) X) (λw6 ac=>?_);obtain⟨p1,u7,w7,p2,p3,p4,p5⟩:=cQ5 (e:=22) (((l.ext r).ext hx5).ext ac) ⟨q,5,(j:Int)+1,pa.name⟩ (by omega) (b7 (D.trans ac));simp only[m8,o6,simprocAttr,p1,p2,G];refine⟨(k+1,u7),by omega,dO2 _ (B0 k (by omega)),by trivial,by omega,?_,(((l.ext r).ext hx5).ext ac).ext2 (D.trans ac) p4⟩;simp only[];rw[o];exact p3
 have bh:k=it.s.args.length:=by simp at aq;omega
 subst bh;rw[dQ9 (by omega)]at l J;generalize hA:((it.s.args.zip pas).filter λx=>(Y1 x.1).contains n).map (λx=>(⟨q,5,(j:Int)+1,x.2.name⟩:Vx))=A at b l J;have B:=b7 y;have k3:(Instr.loadAt 87 (.pointer (some ⟨E,0,none⟩))).run prog w3 = .ok (.pointer (some a)) w3:=E2 (i:=0) (m w3 y) W aA1;have bs:=av w3 B;have aL:=H7 (P:=prog) (t:=31) bg B O0;simp only[m8,o6,simprocAttr,g0,g2,k3];refine E0 (aP9 a (d9 p) p n w3 (ha.mono B) rfl hr.may) ?_;rcases dM5 (O7 p n)with h7|h7;rotate_left
 ·rw[h7,Bool.false_and,if_neg (by simp),dP8]at b;simp only[m8,simprocAttr,h7,h8];refine o8 results139 ?_;simp only[p8,simprocAttr];rw[b];exact⟨l.backN g,y⟩
 rw[h7,dT7]at b;simp only[m8,o6,y0,simprocAttr,h7,g0,g2,g9,k3,bs,aG,aL];refine E0 (af2 ui ax n w3 (A4.mono B bp) (by omega) M) ?_;rcases dM5 (ax.contains n)with h8'|h8';rotate_left
 ·rw[h8',if_neg (by simp),dP8]at b;simp only[m8,simprocAttr,h8,h8'];refine o8 results139 ?_;simp only[p8,simprocAttr];rw[b];exact⟨l.backN g,y⟩
 rw[h8',if_pos rfl]at b;simp only[m8,simprocAttr,h8,h8',g0,g1,g2];refine B9 (J6 E T v q 5 ((j:Int)+1) n w3 (m w3 y) X) (λw4 r=>?_);obtain⟨p1,u5,S,p2,p3,p4,p5⟩:=cQ5 (e:=22) (l.ext r) ⟨q,5,(j:Int)+1,n⟩ (by omega) (b7 (F.trans r));simp only[m8,simprocAttr,p1,p2];refine o8 results139 ?_;simp only[p8,simprocAttr];rw[b];exact⟨p3.backN g,g.trans ((l.ext r).ext2 (F.trans r) p4)⟩
def bg8{α:Type}[DecidableEq α]:∀(l:List α),G7 l=ai5 (λa b=>decide (a=b)) l
 | []=>rfl
 | [x]=>rfl
 | x::y::l=>by
  have d:=bg8 (y::l);rw[G7,d];simp only[ai5,al3];by_cases h:x=y
  ·subst h;simp
  ·have c:¬y=x:=λe=>h e.symm;simp[h,c]
def bl9(a b:Eg):Bool:=decide (a=b)
def ce8{h:Hp}{w:World}{v:Value}{xs:List Eg}(o:A8 h w 67 v xs)(hl:xs.length<=1000000000)(hh:B5 h (i4 w)):
  p7 prog 145 #[v] w λu d=>(A8 h d 67 u (G7 xs)/\o9 (A3 v) w d/\∀b,A3 u b->A3 v b):=by
 refine p9 [v] func145 rfl ?_;rw[bg8];have au:(λa b:Eg=>decide (a=b))=bl9:=rfl;rw[au];have X:=o.isS;have hn:=o.vlen;have a6:=o.vcap;have V:A4.sz Eg=9:=rfl;rcases dM5 (decide ((xs.length:Int)<2))with H|H
 ·simp only[m8,o6,simprocAttr,X,hn,H];refine o8 results145 ?_;simp only[p8,simprocAttr];have D:xs.length<2:=by have:=dM8 H;omega
  have:=ad6 bl9 xs xs.length (dO0 _) λj J h1 H=>by omega
  rw[dN8]at this;exact⟨by rw[this];exact o,o9.refl _,λb Y=>Y⟩
 have a2:2<=xs.length:=by have:=dN2 H;omega
 simp only[m8,o6,simprocAttr,X,hn,H];refine n9 [0] (σ:=Nat) (λi f d=>f 3 = .int .i64 i/\1<=i/\i<=xs.length/\(∀j (J:j<xs.length),1<=j->j<i->bl9 xs[j] (xs[j-1]'(by omega))=false)/\o7 w d) (λi=>xs.length-i) 1 ?_ ?_
 ·simp only[p8,simprocAttr];exact⟨by trivial,by simp,by omega,λj _ h1 H=>by omega,o9.refl _⟩
 rintro i f G hk ⟨h3,a1,a4,S,x⟩;simp only[dM6,p8,simprocAttr]at hk;obtain⟨e0,_⟩:=hk;simp only[m8,o6,simprocAttr,h3,e0,X,hn];refine n7 (λL=>?_) (λL=>?_);rotate_left
 ·have aA:i=xs.length:=by simp at L;omega
  subst aA;simp only[m8,simprocAttr,e0];refine o8 results145 ?_;simp only[p8,simprocAttr];have:=ad6 bl9 xs xs.length (dO0 _) S;rw[dN8]at this;exact⟨by rw[this];exact o.ext x,o9.up x,λb Y=>Y⟩
 have D:i<xs.length:=by simpa using L
 have K:i-1<xs.length:=by omega
 have hR:R (i4 G) v xs:=(o.ext x).rw_ (t8 hh (b7 x));have aD:=o.inS D;have ac:=o.inS K;have aL:IntKind.i64.wrap ((i:Int)-1)=((i-1:Nat):Int):=by rw[M3 _ (by omega)];omega
 obtain⟨vx,aJ,_,sx⟩:=(hR.at_ (dM4 D)).eg_v;obtain⟨vy,aK,_,sy⟩:=(hR.at_ (dM4 K)).eg_v;obtain rfl:=aJ.N;obtain rfl:=aK.N;have s1:=sx (λd=>o7 G.drew d) G.drew (o9.refl _) λd h=>b7 ((o7.drew G).trans h);have s2:=sy (λd=>o7 G.drew d) G.drew (o9.refl _) λd h=>b7 ((o7.drew G).trans h);rw[V]at s1 s2;have r:=x.trans (o7.drew G);have T:=λw0 a b=>dl8 w0 a b xs[i] xs[i-1];have aG:decide (xs[i]=xs[i-1])=bl9 xs[i] xs[i-1]:=rfl;rw[aG]at T;simp only[m8,simprocAttr];refine C0 (λd=>o7 G.drew d) 9 (A5 [0,1,2,3,4,5,6,7,8]) ?_;simp only[D6,A5,m8,o6,y0,simprocAttr,h3,e0,aD,ac,aL,s1,s2];rcases dM5 (bl9 xs[i] xs[i-1])with hq|hq;rotate_left
 ·simp only[m8,o6,simprocAttr,ac3,A0.cells,T,hq,h3];refine⟨i+1,by omega,by rw[B0 i (by omega)],by omega,by omega,λj J h1 H=>?_,r⟩;rcases dQ7 j i with h|h
  ·exact S j J h1 h
  ·obtain rfl:j=i:=by omega
   exact hq
 have c1:decide ((i:Int)<=(xs.length:Int))=true:=by simp;omega
 have c2:decide ((xs.length:Int)<=(vcap v:Int))=true:=by simp;omega
 have hd:∀k:Nat,isS (reS v k xs.length 9)=true/\vlen (reS v k xs.length 9)=xs.length-k:=λk=>by
  rcases o with⟨rfl,rfl⟩|⟨b,c,a0,rfl,_⟩
  ·exact⟨rfl,rfl⟩
  ·exact⟨rfl,rfl⟩
 obtain⟨aw,aF⟩:=hd i;have a5:((xs.length-i:Nat):Int)=(xs.length:Int)-i:=by omega
 simp only[m8,o6,F8,simprocAttr,ac3,A0.cells,T,hq,h3,e0,X,hn,c1,c2];refine n9 [0,4] (σ:=Nat×Nat×List Eg) (λs f d=>f 5 = .int .i64 s.1/\f 3 = .int .i64 s.2.1/\1<=s.1/\i+s.1<=xs.length/\s.2.1+1<=i+s.1/\s.2.2.length=xs.length/\A8 h d 67 v s.2.2/\(∀j (J:j<xs.length) (N:j<s.2.2.length),i+s.1<=j+1->s.2.2[j]=xs[j])/\s.2.2.take s.2.1=ai5 bl9 (xs.take (i+s.1))/\o9 (A3 v) w d) (λs=>xs.length-(i+s.1)) (1,i,xs) ?_ ?_
 ·simp only[p8,simprocAttr];refine⟨by trivial,by trivial,by trivial,by omega,by omega,by trivial,o.ext r,λj _ _ _=>by trivial,?_,o9.up r⟩;rw[ar7 bl9 xs D (by omega),if_pos hq,ad6 bl9 xs i (by omega) S]
 rintro⟨m,c,A⟩ f4 n hk ⟨W,B,ar,aC,ay,z,p,l,g,O⟩;simp only at W B ar aC ay z p l g;simp only[dM6,p8,simprocAttr]at hk;obtain⟨g0,g6,_⟩:=hk;rw[e0]at g0;have aB:B5 h (i4 n):=H5 hh O λb Y=>o.free Y;have ag:decide ((m:Int)<((xs.length-i:Nat):Int))=decide (i+m<xs.length):=by rw[dR5];omega
 simp only[m8,o6,simprocAttr,W,g6,aw,aF,ag];refine n7 (λL=>?_) (λL=>?_)
 ·have E:i+m<xs.length:=dM8 L;have aE:i+m-1<xs.length:=by omega
  have av:R (i4 n) v A:=p.rw_ aB;have e:=bQ7 av (show i<=xs.length by omega) (show xs.length<=A.length by omega);rw[V]at e;have aN:(A.take xs.length).drop i=A.drop i:=by rw[<-z,dN8]
  rw[aN]at e;have aa:(A.drop i)[m]?=some xs[i+m]:=by
   rw[dW6,dM4 (by omega),l (i+m) E (by omega) (by omega)]
  have ab:(A.drop i)[m-1]?=some xs[i+m-1]:=by
   rw[dW6,show i+(m-1)=i+m-1 by omega,dM4 (by omega),l (i+m-1) aE (by omega) (by omega)]
  have I:=e.inS (dM9.1 aa).1;have ad:=e.inS (dM9.1 ab).1;have aM:IntKind.i64.wrap ((m:Int)-1)=((m-1:Nat):Int):=by rw[M3 _ (by omega)];omega
  obtain⟨ux,aH,lx,tx⟩:=(e.at_ aa).eg_v;obtain⟨uy,aI,_,ty⟩:=(e.at_ ab).eg_v;obtain rfl:=aH.N;obtain rfl:=aI.N;have t1:=tx (λd=>o7 n.drew d) n.drew (o9.refl _) λd h=>b7 ((o7.drew n).trans h);have t2:=ty (λd=>o7 n.drew d) n.drew (o9.refl _) λd h=>b7 ((o7.drew n).trans h);rw[V]at t1 t2 lx;have q:=λw0 a b=>dn4 w0 a b xs[i+m] xs[i+m-1];have al:decide (xs[i+m]=xs[i+m-1])=bl9 xs[i+m] xs[i+m-1]:=rfl;rw[al]at q;simp only[m8,simprocAttr];refine C0 (λd=>o7 n.drew d) 9 (A5 [0,1,2,3,4,5,6,7,8]) ?_;simp only[D6,A5,m8,o6,y0,simprocAttr,W,g6,I,ad,aM,t1,t2];have y:=o7.drew n;have ak:=p.ext y;have ah:o9 (A3 v) w n.drew:=O.chain (o9.up y) λ_ _ h=>h;have C:=ar7 bl9 xs (k:=i+m) E (by omega);rcases dM5 (bl9 xs[i+m] xs[i+m-1])with hq4|hq4
  ·rw[if_pos hq4]at C;simp only[m8,o6,simprocAttr,ac3,A0.cells,q,hq4,W];refine⟨(m+1,c,A),by simp only[];omega,by simp only[];rw[B0 m (by omega)],B,by simp only[];omega,by simp only[];omega,by simp only[];omega,z,ak,λj J N h=>l j J N (by simp only at h;omega),?_,ah⟩;simp only[];rw[g,<-C,dW3]
  ·rw[if_neg (by rw[hq4];simp)]at C;have M:c<A.length:=by omega
   have am:=lx n.drew (b7 y);obtain⟨w6,U,F,Q⟩:=bu9 (P:=prog) (t:=67) ak bH3 aZ8 M xs[i+m];rw[V]at U;have ae:=p.inS M;simp only[A0.cells]at am U;simp only[m8,o6,y0,simprocAttr,ac3,A0.cells,q,hq4,B,g0,g6,W,I,ae,am,U];refine⟨(m+1,c+1,A.set c xs[i+m]),by simp only[];omega,by simp only[];rw[B0 m (by omega)],by simp only[];rw[B0 c (by omega)],by simp only[];omega,by simp only[];omega,by simp only[];omega,by simp only[dU0];exact z,F,λj J N h=>?_,?_,ah.chain Q λ_ _ h=>h⟩
   ·simp only at h ⊢;rw[List.getElem_set_ne (by omega)];exact l j J (by omega) (by omega)
   ·simp only[];have az:c<(A.set c xs[i+m]).length:=by simpa using M
    rw[dN3 az,List.getElem_set_self,List.take_set_of_le (dO0 _),g,<-C,dW3]
 ·have E:i+m=xs.length:=by have:=dN2 L;omega
  rw[E,dN8]at g;have ax:c<A.length:=by omega
  have c3:decide ((c:Int)<=(xs.length:Int))=true:=by simp;omega
  have c4:decide ((c:Int)<=(vcap v:Int))=true:=by simp;omega
  obtain⟨w6,U,F,Q,Z⟩:=bd4 (P:=prog) (t:=55) (ty:=0) p rfl cU7 rfl (by simp[Value.cells,Value.oneCell']) ax;rw[z,V]at U;rw[V]at F Z;simp only[m8,o6,F8,simprocAttr,bu6,B,g0,X,hn,c2,c3,c4,U];exact o8 results145 ⟨by rw[<-g];exact F,O.chain Q λ_ _ h=>h,Z⟩
def aQ2{h:Hp}{w:World}{v:Value}{xs:List Eg}(j:A8 h w 67 v xs)(i:xs.length<=1000000000)(o:B5 h (i4 w)):
  p7 prog 80 #[v] w λu k=>(A8 h k 67 u (aw4 xs)/\o9 (A3 v) w k/\∀b,A3 u b->A3 v b):=by
 refine p9 [v] func80 rfl ?_;simp only[m8,o6,simprocAttr];refine y5 (ca7 j i λa _ b _ l m=>cK3 (dh1.eq0 l m)) ?_;rintro _ p ⟨f,c⟩;simp only[m8,simprocAttr];refine y5 (ce8 f (by rw[(F5 _ _).length_eq];exact i) (H5 o c λb n=>j.free n)) ?_;rintro u q ⟨g,e,d⟩;simp only[m8,simprocAttr];exact o8 results80 ⟨g,c.trans e,d⟩
def dc4{w c d:World}(f:w.heap.size<c.heap.size){α:Type}[A4 α][A0 α]{T:TypeId}{u:Value}{l:List α}(a:A8 (i4 c) d T u l):R (B6 d (nP w.heap.size (.slice none 0 0))) u l:=
 a.flatRN λb e=>D8 λh=>by
  have:=D0 (a.free e);rcases h with h|h|h|h
  ·omega
  ·exact absurd h D1
  ·exact absurd h D1
  ·exact h.elim
def aY8(q:A6)(v:Vx):(H8 q v).length<=1:=by
 unfold H8;split
 ·simp
 ·split<;>simp
def dw0(w:World)(y:Vx):∃a,(Instr.alloc 26 true (.tuple #[])).run prog w = .ok (.pointer (some ⟨w.heap.size,0,none⟩)) a /\
  (Instr.storeAt 26 (.pointer (some ⟨w.heap.size,0,none⟩)) (.agg (A0.cells y).toArray)).run prog a = .ok () (w.alloc (.cells (A0.cells y).toArray 26)):=by
 have h:=aJ0 (P:=prog) (w:=w) (T:=26) bl3 rfl (cs:=(A0.cells y).toArray) (by rw[O9];rfl) (λu b=>W1 y u (by simpa using b));exact⟨_,h.1,h.2⟩
def dJ9{w:World}{c:Nat}{y:Vx}(d:w.heap[c]?=some (.cells (A0.cells y).toArray 26 (0,0)))(z:Vx):∃a,(Instr.storeAt 26 (.pointer (some ⟨c,0,none⟩)) (.agg (A0.cells z).toArray)).run prog w = .ok () a/\a.heap[c]?=some (.cells (A0.cells z).toArray 26 (0,0))/\o9 (λb=>b=c) w a:=
 ak3 (P:=prog) (T:=26) d bl3 (by rw[O9];rfl) (by rw[O9];rfl) (λu e=>W1 z u (by simpa using e))
def dH1{w:World}{c:Nat}{y:Vx}(a:w.heap[c]?=some (.cells (A0.cells y).toArray 26 (0,0))):(Instr.loadAt 26 (.pointer (some ⟨c,0,none⟩))).run prog w = .ok (.agg (A0.cells y).toArray) w:=
 ag4 a at6 at9 an8 (by rw[O9];rfl)
def cv9(a:Addr)(p:Pg)(i:Nat)(w:World)(ha:At (i4 w) a (d9 p))(hr:D4 p)(hw:C5 p<=1000000)(hi:i<p.procs.length):
  p7 prog 78 #[.pointer (some a),.int .i64 i] w λu o=>(A8 (i4 w) o 67 u ((d9 p).edges (i:Int))/\o7 w o):=by
 refine p9 [.pointer (some a),.int .i64 i] func78 rfl ?_;obtain⟨x,pt⟩:=J5 hr.may hw i hi;have cY:=P2 pt;obtain⟨sh,vw,vd,_,vi,vo,has,bU,dW,_,dY,dZ,cc,ec⟩:=ha.book rfl;obtain⟨_,_,_,_,_,_,bP,_,_⟩:=has.sh;rw[K9]at bP;obtain⟨vg,vp,dX,bT,da,ed⟩:=bP.pg;obtain⟨aw,bK,bH⟩:=am9 (hv:=bU) (k:=i) (p:=⟨D5 (b9 p) i⟩) (by show((I0 p).map λw=>(⟨w⟩:Ptr Wy))[i]?=_;rw[dP9,S7 hi];rfl);simp only at bH;have aQ:=bU.inS (k:=i) (by show i<((I0 p).map λw=>(⟨w⟩:Ptr Wy)).length;unfold I0;simpa using hi);have lb:=cc w (i5 _);have lp:=da w (i5 _);have hF:(d9 p).edge0 (i:Int)=(D5 (b9 p) i).decides.map (ag8 p.procs[i].name)++((d9 p).verts (i:Int)).flatMap (H8 p.procs[i].name)++((d9 p).flows (i:Int)).flatMap λf=>((d9 p).takers p.procs[i].name f.dst f.var).map λv=>(⟨(d9 p).giver p.procs[i].name f.src f.var,v,2⟩:Eg):=by
  unfold Bk.edge0;rw[Q5 hi,L8 hi]
 have bN:=bh0 hr hw hi;have cL:=aN9 hr hw hi;have cM:=bD0 hr hw hi;have be:∀f∈(d9 p).flows (i:Int),(f.src=0\/Mid p f.src)/\(f.dst = -1\/Mid p f.dst):=λf hf=>bh8 hr hw hi hf;have l:=bT.inS hi;obtain⟨sv,s,g⟩:=F9 (P:=prog) (t:=75) bT (i5 _) (dM4 hi) av8 av9 at7 R2;rw[R2]at g;obtain⟨cs,rfl,I,J,L,M,rfl,_⟩:=s;generalize p.procs[i].name=q at hF g;have cF:=bR7 a (i:Int) q I J L M;have cG:(Instr.box 195 (.agg (J0 a i q I J L M (.slice none 0 0) (.slice none 0 0)))).run prog w = .ok (.pointer (some ⟨w.heap.size,0,none⟩)) (w.alloc (.cells (J0 a i q I J L M (.slice none 0 0) (.slice none 0 0)) 195)):=rfl;have cV:Value.string {data:=#[]}=p6 e0:=rfl;simp only[m8,o6,y0,simprocAttr,lb,lp,l,g,cF,cG,cV];have bY:=o7.alloc w (.cells (J0 a i q I J L M (.slice none 0 0) (.slice none 0 0)) 195);have aS:w.heap.size<(w.alloc (.cells (J0 a i q I J L M (.slice none 0 0) (.slice none 0 0)) 195)).heap.size:=by simp
 have bI:=dQ5 w (.cells (J0 a i q I J L M (.slice none 0 0) (.slice none 0 0)) 195);generalize cX:w.alloc (.cells (J0 a i q I J L M (.slice none 0 0) (.slice none 0 0)) 195)=w1 at bY aS bI;refine B9 (J6 w.heap.size _ _ q 1 0 e0 w1 bI rfl) (λw2 bX=>?_);obtain⟨de,wz,w4,bD,bR,cZ,bG⟩:=aw0 (w:=w2) (nP w.heap.size (.slice none 0 0)) (SV.ofN (i4 w2) ⟨q,1,0,e0⟩) λb hb=>by
  have:=bX.size;rcases hb with h|h|h|h
  ·omega
  ·exact absurd h D1
  ·exact absurd h D1
  ·exact h.elim
 have ay:=bX.trans cZ;have ad:=bY.trans ay;have ca:=cc w4 (b7 ad);have bL:=H7 (P:=prog) (t:=114) bK (b7 ad) an1;simp only[m8,o6,y0,simprocAttr,bD,bR,ca,aQ,bL];refine y5 (bQ2 aw _ p i x _ w4 (bH.mono (b7 ad)) hr hw hi cY) ?_;rintro ud w5 ⟨cR,bk⟩;have bV:=ad.trans bk;have U:=dc4 (dS9 aS ay.size) cR;have ao:=bG.mono (I9 (N':=nP w.heap.size (.slice none 0 0)) bk (λ_ h=>h.elim) λb h=>.inl h);have ae:=ay.trans bk;rw[<-cX]at ae;have s5:=(PV.new a i q I J L M ae).2;have ap:=cr8 bV;generalize dV:w.heap.size=B at s5 U ao ap;generalize dR:B6 w5 (nP B (.slice none 0 0))=H0 at s5 U ao ap;obtain⟨cb,_⟩:=K7.vx_v (SV.ofN (i4 w2) (⟨q,1,0,Go.Proofs.YtfadjbljajfkfaaGreat.e0⟩:Vx)) ao;generalize(D5 (b9 p) i).decides=D at hF bN U;have cz:=U.isS;have cN:=U.vlen;clear l g;simp only[m8,o6,simprocAttr,cz,cN];refine n9 [0,1,5,6,41,42] (σ:=Nat×Value) (λt f o=>f 43 = .int .i64 t.1/\t.1<=D.length/\PE H0 w o B a i q I J L M t.2 ((D.take t.1).map (ag8 q))) (λt=>D.length-t.1) (0,.slice none 0 0) ?_ ?_
 ·simp only[p8,simprocAttr];exact⟨by trivial,dN6 _,by simpa using s5⟩
 clear s5;rintro⟨k,v⟩ f w5 hk ⟨aI,bf,s5⟩;simp only at aI bf s5;simp only[dM6,p8,simprocAttr]at hk;obtain⟨bz,e1,e5,e6,ct,cu,_⟩:=hk;simp only[m8,o6,simprocAttr,aI,cu];refine n7 (λhc=>?_) (λhc=>?_)
 ·have A:k<D.length:=by simpa using hc
  have l:=U.inS A;have g:=cN6 U s5.hb (dM4 A);have Q:=aJ1 (ag8 q) D A;have cH:((D.take k).map (ag8 q)).length<=1000000000:=by rw[dN4,dN9];omega
  generalize D[k]=d at g Q;obtain⟨c8,ei,w6,bE,bS,bl,bJ,dw⟩:=cV3 (w:=w5) d.1 d.2;have s6:=s5.more bl;have c7:=cb w6 s6.hb;obtain⟨ej,bF,aR⟩:=dw0 w6 ⟨q,1,0,Go.Proofs.YtfadjbljajfkfaaGreat.e0⟩;have az:=o7.alloc w6 (.cells (A0.cells (⟨q,1,0,Go.Proofs.YtfadjbljajfkfaaGreat.e0⟩:Vx)).toArray 26);have aK:=dQ5 w6 (.cells (A0.cells (⟨q,1,0,Go.Proofs.YtfadjbljajfkfaaGreat.e0⟩:Vx)).toArray 26);generalize w6.alloc (.cells (A0.cells (⟨q,1,0,Go.Proofs.YtfadjbljajfkfaaGreat.e0⟩:Vx)).toArray 26)=w7 at aR az aK;obtain⟨l8,_⟩:=ao9 bJ az id;simp only[cW0,o6,y0,simprocAttr,aI,ct,e6,l,g,bE,bS,c7,bF,aR,l8];refine bV7 [0,1,5,6,8,9,41,42,43] (λf' o=>o7 w6 o/\o.heap[w6.heap.size]?=some (.cells (A0.cells (ag8 q d).src).toArray 26 (0,0))) ?_ ?_
  ·rcases dM5 (decide (d.1=0))with h0|h0
   ·simp only[m8,o6,simprocAttr,h0];refine⟨az,?_⟩;unfold ag8;rw[if_pos (dM8 h0)];exact aK
   ·simp only[m8,o6,y0,simprocAttr,h0,e5,l8];refine B9 (J6 B _ _ q 2 d.1 Go.Proofs.YtfadjbljajfkfaaGreat.e0 w7 (s6.more az).cb rfl) (λr H=>?_);obtain⟨w9,q1,q2,q3⟩:=dJ9 (c:=w6.heap.size) ((H.block _ (dN0.1 aK).1 id).trans aK) ⟨q,2,d.1,Go.Proofs.YtfadjbljajfkfaaGreat.e0⟩;simp only[m8,simprocAttr,q1];refine⟨o9.ext_of (az.trans H) q3 λb hb=>by rw[hb];exact dO0 _,?_⟩;unfold ag8;rw[if_neg (dN2 h0)];exact q2
  rintro f8 r hk ⟨H,aO⟩;simp only[dM6,p8,simprocAttr]at hk;obtain⟨g0,g1,g5,g6,g8,g9,dL,dM,cw,_⟩:=hk;have S:=(s6.more H).more (o7.drew r);have t1:∀K f d' Z,F3 prog (λo=>o7 r.drew o) (Instr.loadAt 26 (.pointer (some ⟨w6.heap.size,0,none⟩))) K f d' Z=K (C4 f d' (.agg (A0.cells (ag8 q d).src).toArray)) Z:=λK f d' Z=>B7 (w0:=r.drew) (o9.refl _) λo h=>dH1 ((((o7.drew r).trans h).block _ (dN0.1 aO).1 id).trans aO);have t2:∀K f d' Z,F3 prog (λo=>o7 r.drew o) (Instr.loadAt 3 (.pointer (some ⟨c8,1,none⟩))) K f d' Z=K (C4 f d' (.int .i64 d.2)) Z:=λK f d' Z=>B7 (w0:=r.drew) (o9.refl _) λo h=>(ao9 bJ (H.trans ((o7.drew r).trans h)) id).2;simp only[m8,simprocAttr];refine C0 (λo=>o7 r.drew o) 6 (A5 [0,1,2,3,4,5]) ?_;simp only[D6,A5,m8,o6,y0,simprocAttr,g5,e5,g8,g9,t1,t2];refine B9 (J6 B _ _ q 2 d.2 Go.Proofs.YtfadjbljajfkfaaGreat.e0 r.drew S.cb rfl) (λw9 R=>⟨R,?_⟩);simp only[D6,m8,simprocAttr];refine y5 (aj2 H0 B a i q I J L M v _ (ag8 q d).src ⟨q,2,d.2,Go.Proofs.YtfadjbljajfkfaaGreat.e0⟩ 1 w w9 (S.more R) cH) ?_;rintro _ ak ⟨aD,F⟩;simp only[m8,o6,simprocAttr,cw,aI];refine⟨(k+1,aD),by omega,dO2 _ (B0 k (by omega)),by omega,?_⟩;simp only[];rw[Q];exact F
 have T:k=D.length:=by simp at hc;omega
 subst T;rw[dN8]at s5;have cD:B5 (i4 w) (i4 w5):=t8 ap s5.hb;clear bK bL lb lp ca aQ;simp only[m8,simprocAttr,bz,e1];refine y5 (aT8 a p i w5 (ha.mono cD) hr hw hi) ?_;rintro uv w6 ⟨cU,bl⟩;have s6:=s5.more bl;have ah:=s5.freshN cU;have b6:=s6.base;have s6:=s6.rebase (i5 _);generalize dS:B6 w6 (nP B v)=K2 at s6 ah b6;generalize(d9 p).verts (i:Int)=V at hF cL ah;have bB:(D.map (ag8 q)).length<=41000:=by rw[dN4];exact bN
 generalize D.map (ag8 q)=L1 at s6 hF bB;have cC:=ah.isS;have cQ:=ah.vlen;clear s5;simp only[m8,o6,simprocAttr,cC,cQ];refine n9 [0,1,5,6,65,66] (σ:=Nat×Value) (λt f o=>f 67 = .int .i64 t.1/\t.1<=V.length/\PE K2 w o B a i q I J L M t.2 (L1++(V.take t.1).flatMap (H8 q))) (λt=>V.length-t.1) (0,v) ?_ ?_
 ·simp only[p8,simprocAttr];exact⟨by trivial,dN6 _,by simpa using s6⟩
 clear s6;rintro⟨m,v2⟩ f2 w7 hk ⟨C,cK,s7⟩;simp only at C cK s7;simp only[dM6,p8,simprocAttr]at hk;obtain⟨a0,a1,a5,a6,am,cp,_⟩:=hk;rw[bz]at a0;rw[e1]at a1;rw[e5]at a5;rw[e6]at a6;have ar:(L1++(V.take m).flatMap (H8 q)).length<=80000:=by
  have h1:=N5 (H8 q) 1 (V.take m) λz _=>aY8 q z;rw[dN9]at h1;rw[dM7];have h2:min m V.length<=30000:=by omega
  omega
 simp only[m8,o6,simprocAttr,C,cp];refine n7 (λhc=>?_) (λhc=>?_)
 ·have A:m<V.length:=by simpa using hc
  have l:=ah.inS A;obtain⟨sv,s,g⟩:=F9 (P:=prog) (t:=26) ah (s7.hb) (dM4 A) at6 at9 an8 O9;rw[O9]at g;have Q:=H4 (H8 q) V A;generalize V[m]=y at s Q;obtain rfl:=s.N;obtain⟨d8,ek,r,N,O,H,aN⟩:=cu4 (s.mono s7.hb) (i5 _);obtain⟨dc,dg⟩:=aN.vx;obtain⟨sv,ax,dd,dh⟩:=aN.vx_v;obtain rfl:=ax.N;have l8:=dc r (i5 _);have ce:=dd r (i5 _);have S:=s7.more H;have b4:=cb r (t8 b6 S.hb);have aC:=S.more (o7.drew r);have t1:=dh (λo=>o7 r.drew o) r.drew (o9.refl _) λo h=>b7 ((o7.drew r).trans h);have t2:=dg (λo=>o7 r.drew o) r.drew (o9.refl _) λo h=>b7 ((o7.drew r).trans h);generalize bm:L1++(V.take m).flatMap (H8 q)=xs at s7 S aC ar;have E:L1++(V.take (m+1)).flatMap (H8 q)=xs++H8 q y:=by rw[Q,<-bm,dP5]
  rcases dM5 (decide (y.kind=3))with h3|h3
  ·have hs:H8 q y=[⟨⟨q,1,0,Go.Proofs.YtfadjbljajfkfaaGreat.e0⟩,y,1⟩]:=by unfold H8;rw[if_pos (.inl (dM8 h3))]
   simp only[m8,o6,y0,simprocAttr,C,am,l,g,N,O,l8,h3,a5,a6,b4,ce];refine y5 (aj2 K2 B a i q I J L M v2 _ ⟨q,1,0,Go.Proofs.YtfadjbljajfkfaaGreat.e0⟩ y 1 w r S (by omega)) ?_;rintro _ w9 ⟨v9,Y⟩;simp only[m8,o6,simprocAttr,C];refine⟨(m+1,v9),by omega,dO2 _ (B0 m (by omega)),by omega,?_⟩;simp only[];rw[E,hs];exact Y
  rcases dM5 (decide (y.kind=4))with h4|h4
  ·have hs:H8 q y=[⟨⟨q,1,0,Go.Proofs.YtfadjbljajfkfaaGreat.e0⟩,y,1⟩]:=by unfold H8;rw[if_pos (.inr (dM8 h4))]
   simp only[m8,o6,y0,simprocAttr,C,am,l,g,N,O,l8,h3,h4,a5,a6,b4,ce];refine y5 (aj2 K2 B a i q I J L M v2 _ ⟨q,1,0,Go.Proofs.YtfadjbljajfkfaaGreat.e0⟩ y 1 w r S (by omega)) ?_;rintro _ w9 ⟨v9,Y⟩;simp only[m8,o6,simprocAttr,C];refine⟨(m+1,v9),by omega,dO2 _ (B0 m (by omega)),by omega,?_⟩;simp only[];rw[E,hs];exact Y
  have av:¬(y.kind=3\/y.kind=4):=λh=>h.elim (dN2 h3) (dN2 h4);rcases dM5 (decide (y.kind=5))with h5|h5
  ·have hs:H8 q y=[⟨⟨q,2,y.id,Go.Proofs.YtfadjbljajfkfaaGreat.e0⟩,y,1⟩]:=by unfold H8;rw[if_neg av,if_pos (.inl (dM8 h5))]
   simp only[m8,o6,y0,simprocAttr,C,am,l,g,N,O,l8,h3,h4,h5];refine C0 (λo=>o7 r.drew o) 6 (A5 [0,1,2,3,5,4]) ?_;simp only[D6,A5,m8,o6,simprocAttr,a5,t1,t2];refine B9 (J6 B _ _ q 2 y.id Go.Proofs.YtfadjbljajfkfaaGreat.e0 r.drew aC.cb rfl) (λw9 R=>⟨R,?_⟩);simp only[D6,m8,simprocAttr];refine y5 (aj2 K2 B a i q I J L M v2 _ ⟨q,2,y.id,Go.Proofs.YtfadjbljajfkfaaGreat.e0⟩ y 1 w w9 (aC.more R) (by omega)) ?_;rintro _ ak ⟨aD,F⟩;simp only[m8,o6,simprocAttr,C];refine⟨(m+1,aD),by omega,dO2 _ (B0 m (by omega)),by omega,?_⟩;simp only[];rw[E,hs];exact F
  rcases dM5 (decide (y.kind=6))with h6|h6
  ·have hs:H8 q y=[⟨⟨q,2,y.id,Go.Proofs.YtfadjbljajfkfaaGreat.e0⟩,y,1⟩]:=by unfold H8;rw[if_neg av,if_pos (.inr (dM8 h6))]
   simp only[m8,o6,y0,simprocAttr,C,am,l,g,N,O,l8,h3,h4,h5,h6];refine C0 (λo=>o7 r.drew o) 6 (A5 [0,1,2,3,5,4]) ?_;simp only[D6,A5,m8,o6,simprocAttr,a5,t1,t2];refine B9 (J6 B _ _ q 2 y.id Go.Proofs.YtfadjbljajfkfaaGreat.e0 r.drew aC.cb rfl) (λw9 R=>⟨R,?_⟩);simp only[D6,m8,simprocAttr];refine y5 (aj2 K2 B a i q I J L M v2 _ ⟨q,2,y.id,Go.Proofs.YtfadjbljajfkfaaGreat.e0⟩ y 1 w w9 (aC.more R) (by omega)) ?_;rintro _ ak ⟨aD,F⟩;simp only[m8,o6,simprocAttr,C];refine⟨(m+1,aD),by omega,dO2 _ (B0 m (by omega)),by omega,?_⟩;simp only[];rw[E,hs];exact F
  have hs:H8 q y=[]:=by
   unfold H8;rw[if_neg av,if_neg λh=>h.elim (dN2 h5) (dN2 h6)]
  simp only[m8,o6,y0,simprocAttr,C,am,l,g,N,O,l8,h3,h4,h5,h6];refine⟨(m+1,v2),by omega,dO2 _ (B0 m (by omega)),by omega,?_⟩;simp only[];rw[E,hs,dP8];exact S
 have T:m=V.length:=by simp at hc;omega
 subst T;rw[dN8]at s7 ar;have cE:B5 (i4 w) (i4 w7):=t8 ap (t8 b6 s7.hb);simp only[m8,simprocAttr,a0,a1];refine y5 (cw0 a p i w7 (ha.mono cE) hr hw hi) ?_;rintro uf r ⟨cS,H⟩;have S:=s7.more H;have af:=s7.freshN cS;have b8:=t8 b6 S.base;have S:=S.rebase (i5 _);generalize dT:B6 r (nP B v2)=K3 at S af b8;generalize(d9 p).flows (i:Int)=Fl at hF cM be af;generalize L1++V.flatMap (H8 q)=L2 at S hF ar;generalize hG:(λf:Fw=>((d9 p).takers q f.dst f.var).map λv=>(⟨(d9 p).giver q f.src f.var,v,2⟩:Eg))=G at hF;have bA:∀f:Fw,G f=((d9 p).takers q f.dst f.var).map λv=>(⟨(d9 p).giver q f.src f.var,v,2⟩:Eg):=λf=>by rw[<-hG]
 have cy:∀f∈Fl,(G f).length<=9:=λf hf=>by
  rw[bA,dN4];exact aS6 hr hw (be f hf).2
 have cA:=af.isS;have cO:=af.vlen;clear s7 hG;simp only[m8,o6,simprocAttr,cA,cO];refine n9 [0,1,5,6,93,94] (σ:=Nat×Value) (λt f o=>f 95 = .int .i64 t.1/\t.1<=Fl.length/\PE K3 w o B a i q I J L M t.2 (L2++(Fl.take t.1).flatMap G)) (λt=>Fl.length-t.1) (0,v2) ?_ ?_
 ·simp only[p8,simprocAttr];exact⟨by trivial,dN6 _,by simpa using S⟩
 clear S;rintro⟨k,v3⟩ f3 w9 hk ⟨aJ,bf,Y⟩;simp only at aJ bf Y;simp only[dM6,p8,simprocAttr]at hk;obtain⟨b0,b1,b5,dG,cq,cr,_⟩:=hk;rw[a5]at b5;have aP:(L2++(Fl.take k).flatMap G).length<=50000000:=by
  have h1:=N5 G 9 (Fl.take k) λz hz=>cy z (dU2 hz);rw[dN9]at h1;rw[dM7];have h2:min k Fl.length<=5000000:=by omega
  omega
 have bb:B5 (i4 w) K3:=t8 ap b8;simp only[m8,o6,simprocAttr,aJ,cr];refine n7 (λhc=>?_) (λhc=>?_);rotate_left
 ·have T:k=Fl.length:=by simp at hc;omega
  subst T;rw[dN8]at Y aP;have l9:(Instr.loadAt 55 (.pointer (some ⟨B,8,none⟩))).run prog w9 = .ok v3 w9:=E2 (i:=8) (u:=v3) Y.cb rfl bk9;simp only[m8,o6,simprocAttr,b5,l9];refine y5 (aQ2 Y.ox (by omega) (B2 _ _)) ?_;rintro u ak ⟨bO,bM,_⟩;simp only[m8,simprocAttr];refine o8 results78 ?_;simp only[p8,simprocAttr];refine⟨?_,o9.ext_of Y.ext bM λb hb=>(Y.dx b hb).1⟩;have e:(d9 p).edges (i:Int)=aw4 (L2++Fl.flatMap G):=by unfold Bk.edges;rw[hF]
  rw[e];exact bO.downN (t8 bb Y.base)
 have A:k<Fl.length:=by simpa using hc
 have l:=af.inS A;obtain⟨sv,s,g⟩:=F9 (P:=prog) (t:=210) af (Y.hb) (dM4 A) cS7 cT9 cm0 by2;rw[by2]at g;have Q:=H4 G Fl A;obtain⟨bQ,bg⟩:=be _ (dN5 A);generalize Fl[k]=fl at s Q bQ bg;obtain⟨dI,dC,ak,a2,bh,bW,a7⟩:=df0 (s.mono Y.hb) (i5 _);obtain⟨cd,_⟩:=a7.fw;have c5:=cd ak (i5 _);have F:=Y.more bW;simp only[m8,o6,y0,simprocAttr,aJ,cq,l,g,a2,bh,c5,b5];refine B9 (cA0 B _ _ a p q fl.src fl.var ak F.cb rfl rfl (ha.mono (t8 bb F.hb)) hr hw bQ) (λbp aU=>?_);have bn:=F.more aU;have aZ:=bA fl;generalize(d9 p).giver q fl.src fl.var=gv at aZ;obtain⟨dJ,dD,ch,a3,bi,aV,a8⟩:=aw0 (w:=bp) (nP B v3) (SV.ofN (i4 bp) gv) λb hb=>bn.lt hb;have aA:=bn.more aV;have c6:=cd ch (b7 (aU.trans aV));simp only[m8,o6,simprocAttr,a3,bi,c6,b5];refine y5 (cl2 B _ _ a p q fl.dst fl.var ch aA.cb rfl rfl (ha.mono (t8 bb aA.hb)) hr hw bg) ?_;rintro ut dk ⟨cT,aW⟩;have W:=aA.more aW;have ag:=aA.freshN cT;have an:=a8.mono (I9 (N':=nP B v3) aW (λ_ h=>h.elim) λb h=>.inl h);have bw:=W.base;have W:=W.rebase (i5 _);generalize dU:B6 dk (nP B v3)=K4 at W ag an bw;obtain⟨c9,_⟩:=K7.vx_v (SV.ofN (i4 bp) gv) an;have cW:=aS6 hr hw (q:=q) (n:=fl.var) bg;generalize(d9 p).takers q fl.dst fl.var=Tk at aZ ag cW;generalize bm:L2++(Fl.take k).flatMap G=xs at W aP;have E:L2++(Fl.take (k+1)).flatMap G=xs++Tk.map λv=>(⟨gv,v,2⟩:Eg):=by rw[Q,aZ,<-bm,dP5]
 have cB:=ag.isS;have cP:=ag.vlen;clear Y F bn aA;simp only[m8,o6,simprocAttr,cB,cP];refine n9 [0,1,5,6,14,93,94,95,110,111] (σ:=Nat×Value) (λt f o=>f 112 = .int .i64 t.1/\t.1<=Tk.length/\PE K4 w o B a i q I J L M t.2 (xs++(Tk.take t.1).map λv=>(⟨gv,v,2⟩:Eg))) (λt=>Tk.length-t.1) (0,v3) ?_ ?_
 ·simp only[p8,simprocAttr];exact⟨by trivial,dN6 _,by simpa using W⟩
 clear W;rintro⟨j,v4⟩ f4 eg hk ⟨aa,cJ,X⟩;simp only at aa cJ X;simp only[dM6,p8,simprocAttr]at hk;obtain⟨j0,j1,j5,j6,c0,d1,d2,b3,bZ,b2,_⟩:=hk;rw[b5]at j5;rw[aJ]at b3;simp only[m8,o6,simprocAttr,aa,b2];refine n7 (λbc=>?_) (λbc=>?_);rotate_left
 ·have T:j=Tk.length:=by simp at bc;omega
  subst T;rw[dN8]at X;simp only[m8,o6,simprocAttr,b3];refine⟨(k+1,v4),by omega,dO2 _ (B0 k (by omega)),by omega,?_⟩;simp only[];rw[E];exact X.rebase (t8 bw X.base)
 have au:j<Tk.length:=by simpa using bc
 clear l g s;have l:=ag.inS au;obtain⟨sv,s,g⟩:=F9 (P:=prog) (t:=26) ag (X.hb) (dM4 au) at6 at9 an8 O9;rw[O9]at g;have aT:=aJ1 (λv=>(⟨gv,v,2⟩:Eg)) Tk au;have bd:(xs++(Tk.take j).map λv=>(⟨gv,v,2⟩:Eg)).length<=1000000000:=by
  rw[dM7,dN4,dN9];omega
 generalize Tk[j]=tv at s aT;obtain rfl:=s.N;obtain⟨dK,dE,bq,a4,bj,ae,a9⟩:=cu4 (s.mono X.hb) (i5 _);obtain⟨sv,ax,db,_⟩:=a9.vx_v;obtain rfl:=ax.N;have cf:=X.more ae;have lg:=c9 bq cf.hb;have lt:=db bq (i5 _);simp only[m8,o6,y0,simprocAttr,aa,bZ,l,g,a4,bj,j5,c0,lg,lt];refine y5 (aj2 K4 B a i q I J L M v4 _ gv tv 2 w bq cf bd) ?_;rintro _ eh ⟨di,df⟩;simp only[m8,o6,simprocAttr,aa];refine⟨(j+1,di),by omega,dO2 _ (B0 j (by omega)),by omega,?_⟩;simp only[];rw[aT,<-dP5];exact df
def cO9(x:Option Addr):B4 prog .eql 87 (.pointer x) (.pointer none)=some (.bool x.isNone):=aU1 rfl (by kernel_rfl)
def bC8{p:Pg}{i:Nat}(b:D4 p)(hw:C5 p<=1000000)(a:i<p.procs.length):((d9 p).edges (i:Int)).length<=60000000:=by
 have e:=bh0 b hw a;have g:(((d9 p).verts (i:Int)).flatMap (H8 p.procs[i].name)).length<=((d9 p).verts (i:Int)).length*1:=N5 _ 1 _ λv _=>aY8 _ v;have h:=aN9 b hw a;have j:=bD0 b hw a;have k:(((d9 p).flows (i:Int)).flatMap λf=>((d9 p).takers p.procs[i].name f.dst f.var).map λv=>(⟨(d9 p).giver p.procs[i].name f.src f.var,v,2⟩:Eg)).length<=((d9 p).flows (i:Int)).length*9:=N5 _ 9 _ λf d=>by
  rw[dN4];exact aS6 b hw (bh8 b hw a d).2
 have c:(d9 p).edge0 (i:Int)=(D5 (b9 p) i).decides.map (ag8 p.procs[i].name)++((d9 p).verts (i:Int)).flatMap (H8 p.procs[i].name)++((d9 p).flows (i:Int)).flatMap λf=>((d9 p).takers p.procs[i].name f.dst f.var).map λv=>(⟨(d9 p).giver p.procs[i].name f.src f.var,v,2⟩:Eg):=by
  unfold Bk.edge0;rw[Q5 a,L8 a]
 unfold Bk.edges aw4;refine dN1 (ap8 _) ?_;rw[(F5 cy7 _).length_eq,c];simp only[dM7,dN4]at *;omega
section
variable {p:Pg}
def aB0(K:Known p){n:A6}(hn:n∈p.procs.map (·.name)):∀x∈(d9 p).calledBy n,x∈p.procs.map (·.name):=by
 intro x c;obtain⟨i,f,e,h⟩:=Q9 hn;unfold Bk.calledBy at c;rw[dO7]at c;obtain⟨it,a,rfl⟩:=c;rw[dP2]at a;have g:(d9 p).s=b9 p:=rfl;rw[g,e]at a;have d:it.s.kind=4:=by
  have:=a.2;rw[dO8]at this;exact dM8 this.1
 have b:=(K.proc i f).2.2 it a.1;unfold ae0 at b;simp only[d,decide_true,Bool.not_true,dZ4,dO8,dO5]at b
 first
 | exact b.2.1.2
 | exact b.2.2
 | exact b.1.2.2
 | simp_all
def aR1(K:Known p):J8∈p.procs.map (·.name):=by
 obtain⟨i,q,b,a,_⟩:=K.main;exact dO7.2 ⟨q,dO4 b,a⟩
def bv1(K:Known p):(P4 (d9 p).calledBy 1000 0 [J8]).Nodup/\∀n∈P4 (d9 p).calledBy 1000 0 [J8],n∈p.procs.map (·.name):=
 aB1 (λm hm=>aB0 K hm) 1000 0 [J8] (by simp) (λx a=>by simp at a;subst a;exact aR1 K)
def aW3:J8∈(d9 p).reached:=W5.2 (aQ4 _ _ _ _ _ (by simp))
def aX9(K:Known p){n:A6}(hn:n∈(d9 p).reached):n∈p.procs.map (·.name):=(bv1 K).2 n (W5.1 hn)
def aP1(K:Known p):(d9 p).reached.Nodup:=(T0 _).nodup_iff.2 (bv1 K).1
def bN7(K:Known p):(d9 p).reached.Pairwise λa b=>ltS a b=true:=by
 refine((ao8 _).and (aP1 K)).imp fun{a b} ⟨h1,h2⟩=>?_;refine dV4 λh=>h2 ?_;have c:ltS a b=false:=by simpa using h
 exact bM2 c (W3.2 h1)
theorem cE9{b:Bk}{i:Int}{v:Vx}(h:v∈b.verts i):v.proc=(b.s.fn i).name:=by
 rcases O8.1 (aM4.1 h)with rfl|⟨_,_,rfl⟩|⟨_,_,rfl⟩|⟨_,_,rfl|⟨_,⟨_,_,rfl⟩|⟨_,_,rfl⟩⟩⟩<;>rfl
def ci1{v:Vx}:v∈(d9 p).wv↔∃n∈(d9 p).reached,v∈(d9 p).verts ((d9 p).s.pr n):=dQ0
def Z4(K:Known p){n:A6}(hn:n∈(d9 p).reached):∃(i:Nat) (a:i<p.procs.length),(d9 p).s.pr n=(i:Int)/\((d9 p).s.fn (i:Int)).name=n:=by
 obtain⟨i,a,e,b⟩:=Q9 (aX9 K hn);exact⟨i,a,e,by rw[Q5 a,b]⟩
def aw6(K:Known p){n:A6}(hn:n∈(d9 p).reached){v:Vx}(hv:v∈(d9 p).verts ((d9 p).s.pr n)):v.proc=n:=by
 obtain⟨i,b,e,a⟩:=Z4 K hn;rw[cE9 hv,e,a]
def ch6{a b:Vx}(h:ltS a.proc b.proc=true):aW0 a b=true:=by
 unfold aW0;rw[if_pos (λe=>by rw[e,L5]at h;cases h)];exact h
def cO0{a b:Vx}(h:aW0 a b=true):a≠b:=by
 rintro rfl;rw[bW1,cV6]at h;simp at h
def dg2(c:D4 p)(hw:C5 p<=1000000):(d9 p).wv.Pairwise λu v=>aW0 u v=true:=by
 have K:=c.toKnown;unfold Bk.wv;rw[List.pairwise_flatMap];refine⟨λn f=>?_,?_⟩
 ·obtain⟨i,d,e,_⟩:=Z4 K f;obtain⟨x,g⟩:=J5 c.may hw i d;rw[e];exact cm8 (cc1 c hw d g)
 ·refine List.Pairwise.imp_of_mem (fun{a b} ha hb hlt x hx y hy=>?_) (bN7 K);exact ch6 (by rw[aw6 K ha hx,aw6 K hb hy];exact hlt)
def au3(a:D4 p)(hw:C5 p<=1000000):(d9 p).wv.Nodup:=(dg2 a hw).imp λh=>cO0 h
def dg1(K:Known p):(⟨J8,1,0,e0⟩:Vx)∈(d9 p).wv:=by
 obtain⟨i,b,e,a⟩:=Z4 K aW3;exact ci1.2 ⟨J8,aW3,by rw[e];exact aM4.2 (O8.2 (.inl (by rw[a])))⟩
def aw9(K:Known p):0<(d9 p).wv.length:=List.length_pos_of_mem (dg1 K)
end
theorem aJ6{V:List Vx}:∀{b:List Vx} {l:List Int},P7 V b=some l->(∀v∈b,v∈V)/\l=b.map λv=>((E9 V v:Nat):Int)
 | [],l,h=>by
  simp only[P7,dX0]at h;subst h;simp
 | v::b,l,h=>by
  rw[P7]at h;cases ha:atV V v with
  | none=>rw[ha]at h;simp at h
  | some a=>
   cases hb:P7 V b with
   | none=>rw[ha,hb]at h;simp at h
   | some r=>
    rw[ha,hb]at h;simp only[dX0]at h;subst h;obtain⟨d,e⟩:=aJ6 hb;refine⟨λu c=>?_,?_⟩
    ·rcases dO6.1 c with rfl|c
     ·exact ag3.1 (by rw[ha];rfl)
     ·exact d u c
    ·rw[dQ8,<-e];unfold E9;rw[ha];rfl
def aM6{V:List Vx}:∀{b:List Vx},P7 V b=none↔∃v∈b,v∉V
 | []=>by simp[P7]
 | v::b=>by
  rw[P7];cases ha:atV V v with
  | none=>
   have c:v∉V:=λh=>by have:=ag3.2 h;rw[ha]at this;cases this
   simp[c]
  | some a=>
   have c:v∈V:=ag3.1 (by rw[ha];rfl);cases hb:P7 V b with
   | none=>simpa[c]using aM6.1 hb
   | some r=>
    have:¬∃u∈b,u∉V:=λh=>by rw[aM6.2 h]at hb;cases hb
    simp only[not_exists,not_and,Classical.not_not]at this;simp[c];exact this
def aJ4{V:List Vx}{v:Vx}(h:v∈V):V[E9 V v]?=some v:=by
 obtain⟨a,b⟩:=dS1.1 (ag3.2 h);have:=aU0 b;unfold E9;rw[b];exact this
theorem cs5{V:List Vx}(hn:V.Nodup){v:Vx}{a:Nat}(h:V[a]?=some v):E9 V v=a:=by
 unfold E9;rw[cY0 hn h];rfl
def bu3{V:List Vx}{S:List Bool}{v:Vx}:v∈J4 V S↔∃i:Int,A7 S i=true/\V[i.toNat]?=some v:=by
 unfold J4;rw[List.mem_filterMap];exact⟨λ⟨i,a,b⟩=>⟨i,al9.1 a,b⟩,λ⟨i,a,b⟩=>⟨i,al9.2 a,b⟩⟩
def bE3{V:List Vx}{S:List Bool}{v:Vx}(h:v∈J4 V S):v∈V:=by
 obtain⟨i,_,h⟩:=bu3.1 h;exact dO4 h
def aC2{V:List Vx}(hn:V.Nodup){S:List Bool}{v:Vx}(hv:v∈V):v∈J4 V S↔A7 S ((E9 V v:Nat):Int)=true:=by
 rw[bu3];constructor
 ·rintro⟨i,a,b⟩;have c:=cs5 hn b;have:=B3.1 (Y6 a);have e:((E9 V v:Nat):Int)=i:=by omega
  rw[e];exact a
 ·exact λh=>⟨_,h,by rw[dP0];exact aJ4 hv⟩
section
variable {p:Pg} {vs:List Vx} {l:List Int} {v w:Vx}
def cW9(p:Pg)(v u:Vx):Prop:=dk7 (d9 p).wv (d9 p).all (E9 (d9 p).wv v) (E9 (d9 p).wv u)
def aM2{V:List Vx}(a:0<V.length){vs:List Vx}{l:List Int}(h:P7 V vs=some l){b:Int}:A7 (U5 V.length l) b=true↔∃u∈vs,((E9 V u:Nat):Int)=b:=by
 rw[ay5,(aJ6 h).2,dO7];constructor
 ·exact λc=>c.2
 ·rintro⟨u,d,rfl⟩;exact⟨aJ5 a u,u,d,rfl⟩
def bR3(e:D4 p)(hw:C5 p<=1000000)(h:P7 (d9 p).wv vs=some l):v∈J4 (d9 p).wv ((d9 p).backB l)↔v∈(d9 p).wv/\∃u∈vs,cW9 p v u:=by
 have a:=aw9 e.toKnown;constructor
 ·intro c;have hm:=bE3 c;rw[aC2 (au3 e hw) hm]at c;unfold Bk.backB at c;obtain⟨b,g,d⟩:=(bR2 a G9).1 c;obtain⟨u,f,rfl⟩:=(aM2 a h).1 g;exact⟨hm,u,f,d⟩
 ·rintro⟨hm,u,f,d⟩;rw[aC2 (au3 e hw) hm];exact(bR2 a G9).2 ⟨_,(aM2 a h).2 ⟨u,f,rfl⟩,d⟩
def bU3(e:D4 p)(hw:C5 p<=1000000)(h:P7 (d9 p).wv vs=some l):v∈J4 (d9 p).wv ((d9 p).forwB l)↔v∈(d9 p).wv/\∃u∈vs,cW9 p u v:=by
 have a:=aw9 e.toKnown;constructor
 ·intro c;have hm:=bE3 c;rw[aC2 (au3 e hw) hm]at c;unfold Bk.forwB at c;obtain⟨b,g,d⟩:=(bU2 a G9).1 c;obtain⟨u,f,rfl⟩:=(aM2 a h).1 g;exact⟨hm,u,f,d⟩
 ·rintro⟨hm,u,f,d⟩;rw[aC2 (au3 e hw) hm];exact(bU2 a G9).2 ⟨_,(aM2 a h).2 ⟨u,f,rfl⟩,d⟩
def cW9.self(p:Pg)(v:Vx):cW9 p v v:=⟨_,.refl,.refl⟩
def ck0(b:D4 p)(hw:C5 p<=1000000)(hv:∀u∈vs,u∈(d9 p).wv):∃l,P7 (d9 p).wv vs=some l/\(∀u∈vs,u∈J4 (d9 p).wv ((d9 p).backB l))/\∀u∈vs,u∈J4 (d9 p).wv ((d9 p).forwB l):=by
 cases h:P7 (d9 p).wv vs with
 | none=>obtain⟨u,c,d⟩:=aM6.1 h;exact absurd (hv u c) d
 | some l=>exact⟨l,rfl,λu a=>(bR3 b hw h).2 ⟨hv u a,u,a,.self p u⟩,λu a=>(bU3 b hw h).2 ⟨hv u a,u,a,.self p u⟩⟩
def bO1{k:List Int}(b:D4 p)(hw:C5 p<=1000000)(h:P7 (d9 p).wv [w]=some l)(a:P7 (d9 p).wv [v]=some k):
  v∈J4 (d9 p).wv ((d9 p).backB l)↔w∈J4 (d9 p).wv ((d9 p).forwB k):=by
 rw[bR3 b hw h,bU3 b hw a];have c:=(aJ6 h).1 w (by simp);have d:=(aJ6 a).1 v (by simp);simp[c,d]
end
section
variable {p:Pg}
def dH0(hm:N2 p=true)(hw:C5 p<=1000000){it:It}(h:it∈(b9 p).l):∃(i:Nat) (o:i<p.procs.length),it∈(b9 p).of i:=by
 have g:=h;unfold b9 at h;rcases be1 _ _ _ _ h with h|⟨k,a,x,h⟩
 ·simp at h
 obtain⟨y,j,e⟩:=V9 p hw k a;have l:it.s∈((b9 p).of k).map (·.s):=by
  rw[e,ah0 _ y x _ _ _ _ ((0+k:Nat):Int) 0 (-1) 0];exact dO7.2 ⟨it,h,rfl⟩
 obtain⟨m,c,f⟩:=dO7.1 l;obtain⟨z,n⟩:=J5 hm hw k a;have d:=(bs9 hm g).2.1;have b:=(bs9 hm (aR4 n c)).2.1;rw[f,d]at b;exact⟨k,a,by rw[b];exact c⟩
def co2(hm:N2 p=true)(hw:C5 p<=1000000){id:Int}(e:1<=id)(f:id<=(b9 p).l.length):∃(i:Nat) (a:i<p.procs.length),(b9 p).it id∈(b9 p).of i/\((b9 p).it id).proc=(i:Int)/\((b9 p).it id).s.id=id:=by
 have c:(id-1).toNat<(b9 p).l.length:=by omega
 have d:(b9 p).l[(id-1).toNat]?=some ((b9 p).it id):=by
  unfold Sh.it;rw[List.getD_eq_getElem?_getD,dM4 c];rfl
 have b:=az4 hm _ _ d;obtain⟨i,a,h⟩:=dH0 hm hw (dO4 d);exact⟨i,a,h,aW8 p hw i a _ h,by rw[b];omega⟩
end
section
variable {p:Pg} {v:Vx} {e:Eg}
def dn1:e∈(d9 p).we↔e∈(d9 p).we0:=by
 unfold Bk.we aw4;rw[ai8,(F5 cy7 _).mem_iff]
def cu9(K:Known p)(hv:v∈(d9 p).wv):∃(i:Nat) (a:i<p.procs.length),p.procs[i].name∈(d9 p).reached/\v.proc=p.procs[i].name/\v∈(d9 p).vert0 (i:Int):=by
 obtain⟨n,b,hv⟩:=ci1.1 hv;obtain⟨i,a,e,c⟩:=Z4 K b;have d:=aw6 K b hv;rw[Q5 a]at c;rw[e]at hv;exact⟨i,a,by rw[c];exact b,by rw[d,c],aM4.1 hv⟩
def cA6{n:A6}{c:Nat}(b:c<p.procs.length)(h:ac4 p.procs n=(c:Int)):p.procs[c].name=n:=by
 obtain⟨k,e,x,a,d⟩:=aI5 _ p.procs 0 (by unfold ac4 at h;rw[h];omega);unfold ac4 at h;rw[h]at e;obtain rfl:c=k:=by omega
 rw[dM4 b]at a;obtain rfl:=dO3 a;simpa using d
def bN3(K:Known p){i:Nat}(g:i<p.procs.length):(d9 p).s.pr p.procs[i].name=(i:Int):=by
 obtain⟨k,l,e,m⟩:=Q9 (dO7.2 ⟨_,dN5 g,rfl⟩:p.procs[i].name∈p.procs.map (·.name));have f:k=i:=by
  have d:=dT5.1 K.names;have c:k<(p.procs.map (·.name)).length:=by simpa using l
  have b:i<(p.procs.map (·.name)).length:=by simpa using g
  have a:(p.procs.map (·.name))[k]=(p.procs.map (·.name))[i]:=by rw[dT4,dT4];exact m
  rcases Nat.lt_trichotomy k i with h|h|h
  ·exact absurd a (d k i c b h)
  ·exact h
  ·exact absurd a.symm (d i k b c h)
 have j:(d9 p).s.pr p.procs[i].name=(k:Int):=e;rw[j,f]
def cc7(K:Known p){i:Nat}(a:i<p.procs.length)(b:p.procs[i].name∈(d9 p).reached)(h:v∈(d9 p).vert0 (i:Int)):v∈(d9 p).wv:=
 ci1.2 ⟨_,b,by rw[bN3 K a];exact aM4.2 h⟩
structure cd3 (p:Pg) (i:Nat) (v:Vx):Prop where
 mem:(b9 p).it v.id∈(b9 p).of i
 id:((b9 p).it v.id).s.id=v.id
 st:v.kind=2->v.slot=e0
 call:v.kind≠2->((b9 p).it v.id).s.kind=4
 sin:v.kind=5->v.slot∈(d9 p).slotsIn ((d9 p).s.pr ((b9 p).it v.id).s.proc)
 out:v.kind=6->v.slot∈(d9 p).callOut ((b9 p).it v.id).s
def bn6(hm:N2 p=true)(hw:C5 p<=1000000){i:Nat}(g:i<p.procs.length)(h:v∈(d9 p).vert0 (i:Int))(b:v.kind=2\/v.kind=5\/v.kind=6):cd3 p i v:=by
 obtain⟨y,k⟩:=J5 hm hw i g;have j:(d9 p).s=b9 p:=rfl;rcases O8.1 h with rfl|⟨_,_,rfl⟩|⟨_,_,rfl⟩|⟨it,a,f⟩
 ·simp at b
 ·simp at b
 ·simp at b
 rw[j]at a;have e:=(bs9 hm (aR4 k a)).2.1;rcases f with rfl|⟨d,⟨n,c,rfl⟩|⟨n,c,rfl⟩⟩
 ·exact⟨by rw[e];exact a,by rw[e],λ_=>rfl,λh=>absurd rfl h,λh=>by simp at h,λh=>by simp at h⟩
 ·exact⟨by rw[e];exact a,by rw[e],λh=>by simp at h,λ_=>by rw[e];exact d,λ_=>by rw[e];exact c,λh=>by simp at h⟩
 ·exact⟨by rw[e];exact a,by rw[e],λh=>by simp at h,λ_=>by rw[e];exact d,λh=>by simp at h,λ_=>by rw[e];exact c⟩
def bz5(a:D4 p){n x:A6}(hn:n∈(d9 p).reached)(d:x∈(d9 p).calledBy n):x∈(d9 p).reached:=by
 have K:=a.toKnown;refine W5.2 (aw2 (λm hm=>aB0 K hm) 1000 0 [J8] (by simp) (λy b=>by simp at b;subst b;exact aR1 K) ?_ (dN6 _) (λk y c=>absurd c (Nat.not_lt_zero _)) n (W5.1 hn) x d);have:=(W2 a.may).2;simp only[dN4];omega
theorem cZ1(e:D4 p)(hw:C5 p<=1000000){i:Nat}(f:i<p.procs.length)(hn:p.procs[i].name∈(d9 p).reached)(hv:cd3 p i v)(a:(d9 p).isCall v.id=true):
  ∃(c:Nat) (a:c<p.procs.length),aw1 p ((b9 p).it v.id).s c/\((b9 p).it v.id).s.proc=p.procs[c].name/\p.procs[c].name∈(d9 p).reached/\(d9 p).s.pr ((b9 p).it v.id).s.proc=(c:Int):=by
 have j:(d9 p).s=b9 p:=rfl;obtain⟨y,k⟩:=J5 e.may hw i f;unfold Bk.isCall at a;rw[j,aW8 p hw i f _ hv.mem,dO8]at a;have h:=dM8 a.1;obtain⟨c,d⟩:=U6 (e.fits _ (aR4 k hv.mem) h);have g:(d9 p).s.pr ((b9 p).it v.id).s.proc=(c:Int):=d.pr;have b:=(cA6 d.lt d.idx).symm;refine⟨c,d.lt,d,b,?_,g⟩;rw[<-b];refine bz5 e hn ?_;unfold Bk.calledBy;refine dO7.2 ⟨(b9 p).it v.id,dP2.2 ⟨?_,?_⟩,rfl⟩
 ·rw[bN3 e.toKnown f];exact hv.mem
 ·rw[bN3 e.toKnown f,hv.id,h,a.2];rfl
structure dg3 (p:Pg) (v:Vx) (e:Eg):Prop where
 mem:v∈(d9 p).wv
 src:e.src∈(d9 p).wv
 dst:e.dst∈(d9 p).wv
 kind:(e.kind=4/\e.src=v/\v.kind=2/\e.dst=⟨((b9 p).it v.id).s.proc,1,0,e0⟩)\/(e.kind=5/\e.src=v/\v.kind=5/\e.dst=⟨((b9 p).it v.id).s.proc,3,0,v.slot⟩) \/
  (e.kind=6/\e.dst=v/\v.kind=6/\e.src=⟨((b9 p).it v.id).s.proc,4,0,v.slot⟩)
def db6(m:D4 p)(hw:C5 p<=1000000)(hv:v∈(d9 p).wv)(d:e∈(d9 p).joinOf v):dg3 p v e:=by
 have K:=m.toKnown;have u:(d9 p).s=b9 p:=rfl;unfold Bk.joinOf at d;rw[u]at d;split at d
 ·simp at d
 next r=>
 have q:(d9 p).isCall v.id=true:=by
  cases h:(d9 p).isCall v.id with
  | true=>rfl
  | false=>exact absurd (.inr h) r
 obtain⟨i,o,t,w,k⟩:=cu9 K hv;have n:(v.kind=2\/v.kind=5\/v.kind=6)->cd3 p i v/\∃(c:Nat) (q:c<p.procs.length),aw1 p ((b9 p).it v.id).s c/\((b9 p).it v.id).s.proc=p.procs[c].name/\p.procs[c].name∈(d9 p).reached/\(d9 p).s.pr ((b9 p).it v.id).s.proc=(c:Int):=λb=>
  ⟨bn6 m.may hw o k b,cZ1 m hw o t (bn6 m.may hw o k b) q⟩
 split at d
 ·next b=>
  obtain⟨f,c,a,_,g,j,l⟩:=n (.inl b);obtain rfl:=dP1.1 d;refine⟨hv,hv,?_,.inl ⟨rfl,rfl,b,rfl⟩⟩;exact cc7 K a j (O8.2 (.inl (by rw[Q5 a,g])))
 split at d
 ·next b=>
  obtain⟨f,c,a,_,g,j,l⟩:=n (.inr (.inl b));obtain rfl:=dP1.1 d;refine⟨hv,hv,?_,.inr (.inl ⟨rfl,rfl,b,rfl⟩)⟩;have:=f.sin b;rw[l]at this;exact cc7 K a j (O8.2 (.inr (.inl ⟨v.slot,this,by rw[Q5 a,g]⟩)))
 split at d
 ·next b=>
  obtain⟨f,c,a,_,g,j,l⟩:=n (.inr (.inr b));obtain rfl:=dP1.1 d;refine⟨hv,?_,hv,.inr (.inr ⟨rfl,rfl,b,rfl⟩)⟩;have:=f.out b;unfold Bk.callOut at this;rw[l]at this;have s:v.slot∈(d9 p).slotsOut (c:Int):=by
   split at this
   ·exact(dP2.1 this).1
   ·exact this
  exact cc7 K a j (O8.2 (.inr (.inr (.inl ⟨v.slot,s,by rw[Q5 a,g]⟩))))
 ·simp at d
def cV7(d:I5 p=true)(hw:C5 p<=1000000)(m:e∈(d9 p).we):(e.src∈(d9 p).wv/\e.dst∈(d9 p).wv/\(e.kind=1\/e.kind=2))\/∃v,dg3 p v e:=by
 have f:=N3 d;have K:=f.toKnown;rcases dN7.1 (dn1.1 m)with h|h
 ·obtain⟨n,b,h⟩:=dQ0.1 h;obtain⟨i,a,g,c⟩:=Z4 K b;rw[g]at h;rw[Q5 a]at c;obtain⟨j,k,l⟩:=cK2 d hw a e (cC1.1 h);exact .inl ⟨cc7 K a (by rw[c];exact b) j,cc7 K a (by rw[c];exact b) k,l⟩
 ·obtain⟨v,o,h⟩:=dQ0.1 h;exact .inr ⟨v,db6 f hw o h⟩
end
def bL9(k:Nat)(V:List Vx):List (Vx×Value):=(V.zipIdx k).map λx=>(x.1,.int .i64 (x.2:Int))
def au5(V:List Vx):List (Vx×Value):=bL9 0 V
def bD4(v:Vx):∀(V:List Vx) (k:Nat),ai3 (bL9 k V) v=(V.findIdx? λx=>decide (x=v)).map λa=>.int .i64 ((k+a:Nat):Int)
 | [],k=>rfl
 | x::V,k=>by
  have c:=bD4 v V (k+1);unfold ai3 bL9 at *;rw[List.zipIdx_cons,dQ8,List.find?_cons,List.findIdx?_cons];by_cases h:v=x
  ·subst h;simp
  ·have b:¬x=v:=λe=>h e.symm;simp only[h,b,decide_false,dS7,dU1];rw[c];cases V.findIdx? (λx=>decide (x=v))with
   | none=>rfl
   | some a=>
    simp only[dS5];rw[show k+1+a=k+(a+1) by omega]
def aV0(V:List Vx)(v:Vx):ai3 (au5 V) v=(atV V v).map λa=>.int .i64 (a:Int):=by
 unfold au5 atV;rw[bD4];simp
def db7(V:List Vx)(v:Vx):au5 (V++[v])=au5 V++[(v,.int .i64 (V.length:Int))]:=by
 unfold au5 bL9;rw[List.zipIdx_append,dP6];simp
def dm5{V:List Vx}{v:Vx}(h:v∉V):ai3 (au5 V) v=none:=by
 rw[aV0];cases e:atV V v with
 | none=>rfl
 | some a=>exact absurd (ag3.1 (by rw[e];rfl)) h
theorem dm6(V:List Vx)(v:Vx):(ai3 (au5 V) v).getD (.int .i64 0) = .int .i64 ((E9 V v:Nat):Int):=by
 rw[aV0];unfold E9;cases atV V v<;>rfl
def V7(V:List Vx)(L:List Eg):List (List (Int×Int)):=(List.range V.length).map λa=>(L.filter λe=>decide (E9 V e.src=a)).map λe=>(((E9 V e.dst:Nat):Int),e.kind)
def T9(V:List Vx)(L:List Eg):List (List (Int×Int)):=(List.range V.length).map λa=>(L.filter λe=>decide (E9 V e.dst=a)).map λe=>(((E9 V e.src:Nat):Int),e.kind)
def Z1(R:List (List (Int×Int)))(ks:List Int):List (List Int):=R.map λr=>(r.filter λt=>ks.contains t.2).map (·.1)
def bd0{V:List Vx}{L:List Eg}:(V7 V L).length=V.length:=by simp[V7]
def aM9{V:List Vx}{L:List Eg}:(T9 V L).length=V.length:=by simp[T9]
theorem cA8(V:List Vx)(L:List Eg)(ks:List Int):Z1 (V7 V L) ks=S4 V L ks:=by
 unfold Z1 V7 S4;rw[List.map_map];refine List.map_congr_left λa _=>?_;simp only[Function.comp,List.filter_map,List.map_map,List.filter_filter];rfl
theorem bE0(V:List Vx)(L:List Eg)(ks:List Int):Z1 (T9 V L) ks=X9 V L ks:=by
 unfold Z1 T9 X9;rw[List.map_map];refine List.map_congr_left λa _=>?_;simp only[Function.comp,List.filter_map,List.map_map,List.filter_filter];rfl
def cC4(V:List Vx):V7 V []=List.replicate V.length []:=by
 apply dS8
 ·simp[V7]
 ·intro j a b;simp[V7]
def cD0(V:List Vx):T9 V []=List.replicate V.length []:=by
 apply dS8
 ·simp[T9]
 ·intro j a b;simp[T9]
def bF4{V:List Vx}{L:List Eg}{a:Nat}(h:a<V.length):(V7 V L)[a]?=some ((L.filter λe=>decide (E9 V e.src=a)).map λe=>(((E9 V e.dst:Nat):Int),e.kind)):=by simp[V7,h]
def cC9{V:List Vx}{L:List Eg}{a:Nat}(h:a<V.length):(T9 V L)[a]?=some ((L.filter λe=>decide (E9 V e.dst=a)).map λe=>(((E9 V e.src:Nat):Int),e.kind)):=by simp[T9,h]
def ci5{V:List Vx}(L:List Eg)(e:Eg):V7 V (L++[e])=(V7 V L).set (E9 V e.src) (((L.filter λx=>decide (E9 V x.src=E9 V e.src)).map λx=>(((E9 V x.dst:Nat):Int),x.kind))++[(((E9 V e.dst:Nat):Int),e.kind)]):=by
 apply dS8
 ·simp[V7]
 ·intro j a b;rw[List.getElem_set];simp only[V7,dT4,dY7,dS4,dP6];by_cases hj:E9 V e.src=j
  ·subst hj;simp[]
  ·rw[if_neg hj];simp[hj]
def cj2{V:List Vx}(L:List Eg)(e:Eg):T9 V (L++[e])=(T9 V L).set (E9 V e.dst) (((L.filter λx=>decide (E9 V x.dst=E9 V e.dst)).map λx=>(((E9 V x.src:Nat):Int),x.kind))++[(((E9 V e.src:Nat):Int),e.kind)]):=by
 apply dS8
 ·simp[T9]
 ·intro j a b;rw[List.getElem_set];simp only[T9,dT4,dY7,dS4,dP6];by_cases hj:E9 V e.dst=j
  ·subst hj;simp[]
  ·rw[if_neg hj];simp[hj]
def OkA(n:Nat)(R:List (List (Int×Int))):Prop:=∀r∈R,r.length<=1000000000/\∀t∈r,H1 n t.1=true/\1<=t.2/\t.2<=6
def cP6{V:List Vx}{L:List Eg}(b:0<V.length)(d:∀e∈L,1<=e.kind/\e.kind<=6)(f:L.length<=1000000000):OkA V.length (V7 V L):=λr g=>by
 obtain⟨a,_,rfl⟩:=dO7.1 g;refine⟨by rw[dN4];exact dN1 (dP3 _ _) f,λt h=>?_⟩;obtain⟨e,c,rfl⟩:=dO7.1 h;exact⟨aJ5 b _,d e (dP2.1 c).1⟩
def bX6{V:List Vx}{L:List Eg}(b:0<V.length)(d:∀e∈L,1<=e.kind/\e.kind<=6)(f:L.length<=1000000000):OkA V.length (T9 V L):=λr g=>by
 obtain⟨a,_,rfl⟩:=dO7.1 g;refine⟨by rw[dN4];exact dN1 (dP3 _ _) f,λt h=>?_⟩;obtain⟨e,c,rfl⟩:=dO7.1 h;exact⟨aJ5 b _,d e (dP2.1 c).1⟩
def bV9{R:List (List (Int×Int))}{ks:List Int}{a b:Int}:b∈C9 (Z1 R ks) a↔H1 R.length a=true/\∃k∈ks,(b,k)∈R.getD a.toNat []:=by
 unfold Z1;have d:∀c:Nat,(R.map λr=>(r.filter λt=>ks.contains t.2).map (·.1)).getD c []=((R.getD c []).filter λt=>ks.contains t.2).map (·.1):=λc=>by
  simp only[List.getD_eq_getElem?_getD,dP9];cases R[c]?<;>rfl
 unfold C9;by_cases h:H1 R.length a=true
 ·rw[dN4,if_pos (B3.1 h),d];constructor
  ·intro hm;obtain⟨t,i,rfl⟩:=dO7.1 hm;obtain⟨f,e⟩:=dP2.1 i;exact⟨h,t.2,dO5.1 e,f⟩
  ·rintro⟨_,k,g,hm⟩;exact dO7.2 ⟨(b,k),dP2.2 ⟨hm,dO5.2 g⟩,rfl⟩
 ·rw[dN4,if_neg λe=>h (B3.2 e)];simp[h]
def cP7{R:List (List (Int×Int))}{ks:List Int}(h:OkA R.length R):OkR (Z1 R ks):=λa b f=>by
 obtain⟨d,k,_,hm⟩:=bV9.1 f;have g:(Z1 R ks).length=R.length:=by simp[Z1]
 rw[g];have e:=B3.1 d;have c:a.toNat<R.length:=by omega
 rw[List.getD_eq_getElem?_getD,dM4 c]at hm;exact((h _ (dN5 c)).2 _ hm).1
structure SpJ (nx:List (List Int)) (S0:List Bool) (todo:List Int) (S:List Bool) (x:Int->Prop):Prop where
 len:S.length=S0.length
 sub:∀b,A7 S0 b=true->A7 S b=true
 via:∀b,A7 S b=true->∃a,A7 S0 a=true/\Y5 nx a b
 td:∀c∈todo,A7 S c=true
 done:∀c,A7 S c=true->c∈todo\/x c\/∀d∈C9 nx c,A7 S d=true
section
variable {nx:List (List Int)} {S0 S:List Bool} {todo:List Int} {x:Int->Prop}
def SpJ.start:SpJ nx S0 (af4 S0) S0 (λ_=>False):=
 ⟨rfl,λ_ h=>h,λb h=>⟨b,h,.refl⟩,λc a=>al9.1 a,λc a=>.inl (al9.2 a)⟩
def SpJ.pop{c:Int}(h:SpJ nx S0 (todo++[c]) S (λ_=>False)):SpJ nx S0 todo S (λd=>d=c)/\A7 S c=true:=by
 refine⟨⟨h.len,h.sub,h.via,λd e=>h.td d (dQ1 _ e),λd e=>?_⟩,h.td c (by simp)⟩;rcases h.done d e with a|a|a
 ·rcases dN7.1 a with b|b
  ·exact .inl b
  ·exact .inr (.inl (by simpa using b))
 ·exact a.elim
 ·exact .inr (.inr a)
def SpJ.close{c:Int}(h:SpJ nx S0 todo S (λd=>d=c))(e:∀d∈C9 nx c,A7 S d=true):SpJ nx S0 todo S (λ_=>False):=by
 refine⟨h.len,h.sub,h.via,h.td,λd b=>?_⟩;rcases h.done d b with a|a|a
 ·exact .inl a
 ·subst a;exact .inr (.inr e)
 ·exact .inr (.inr a)
def SpJ.push{c d:Int}(h:SpJ nx S0 todo S x)(n:A7 S c=true)(o:H1 S.length d=true)(hw:d∈C9 nx c):SpJ nx S0 (todo++[d]) (S.set d.toNat true) x:=by
 have j:∀e,A7 (S.set d.toNat true) e=if e=d then true else A7 S e:=λe=>M6 o;have f:∀e,A7 S e=true->A7 (S.set d.toNat true) e=true:=λe k=>by rw[j,k];simp
 refine⟨by rw[dU0,h.len],λb l=>f b (h.sub b l),λb l=>?_,λe k=>?_,λe k=>?_⟩
 ·rw[j]at l;split at l
  ·next e=>
   subst e;obtain⟨a,i,m⟩:=h.via c n;exact⟨a,i,.step m hw⟩
  ·exact h.via b l
 ·rcases dN7.1 k with i|i
  ·exact f e (h.td e i)
  ·simp at i;subst i;rw[j];simp
 ·rw[j]at k;split at k
  ·next i=>subst i;exact .inl (by simp)
  ·rcases h.done e k with i|i|i
   ·exact .inl (dQ1 _ i)
   ·exact .inr (.inl i)
   ·exact .inr (.inr λg p=>f g (i g p))
def SpJ.fin(h:SpJ nx S0 [] S (λ_=>False))(f:OkR nx)(g:nx.length=S0.length):S=J2 nx S0:=by
 refine bp0 (by rw[h.len,K0]) λb=>?_;rw[Q7 f g];refine⟨h.via b,?_⟩;rintro⟨a,d,i⟩
 induction i with
 | refl=>exact h.sub a d
 | step _ e j=>
  rcases h.done _ j with c|c|c
  ·simp at c
  ·exact c.elim
  ·exact c _ e
end
section
variable {p:Pg}
def bN5(hm:N2 p=true):p.procs.length<=16:=by
 unfold N2 at hm;simp only[dO8,dQ3]at hm;exact hm.1.1.2
def aK1(a:D4 p):(d9 p).reached.length<=16:=by
 have b:=I2 (aP1 a.toKnown) (λn c=>aX9 a.toKnown c);rw[dN4]at b;have:=bN5 a.may;omega
def aK7(a:D4 p)(hw:C5 p<=1000000):(d9 p).wv.length<=480000:=by
 have d:=aK1 a;have f:=N5 (λn=>(d9 p).verts ((d9 p).s.pr n)) 30000 (d9 p).reached λn c=>by
  obtain⟨i,b,e,_⟩:=Z4 a.toKnown c;simp only[e];exact aN9 a hw b
 have e:(d9 p).wv.length=((d9 p).reached.flatMap λn=>(d9 p).verts ((d9 p).s.pr n)).length:=rfl;omega
def bV8(v:Vx):((d9 p).joinOf v).length<=1:=by
 unfold Bk.joinOf;split
 ·simp
 split
 ·simp
 split
 ·simp
 split<;>simp
def bq3(a:D4 p)(hw:C5 p<=1000000):((d9 p).reached.flatMap λn=>(d9 p).edges ((d9 p).s.pr n)).length<=960000000:=by
 have d:=aK1 a;have f:=N5 (λn=>(d9 p).edges ((d9 p).s.pr n)) 60000000 (d9 p).reached λn c=>by
  obtain⟨i,b,e,_⟩:=Z4 a.toKnown c;simp only[e];exact bC8 a hw b
 omega
def cu7(a:D4 p)(hw:C5 p<=1000000):(d9 p).we0.length<=960480000:=by
 have b:=bq3 a hw;have c:=N5 (d9 p).joinOf 1 (d9 p).wv λv _=>bV8 v;have d:=aK7 a hw;unfold Bk.we0;rw[dM7];omega
def bP8(b:D4 p)(hw:C5 p<=1000000):(d9 p).we.length<=960480000:=by
 have a:=cu7 b hw;unfold Bk.we aw4 at *;refine dN1 (ap8 _) ?_;rw[(F5 cy7 _).length_eq];exact a
def cu8(a:I5 p=true)(hw:C5 p<=1000000){e:Eg}(b:e∈(d9 p).we):1<=e.kind/\e.kind<=6:=by
 rcases cV7 a hw b with⟨_,_,h⟩|⟨v,h⟩
 ·omega
 ·rcases h.kind with h|h|h<;>omega
def cS1(p:Pg):List Eg:=(d9 p).wv.flatMap λv=>((d9 p).wv.filter λu=>decide (u.proc=v.proc/\u.kind=5/\u.id=v.id)).map λu=>(⟨u,v,3⟩:Eg)
def cA3{L:List Eg}{e:Eg}(h:aG0 (d9 p).wv L e):e∈cS1 p:=by
 obtain⟨c,f,i,d,_,_,_,_,_,x,_,a⟩:=h;obtain⟨_,v,b,hm,rfl⟩:=aJ2.1 a;exact dQ0.2 ⟨v,dO4 b,dO7.2 ⟨_,dP2.2 ⟨hm,by simp⟩,rfl⟩⟩
def cR3(e:D4 p)(hw:C5 p<=1000000)(v:Vx):((d9 p).wv.filter λu=>decide (u.proc=v.proc/\u.kind=5/\u.id=v.id)).length<=33:=by
 generalize D:((d9 p).wv.filter λu=>decide (u.proc=v.proc/\u.kind=5/\u.id=v.id))=F;have d:∀u∈F,u∈(d9 p).wv/\u.proc=v.proc/\u.kind=5/\u.id=v.id:=λu k=>by
  rw[<-D]at k;obtain⟨l,J⟩:=dP2.1 k;exact⟨l,dM8 J⟩
 have N:F.Nodup:=by rw[<-D];exact(au3 e hw).sublist List.filter_sublist
 cases hFF:F with
 | nil=>simp
 | cons u S=>
  rw[<-hFF];have k:u∈F:=by rw[hFF];simp
  obtain⟨l,_,K,L⟩:=d u k;obtain⟨i,G,O,T,q⟩:=cu9 e.toKnown l;have g:=bn6 e.may hw G q (.inr (.inl K));obtain⟨y,R⟩:=J5 e.may hw i G;obtain⟨c,H⟩:=U6 (e.fits _ (aR4 R g.mem) (g.call (by omega)));have o:(d9 p).s.pr ((b9 p).it u.id).s.proc=(c:Int):=H.pr;have E:=am5 e hw H.lt;have f:∀x∈F,x.slot∈(d9 p).slotsIn (c:Int):=λx r=>by
   obtain⟨P,_,I,Q⟩:=d x r;obtain⟨j,M,_,_,m⟩:=cu9 e.toKnown P;have:=(bn6 e.may hw M m (.inr (.inl I))).sin I;rw[Q,<-L,o]at this;exact this
  have n:(F.map (·.slot)).Nodup:=by
   rw[List.nodup_iff_pairwise_ne,List.pairwise_map];refine N.imp_of_mem fun{a b} ha E hne h=>hne ?_;obtain⟨_,t,w,z⟩:=d a ha;obtain⟨_,A,B,C⟩:=d b E;cases a;cases b;simp only at t w z A B C h;rw[t,w,z,A,B,C,h]
  have:=I2 n λs h=>by
   obtain⟨x,r,rfl⟩:=dO7.1 h;exact f x r
  rw[dN4]at this;omega
def cS2(a:D4 p)(hw:C5 p<=1000000):(cS1 p).length<=15840000:=by
 have b:=aK7 a hw;have c:=N5 (λv=>((d9 p).wv.filter λu=>decide (u.proc=v.proc/\u.kind=5/\u.id=v.id)).map λu=>(⟨u,v,3⟩:Eg)) 33 (d9 p).wv λv _=>by
  rw[dN4];exact cR3 a hw v
 unfold cS1;omega
def ct6{e:Eg}(h:e∈(d9 p).sums):e∈cS1 p:=by
 have c:=bx8 (V:=(d9 p).wv) (E:=(d9 p).we) (C:=(d9 p).sums.filter λx=>(cS1 p).contains x) (λx a=>by
  have b:x∈(d9 p).sums:=bk6 x (a.le λy d=>by
   rcases dN7.1 d with h|h
   ·exact dQ1 _ h
   ·exact dS0 _ ((dP2.1 h).1))
  exact dP2.2 ⟨b,dO5.2 (cA3 a)⟩) e h
 exact dO5.1 (dP2.1 c).2
structure bl7 (p:Pg) (C:List Eg):Prop where
 nd:C.Nodup
 le:∀e∈C,e∈(d9 p).sums
def bl7.few{C:List Eg}(h:bl7 p C)(b:D4 p)(hw:C5 p<=1000000):C.length<=15840000:=
 dN1 (I2 h.nd λe a=>ct6 (h.le e a)) (cS2 b hw)
def bl7.kind{C:List Eg}(h:bl7 p C){e:Eg}(c:e∈C):e.kind=3/\e.src∈(d9 p).wv/\e.dst∈(d9 p).wv/\e.src.kind=5:=by
 obtain⟨v,f,hm⟩:=dQ0.1 (ct6 (h.le e c));obtain⟨u,d,rfl⟩:=dO7.1 hm;obtain⟨a,b⟩:=dP2.1 d;exact⟨rfl,a,f,(dM8 b).2.1⟩
def bn9(V:List Vx)(L C:List Eg)(o:Nat):Prop:=∀b,V[o]?=some b->b.kind=4->∀(i:Int) (a:Vx),Y5 (S4 V L [1,2,3]) i (o:Int)->V[i.toNat]?=some a->a.kind=3->∀x∈L,∀e∈as0 V o a.slot x,e∈C
def cE5{C:List Eg}(h:bl7 p C)(g:∀o,o<(d9 p).wv.length->bn9 (d9 p).wv ((d9 p).we++C) C o):∀e,e∈C↔e∈(d9 p).sums:=
 de4 (λe ⟨o,m,i,l,a,b,c,d,f,x,k,j⟩=>g o (dM9.1 a).1 m a b i l c d f x k e j) h.le
def bp6{V:List Vx}{L M:List Eg}{ks:List Int}(c:0<V.length)(h:∀e,e∈L↔e∈M){S:List Bool}(hS:S.length=V.length):J2 (X9 V L ks) S=J2 (X9 V M ks) S/\J2 (S4 V L ks) S=J2 (S4 V M ks) S:=by
 constructor
 ·refine bp0 (by rw[K0,K0]) λb=>?_;rw[Q7 (am1 c) (by rw[ac7,hS]),Q7 (am1 c) (by rw[ac7,hS])];constructor
  ·rintro⟨a,d,f⟩;exact⟨a,d,(T8 c).1 ((ba7 h).1 ((T8 c).2 f))⟩
  ·rintro⟨a,d,f⟩;exact⟨a,d,(T8 c).1 ((ba7 h).2 ((T8 c).2 f))⟩
 ·refine bp0 (by rw[K0,K0]) λb=>?_;rw[Q7 (aJ7 c) (by rw[ay7,hS]),Q7 (aJ7 c) (by rw[ay7,hS])];constructor
  ·rintro⟨a,d,f⟩;exact⟨a,d,(ba7 h).1 f⟩
  ·rintro⟨a,d,f⟩;exact⟨a,d,(ba7 h).2 f⟩
end
def aV4(V:List Vx)(C:List Eg):List ((Int×Int)×Value):=C.map λe=>((((E9 V e.src:Nat):Int),((E9 V e.dst:Nat):Int)),.bool true)
def cq6{V:List Vx}{C:List Eg}(l:∀e∈C,e.kind=3/\e.src∈V/\e.dst∈V){u v:Vx}(o:u∈V)(hv:v∈V):
  (ai3 (aV4 V C) (((E9 V u:Nat):Int),((E9 V v:Nat):Int))).getD (.bool false) = .bool (decide ((⟨u,v,3⟩:Eg)∈C)):=by
 have c:∀{a b:Vx},a∈V->b∈V->E9 V a=E9 V b->a=b:=fun{a b} ha hb e=>by
  have d:=aJ4 ha;have f:=aJ4 hb;rw[e,f]at d;exact(dO3 d).symm
 induction C with
 | nil=>rfl
 | cons e C q=>
  have i:=q λx p=>l x (dS2 _ p);obtain⟨d,f,m⟩:=l e (by simp);unfold ai3 aV4 at *;rw[dQ8,List.find?_cons];by_cases h:(⟨u,v,3⟩:Eg)=e
  ·subst h;simp
  ·have g:¬((((E9 V u:Nat):Int),((E9 V v:Nat):Int))=(((E9 V e.src:Nat):Int),((E9 V e.dst:Nat):Int))):=λn=>by
    simp only[Prod.mk.injEq]at n;refine h ?_;have j:=c o f (by omega);have k:=c hv m (by omega);cases e;simp only at d j k;rw[j,k,d]
   rw[dW8 g];simp only[dO6,h,false_or];exact i
def cM2{V:List Vx}{C:List Eg}(a:∀e∈C,e.kind=3/\e.src∈V/\e.dst∈V){u v:Vx}(b:u∈V)(hv:v∈V)(hn:(⟨u,v,3⟩:Eg)∉C):ai3 (aV4 V C) (((E9 V u:Nat):Int),((E9 V v:Nat):Int))=none:=by
 have h:=cq6 a b hv;cases he:ai3 (aV4 V C) (((E9 V u:Nat):Int),((E9 V v:Nat):Int))with
 | none=>rfl
 | some x=>
  exfalso
  rw[he,dW8 hn]at h;unfold ai3 at he;obtain⟨y,c,rfl⟩:=Option.map_eq_some_iff.1 he;obtain⟨e,_,rfl⟩:=dO7.1 (List.mem_of_find?_eq_some c);simp at h
def hZ:Hp:=λ_=>none
def X7(h:Hp):B5 hZ h:=λ_ _ e=>nomatch e
abbrev TWh:TypeId:=91
abbrev TVx:TypeId:=26
abbrev TEg:TypeId:=67
abbrev TAr:TypeId:=218
abbrev TAs:TypeId:=216
def dy4:F4 prog 216 218 2 16=true:=by kernel_rfl
def dy5:F4 prog 89 216 1 24=true:=by kernel_rfl
def dh5:∃a,prog.info? 216=some a/\a.size=1:=az9 cU4 cT5
structure WX where
 vV:Value
 vE:Value
 vS:Value
 vn:Value
 un:List U1
 vp:Value
 up:List U1
structure WC where
 V:List Vx
 E:List Eg
 S:List Eg
 kv:List (Vx×Value)
 N:List (List (Int×Int))
 P:List (List (Int×Int))
def R3(g r:Nat)(x:WX):Nat->Nat->Prop
 | 0,b=>b=g
 | 1,b=>b=r
 | 2,b=>A3 x.vV b
 | 3,b=>A3 x.vE b
 | 4,b=>A3 x.vS b
 | 5,b=>L6 x.vn x.un b
 | 6,b=>L6 x.vp x.up b
 | _,_=>False
def wcs(a:Addr)(b:Value)(r:Nat)(x:WX):Array Value:=#[.pointer (some a),b,x.vV,x.vE,x.vS,.map (some r),x.vn,x.vp]
structure WS (w1 w:World) (g r:Nat) (ab:Addr) (vP:Value) (x:WX) (c:WC):Prop where
 ext:o7 w1 w
 cb:w.heap[g]?=some (.cells (wcs ab vP r x) TWh (0,0))
 map:aq9 Vx.enc w r c.kv
 oV:A8 hZ w TVx x.vV c.V
 oE:A8 hZ w TEg x.vE c.E
 oS:A8 hZ w TEg x.vS c.S
 rn:I6 hZ w TAs TAr x.vn x.un c.N
 rp:I6 hZ w TAs TAr x.vp x.up c.P
 new:∀i b,R3 g r x i b->w1.heap.size<=b
 apart:∀i j b,R3 g r x i b->R3 g r x j b->i=j
section
variable {w1 w w':World} {g r:Nat} {ab:Addr} {vP:Value} {x:WX} {c:WC}
def WS.lt(s:WS w1 w g r ab vP x c):∀{i b:Nat},R3 g r x i b->b<w.heap.size
 | 0,b,h=>by obtain rfl:b=g:=h;exact(dN0.1 s.cb).1
 | 1,b,h=>by obtain rfl:b=r:=h;exact s.map.lt
 | 2,b,h=>s.oV.lt h
 | 3,b,h=>s.oE.lt h
 | 4,b,h=>s.oS.lt h
 | 5,b,h=>s.rn.lt h
 | 6,b,h=>s.rp.lt h
 | _+7,_,h=>h.elim
def WS.off(s:WS w1 w g r ab vP x c){i j b:Nat}(a:i≠j)(h:R3 g r x i b):¬R3 g r x j b:=λd=>a (s.apart i j b h d)
def WS.mod(s:WS w1 w g r ab vP x c){M:Nat->Prop}(hm:o9 M w w')(d:∀b,M b->w1.heap.size<=b/\∀i,¬R3 g r x i b):WS w1 w' g r ab vP x c:=
 ⟨o9.ext_of s.ext hm λb a=>(d b a).1,(hm.block g (s.lt (i:=0) rfl) λh=>(d g h).2 0 rfl).trans s.cb,s.map.mod hm λh=>(d r h).2 1 rfl,
  s.oV.mod hm λb a h=>(d b h).2 2 a,s.oE.mod hm λb a h=>(d b h).2 3 a,s.oS.mod hm λb a h=>(d b h).2 4 a,s.rn.mod hm λb a h=>(d b h).2 5 a,s.rp.mod hm λb a h=>(d b h).2 6 a,s.new,s.apart⟩
def WS.more(s:WS w1 w g r ab vP x c)(a:o7 w w'):WS w1 w' g r ab vP x c:=s.mod a λ_ h=>h.elim
def WS.base(s:WS w1 w g r ab vP x c):B5 (i4 w1) (i4 w):=b7 s.ext
theorem WS.rV(s:WS w1 w g r ab vP x c):R (i4 w) x.vV c.V:=s.oV.flatRN λ_ _=>rfl
theorem WS.rE(s:WS w1 w g r ab vP x c):R (i4 w) x.vE c.E:=s.oE.flatRN λ_ _=>rfl
def WS.ld(s:WS w1 w g r ab vP x c){i:Nat}{u:Value}{t:TypeId}(b:(wcs ab vP r x)[i]?=some u)(a:I7 prog t=false):(Instr.loadAt t (.pointer (some ⟨g,i,none⟩))).run prog w = .ok u w:=E2 s.cb b a
def WS.parts(s:WS w1 w g r ab vP x c){x':WX}(i:Nat)(a:∀j,j≠i->∀b,R3 g r x' j b->R3 g r x j b)(n:∀b,R3 g r x' i b->R3 g r x i b\/w.heap.size<=b):
  (∀j b,R3 g r x' j b->w1.heap.size<=b)/\(∀j k b,R3 g r x' j b->R3 g r x' k b->j=k):=by
 have f:∀j b,R3 g r x' j b->(R3 g r x j b)\/(j=i/\w.heap.size<=b):=λj b h=>by
  by_cases hj:j=i
  ·subst hj;exact(n b h).imp id λh=>⟨rfl,h⟩
  ·exact .inl (a j hj b h)
 refine⟨λj b h=>?_,λj k b d e=>?_⟩
 ·rcases f j b h with h|⟨_,h⟩
  ·exact s.new j b h
  ·exact dN1 s.ext.size h
 ·rcases f j b d with d|⟨l,d⟩<;>rcases f k b e with e|⟨m,e⟩
  ·exact s.apart j k b d e
  ·have:=s.lt d;omega
  ·have:=s.lt e;omega
  ·rw[l,m]
def cc3{k:Nat}{cs:Array Value}(d:w.heap[g]?=some (.cells cs TWh (0,0)))(e:k<cs.size){v:Value}(hS:isS v=true){t:TypeId}{c:TypeInfo}(a:prog.info? t=some c)(f:c.size=1):
  ∃w',(Instr.storeAt t (.pointer (some ⟨g,k,none⟩)) v).run prog w = .ok () w'/\w'.heap[g]?=some (.cells (cs.setIfInBounds k v) TWh (0,0))/\o9 (λb=>b=g) w w':=
 ag5 (P:=prog) d e (E3 hS) (X8 hS) a f
def WS.putV(s:WS w1 w g r ab vP x c){o:Value}{l:List Vx}(hm:o9 (A3 x.vV) w w')(y:A8 hZ w' TVx o l)(hv:F0 w x.vV o){t:TypeId}{n:TypeInfo}(m:prog.info? t=some n)(C:n.size=1):
  ∃d,(Instr.storeAt t (.pointer (some ⟨g,2,none⟩)) o).run prog w' = .ok () d/\WS w1 d g r ab vP {x with vV:=o} {c with V:=l}/\o9 (λb=>b=g) w' d:=by
 have v:=s.parts (x':={x with vV:=o}) 2 (λj B b h=>by match j,B,h with|0,_,h=>exact h|1,_,h=>exact h|3,_,h=>exact h|4,_,h=>exact h|5,_,h=>exact h|6,_,h=>exact h|_+7,_,h=>exact h.elim) hv;have u:=(hm.block g (s.lt (i:=0) rfl) (s.off (i:=0) (j:=2) (by decide) rfl)).trans s.cb;obtain⟨d,A,p,f⟩:=cc3 (k:=2) u (by decide +kernel:2<8) y.isS m C;have D:=o9.ext_of (o9.ext_of s.ext hm λb a=>s.new 2 b a) f λb a=>by subst a;exact s.new 0 _ rfl
 have e:∀{i:Nat} {b:Nat},i≠2->i≠0->R3 g r x i b->¬A3 x.vV b/\¬b=g:=λp z h=>⟨s.off (j:=2) p h,s.off (j:=0) z h⟩;refine⟨d,A,⟨D,p,(s.map.mod hm (e (i:=1) (by decide) (by decide) rfl).1).mod f (e (i:=1) (by decide) (by decide) rfl).2,y.mod f λb a q=>?_,?_,?_,?_,?_,v.1,v.2⟩,f⟩
 ·exact absurd (v.2 2 0 b a q) (by decide)
 ·exact(s.oE.mod hm λb a=>(e (i:=3) (by decide) (by decide) a).1).mod f λb a=>(e (i:=3) (by decide) (by decide) a).2
 ·exact(s.oS.mod hm λb a=>(e (i:=4) (by decide) (by decide) a).1).mod f λb a=>(e (i:=4) (by decide) (by decide) a).2
 ·exact(s.rn.mod hm λb a=>(e (i:=5) (by decide) (by decide) a).1).mod f λb a=>(e (i:=5) (by decide) (by decide) a).2
 ·exact(s.rp.mod hm λb a=>(e (i:=6) (by decide) (by decide) a).1).mod f λb a=>(e (i:=6) (by decide) (by decide) a).2
def WS.putE(s:WS w1 w g r ab vP x c){o:Value}{l:List Eg}(hm:o9 (A3 x.vE) w w')(y:A8 hZ w' TEg o l)(hv:F0 w x.vE o){t:TypeId}{n:TypeInfo}(m:prog.info? t=some n)(C:n.size=1):
  ∃d,(Instr.storeAt t (.pointer (some ⟨g,3,none⟩)) o).run prog w' = .ok () d/\WS w1 d g r ab vP {x with vE:=o} {c with E:=l}/\o9 (λb=>b=g) w' d:=by
 have v:=s.parts (x':={x with vE:=o}) 3 (λj B b h=>by match j,B,h with|0,_,h=>exact h|1,_,h=>exact h|2,_,h=>exact h|4,_,h=>exact h|5,_,h=>exact h|6,_,h=>exact h|_+7,_,h=>exact h.elim) hv;have u:=(hm.block g (s.lt (i:=0) rfl) (s.off (i:=0) (j:=3) (by decide) rfl)).trans s.cb;obtain⟨d,A,p,f⟩:=cc3 (k:=3) u (by decide +kernel:3<8) y.isS m C;have D:=o9.ext_of (o9.ext_of s.ext hm λb a=>s.new 3 b a) f λb a=>by subst a;exact s.new 0 _ rfl
 have e:∀{i:Nat} {b:Nat},i≠3->i≠0->R3 g r x i b->¬A3 x.vE b/\¬b=g:=λp z h=>⟨s.off (j:=3) p h,s.off (j:=0) z h⟩;refine⟨d,A,⟨D,p,(s.map.mod hm (e (i:=1) (by decide) (by decide) rfl).1).mod f (e (i:=1) (by decide) (by decide) rfl).2,?_,y.mod f λb a q=>?_,?_,?_,?_,v.1,v.2⟩,f⟩
 ·exact(s.oV.mod hm λb a=>(e (i:=2) (by decide) (by decide) a).1).mod f λb a=>(e (i:=2) (by decide) (by decide) a).2
 ·exact absurd (v.2 3 0 b a q) (by decide)
 ·exact(s.oS.mod hm λb a=>(e (i:=4) (by decide) (by decide) a).1).mod f λb a=>(e (i:=4) (by decide) (by decide) a).2
 ·exact(s.rn.mod hm λb a=>(e (i:=5) (by decide) (by decide) a).1).mod f λb a=>(e (i:=5) (by decide) (by decide) a).2
 ·exact(s.rp.mod hm λb a=>(e (i:=6) (by decide) (by decide) a).1).mod f λb a=>(e (i:=6) (by decide) (by decide) a).2
def WS.putS(s:WS w1 w g r ab vP x c){o:Value}{l:List Eg}(hm:o9 (A3 x.vS) w w')(y:A8 hZ w' TEg o l)(hv:F0 w x.vS o){t:TypeId}{n:TypeInfo}(m:prog.info? t=some n)(C:n.size=1):
  ∃d,(Instr.storeAt t (.pointer (some ⟨g,4,none⟩)) o).run prog w' = .ok () d/\WS w1 d g r ab vP {x with vS:=o} {c with S:=l}/\o9 (λb=>b=g) w' d:=by
 have v:=s.parts (x':={x with vS:=o}) 4 (λj B b h=>by match j,B,h with|0,_,h=>exact h|1,_,h=>exact h|2,_,h=>exact h|3,_,h=>exact h|5,_,h=>exact h|6,_,h=>exact h|_+7,_,h=>exact h.elim) hv;have u:=(hm.block g (s.lt (i:=0) rfl) (s.off (i:=0) (j:=4) (by decide) rfl)).trans s.cb;obtain⟨d,A,p,f⟩:=cc3 (k:=4) u (by decide +kernel:4<8) y.isS m C;have D:=o9.ext_of (o9.ext_of s.ext hm λb a=>s.new 4 b a) f λb a=>by subst a;exact s.new 0 _ rfl
 have e:∀{i:Nat} {b:Nat},i≠4->i≠0->R3 g r x i b->¬A3 x.vS b/\¬b=g:=λp z h=>⟨s.off (j:=4) p h,s.off (j:=0) z h⟩;refine⟨d,A,⟨D,p,(s.map.mod hm (e (i:=1) (by decide) (by decide) rfl).1).mod f (e (i:=1) (by decide) (by decide) rfl).2,?_,?_,y.mod f λb a q=>?_,?_,?_,v.1,v.2⟩,f⟩
 ·exact(s.oV.mod hm λb a=>(e (i:=2) (by decide) (by decide) a).1).mod f λb a=>(e (i:=2) (by decide) (by decide) a).2
 ·exact(s.oE.mod hm λb a=>(e (i:=3) (by decide) (by decide) a).1).mod f λb a=>(e (i:=3) (by decide) (by decide) a).2
 ·exact absurd (v.2 4 0 b a q) (by decide)
 ·exact(s.rn.mod hm λb a=>(e (i:=5) (by decide) (by decide) a).1).mod f λb a=>(e (i:=5) (by decide) (by decide) a).2
 ·exact(s.rp.mod hm λb a=>(e (i:=6) (by decide) (by decide) a).1).mod f λb a=>(e (i:=6) (by decide) (by decide) a).2
def WS.key(s:WS w1 w g r ab vP x c){a:Vx}(m:ai3 c.kv a=none)(v:Value):
  ∃w',(Instr.mapUpdate 88 (.map (some r)) (Vx.enc a) v).run prog w = .ok () w'/\WS w1 w' g r ab vP x {c with kv:=c.kv++[(a,v)]}:=by
 obtain⟨w',k,l,e⟩:=s.map.push (P:=prog) dm4 Tryz.underlying88 m v;have f:∀{i:Nat} {b:Nat},i≠1->R3 g r x i b->¬b=r:=λn h=>s.off (j:=1) n h;refine⟨w',k,o9.ext_of s.ext e λb d=>by subst d;exact s.new 1 _ rfl,(e.block g (s.lt (i:=0) rfl) (f (i:=0) (by decide) rfl)).trans s.cb,l,?_,?_,?_,?_,?_,s.new,s.apart⟩
 ·exact s.oV.mod e λb d=>f (i:=2) (by decide) d
 ·exact s.oE.mod e λb d=>f (i:=3) (by decide) d
 ·exact s.oS.mod e λb d=>f (i:=4) (by decide) d
 ·exact s.rn.mod e λb d=>f (i:=5) (by decide) d
 ·exact s.rp.mod e λb d=>f (i:=6) (by decide) d
def WS.look(s:WS w1 w g r ab vP x c)(a:Vx):(Instr.lookup 88 (.map (some r)) (.agg (A0.cells a).toArray) false).run prog w = .ok ((ai3 c.kv a).getD (.int .i64 0)) w:=
 s.map.lookup (P:=prog) dm4 Tryz.underlying88 aw5 a
def WS.lookOk(s:WS w1 w g r ab vP x c)(a:Vx):(Instr.lookup 88 (.map (some r)) (.agg (A0.cells a).toArray) true).run prog w = .ok (.tuple #[(ai3 c.kv a).getD (.int .i64 0),.bool (ai3 c.kv a).isSome]) w:=
 s.map.lookupOk (P:=prog) dm4 Tryz.underlying88 aw5 a
end
def cQ7{P:Program}{h:Hp}{w:World}{T t:TypeId}{v:Value}{us:List U1}(e:A8 h w T v us){i:Nat}{u:U1}(d:us[i]?=some u)(f:I7 P t=false):
  (Instr.loadAt t (.pointer (some (G4 v i)))).run P w = .ok u.v w:=by
 obtain⟨g,⟨c,_⟩,b⟩:=e.get d;have:=b 0 u.v (by rw[c];rfl);rw[L7]at this;have a:(i*A4.sz U1)=i:=dT8 i;rw[a]at this;exact S3 f this
def I6.roK{α:Type}[A4 α]{h k:Hp}{w:World}{T T':TypeId}{v:Value}{us:List U1}{d:List (List α)}(l:I6 h w T T' v us d)(hw:B5 h k)(hb:∀b,L6 v us b->k b=w.heap[b]?):R k v d:=by
 have E:=l.outer.ro hw λb h=>hb b (.inl h);obtain⟨a,n,c,e,y,z,f,A,B⟩:=E;refine⟨a,n,c,e,by rw[y,l.len],z,f,?_,B⟩;have r:∀(us:List U1) (d:List (List α)) (f:List Value),us.length=d.length->O3 k f us ->
   (∀(i:Nat) (u:U1) (g:List α),us[i]?=some u->d[i]?=some g->R k u.v g)->O3 k f d:=by
  intro us
  induction us with
  | nil=>
   intro d f j q _;have:d=[]:=List.eq_nil_of_length_eq_zero j.symm;subst this;exact q
  | cons u us F=>
   intro d f j q m;cases d with
   | nil=>simp at j
   | cons g d=>
    obtain⟨H,t,rfl,⟨o,_⟩,p⟩:=q;subst o;exact⟨[u.v],t,rfl,m 0 u g rfl rfl,F d t (by simpa using j) p λi G s C D=>m (i+1) G s (by simpa using C) (by simpa using D)⟩
 exact r us d f l.len A λi u g x m=>(l.row i u g x m).ro hw λb h=>hb b (.inr ⟨u,dO4 x,h⟩)
def aX8{v u':Value}{us:List U1}{i:Nat}{u:U1}{w:World}(d:us[i]?=some u)(a:F0 w u.v u'){b:Nat}(h:L6 v (us.set i ⟨u'⟩) b):L6 v us b\/w.heap.size<=b:=by
 rcases h with h|⟨y,c,h⟩
 ·exact .inl (.inl h)
 ·rcases dU4 c with c|rfl
  ·exact .inl (.inr ⟨y,c,h⟩)
  ·rcases a b h with h|h
   ·exact .inl (.inr ⟨u,dO4 d,h⟩)
   ·exact .inr h
section
variable {w1 w:World} {g r:Nat} {ab:Addr} {vP:Value} {x:WX} {c:WC}
def WS.arcN(s:WS w1 w g r ab vP x c){i:Nat}{k:List (Int×Int)}(E:c.N[i]?=some k)(t:Int×Int)(O:k.length<=1000000000){e:TypeId}:∃u:U1,x.un[i]?=some u/\inS x.vn i=true /\
  (∀f,o9 (A3 u.v) w f->(Instr.loadAt 89 (.pointer (some ⟨g,6,none⟩))).run prog f = .ok x.vn f/\(Instr.loadAt 216 (.pointer (some (G4 x.vn i)))).run prog f = .ok u.v f) /\
  (Instr.buildSlice 216 1 #[(0,.agg #[.int .i64 t.1,.int .i64 t.2])]).run prog w = .ok (.slice (some ⟨w.heap.size,0,none⟩) 1 1) (w.alloc (.cells #[.int .i64 t.1,.int .i64 t.2] 218)) /\
  ∃o f d,(Builtin.append_ #[216,216] e #[u.v,.slice (some ⟨w.heap.size,0,none⟩) 1 1]).run prog (w.alloc (.cells #[.int .i64 t.1,.int .i64 t.2] 218)) = .ok o f /\
   (Instr.storeAt 216 (.pointer (some (G4 x.vn i))) o).run prog f = .ok () d /\
   WS w1 d g r ab vP {x with un:=x.un.set i ⟨o⟩} {c with N:=c.N.set i (k++[t])}/\o9 (R3 g r x 5) w d/\o9 (A3 u.v) w f/\(∀b,A3 u.v b->R3 g r x 5 b)/\∀j b,R3 g r {x with un:=x.un.set i ⟨o⟩} j b->R3 g r x j b\/w.heap.size<=b:=by
 have p:i<x.un.length:=by rw[s.rn.len];exact(dM9.1 E).1
 obtain⟨u,l⟩:∃u,x.un[i]?=some u:=⟨_,dM4 p⟩;have v:=s.rn.row i u k l E;obtain⟨G,q,z⟩:=dh5;have n:∀b,A3 u.v b->R3 g r x 5 b:=λb a=>.inr ⟨u,dO4 l,a⟩;obtain⟨H,o,f,I,J,B,C⟩:=push (P:=prog) (t:=216) (e:=e) dy4 rfl v (x:=.agg #[.int .i64 t.1,.int .i64 t.2]) (y:=t) ⟨[.int .i64 t.1],[.int .i64 t.2],rfl,rfl,rfl⟩ (by omega) (by omega) (X7 _);obtain⟨d,K,L,M,Q⟩:=s.rn.put (P:=prog) (t:=216) l B J C q z;have hm:o9 (R3 g r x 5) w d:=o9.trans (B.weaken λb _ a=>n b a) (M.weaken λb _ a=>.inl a);have F:=s.parts (x':={x with un:=x.un.set i ⟨o⟩}) 5 (λj A b h=>by match j,A,h with|0,_,h=>exact h|1,_,h=>exact h|2,_,h=>exact h|3,_,h=>exact h|4,_,h=>exact h|6,_,h=>exact h|_+7,_,h=>exact h.elim) (λb a=>aX8 l C a);have m:∀{j:Nat} {b:Nat},j≠5->R3 g r x j b->¬R3 g r x 5 b:=λA h=>s.off (j:=5) A h;refine⟨u,l,s.rn.outer.inS p,λR D=>⟨E2 ((D.block g (s.lt (i:=0) rfl) λh=>m (j:=0) (by decide) rfl (n g h)).trans s.cb) rfl bl0,cQ7 (s.rn.outer.mod D λb a h=>s.rn.off i u l b h a) l bP0⟩,H,o,f,d,I,K,⟨o9.ext_of s.ext hm λb a=>s.new 5 b a,(hm.block g (s.lt (i:=0) rfl) (m (j:=0) (by decide) rfl)).trans s.cb,s.map.mod hm (m (j:=1) (by decide) rfl),?_,?_,?_,L,?_,F.1,F.2⟩,hm,B,n,λj b h=>by match j,h with|0,h=>exact .inl h|1,h=>exact .inl h|2,h=>exact .inl h|3,h=>exact .inl h|4,h=>exact .inl h|5,h=>exact aX8 l C h|6,h=>exact .inl h|_+7,h=>exact h.elim⟩
 ·exact s.oV.mod hm λb a=>m (j:=2) (by decide) a
 ·exact s.oE.mod hm λb a=>m (j:=3) (by decide) a
 ·exact s.oS.mod hm λb a=>m (j:=4) (by decide) a
 ·exact s.rp.mod hm λb a=>m (j:=6) (by decide) a
def WS.arcP(s:WS w1 w g r ab vP x c){i:Nat}{k:List (Int×Int)}(E:c.P[i]?=some k)(t:Int×Int)(N:k.length<=1000000000){e:TypeId}:∃u:U1,x.up[i]?=some u/\inS x.vp i=true /\
  (∀f,o9 (A3 u.v) w f->(Instr.loadAt 89 (.pointer (some ⟨g,7,none⟩))).run prog f = .ok x.vp f/\(Instr.loadAt 216 (.pointer (some (G4 x.vp i)))).run prog f = .ok u.v f) /\
  (Instr.buildSlice 216 1 #[(0,.agg #[.int .i64 t.1,.int .i64 t.2])]).run prog w = .ok (.slice (some ⟨w.heap.size,0,none⟩) 1 1) (w.alloc (.cells #[.int .i64 t.1,.int .i64 t.2] 218)) /\
  ∃o f d,(Builtin.append_ #[216,216] e #[u.v,.slice (some ⟨w.heap.size,0,none⟩) 1 1]).run prog (w.alloc (.cells #[.int .i64 t.1,.int .i64 t.2] 218)) = .ok o f /\
   (Instr.storeAt 216 (.pointer (some (G4 x.vp i))) o).run prog f = .ok () d /\
   WS w1 d g r ab vP {x with up:=x.up.set i ⟨o⟩} {c with P:=c.P.set i (k++[t])}/\o9 (R3 g r x 6) w d/\o9 (A3 u.v) w f/\(∀b,A3 u.v b->R3 g r x 6 b)/\∀j b,R3 g r {x with up:=x.up.set i ⟨o⟩} j b->R3 g r x j b\/w.heap.size<=b:=by
 have p:i<x.up.length:=by rw[s.rp.len];exact(dM9.1 E).1
 obtain⟨u,l⟩:∃u,x.up[i]?=some u:=⟨_,dM4 p⟩;have v:=s.rp.row i u k l E;obtain⟨G,q,z⟩:=dh5;have n:∀b,A3 u.v b->R3 g r x 6 b:=λb a=>.inr ⟨u,dO4 l,a⟩;obtain⟨H,o,f,I,J,B,C⟩:=push (P:=prog) (t:=216) (e:=e) dy4 rfl v (x:=.agg #[.int .i64 t.1,.int .i64 t.2]) (y:=t) ⟨[.int .i64 t.1],[.int .i64 t.2],rfl,rfl,rfl⟩ (by omega) (by omega) (X7 _);obtain⟨d,K,L,M,O⟩:=s.rp.put (P:=prog) (t:=216) l B J C q z;have hm:o9 (R3 g r x 6) w d:=o9.trans (B.weaken λb _ a=>n b a) (M.weaken λb _ a=>.inl a);have F:=s.parts (x':={x with up:=x.up.set i ⟨o⟩}) 6 (λj A b h=>by match j,A,h with|0,_,h=>exact h|1,_,h=>exact h|2,_,h=>exact h|3,_,h=>exact h|4,_,h=>exact h|5,_,h=>exact h|_+7,_,h=>exact h.elim) (λb a=>aX8 l C a);have m:∀{j:Nat} {b:Nat},j≠6->R3 g r x j b->¬R3 g r x 6 b:=λA h=>s.off (j:=6) A h;refine⟨u,l,s.rp.outer.inS p,λQ D=>⟨E2 ((D.block g (s.lt (i:=0) rfl) λh=>m (j:=0) (by decide) rfl (n g h)).trans s.cb) rfl bl0,cQ7 (s.rp.outer.mod D λb a h=>s.rp.off i u l b h a) l bP0⟩,H,o,f,d,I,K,⟨o9.ext_of s.ext hm λb a=>s.new 6 b a,(hm.block g (s.lt (i:=0) rfl) (m (j:=0) (by decide) rfl)).trans s.cb,s.map.mod hm (m (j:=1) (by decide) rfl),?_,?_,?_,?_,L,F.1,F.2⟩,hm,B,n,λj b h=>by match j,h with|0,h=>exact .inl h|1,h=>exact .inl h|2,h=>exact .inl h|3,h=>exact .inl h|4,h=>exact .inl h|5,h=>exact .inl h|6,h=>exact aX8 l C h|_+7,h=>exact h.elim⟩
 ·exact s.oV.mod hm λb a=>m (j:=2) (by decide) a
 ·exact s.oE.mod hm λb a=>m (j:=3) (by decide) a
 ·exact s.oS.mod hm λb a=>m (j:=4) (by decide) a
 ·exact s.rn.mod hm λb a=>m (j:=5) (by decide) a
end
def dh7{h:Hp}{v:Value}{l:List (Int×Int)}{w:World}(hv:R h v l)(hw:B5 h (i4 w)){k:Nat}{x:Int×Int}(a:l[k]?=some x):(Instr.loadAt 218 (.pointer (some (G4 v (k*2))))).run prog w = .ok (.agg #[.int .i64 x.1,.int .i64 x.2]) w:=
 bM1 (P:=prog) (t:=218) hv hw a do2 dp9 cS9 cT6
def cV2{w:World}(a b:Int):∃c e d,(Instr.alloc 218 true (.tuple #[])).run prog w = .ok (.pointer (some ⟨c,0,none⟩)) e/\(Instr.storeAt 218 (.pointer (some ⟨c,0,none⟩)) (.agg #[.int .i64 a,.int .i64 b])).run prog e = .ok () d/\o7 w d/\d.heap[c]?=some (.cells #[.int .i64 a,.int .i64 b] 218 (0,0))/\w.heap.size<=c:=by
 obtain⟨f,g⟩:=aJ0 (P:=prog) (w:=w) (T:=218) dq3 rfl (cs:=#[.int .i64 a,.int .i64 b]) rfl (by simp[Value.oneCell']);exact⟨_,_,_,f,g,o7.alloc _ _,dQ5 w _,dO0 _⟩
def aA2{w d:World}{c:Nat}{a b:Int}(h:w.heap[c]?=some (.cells #[.int .i64 a,.int .i64 b] 218 (0,0))){M:Nat->Prop}(hm:o9 M w d)(f:¬M c):
  (Instr.loadAt 3 (.pointer (some ⟨c,0,none⟩))).run prog d = .ok (.int .i64 a) d/\(Instr.loadAt 3 (.pointer (some ⟨c,1,none⟩))).run prog d = .ok (.int .i64 b) d:=by
 have e:=(hm.block c (dN0.1 h).1 f).trans h;exact⟨E2 (i:=0) e rfl G3,E2 (i:=1) e rfl G3⟩
def aF8(ks:List Int):Array Value:=#[.bool (ks.contains 0),.bool (ks.contains 1),.bool (ks.contains 2),.bool (ks.contains 3),.bool (ks.contains 4),.bool (ks.contains 5),.bool (ks.contains 6)]
def de6{ks:List Int}{k:Nat}(c:k<7):(aF8 ks).setIfInBounds k (.bool true)=aF8 (ks++[(k:Int)]):=by
 have h:∀a b:Int,(ks++[a]).contains b=(ks.contains b||decide (b=a)):=λa b=>by
  rw[dY0,dX4,dO5,dO5,dN7,dP1,decide_eq_true_iff]
 match k,c with
 | 0,_=>simp[aF8,Array.setIfInBounds]
 | 1,_=>simp[aF8,Array.setIfInBounds]
 | 2,_=>simp[aF8,Array.setIfInBounds]
 | 3,_=>simp[aF8,Array.setIfInBounds]
 | 4,_=>simp[aF8,Array.setIfInBounds]
 | 5,_=>simp[aF8,Array.setIfInBounds]
 | 6,_=>simp[aF8,Array.setIfInBounds]
theorem de5{ks:List Int}{k:Nat}(a:k<7):(aF8 ks)[k]?=some (.bool (ks.contains (k:Int))):=by
 match k,a with
 | 0,_=>rfl
 | 1,_=>rfl
 | 2,_=>rfl
 | 3,_=>rfl
 | 4,_=>rfl
 | 5,_=>rfl
 | 6,_=>rfl
theorem bF7(S:List Bool)(k:Nat)(b:k<S.length):(((List.range (k+1)).filter λa=>S.getD a false).map λ(a:Nat)=>(a:Int))=(((List.range k).filter λa=>S.getD a false).map λ(a:Nat)=>(a:Int))++if S[k]=true then[(k:Int)]else[]:=by
 rw[dW7,dS4,dP6]
 congr 1
 rw[List.filter_cons,List.filter_nil,List.getD_eq_getElem?_getD,dM4 b,dR9];cases S[k]<;>rfl
def ck7(H:Hp)(va vs vk:Value)(N:List (List (Int×Int)))(S:List Bool)(ks:List Int)(w:World)(hH:B5 H (i4 w))(bJ:R H va N)(ag:A8 H w 4 vs S)(aJ:R H vk ks)(hA:OkA N.length N)(hl:N.length=S.length)
  (hn:S.length<=1000000000) (cf:∀k∈ks,1<=k/\k<=6) (c0:ks.length<=1000) :
  p7 prog 85 #[va,vs,vk] w λu F=>(A8 H F 4 vs (J2 (Z1 N ks) S)/\o9 (A3 vs) w F):=by
 refine p9 [va,vs,vk] func85 rfl ?_;obtain⟨ib,bw,aN⟩:=az9 (P:=prog) T5 aE1;have bi:(Instr.alloc 219 true (.tuple #[])).run prog w = .ok (.pointer (some ⟨w.heap.size,0,none⟩)) (w.alloc (.cells (aF8 []) 219)):=by rfl
 have bL:=o7.alloc w (.cells (aF8 []) 219);have aW:=dQ5 w (.cells (aF8 []) 219);have aQ:=λb (p:A3 vs b)=>ag.lt p;have bK:(w.alloc (.cells (aF8 []) 219)).heap.size=w.heap.size+1:=by simp
 generalize w.alloc (.cells (aF8 []) 219)=w1 at bi bL aW bK;have b6:=aJ.isS;have cj:=aJ.vlen;have b8:=ag.isS;have ck:=ag.vlen;simp only[m8,o6,simprocAttr,bi,b6,cj];refine n9 [0,1,2,6,15,16] (σ:=Nat) (λk f F=>f 17 = .int .i64 k/\k<=ks.length/\F.heap[w.heap.size]?=some (.cells (aF8 (ks.take k)) 219 (0,0))/\o9 (λb=>b=w.heap.size) w1 F) (λk=>ks.length-k) 0 ?_ ?_
 ·simp only[p8,simprocAttr];exact⟨by trivial,dN6 _,aW,o9.refl _⟩
 rintro k f w2 Y ⟨bd,cM,K,aZ⟩;simp only[dM6,p8,simprocAttr]at Y;obtain⟨e0,e1,e2,e6,bY,bZ,_⟩:=Y;have a7:o7 w w2:=o9.ext_of bL aZ λb p=>by rw[p];exact dO0 _
 simp only[m8,o6,simprocAttr,bd,bZ];refine n7 (λhc=>?_) (λhc=>?_)
 ·have o:k<ks.length:=by simpa using hc
  have af:=aJ.inS o;have O:=aF7 aJ (t8 hH (b7 a7)) o;obtain⟨aG,aH⟩:=cf _ (dN5 o);have A:=dN3 o;generalize ks[k]=q at O aG aH A;obtain⟨Q,rfl⟩:∃Q:Nat,q=(Q:Int):=⟨q.toNat,by omega⟩;have hQ:Q<7:=by omega
  have al:decide ((Q:Int)<7)=true:=by simp only[dQ3];omega
  obtain⟨w3,q1,q2,q3⟩:=ag5 (P:=prog) (t:=4) (x:=.bool true) (i:=Q) K hQ rfl rfl bw aN;rw[de6 hQ]at q2;simp only[m8,o6,y0,simprocAttr,bd,bY,e6,af,O,al,q1];refine⟨k+1,by omega,by rw[B0 k (by omega)],by omega,?_,aZ.trans q3⟩;rw[A];exact q2
 have ap:k=ks.length:=by simp at hc;omega
 subst ap;rw[dN8]at K;have bE:=ag.ext a7;clear aZ aW;simp only[m8,o6,simprocAttr,e1,b8,ck];refine n9 [0,1,6,24,25] (σ:=Nat×Value) (λs f F=>f 26 = .int .i64 s.1/\f 9=s.2/\s.1<=S.length/\A8 hZ F 3 s.2 (((List.range s.1).filter λa=>S.getD a false).map λ(a:Nat)=>(a:Int))/\(∀b,A3 s.2 b->w2.heap.size<=b)/\o7 w2 F) (λs=>S.length-s.1) (0,.slice none 0 0) ?_ ?_
 ·simp only[p8,simprocAttr];exact⟨by trivial,by trivial,dN6 _,A8.nil _ _ _,λb p=>absurd p D1,o9.refl _⟩
 rintro⟨k,v⟩ f3 w3 Y ⟨aE,h9,bz,aw,z,ac⟩;simp only at aE h9 bz aw z;simp only[dM6,p8,simprocAttr]at Y;obtain⟨g0,g1,g6,bb,b0,_⟩:=Y;rw[e0]at g0;rw[e1]at g1;rw[e6]at g6;have ay:=bE.ext ac;simp only[m8,o6,simprocAttr,aE,b0];refine n7 (λhc=>?_) (λhc=>?_)
 ·have o:k<S.length:=by simpa using hc
  have af:=ay.inS o;have O:(Instr.loadAt 4 (.pointer (some (G4 vs k)))).run prog w3 = .ok (.bool S[k]) w3:=D3 (P:=prog) ay (dM4 o) am6;have A:=bF7 S k o;generalize S[k]=sb at O A;rcases dM5 sb with h1|h1<;>subst h1
  ·simp only[dS6]at A;have cN:(((List.range k).filter λa=>S.getD a false).map λ(a:Nat)=>(a:Int)).length<=k:=by
    rw[dN4];refine dN1 (dP3 _ _) ?_;rw[dR3];exact dO0 _
   obtain⟨p1,u4,w4,p2,p3,p4,p5⟩:=push (P:=prog) (t:=24) (e:=24) U2 rfl aw (x:=.int .i64 (k:Int)) (y:=(k:Int)) rfl (by omega) (by omega) (X7 _);simp only[Value.cells]at p1 p2;simp only[m8,o6,y0,simprocAttr,aE,h9,bb,af,O,p1,p2];refine⟨(k+1,u4),by simp only[];omega,by simp only[];rw[B0 k (by omega)],by trivial,by simp only[];omega,?_,λb p=>?_,o9.ext_of ac p4 z⟩
   ·simp only[];rw[A];exact p3
   ·rcases p5 b p with h|h
    ·exact z b h
    ·exact dN1 ac.size h
  ·simp only[dS7,dU1,dP8]at A;simp only[m8,o6,y0,simprocAttr,aE,h9,bb,af,O];refine⟨(k+1,v),by simp only[];omega,by simp only[];rw[B0 k (by omega)],by trivial,by simp only[];omega,?_,z,ac⟩;simp only[];rw[A];exact aw
 have ap:k=S.length:=by simp at hc;omega
 subst ap;have a5:(((List.range S.length).filter λa=>S.getD a false).map λ(a:Nat)=>(a:Int))=af4 S:=rfl;rw[a5]at aw;have bD:(Z1 N ks).length=S.length:=by simp[Z1,hl]
 have aP:OkR (Z1 N ks):=cP7 hA;have aR:=λa b=>bV9 (R:=N) (ks:=ks) (a:=a) (b:=b);generalize c2:Z1 N ks=nx at bD aP aR;have bs:=(ac.block _ (dN0.1 K).1 id).trans K;have cL:w.heap.size<w2.heap.size:=(dN0.1 K).1;have bM:=a7.trans ac;have c3:(af4 S).length<=S.length:=by
  unfold af4;rw[dN4];refine dN1 (dP3 _ _) ?_;rw[dR3];exact dO0 _
 refine n9 [0,1,6] (σ:=Value×List Int×List Bool) (λs f F=>f 9=s.1/\A8 hZ F 3 s.1 s.2.1/\A8 H F 4 vs s.2.2/\(∀b,A3 s.1 b->w2.heap.size<=b)/\F.heap[w.heap.size]?=some (.cells (aF8 ks) 219 (0,0))/\o9 (A3 vs) w F/\w2.heap.size<=F.heap.size/\SpJ nx S s.2.1 s.2.2 (λ_=>False)/\s.2.1.length+s.2.2.count false<=2*S.length) (λs=>s.2.1.length+s.2.2.count false) (v,af4 S,S) ?_ ?_
 ·simp only[p8,simprocAttr];refine⟨h9,aw,ay,z,bs,bM.weaken λ_ _ h=>h.elim,ac.size,SpJ.start,?_⟩;have:=List.count_le_length (a:=false) (l:=S);omega
 rintro⟨v4,X,sn⟩ f4 w4 Y ⟨aS,aa,az,au,bt,a0,bI,hJ,bk⟩;simp only at aS aa az au hJ bk;simp only[dM6,p8,simprocAttr]at Y;obtain⟨r0,r1,r6,_⟩:=Y;rw[g0]at r0;rw[g1]at r1;rw[g6]at r6;have bh:=aa.isS;have a2:=aa.vlen;have cK:=aa.vcap;simp only[m8,o6,simprocAttr,aS,bh,a2];refine n7 (λhc=>?_) (λhc=>?_);rotate_left
 ·have cp:X=[]:=by
   have:¬(0:Int)<(X.length:Int):=by simpa using hc
   exact List.length_eq_zero_iff.1 (by omega)
  subst cp;have bv:=hJ.fin aP bD;simp only[m8,simprocAttr];refine bG3 results85 ?_;rw[<-bv];exact⟨az,a0⟩
 obtain⟨n,bB⟩:∃n,X.length=n+1:=⟨X.length-1,by have:(0:Int)<(X.length:Int):=by simpa using hc
                                              omega⟩
 obtain⟨td,c,rfl,c4,cq,cr⟩:=bt3 bB;obtain⟨bf,bq⟩:=hJ.pop;have br:=Y6 bq;rw[bf.len]at br;obtain⟨cV,cW⟩:=B3.1 br;obtain⟨C,rfl⟩:∃C:Nat,c=(C:Int):=⟨c.toNat,by omega⟩;have ct:IntKind.i64.wrap (((n+1:Nat):Int)-1)=(n:Int):=by rw[M3 _ (by omega)];omega
 rw[bB]at a2;have af:=aa.inS (k:=n) (by omega);have O:(Instr.loadAt 3 (.pointer (some (G4 v4 n)))).run prog w4 = .ok (.int .i64 (C:Int)) w4:=D3 (P:=prog) aa cq G3;obtain⟨aA,bl⟩:=bY4 (sz:=1) aa (i:=n) (by omega);rw[cr]at aA;have aU:decide ((n:Int)<=(vcap v4:Int))=true:=by simp;omega
 have av:∀b,A3 (reS v4 0 n 1) b->w2.heap.size<=b:=λb p=>au b ((bl b).1 p);generalize cs:reS v4 0 n 1=v5 at aA av;have aF:C<N.length:=by omega
 have b2:B5 H (i4 w4):=H5 hH a0 λb p=>ag.free p;obtain⟨uR,aC,cc⟩:=R.row bJ (dM4 aF);have bx:=bJ.inS aF;have cg:=H7 (P:=prog) (t:=216) cc b2 bP0;obtain⟨co,bH⟩:=hA _ (dN5 aF);have a6:∀b,b∈C9 nx (C:Int)↔∃k∈ks,(b,k)∈N[C]:=λb=>by
  rw[aR,dP0,List.getD_eq_getElem?_getD,dM4 aF,dR9];exact⟨λh=>h.2,λh=>⟨B3.2 ⟨by omega,by omega⟩,h⟩⟩
 generalize N[C]=B at aC co bH a6;have b5:=aC.isS;have ci:=aC.vlen;rw[dM7,dP7]at bk;simp only[m8,o6,y0,F8,simprocAttr,aS,bh,a2,ct,af,O,aU,cs,r0,bx,cg,b5,ci];refine n9 [0,1,6,54,55] (σ:=(Nat×Value)×(List Int×List Bool)) (λs f F=>f 56 = .int .i64 s.1.1/\f 9=s.1.2/\s.1.1<=B.length/\A8 hZ F 3 s.1.2 s.2.1/\A8 H F 4 vs s.2.2/\(∀b,A3 s.1.2 b->w2.heap.size<=b)/\F.heap[w.heap.size]?=some (.cells (aF8 ks) 219 (0,0))/\o9 (A3 vs) w F/\w2.heap.size<=F.heap.size/\SpJ nx S s.2.1 s.2.2 (λd=>d=(C:Int))/\A7 s.2.2 (C:Int)=true/\(∀t∈B.take s.1.1,t.2∈ks->A7 s.2.2 t.1=true)/\s.2.1.length+s.2.2.count false<=td.length+sn.count false) (λs=>B.length-s.1.1) ((0,v5),(td,sn)) ?_ ?_
 ·simp only[p8,simprocAttr];exact⟨by trivial,by trivial,dN6 _,aA,az,av,bt,a0,bI,bf,bq,λt ht=>by simp at ht,dO0 _⟩
 rintro⟨⟨j,v6⟩,aK,g⟩ f6 w6 Y ⟨ah,aj,ce,a3,ad,m,ao,a1,V,ae,J,I,Z⟩;simp only at ah aj ce a3 ad m ae J I Z;simp only[dM6,p8,simprocAttr]at Y;obtain⟨j0,j1,j6,a8,cv,_⟩:=Y;rw[r0]at j0;rw[r1]at j1;rw[r6]at j6;simp only[m8,o6,simprocAttr,ah,cv];refine n7 (λaT=>?_) (λaT=>?_);rotate_left
 ·have ap:j=B.length:=by simp at aT;omega
  subst ap;rw[dN8]at I;have b4:=ae.close (λd hd=>by
   obtain⟨k,Y,hm⟩:=(a6 d).1 hd;exact I _ hm Y)
  simp only[m8,simprocAttr];exact⟨(v6,aK,g),by simp only[];rw[dM7,dP7];omega,aj,a3,ad,m,ao,a1,V,b4,by simp only[];omega⟩
 have o:j<B.length:=by simpa using aT
 have aq:=aC.inS o;have be:B5 H (i4 w6):=H5 hH a1 λb p=>ag.free p;have T:=dh7 aC be (dM4 o);obtain⟨aX,aG,aH⟩:=bH _ (dN5 o);have aY:B[j].2∈ks->B[j].1∈C9 nx (C:Int):=λh=>(a6 _).2 ⟨B[j].2,h,dN5 o⟩;have A:=dN3 o;generalize B[j]=t at T aX aG aH aY A;obtain⟨d,q⟩:=t;simp only at T aX aG aH aY;obtain⟨Q,rfl⟩:∃Q:Nat,q=(Q:Int):=⟨q.toNat,by omega⟩;obtain⟨cX,cY⟩:=B3.1 aX;obtain⟨D,rfl⟩:∃D:Nat,d=(D:Int):=⟨d.toNat,by omega⟩;have hQ:Q<7:=by omega
 have al:decide ((Q:Int)<7)=true:=by simp only[dQ3];omega
 obtain⟨ca,de,w7,am,aB,W,bo,cJ⟩:=cV2 (w:=w6) (D:Int) (Q:Int);obtain⟨bN,a9⟩:=aA2 bo (o9.refl (M:=λ_=>False) w7) id;have L:=(W.block _ (dN0.1 ao).1 id).trans ao;have U:=E2 (P:=prog) (t:=4) L (de5 hQ) am6;have E:=ad.ext W;have a4:=a3.ext W;have G:o9 (A3 vs) w w7:=a1.trans (W.weaken λ_ _ h=>h.elim);have cO:=ae.len;have ak:D<g.length:=by omega
 have aO:=E.inS ak;have ar:(Instr.loadAt 4 (.pointer (some (G4 vs D)))).run prog w7 = .ok (.bool g[D]) w7:=D3 (P:=prog) E (dM4 ak) am6;have ax:H1 g.length (D:Int)=true:=B3.2 ⟨by omega,by omega⟩;have bj:A7 g (D:Int)=g[D]:=by
  rw[(N0 ax).2,dP0,List.getD,dM4 ak];rfl
 have aV:=Y7 (l:=g) ak;generalize g[D]=sb at ar bj aV;have ab:∀sn:List Bool,(∀e,A7 g e=true->A7 sn e=true)->((Q:Int)∈ks->A7 sn (D:Int)=true)->∀t∈B.take (j+1),t.2∈ks->A7 sn t.1=true:=λsn hm hd t ht Y=>by
  rw[A]at ht;rcases dN7.1 ht with ht|ht
  ·exact hm _ (I t ht Y)
  ·simp only[dP1]at ht;subst ht;exact hd Y
 rcases dM5 (ks.contains (Q:Int))with hq|hq;rotate_left
 ·rw[hq]at U;have cn:(Q:Int)∉ks:=λh=>by rw[dO5.2 h]at hq;cases hq
  simp only[m8,o6,y0,simprocAttr,ah,aj,a8,aq,T,am,aB,a9,j6,al,U];exact⟨((j+1,v6),(aK,g)),by simp only[];omega,by simp only[];rw[B0 j (by omega)],by trivial,by simp only[];omega,a4,E,m,L,G,dN1 V W.size,ae,J,ab g (λ_ h=>h) (λh=>absurd h cn),Z⟩
 rw[hq]at U;have cm:=dO5.1 hq;rcases dM5 sb with h1|h1<;>subst h1
 ·simp only[m8,o6,y0,simprocAttr,ah,aj,a8,j1,aq,T,am,aB,bN,a9,j6,al,U,aO,ar];exact⟨((j+1,v6),(aK,g)),by simp only[];omega,by simp only[];rw[B0 j (by omega)],by trivial,by simp only[];omega,a4,E,m,L,G,dN1 V W.size,ae,J,ab g (λ_ h=>h) (λ_=>bj),Z⟩
 have aV:=aV rfl;obtain⟨w8,s1,bF,r,cP⟩:=E4 (P:=prog) (t:=4) E rfl ak (x:=.bool true) (y:=true) rfl rfl bw aN;have bp:=aA2 bo r (λh=>by have:=E.lt h;have:=ad.lt h;omega);have aM:=(r.block _ (dN0.1 L).1 λh=>by have:=aQ _ h;omega).trans L;have bA:∀b,A3 v6 b->¬A3 vs b:=λb p cb=>by
  have:=m b p;have:=aQ b cb;omega
 have cl:=a4.mod r bA;obtain⟨p1,u9,w9,p2,p3,p4,p5⟩:=push (P:=prog) (t:=24) (e:=24) U2 rfl cl (x:=.int .i64 (D:Int)) (y:=(D:Int)) rfl (by omega) (by omega) (X7 _);simp only[Value.cells]at p1 p2;have bG:=bF.mod p4 λb p h=>bA b h p;have bu:=(p4.block _ (dN0.1 aM).1 λh=>by have:=m _ h;omega).trans aM;have bg:=ae.push J ax (aY cm);rw[dP0]at bg;have bn:∀e,A7 (g.set D true) e=if e=(D:Int)then true else A7 g e:=λe=>by
  have:=M6 (l:=g) (a:=(D:Int)) (b:=e) (v:=true) ax;rw[dP0]at this;exact this
 have bm:∀e,A7 g e=true->A7 (g.set D true) e=true:=λe he=>by rw[bn,he];simp
 have ch:o9 (A3 vs) w w9:=by
  refine⟨p4.os.trans (r.os.trans G.os),p4.tape.trans (r.tape.trans G.tape),p4.output.trans (r.output.trans G.output),dN1 G.size (dN1 r.size p4.size),λb p bC=>?_⟩;rw[p4.block b (dS9 p (dN1 G.size r.size)) λh=>by have:=m b h;omega,r.block b (dS9 p G.size) bC];exact G.block b p bC
 simp only[m8,o6,y0,simprocAttr,ah,aj,a8,j1,aq,T,am,aB,bN,a9,j6,al,U,aO,ar,s1,bp.1,p1,p2];refine⟨((j+1,u9),(aK++[(D:Int)],g.set D true)),by simp only[];omega,by simp only[];rw[B0 j (by omega)],by trivial,by simp only[];omega,p3,bG,λb p=>?_,bu,ch,dN1 (dN1 V W.size) (dN1 r.size p4.size),bg,bm _ J,ab _ bm λ_=>?_,?_⟩
 ·rcases p5 b p with h|h
  ·exact m b h
  ·exact dN1 (dN1 V W.size) (dN1 r.size h)
 ·rw[bn];simp
 ·simp only[dM7,dP7];omega
theorem bu0(n:Nat)(l:List Int):U5 n l=Z2 n l:=rfl
def ch9{n:Nat}(l:List Int){q:Nat}(a:q<n):(U5 n l).set q true=U5 n (l++[(q:Int)]):=by
 rw[bu0,aM1 l a,bu0];exact av2 λx=>by simp[or_comm]
section
variable {w1 w:World} {g r:Nat} {ab:Addr} {vP:Value} {x:WX} {c:WC}
def aR2(s:WS w1 w g r ab vP x c)(v:Value)(l:List Int)(hv:R (i4 w) v l)(X:∀a∈l,H1 c.V.length a=true)(hn:c.V.length<=1000000000)(Z:l.length<=1000000000):
  p7 prog 84 #[.pointer (some ⟨g,0,none⟩),v] w λu E=>(A8 (i4 w) E 4 u (U5 c.V.length l)/\o7 w E):=by
 refine p9 [.pointer (some ⟨g,0,none⟩),v] func84 rfl ?_;obtain⟨ib,L,o⟩:=az9 (P:=prog) T5 aE1;have lV:=s.ld (i:=2) (u:=x.vV) rfl af9;have H:=s.oV.isS;have z:=s.oV.vlen;generalize c.V.length=n at X hn z;obtain⟨vs,w2,O,S,T,_,_⟩:=mk (P:=prog) (w:=w) (h:=i4 w) (α:=Bool) bw9 T5 (y:=false) rfl (n:=n) (by omega) (by omega) (i5 _);have I:=hv.isS;have Q:=hv.vlen;simp only[m8,o6,simprocAttr,lV,H,z,O,I,Q];refine n9 [0,1,5,14,15] (σ:=Nat) (λk f E=>f 16 = .int .i64 k/\k<=l.length/\A8 (i4 w) E 4 vs (U5 n (l.take k))/\o7 w E) (λk=>l.length-k) 0 ?_ ?_
 ·simp only[p8,simprocAttr];refine⟨by trivial,dN6 _,?_,T⟩;rw[dX3,bu0,bF0];exact S
 rintro k f w3 W ⟨j,Y,b,e⟩;simp only[dM6,p8,simprocAttr]at W;obtain⟨e0,e1,U,F,G,_⟩:=W;simp only[m8,o6,simprocAttr,j,G];refine n7 (λJ=>?_) (λJ=>?_);rotate_left
 ·have K:k=l.length:=by simp at J;omega
  subst K;rw[dN8]at b;simp only[m8,simprocAttr,U];exact o8 results84 ⟨b,e⟩
 have d:k<l.length:=by simpa using J
 have M:=hv.inS d;have q:=aF7 hv (b7 e) d;have C:=X _ (dN5 d);have D:=dN3 d;generalize l[k]=a at q C D;obtain⟨h0,h1⟩:=B3.1 C;obtain⟨A,rfl⟩:∃A:Nat,a=(A:Int):=⟨a.toNat,by omega⟩;have V:A<n:=by omega
 have m:A<(U5 n (l.take k)).length:=by rw[G9];exact V
 have p:=b.inS m;obtain⟨w4,s1,B,N,_⟩:=E4 (P:=prog) (t:=4) b rfl m (x:=.bool true) (y:=true) rfl rfl L o;rw[ch9 _ V,<-D]at B;simp only[m8,o6,y0,simprocAttr,j,U,F,M,q,p,s1];exact⟨k+1,by omega,dO2 _ (B0 k (by omega)),by omega,B,b.ext2 e N⟩
def aZ2{w0:World}{d vs f:Value}{us:List U1}{N:List (List (Int×Int))}{S:List Bool}{ks:List Int}(t:I6 hZ w TAs TAr d us N)(l:∀b,L6 d us b->b<w0.heap.size)(p:A8 (i4 w0) w 4 vs S)(v:o7 w0 w)
  (o:A8 hZ w 3 f ks) (r:∀b,A3 f b->¬A3 vs b) (q:OkA N.length N) (s:N.length=S.length) (hn:S.length<=1000000000) (j:∀k∈ks,1<=k/\k<=6) (i:ks.length<=1000) :
  p7 prog 85 #[d,vs,f] w λu g=>(A8 (i4 w0) g 4 vs (J2 (Z1 N ks) S)/\o9 (A3 vs) w g/\o7 w0 g):=by
 have c:∀b,A3 vs b->w0.heap.size<=b:=λb a=>D0 (p.free a);have m:A8 (B6 w (A3 vs)) w 4 vs S:=(p.down (X7 _)).up (X7 _) λb a=>F2 a;refine(ck7 (B6 w (A3 vs)) d vs f N S ks w (B2 _ _) (t.roK (X7 _) λb a=>D8 λh=>?_) m (o.flatR λb a=>D8 (r b a)) q s hn j i).mono ?_
 ·have:=c b h;have:=l b a;omega
 ·rintro e g ⟨u,rfl,n,hm⟩;exact⟨u,rfl,(n.down (X7 _)).up (X7 _) λb a=>aV5 (c b a),hm,o9.ext_of v hm c⟩
def cv5(s:WS w1 w g r ab vP x c)(a:Nat)(I:a<c.V.length)(C:OkA c.P.length c.P)(D:c.P.length=c.V.length)(hn:c.V.length<=1000000000):
  p7 prog 82 #[.pointer (some ⟨g,0,none⟩),.int .i64 a] w λu B=>(A8 (i4 w) B 4 u (J2 (Z1 c.P [1,2,3]) (U5 c.V.length [(a:Int)]))/\o7 w B):=by
 refine p9 [.pointer (some ⟨g,0,none⟩),.int .i64 a] func82 rfl ?_;obtain⟨G,K,p,t,e,_⟩:=lit (P:=prog) (w:=w) (h:=i4 w) (α:=Int) (xs:=[.int .i64 a]) (ys:=[(a:Int)]) (parts:=#[(0,.int .i64 a)]) (n:=1) U2 rfl (G5.2 rfl) (by simp[Value.cells]) rfl rfl (by simp) (by simp) (i5 _);have A:=s.more e;simp only[m8,o6,simprocAttr,p];refine y5 (aR2 A G [(a:Int)] (t.rw_ (b7 e)) (λb k=>by simp only[dP1]at k;subst k;exact B3.2 ⟨by omega,by omega⟩) hn (by simp)) ?_;rintro u H ⟨d,l⟩;have f:=e.trans l;have d:=d.back e;have F:=A.more l;have E:=F.ld (i:=7) (u:=x.vp) rfl bl0;obtain⟨J,L,q,v,j,o⟩:=lit (P:=prog) (w:=H) (h:=hZ) (α:=Int) (xs:=[.int .i64 1,.int .i64 2,.int .i64 3]) (ys:=[1,2,3]) (parts:=#[(0,.int .i64 1),(1,.int .i64 2),(2,.int .i64 3)]) (n:=3) U2 rfl (G5.2 rfl) (by simp[Value.cells]) rfl rfl (by simp) (by simp) (X7 _);simp only[m8,o6,simprocAttr,E,q];refine y5 (aZ2 ((s.rp).ext (f.trans j)) (λb k=>s.lt (i:=6) k) (d.ext j) (f.trans j) v (λb k m=>by have:=d.lt m;have:=o b k;omega) C (by rw[D,G9]) (by rw[G9];exact hn) (by simp) (by simp)) ?_;rintro _ M ⟨y,_,z⟩;simp only[m8,simprocAttr];exact o8 results82 ⟨y,z⟩
def bI6(s:WS w1 w g r ab vP x c)(v:Value)(l:List Int)(hv:R (i4 w) v l)(B:∀a∈l,H1 c.V.length a=true)(y:l.length<=1000000000)(H:OkA c.P.length c.P)(I:c.P.length=c.V.length)(hn:c.V.length<=1000000000):
  p7 prog 51 #[.pointer (some ⟨g,0,none⟩),v] w λu J=>(A8 (i4 w) J 4 u (J2 (Z1 c.P [1,2,3,6]) (J2 (Z1 c.P [1,2,3,4,5]) (U5 c.V.length l)))/\o7 w J):=by
 refine p9 [.pointer (some ⟨g,0,none⟩),v] func51 rfl ?_;simp only[m8,o6,simprocAttr];refine y5 (aR2 s v l hv B hn y) ?_;rintro u M ⟨p,f⟩;have K:=s.more f;have G:=K.ld (i:=7) (u:=x.vp) rfl bl0;obtain⟨O,S,z,C,j,q⟩:=lit (P:=prog) (w:=M) (h:=hZ) (α:=Int) (xs:=[.int .i64 1,.int .i64 2,.int .i64 3,.int .i64 4,.int .i64 5]) (ys:=[1,2,3,4,5]) (parts:=#[(0,.int .i64 1),(1,.int .i64 2),(2,.int .i64 3),(3,.int .i64 4),(4,.int .i64 5)]) (n:=5) U2 rfl (G5.2 rfl) (by simp[Value.cells]) rfl rfl (by simp) (by simp) (X7 _);simp only[m8,o6,simprocAttr,G,z];refine y5 (aZ2 ((s.rp).ext (f.trans j)) (λb d=>s.lt (i:=6) d) (p.ext j) (f.trans j) C (λb d e=>by have:=p.lt e;have:=q b d;omega) H (by rw[I,G9]) (by rw[G9];exact hn) (by simp) (by simp)) ?_;rintro _ N ⟨o,_,k⟩;have L:=s.more k;have G:=L.ld (i:=7) (u:=x.vp) rfl bl0;obtain⟨Q,T,A,D,m,t⟩:=lit (P:=prog) (w:=N) (h:=hZ) (α:=Int) (xs:=[.int .i64 1,.int .i64 2,.int .i64 3,.int .i64 6]) (ys:=[1,2,3,6]) (parts:=#[(0,.int .i64 1),(1,.int .i64 2),(2,.int .i64 3),(3,.int .i64 6)]) (n:=4) U2 rfl (G5.2 rfl) (by simp[Value.cells]) rfl rfl (by simp) (by simp) (X7 _);simp only[m8,o6,simprocAttr,G,A];refine y5 (aZ2 ((s.rp).ext (k.trans m)) (λb d=>s.lt (i:=6) d) (o.ext m) (k.trans m) D (λb d e=>by have:=o.lt e;have:=t b d;omega) H (by rw[I,K0,G9]) (by rw[K0,G9];exact hn) (by simp) (by simp)) ?_;rintro _ U ⟨E,_,F⟩;simp only[m8,simprocAttr];exact o8 results51 ⟨E,F⟩
def bQ3(s:WS w1 w g r ab vP x c)(v:Value)(l:List Int)(hv:R (i4 w) v l)(B:∀a∈l,H1 c.V.length a=true)(y:l.length<=1000000000)(H:OkA c.N.length c.N)(I:c.N.length=c.V.length)(hn:c.V.length<=1000000000):
  p7 prog 52 #[.pointer (some ⟨g,0,none⟩),v] w λu J=>(A8 (i4 w) J 4 u (J2 (Z1 c.N [1,2,3,4,5]) (J2 (Z1 c.N [1,2,3,6]) (U5 c.V.length l)))/\o7 w J):=by
 refine p9 [.pointer (some ⟨g,0,none⟩),v] func52 rfl ?_;simp only[m8,o6,simprocAttr];refine y5 (aR2 s v l hv B hn y) ?_;rintro u M ⟨p,f⟩;have K:=s.more f;have G:=K.ld (i:=6) (u:=x.vn) rfl bl0;obtain⟨O,S,z,C,j,q⟩:=lit (P:=prog) (w:=M) (h:=hZ) (α:=Int) (xs:=[.int .i64 1,.int .i64 2,.int .i64 3,.int .i64 6]) (ys:=[1,2,3,6]) (parts:=#[(0,.int .i64 1),(1,.int .i64 2),(2,.int .i64 3),(3,.int .i64 6)]) (n:=4) U2 rfl (G5.2 rfl) (by simp[Value.cells]) rfl rfl (by simp) (by simp) (X7 _);simp only[m8,o6,simprocAttr,G,z];refine y5 (aZ2 ((s.rn).ext (f.trans j)) (λb d=>s.lt (i:=5) d) (p.ext j) (f.trans j) C (λb d e=>by have:=p.lt e;have:=q b d;omega) H (by rw[I,G9]) (by rw[G9];exact hn) (by simp) (by simp)) ?_;rintro _ N ⟨o,_,k⟩;have L:=s.more k;have G:=L.ld (i:=6) (u:=x.vn) rfl bl0;obtain⟨Q,T,A,D,m,t⟩:=lit (P:=prog) (w:=N) (h:=hZ) (α:=Int) (xs:=[.int .i64 1,.int .i64 2,.int .i64 3,.int .i64 4,.int .i64 5]) (ys:=[1,2,3,4,5]) (parts:=#[(0,.int .i64 1),(1,.int .i64 2),(2,.int .i64 3),(3,.int .i64 4),(4,.int .i64 5)]) (n:=5) U2 rfl (G5.2 rfl) (by simp[Value.cells]) rfl rfl (by simp) (by simp) (X7 _);simp only[m8,o6,simprocAttr,G,A];refine y5 (aZ2 ((s.rn).ext (k.trans m)) (λb d=>s.lt (i:=5) d) (o.ext m) (k.trans m) D (λb d e=>by have:=o.lt e;have:=t b d;omega) H (by rw[I,K0,G9]) (by rw[K0,G9];exact hn) (by simp) (by simp)) ?_;rintro _ U ⟨E,_,F⟩;simp only[m8,simprocAttr];exact o8 results52 ⟨E,F⟩
def dk6(s:WS w1 w g r ab vP x c)(y:Vx):
  p7 prog 53 #[.pointer (some ⟨g,0,none⟩),.agg (A0.cells y).toArray] w λu e=>(u = .tuple #[(ai3 c.kv y).getD (.int .i64 0),.bool (ai3 c.kv y).isSome]/\o7 w e):=by
 refine p9 [.pointer (some ⟨g,0,none⟩),.agg (A0.cells y).toArray] func53 rfl ?_;obtain⟨t,i,l,j,k⟩:=bJ7 (w:=w) (λ_=>False) (SV.ofN (i4 w) y) λb n=>n.elim;have m:=s.more (j.trans (o7.drew i));have o:=(K7.vx_v (SV.ofN (i4 w) y) k).2 (λe=>e=i.drew) i.drew rfl λe h=>by subst h;exact B2 i _
 have p:∀K f d a,F3 prog (λe=>e=i.drew) (Instr.loadAt 88 (.pointer (some ⟨g,5,none⟩))) K f d a=K (C4 f d (.map (some r))) a:=λK f d a=>B7 (w0:=i.drew) rfl λe h=>by subst h;exact m.ld rfl cb8
 have q:∀K f d a,F3 prog (λe=>e=i.drew) (Instr.lookup 88 (.map (some r)) (.agg (A0.cells y).toArray) true) K f d a=K (C4 f d (.tuple #[(ai3 c.kv y).getD (.int .i64 0),.bool (ai3 c.kv y).isSome])) a:=λK f d a=>B7 (w0:=i.drew) rfl λe h=>by subst h;exact m.lookOk y
 simp only[m8,o6,simprocAttr,l];refine C0 (λe=>e=i.drew) 10 (A5 [0,1,2,3,4,5,6,7,8,9]) ?_;simp only[D6,A5,m8,o6,simprocAttr,o,p,q];exact T3 results53 ⟨rfl,j.trans (o7.drew i)⟩
theorem bF6(V:List Vx)(v:Vx):∀(c:List Vx),P7 V (c++[v])=match P7 V c,atV V v with
  | some l,some a=>some (l++[(a:Int)])
  | _,_=>none
 | []=>by
  simp only[dX5,P7];cases atV V v<;>rfl
 | u::c=>by
  have d:=bF6 V v c;simp only[dX6,P7,d];cases atV V u with
  | none=>rfl
  | some b=>
   cases P7 V c with
   | none=>rfl
   | some l=>cases atV V v<;>rfl
def bg4(s:WS w1 w g r ab vP x c)(X:c.kv=au5 c.V)(v:Value)(vs:List Vx)(hv:R (i4 w) v vs)(hl:vs.length<=1000000000):
  p7 prog 48 #[.pointer (some ⟨g,0,none⟩),v] w λu i=>((P7 c.V vs=none->u = .tuple #[.slice none 0 0,.bool false])/\(∀l,P7 c.V vs=some l->∃v',u = .tuple #[v',.bool true]/\A8 (i4 w) i 3 v' l)/\o7 w i):=by
 refine p9 [.pointer (some ⟨g,0,none⟩),v] func48 rfl ?_;have S:=hv.isS;have aa:=hv.vlen;simp only[m8,o6,simprocAttr,S,aa];refine n9 [0,11,12] (σ:=Nat×Value×List Int) (λt f i=>f 13 = .int .i64 t.1/\f 6=t.2.1/\t.1<=vs.length/\P7 c.V (vs.take t.1)=some t.2.2/\t.2.2.length=t.1/\A8 (i4 w) i 3 t.2.1 t.2.2/\o7 w i) (λt=>vs.length-t.1) (0,.slice none 0 0,[]) ?_ ?_
 ·simp only[p8,simprocAttr];exact⟨by trivial,by trivial,dN6 _,rfl,rfl,A8.nil _ _ _,o9.refl _⟩
 rintro⟨k,u,l⟩ f w2 hk ⟨n,Q,W,o,Y,ho,B⟩;simp only at n Q W o Y ho;simp only[dM6,p8,simprocAttr]at hk;obtain⟨e0,F,O,_⟩:=hk;simp only[m8,o6,simprocAttr,n,O];refine n7 (λU=>?_) (λU=>?_);rotate_left
 ·have V:k=vs.length:=by simp at U;omega
  subst V;rw[dN8]at o;simp only[m8,simprocAttr,Q];refine T3 results48 ?_;simp only[p8,simprocAttr];refine⟨λh=>?_,λl' h=>?_,B⟩
  ·rw[o]at h;cases h
  ·rw[o]at h;obtain rfl:=dO3 h;exact⟨u,by trivial,ho⟩
 have A:k<vs.length:=by simpa using U
 have I:=hv.inS A;obtain⟨sv,M,z⟩:=F9 (P:=prog) (t:=26) hv (b7 B) (dM4 A) at6 at9 an8 O9;rw[O9]at z;have N:=dN3 A;have C:=dN5 A;have p:=bF6 c.V vs[k] (vs.take k);rw[<-N,o]at p;generalize vs[k]=y at M z N C p;obtain rfl:=M.N;obtain⟨a3,wz,m,G,L,D,T⟩:=aw0 (w:=w2) (λ_=>False) (SV.ofN (i4 w2) y) λb hb=>hb.elim;have s3:=s.more ((B.trans D).trans (o7.drew m));have H:=aV0 c.V y;have t1:=(K7.vx_v (SV.ofN (i4 w2) y) T).2 (λi=>i=m.drew) m.drew rfl λi h=>by subst h;exact B2 m _
 have t2:∀K f d j,F3 prog (λi=>i=m.drew) (Instr.loadAt 88 (.pointer (some ⟨g,5,none⟩))) K f d j=K (C4 f d (.map (some r))) j:=λK f d j=>B7 (w0:=m.drew) rfl λi h=>by subst h;exact s3.ld rfl cb8
 have E:∀K f d j,F3 prog (λi=>i=m.drew) (Instr.lookup 88 (.map (some r)) (.agg (A0.cells y).toArray) true) K f d j=K (C4 f d (.tuple #[(ai3 c.kv y).getD (.int .i64 0),.bool (ai3 c.kv y).isSome])) j:=λK f d j=>B7 (w0:=m.drew) rfl λi h=>by subst h;exact s3.lookOk y
 rw[X,H]at E;have q:=(B.trans D).trans (o7.drew m);cases ha:atV c.V y with
 | none=>
  rw[ha]at p E;simp only[Option.map_none,Option.getD_none,Option.isSome_none]at E;simp only[m8,o6,y0,simprocAttr,n,F,I,z,G,L];refine C0 (λi=>i=m.drew) 10 (A5 [0,1,2,3,4,5,6,7,8,9]) ?_;simp only[D6,A5,m8,o6,simprocAttr,e0,t1,t2,E];refine T3 results48 ?_;simp only[p8,simprocAttr];have Z:P7 c.V vs=none:=aM6.2 ⟨y,C,λh=>by rw[<-ag3,ha]at h;cases h⟩;exact⟨λ_=>by trivial,λl' h=>(by rw[Z]at h;cases h),q⟩
 | some a=>
  rw[ha]at p E;simp only[dS5,dR9,Option.isSome_some]at E;have J:=ho.ext (D.trans (o7.drew m));obtain⟨p1,u4,w4,p2,p3,p4,_⟩:=push (P:=prog) (t:=24) (e:=24) U2 rfl J (x:=.int .i64 (a:Int)) (y:=(a:Int)) rfl (by omega) (by omega) (b7 q);simp only[Value.cells]at p1 p2;simp only[m8,o6,y0,simprocAttr,n,F,I,z,G,L];refine C0 (λi=>i=m.drew) 10 (A5 [0,1,2,3,4,5,6,7,8,9]) ?_;simp only[D6,A5,m8,o6,simprocAttr,e0,n,Q,t1,t2,E,p1,p2];exact⟨(k+1,u4,l++[(a:Int)]),by omega,dO2 _ (B0 k (by omega)),by trivial,by omega,p,by simp only[dM7,dP7];omega,p3,J.ext2 q p4⟩
def bW3(V:List Vx)(S:List Bool)(k:Nat)(b:k<S.length)(c:S.length=V.length):((((List.range (k+1)).filter λa=>S.getD a false).map λ(a:Nat)=>(a:Int)).filterMap λi=>V[i.toNat]?)=((((List.range k).filter λa=>S.getD a false).map λ(a:Nat)=>(a:Int)).filterMap λi=>V[i.toNat]?)++if S[k]=true then[V[k]]else[]:=by
 rw[bF7 S k b,List.filterMap_append]
 congr 1
 cases S[k]with
 | false=>rfl
 | true=>
  simp only[dS6,List.filterMap_cons,dP0,List.filterMap_nil];rw[dM4 (by omega)]
def bo2(s:WS w1 w g r ab vP x c)(v:Value)(S:List Bool)(hv:R (i4 w) v S)(Y:S.length=c.V.length)(hn:c.V.length<=1000000):
  p7 prog 49 #[.pointer (some ⟨g,0,none⟩),v] w λu F=>(A8 (i4 w) F 26 u (J4 c.V S)/\o7 w F):=by
 refine p9 [.pointer (some ⟨g,0,none⟩),v] func49 rfl ?_;have K:=hv.isS;have N:=hv.vlen;have U:=s.rV;have n:=λk H=>bW3 c.V S k H Y;have j:J4 c.V S=((((List.range S.length).filter λa=>S.getD a false).map λ(a:Nat)=>(a:Int)).filterMap λi=>c.V[i.toNat]?):=rfl;have m:∀k,k<=S.length->((((List.range k).filter λa=>S.getD a false).map λ(a:Nat)=>(a:Int)).filterMap λi=>c.V[i.toNat]?).length<=k:=λk _=>by
  refine dN1 (List.length_filterMap_le _ _) ?_;rw[dN4];refine dN1 (dP3 _ _) ?_;rw[dR3];exact dO0 _
 have I:∃W:Nat->List Vx,(∀k,W k=((((List.range k).filter λa=>S.getD a false).map λ(a:Nat)=>(a:Int)).filterMap λi=>c.V[i.toNat]?)):=⟨_,λ_=>rfl⟩;obtain⟨O,z⟩:=I;simp only[<-z]at n j m;have J:O 0=[]:=by rw[z];rfl
 simp only[m8,o6,simprocAttr,K,N];refine n9 [0,8,9] (σ:=Nat×Value) (λt f F=>f 10 = .int .i64 t.1/\f 5=t.2/\t.1<=S.length/\A8 (i4 w) F 26 t.2 (O t.1)/\o7 w F) (λt=>S.length-t.1) (0,.slice none 0 0) ?_ ?_
 ·simp only[p8,simprocAttr];exact⟨by trivial,by trivial,dN6 _,by rw[J];exact A8.nil _ _ _,o9.refl _⟩
 rintro⟨k,u⟩ f V H ⟨h,G,C,D,b⟩;simp only at h G C D;simp only[dM6,p8,simprocAttr]at H;obtain⟨e0,Q,X,_⟩:=H;simp only[m8,o6,simprocAttr,h,X];refine n7 (λL=>?_) (λL=>?_);rotate_left
 ·have M:k=S.length:=by simp at L;omega
  subst M;simp only[m8,simprocAttr,G];exact o8 results49 ⟨by rw[j];exact D,b⟩
 have q:k<S.length:=by simpa using L
 have A:=hv.inS q;have p:(Instr.loadAt 4 (.pointer (some (G4 v k)))).run prog V = .ok (.bool S[k]) V:=M4 (P:=prog) (t:=4) hv (b7 b) (dM4 q) am6;have d:=n k q;have o:k<c.V.length:=by omega
 have Z:=m k C;generalize S[k]=sb at p d;rcases dM5 sb with T|T<;>subst T
 ·simp only[dS6]at d;have s2:=s.more b;have l2:=s2.ld (i:=2) (u:=x.vV) rfl af9;have B:=U.inS o;obtain⟨sv,E,l⟩:=F9 (P:=prog) (t:=26) U (b7 b) (dM4 o) at6 at9 an8 O9;rw[O9]at l;generalize c.V[k]=y at E d;obtain rfl:=E.N;obtain⟨p1,u4,w4,p2,p3,p4,_⟩:=push (P:=prog) (t:=22) (e:=22) bk1 rfl D (x:=.agg (A0.cells y).toArray) (y:=y) ((A0.iff_ _ _ _).2 rfl) (by omega) (by omega) (b7 b);simp only[m8,o6,y0,simprocAttr,h,G,e0,Q,A,p,l2,B,l,p1,p2];exact⟨(k+1,u4),by omega,dO2 _ (B0 k (by omega)),by trivial,by omega,by rw[d];exact p3,D.ext2 b p4⟩
 ·simp only[dS7,dU1,dP8]at d;simp only[m8,o6,y0,simprocAttr,h,G,Q,A,p];exact⟨(k+1,u),by omega,dO2 _ (B0 k (by omega)),by trivial,by omega,by rw[d];exact D,b⟩
end
def bR6(a b:Int):B8 prog 218 [(0,.int .i64 a),(1,.int .i64 b)]=some (.agg #[.int .i64 a,.int .i64 b]):=by
 simp[B8,dp0,K8,Instr.fill,Value.cells]
section
variable {w1 w:World} {g r:Nat} {ab:Addr} {vP:Value} {x:WX} {c:WC}
def cr0(s:WS w1 w g r ab vP x c)(ak:c.kv=au5 c.V)(L:List Eg)(hN:c.N=V7 c.V L)(hP:c.P=T9 c.V L)(h0:0<c.V.length)(hn:c.V.length<=1000000000)(hL:L.length<=1000000000)(e:Eg):
  p7 prog 81 #[.pointer (some ⟨g,0,none⟩),.agg (A0.cells e).toArray] w λ_ j=>(∃t p:U1,WS w1 j g r ab vP {x with un:=x.un.set (E9 c.V e.src) t,up:=x.up.set (E9 c.V e.dst) p} {c with N:=V7 c.V (L++[e]),P:=T9 c.V (L++[e])}/\o9 (λb=>R3 g r x 5 b\/R3 g r x 6 b) w j /\
   ∀i b,R3 g r {x with un:=x.un.set (E9 c.V e.src) t,up:=x.up.set (E9 c.V e.dst) p} i b->R3 g r x i b\/w.heap.size<=b):=by
 refine p9 [.pointer (some ⟨g,0,none⟩),.agg (A0.cells e).toArray] func81 rfl ?_;obtain⟨be,k,aj,z,ae⟩:=cY6 (w:=w) (λb=>∃i,R3 g r x i b) (SV.ofN (i4 w) e) λb ⟨i,m⟩=>s.lt m;obtain⟨us,ud,T,ad,S,ac,_,Z⟩:=K7.eg (SV.ofN (i4 w) e) ae;obtain rfl:=T.N;obtain rfl:=S.N;have s2:=s.more (z.trans (o7.drew k));have hA:=bn1 h0 e.src;have hB:=bn1 h0 e.dst;have n:=bF4 (L:=L) hA;have o:=cC9 (L:=L) hB;have v:=ci5 (V:=c.V) L e;have y:=cj2 (V:=c.V) L e;have k1:=s2.look e.src;have k2:=s2.look e.dst;rw[ak,dm6]at k1 k2;rw[<-hN]at n v;rw[<-hP]at o y;have I:((L.filter λx=>decide (E9 c.V x.src=E9 c.V e.src)).map λx=>(((E9 c.V x.dst:Nat):Int),x.kind)).length<=1000000000:=by
  rw[dN4];exact dN1 (dP3 _ _) hL
 have J:((L.filter λx=>decide (E9 c.V x.dst=E9 c.V e.dst)).map λx=>(((E9 c.V x.src:Nat):Int),x.kind)).length<=1000000000:=by
  rw[dN4];exact dN1 (dP3 _ _) hL
 generalize((L.filter λx=>decide (E9 c.V x.src=E9 c.V e.src)).map λx=>(((E9 c.V x.dst:Nat):Int),x.kind))=rowN at n v I;generalize((L.filter λx=>decide (E9 c.V x.dst=E9 c.V e.dst)).map λx=>(((E9 c.V x.src:Nat):Int),x.kind))=rowP at o y J;rw[v,y];generalize E9 c.V e.src=A at hA n k1 ⊢;generalize E9 c.V e.dst=B at hB o k2 ⊢;have t1:=(K7.vx_v T ad).2 (λj=>j=k.drew) k.drew rfl λj h=>by subst h;exact B2 k _
 have t2:=(K7.vx_v S ac).2 (λj=>j=k.drew) k.drew rfl λj h=>by subst h;exact B2 k _
 have t3:∀K f d a,F3 prog (λj=>j=k.drew) (Instr.loadAt 88 (.pointer (some ⟨g,5,none⟩))) K f d a=K (C4 f d (.map (some r))) a:=λK f d a=>B7 (w0:=k.drew) rfl λj h=>by subst h;exact s2.ld rfl cb8
 have t4:∀K f d a,F3 prog (λj=>j=k.drew) (Instr.lookup 88 (.map (some r)) (.agg (A0.cells e.src).toArray) false) K f d a=K (C4 f d (.int .i64 (A:Int))) a:=λK f d a=>B7 (w0:=k.drew) rfl λj h=>by subst h;exact k1
 have t5:∀K f d a,F3 prog (λj=>j=k.drew) (Instr.lookup 88 (.map (some r)) (.agg (A0.cells e.dst).toArray) false) K f d a=K (C4 f d (.int .i64 (B:Int))) a:=λK f d a=>B7 (w0:=k.drew) rfl λj h=>by subst h;exact k2
 simp only[m8,o6,simprocAttr,aj];refine C0 (λj=>j=k.drew) 15 (A5 [0,1,2,3,4,5,6,7,8,9,10,11,12,13,14]) ?_;simp only[D6,A5,m8,o6,simprocAttr,t1,t2,t3,t4,t5];have s3:=s2.more (o7.drew k.drew);obtain⟨t,aD,G,E,b1,v1,w4,l,C,aq,s5,M,al,X,Q⟩:=s3.arcN (i:=A) n ((B:Int),e.kind) I (e:=216);simp only[]at b1 C;have q1:∀K f d a,F3 prog (λj=>o9 (A3 t.v) k.drew.drew j) (Instr.loadAt 89 (.pointer (some ⟨g,6,none⟩))) K f d a=K (C4 f d x.vn) a:=λK f d a=>B7 (w0:=k.drew.drew) (o9.refl _) λj h=>(E j h).1;have q2:∀K f d a,F3 prog (λj=>o9 (A3 t.v) k.drew.drew j) (Instr.loadAt 216 (.pointer (some (G4 x.vn A)))) K f d a=K (C4 f d t.v) a:=λK f d a=>B7 (w0:=k.drew.drew) (o9.refl _) λj h=>(E j h).2;have u:o7 k k.drew.drew:=(o7.drew k).trans (o7.drew k.drew);have q3:=Z (λj=>o9 (A3 t.v) k.drew.drew j) k.drew.drew (o9.refl _) λj h=>H5 (t8 (B2 k _) (b7 u)) h λb m=>F2 ⟨5,X b m⟩;have ag:=bR6 (B:Int) e.kind;refine C0 (λj=>o9 (A3 t.v) k.drew.drew j) 18 (A5 [0,1,2,3,4,5,6,7,8,9,10,11,12,13,14,15,16,17]) ?_;simp only[D6,A5,m8,o6,y0,simprocAttr,q1,q2,q3,G,ag,b1,C,E8];refine⟨o9.up (o7.alloc _ _),al,?_⟩;have s6:=s5.more (o7.drew l);obtain⟨p,aE,H,F,b2,v2,w7,w8,D,ar,s8,an,am,Y,R⟩:=s6.arcP (i:=B) o ((A:Int),e.kind) J (e:=216);simp only[]at b2 D;have r1:∀K f d a,F3 prog (λj=>o9 (A3 p.v) l.drew j) (Instr.loadAt 89 (.pointer (some ⟨g,7,none⟩))) K f d a=K (C4 f d x.vp) a:=λK f d a=>B7 (w0:=l.drew) (o9.refl _) λj h=>(F j h).1;have r2:∀K f d a,F3 prog (λj=>o9 (A3 p.v) l.drew j) (Instr.loadAt 216 (.pointer (some (G4 x.vp B)))) K f d a=K (C4 f d p.v) a:=λK f d a=>B7 (w0:=l.drew) (o9.refl _) λj h=>(F j h).2;have q:o9 (R3 g r x 5) k l:=(u.weaken λ_ _ h=>h.elim).trans M;have O:o9 (R3 g r x 5) k l.drew:=q.trans ((o7.drew l).weaken λ_ _ h=>h.elim);have af:∀b,A3 p.v b->R3 g r x 6 b:=λb m=>Y b m;have r3:=Z (λj=>o9 (A3 p.v) l.drew j) l.drew (o9.refl _) λj h=>H5 (H5 (B2 k _) O λb m=>F2 ⟨5,m⟩) h λb m=>F2 ⟨6,af b m⟩;have ah:=bR6 (A:Int) e.kind;simp only[m8,simprocAttr,aq];refine C0 (λj=>o9 (A3 p.v) l.drew j) 18 (A5 [0,1,2,3,4,5,6,7,8,9,10,11,12,13,14,15,16,17]) ?_;simp only[D6,A5,m8,o6,y0,simprocAttr,r1,r2,r3,H,ah,b2,D,E8];refine⟨o9.up (o7.alloc _ _),am,?_⟩;simp only[m8,simprocAttr,ar];refine bG3 results81 ?_;refine⟨⟨v1⟩,⟨v2⟩,s8,?_,?_⟩
 ·have h1:o9 (λb=>R3 g r x 5 b\/R3 g r x 6 b) w l:=(z.weaken λ_ _ h=>h.elim).trans (q.weaken λ_ _ h=>.inl h);have h2:o9 (λb=>R3 g r x 5 b\/R3 g r x 6 b) l w8:=((o7.drew l).weaken λ_ _ h=>h.elim).trans (an.weaken λ_ _ h=>.inr h);exact h1.trans h2
 ·intro i b m;have U:w.heap.size<=k.drew.drew.heap.size:=(z.trans u).size;have W:k.drew.drew.heap.size<=l.drew.heap.size:=(M.trans ((o7.drew l).weaken λ_ _ h=>h.elim)).size;rcases R i b m with h|h
  ·rcases Q i b h with h|h
   ·exact .inl h
   ·exact .inr (dN1 U h)
  ·exact .inr (dN1 U (dN1 W h))
def cv7{p:Pg}(s:WS w1 w g r ab vP x c)(hb:At (i4 w1) ab (d9 p))(T:D4 p)(hw:C5 p<=1000000){id:Int}(h1:1<=id)(h2:id<=(b9 p).l.length):
  p7 prog 140 #[.pointer (some ⟨g,0,none⟩),.int .i64 id] w λu a=>(u = .bool ((d9 p).isCall id)/\o7 w a):=by
 refine p9 [.pointer (some ⟨g,0,none⟩),.int .i64 id] func140 rfl ?_;obtain⟨i,R,I,l,o⟩:=co2 T.may hw h1 h2;obtain⟨xx,X⟩:=J5 T.may hw i R;have e:=X.ids _ I;have z:=P2 X;generalize xx+A9 p.procs[i].body=y at X z e;have ad:=J1 T.may;obtain⟨sh,vw,_,_,_,_,has,N,_,_,_,_,V,Z⟩:=hb.book rfl;obtain⟨vl,_,_,M,_,_,_,W,_⟩:=has.sh;obtain⟨aw,S,G⟩:=am9 (hv:=N) (k:=i) (p:=⟨D5 (b9 p) i⟩) (by show((I0 p).map λw=>(⟨w⟩:Ptr Wy))[i]?=_;rw[dP9,S7 R];rfl);simp only at G;have H:=N.inS (k:=i) (by show i<((I0 p).map λw=>(⟨w⟩:Ptr Wy)).length;unfold I0;simpa using R);obtain⟨j,rfl⟩:∃j:Nat,id=(j:Int)+1:=⟨(id-1).toNat,by omega⟩;have q:j<(b9 p).l.length:=by omega
 have O:IntKind.i64.wrap ((j:Int)+1-1)=(j:Int):=by rw[M3 _ (by omega)];omega
 have m:=M.inS (k:=j) q;have n:(b9 p).it ((j:Int)+1)=(b9 p).l[j]:=by
  unfold Sh.it;rw[show((j:Int)+1-1).toNat=j by omega,List.getD,dM4 q];rfl
 have C:(d9 p).isCall ((j:Int)+1)=(decide ((b9 p).l[j].s.kind=4)&&(D5 (b9 p) i).lives ((j:Int)+1)):=by
  have hs:(d9 p).s=b9 p:=rfl;unfold Bk.isCall;rw[hs,l,n,L8 R]
 rw[n]at l e o;have l0:=s.ld (i:=0) (u:=.pointer (some ab)) rfl aA1;have lb:=V w s.base;have ls:=W w s.base;obtain⟨sv,L,v⟩:=F9 (P:=prog) (t:=150) M s.base (dM4 q) X0 X2 V5 H9;rw[H9]at v;generalize(b9 p).l[j]=it at L C l e o;obtain⟨d,wz,b,D,J,A,E⟩:=ak8 (L.mono s.base) (i5 _);obtain⟨F,_,aa⟩:=E.it;obtain⟨_,_,_,_,_,_,_,_,_,_,ac⟩:=F.st;have Y:=s.more (A.trans (o7.drew b));have Q:∀a,o7 b.drew a->B5 (i4 w1) (i4 a):=λa h=>t8 Y.base (b7 h);have t0:∀K f d B,F3 prog (λa=>o7 b.drew a) (Instr.loadAt 87 (.pointer (some ⟨g,0,none⟩))) K f d B=K (C4 f d (.pointer (some ab))) B:=λK f d B=>B7 (w0:=b.drew) (o9.refl _) λa h=>(Y.more h).ld rfl aA1;have t1:=ac (λa=>o7 b.drew a) b.drew (o9.refl _) λa h=>b7 ((o7.drew b).trans h);have t2:=aa (λa=>o7 b.drew a) b.drew (o9.refl _) λa h=>b7 ((o7.drew b).trans h);have t3:=Z (λa=>o7 b.drew a) b.drew (o9.refl _) Q;have t4:=bw2 (P:=prog) (t:=114) S an1 (λa=>o7 b.drew a) b.drew (o9.refl _) Q;rw[l]at t2;rcases dM5 (decide (it.s.kind=4))with hk|hk
 ·rw[hk,dT7]at C;simp only[m8,o6,y0,simprocAttr,l0,lb,ls,O,m,v,D,J];refine C0 (λa=>o7 b.drew a) 17 (A5 [0,1,2,3,4,5,6,7,8,9,10,11,12,13,14,15,16]) ?_;simp only[D6,A5,m8,o6,y0,simprocAttr,t0,t1,t2,t3,t4,hk,H];refine B9 (aK8 aw (D5 (b9 p) i) p i xx y ((j:Int)+1) b.drew (G.mono Y.base) z.toWyOk (by rw[o]at e;exact e) z.live) (λw6 U=>?_);simp only[m8,simprocAttr];refine o8 results140 ?_;simp only[p8,simprocAttr];exact⟨by rw[C],(A.trans (o7.drew b)).trans U⟩
 ·rw[hk,Bool.false_and]at C;simp only[m8,o6,y0,simprocAttr,l0,lb,ls,O,m,v,D,J];refine C0 (λa=>o7 b.drew a) 17 (A5 [0,1,2,3,4,5,6,7,8,9,10,11,12,13,14,15,16]) ?_;simp only[D6,A5,m8,o6,simprocAttr,t1,hk];refine o8 results140 ?_;simp only[p8,simprocAttr];exact⟨by rw[C],A.trans (o7.drew b)⟩
end
end Go.Proofs.YtfadjbljajfkfaaGreat

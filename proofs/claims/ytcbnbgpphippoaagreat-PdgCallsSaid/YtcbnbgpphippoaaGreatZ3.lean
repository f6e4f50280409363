/- pdgCalls.proved: for every input the law returns true. No condition. Part 3 of 7. -/
import Derived.Ground.Names2Prog
import Derived.Ground.SlsfProg
import Derived.Laws.StructEq
import Derived.Shelf.SlGeneric
import Derived.Shelf.SlSortCmp.NoneTotal
import Derived.Shelf.SlSortCmp.WholeK
import Derived.Shelf.Slices.Clone
import Derived.Shelf.Slices.Empties
import Derived.Shelf.Slices.SearchI
import Derived.Shelf.Spec.SlicesInsert
import Derived.Shelf.Spec.SlicesInsertGrow
import Derived.Test.YtcbnbgpphippoaaGreatProg
import Derived.Test.YtcbnbgpphippoaaGreatZ2
set_option maxRecDepth 1000000
set_option maxHeartbeats 8000000
set_option linter.unusedVariables false
set_option linter.unusedSimpArgs false
set_option linter.unnecessarySimpa false
set_option linter.defProp false
namespace Go.Proofs.YtcbnbgpphippoaaGreat
open Go Tryz
def dw1:=@List.mem_flatMap
theorem cc0:prog.underlying 207=some (.map 9 22):=by kernel_rfl
theorem ce5:prog.underlying 9=some .string:=by kernel_rfl
theorem bU4(vt vl:Value)(t:St)(l:List A7)(w:World)(ht:SV (i4 w) vt t)(hl:R (i4 w) vl l)(hwt:O6 t≤1000000)(hll:l.length≤1000000000):
  p7 prog 155 #[vt,vl] w fun u w'=>(u = .bool (ad9 t l)∧o7 w w'):=by
 refine p8 [vt,vl] func155 rfl ?_;obtain⟨b,w1,hb1,hx1,ha1⟩:=ah5 ht (d7 _);obtain⟨_,vas,_,_,_,hvas,_,_,_,ldt,_⟩:=ha1.st;have lt1:=ldt w1 (d7 _);have hS:=hvas.isS;have hn:=hvas.vlen;rw[P2]at hwt;have hal:=ag9 t.args;have hF:ad9 t l=as4 t.name l [] t.args:=rfl;simp only[n7,n8,simprocAttr,hb1,lt1,hS,hn];refine n9 [1,2,9,10] (σ:=Nat×Value×List A7) (fun s f w'=>f 11 = .int .i64 s.1∧f 5=s.2.1∧s.1≤t.args.length∧B0 (i4 w1) w' 9 s.2.1 s.2.2∧as4 t.name l [] t.args=as4 t.name l s.2.2 (t.args.drop s.1)∧s.2.2.length≤s.1∧o7 w1 w') (fun s=>t.args.length-s.1) (0,.slice none 0 0,[]) ?_ ?_
 ·simp only[p6,simprocAttr];exact⟨by trivial,by trivial,dr8 _,B0.nil _ _ _,by rw[dA1],ds5 _,t8.refl _⟩
 rintro⟨k,u,seen⟩ f w2 hk ⟨h11,h5,hkl,ho,hsk,hsl,hx2⟩;simp only at h11 h5 hkl ho hsk hsl;simp only[dq9,p6,simprocAttr]at hk;obtain⟨e1,e2,e9,e10,_⟩:=hk;simp only[n7,n8,simprocAttr,h11,e10];refine m8 (fun hc=>?_) (fun hc=>?_);rotate_left
 ·have hge:k=t.args.length:=by simp at hc;omega
  subst hge;rw[dA0,as4]at hsk;simp only[n7,simprocAttr];refine o6 results155 ?_;simp only[p6,simprocAttr];exact⟨by rw[hF,hsk],hx1.trans hx2⟩
 have hlt:k<t.args.length:=by simpa using hc
 have hin:=hvas.inS hlt;obtain⟨sv,hsv,hld⟩:=E4 (P:=prog) (t:=101) hvas (b7 hx2) (dq7 hlt) az1 az3 at1 S4;rw[S4]at hld;rw[du8 hlt,as4]at hsk;generalize t.args[k]=y at hsv hsk;obtain⟨c,wz,w3,hal3,hst,hx3,hat⟩:=aI6 (hsv.mono (b7 hx2)) (d7 _);obtain⟨_,ldy,_⟩:=hat.ar;have l3:=ldy w3 (d7 _);have hx13:=hx2.trans hx3;have ho3:=ho.ext hx3;have lt3:=ldt w3 (b7 hx13);rcases dq8 y.ref with hr|hr;rotate_left
 ·rw[if_neg (by rw[hr];simp)]at hsk;simp only[n7,n8,z6,simprocAttr,h11,e9,hin,hld,hal3,hst,l3,hr];exact⟨(k+1,u,seen),by simp only[];omega,by simp only[];rw[A8 k (by omega)],h5,by simp only[];omega,ho3,hsk,by simp only[];omega,hx13⟩
 rw[if_pos hr]at hsk;simp only[n7,n8,z6,simprocAttr,h11,h5,e9,hin,hld,hal3,hst,l3,hr];refine C7 (O3 u seen y.name w3 (ho3.rw_ (b7 hx13)) (by omega)) ?_;rcases dq8 (seen.contains y.name)with q1|q1
 ·simp only[n7,simprocAttr,q1];refine o6 results155 ?_;simp only[p6,simprocAttr];exact⟨by rw[hF,hsk,q1];rfl,hx1.trans hx13⟩
 rcases dq8 (decide (y.name=t.name))with q2|q2
 ·simp only[n7,n8,simprocAttr,q1,q2,e2,l3,lt3];refine o6 results155 ?_;simp only[p6,simprocAttr];exact⟨by rw[hF,hsk,q1,q2];rfl,hx1.trans hx13⟩
 simp only[n7,n8,simprocAttr,q1,q2,e1,e2,l3,lt3];refine C7 (O3 vl l y.name w3 (A3.mono (b7 (hx1.trans hx13)) hl) (by omega)) ?_;rcases dq8 (l.contains y.name)with q3|q3
 ·simp only[n7,simprocAttr,q3];refine o6 results155 ?_;simp only[p6,simprocAttr];exact⟨by rw[hF,hsk,q1,q2,q3];rfl,hx1.trans hx13⟩
 rw[q1,q2,q3]at hsk;obtain⟨p1,u',w4,p2,p3,p4,p5⟩:=push (e:=22) ar6 rfl ho3 (x:=o9 y.name) (y:=y.name) rfl (by omega) (by omega) (b7 hx13);simp only[n7,n8,simprocAttr,q3,h11,h5,l3,p1,p2];exact⟨(k+1,u',seen++[y.name]),by simp only[];omega,by simp only[];rw[A8 k (by omega)],by trivial,by simp only[];omega,p3,hsk,by simp only[dr1,du0];omega,ho3.ext2 hx13 p4⟩
theorem bw2:∀(l:List Pr) (s:Sh) (i:Nat) (it:It),it∈(F4 s i l).l→it∈s.l∨∃(k:Nat) (hk:k<l.length),∃x,it∈C2 l[k].body x (i+k:Nat) 0 (-1) 0
 | [],s,i,it,h=>.inl h
 | f::l,s,i,it,h=>by
  rw[F4]at h;rcases bw2 l _ _ it h with h|⟨k,hk,x,h⟩
  ·simp only[E6]at h;rcases ds4.1 h with h|h
   ·exact .inl h
   ·exact .inr ⟨0,by simp,s.l.length,by simpa using h⟩
  ·exact .inr ⟨k+1,by simpa using hk,x,by rw[show i+(k+1)=i+1+k by omega];simpa using h⟩
mutual
theorem bG1:∀(t:St) (k k':Nat) (pr up nx lp pr' up' nx' lp':Int),(V4 t k pr up nx lp).map (·.s)=(V4 t k' pr' up' nx' lp').map (·.s)
 | .mk id kind labels name proc x has args thn els,k,k',pr,up,nx,lp,pr',up',nx',lp'=>by
  rw[P5,P5];simp only[dv6,du1]
  congr 2
  ·exact al6 _ _ _ _ _ _ _ _ _ _ _
  ·exact al6 _ _ _ _ _ _ _ _ _ _ _
theorem al6:∀(l:List St) (k k':Nat) (pr up nx lp pr' up' nx' lp':Int),(C2 l k pr up nx lp).map (·.s)=(C2 l k' pr' up' nx' lp').map (·.s)
 | [],_,_,_,_,_,_,_,_,_,_=>by simp[C2]
 | t::l,k,k',pr,up,nx,lp,pr',up',nx',lp'=>by
  rw[C2,C2];simp only[du1]
  congr 1
  ·exact bG1 _ _ _ _ _ _ _ _ _ _ _
  ·exact al6 _ _ _ _ _ _ _ _ _ _ _
end
theorem bO7{p:Pg}(K:Known p)(hw:D1 p≤1000000){it:It}(hit:it∈(b9 p).l)(h4:it.s.kind=4):it.s.proc∈p.procs.map (·.name):=by
 rcases bw2 _ _ _ it hit with h|⟨k,hk,x,h⟩
 ·cases h
 ·obtain⟨x2,_,e⟩:=V7 p hw k hk;have hs:it.s∈(C2 p.procs[k].body x (0+k:Nat) 0 (-1) 0).map (·.s):=dt7.2 ⟨it,h,rfl⟩;rw[al6 _ _ x2 _ _ _ _ k 0 (-1) 0,←e]at hs;obtain⟨it2,hit2,e2⟩:=dt7.1 hs;have:=(K.proc k hk).2.2 it2 hit2;rw[e2]at this;unfold ad4 at this;rw[du9 h4]at this;simp only[Bool.not_true,dC4,dt0]at this;exact dt6.1 this.2.2
theorem bV8{p:Pg}(K:Known p)(n:A7):(W2 p n).length≤1000000000:=by
 unfold W2;split
 ·next h=>
  have h1:=M9 (l:=C9 ((bp0 (b9 p) n).flatMap fun m=>((b9 p).of ((b9 p).pr m)).flatMap fun it=>(L4 it.s).filter fun v=>p.globals.contains v)) (m:=p.globals) ?_ ?_
  ·have:=(bB7 K).2;exact dr7 h1 (by omega)
  ·exact(Q5 _).imp fun{a b} hab=>by rintro rfl;rw[N2]at hab;cases hab
  ·intro x hx;rw[Q4]at hx;obtain⟨m,_,hx⟩:=dw1.1 hx;obtain⟨it,_,hx⟩:=dw1.1 hx;exact dt6.1 (dv2.1 hx).2
 ·simp
theorem bE2{p:Pg}(h:(Y5 p).1=0):(O5 p).1=0:=by
 unfold Y5 at h;split at h
 ·simp at h
 ·next hs=>exact dB4 hs
theorem bf9(v:Value)(p:Pg)(w:World)(hv:SV (i4 w) v p)(hw:D1 p≤1000000):p7 prog 100 #[v] w fun u w'=>(u=T2 (aC3 p)∧o7 w w'):=by
 refine p8 [v] func100 rfl ?_;obtain⟨a,w1,hbx,hx1,ha⟩:=W7 (w:=w) (fun _=>False) hv (fun _ h=>h.elim);obtain⟨vg,vp,hg,hp,ld,_⟩:=I2.pg hv ha;obtain⟨lw,slw⟩:=I2.pg_v hv ha;obtain⟨rb,w2,hal,hx2,hrb,hge1⟩:=at9 w1;have hge:w.heap.size≤rb:=dr7 hx1.size hge1;have hx12:=hx1.trans hx2;have hlw:∀w',o7 w2 w'→B5 (B7 w1 fun _=>False) (i4 w'):=fun w' h=>p9 (B3 _ _) (b7 (hx2.trans h));have lw2:=lw w2 (hlw _ (t8.refl _));have hret:=fun(w':World) (h:o7 w2 w')=>am9 hrb h hge hx12;simp only[n7,n8,simprocAttr,hbx,hal,lw2];refine B2 (aC4 v p w2 (hv.mono (b7 hx12)) hw) (fun w3 hx3=>?_);rcases dq8 (decide ((Y5 p).1=0))with hsc|hsc;rotate_left
 ·obtain⟨w9,s1,s2,s3⟩:=hret w3 hx3 (1,0);simp only[n7,n8,simprocAttr,al5,hsc,P4,s1];refine L6 results100 (by simp only[p6,simprocAttr]) s2 ?_;exact⟨by rw[aC3,if_pos (dr2 hsc)],s3⟩
 have K:=bj5 (bE2 (dr0 hsc));obtain⟨hp16,hg16⟩:=bB7 K;have hF:aC3 p=match(b9 p).l.find? fun it=>decide (it.s.kind=4) && !ad9 it.s (W2 p it.s.proc)with
  | some it=>(8,it.s.id)
  | none=>(0,0):=by rw[aC3,if_neg (by simpa using hsc)]<;>rfl
 obtain⟨hmk,hm0,hx4⟩:=aJ1.new (P:=prog) w3 207;have hx24:=hx3.trans hx4;have l4:=ld _ (hlw _ hx24);have hS:=hp.isS;have hn:=hp.vlen;have hr1:w1.heap.size≤w3.heap.size:=(hx2.trans hx3).size;have hr2:w2.heap.size≤w3.heap.size:=hx3.size;have hr0:w.heap.size≤w3.heap.size:=(hx12.trans hx3).size;generalize hw4:w3.alloc (.map #[] 0)=w4 at hmk hm0 hx4 hx24 l4;generalize w3.heap.size=r at hmk hm0 hr1 hr2 hr0;simp only[n7,n8,simprocAttr,al5,hsc,bk6,hmk,l4,hS,hn];refine n9 [1,2,3,15,16] (σ:=Nat×List (A7×Value)) (fun s f w'=>f 17 = .int .i64 s.1∧s.1≤p.procs.length∧aJ1 w' r s.2∧(∀j (hj:j<p.procs.length),j<s.1→∃u,L5 s.2 p.procs[j].name=some u∧R (B7 w' fun b=>b=r) u (W2 p p.procs[j].name))∧o7 w2 w') (fun s=>p.procs.length-s.1) (0,[]) ?_ ?_
 ·simp only[p6,simprocAttr];exact⟨by trivial,dr8 _,hm0,fun j _ h=>by omega,hx24⟩
 rintro⟨i,kv⟩ f w5 hk ⟨h17,hil,hm5,hkv,hx5⟩;simp only at h17 hil hm5 hkv;simp only[dq9,p6,simprocAttr]at hk;obtain⟨e1,e2,e3,e15,e16,_⟩:=hk;simp only[n7,n8,simprocAttr,h17,e16];refine m8 (fun hc=>?_) (fun hc=>?_)
 ·have hlt:i<p.procs.length:=by simpa using hc
  have hin:=hp.inS hlt;obtain⟨sv,hsv,hld⟩:=E4 (P:=prog) (t:=51) hp (b7 (hx12.trans hx5)) (dq7 hlt) ae2 ae5 ac8 I4;rw[I4]at hld;have hne:∀j (hj:j<p.procs.length),j<i→p.procs[j].name≠p.procs[i].name:=fun j hj hji e=>by
   have h3:=dz0.1 K.names;exact h3 j i (by simpa using hj) (by simpa using hlt) hji (by simpa using e)
  generalize hy:p.procs[i]=y at hsv hne;obtain⟨c,wz,w6,hal6,hst6,hx6,hat⟩:=am3 (w:=w5) (fun b=>b=r) hsv (fun b hb=>by subst hb;exact hm5.lt);obtain⟨_,_,_,_,_,_,_,_,_,sdq⟩:=I2.pr hsv hat;have hm6:=(hm5.mod hx6 id).mod (o7.drew w6) id;have hx26:o7 w2 w6.drew:=hx5.trans (hx6.trans (o7.drew w6));have hstq:∀w',t8 (fun b=>b=r) w6.drew w'→B5 (B7 w6 fun b=>b=r) (i4 w'):=fun w' h=>C8 (t8.chain (t8.up (o7.drew w6)) h fun _ _ hb=>hb);have hstp:∀w',t8 (fun b=>b=r) w6.drew w'→B5 (B7 w1 fun _=>False) (i4 w'):=fun w' h=>H9 (hlw _ hx26) h fun b hb=>by
   subst hb;by_cases hq:B7 w1 (fun _=>False) b=none
   ·exact hq
   ·exfalso
    have:i4 w1 b≠none:=fun e=>hq (by rw[D3 (fun h=>h)];exact e);have:=Nat.lt_of_not_le fun h=>this (be5 h);omega
  have s1:=sdq (fun w'=>t8 (fun b=>b=r) w6.drew w') w6.drew (t8.refl _) hstq;have s2:=slw (fun w'=>t8 (fun b=>b=r) w6.drew w') w6.drew (t8.refl _) hstp;simp only[n7,n8,z6,simprocAttr,h17,e15,hin,hld,hal6,hst6];refine C0 (fun w'=>t8 (fun b=>b=r) w6.drew w') 8 (A9 [0,1,2,3,4,5,6,7]) ?_;simp only[D2,A9,n7,n8,simprocAttr,e1,e3,s1,s2];refine z7 (bD7 v p y.name w6.drew (hv.mono (b7 (hx12.trans hx26))) hw) ?_;rintro u w7 ⟨ho7,hx7⟩;obtain⟨w8,hup,hm8,hmod8⟩:=(hm6.mod hx7 id).update (P:=prog) cc0 ce5 y.name u;refine⟨t8.up hx7,?_⟩;simp only[D2,n7,simprocAttr,bB1,hup,F1];refine⟨(t8.up hx7).chain hmod8 fun _ _ hb=>hb,?_⟩;simp only[n7,n8,simprocAttr,h17];have hx28:o7 w2 w8:=t8.ext_of (hx26.trans hx7) hmod8 fun b hb=>by subst hb;omega
  refine⟨(i+1,aF0 kv y.name u),by simp only[];omega,by simp only[];rw[A8 i (by omega)],by simp only[];omega,hm8,fun j hj hji=>?_,hx28⟩;simp only at hji ⊢;rw[an0];rcases dv3 j i with h|h
  ·obtain⟨u2,hu2,hr2'⟩:=hkv j hj h;have hne':=hne j hj h;exact⟨u2,by rw[if_neg hne'];exact hu2,A3.mono (bH3 (t8.chain (t8.up (hx6.trans ((o7.drew w6).trans hx7))) hmod8 fun _ _ hb=>hb) (fun b hb=>by subst hb;exact hm5.lt)) hr2'⟩
  ·obtain rfl:j=i:=by omega
   refine⟨u,by rw[hy,if_pos rfl],?_⟩;rw[hy];refine ho7.flatR fun b hb=>?_;have hbr:b≠r:=fun e=>by
    subst e;have h1:=hm6.lt;have h2:=D0 (ho7.free hb);omega
   rw[D3 (N:=fun b=>b=r) hbr];exact hmod8.block b (ho7.lt hb) hbr
 have hge':i=p.procs.length:=by simp at hc;omega
 subst hge';have lw5:=lw w5 (hlw _ hx5);simp only[n7,simprocAttr,e1,lw5];refine z7 (ai1 v p w5 (hv.mono (b7 (hx12.trans hx5))) hw) ?_;rintro us w6 ⟨sh,rfl,hsh,hx6⟩;have hx26:=hx5.trans hx6;obtain⟨vL,vlo,vhi,hL,hlo,hhi,hap,ldsh,_⟩:=hsh.sh;have lsh:=ldsh w6 (d7 _);have hSl:=hL.isS;have hnl:=hL.vlen;have hsl:=an6 p;have hcl:=bz1 p;have hwl:=Z5 p hw;have hkn:∀it∈(b9 p).l,it.s.kind=4→it.s.proc∈p.procs.map (·.name):=fun it hit h4=>bO7 K hw hit h4;generalize(b9 p).l=l at hL hSl hnl hsl hwl hF hkn;simp only[n7,n8,simprocAttr,lsh,hSl,hnl];refine n9 [1,2,3,33,34] (σ:=Nat) (fun m f w'=>f 35 = .int .i64 m∧m≤l.length∧(∀j (hj:j<l.length),j<m→(decide (l[j].s.kind=4) && !ad9 l[j].s (W2 p l[j].s.proc))=false)∧o7 w6 w') (fun m=>l.length-m) 0 ?_ ?_
 ·simp only[p6,simprocAttr];exact⟨by trivial,dr8 _,fun j _ h=>by omega,t8.refl _⟩
 rintro m f3 w7 hk ⟨h35,hml,hno,hx7⟩;simp only[dq9,p6,simprocAttr]at hk;obtain⟨g1,g2,g3,g33,g34,_⟩:=hk;rw[e2]at g2;rw[e3]at g3;have hx27:=hx26.trans hx7;simp only[n7,n8,simprocAttr,h35,g34];refine m8 (fun hc=>?_) (fun hc=>?_);rotate_left
 ·have hge2:m=l.length:=by simp at hc;omega
  subst hge2;have hfind:l.find? (fun it=>decide (it.s.kind=4) && !ad9 it.s (W2 p it.s.proc))=none:=dz6.2 fun it hit=>by
   obtain⟨j,hj,rfl⟩:=dw5.1 hit;rw[hno j hj hj];simp
  rw[hfind]at hF;obtain⟨w9,s1,s2,s3⟩:=hret w7 hx27 (0,0);simp only[n7,simprocAttr,g2,aG3,s1];refine L6 results100 (by simp only[p6,simprocAttr];exact g2) s2 ?_;exact⟨by rw[hF],s3⟩
 have hlt:m<l.length:=by simpa using hc
 have hin:=hL.inS hlt;obtain⟨sv,hsv,hld⟩:=E4 (P:=prog) (t:=121) hL (b7 hx7) (dq7 hlt) ab1 ab2 Z1 I7;rw[I7]at hld;have hwit:=hwl _ (dr5 hlt);have hknm:=hkn _ (dr5 hlt);obtain⟨c,wz2,w8,hal8,hst8,hx8,hati⟩:=az6 (hsv.mono (b7 hx7)) (d7 _);obtain⟨hats,_,_⟩:=hati.it;obtain⟨vt,hvt,ldT,_⟩:=hats.st_v;obtain⟨_,_,_,_,_,_,_,_,_,ldt,_⟩:=hats.st;have hx28:=hx27.trans hx8;have k2:=ldt w8 (d7 _);have k3:=ldT w8 (d7 _);have hm8:=((hm5.mod hx6 id).mod hx7 id).mod hx8 id;have hend:∀w',o7 w8 w'→(decide (l[m].s.kind=4) && !ad9 l[m].s (W2 p l[m].s.proc))=false→∃s:Nat,l.length-s<l.length-m∧(Value.int .i64 (IntKind.i64.wrap ((m:Int)+1))) = .int .i64 s∧s≤l.length∧(∀j (hj:j<l.length),j<s→(decide (l[j].s.kind=4) && !ad9 l[j].s (W2 p l[j].s.proc))=false)∧o7 w6 w':=fun w' hx' hq=>by
  refine⟨m+1,by omega,by rw[A8 m (by omega)],by omega,fun j hj hjm=>?_,hx7.trans (hx8.trans hx')⟩;rcases dv3 j m with h|h
  ·exact hno j hj h
  ·obtain rfl:j=m:=by omega
   exact hq
 rcases dq8 (decide (l[m].s.kind=4))with hk4|hk4;rotate_left
 ·simp only[n7,n8,z6,simprocAttr,h35,g33,hin,hld,hal8,hst8,k2,hk4];exact hend w8 (t8.refl _) (by rw[hk4];rfl)
 obtain⟨q,hq,hpr,hqn⟩:=ac4 (hknm (dr0 hk4));obtain⟨u,hu1,hu2⟩:=hkv q hq hq;rw[hqn]at hu1 hu2;have hlk:=hm8.lookup (P:=prog) cc0 ce5 (z:=.slice none 0 0) bN4 l[m].s.proc;rw[hu1,dw8]at hlk;simp only[n7,n8,z6,simprocAttr,h35,g3,g33,hin,hld,hal8,hst8,k2,k3,hk4,hlk];refine B2 (bU4 vt u l[m].s (W2 p l[m].s.proc) w8 hvt (A3.mono (p9 (B3 _ _) (b7 (hx6.trans (hx7.trans hx8)))) hu2) hwit (bV8 K _)) (fun w9 hx9=>?_);rcases dq8 (ad9 l[m].s (W2 p l[m].s.proc))with hsg|hsg
 ·simp only[n7,n8,simprocAttr,hsg,h35];exact hend w9 hx9 (by rw[hk4,hsg];rfl)
 ·have k4:=ldt w9 (b7 hx9);obtain⟨w10,s1,s2,s3⟩:=hret w9 (hx28.trans hx9) (8,l[m].s.id);simp only[n7,n8,simprocAttr,hsg,k4,g2,au1,s1];refine L6 results100 (by simp only[p6,simprocAttr];exact g2) s2 ?_;have hfind:l.find? (fun it=>decide (it.s.kind=4) && !ad9 it.s (W2 p it.s.proc))=some l[m]:=dz3.2 ⟨by rw[hk4,hsg];rfl,m,hlt,rfl,fun j hj=>by rw[hno j (by omega) hj];rfl⟩;rw[hfind]at hF;exact⟨by rw[hF],s3⟩
theorem cb5{w:World}{b:Nat}{e:Int×Int}(h:w.heap[b]?=some (.cells #[.int .i64 e.1,.int .i64 e.2] 107 (0,0))):
  (Instr.loadAt 105 (.pointer (some ⟨b,0,none⟩))).run prog w = .ok (.int .i64 e.1) w∧(Instr.loadAt 107 (.pointer (some ⟨b,0,none⟩))).run prog w = .ok (T2 e) w:=
 ⟨E9 (i:=0) h rfl cT8,S9 h cB1 cC6 cB5 (by rw[cC3];rfl)⟩
theorem cd4{w:World}{b:Nat}{e:Int×Int}(h:w.heap[b]?=some (.cells #[.int .i64 e.1,.int .i64 e.2] 107 (0,0)))(e2:Int×Int):
  ∃w',(Instr.storeAt 107 (.pointer (some ⟨b,0,none⟩)) (T2 e2)).run prog w = .ok () w'∧w'.heap[b]?=some (.cells #[.int .i64 e2.1,.int .i64 e2.2] 107 (0,0))∧t8 (fun c=>c=b) w w':=
 Z7 (P:=prog) (cs:=#[.int .i64 e2.1,.int .i64 e2.2]) h bW6 rfl rfl (by simp[Value.oneCell'])
theorem bz0(v:Value)(p:Pg)(w:World)(hv:SV (i4 w) v p)(hw:D1 p≤1000000):p7 prog 53 #[v] w fun u w'=>(u=T2 (aL5 p)∧o7 w w'):=by
 refine p8 [v] func53 rfl ?_;obtain⟨a,w1,hbx,hx1,ha⟩:=W7 (w:=w) (fun _=>False) hv (fun _ h=>h.elim);obtain⟨lw,slw⟩:=I2.pg_v hv ha;obtain⟨rb,w2,hal,hx2,hrb,hge1⟩:=at9 w1;have hge:w.heap.size≤rb:=dr7 hx1.size hge1;have hx12:=hx1.trans hx2;have hlw:∀w',o7 w1 w'→B5 (B7 w1 fun _=>False) (i4 w'):=fun w' h=>p9 (B3 _ _) (b7 h);have lw2:=lw w2 (hlw _ hx2);have hret:=fun(w':World) (h:o7 w2 w')=>am9 hrb h hge hx12;simp only[n7,n8,simprocAttr,hbx,hal,lw2];refine B2 (bX4 v p w2 (hv.mono (b7 hx12)) hw) (fun w3 hx3=>?_);rcases dq8 (J6 p)with hmay|hmay;rotate_left
 ·obtain⟨w9,s1,s2,s3⟩:=hret w3 hx3 (1,0);simp only[n7,n8,simprocAttr,hmay,P4,s1];refine L6 results53 (by simp only[p6,simprocAttr]) s2 ?_;exact⟨by rw[aL5,hmay];rfl,s3⟩
 have hF:aL5 p=if(O5 p).1≠0 then O5 p else if(Y5 p).1≠0 then Y5 p else if(aA4 p).1≠0 then aA4 p else aC3 p:=by
  rw[aL5,if_neg (by rw[hmay];simp)]
 have lw3:=lw w3 (hlw _ (hx2.trans hx3));simp only[n7,n8,simprocAttr,hmay,lw3];refine B2 (ad8 v p w3 (hv.mono (b7 (hx12.trans hx3))) hw) (fun w4 hx4=>?_);have hx24:=hx3.trans hx4;obtain⟨tb,w5,hal5,hx5,htb,hge5⟩:=at9 w4;obtain⟨w6,st6,hh6,hm6⟩:=cd4 (e:=(0,0)) htb (O5 p);obtain⟨l6,l6'⟩:=cb5 hh6;have hge4:w2.heap.size≤tb:=dr7 hx24.size hge5;have hx26:o7 w2 w6:=t8.ext_of (hx24.trans hx5) hm6 fun b hb=>by subst hb;exact hge4
 have fin:∀(w':World) (e:Int×Int),o7 w2 w'→w'.heap[tb]?=some (.cells #[.int .i64 e.1,.int .i64 e.2] 107 (0,0))→aL5 p=e→∃w'',(Instr.loadAt 107 (.pointer (some ⟨tb,0,none⟩))).run prog w' = .ok (T2 e) w'∧(Instr.storeAt 107 (.pointer (some ⟨rb,0,none⟩)) (T2 e)).run prog w' = .ok () w''∧(Instr.loadAt 107 (.pointer (some ⟨rb,0,none⟩))).run prog w'' = .ok (T2 e) w''∧o7 w w'':=fun w' e hx hh _=>by
  obtain⟨w'',h1,h2,h3⟩:=hret w' hx e;exact⟨w'',(cb5 hh).2,h1,h2,h3⟩
 rcases dq8 (decide ((O5 p).1=0))with d1|d1;rotate_left
 ·rw[if_pos (dr2 d1)]at hF;obtain⟨w9,s0,s1,s2,s3⟩:=fin w6 _ hx26 hh6 hF;simp only[n7,n8,simprocAttr,hal5,st6,l6,d1,s0,s1];refine L6 results53 (by simp only[p6,simprocAttr]) s2 ?_;exact⟨by rw[hF],s3⟩
 rw[if_neg (by simpa using d1)]at hF;have lw6:=lw w6 (hlw _ (hx2.trans hx26));simp only[n7,n8,simprocAttr,hal5,st6,l6,d1,lw6];refine B2 (aC4 v p w6 (hv.mono (b7 (hx12.trans hx26))) hw) (fun w7 hx7=>?_);obtain⟨w8,st8,hh8,hm8⟩:=cd4 ((hx7.block tb (dr3.1 hh6).1 id).trans hh6) (Y5 p);obtain⟨l8,_⟩:=cb5 hh8;have hx28:o7 w2 w8:=t8.ext_of (hx26.trans hx7) hm8 fun b hb=>by subst hb;exact hge4
 rcases dq8 (decide ((Y5 p).1=0))with d2|d2;rotate_left
 ·rw[if_pos (dr2 d2)]at hF;obtain⟨w9,s0,s1,s2,s3⟩:=fin w8 _ hx28 hh8 hF;simp only[n7,n8,simprocAttr,st8,l8,d2,s0,s1];refine L6 results53 (by simp only[p6,simprocAttr]) s2 ?_;exact⟨by rw[hF],s3⟩
 rw[if_neg (by simpa using d2)]at hF;have lw8:=lw w8 (hlw _ (hx2.trans hx28));simp only[n7,n8,simprocAttr,st8,l8,d2,lw8];refine B2 (bq3 v p w8 (hv.mono (b7 (hx12.trans hx28))) hw) (fun w9 hx9=>?_);obtain⟨w10,st10,hh10,hm10⟩:=cd4 ((hx9.block tb (dr3.1 hh8).1 id).trans hh8) (aA4 p);obtain⟨l10,_⟩:=cb5 hh10;have hx210:o7 w2 w10:=t8.ext_of (hx28.trans hx9) hm10 fun b hb=>by subst hb;exact hge4
 rcases dq8 (decide ((aA4 p).1=0))with d3|d3;rotate_left
 ·rw[if_pos (dr2 d3)]at hF;obtain⟨w11,s0,s1,s2,s3⟩:=fin w10 _ hx210 hh10 hF;simp only[n7,n8,simprocAttr,st10,l10,d3,s0,s1];refine L6 results53 (by simp only[p6,simprocAttr]) s2 ?_;exact⟨by rw[hF],s3⟩
 rw[if_neg (by simpa using d3)]at hF;have lw10:=lw w10 (hlw _ (hx2.trans hx210));simp only[n7,n8,simprocAttr,st10,l10,d3,lw10];refine B2 (bf9 v p w10 (hv.mono (b7 (hx12.trans hx210))) hw) (fun w11 hx11=>?_);obtain⟨w12,st12,hh12,hm12⟩:=cd4 ((hx11.block tb (dr3.1 hh10).1 id).trans hh10) (aC3 p);have hx212:o7 w2 w12:=t8.ext_of (hx210.trans hx11) hm12 fun b hb=>by subst hb;exact hge4
 obtain⟨w13,s0,s1,s2,s3⟩:=fin w12 _ hx212 hh12 hF;simp only[n7,simprocAttr,st12,s0,s1];refine L6 results53 (by simp only[p6,simprocAttr]) s2 ?_;exact⟨by rw[hF],s3⟩
theorem aN5(v:Value)(p:Pg)(w:World)(hv:SV (i4 w) v p)(hw:D1 p≤1000000):p7 prog 35 #[v] w fun u w'=>(u = .bool (ab0 p)∧o7 w w'):=by
 refine p8 [v] func35 rfl ?_;obtain⟨a,w1,hbx,hx1,ha⟩:=W7 (w:=w) (fun _=>False) hv (fun _ h=>h.elim);obtain⟨lw,slw⟩:=I2.pg_v hv ha;have lw1:=lw w1 (B3 _ _);simp only[n7,n8,simprocAttr,hbx,lw1];refine B2 (bz0 v p w1 (hv.mono (b7 hx1)) hw) (fun w3 hx3=>?_);simp only[n7,n8,simprocAttr,al5];refine o6 results35 ?_;simp only[p6,simprocAttr];exact⟨by trivial,hx1.trans hx3⟩
section
open Go.Sort Go.RowKit Go.Shelf
class A6 (α:Type) [A3 α] where
 cells:α→List Value
 iff_:∀(h:Hp) (cs:List Value) (x:α),A3.enc h cs x↔cs=cells x
instance:A6 Sp:=⟨Sp.cells,fun _ _ _=>dy2⟩
instance:A6 Fw:=⟨Fw.cells,fun _ _ _=>dy2⟩
instance:A6 Vx:=⟨Vx.cells,fun _ _ _=>dy2⟩
instance:A6 Eg:=⟨Eg.cells,fun _ _ _=>dy2⟩
instance:Inhabited Sp:=⟨⟨0,0,0⟩⟩
instance:Inhabited Fw:=⟨⟨0,0,e0⟩⟩
instance:Inhabited Vx:=⟨⟨e0,0,0,e0⟩⟩
instance:Inhabited Eg:=⟨⟨default,default,0⟩⟩
section
variable {α:Type} [A3 α] [A6 α]
theorem am7(x:α):(A6.cells x).length=A3.sz α:=A3.len ((A6.iff_ (fun _=>none) _ x).2 rfl)
theorem am8(x:α):∀v∈A6.cells x,v.oneCell'=true:=A3.one ((A6.iff_ (fun _=>none) _ x).2 rfl)
theorem V3{h:Hp}:∀{cs:List Value} {l:List α},N1 h cs l↔cs=l.flatMap A6.cells
 | cs,[]=>by simp[N1]
 | cs,x::l=>by
  rw[N1,dA4];constructor
  ·rintro⟨c1,c2,rfl,h1,h2⟩;rw[(A6.iff_ _ _ _).1 h1,V3.1 h2]
  ·rintro rfl;exact⟨_,_,rfl,(A6.iff_ _ _ _).2 rfl,V3.2 rfl⟩
theorem B0.downN{h k:Hp}{w:World}{T:TypeId}{v:Value}{xs:List α}(ho:B0 k w T v xs)(hk:B5 h k):B0 h w T v xs:=by
 rcases ho with hn|⟨b,c,cur,rfl,h1,h2,h3,h4,h5,h6⟩
 ·exact .inl hn
 ·refine .inr ⟨b,c,cur,rfl,?_,h2,h3,h4,h5,V3.2 (V3.1 h6)⟩;cases hq:h b with
  | none=>rfl
  | some o=>have:=hk b o hq;rw[h1]at this;cases this
theorem B0.flatRN{h k:Hp}{w:World}{T:TypeId}{v:Value}{xs:List α}(ho:B0 h w T v xs)(hb:∀b,A4 v b→k b=w.heap[b]?):R k v xs:=
 (ho.downN (h:=fun _=>none) (fun b o e=>nomatch e)).ro (fun b o e=>nomatch e) hb
theorem B0.backN{w0 w1 w:World}{T:TypeId}{v:Value}{xs:List α}(ho:B0 (i4 w1) w T v xs)(hx:o7 w0 w1):B0 (i4 w0) w T v xs:=ho.downN (b7 hx)
theorem cy6{h:Hp}{w:World}{T:TypeId}{v:Value}{l:List α}(ho:B0 h w T v l):(v = .slice none 0 0∧l=[])∨∃b c cur,v = .slice (some ⟨b,0,none⟩) l.length c∧h b=none∧w.heap[b]?=some (.cells cur T (0,0))∧l.length≤c∧c≤maxLen∧cur.size=c*A3.sz α∧cur.toList.take (l.length*A3.sz α)=l.flatMap A6.cells:=by
 rcases ho with hn|⟨b,c,cur,rfl,h1,h2,h3,h4,h5,h6⟩
 ·exact .inl hn
 ·exact .inr ⟨b,c,cur,rfl,h1,h2,h3,h4,h5,V3.1 h6⟩
theorem bk7{h:Hp}{w:World}{T:TypeId}{l:List α}{b c:Nat}{cur:Array Value}(h1:h b=none)(h2:w.heap[b]?=some (.cells cur T (0,0)))(h3:l.length≤c)(h4:c≤maxLen)(h5:cur.size=c*A3.sz α)(h6:cur.toList.take (l.length*A3.sz α)=l.flatMap A6.cells):
  B0 h w T (.slice (some ⟨b,0,none⟩) l.length c) l:=.inr ⟨b,c,cur,rfl,h1,h2,h3,h4,h5,V3.2 h6⟩
theorem ab8(l:List α):(l.flatMap A6.cells).length=l.length*A3.sz α:=by
 induction l with
 | nil=>simp
 | cons x l ih=>rw[dA4,dr1,am7,ih,dt2,Nat.succ_mul,Nat.add_comm]
end
theorem aZ8{α β:Type}(f:α→List β){k:Nat}(hk:0<k)(hf:∀x,(f x).length=k):∀(l:List α) (t:Nat),(l.flatMap f)[t]?=(l[t / k]?).bind fun x=>(f x)[t % k]?
 | [],t=>by simp
 | x::l,t=>by
  rw[dA4];rcases dv3 t k with h|h
  ·rw[dw2 (by rw[hf];exact h),Nat.div_eq_of_lt h,Nat.mod_eq_of_lt h];rfl
  ·rw[dv7 (by rw[hf];exact h),hf,aZ8 f hk hf l];have h1:t / k=(t-k) / k+1:=by rw[Nat.div_eq_sub_div hk h]
   have h2:t % k=(t-k) % k:=Nat.mod_eq_sub_mod h;rw[h1,h2,List.getElem?_cons_succ]
theorem bh9{α:Type}[Inhabited α](f:α→List Value){k:Nat}(hk:0<k)(hf:∀x,(f x).length=k)(d:Array α):(flatK f k d).toList=d.toList.flatMap f:=by
 apply dD7;intro t;rw[aZ8 f hk hf];unfold flatK;rw[dC8,Array.getElem?_map];rcases dv3 t (d.size*k)with h|h
 ·have h1:t / k<d.size:=Nat.div_lt_of_lt_mul (by rw[Nat.mul_comm];exact h);have h2:t % k<k:=Nat.mod_lt _ hk;rw[dz9 (by simpa using h),dC8,dz9 h1];simp only[Array.getElem_range,dx7,Option.bind_some];rw[getElem!_pos d _ h1,getElem!_pos _ _ (by rw[hf];exact h2),dq7 (by rw[hf];exact h2)]
 ·have h1:d.size≤t / k:=(Nat.le_div_iff_mul_le hk).2 h;rw[Array.getElem?_eq_none (by simpa using h),dC8,Array.getElem?_eq_none h1];rfl
structure Cm {α:Type} (c:α→α→Int):Prop where
 refl:∀x,c x x=0
 anti:∀x y,c y x = - c x y
 trans:∀x y z,c x y≤0→c y z≤0→c x z≤0
theorem Cm.swo{α:Type}{c:α→α→Int}(h:Cm c):SWO (ltOf c) where
 irrefl x:=by simp[ltOf,h.refl]
 trans x y z h1 h2:=by
  simp only[ltOf,du7]at *;have h3:=h.trans x y z (by omega) (by omega);rcases Int.lt_or_eq_of_le h3 with h4|h4
  ·exact h4
  ·have h5:=h.anti x z;have h6:=h.trans y z x (by omega) (by omega);have h7:=h.anti x y;omega
 ntrans x y z h1 h2:=by
  simp only[ltOf,dE2]at *;have a1:=h.anti x y;have a2:=h.anti y z;have a3:=h.anti x z;have:=h.trans z y x (by omega) (by omega);omega
theorem Cm.total{α:Type}{c:α→α→Int}(h:Cm c)(x y:α):decide (c x y≤0)=true∨decide (c y x≤0)=true:=by
 have:=h.anti x y;simp only[du7];omega
theorem Cm.key{α β:Type}{c:β→β→Int}(h:Cm c)(f:α→β):Cm fun x y=>c (f x) (f y):=⟨fun x=>h.refl _,fun x y=>h.anti _ _,fun x y z=>h.trans _ _ _⟩
theorem Cm.zero{α:Type}:Cm fun(_ _:α)=>0:=⟨fun _=>rfl,fun _ _=>rfl,fun _ _ _ _ _=>by omega⟩
theorem Cm.lex{α:Type}{c d:α→α→Int}(h:Cm c)(k:Cm d):Cm fun x y=>if c x y=0 then d x y else c x y:=by
 refine⟨fun x=>by simp only[h.refl,dx1,k.refl],fun x y=>?_,fun x y z h1 h2=>?_⟩
 ·have a1:=h.anti x y;have a2:=k.anti x y;by_cases hq:c x y=0
  ·show(if c y x=0 then d y x else c y x) = - (if c x y=0 then d x y else c x y);rw[if_pos (show c y x=0 by omega),if_pos hq,a2]
  ·show(if c y x=0 then d y x else c y x) = - (if c x y=0 then d x y else c x y);rw[if_neg (show ¬c y x=0 by omega),if_neg hq,a1]
 ·have a1:=h.anti x y;have a2:=h.anti y z;have a3:=h.anti x z
  change (if c x y=0 then d x y else c x y)≤0 at h1
  change (if c y z=0 then d y z else c y z)≤0 at h2
  show(if c x z=0 then d x z else c x z)≤0;have b1:c x y≤0:=by split at h1<;>omega
  have b2:c y z≤0:=by split at h2<;>omega
  have b3:=h.trans x y z b1 b2;by_cases hq:c x z=0
  ·rw[if_pos hq];have e1:=h.trans y z x b2 (by omega);have e2:=h.trans z x y (by omega) b1;have q1:c x y=0:=by omega
   have q2:c y z=0:=by omega
   rw[if_pos q1]at h1;rw[if_pos q2]at h2;exact k.trans x y z h1 h2
  ·rw[if_neg hq];exact b3
theorem aC6:Cm J4:=by
 refine⟨fun x=>?_,fun x y=>?_,fun x y z=>?_⟩<;>unfold J4
 ·simp
 ·split<;>split<;>(try split)<;>omega
 ·intro h1 h2;split at h1<;>(try split at h1)<;>split at h2<;>(try split at h2)<;>split<;>(try split)<;>omega
def af3(a b:A7):Int:=if ltS a b then -1 else if ltS b a then 1 else 0
theorem bP5:Cm af3:=by
 refine⟨fun x=>?_,fun x y=>?_,fun x y z=>?_⟩<;>unfold af3
 ·simp[N2]
 ·cases h1:ltS x y<;>cases h2:ltS y x<;>simp;have:=an2 h1 h2;rw[N2]at this;cases this
 ·intro h1 h2;cases h3:ltS z x
  ·cases ltS x z<;>simp
  ·exfalso
   cases h4:ltS y x
   ·cases h5:ltS z y
    ·have e1:=aV3 (X0.1 h4) (X0.1 h5);exact absurd h3 (by rw[X0.2 e1];simp)
    ·cases h6:ltS y z
     ·rw[h6,h5]at h2;simp at h2
     ·have:=an2 h5 h6;rw[N2]at this;cases this
   ·cases h6:ltS x y
    ·rw[h6,h4]at h1;simp at h1
    ·have:=an2 h4 h6;rw[N2]at this;cases this
theorem ab7{a b:Int}(h:J4 a b=0):a=b:=by
 unfold J4 at h;split at h
 ·omega
 ·split at h<;>omega
theorem aT9{a b:A7}(h:af3 a b=0):a=b:=by
 unfold af3 at h;cases h1:ltS a b
 ·cases h2:ltS b a
  ·exact cb9 h1 h2
  ·rw[h1,h2]at h;simp at h
 ·rw[h1]at h;simp at h
def Gr(w w':World):Prop:=∃q os,w'=grow (w.drewN q) os
theorem Gr.refl(w:World):Gr w w:=⟨0,#[],by rw[grow_empty];rfl⟩
theorem Gr.alloc(w:World)(o:Obj):Gr w (w.alloc o):=⟨0,#[o],by rw[alloc_eq_grow];rfl⟩
theorem Gr.drew(w:World):Gr w w.drew:=⟨1,#[],by rw[grow_empty];rfl⟩
theorem Gr.trans{a b c:World}(h:Gr a b)(k:Gr b c):Gr a c:=by
 obtain⟨q,os,rfl⟩:=h;obtain⟨p,ps,rfl⟩:=k;refine⟨q+p,os++ps,?_⟩;have e:(grow (a.drewN q) os).drewN p=grow (a.drewN (q+p)) os:=by
  show grow ((a.drewN q).drewN p) os=_
  congr 1
  simp[World.drewN,dA5]
 rw[e,grow_grow]
theorem Gr.ext{a b:World}(h:Gr a b):o7 a b:=by
 obtain⟨q,os,rfl⟩:=h;have h1:o7 a (a.drewN q):=⟨rfl,rfl,rfl,ds5 _,fun _ _ _=>rfl⟩;refine h1.trans ⟨rfl,rfl,rfl,?_,fun c hc _=>?_⟩
 ·show _≤((a.drewN q).heap++os).size;rw[Array.size_append];omega
 ·show((a.drewN q).heap++os)[c]?=_;rw[Array.getElem?_append_left hc]
section
variable {α:Type} [A3 α] [A6 α] [Inhabited α] {P:Program} {ρ:Ren} {h:Hp} {w:World} {T:TypeId} {v:Value} {xs:List α}
theorem cI1{b:Nat}{cur:Array Value}(h2:w.heap[b]?=some (.cells cur T (0,0)))(h6:cur.toList.take (xs.length*A3.sz α)=xs.flatMap A6.cells):HoldsK A6.cells (A3.sz α) w b 0 xs.toArray:=fun j hj=>by
 have hl:=bh9 A6.cells (A3.pos (α:=α)) am7 xs.toArray;rw[List.toList_toArray,←h6]at hl;have hj':j<xs.length*A3.sz α:=by simpa using hj
 rw[du4,dy8 w b j cur _ (0,0) h2];refine⟨?_,frozen_of_row w b j cur _ h2⟩;have h7:=ds7 (fun z=>z[j]?) hl;simp only[dC8,dA9,if_pos hj',dz9 hj]at h7;rw[getElem!_pos _ j hj];exact h7.symm
theorem aH7(L:SlLaysF0.n6 P ρ)(aE:∀w,(isAgg (ρ.t 24)).run P w = .ok true w)(zE:∀w,(Go.sizeOf (ρ.t 24)).run P w = .ok (A3.sz α) w)(cf:α→α→Int)(hC:Cm cf)(g:Nat)(eg:∀args w,(callFunc g args).run P w = .ok (.enter g args) w)
  (hcmp:∀x y w,Calls P g #[.agg (A6.cells x).toArray,.agg (A6.cells y).toArray] w fun e w'=>e = .returned (.int .i64 (cf x y))∧Gr w w')
  (ho:B0 h w T v xs) (hl:xs.length≤1000000000) (hanti:∀a∈xs,∀b∈xs,decide (cf a b≤0)=true→decide (cf b a≤0)=true→a=b) :
  Calls P (ρ.f 6) #[v,.func (.func g) #[] #[]] w fun e w'=>∃u,e = .returned u∧(B0 h w' T v (V9 (fun a b=>decide (cf a b≤0)) xs)∧t8 (A4 v) w w'):=by
 rcases cy6 ho with⟨rfl,rfl⟩|⟨b,c,cur,rfl,h1,h2,h3,h4,h5,h6⟩
 ·refine(AnyF.slices_SortFunc_none L none 0 _ w).mono ?_;rintro e w' ⟨rfl,rfl⟩;exact⟨_,rfl,B0.nil _ _ _,t8.refl _⟩
 ·have hb:b<w.heap.size:=(dr3.1 h2).1;have:=AnyQ.slices_SortFunc L (A3.sz α) aE zE A6.cells am7 am8 cf hC.swo g #[] b 0 c xs.toArray w eg (fun m os dk _ x y=>hcmp x y _) (cI1 h2 h6) hb (by simp;omega);rw[dA6]at this;refine this.mono ?_;rintro e w' ⟨rfl,d',n,os,hp,hs,rfl⟩;obtain⟨hsz,_,hperm⟩:=hp;have hszd:d'.size=xs.length:=by simpa using hsz
  have hd:d'.toList=V9 (fun a b=>decide (cf a b≤0)) xs:=by
   have e1:d'.extract 0 xs.length=d':=by rw[←hszd];exact Array.extract_size
   rw[e1]at hperm;have e2:(xs.toArray.extract 0 xs.length).toList=xs:=by
    have:=@Array.extract_size _ xs.toArray;rw[dA6]at this;rw[this]
   rw[e2]at hperm;refine ay9 (le:=fun a b=>decide (cf a b≤0)) (hperm.trans (G5 _ _).symm) ?_ ?_ ?_
   ·intro a ha b hb;exact hanti a (hperm.mem_iff.1 ha) b (hperm.mem_iff.1 hb)
   ·rw[dz0];intro i j hi hj hij;have hi':i<d'.size:=by simpa using hi
    have hj':j<d'.size:=by simpa using hj
    have:=hs i j (dr8 _) hij (by omega);rw[getElem!_pos d' j hj',getElem!_pos d' i hi']at this;simp only[ltOf,dE2]at this;have a1:=hC.anti d'[i] d'[j];simp only[Array.getElem_toList,du7];omega
   ·exact am1 (fun a _ b _=>hC.total a b) (fun a _ b _ c _ h1 h2=>du9 (hC.trans a b c (dr0 h1) (dr0 h2)))
  have hfl:=bh9 A6.cells (A3.pos (α:=α)) am7 d';have hfs:(flatK A6.cells (A3.sz α) d').size=xs.length*A3.sz α:=by rw[size_flatK,hszd]
  obtain⟨k1,k2⟩:=bB8 h2 id (flatK A6.cells (A3.sz α) d') (by rw[hfs,h5];exact dz4 _ h3) n os;refine⟨_,rfl,?_,k2.weaken fun _ _ e=>by subst e;rfl⟩;have hlen:(V9 (fun a b=>decide (cf a b≤0)) xs).length=xs.length:=(G5 _ _).length_eq;rw[List.map_id,hfl,hd]at k1;have:=bk7 (l:=V9 (fun a b=>decide (cf a b≤0)) xs) h1 k1 (by rw[hlen];exact h3) h4 ?_ ?_
  ·rw[hlen]at this;exact this
  ·have hml:=dz4 (A3.sz α) h3;simp only[dA6,dr1,ab8,hlen,dy7,dE0,hfs,h5];omega
  ·simp only[];rw[←ab8,dA3]
end
end
end Go.Proofs.YtcbnbgpphippoaaGreat
namespace Go.Proofs
open Go.Shelf
def Tryz.lySortV_ren:Go.Shelf.Ren:=⟨fun|6=>59|15=>105|14=>104|28=>165|29=>166|20=>157|21=>158|22=>159|23=>160|24=>161|25=>162|26=>163|27=>164|46=>218|47=>219|48=>220|49=>221|50=>222|57=>255|n=>n,fun|22=>30|24=>36|25=>124|3=>3|39=>165|0=>0|53=>218|55=>220|4=>4|46=>212|45=>211|50=>192|5=>5|9=>9|66=>257|70=>261|76=>285|77=>286|n=>n,fun|n=>n⟩
theorem Tryz.lySortV:Go.Proofs.SlLaysF0.n6 Tryz.prog Tryz.lySortV_ren:={
 mixed:=by kernel_rfl
 f6:=⟨Tryz.f59.name,by decide,Tryz.func59.trans (congrArg some (by kernel_rfl))⟩
 f14:=⟨Tryz.f104.name,by decide,Tryz.func104.trans (congrArg some (by kernel_rfl))⟩
 f15:=Tryz.func105.trans (congrArg some (by kernel_rfl))
 f20:=⟨Tryz.f157.name,by decide,Tryz.func157.trans (congrArg some (by kernel_rfl))⟩
 f21:=⟨Tryz.f158.name,by decide,Tryz.func158.trans (congrArg some (by kernel_rfl))⟩
 f22:=⟨Tryz.f159.name,by decide,Tryz.func159.trans (congrArg some (by kernel_rfl))⟩
 f23:=⟨Tryz.f160.name,by decide,Tryz.func160.trans (congrArg some (by kernel_rfl))⟩
 f24:=⟨Tryz.f161.name,by decide,Tryz.func161.trans (congrArg some (by kernel_rfl))⟩
 f25:=⟨Tryz.f162.name,by decide,Tryz.func162.trans (congrArg some (by kernel_rfl))⟩
 f26:=⟨Tryz.f163.name,by decide,Tryz.func163.trans (congrArg some (by kernel_rfl))⟩
 f27:=⟨Tryz.f164.name,by decide,Tryz.func164.trans (congrArg some (by kernel_rfl))⟩
 f28:=Tryz.func165.trans (congrArg some (by kernel_rfl))
 f29:=Tryz.func166.trans (congrArg some (by kernel_rfl))
 f46:=⟨Tryz.f218.name,by decide,Tryz.func218.trans (congrArg some (by kernel_rfl))⟩
 f47:=Tryz.func219.trans (congrArg some (by kernel_rfl))
 f48:=Tryz.func220.trans (congrArg some (by kernel_rfl))
 f49:=⟨Tryz.f221.name,by decide,Tryz.func221.trans (congrArg some (by kernel_rfl))⟩
 f50:=⟨Tryz.f222.name,by decide,Tryz.func222.trans (congrArg some (by kernel_rfl))⟩
 f57:=⟨Tryz.f255.name,by decide,Tryz.func255.trans (congrArg some (by kernel_rfl))⟩
 t0:=Tryz.underlying0
 a0:=Tryz.isAgg0
 z0:=Tryz.sizeOf0
 v0:=Tryz.zeroValue0
 t3:=Tryz.underlying3
 a3:=Tryz.isAgg3
 z3:=Tryz.sizeOf3
 v3:=Tryz.zeroValue3
 t4:=Tryz.underlying4
 a4:=Tryz.isAgg4
 z4:=Tryz.sizeOf4
 v4:=Tryz.zeroValue4
 t5:=Tryz.underlying5
 a5:=Tryz.isAgg5
 z5:=Tryz.sizeOf5
 v5:=Tryz.zeroValue5
 t9:=Tryz.underlying9
 a9:=Tryz.isAgg9
 z9:=Tryz.sizeOf9
 v9:=Tryz.zeroValue9
 t22:=Tryz.underlying30
 a22:=Tryz.isAgg30
 z22:=Tryz.sizeOf30
 v22:=Tryz.zeroValue30
 t25:=Tryz.underlying124
 a25:=Tryz.isAgg124
 z25:=Tryz.sizeOf124
 v25:=Tryz.zeroValue124
 t39:=Tryz.underlying165
 a39:=Tryz.isAgg165
 z39:=Tryz.sizeOf165
 v39:=Tryz.zeroValue165
 t45:=Tryz.underlying211
 a45:=Tryz.isAgg211
 z45:=Tryz.sizeOf211
 v45:=Tryz.zeroValue211
 t46:=Tryz.underlying212
 a46:=Tryz.isAgg212
 z46:=Tryz.sizeOf212
 v46:=Tryz.zeroValue212
 t50:=Tryz.underlying192
 a50:=Tryz.isAgg192
 z50:=Tryz.sizeOf192
 v50:=Tryz.zeroValue192
 t53:=Tryz.underlying218
 a53:=Tryz.isAgg218
 z53:=Tryz.sizeOf218
 v53:=Tryz.zeroValue218
 t55:=Tryz.underlying220
 a55:=Tryz.isAgg220
 z55:=Tryz.sizeOf220
 v55:=Tryz.zeroValue220
 t66:=Tryz.underlying257
 a66:=Tryz.isAgg257
 z66:=Tryz.sizeOf257
 v66:=Tryz.zeroValue257
 t70:=Tryz.underlying261
 a70:=Tryz.isAgg261
 z70:=Tryz.sizeOf261
 v70:=Tryz.zeroValue261
 t76:=Tryz.underlying285
 a76:=Tryz.isAgg285
 z76:=Tryz.sizeOf285
 v76:=Tryz.zeroValue285
 t77:=Tryz.underlying286
 a77:=Tryz.isAgg286
 z77:=Tryz.sizeOf286
 v77:=Tryz.zeroValue286}
def Tryz.lySortF_ren:Go.Shelf.Ren:=⟨fun|6=>89|15=>105|14=>138|28=>165|29=>166|20=>200|21=>201|22=>202|23=>203|24=>204|25=>205|26=>206|27=>207|46=>245|47=>219|48=>220|49=>246|50=>247|57=>274|n=>n,fun|22=>95|24=>97|25=>159|3=>3|39=>165|0=>0|53=>218|55=>220|4=>4|46=>212|45=>211|50=>192|5=>5|9=>9|66=>257|70=>261|76=>285|77=>286|n=>n,fun|n=>n⟩
theorem Tryz.lySortF:Go.Proofs.SlLaysF0.n6 Tryz.prog Tryz.lySortF_ren:={
 mixed:=by kernel_rfl
 f6:=⟨Tryz.f89.name,by decide,Tryz.func89.trans (congrArg some (by kernel_rfl))⟩
 f14:=⟨Tryz.f138.name,by decide,Tryz.func138.trans (congrArg some (by kernel_rfl))⟩
 f15:=Tryz.func105.trans (congrArg some (by kernel_rfl))
 f20:=⟨Tryz.f200.name,by decide,Tryz.func200.trans (congrArg some (by kernel_rfl))⟩
 f21:=⟨Tryz.f201.name,by decide,Tryz.func201.trans (congrArg some (by kernel_rfl))⟩
 f22:=⟨Tryz.f202.name,by decide,Tryz.func202.trans (congrArg some (by kernel_rfl))⟩
 f23:=⟨Tryz.f203.name,by decide,Tryz.func203.trans (congrArg some (by kernel_rfl))⟩
 f24:=⟨Tryz.f204.name,by decide,Tryz.func204.trans (congrArg some (by kernel_rfl))⟩
 f25:=⟨Tryz.f205.name,by decide,Tryz.func205.trans (congrArg some (by kernel_rfl))⟩
 f26:=⟨Tryz.f206.name,by decide,Tryz.func206.trans (congrArg some (by kernel_rfl))⟩
 f27:=⟨Tryz.f207.name,by decide,Tryz.func207.trans (congrArg some (by kernel_rfl))⟩
 f28:=Tryz.func165.trans (congrArg some (by kernel_rfl))
 f29:=Tryz.func166.trans (congrArg some (by kernel_rfl))
 f46:=⟨Tryz.f245.name,by decide,Tryz.func245.trans (congrArg some (by kernel_rfl))⟩
 f47:=Tryz.func219.trans (congrArg some (by kernel_rfl))
 f48:=Tryz.func220.trans (congrArg some (by kernel_rfl))
 f49:=⟨Tryz.f246.name,by decide,Tryz.func246.trans (congrArg some (by kernel_rfl))⟩
 f50:=⟨Tryz.f247.name,by decide,Tryz.func247.trans (congrArg some (by kernel_rfl))⟩
 f57:=⟨Tryz.f274.name,by decide,Tryz.func274.trans (congrArg some (by kernel_rfl))⟩
 t0:=Tryz.underlying0
 a0:=Tryz.isAgg0
 z0:=Tryz.sizeOf0
 v0:=Tryz.zeroValue0
 t3:=Tryz.underlying3
 a3:=Tryz.isAgg3
 z3:=Tryz.sizeOf3
 v3:=Tryz.zeroValue3
 t4:=Tryz.underlying4
 a4:=Tryz.isAgg4
 z4:=Tryz.sizeOf4
 v4:=Tryz.zeroValue4
 t5:=Tryz.underlying5
 a5:=Tryz.isAgg5
 z5:=Tryz.sizeOf5
 v5:=Tryz.zeroValue5
 t9:=Tryz.underlying9
 a9:=Tryz.isAgg9
 z9:=Tryz.sizeOf9
 v9:=Tryz.zeroValue9
 t22:=Tryz.underlying95
 a22:=Tryz.isAgg95
 z22:=Tryz.sizeOf95
 v22:=Tryz.zeroValue95
 t25:=Tryz.underlying159
 a25:=Tryz.isAgg159
 z25:=Tryz.sizeOf159
 v25:=Tryz.zeroValue159
 t39:=Tryz.underlying165
 a39:=Tryz.isAgg165
 z39:=Tryz.sizeOf165
 v39:=Tryz.zeroValue165
 t45:=Tryz.underlying211
 a45:=Tryz.isAgg211
 z45:=Tryz.sizeOf211
 v45:=Tryz.zeroValue211
 t46:=Tryz.underlying212
 a46:=Tryz.isAgg212
 z46:=Tryz.sizeOf212
 v46:=Tryz.zeroValue212
 t50:=Tryz.underlying192
 a50:=Tryz.isAgg192
 z50:=Tryz.sizeOf192
 v50:=Tryz.zeroValue192
 t53:=Tryz.underlying218
 a53:=Tryz.isAgg218
 z53:=Tryz.sizeOf218
 v53:=Tryz.zeroValue218
 t55:=Tryz.underlying220
 a55:=Tryz.isAgg220
 z55:=Tryz.sizeOf220
 v55:=Tryz.zeroValue220
 t66:=Tryz.underlying257
 a66:=Tryz.isAgg257
 z66:=Tryz.sizeOf257
 v66:=Tryz.zeroValue257
 t70:=Tryz.underlying261
 a70:=Tryz.isAgg261
 z70:=Tryz.sizeOf261
 v70:=Tryz.zeroValue261
 t76:=Tryz.underlying285
 a76:=Tryz.isAgg285
 z76:=Tryz.sizeOf285
 v76:=Tryz.zeroValue285
 t77:=Tryz.underlying286
 a77:=Tryz.isAgg286
 z77:=Tryz.sizeOf286
 v77:=Tryz.zeroValue286}
def Tryz.lySortE_ren:Go.Shelf.Ren:=⟨fun|6=>111|15=>105|14=>169|28=>165|29=>166|20=>223|21=>224|22=>225|23=>226|24=>227|25=>228|26=>229|27=>230|46=>256|47=>219|48=>220|49=>257|50=>258|57=>276|n=>n,fun|22=>32|24=>60|25=>170|3=>3|39=>165|0=>0|53=>218|55=>220|4=>4|46=>212|45=>211|50=>192|5=>5|9=>9|66=>257|70=>261|76=>285|77=>286|n=>n,fun|n=>n⟩
theorem Tryz.lySortE:Go.Proofs.SlLaysF0.n6 Tryz.prog Tryz.lySortE_ren:={
 mixed:=by kernel_rfl
 f6:=⟨Tryz.f111.name,by decide,Tryz.func111.trans (congrArg some (by kernel_rfl))⟩
 f14:=⟨Tryz.f169.name,by decide,Tryz.func169.trans (congrArg some (by kernel_rfl))⟩
 f15:=Tryz.func105.trans (congrArg some (by kernel_rfl))
 f20:=⟨Tryz.f223.name,by decide,Tryz.func223.trans (congrArg some (by kernel_rfl))⟩
 f21:=⟨Tryz.f224.name,by decide,Tryz.func224.trans (congrArg some (by kernel_rfl))⟩
 f22:=⟨Tryz.f225.name,by decide,Tryz.func225.trans (congrArg some (by kernel_rfl))⟩
 f23:=⟨Tryz.f226.name,by decide,Tryz.func226.trans (congrArg some (by kernel_rfl))⟩
 f24:=⟨Tryz.f227.name,by decide,Tryz.func227.trans (congrArg some (by kernel_rfl))⟩
 f25:=⟨Tryz.f228.name,by decide,Tryz.func228.trans (congrArg some (by kernel_rfl))⟩
 f26:=⟨Tryz.f229.name,by decide,Tryz.func229.trans (congrArg some (by kernel_rfl))⟩
 f27:=⟨Tryz.f230.name,by decide,Tryz.func230.trans (congrArg some (by kernel_rfl))⟩
 f28:=Tryz.func165.trans (congrArg some (by kernel_rfl))
 f29:=Tryz.func166.trans (congrArg some (by kernel_rfl))
 f46:=⟨Tryz.f256.name,by decide,Tryz.func256.trans (congrArg some (by kernel_rfl))⟩
 f47:=Tryz.func219.trans (congrArg some (by kernel_rfl))
 f48:=Tryz.func220.trans (congrArg some (by kernel_rfl))
 f49:=⟨Tryz.f257.name,by decide,Tryz.func257.trans (congrArg some (by kernel_rfl))⟩
 f50:=⟨Tryz.f258.name,by decide,Tryz.func258.trans (congrArg some (by kernel_rfl))⟩
 f57:=⟨Tryz.f276.name,by decide,Tryz.func276.trans (congrArg some (by kernel_rfl))⟩
 t0:=Tryz.underlying0
 a0:=Tryz.isAgg0
 z0:=Tryz.sizeOf0
 v0:=Tryz.zeroValue0
 t3:=Tryz.underlying3
 a3:=Tryz.isAgg3
 z3:=Tryz.sizeOf3
 v3:=Tryz.zeroValue3
 t4:=Tryz.underlying4
 a4:=Tryz.isAgg4
 z4:=Tryz.sizeOf4
 v4:=Tryz.zeroValue4
 t5:=Tryz.underlying5
 a5:=Tryz.isAgg5
 z5:=Tryz.sizeOf5
 v5:=Tryz.zeroValue5
 t9:=Tryz.underlying9
 a9:=Tryz.isAgg9
 z9:=Tryz.sizeOf9
 v9:=Tryz.zeroValue9
 t22:=Tryz.underlying32
 a22:=Tryz.isAgg32
 z22:=Tryz.sizeOf32
 v22:=Tryz.zeroValue32
 t25:=Tryz.underlying170
 a25:=Tryz.isAgg170
 z25:=Tryz.sizeOf170
 v25:=Tryz.zeroValue170
 t39:=Tryz.underlying165
 a39:=Tryz.isAgg165
 z39:=Tryz.sizeOf165
 v39:=Tryz.zeroValue165
 t45:=Tryz.underlying211
 a45:=Tryz.isAgg211
 z45:=Tryz.sizeOf211
 v45:=Tryz.zeroValue211
 t46:=Tryz.underlying212
 a46:=Tryz.isAgg212
 z46:=Tryz.sizeOf212
 v46:=Tryz.zeroValue212
 t50:=Tryz.underlying192
 a50:=Tryz.isAgg192
 z50:=Tryz.sizeOf192
 v50:=Tryz.zeroValue192
 t53:=Tryz.underlying218
 a53:=Tryz.isAgg218
 z53:=Tryz.sizeOf218
 v53:=Tryz.zeroValue218
 t55:=Tryz.underlying220
 a55:=Tryz.isAgg220
 z55:=Tryz.sizeOf220
 v55:=Tryz.zeroValue220
 t66:=Tryz.underlying257
 a66:=Tryz.isAgg257
 z66:=Tryz.sizeOf257
 v66:=Tryz.zeroValue257
 t70:=Tryz.underlying261
 a70:=Tryz.isAgg261
 z70:=Tryz.sizeOf261
 v70:=Tryz.zeroValue261
 t76:=Tryz.underlying285
 a76:=Tryz.isAgg285
 z76:=Tryz.sizeOf285
 v76:=Tryz.zeroValue285
 t77:=Tryz.underlying286
 a77:=Tryz.isAgg286
 z77:=Tryz.sizeOf286
 v77:=Tryz.zeroValue286}
def Tryz.lySortP_ren:Go.Shelf.Ren:=⟨fun|6=>192|15=>105|14=>238|28=>165|29=>166|20=>263|21=>264|22=>265|23=>266|24=>267|25=>268|26=>269|27=>270|46=>281|47=>219|48=>220|49=>282|50=>283|57=>285|n=>n,fun|22=>144|24=>186|25=>240|3=>3|39=>165|0=>0|53=>218|55=>220|4=>4|46=>212|45=>211|50=>192|5=>5|9=>9|66=>257|70=>261|76=>285|77=>286|n=>n,fun|n=>n⟩
theorem Tryz.lySortP:Go.Proofs.SlLaysF0.n6 Tryz.prog Tryz.lySortP_ren:={
 mixed:=by kernel_rfl
 f6:=⟨Tryz.f192.name,by decide,Tryz.func192.trans (congrArg some (by kernel_rfl))⟩
 f14:=⟨Tryz.f238.name,by decide,Tryz.func238.trans (congrArg some (by kernel_rfl))⟩
 f15:=Tryz.func105.trans (congrArg some (by kernel_rfl))
 f20:=⟨Tryz.f263.name,by decide,Tryz.func263.trans (congrArg some (by kernel_rfl))⟩
 f21:=⟨Tryz.f264.name,by decide,Tryz.func264.trans (congrArg some (by kernel_rfl))⟩
 f22:=⟨Tryz.f265.name,by decide,Tryz.func265.trans (congrArg some (by kernel_rfl))⟩
 f23:=⟨Tryz.f266.name,by decide,Tryz.func266.trans (congrArg some (by kernel_rfl))⟩
 f24:=⟨Tryz.f267.name,by decide,Tryz.func267.trans (congrArg some (by kernel_rfl))⟩
 f25:=⟨Tryz.f268.name,by decide,Tryz.func268.trans (congrArg some (by kernel_rfl))⟩
 f26:=⟨Tryz.f269.name,by decide,Tryz.func269.trans (congrArg some (by kernel_rfl))⟩
 f27:=⟨Tryz.f270.name,by decide,Tryz.func270.trans (congrArg some (by kernel_rfl))⟩
 f28:=Tryz.func165.trans (congrArg some (by kernel_rfl))
 f29:=Tryz.func166.trans (congrArg some (by kernel_rfl))
 f46:=⟨Tryz.f281.name,by decide,Tryz.func281.trans (congrArg some (by kernel_rfl))⟩
 f47:=Tryz.func219.trans (congrArg some (by kernel_rfl))
 f48:=Tryz.func220.trans (congrArg some (by kernel_rfl))
 f49:=⟨Tryz.f282.name,by decide,Tryz.func282.trans (congrArg some (by kernel_rfl))⟩
 f50:=⟨Tryz.f283.name,by decide,Tryz.func283.trans (congrArg some (by kernel_rfl))⟩
 f57:=⟨Tryz.f285.name,by decide,Tryz.func285.trans (congrArg some (by kernel_rfl))⟩
 t0:=Tryz.underlying0
 a0:=Tryz.isAgg0
 z0:=Tryz.sizeOf0
 v0:=Tryz.zeroValue0
 t3:=Tryz.underlying3
 a3:=Tryz.isAgg3
 z3:=Tryz.sizeOf3
 v3:=Tryz.zeroValue3
 t4:=Tryz.underlying4
 a4:=Tryz.isAgg4
 z4:=Tryz.sizeOf4
 v4:=Tryz.zeroValue4
 t5:=Tryz.underlying5
 a5:=Tryz.isAgg5
 z5:=Tryz.sizeOf5
 v5:=Tryz.zeroValue5
 t9:=Tryz.underlying9
 a9:=Tryz.isAgg9
 z9:=Tryz.sizeOf9
 v9:=Tryz.zeroValue9
 t22:=Tryz.underlying144
 a22:=Tryz.isAgg144
 z22:=Tryz.sizeOf144
 v22:=Tryz.zeroValue144
 t25:=Tryz.underlying240
 a25:=Tryz.isAgg240
 z25:=Tryz.sizeOf240
 v25:=Tryz.zeroValue240
 t39:=Tryz.underlying165
 a39:=Tryz.isAgg165
 z39:=Tryz.sizeOf165
 v39:=Tryz.zeroValue165
 t45:=Tryz.underlying211
 a45:=Tryz.isAgg211
 z45:=Tryz.sizeOf211
 v45:=Tryz.zeroValue211
 t46:=Tryz.underlying212
 a46:=Tryz.isAgg212
 z46:=Tryz.sizeOf212
 v46:=Tryz.zeroValue212
 t50:=Tryz.underlying192
 a50:=Tryz.isAgg192
 z50:=Tryz.sizeOf192
 v50:=Tryz.zeroValue192
 t53:=Tryz.underlying218
 a53:=Tryz.isAgg218
 z53:=Tryz.sizeOf218
 v53:=Tryz.zeroValue218
 t55:=Tryz.underlying220
 a55:=Tryz.isAgg220
 z55:=Tryz.sizeOf220
 v55:=Tryz.zeroValue220
 t66:=Tryz.underlying257
 a66:=Tryz.isAgg257
 z66:=Tryz.sizeOf257
 v66:=Tryz.zeroValue257
 t70:=Tryz.underlying261
 a70:=Tryz.isAgg261
 z70:=Tryz.sizeOf261
 v70:=Tryz.zeroValue261
 t76:=Tryz.underlying285
 a76:=Tryz.isAgg285
 z76:=Tryz.sizeOf285
 v76:=Tryz.zeroValue285
 t77:=Tryz.underlying286
 a77:=Tryz.isAgg286
 z77:=Tryz.sizeOf286
 v77:=Tryz.zeroValue286}
end Go.Proofs
namespace Go.Proofs.YtcbnbgpphippoaaGreat
open Go Tryz
def J7:=zJ (zJ (zJ (zJ (zJ (zJ @bf3 @dh0) (zJ @dg3 @cW8)) (zJ (zJ @dg6 @dk3) (zJ @dg4 (zJ @dg5 @dk4)))) (zJ (zJ (zJ @dk0 @dd9) (zJ @dk1 (zJ @dk2 @cX9))) (zJ (zJ @cV4 @cY0) (zJ @cY1 (zJ @di7 @di6))))) (zJ (zJ (zJ (zJ @dk7 @do5) (zJ @dp1 (zJ @cW6 @dj6))) (zJ (zJ @cW7 @dj7) (zJ @dm8 (zJ @dp0 @cJ8)))) (zJ (zJ (zJ @db8 @cJ9) (zJ @db9 (zJ @dc0 @cT3))) (zJ (zJ @cO5 @cO4) (zJ @db7 (zJ @dn0 @dm9)))))) (zJ (zJ (zJ (zJ (zJ @cT2 @dn2) (zJ @dn1 (zJ @dj4 @cF0))) (zJ (zJ @da9 @dm4) (zJ @cJ6 (zJ @cW5 @cS8)))) (zJ (zJ (zJ @dl9 @dm5) (zJ @cW4 (zJ @dj3 @db1))) (zJ (zJ @dj2 @ev.eq_1) (zJ @ev.eq_2 (zJ @ev.eq_3 @ev.eq_4))))) (zJ (zJ (zJ (zJ @C4.eq_1 @C4.eq_2) (zJ @do2 (zJ @dm7 @dj8))) (zJ (zJ @dj9 @List.map_cons.{0,0}) (zJ @List.map_nil.{0,0} (zJ @List.map_toArray.{0,0} @bE1.eq_1)))) (zJ (zJ (zJ @bE1.eq_2 @cW1) (zJ @cv3.eq_1 (zJ @List.getElem?_toArray.{0} @List.getElem?_cons_zero.{0}))) (zJ (zJ @List.getElem?_cons_succ.{0} @Option.bind_some.{0,0}) (zJ @Option.some.injEq.{0} (zJ @dx4 @Bool.true_eq_false))))))
def O2:=zJ (zJ (zJ (zJ @Option.map_some.{0,0} (zJ @Option.map_none.{0,0} @Int.toNat_zero)) (zJ (zJ @Option.isNone_none.{0} @Option.isNone_some.{0}) (zJ @K0 @bz7.eq_1))) (zJ (zJ @bz7.eq_2 (zJ @cG6.eq_1 @aZ0.eq_1)) (zJ (zJ @aZ0.eq_2 @cx3.eq_1) (zJ @cx2.eq_1 @TY)))) (zJ (zJ (zJ @Option.isSome_some.{0} (zJ @dy1 @Bool.and_true)) (zJ (zJ @dA7 @dt5) (zJ @dl6 @Int.cast_ofNat_Int))) (zJ (zJ @decide_true (zJ @add_lit @du4)) (zJ (zJ @Nat.zero_mul @Nat.one_mul) (zJ @Bool.not_true @Bool.not_false))))
def bk3(n m:Int):Int:=if m<1 then 0 else if n.tmod m<0 then n.tmod m+m else n.tmod m
theorem cJ1(n m:Int)(w:World)(hm1:m≤1000000000):p7 prog 37 #[.int .i64 n,.int .i64 m] w fun v w'=>(v = .int .i64 (bk3 n m)∧w'=w):=by
 refine p8 [.int .i64 n,.int .i64 m] func37 rfl ?_;simp only[J7,O2,B6,E5,simprocAttr];refine m8 (fun h=>?_) (fun h=>?_)
 ·simp only[J7,simprocAttr];refine o6 results37 ?_;simp only[p6,simprocAttr];have h':m<1:=by simpa using h
  exact⟨by rw[bk3,if_pos h'],by trivial⟩
 ·have h':¬m<1:=by simpa using h
  have h0:¬m=0:=by omega
  simp only[J7,B6,E5,simprocAttr,h0];refine m8 (fun h2=>?_) (fun h2=>?_)
  ·have h2':n.tmod m<0:=by simpa using h2
   have h3 : -m<n.tmod m:=by have:=Int.lt_tmod_of_pos n (show 0<m by omega);omega
   have hw:IntKind.i64.wrap (n.tmod m+m)=n.tmod m+m:=K6 _ (by omega);simp only[J7,B6,E5,simprocAttr,hw];refine o6 results37 ?_;simp only[p6,simprocAttr];exact⟨by rw[bk3,if_neg h',if_pos h2'],by trivial⟩
  ·have h2':¬n.tmod m<0:=by simpa using h2
   simp only[J7,simprocAttr];refine o6 results37 ?_;simp only[p6,simprocAttr];exact⟨by rw[bk3,if_neg h',if_neg h2'],by trivial⟩
theorem ae1:E7 prog 112 3 1 8=true:=by kernel_rfl
theorem bq9:E7 prog 149 4 1 1=true:=by kernel_rfl
theorem dd2:E7 prog 125 128 2 16=true:=by kernel_rfl
theorem bU6:E7 prog 153 112 1 24=true:=by kernel_rfl
theorem bi2{α β:Type}(g:β→α→β)(b:β)(l:List α)(k:Nat)(hk:k<l.length):(l.take (k+1)).foldl g b=g ((l.take k).foldl g b) l[k]:=by
 rw[dr6 hk,List.foldl_append];rfl
def aa1(l:List Bool)(k:Nat):List Int:=((List.range k).filter fun i=>l[i]?.getD false).map fun(i:Nat)=>(i:Int)
theorem aP8(l:List Bool)(k:Nat):aa1 l (k+1)=if l[k]?.getD false then aa1 l k++[(k:Int)]else aa1 l k:=by
 unfold aa1;rw[dB9,dy3,du1];by_cases h:l[k]?.getD false=true<;>simp[h]
theorem bI3(l:List Bool)(k:Nat):(aa1 l k).length≤k:=by
 unfold aa1;rw[dr9];exact dr7 (dt9 _ _) (by simp)
theorem bS7(v:Value)(l:List Bool)(w:World)(hv:R (i4 w) v l)(hl:l.length≤1000000):p7 prog 188 #[v] w fun u w'=>(B0 (i4 w) w' 3 u (aa1 l l.length)∧o7 w w'):=by
 refine p8 [v] func188 rfl ?_;have hS:=hv.isS;have hn:=hv.vlen;simp only[J7,O2,B6,E5,unV,aD0,z6,U6,I0,P9,I8.val,simprocAttr,hS,hn];refine n9 [6,7] (σ:=Nat) (fun k f w'=>f 8 = .int .i64 k∧k≤l.length∧B0 (i4 w) w' 3 (f 3) (aa1 l k)∧o7 w w') (fun k=>l.length-k) 0 ?_ ?_
 ·simp only[p6,simprocAttr];exact⟨by first|rfl|trivial,dr8 _,B0.nil _ _ _,t8.refl _⟩
 ·rintro k f w' hk ⟨h8,hkl,ho,hx⟩;simp only[dq9,p6,simprocAttr]at hk;obtain⟨e6,e7,_⟩:=hk;simp only[J7,O2,B6,E5,unV,aD0,z6,U6,I0,P9,I8.val,simprocAttr,h8,e6,e7];refine m8 (fun hc=>?_) (fun hc=>?_)
  ·have hlt:k<l.length:=by simpa using hc
   have hin:=hv.inS hlt;have hld:=M8 (P:=prog) (t:=4) hv (b7 hx) (dq7 hlt) ak1;simp only[J7,O2,B6,E5,unV,aD0,z6,U6,I0,P9,I8.val,simprocAttr,h8,e6,e7,hin,hld];refine m8 (fun hc2=>?_) (fun hc2=>?_)
   ·have hlen:=bI3 l k;obtain⟨h1,u',w2,h2,h3,h4,h5⟩:=push (e:=112) ae1 rfl ho (x:=.int .i64 k) (y:=(k:Int)) rfl (by omega) (by omega) (b7 hx);simp only[Value.cells]at h1 h2;simp only[J7,O2,B6,E5,unV,aD0,z6,U6,I0,P9,I8.val,simprocAttr,h8,e6,e7,h1,h2,Value.cells];refine⟨k+1,by omega,by rw[A8 k (by omega)],by omega,?_,ho.ext2 hx h4⟩;rw[aP8,if_pos (by simp[hlt,hc2])];exact h3
   ·simp only[J7,O2,B6,E5,unV,aD0,z6,U6,I0,P9,I8.val,simprocAttr,h8,e6,e7];refine⟨k+1,by omega,by rw[A8 k (by omega)],by omega,?_,hx⟩;rw[aP8,if_neg (by simp[hlt,hc2])];exact ho
  ·have hge:k=l.length:=by simp at hc;omega
   subst hge;simp only[J7,O2,B6,E5,unV,aD0,z6,U6,I0,P9,I8.val,simprocAttr];refine o6 results188 ?_;simp only[p6,simprocAttr];exact⟨ho,hx⟩
theorem cO8(w:World)(a b:Int):
  (Instr.alloc 128 true (.tuple #[])).run prog w = .ok (.pointer (some ⟨w.heap.size,0,none⟩)) (w.alloc (.cells #[.int .i64 0,.int .i64 0] 128)) ∧
  (Instr.storeAt 128 (.pointer (some ⟨w.heap.size,0,none⟩)) (.agg #[.int .i64 a,.int .i64 b])).run prog (w.alloc (.cells #[.int .i64 0,.int .i64 0] 128)) =
   .ok () (w.alloc (.cells #[.int .i64 a,.int .i64 b] 128)):=
 aJ7 (P:=prog) (T:=128) cD1 (by rw[bn8];rfl) (cs:=#[.int .i64 a,.int .i64 b]) (by rw[bn8];rfl) (by simp[Value.oneCell'])
theorem cO6(w:World)(a b:Int):(Instr.loadAt 3 (.pointer (some ⟨w.heap.size,0,none⟩))).run prog (w.alloc (.cells #[.int .i64 a,.int .i64 b] 128)) = .ok (.int .i64 a) (w.alloc (.cells #[.int .i64 a,.int .i64 b] 128)):=
 cw8 (by rfl) F3
theorem cO7(w:World)(a b:Int):(Instr.loadAt 3 (.pointer (some ⟨w.heap.size,1,none⟩))).run prog (w.alloc (.cells #[.int .i64 a,.int .i64 b] 128)) = .ok (.int .i64 b) (w.alloc (.cells #[.int .i64 a,.int .i64 b] 128)):=
 cw8 (by rfl) F3
theorem ldP{h:Hp}{w:World}{v:Value}{xs:List (Int×Int)}(hr:R h v xs)(hw:B5 h (i4 w)){k:Nat}{x:Int×Int}(hk:xs[k]?=some x):
  (Instr.loadAt 128 (.pointer (some (H2 v (k*2))))).run prog w = .ok (.agg #[.int .i64 x.1,.int .i64 x.2]) w:=
 cb6 hr hw hk cB2 cC7 bW2 bn8
def aY0(n:Nat)(e:Int×Int):Prop:=0≤e.1∧e.1<n∧0≤e.2∧e.2<n
end Go.Proofs.YtcbnbgpphippoaaGreat
namespace Go.Proofs
open Go.Shelf
def Tryz.layI_ren:Go.Shelf.Ren:=⟨fun|21=>261|27=>279|28=>280|35=>284|39=>286|n=>n,fun|22=>112|3=>3|4=>4|0=>0|n=>n,fun|n=>n⟩
theorem Tryz.layI:Go.Proofs.Lays2.n21 Tryz.prog Tryz.layI_ren:={
 mixed:=by kernel_rfl
 f21:=Tryz.func261.trans (congrArg some (by kernel_rfl))
 f27:=Tryz.func279.trans (congrArg some (by kernel_rfl))
 f28:=Tryz.func280.trans (congrArg some (by kernel_rfl))
 f35:=Tryz.func284.trans (congrArg some (by kernel_rfl))
 f39:=Tryz.func286.trans (congrArg some (by kernel_rfl))
 t0:=Tryz.underlying0
 a0:=Tryz.isAgg0
 z0:=Tryz.sizeOf0
 v0:=Tryz.zeroValue0
 t3:=Tryz.underlying3
 a3:=Tryz.isAgg3
 z3:=Tryz.sizeOf3
 v3:=Tryz.zeroValue3
 t4:=Tryz.underlying4
 a4:=Tryz.isAgg4
 z4:=Tryz.sizeOf4
 v4:=Tryz.zeroValue4
 t22:=Tryz.underlying112
 a22:=Tryz.isAgg112
 z22:=Tryz.sizeOf112
 v22:=Tryz.zeroValue112
 i3:=by kernel_rfl}
def Tryz.layB_ren:Go.Shelf.Ren:=⟨fun|25=>260|31=>277|32=>278|37=>139|n=>n,fun|22=>112|3=>3|4=>4|40=>165|0=>0|n=>n,fun|n=>n⟩
theorem Tryz.layB:Go.Proofs.Lays2.n25 Tryz.prog Tryz.layB_ren:={
 mixed:=by kernel_rfl
 f25:=Tryz.func260.trans (congrArg some (by kernel_rfl))
 f31:=Tryz.func277.trans (congrArg some (by kernel_rfl))
 f32:=Tryz.func278.trans (congrArg some (by kernel_rfl))
 f37:=Tryz.func139.trans (congrArg some (by kernel_rfl))
 t0:=Tryz.underlying0
 a0:=Tryz.isAgg0
 z0:=Tryz.sizeOf0
 v0:=Tryz.zeroValue0
 t3:=Tryz.underlying3
 a3:=Tryz.isAgg3
 z3:=Tryz.sizeOf3
 v3:=Tryz.zeroValue3
 t4:=Tryz.underlying4
 a4:=Tryz.isAgg4
 z4:=Tryz.sizeOf4
 v4:=Tryz.zeroValue4
 t22:=Tryz.underlying112
 a22:=Tryz.isAgg112
 z22:=Tryz.sizeOf112
 v22:=Tryz.zeroValue112
 t40:=Tryz.underlying165
 a40:=Tryz.isAgg165
 z40:=Tryz.sizeOf165
 v40:=Tryz.zeroValue165}
end Go.Proofs
namespace Go.Proofs.YtcbnbgpphippoaaGreat
open Go Tryz
def L9(l:List Int):List Value:=l.map (Value.int .i64)
theorem L8{h:Hp}:∀{l:List Int} {cs:List Value},N1 h cs l↔cs=L9 l
 | [],cs=>dy2
 | x::l,cs=>by
  constructor
  ·rintro⟨c1,c2,rfl,h1,h2⟩;have h1':c1=[.int .i64 x]:=h1;rw[h1',L8.1 h2];rfl
  ·rintro rfl;exact⟨[.int .i64 x],L9 l,rfl,rfl,L8.2 rfl⟩
theorem bH9(l:List Int):∀v∈L9 l,v.oneCell'=true:=by
 intro v hv;obtain⟨x,_,rfl⟩:=dt7.1 hv;rfl
theorem cw1{l:List Int}{j:Nat}(hj:j<l.length):(L9 l)[j]?=some (.int .i64 (l.getD j 0)):=by
 simp[L9,du5,dq7 hj,List.getD]
theorem U4{b:Nat}{T:TypeId}:∀(vs:List Value) (off:Nat) (w:World) (cur:Array Value),w.heap[b]?=some (.cells cur T (0,0))→off+vs.length≤cur.size →
  (w.setCells b off vs).heap[b]?=some (.cells (cur.toList.take off++vs++cur.toList.drop (off+vs.length)).toArray T (0,0))
 | [],off,w,cur,hb,_=>by simp[World.setCells,hb]
 | v::vs,off,w,cur,hb,hl=>by
  simp only[dt2]at hl;have h1:=heap_setCell_same w b off cur T v hb;rw[World.setCells,U4 vs (off+1) _ _ h1 (by simp;omega)];have hlen:cur.toList.length=cur.size:=by simp
  simp only[Array.toList_setIfInBounds,dt2]
  congr 3
  rw[List.take_set,dr6 (by omega),List.set_append_right (h:=by simp;omega)];have e1:off-(cur.toList.take off).length=0:=by simp;omega
  rw[e1,List.drop_set_of_lt (by omega)];simp[dt4,dA5,Nat.add_comm 1]
theorem X4{b:Nat}{M:Nat→Prop}(hM:M b):∀(vs:List Value) (off:Nat) (w:World),t8 M w (w.setCells b off vs)
 | [],_,w=>t8.refl w
 | v::vs,off,w=>(t8.setCell w ⟨b,off,none⟩ v hM).trans (X4 hM vs (off+1) _)
theorem t8.drew{M:Nat→Prop}(w:World):t8 M w w.drew:=(o7.drew w).weaken fun _ _ h=>h.elim
theorem t8.alloc{M:Nat→Prop}(w:World)(o:Obj):t8 M w (w.alloc o):=(o7.alloc w o).weaken fun _ _ h=>h.elim
theorem t8.drewN{M:Nat→Prop}(w:World)(q:Nat):t8 M w (w.drewN q):=⟨rfl,rfl,rfl,ds5 _,fun _ _ _=>rfl⟩
section
variable {h:Hp} {w:World} {v:Value} {l:List Int}
theorem bJ7(ho:B0 h w 3 v l):(v = .slice none 0 0∧l=[])∨∃b c cur,v = .slice (some ⟨b,0,none⟩) l.length c∧h b=none∧w.heap[b]?=some (.cells cur 3 (0,0))∧l.length≤c∧c≤maxLen∧cur.size=c∧cur.toList.take l.length=L9 l:=by
 rcases ho with hn|⟨b,c,cur,e,h1,h2,h3,h4,h5,h6⟩
 ·exact .inl hn
 ·refine .inr ⟨b,c,cur,e,h1,h2,h3,h4,by simpa[A3.sz]using h5,?_⟩;have:=L8.1 h6;have h7:l.length*A3.sz Int=l.length:=dA7 _;rw[h7]at this;exact this
theorem bb4{b c:Nat}{cur:Array Value}(h1:h b=none)(h2:w.heap[b]?=some (.cells cur 3 (0,0)))(h3:l.length≤c)(h4:c≤maxLen)(h5:cur.size=c)(h6:cur.toList.take l.length=L9 l):
  B0 h w 3 (.slice (some ⟨b,0,none⟩) l.length c) l:=by
 refine .inr ⟨b,c,cur,rfl,h1,h2,h3,h4,by rw[h5];exact(dA7 c).symm,?_⟩;have h7:l.length*A3.sz Int=l.length:=dA7 _;rw[h7,h6];exact L8.2 rfl
theorem cS3:(Tryz.layI_ren.f 21)=261:=by kernel_rfl
theorem cS2:(Tryz.layB_ren.f 25)=260:=by kernel_rfl
theorem bj6:(Tryz.layI_ren.t 3)=3:=by kernel_rfl
theorem bm1(x:Int)(ho:B0 h w 3 v l)(hl:l.length≤1000000000)(hs:l.Pairwise (· ≤ ·)):
  p7 prog 260 #[v,.int .i64 x] w fun u w'=>(u = .tuple #[.int .i64 (l.countP (· < x):Nat),.bool (l.contains x)]∧o7 w w'):=by
 rw[←cS2];rcases bJ7 ho with⟨rfl,rfl⟩|⟨b,c,cur,rfl,h1,h2,h3,h4,h5,h6⟩
 ·refine(Any.slices_BinarySearch_int_empty Tryz.layB none 0 x w).mono ?_;rintro e w' ⟨rfl,rfl⟩;exact⟨_,rfl,rfl,t8.refl _⟩
 ·refine(Any.slices_BinarySearch_int Tryz.layB b 0 l.length c l x w (ds5 _) (by omega) ?_ (by rw[ds2];exact hs)).mono ?_
  ·intro j hj;rw[du4,dy8 w b j cur _ (0,0) h2];have:=cw1 hj;rw[←h6,dA9,if_pos hj]at this;simpa using this
  ·rintro e w' ⟨rfl,q,rfl⟩;rw[ds2];exact⟨_,rfl,rfl,t8.drewN _ _⟩
theorem bj3(x:Int)(i c1:Nat)(w0:World)(hw0:w=w0.alloc (.cells #[.int .i64 x] 3))(ho:B0 h w0 3 v l)(hi:i≤l.length)(hl:l.length≤1000000000)(hw:B5 h (i4 w0)):
  p7 prog 261 #[v,.int .i64 i,.slice (some ⟨w0.heap.size,0,none⟩) 1 c1] w fun u w'=>(B0 h w' 3 u (l.take i++x::l.drop i)∧t8 (A4 v) w0 w'∧D7 w0 v u):=by
 rw[←cS3];have hm0:t8 (A4 v) w0 w:=by rw[hw0];exact t8.alloc _ _
 have hnb:w.heap[w0.heap.size]?=some (.cells #[.int .i64 x] 3 (0,0)):=by rw[hw0];exact dv4 w0 _
 have hsz:w.heap.size=w0.heap.size+1:=by rw[hw0];simp
 have hvs:∀(j:Nat) (u:Value),[Value.int .i64 x][j]?=some u→w.cell? ⟨w0.heap.size,0+j,none⟩=some u:=by
  intro j u hj;rw[du4,dy8 w _ j _ _ (0,0) hnb];simpa using hj
 have h1v:∀v∈[Value.int .i64 x],v.oneCell'=true:=by simp[Value.oneCell']
 have hE:o7 w0 w:=by rw[hw0];exact o7.alloc _ _
 have how:B0 h w 3 v l:=ho.ext hE;have hww:B5 h (i4 w):=p9 hw (b7 hE);have fresh:∀(w':World) (cells:Array Value) (n c:Nat),o7 w w'→w'.heap[w.heap.size]?=some (.cells cells 3 (0,0))→n=l.length+1→n≤c→c≤maxLen→cells.size=c →
   cells.toList.take n=L9 (l.take i++x::l.drop i) →
   B0 h w' 3 (.slice (some ⟨w.heap.size,0,none⟩) n c) (l.take i++x::l.drop i)∧t8 (A4 v) w0 w'∧D7 w0 v (.slice (some ⟨w.heap.size,0,none⟩) n c):=by
  intro w' cells n c he hh hn hc hcm hs hcl;have hlen:(l.take i++x::l.drop i).length=n:=by simp;omega
  refine⟨?_,hm0.trans (he.weaken fun _ _ h=>h.elim),fun b hb=>by simp[A4,Value.ownBlock]at hb;exact .inr (by omega)⟩;have:=bb4 (h:=h) (w:=w') (l:=l.take i++x::l.drop i) (ax2 hww (ds5 _)) hh (by omega) hcm hs (by rw[hlen];exact hcl);rw[hlen]at this;exact this
 rcases bJ7 how with⟨rfl,rfl⟩|⟨b,c,cur,rfl,h1,h2,h3,h4,h5,h6⟩
 ·have hi0:i=0:=by simpa using hi
  subst hi0;refine(Any2.slices_Insert_int_end_grow Tryz.layI none 0 0 w0.heap.size 0 1 c1 [] [.int .i64 x] w (by omega) (by omega) (by omega) (by omega) rfl rfl (fun _=>rfl) (fun a ha=>by cases ha) hvs h1v).mono ?_;rintro e w' ⟨rfl,rfl⟩;refine⟨_,rfl,fresh _ _ _ _ ((o7.drew w).trans (o7.alloc _ _)) (by rw[bj6];exact dv4 w.drew _) rfl (grownCap_ge _ _ _ _) (grownCap_le_maxLen _ _ _ _ (by decide)) ?_ ?_⟩
  ·have:=grownCap_ge w 1 0 (Tryz.layI_ren.t 3);rw[bj6]at this ⊢;simp[size_zeroCells,Value.cells]at this ⊢;omega
  ·simp[L9]
 ·have hcs:(L9 l).length=l.length:=by simp[L9]
  have hcell:∀j,w.cell? ⟨b,j,none⟩=cur[j]?:=fun j=>dy8 w b j cur _ (0,0) h2;have hcells:∀(j:Nat) (u:Value),(L9 l)[j]?=some u→w.cell? ⟨b,0+j,none⟩=some u:=by
   intro j u hj;rw[du4,hcell];rw[←h6,dA9]at hj;split at hj
   ·simpa using hj
   ·cases hj
  have hsome:∀j,j<c→(w.cell? ⟨b,0+j,none⟩).isSome=true:=by
   intro j hj;rw[du4,hcell];simp[h5,hj]
  have hfz:∀j,w.frozen? ⟨b,j,none⟩=false:=fun j=>by simp[World.frozen?,h2]
  have hcl:cur.toList.length=c:=by simpa using h5
  have hbne:w0.heap.size≠b:=by
   intro e;have:=ho.lt (b:=b) (by simp[A4,Value.ownBlock]);omega
  have inplace:∀(w':World) (cells:Array Value),t8 (fun k=>k=b) w w'→w'.heap[b]?=some (.cells cells 3 (0,0))→l.length+1≤c→cells.size=c →
    cells.toList.take (l.length+1)=L9 (l.take i++x::l.drop i) →
    B0 h w' 3 (.slice (some ⟨b,0,none⟩) (l.length+1) c) (l.take i++x::l.drop i)∧t8 (A4 (.slice (some ⟨b,0,none⟩) l.length c)) w0 w'∧D7 w0 (.slice (some ⟨b,0,none⟩) l.length c) (.slice (some ⟨b,0,none⟩) (l.length+1) c):=by
   intro w' cells hm hh hc hs hcl;have hlen:(l.take i++x::l.drop i).length=l.length+1:=by simp;omega
   refine⟨?_,hm0.trans (hm.weaken fun k _ hk=>by simp[A4,Value.ownBlock,hk]),fun k hk=>.inl (by simpa[A4,Value.ownBlock]using hk)⟩;have:=bb4 (h:=h) (w:=w') (l:=l.take i++x::l.drop i) (c:=c) h1 hh (by omega) h4 hs (by rw[hlen];exact hcl);rw[hlen]at this;exact this
  have hsplit:L9 (l.take i++x::l.drop i)=(L9 l).take i ++ .int .i64 x::(L9 l).drop i:=by simp[L9]
  by_cases hin:i=l.length
  ·subst hin;by_cases hroom:l.length+1≤c
   ·refine(Any2.slices_Insert_int_end_room Tryz.layI b 0 l.length c w0.heap.size 0 1 c1 [.int .i64 x] w (by omega) hroom h4 rfl (fun j hj=>?_) (fun j hj=>hfz _) hvs h1v).mono ?_
    ·rw[du4];have:=hsome (l.length+j) (by omega)
     rwa [du4]at this
    ·rintro e w' ⟨rfl,rfl⟩;have hh:=U4 [Value.int .i64 x] (0+l.length) w cur h2 (by simp;omega);refine⟨_,rfl,inplace _ _ (X4 (M:=fun k=>k=b) rfl _ _ _) hh hroom ?_ ?_⟩
     ·simp[h5];omega
     ·rw[hsplit,du4,h6];have e1:(L9 l).take l.length=L9 l:=by rw[←hcs,ds2]
      have e2:(L9 l).drop l.length=[]:=by rw[←hcs,dA0]
      rw[e1,e2];have e6:(L9 l++[Value.int .i64 x]).length=l.length+1:=by simp[hcs]
      simp only[];rw[←e6,dA3]
   ·refine(Any2.slices_Insert_int_end_grow Tryz.layI (some ⟨b,0,none⟩) l.length c w0.heap.size 0 1 c1 (L9 l) [.int .i64 x] w (by omega) h3 (by omega) (by omega) hcs rfl (fun h=>by cases h) (fun a ha j u hj=>?_) hvs h1v).mono ?_
    ·obtain rfl:=ds8 ha;rw[Addr.add_lit];exact hcells j u hj
    ·rintro e w' ⟨rfl,rfl⟩;have hg:=grownCap_ge w (l.length+1) c (Tryz.layI_ren.t 3);refine⟨_,rfl,fresh _ _ _ _ ((o7.drew w).trans (o7.alloc _ _)) (by rw[bj6];exact dv4 w.drew _) rfl hg (grownCap_le_maxLen _ _ _ _ (by simp only[maxLen];omega)) ?_ ?_⟩
     ·rw[bj6]at hg ⊢;simp[size_zeroCells,Value.cells,hcs]at hg ⊢;omega
     ·rw[hsplit];have e1:(L9 l).take l.length=L9 l:=by rw[←hcs,ds2]
      have e2:(L9 l).drop l.length=[]:=by rw[←hcs,dA0]
      rw[e1,e2];simp only[Array.toList_append];rw[dz7 (by simp[hcs])];rw[dv8 (by simp[hcs])]
  ·have hlt:i<l.length:=by omega
   by_cases hroom:l.length+1≤c
   ·refine(Any2.slices_Insert_int_shift Tryz.layI b 0 l.length c i w0.heap.size 0 1 c1 (L9 l) [.int .i64 x] w hlt (by omega) hroom h4 hbne hcs rfl hcells (fun j hj=>hsome j (by omega)) (fun j _=>hfz _) hvs (bH9 l) h1v
     3 3 1 c (by simp[World.shape?,hnb]) (by simp[World.shape?,h2,h5]) (by omega) (by simp[World.frozen?,hnb]) (by simp[World.frozen?,hnb])).mono ?_
    rintro e w' ⟨rfl,rfl⟩;have hd:((L9 l).drop i).length=l.length-i:=by simp[hcs]
    have hh1:=U4 ((L9 l).drop i) (0+(i+1)) w.drew cur h2 (by rw[hd];omega);have hh2:=U4 [Value.int .i64 x] (0+i) _ _ hh1 (by simp[hd];omega);refine⟨_,rfl,inplace _ _ ((t8.drew w).trans ((X4 (M:=fun k=>k=b) rfl _ _ _).trans (X4 (M:=fun k=>k=b) rfl _ _ _))) hh2 hroom ?_ ?_⟩
    ·simp[hd];omega
    ·rw[hsplit];simp only[du4,du0];have e1:(L9 l).take i=cur.toList.take i:=by rw[←h6,List.take_take];congr 1;omega
     have e3:(cur.toList.take (i+1)).length=i+1:=by rw[ds3,hcl];omega
     have e4:(cur.toList.take (i+1)++(L9 l).drop i++cur.toList.drop (i+1+((L9 l).drop i).length)).take i=cur.toList.take i:=by
      rw[dt4,dz7 (by omega),List.take_take];congr 1;omega
     have e5:(cur.toList.take (i+1)++(L9 l).drop i++cur.toList.drop (i+1+((L9 l).drop i).length)).drop (i+1)=(L9 l).drop i++cur.toList.drop (i+1+((L9 l).drop i).length):=by
      rw[dt4,List.drop_append_of_le_length (by omega),List.drop_of_length_le (by omega),dB0]
     rw[e4,e5,e1];have e6:(cur.toList.take i++[Value.int .i64 x]++(L9 l).drop i).length=l.length+1:=by simp[hcs];omega
     rw[←dt4,←e6,dA3];simp
   ·refine(Any2.slices_Insert_int_grow Tryz.layI b 0 l.length c i w0.heap.size 0 1 c1 (L9 l) [.int .i64 x] w hlt (by omega) h3 (by omega) (by omega) hcs rfl hcells hvs (bH9 l) h1v).mono ?_;rintro e w' ⟨rfl,rfl⟩;have hg:=grownCap_ge w (l.length+1) c (Tryz.layI_ren.t 3);have hgm:=grownCap_le_maxLen w (l.length+1) c (Tryz.layI_ren.t 3) (by simp only[maxLen];omega);generalize grownCap w (l.length+1) c (Tryz.layI_ren.t 3)=cap at hg hgm;have hzc:(Value.int .i64 0).cells.size=1:=rfl;generalize hcv:((L9 l).take i).toArray++Builtin.zeroCells (Value.int .i64 0).cells (l.length+1-i)++Builtin.zeroCells (Value.int .i64 0).cells (cap-(l.length+1))=cv;have hcvs:cv.size=cap:=by
     rw[←hcv];simp[size_zeroCells,hzc,hcs];omega
    have hcvt:cv.toList.take i=(L9 l).take i:=by
     rw[←hcv];simp only[Array.toList_append,dt4];rw[dz7 (by simp[hcs];omega),dv8 (by simp;omega)]
    have hcvl:cv.toList.length=cap:=by simpa using hcvs
    have hh0:((w.alloc (.cells cv (Tryz.layI_ren.t 3))).drew).heap[w.heap.size]?=some (.cells cv 3 (0,0)):=by rw[bj6];exact dv4 w _
    have hd:((L9 l).drop i).length=l.length-i:=by simp[hcs]
    have hh1:=U4 [Value.int .i64 x] i _ _ hh0 (by simp;omega);have hh2:=U4 ((L9 l).drop i) (i+1) _ _ (show((((w.alloc (.cells cv (Tryz.layI_ren.t 3))).drew).setCells w.heap.size i [Value.int .i64 x]).drew).heap[w.heap.size]?=_ from hh1) (by simp[hd];omega);refine⟨_,rfl,fresh _ _ _ _ ?_ hh2 rfl hg hgm ?_ ?_⟩
    ·refine t8.ext_of (o7.alloc w (.cells cv (Tryz.layI_ren.t 3))) (M:=fun k=>k=w.heap.size) ?_ (fun k hk=>by omega);exact(t8.drew _).trans ((X4 (M:=fun k=>k=w.heap.size) rfl _ _ _).trans ((t8.drew _).trans (X4 (M:=fun k=>k=w.heap.size) rfl _ _ _)))
    ·simp[hd];omega
    ·rw[hsplit];simp only[du0];have e3:(cv.toList.take i++[Value.int .i64 x]).length=i+1:=by simp[hcvl];omega
     have e4:(cv.toList.take i++[Value.int .i64 x]++cv.toList.drop (i+1)).take (i+1)=cv.toList.take i++[Value.int .i64 x]:=by
      rw[←e3,dA3]
     rw[e4,hcvt];have e6:((L9 l).take i++[Value.int .i64 x]++(L9 l).drop i).length=l.length+1:=by simp[hcs];omega
     rw[←e6,dA3];simp
end
theorem cJ0(v:Value)(x:Int)(l:List Int)(w:World)(hv:R (i4 w) v (x::l))(hl:l.length≤1000000000):
  p7 prog 272 #[v] w fun u w'=>(u = .int .i64 (l.foldl min x)∧w'=w):=by
 refine p8 [v] func272 rfl ?_;have hS:=hv.isS;have hn:=hv.vlen;simp only[dt2]at hn;have h1:decide (((l.length+1:Nat):Int)<1)=false:=by simp;omega
 have hin:=hv.inS (k:=0) (by simp);have hld:=M8 (P:=prog) (t:=3) hv (d7 _) (k:=0) (x:=x) (by rfl) F3;simp only[J7,O2,B6,E5,unV,aD0,z6,U6,I0,P9,I8.val,simprocAttr,hS,hn,h1,hin,hld];refine n9 [0] (σ:=Nat) (fun k f w'=>f 4 = .int .i64 ((k+1:Nat):Int)∧k≤l.length∧f 3 = .int .i64 ((l.take k).foldl min x)∧w'=w) (fun k=>l.length-k) 0 ?_ ?_
 ·simp only[p6,simprocAttr];exact⟨by first|rfl|trivial,dr8 _,by simp[I8.val],by trivial⟩
 ·rintro k f w' hk ⟨h4,hkl,h3,rfl⟩;simp only[dq9,p6,simprocAttr]at hk;obtain⟨e0,_⟩:=hk;simp only[J7,O2,B6,E5,unV,aD0,z6,U6,I0,P9,I8.val,simprocAttr,h4,e0,hS,hn];refine m8 (fun hc=>?_) (fun hc=>?_)
  ·have hlt:k<l.length:=by simp at hc;omega
   have hin2:=hv.inS (k:=k+1) (by simp;omega);have hld2:=M8 (P:=prog) (t:=3) hv (d7 _) (k:=k+1) (x:=l[k]) (by simp[hlt]) F3;have hst:=bi2 min x l k hlt;simp only[J7,O2,B6,E5,unV,aD0,z6,U6,I0,P9,I8.val,simprocAttr,h4,h3,e0,hS,hn,hin2,hld2];have hmin:∀a b:Int,(if b<a then b else a)=min a b:=fun a b=>by
    simp only[Int.min_def];split<;>split<;>omega
   refine⟨k+1,by omega,by rw[A8 (k+1) (by omega)],by omega,by rw[hst,hmin],by trivial⟩
  ·have hge:k=l.length:=by simp at hc;omega
   subst hge;simp only[J7,O2,B6,E5,unV,aD0,z6,U6,I0,P9,I8.val,simprocAttr,h3];refine o6 results272 ?_;simp only[p6,simprocAttr];rw[ds2];exact⟨by trivial,by trivial⟩
theorem bP3(v:Value)(l:List Int)(w:World)(hv:R (i4 w) v l)(hl:l.length≤1000000000):
  p7 prog 273 #[v] w fun u w'=>(B0 (i4 w) w' 3 u l∧o7 w w'):=by
 refine p8 [v] func273 rfl ?_;have hS:=hv.isS;have hb:B6 prog .eql 112 v (.slice none 0 0)=some (.bool (bJ2 v)):=by
  obtain⟨a,n,c,he,_⟩:=hv;simp at he;subst he;simp[B6,Go.Proofs.YtcbnbgpphippoaaGreat.isS,cU7]
 obtain⟨u0,w0,hb0,ho0,hx0,hf0⟩:=da1 (P:=prog) (w:=w) (h:=i4 w) (α:=Int) ae1 (d7 _);obtain⟨u1,w1,ha,ho1,hm1,hv1⟩:=ag3 (P:=prog) (e:=112) ae1 rfl ho0 hv (by simp;omega) (by simp;omega) (b7 hx0);simp only[J7,simprocAttr,hb];refine m8 (fun hc=>?_) (fun hc=>?_)
 ·simp only[J7,simprocAttr];refine o6 results273 ?_;simp only[p6,simprocAttr];obtain⟨a,n,c,he,hn,hnc,es,hes,hce⟩:=hv;simp at he;subst he;cases a with
  | some a=>simp[bJ2]at hc
  | none=>
   have hes0:es=[]:=by
    cases es with
    | nil=>rfl
    | cons x _=>obtain⟨ad,e,_⟩:=hce 0 x rfl;cases e
   subst hes0;have:=J9 hes;have hl0:l=[]:=by
    cases l with
    | nil=>rfl
    | cons _ _=>simp[A3.sz]at this
   subst hl0;exact⟨B0.nil _ _ _,t8.refl _⟩
 ·simp only[J7,simprocAttr,hb0,ha];refine o6 results273 ?_;simp only[p6,simprocAttr];exact⟨by simpa using ho1,ho0.ext2 hx0 hm1⟩
section
variable {α:Type} [A3 α] {P:Program} {h:Hp} {w:World} {t T sz by_:Nat} {v:Value} {x:α}
theorem bE6(hv:SV h v x)(hw:B5 h (i4 w)):∃a w',(Instr.box T v).run P w = .ok (.pointer (some a)) w'∧Gr w w'∧At (i4 w') a x:=by
 obtain⟨cs,rfl,he⟩:=hv;have hx:=o7.alloc w (.cells (List.toArray cs) T);refine⟨⟨w.heap.size,0,none⟩,w.alloc (.cells (List.toArray cs) T),rfl,Gr.alloc _ _,cs,A3.mono (p9 hw (b7 hx)) he,fun j u hj=>?_⟩;rw[←al4,add_lit,du4,dC7];simpa using hj
theorem cI8(hs:E7 P t T sz by_=true){xs:List Value}{ys:List α}{parts:Array (Nat×Value)}{n:Nat}(hp:parts.toList=(xs.zipIdx 0).map fun p=>(p.2,p.1))
  (he:N1 h (xs.flatMap (·.cells.toList)) ys) (hx:∀x∈xs,x.cells.size=sz) (hn:n=xs.length) (hyl:ys.length=xs.length) (hne:xs≠[]) (hlt:xs.length≤16) (hw:B5 h (i4 w)) :
  ∃v w',(Instr.buildSlice t n parts).run P w = .ok v w'∧B0 h w' T v ys∧Gr w w':=by
 obtain⟨h1,⟨z,hz,hzs⟩,h3,h4,h5,h6⟩:=Q0 hs;obtain⟨i,hi,hiz⟩:=A0 hz;have hr:=aq5 (w:=w) h1 (by rw[hi];rfl) hz xs (by rw[h3];exact hx) hne (by omega) (dr7 (Nat.mul_le_mul hlt (show K1 P T≤1000000 by omega)) (by omega)) hp hn;refine⟨_,_,hr,.inr ⟨w.heap.size,n,_,by rw[hn,hyl],ax2 hw (ds5 _),dv4 w _,by omega,by rw[hn];simp only[maxLen];omega,?_,?_⟩,Gr.alloc _ _⟩
 ·have:=J9 he;simp only[dA6,this,hyl,hn]
 ·rw[←J9 he];simp only[ds2];exact he
theorem SV.ofN[A6 α](h:Hp)(x:α):SV h (.agg (A6.cells x).toArray) x:=⟨_,rfl,(A6.iff_ _ _ _).2 rfl⟩
end
theorem bI9(s:Int)(w:World):p7 prog 139 #[.int .i64 s] w fun u w'=>(u = .bool false∧w'=w):=by
 refine p8 [.int .i64 s] func139 rfl ?_;have hd:decide (s=s)=true:=by simp
 simp only[n7,n8,simprocAttr];refine o6 results139 ?_;simp only[p6,simprocAttr];exact⟨by trivial,by trivial⟩
theorem S7(a b:Int)(w:World):p7 prog 92 #[.int .i64 a,.int .i64 b] w fun u w'=>(u = .int .i64 (J4 a b)∧w'=w):=by
 refine p8 [.int .i64 a,.int .i64 b] func92 rfl ?_;simp only[n7,n8,simprocAttr];refine C7 (bI9 a w) ?_;simp only[n7,simprocAttr];refine C7 (bI9 b w) ?_;have hF:J4 a b=if a<b then -1 else if b<a then 1 else 0:=rfl;rcases dq8 (decide (a<b))with h1|h1
 ·simp only[n7,n8,simprocAttr,h1];refine o6 results92 ?_;simp only[p6,simprocAttr];exact⟨by rw[hF,if_pos (dr0 h1)],by trivial⟩
 rw[if_neg (dr2 h1)]at hF;rcases dq8 (decide (b<a))with h2|h2
 ·simp only[n7,n8,simprocAttr,h1,h2];refine o6 results92 ?_;simp only[p6,simprocAttr];exact⟨by rw[hF,if_pos (dr0 h2)],by trivial⟩
 ·simp only[n7,n8,simprocAttr,h1,h2];refine o6 results92 ?_;simp only[p6,simprocAttr];exact⟨by rw[hF,if_neg (dr2 h2)],by trivial⟩
theorem aw3(a b:A7)(w:World):p7 prog 94 #[o9 a,o9 b] w fun u w'=>(u = .int .i64 (af3 a b)∧w'=w):=by
 refine p8 [o9 a,o9 b] func94 rfl ?_;simp only[n7,n8,simprocAttr];refine C7 (bk4 a w) ?_;simp only[n7,simprocAttr];refine C7 (bk4 b w) ?_;have hF:af3 a b=if ltS a b then -1 else if ltS b a then 1 else 0:=rfl;have hgt:(!(ltS a b||decide (a=b)))=(!ltS a b&&ltS b a):=by
  cases h1:ltS a b<;>cases h2:ltS b a
  ·have:=cb9 h1 h2;subst this;simp
  ·have:a≠b:=fun e=>by subst e;rw[N2]at h2;cases h2
   simp[this]
  ·rfl
  ·rfl
 rcases dq8 (ltS a b)with h1|h1
 ·simp only[n7,n8,simprocAttr,h1];refine o6 results94 ?_;simp only[p6,simprocAttr];exact⟨by rw[hF,if_pos h1],by trivial⟩
 rw[if_neg (by rw[h1];simp)]at hF;rw[h1]at hgt;simp only[dC4,Bool.not_false,dy1]at hgt;have hg2:B6 prog .gtr 9 (o9 a) (o9 b)=some (.bool (ltS b a)):=by rw[cG0,h1,dC4,hgt]
 rcases dq8 (ltS b a)with h2|h2
 ·simp only[n7,n8,simprocAttr,h1,h2,hg2];refine o6 results94 ?_;simp only[p6,simprocAttr];exact⟨by rw[hF,if_pos h2],by trivial⟩
 ·simp only[n7,n8,simprocAttr,h1,h2,hg2];refine o6 results94 ?_;simp only[p6,simprocAttr];exact⟨by rw[hF,if_neg (by rw[h2];simp)],by trivial⟩
theorem aJ6{h:Hp}{v:Value}{l:List Int}{w:World}(hv:R h v l)(hw:B5 h (i4 w)){k:Nat}(hk:k<l.length):(Instr.loadAt 3 (.pointer (some (H2 v k)))).run prog w = .ok (.int .i64 l[k]) w:=
 M8 (P:=prog) (t:=3) hv hw (dq7 hk) F3
theorem by2(v:Value)(l:List Int)(w:World)(hv:R (i4 w) v l)(hl:l.length≤1000000000):p7 prog 91 #[v] w fun u w'=>(u = .int .i64 (orF l)∧w'=w):=by
 refine p8 [v] func91 rfl ?_;have hS:=hv.isS;have hn:=hv.vlen;simp only[n7,n8,simprocAttr,hS,hn];refine n9 [3,6,7] (σ:=Nat) (fun k f w'=>f 8 = .int .i64 k∧k≤l.length∧orF l=orF (l.drop k)∧w'=w) (fun k=>l.length-k) 0 ?_ ?_
 ·simp only[p6,simprocAttr];exact⟨by trivial,dr8 _,by rw[dA1],by trivial⟩
 rintro k f w2 hk ⟨h8,hkl,hor,rfl⟩;simp only[dq9,p6,simprocAttr]at hk;obtain⟨e3,e6,e7,_⟩:=hk;simp only[n7,n8,simprocAttr,h8,e7];refine m8 (fun hc=>?_) (fun hc=>?_);rotate_left
 ·have hge:k=l.length:=by simp at hc;omega
  subst hge;rw[dA0,orF]at hor;simp only[n7,simprocAttr,e3];refine o6 results91 ?_;simp only[p6,simprocAttr];exact⟨by rw[hor],by trivial⟩
 have hlt:k<l.length:=by simpa using hc
 have hin:=hv.inS hlt;have hld:=aJ6 hv (d7 _) hlt;rw[du8 hlt,orF]at hor;generalize l[k]=y at hld hor;rcases dq8 (decide (y=0))with hq|hq
 ·rw[if_pos (dr0 hq)]at hor;simp only[n7,n8,z6,simprocAttr,h8,e3,e6,hin,hld,hq];exact⟨k+1,by omega,by rw[A8 k (by omega)],by omega,hor,by trivial⟩
 ·rw[if_neg (dr2 hq)]at hor;simp only[n7,n8,z6,simprocAttr,h8,e3,e6,hin,hld,hq];refine o6 results91 ?_;simp only[p6,simprocAttr];exact⟨by rw[hor],by trivial⟩
theorem ai2(a:Int)(w:World):p7 prog 93 #[.int .i64 a] w fun u w'=>(u = .int .i64 (E3 a)∧w'=w):=by
 refine p8 [.int .i64 a] func93 rfl ?_;rcases dq8 (decide (a = -1))with h1|h1
 ·simp only[n7,n8,simprocAttr,h1];refine o6 results93 ?_;simp only[p6,simprocAttr];exact⟨by rw[E3,if_pos (dr0 h1)],by trivial⟩
 ·simp only[n7,n8,simprocAttr,h1];refine o6 results93 ?_;simp only[p6,simprocAttr];exact⟨by rw[E3,if_neg (dr2 h1)],by trivial⟩
theorem co0(x y:Sp)(w:World):p7 prog 193 #[.agg (A6.cells x).toArray,.agg (A6.cells y).toArray] w fun u w'=>(u = .int .i64 (spC x y)∧Gr w w'):=by
 refine p8 [.agg (A6.cells x).toArray,.agg (A6.cells y).toArray] func193 rfl ?_;obtain⟨a,w1,hb1,hg1,ha⟩:=bE6 (P:=prog) (T:=186) (SV.ofN (i4 w) x) (d7 _);obtain⟨b,w2,hb2,hg2,hb⟩:=bE6 (P:=prog) (T:=186) (SV.ofN (i4 w1) y) (d7 _);obtain⟨_,sa⟩:=(ha.mono (b7 hg2.ext)).sp;obtain⟨_,sb⟩:=hb.sp;have s1:=sa (fun w'=>Gr w2.drew w') w2.drew (Gr.refl _) fun w' h=>b7 ((Gr.drew w2).trans h).ext;have s2:=sb (fun w'=>Gr w2.drew w') w2.drew (Gr.refl _) fun w' h=>b7 ((Gr.drew w2).trans h).ext;simp only[n7,n8,simprocAttr,hb1,hb2];refine C0 (fun w'=>Gr w2.drew w') 18 (A9 [0,1,3,4,7,8,10,11,14,15,16,17,2,5,6,9,12,13]) ?_ (hS:=Gr.refl _);simp only[D2,A9,n7,n8,simprocAttr,s1,s2];refine C7 (ai2 _ _) ⟨Gr.refl _,?_⟩;simp only[D2,n7,simprocAttr];refine C7 (ai2 _ _) ⟨Gr.refl _,?_⟩;simp only[D2,n7,simprocAttr];refine C7 (S7 _ _ _) ⟨Gr.refl _,?_⟩;simp only[D2,n7,simprocAttr];refine C7 (ai2 _ _) ⟨Gr.refl _,?_⟩;simp only[D2,n7,simprocAttr];refine C7 (ai2 _ _) ⟨Gr.refl _,?_⟩;simp only[D2,n7,simprocAttr];refine C7 (S7 _ _ _) ⟨Gr.refl _,?_⟩;simp only[D2,n7,simprocAttr];refine C7 (S7 _ _ _) ?_;generalize hl:[J4 (E3 x.src) (E3 y.src),J4 (E3 x.dst) (E3 y.dst),J4 x.kind y.kind]=l;have hF:spC x y=orF l:=by rw[←hl];rfl
 have h3:l.length=3:=by rw[←hl];rfl
 obtain⟨vt,w3,hlit,hot,hg3⟩:=cI8 (P:=prog) (w:=w2.drew) (h:=i4 w2.drew) (α:=Int) (xs:=[.int .i64 (J4 (E3 x.src) (E3 y.src)),.int .i64 (J4 (E3 x.dst) (E3 y.dst)),.int .i64 (J4 x.kind y.kind)]) (ys:=l) (parts:=#[(0,.int .i64 (J4 (E3 x.src) (E3 y.src))),(1,.int .i64 (J4 (E3 x.dst) (E3 y.dst))),(2,.int .i64 (J4 x.kind y.kind))]) (n:=3) ae1 rfl (by rw[←hl];exact L8.2 rfl) (by simp[Value.cells]) rfl h3 (by simp) (by simp) (d7 _);simp only[n7,simprocAttr,hlit];refine C7 (by2 vt l w3 (hot.rw_ (b7 hg3.ext)) (by omega)) ?_;simp only[n7,simprocAttr];refine o6 results193 ?_;simp only[p6,simprocAttr];exact⟨by rw[hF],hg1.trans (hg2.trans ((Gr.drew w2).trans hg3))⟩
theorem bL9(x y:Sp)(vx vy:Value)(w:World)(hx:SV (i4 w) vx x)(hy:SV (i4 w) vy y):p7 prog 195 #[vx,vy] w fun u w'=>(u = .bool (aS1 x y)∧o7 w w'):=by
 refine p8 [vx,vy] func195 rfl ?_;obtain⟨a,w1,hb1,hx1,ha⟩:=bY7 hx (d7 _);obtain⟨b,w2,hb2,hx2,hb⟩:=bY7 (hy.mono (b7 hx1)) (d7 _);obtain⟨la,_⟩:=ha.sp;obtain⟨lb,_⟩:=hb.sp;have l1:=la w2 (b7 hx2);have l2:=lb w2 (d7 _);have hF:aS1 x y=(decide (x.src=y.src)&&decide (x.dst=y.dst)):=rfl;rcases dq8 (decide (x.src=y.src))with h1|h1
 ·simp only[n7,n8,simprocAttr,hb1,hb2,l1,l2,h1];refine o6 results195 ?_;simp only[p6,simprocAttr];exact⟨by rw[hF,h1,dy1],hx1.trans hx2⟩
 ·simp only[n7,n8,simprocAttr,hb1,hb2,l1,l2,h1];refine o6 results195 ?_;simp only[p6,simprocAttr];exact⟨by rw[hF,h1];rfl,hx1.trans hx2⟩
theorem cN5:Cm spC:=by
 have h:=(aC6.key (fun x:Sp=>E3 x.src)).lex ((aC6.key (fun x:Sp=>E3 x.dst)).lex ((aC6.key (fun x:Sp=>x.kind)).lex Cm.zero));have e:spC=fun x y:Sp=>if J4 (E3 x.src) (E3 y.src)=0 then(if J4 (E3 x.dst) (E3 y.dst)=0 then(if J4 x.kind y.kind=0 then 0 else J4 x.kind y.kind)else J4 (E3 x.dst) (E3 y.dst))else J4 (E3 x.src) (E3 y.src):=by
  funext x y
  simp only[spC,orF]
 rw[e];exact h
def plc(a:Int):Prop:=a<9223372036854775807
theorem aR2{a b:Int}(ha:plc a)(hb:plc b)(h:E3 a=E3 b):a=b:=by
 unfold E3 plc at *;split at h<;>split at h<;>omega
theorem cK9{l:List Sp}(hl:∀x∈l,plc x.src∧plc x.dst):∀a∈l,∀b∈l,decide (spC a b≤0)=true→decide (spC b a≤0)=true→a=b:=by
 intro a ha b hb h1 h2;have h3:=dr0 h1;have h4:=dr0 h2;have h5:=cN5.anti a b;have h0:spC a b=0:=by omega
 unfold spC at h0;simp only[orF]at h0;by_cases q1:J4 (E3 a.src) (E3 b.src)=0
 ·rw[if_pos q1]at h0;by_cases q2:J4 (E3 a.dst) (E3 b.dst)=0
  ·rw[if_pos q2]at h0;by_cases q3:J4 a.kind b.kind=0
   ·have e1:=aR2 (hl a ha).1 (hl b hb).1 (ab7 q1);have e2:=aR2 (hl a ha).2 (hl b hb).2 (ab7 q2);have e3:=ab7 q3;cases a;cases b;simp_all
   ·rw[if_neg q3]at h0;exact absurd h0 q3
  ·rw[if_neg q2]at h0;exact absurd h0 q2
 ·rw[if_neg q1]at h0;exact absurd h0 q1
theorem cl6:(Tryz.lySortP_ren.f 6)=192:=by kernel_rfl
theorem bu5:(Tryz.lySortP_ren.t 24)=186:=by kernel_rfl
theorem bm7:E7 prog 144 186 3 24=true:=by kernel_rfl
theorem bL8{h:Hp}{w:World}{v:Value}{xs:List Sp}(ho:B0 h w 186 v xs)(hl:xs.length≤1000000000)(hp:∀x∈xs,plc x.src∧plc x.dst):
  Calls prog 192 #[v,.func (.func 193) #[] #[]] w fun e w'=>∃u,e = .returned u∧(B0 h w' 186 v (V9 cK8 xs)∧t8 (A4 v) w w'):=by
 rw[←cl6];have aE:∀w,(isAgg (Tryz.lySortP_ren.t 24)).run prog w = .ok true w:=fun w=>by
  rw[bu5,X2 _ bW5,bW1]
 have zE:∀w,(Go.sizeOf (Tryz.lySortP_ren.t 24)).run prog w = .ok (A3.sz Sp) w:=fun w=>by
  rw[bu5,N6 bn7,aN1];rfl
 exact aH7 (P:=prog) (T:=186) Tryz.lySortP aE zE spC cN5 193 (enters_of func193 (by kernel_rfl) rfl) (fun x y w=>(co0 x y w).mono fun e w' ⟨u,h1,h2,h3⟩=>⟨by rw[h1,h2],h3⟩) ho hl (cK9 hp)
section
variable {α:Type} [A3 α] [A6 α] {P:Program} {h:Hp} {w:World} {t T:TypeId} {v:Value} {xs:List α}
theorem aZ9{xs:List α}{k:Nat}(hk:k<xs.length)(y:α):(xs.set k y).flatMap A6.cells=(xs.flatMap A6.cells).take (k*A3.sz α)++A6.cells y++(xs.flatMap A6.cells).drop (k*A3.sz α+A3.sz α):=by
 have h1:xs=xs.take k++(xs[k]::xs.drop (k+1)):=by
  have:=dv5 k xs;rw[du8 hk]at this;exact this.symm
 have h2:xs.set k y=xs.take k++(y::xs.drop (k+1)):=by rw[List.set_eq_take_append_cons_drop,if_pos hk]
 have hl:((xs.take k).flatMap A6.cells).length=k*A3.sz α:=by rw[ab8,ds3,dy0 (Nat.le_of_lt hk)]
 rw[h2]
 conv=>rhs;rw[h1]
 simp only[dC2,dA4];have e1:((xs.take k).flatMap A6.cells++(A6.cells xs[k]++(xs.drop (k+1)).flatMap A6.cells)).take (k*A3.sz α)=(xs.take k).flatMap A6.cells:=by rw[←hl,dA3]
 have e2:((xs.take k).flatMap A6.cells++(A6.cells xs[k]++(xs.drop (k+1)).flatMap A6.cells)).drop (k*A3.sz α+A3.sz α)=(xs.drop (k+1)).flatMap A6.cells:=by
  rw[←dt4,←hl,←am7 xs[k],←dr1,List.drop_left]
 rw[e1,e2,dt4]
theorem bk8(ho:B0 h w T v xs)(hi:(P.info? t).isSome=true)(hs:K1 P t=A3.sz α){k:Nat}(hk:k<xs.length)(y:α):
  ∃w',(Instr.storeAt t (.pointer (some (H2 v (k*A3.sz α)))) (.agg (A6.cells y).toArray)).run P w = .ok () w'∧B0 h w' T v (xs.set k y)∧t8 (A4 v) w w':=by
 rcases cy6 ho with⟨rfl,rfl⟩|⟨b,c,cur,rfl,h1,h2,h3,h4,h5,h6⟩
 ·simp at hk
 have hks:k*A3.sz α+A3.sz α≤xs.length*A3.sz α:=by
  have:=dz4 (A3.sz α) (Nat.succ_le_of_lt hk);rw[Nat.succ_mul]at this;exact this
 have hcs:xs.length*A3.sz α≤cur.size:=by rw[h5];exact dz4 _ h3
 have hlc:(A6.cells y).length=A3.sz α:=am7 y;obtain⟨w',e1,e2,e3⟩:=bY3 (P:=P) (t:=t) (cs:=A6.cells y) (o:=k*A3.sz α) h2 (by rw[hlc];omega) (am8 y) hi (by rw[hs,hlc]);have hsa:H2 (.slice (some ⟨b,0,none⟩) xs.length c) (k*A3.sz α)=⟨b,k*A3.sz α,none⟩:=by
  show(⟨b,0,none⟩:Addr).add _=_;rw[add_lit,du4]
 refine⟨w',by rw[hsa];exact e1,?_,e3.weaken fun _ _ e=>by subst e;rfl⟩;have hset:(xs.set k y).length=xs.length:=by simp
 have hcur:cur.toList=xs.flatMap A6.cells++cur.toList.drop (xs.length*A3.sz α):=by rw[←h6,dv5]
 have hfl:=ab8 xs;have:=bk7 (l:=xs.set k y) h1 e2 (by rw[hset];exact h3) h4 ?_ ?_
 ·rw[hset]at this;exact this
 ·simp only[dA6,dr1,ds3,dy7,dE0,hlc,h5];rw[h5]at hcs;omega
 ·rw[hset,List.toList_toArray,aZ9 hk,hlc];have a1:cur.toList.take (k*A3.sz α)=(xs.flatMap A6.cells).take (k*A3.sz α):=by
   rw[hcur,dz7 (by rw[hfl];omega)]
  have a2:cur.toList.drop (k*A3.sz α+A3.sz α)=(xs.flatMap A6.cells).drop (k*A3.sz α+A3.sz α)++cur.toList.drop (xs.length*A3.sz α):=by
   conv=>lhs;rw[hcur]
   rw[List.drop_append_of_le_length (by rw[hfl];exact hks)]
  rw[a1,a2,←dt4];have hl:((xs.flatMap A6.cells).take (k*A3.sz α)++A6.cells y++(xs.flatMap A6.cells).drop (k*A3.sz α+A3.sz α)).length=xs.length*A3.sz α:=by
   rw[←aZ9 hk,ab8,hset]
  rw[←hl,dA3]
theorem aV8(ho:B0 h w T v xs){ty:TypeId}(ht:K7 P t=some T){z:Value}(hz:G0 P T=some z)(hzs:z.cells.size=A3.sz α)(hz1:∀u∈z.cells.toList,u.oneCell'=true){i:Nat}(hi:i<xs.length):
  ∃w',(Builtin.clear_ #[t] ty #[reS v i xs.length (A3.sz α)]).run P w = .ok (.tuple #[]) w'∧B0 h w' T (reS v 0 i (A3.sz α)) (xs.take i)∧t8 (A4 v) w w'∧∀b,A4 (reS v 0 i (A3.sz α)) b→A4 v b:=by
 rcases cy6 ho with⟨rfl,rfl⟩|⟨b,c,cur,rfl,h1,h2,h3,h4,h5,h6⟩
 ·simp at hi
 obtain⟨inf,hinf,hinfz⟩:=A0 hz;have hzr:(zeroValue T).run P w = .ok z w:=by
  unfold zeroValue;simp[N3,hinf,hinfz]
 have hpos:=A3.pos (α:=α);have hc0:¬c=0:=by omega
 have hci:¬c=i:=by omega
 have hr1:reS (.slice (some ⟨b,0,none⟩) xs.length c) i xs.length (A3.sz α) = .slice (some ⟨b,i*A3.sz α,none⟩) (xs.length-i) (c-i):=by
  simp only[reS,if_neg hci,dx7,add_lit,du4]
 have hr2:reS (.slice (some ⟨b,0,none⟩) xs.length c) 0 i (A3.sz α) = .slice (some ⟨b,0,none⟩) i c:=by
  simp only[reS,if_neg hc0,dx7,Nat.zero_mul,add_lit,Nat.sub_zero]
 have hzl:(Builtin.zeroCells z.cells (xs.length-i)).toList.length=(xs.length-i)*A3.sz α:=by simp[Builtin.zeroCells,hzs]
 have hmul:i*A3.sz α+(xs.length-i)*A3.sz α=xs.length*A3.sz α:=by rw[←dC1];congr 1;omega
 have hcs:xs.length*A3.sz α≤cur.size:=by rw[h5];exact dz4 _ h3
 obtain⟨w',e1,e2,e3⟩:=bn1 (P:=P) (T:=T) b (i*A3.sz α) (Builtin.zeroCells z.cells (xs.length-i)).toList 0 cur w h2 (by rw[hzl];omega) (by
  intro u hu;simp only[Builtin.zeroCells,Array.toList_map,dt7]at hu;obtain⟨m,_,rfl⟩:=hu;have hm:m % z.cells.size<z.cells.size:=Nat.mod_lt _ (by omega);rw[getElem!_pos z.cells _ hm];exact hz1 _ (by simp))
 refine⟨w',?_,?_,e3.weaken fun _ _ e=>by subst e;rfl,fun b' hb'=>by rw[hr2]at hb';exact hb'⟩
 ·rw[hr1];unfold Builtin.clear_;have hn0:∃m,xs.length-i=m+1:=⟨xs.length-i-1,by omega⟩;obtain⟨m,hm⟩:=hn0;rw[hm]at e1 ⊢;simp only[List.getElem?_toArray,List.getElem?_cons_zero,dt3,F2,L7 ht,ds6,hzr,e1,du6]
 ·rw[hr2];have hl:(xs.take i).length=i:=by rw[ds3];omega
  have:=bk7 (l:=xs.take i) h1 e2 (by rw[hl];omega) h4 ?_ ?_
  ·rw[hl]at this;exact this
  ·simp only[Nat.add_zero,dA6,dr1,ds3,dy7,dE0,hzl];rw[h5];rw[h5]at hcs;omega
  ·rw[hl,Nat.add_zero,List.toList_toArray,dt4,dz7 (by rw[ds3,dE0];omega),List.take_take,Nat.min_self];have:i*A3.sz α≤xs.length*A3.sz α:=dz4 _ (by omega);have h7:=ds7 (List.take (i*A3.sz α)) h6;rw[List.take_take,dy0 this]at h7;rw[h7];have hsp:xs.flatMap A6.cells=(xs.take i).flatMap A6.cells++(xs.drop i).flatMap A6.cells:=by rw[←dC2,dv5]
   have hfl:((xs.take i).flatMap A6.cells).length=i*A3.sz α:=by rw[ab8,hl]
   rw[hsp,←hfl,dA3]
end
theorem bk5{P:Program}{K:Fr→World→Prop}{f:Fr}{w:World}{d:Option Nat}{ty:TypeId}{pos:String}{aft:Array Edge}{x:Operand}{ts:Array TypeId}:B1 P none ⟨d,.call {callee:=.builtin .clear,args:=#[x],argTypes:=ts},ty,pos,aft,none⟩ K f w=ad7 ((Builtin.clear_ ts ty #[ev f x]).run P w) K f d:=by
 simp[B1,as3,Y9,bd5,bf7]
def dB5:=@List.getElem_cons_succ
theorem bg7{α:Type}(eq:α→α→Bool):∀(l:List α) (p y:α),ai4 eq p (l++[y])=if eq y (l.getLast?.getD p)then ai4 eq p l else ai4 eq p l++[y]
 | [],p,y=>by
  simp[ai4];rfl
 | x::l,p,y=>by
  have ih:=bg7 eq l x y;have hg:((x::l).getLast?.getD p)=l.getLast?.getD x:=by
   cases l with
   | nil=>rfl
   | cons z l=>
    rw[List.getLast?_cons_cons];cases h:(z::l).getLast? with
    | none=>simp at h
    | some q=>rfl
  rw[dC0,ai4,ai4,hg,ih];by_cases h:eq x p=true
  ·rw[if_pos h,if_pos h]
  ·rw[if_neg h,if_neg h];split<;>simp
theorem ap0{α:Type}(eq:α→α→Bool)(xs:List α){k:Nat}(hk:k<xs.length)(h0:0<k):ae8 eq (xs.take (k+1))=if eq xs[k] xs[k-1]then ae8 eq (xs.take k)else ae8 eq (xs.take k)++[xs[k]]:=by
 rw[dr6 hk];cases xs with
 | nil=>simp at hk
 | cons x l=>
  obtain⟨m,rfl⟩:∃m,k=m+1:=⟨k-1,by omega⟩;simp only[dD5,dC0,ae8,dB5,Nat.add_sub_cancel];rw[bg7];have hm:m<l.length:=by simpa using hk
  have:(l.take m).getLast?.getD x=(x::l)[m]'(by simp;omega):=by
   cases m with
   | zero=>rfl
   | succ m=>
    rw[List.getLast?_eq_getElem?,ds3,dy0 (by omega),dA9,if_pos (by omega),dq7 (by omega)];simp
  rw[this];split<;>simp
theorem aa3{α:Type}(eq:α→α→Bool)(xs:List α):∀k,k≤xs.length→(∀j (hj:j<xs.length),1≤j→j<k→eq xs[j] (xs[j-1]'(by omega))=false)→ae8 eq (xs.take k)=xs.take k
 | 0,_,_=>by simp[ae8]
 | 1,h,_=>by
  cases xs with
  | nil=>simp at h
  | cons x l=>simp[ae8,ai4]
 | k+2,h,hf=>by
  rw[ap0 eq xs (k:=k+1) (by omega) (by omega),aa3 eq xs (k+1) (by omega) fun j hj h1 h2=>hf j hj h1 (by omega)];have:=hf (k+1) (by omega) (by omega) (by omega);simp only[Nat.add_sub_cancel]at this ⊢;rw[if_neg (by rw[this];simp),dr6 (by omega:k+1<xs.length)]
theorem bP8{h:Hp}{w:World}{v:Value}{xs:List Sp}(ho:B0 h w 186 v xs)(hl:xs.length≤1000000000)(hh:B5 h (i4 w)):
  Calls prog 194 #[v,.func (.func 195) #[] #[]] w fun e w'=>∃u,e = .returned u∧(B0 h w' 186 u (ae8 aS1 xs)∧t8 (A4 v) w w'∧∀b,A4 u b→A4 v b):=by
 refine p8 [v,.func (.func 195) #[] #[]] func194 rfl ?_;have hS:=ho.isS;have hn:=ho.vlen;have hvc:=ho.vcap;have hz:A3.sz Sp=3:=rfl;rcases dq8 (decide ((xs.length:Int)<2))with h2|h2
 ·simp only[n7,n8,simprocAttr,hS,hn,h2];refine o6 results194 ?_;simp only[p6,simprocAttr];have hlt:xs.length<2:=by have:=dr0 h2;omega
  have:=aa3 aS1 xs xs.length (ds5 _) fun j hj h1 h2=>by omega
  rw[ds2]at this;exact⟨by rw[this];exact ho,t8.refl _,fun b hb=>hb⟩
 have h2':2≤xs.length:=by have:=dr2 h2;omega
 simp only[n7,n8,simprocAttr,hS,hn,h2];refine n9 [0,1] (σ:=Nat) (fun i f w'=>f 5 = .int .i64 i∧1≤i∧i≤xs.length∧(∀j (hj:j<xs.length),1≤j→j<i→aS1 xs[j] (xs[j-1]'(by omega))=false)∧o7 w w') (fun i=>xs.length-i) 1 ?_ ?_
 ·simp only[p6,simprocAttr];exact⟨by trivial,by simp,by omega,fun j _ h1 h2=>by omega,t8.refl _⟩
 rintro i f w2 hk ⟨h5,h1i,hil,hno,hx2⟩;simp only[dq9,p6,simprocAttr]at hk;obtain⟨e0,e1,_⟩:=hk;simp only[n7,n8,simprocAttr,h5,e0,hS,hn];refine m8 (fun hc=>?_) (fun hc=>?_);rotate_left
 ·have hge:i=xs.length:=by simp at hc;omega
  subst hge;simp only[n7,simprocAttr,e0];refine o6 results194 ?_;simp only[p6,simprocAttr];have:=aa3 aS1 xs xs.length (ds5 _) hno;rw[ds2]at this;exact⟨by rw[this];exact ho.ext hx2,t8.up hx2,fun b hb=>hb⟩
 have hlt:i<xs.length:=by simpa using hc
 have hlt1:i-1<xs.length:=by omega
 have hR:R (i4 w2) v xs:=(ho.ext hx2).rw_ (p9 hh (b7 hx2));have hin:=ho.inS hlt;have hin1:=ho.inS hlt1;have hwi:IntKind.i64.wrap ((i:Int)-1)=((i-1:Nat):Int):=by rw[K6 _ (by omega)];omega
 obtain⟨vx,hvx,_,sx⟩:=(hR.at_ (dq7 hlt)).sp_v;obtain⟨vy,hvy,_,sy⟩:=(hR.at_ (dq7 hlt1)).sp_v;have s1:=sx (fun w'=>o7 w2.drew w') w2.drew (t8.refl _) fun w' h=>b7 ((o7.drew w2).trans h);have s2:=sy (fun w'=>o7 w2.drew w') w2.drew (t8.refl _) fun w' h=>b7 ((o7.drew w2).trans h);rw[hz]at s1 s2;have hxd:=hx2.trans (o7.drew w2);simp only[n7,simprocAttr];refine C0 (fun w'=>o7 w2.drew w') 10 (A9 [0,1,2,3,4,5,6,7,8,9]) ?_;simp only[D2,A9,n7,n8,z6,simprocAttr,h5,e0,e1,hin,hin1,hwi,s1,s2];refine B2 (bL9 _ _ vx vy w2.drew (hvx.mono (b7 (o7.drew w2))) (hvy.mono (b7 (o7.drew w2)))) (fun w3 hx3=>?_);have hx03:=hxd.trans hx3;rcases dq8 (aS1 xs[i] xs[i-1])with hq|hq;rotate_left
 ·simp only[n7,n8,simprocAttr,hq,h5];refine⟨i+1,by omega,by rw[A8 i (by omega)],by omega,by omega,fun j hj h1 h2=>?_,hx03⟩;rcases dv3 j i with h|h
  ·exact hno j hj h1 h
  ·obtain rfl:j=i:=by omega
   exact hq
 have c1:decide ((i:Int)≤(xs.length:Int))=true:=by simp;omega
 have c2:decide ((xs.length:Int)≤(vcap v:Int))=true:=by simp;omega
 have hd:∀k:Nat,isS (reS v k xs.length 3)=true∧vlen (reS v k xs.length 3)=xs.length-k:=fun k=>by
  rcases ho with⟨rfl,rfl⟩|⟨b,c,cur,rfl,_⟩
  ·exact⟨rfl,rfl⟩
  ·exact⟨rfl,rfl⟩
 obtain⟨hSd,hnd⟩:=hd i;have hni:((xs.length-i:Nat):Int)=(xs.length:Int)-i:=by omega
 simp only[n7,n8,I0,simprocAttr,hq,h5,e0,hS,hn,c1,c2];refine n9 [0,1,6] (σ:=Nat×Nat×List Sp) (fun s f w'=>f 7 = .int .i64 s.1∧f 5 = .int .i64 s.2.1∧1≤s.1∧i+s.1≤xs.length∧s.2.1+1≤i+s.1∧s.2.2.length=xs.length∧B0 h w' 186 v s.2.2∧(∀j (hj:j<xs.length) (hj2:j<s.2.2.length),i+s.1≤j+1→s.2.2[j]=xs[j])∧s.2.2.take s.2.1=ae8 aS1 (xs.take (i+s.1))∧t8 (A4 v) w w') (fun s=>xs.length-(i+s.1)) (1,i,xs) ?_ ?_
 ·simp only[p6,simprocAttr];refine⟨by trivial,by trivial,by trivial,by omega,by omega,by trivial,ho.ext hx03,fun j _ _ _=>by trivial,?_,t8.up hx03⟩;rw[ap0 aS1 xs hlt (by omega),if_pos hq,aa3 aS1 xs i (by omega) hno]
 rintro⟨m,c,ys⟩ f4 w4 hk ⟨h7,h5c,h1m,him,hcm,hyl,hoy,hsuf,hpre,hm4⟩;simp only at h7 h5c h1m him hcm hyl hoy hsuf hpre;simp only[dq9,p6,simprocAttr]at hk;obtain⟨g0,g1,g6,_⟩:=hk;rw[e0]at g0;rw[e1]at g1;have hh4:B5 h (i4 w4):=H9 hh hm4 fun b hb=>ho.free hb;have hlen:decide ((m:Int)<((xs.length-i:Nat):Int))=decide (i+m<xs.length):=by rw[dv1];omega
 simp only[n7,n8,simprocAttr,h7,g6,hSd,hnd,hlen];refine m8 (fun hc=>?_) (fun hc=>?_)
 ·have hm':i+m<xs.length:=dr0 hc;have hm1:i+m-1<xs.length:=by omega
  have hRy:R (i4 w4) v ys:=hoy.rw_ hh4;have hsub:=bE0 hRy (show i≤xs.length by omega) (show xs.length≤ys.length by omega);rw[hz]at hsub;have hyt:(ys.take xs.length).drop i=ys.drop i:=by rw[←hyl,ds2]
  rw[hyt]at hsub;have hg1:(ys.drop i)[m]?=some xs[i+m]:=by
   rw[dA8,dq7 (by omega),hsuf (i+m) hm' (by omega) (by omega)]
  have hg2:(ys.drop i)[m-1]?=some xs[i+m-1]:=by
   rw[dA8,show i+(m-1)=i+m-1 by omega,dq7 (by omega),hsuf (i+m-1) hm1 (by omega) (by omega)]
  have hin4:=hsub.inS (dr4.1 hg1).1;have hin5:=hsub.inS (dr4.1 hg2).1;have hwm:IntKind.i64.wrap ((m:Int)-1)=((m-1:Nat):Int):=by rw[K6 _ (by omega)];omega
  obtain⟨ux,hux,lx,tx⟩:=(hsub.at_ hg1).sp_v;obtain⟨uy,huy,_,ty⟩:=(hsub.at_ hg2).sp_v;have t1:=tx (fun w'=>o7 w4.drew w') w4.drew (t8.refl _) fun w' h=>b7 ((o7.drew w4).trans h);have t2:=ty (fun w'=>o7 w4.drew w') w4.drew (t8.refl _) fun w' h=>b7 ((o7.drew w4).trans h);rw[hz]at t1 t2 lx;simp only[n7,simprocAttr];refine C0 (fun w'=>o7 w4.drew w') 10 (A9 [0,1,2,3,4,5,6,7,8,9]) ?_;simp only[D2,A9,n7,n8,z6,simprocAttr,h7,g1,g6,hin4,hin5,hwm,t1,t2];refine B2 (bL9 _ _ ux uy w4.drew (hux.mono (b7 (o7.drew w4))) (huy.mono (b7 (o7.drew w4)))) (fun w5 hx5=>?_);have hx45:=(o7.drew w4).trans hx5;have ho5:=hoy.ext hx45;have hm5:t8 (A4 v) w w5:=hm4.chain (t8.up hx45) fun _ _ h=>h;have hct:=ap0 aS1 xs (k:=i+m) hm' (by omega);rcases dq8 (aS1 xs[i+m] xs[i+m-1])with hq4|hq4
  ·rw[if_pos hq4]at hct;simp only[n7,n8,simprocAttr,hq4,h7];refine⟨(m+1,c,ys),by simp only[];omega,by simp only[];rw[A8 m (by omega)],h5c,by simp only[];omega,by simp only[];omega,by simp only[];omega,hyl,ho5,fun j hj hj2 h=>hsuf j hj hj2 (by simp only at h;omega),?_,hm5⟩;simp only[];rw[hpre,←hct,dA5]
  ·rw[if_neg (by rw[hq4];simp)]at hct;have hcy:c<ys.length:=by omega
   have lx5:=lx w5 (b7 hx45);have hux':ux = .agg (A6.cells xs[i+m]).toArray:=by
    obtain⟨cs,rfl,he⟩:=hux;rw[(A6.iff_ _ _ _).1 he]
   obtain⟨w6,e6,ho6,hm6⟩:=bk8 (P:=prog) (t:=186) ho5 bn7 aN1 hcy xs[i+m];rw[←hux',hz]at e6;have hin6:=hoy.inS hcy;simp only[n7,n8,z6,simprocAttr,hq4,h5c,g0,g6,h7,hin4,hin6,lx5,e6];refine⟨(m+1,c+1,ys.set c xs[i+m]),by simp only[];omega,by simp only[];rw[A8 m (by omega)],by simp only[];rw[A8 c (by omega)],by simp only[];omega,by simp only[];omega,by simp only[];omega,by simp only[dy4];exact hyl,ho6,fun j hj hj2 h=>?_,?_,hm5.chain hm6 fun _ _ h=>h⟩
   ·simp only at h ⊢;rw[List.getElem_set_ne (by omega)];exact hsuf j hj (by omega) (by omega)
   ·simp only[];have hcs:c<(ys.set c xs[i+m]).length:=by simpa using hcy
    rw[dr6 hcs,List.getElem_set_self,List.take_set_of_le (ds5 _),hpre,←hct,dA5]
 ·have hm':i+m=xs.length:=by have:=dr2 hc;omega
  rw[hm',ds2]at hpre;have hcl:c<ys.length:=by omega
  have c3:decide ((c:Int)≤(xs.length:Int))=true:=by simp;omega
  have c4:decide ((c:Int)≤(vcap v:Int))=true:=by simp;omega
  obtain⟨w6,e6,ho6,hm6,hb6⟩:=aV8 (P:=prog) (t:=144) (ty:=0) hoy rfl cD3 rfl (by simp[Value.cells,Value.oneCell']) hcl;rw[hyl,hz]at e6;rw[hz]at ho6 hb6;simp only[n7,n8,I0,simprocAttr,bk5,h5c,g0,hS,hn,c2,c3,c4,e6];refine o6 results194 ?_;simp only[p6,simprocAttr];exact⟨by rw[←hpre];exact ho6,hm4.chain hm6 fun _ _ h=>h,hb6⟩
def dx0:=@Option.bind_eq_some_iff
mutual
theorem ci9:∀(t:St) (k:Nat) (pr up nx lp:Int),∀it∈V4 t k pr up nx lp,(it.next=nx∨((k:Int)<it.next∧it.next≤(k:Int)+(V8 t:Nat)))∧(it.loop=lp∨((k:Int)<it.loop∧it.loop≤(k:Int)+(V8 t:Nat)))
 | .mk id kind labels name proc x has args thn els,k,pr,up,nx,lp,it,h=>by
  rw[P5]at h;rw[aq8];rcases dt1.1 h with rfl|h
  ·exact⟨.inl rfl,.inl rfl⟩
  ·have key:∀(l:List St) (k':Nat) (hk:k<k') (hk2:k'+A5 l≤k+(1+A5 thn+A5 els)),it∈C2 l k' pr (k+1) (if kind=6 then((k:Int)+1)else nx) (if kind=6 then((k:Int)+1)else lp)→(∀it∈C2 l k' pr (k+1) (if kind=6 then((k:Int)+1)else nx) (if kind=6 then((k:Int)+1)else lp),(it.next=(if kind=6 then((k:Int)+1)else nx)∨((k':Int)<it.next∧it.next≤(k':Int)+(A5 l:Nat)))∧(it.loop=(if kind=6 then((k:Int)+1)else lp)∨((k':Int)<it.loop∧it.loop≤(k':Int)+(A5 l:Nat)))) →
     (it.next=nx∨((k:Int)<it.next∧it.next≤(k:Int)+((1+A5 thn+A5 els:Nat):Int)))∧(it.loop=lp∨((k:Int)<it.loop∧it.loop≤(k:Int)+((1+A5 thn+A5 els:Nat):Int))):=by
    intro l k' hk hk2 hm hall;obtain⟨h1,h2⟩:=hall it hm;constructor
    ·rcases h1 with h1|⟨h1,h3⟩
     ·split at h1
      ·right;omega
      ·exact .inl h1
     ·right;omega
    ·rcases h2 with h1|⟨h1,h3⟩
     ·split at h1
      ·right;omega
      ·exact .inl h1
     ·right;omega
   simp only[St.thn,St.els];rcases ds4.1 h with h|h
   ·exact key thn (k+1) (by omega) (by omega) h (aw8 thn _ _ _ _ _)
   ·refine key els _ ?_ ?_ h (aw8 els _ _ _ _ _)
    ·omega
    ·simp only[St.thn];omega
theorem aw8:∀(l:List St) (k:Nat) (pr up nx lp:Int),∀it∈C2 l k pr up nx lp,(it.next=nx∨((k:Int)<it.next∧it.next≤(k:Int)+(A5 l:Nat)))∧(it.loop=lp∨((k:Int)<it.loop∧it.loop≤(k:Int)+(A5 l:Nat)))
 | [],_,_,_,_,_,it,h=>by simp[C2]at h
 | t::l,k,pr,up,nx,lp,it,h=>by
  rw[C2]at h;rw[A5];rcases ds4.1 h with h|h
  ·obtain⟨h1,h2⟩:=ci9 t _ _ _ _ _ it h;constructor
   ·rcases h1 with h1|h1
    ·split at h1
     ·exact .inl h1
     ·next hl=>
      right;have:=Q8 l;omega
    ·right;omega
   ·rcases h2 with h1|h1
    ·exact .inl h1
    ·right;omega
  ·obtain⟨h1,h2⟩:=aw8 l _ _ _ _ _ it h;rw[af7]at h1 h2;constructor
   ·rcases h1 with h1|h1
    ·exact .inl h1
    ·right;omega
   ·rcases h2 with h1|h1
    ·exact .inl h1
    ·right;omega
end
mutual
theorem bQ7:∀(t:St) (k:Nat) (pr up nx lp:Int),∀it∈V4 t k pr up nx lp,∀u,(u∈it.s.thn∨u∈it.s.els)→u∈(V4 t k pr up nx lp).map (·.s)
 | .mk id kind labels name proc x has args thn els,k,pr,up,nx,lp,it,h,u,hu=>by
  rw[P5]at h ⊢;simp only[dv6,du1,dt1,ds4];rcases dt1.1 h with rfl|h
  ·simp only[St.thn,St.els]at hu;rcases hu with hu|hu
   ·exact .inr (.inl (aD4 thn _ _ _ _ _ u hu))
   ·exact .inr (.inr (aD4 els _ _ _ _ _ u hu))
  ·rcases ds4.1 h with h|h
   ·exact .inr (.inl (ar9 thn _ _ _ _ _ it h u hu))
   ·exact .inr (.inr (ar9 els _ _ _ _ _ it h u hu))
theorem ar9:∀(l:List St) (k:Nat) (pr up nx lp:Int),∀it∈C2 l k pr up nx lp,∀u,(u∈it.s.thn∨u∈it.s.els)→u∈(C2 l k pr up nx lp).map (·.s)
 | [],_,_,_,_,_,it,h,_,_=>by simp[C2]at h
 | t::l,k,pr,up,nx,lp,it,h,u,hu=>by
  rw[C2]at h ⊢;simp only[du1,ds4];rcases ds4.1 h with h|h
  ·exact .inl (bQ7 t _ _ _ _ _ it h u hu)
  ·exact .inr (ar9 l _ _ _ _ _ it h u hu)
theorem aD4:∀(l:List St) (k:Nat) (pr up nx lp:Int),∀u∈l,u∈(C2 l k pr up nx lp).map (·.s)
 | [],_,_,_,_,_,u,h=>by simp at h
 | t::l,k,pr,up,nx,lp,u,h=>by
  rw[C2];simp only[du1,ds4];rcases dt1.1 h with rfl|h
  ·left;cases u;rw[P5];simp
  ·exact .inr (aD4 l _ _ _ _ _ u h)
end
theorem ay5(d:Nat)(t:St)(l:List St)(n:Int):G8 (d+1) (t::l) n=(if n+1>200∨t.id≠n+1∨O0 t.labels=false∨R5 t=false then none else(G8 d t.thn (n+1)).bind fun m=>G8 d t.els m).bind fun m=>G8 (d+1) l m:=by
 rw[G8,List.foldlM_cons];rfl
mutual
theorem cS1:∀(t:St) (d:Nat) (n m:Int),t.id=n+1→((G8 d t.thn (n+1)).bind fun m=>G8 d t.els m)=some m→m=n+(V8 t:Nat)∧∀(k:Nat) (pr up nx lp:Int) (j:Nat) (it:It),(V4 t k pr up nx lp)[j]?=some it→it.s.id=n+1+(j:Nat)
 | .mk id kind labels name proc x has args thn els,d,n,m,hid,h=>by
  simp only[St.id,St.thn,St.els]at hid h;obtain⟨m1,h1,h2⟩:=dx0.1 h;obtain⟨e1,i1⟩:=aP4 thn d (n+1) m1 h1;obtain⟨e2,i2⟩:=aP4 els d m1 m h2;refine⟨by rw[aq8];simp only[St.thn,St.els];omega,fun k pr up nx lp j it hj=>?_⟩;rw[P5]at hj;cases j with
  | zero=>
   rw[List.getElem?_cons_zero]at hj;obtain rfl:=ds8 hj;simp only[St.id];omega
  | succ j=>
   rw[List.getElem?_cons_succ]at hj;rcases dv3 j (A5 thn)with hlt|hge
   ·rw[dw2 (by rw[F7];exact hlt)]at hj;have:=i1 _ _ _ _ _ j it hj;omega
   ·rw[dv7 (by rw[F7];exact hge),F7]at hj;have:=i2 _ _ _ _ _ _ it hj;simp only[St.thn]at hge this;omega
theorem aP4:∀(l:List St) (d:Nat) (n m:Int),G8 d l n=some m→m=n+(A5 l:Nat)∧∀(k:Nat) (pr up nx lp:Int) (j:Nat) (it:It),(C2 l k pr up nx lp)[j]?=some it→it.s.id=n+1+(j:Nat)
 | [],d,n,m,h=>by
  have:m=n:=by
   cases d with
   | zero=>simp[G8]at h;exact h.symm
   | succ d=>rw[G8]at h;simp at h;exact h.symm
  subst this;exact⟨by simp[A5],fun k pr up nx lp j it hj=>by simp[C2]at hj⟩
 | t::l,0,n,m,h=>by simp[G8]at h
 | t::l,d+1,n,m,h=>by
  rw[ay5]at h;obtain⟨m1,h1,h2⟩:=dx0.1 h;split at h1
  ·cases h1
  ·next hc=>
   have hid:t.id=n+1:=by
    rcases Decidable.em (t.id=n+1)with h|h
    ·exact h
    ·exact absurd (.inr (.inl h)) hc
   obtain⟨e1,i1⟩:=cS1 t d n m1 hid h1;obtain⟨e2,i2⟩:=aP4 l (d+1) m1 m h2;refine⟨by rw[A5];omega,fun k pr up nx lp j it hj=>?_⟩;rw[C2]at hj;rcases dv3 j (V8 t)with hlt|hge
   ·rw[dw2 (by rw[af7];exact hlt)]at hj;exact i1 _ _ _ _ _ j it hj
   ·rw[dv7 (by rw[af7];exact hge),af7]at hj;have:=i2 _ _ _ _ _ _ it hj;omega
end
theorem bm3:∀(l:List Pr) (s:Sh) (i:Nat),(l.foldlM (fun n f=>R3 f n) (s.l.length:Int)).isSome=true→(∀(j:Nat) (it:It),s.l[j]?=some it→it.s.id=(j:Int)+1)→∀(j:Nat) (it:It),(F4 s i l).l[j]?=some it→it.s.id=(j:Int)+1
 | [],s,i,_,h,j,it,hj=>h j it hj
 | f::l,s,i,hf,h,j,it,hj=>by
  rw[List.foldlM_cons]at hf;obtain⟨n,hn⟩:=dw6.1 hf;obtain⟨m,hm,hm2⟩:=dx0.1 hn;unfold R3 at hm;split at hm
  ·cases hm
  ·obtain⟨e1,i1⟩:=aP4 f.body 12 _ _ hm;rw[F4]at hj;refine bm3 l (E6 s i f) (i+1) ?_ (fun j it hj=>?_) j it hj
   ·simp only[E6,dr1,F7];rw[show((s.l.length+A5 f.body:Nat):Int)=m by omega,hm2];rfl
   ·simp only[E6]at hj;rcases dv3 j s.l.length with hlt|hge
    ·rw[dw2 hlt]at hj;exact h j it hj
    ·rw[dv7 hge]at hj;have:=i1 _ _ _ _ _ _ it hj;omega
theorem X6{p:Pg}(hm:J6 p=true):∀(j:Nat) (it:It),(b9 p).l[j]?=some it→it.s.id=(j:Int)+1:=by
 simp only[J6,dt0]at hm;exact bm3 p.procs ⟨p,[],[],[]⟩ 0 hm.2 fun j it hj=>by simp at hj
def Rg(x y:Nat)(a:Int):Prop:=a = -1∨((x:Int)<a∧a≤(y:Int))
structure at7 (p:Pg) (i x y:Nat):Prop where
 ok:bo8 (b9 p) i x y
 ids:∀it∈(b9 p).of i,(x:Int)<it.s.id∧it.s.id≤(y:Int)
 next:∀it∈(b9 p).of i,Rg x y it.next
 loop:∀it∈(b9 p).of i,it.loop=0∨((x:Int)<it.loop∧it.loop≤(y:Int))
 sub:∀it∈(b9 p).of i,∀u,(u∈it.s.thn∨u∈it.s.els)→(x:Int)<u.id∧u.id≤(y:Int)
 at_:∀a:Int,(x:Int)<a→a≤(y:Int)→(b9 p).it a∈(b9 p).of i∧((b9 p).it a).s.id=a∧(b9 p).l[(a-1).toNat]?=some ((b9 p).it a)
theorem O8{p:Pg}(hm:J6 p=true)(hw:D1 p≤1000000)(i:Nat)(hi:i<p.procs.length):∃x,at7 p i x (x+A5 p.procs[i].body):=by
 obtain⟨x,hok,hof⟩:=V7 p hw i hi;have hids:=X6 hm;have hmem:∀it∈(b9 p).of i,∃j:Nat,j<A5 p.procs[i].body∧(b9 p).l[x+j]?=some it:=fun it h=>by
  rw[hok.of_]at h;obtain⟨j,hj⟩:=List.getElem?_of_mem h;rw[dA8,dA9]at hj;split at hj
  ·next hlt=>exact⟨j,by omega,hj⟩
  ·cases hj
 have hid:∀it∈(b9 p).of i,(x:Int)<it.s.id∧it.s.id≤((x+A5 p.procs[i].body:Nat):Int):=fun it h=>by
  obtain⟨j,hj,e⟩:=hmem it h;have:=hids _ _ e;omega
 have hnl:=aw8 p.procs[i].body x i 0 (-1) 0;rw[←hof]at hnl;have hsub:=ar9 p.procs[i].body x i 0 (-1) 0;rw[←hof]at hsub;refine⟨x,hok,hid,fun it h=>?_,fun it h=>?_,fun it h u hu=>?_,fun a h1 h2=>?_⟩
 ·rcases(hnl it h).1 with h1|h1
  ·exact .inl h1
  ·exact .inr ⟨h1.1,by omega⟩
 ·rcases(hnl it h).2 with h1|h1
  ·exact .inl h1
  ·exact .inr ⟨h1.1,by omega⟩
 ·obtain⟨it2,hit2,rfl⟩:=dt7.1 (hsub it h u hu);exact hid it2 hit2
 ·have hlen:=hok.len;have hlt:(a-1).toNat<(b9 p).l.length:=by omega
  have hg:(b9 p).l[(a-1).toNat]?=some ((b9 p).it a):=by
   unfold Sh.it;rw[List.getD,dq7 hlt];rfl
  refine⟨?_,?_,hg⟩
  ·rw[hok.of_];refine ds9 (i:=(a-1).toNat-x) ?_;rw[dA8,dA9,if_pos (by omega),show x+((a-1).toNat-x)=(a-1).toNat by omega,hg]
  ·have:=hids _ _ hg;omega
structure E8 (p:Pg):Prop extends Known p where
 fits:∀it∈(b9 p).l,it.s.kind=4→ad3 p it.s=true
 single:∀it∈(b9 p).l,it.s.kind=4→ad9 it.s (W2 p it.s.proc)=true
 jump:∀i (hi:i<p.procs.length),ap7 (b9 p) p.procs[i] ((b9 p).of i)=none
theorem aE0{s:Sh}:∀{l:List Pr} {i:Nat},P6 s i l=none→∀k (hk:k<l.length),ap7 s l[k] (s.of (i+k:Nat))=none
 | [],i,_,k,hk=>by simp at hk
 | f::l,i,h,k,hk=>by
  rw[P6]at h;split at h
  ·cases h
  ·next h'=>
   cases k with
   | zero=>simpa using h'
   | succ k=>
    have:=aE0 h k (by simpa using hk);rw[show i+1+k=i+(k+1) by omega]at this;simpa using this
theorem bq4{s:Sh}{f:Pr}{l:List It}{e:Int×Int}(h:ap7 s f l=some e):e.1=7:=by
 unfold ap7 at h;split at h
 ·obtain rfl:=ds8 h;rfl
 ·split at h
  ·obtain rfl:=ds8 h;rfl
  ·cases h
theorem aD9{s:Sh}:∀{l:List Pr} {i:Nat} {e:Int×Int},P6 s i l=some e→e.1=7
 | [],i,e,h=>by cases h
 | f::l,i,e,h=>by
  rw[P6]at h;split at h
  ·next h'=>obtain rfl:=ds8 h;exact bq4 h'
  ·exact aD9 h
theorem U0{p:Pg}(h:ab0 p=true):E8 p:=by
 have h:=dr0 h;unfold aL5 at h;split at h
 ·simp at h
 split at h
 ·next h1=>exact absurd h h1
 next h1=>
 split at h
 ·next h2=>exact absurd h h2
 next h2=>
 split at h
 ·next h3=>exact absurd h h3
 next h3=>
 have h1:(O5 p).1=0:=dB4 h1;have h2:(Y5 p).1=0:=dB4 h2;have h3:(aA4 p).1=0:=dB4 h3;refine⟨bj5 h1,fun it hit h4=>?_,fun it hit h4=>?_,fun i hi=>?_⟩
 ·unfold Y5 at h2;rw[if_neg (by rw[h1];simp)]at h2;split at h2
  ·simp at h2
  ·next hf=>
   have:=dz6.1 hf it hit;rw[du9 h4]at this;simpa using this
 ·unfold aC3 at h;rw[if_neg (by rw[h2];simp)]at h;split at h
  ·simp at h
  ·next hf=>
   have:=dz6.1 hf it hit;rw[du9 h4]at this;simpa using this
 ·unfold aA4 at h3;rw[if_neg (by rw[h1];simp)]at h3;have hno:P6 (b9 p) 0 p.procs=none:=by
   cases hs:P6 (b9 p) 0 p.procs with
   | none=>rfl
   | some e=>
    rw[hs]at h3;have:=aD9 hs;simp at h3;omega
  have:=aE0 hno i hi
  rwa [du4]at this
theorem aK1{s:Sh}:∀{l:List It} {seen r:List A7},as0 s seen l = .inl r→∀it∈l,ap8 s it=true
 | [],_,_,_,it,h=>by simp at h
 | x::l,seen,r,hj,it,h=>by
  rw[as0]at hj;split at hj
  ·cases hj
  ·split at hj
   ·next hl=>
    rcases dt1.1 h with rfl|h
    ·exact hl
    ·exact aK1 hj it h
   ·cases hj
theorem E8.leads{p:Pg}(hr:E8 p){i:Nat}(hi:i<p.procs.length):∀it∈(b9 p).of i,ap8 (b9 p) it=true:=by
 have:=hr.jump i hi;unfold ap7 at this;split at this
 ·cases this
 ·next h=>exact aK1 h
theorem cX6{p:Pg}{i x y:Nat}(pt:at7 p i x y){lb:A7}{a:Int}(h:(b9 p).at i lb=some a):Rg x y a:=by
 unfold Sh.at at h;split at h
 ·next it hf=>
  obtain rfl:=ds8 h;exact .inr (pt.ids it (List.mem_of_find?_eq_some hf))
 ·split at h
  ·obtain rfl:=ds8 h;exact .inl rfl
  ·cases h
theorem bA1{p:Pg}{i x y:Nat}(pt:at7 p i x y){it:It}(hit:it∈(b9 p).of i){o:Int}(ho:Rg x y o):Rg x y (aA2 it.s.thn o)∧Rg x y (aA2 it.s.els o):=by
 constructor
 ·cases h:it.s.thn with
  | nil=>exact ho
  | cons t l=>exact .inr (pt.sub it hit t (.inl (by rw[h];simp)))
 ·cases h:it.s.els with
  | nil=>exact ho
  | cons t l=>exact .inr (pt.sub it hit t (.inr (by rw[h];simp)))
theorem ca6{p:Pg}(hr:E8 p)(hw:D1 p≤1000000){i x y:Nat}(hi:i<p.procs.length)(pt:at7 p i x y):∀it∈(b9 p).of i,∀t∈(b9 p).goes it,Rg x y t:=by
 intro it hit t ht;have hnx:=pt.next it hit;have hid:Rg x y it.s.id:=.inr (pt.ids it hit);have B5:=hr.leads hi it hit;unfold ap8 at B5;unfold Sh.goes at ht;split at ht
 ·simp only[dt1,dw3,dC5]at ht;rcases ht with rfl|rfl
  ·exact(bA1 pt hit hnx).1
  ·exact(bA1 pt hit hnx).2
 split at ht
 ·simp only[dt1,dw3,dC5]at ht;rcases ht with rfl|rfl
  ·exact(bA1 pt hit hid).1
  ·exact hnx
 split at ht
 ·next h7=>
  rw[if_pos (.inl h7)]at B5;have hl0:it.loop≠0:=by simpa using B5
  simp only[dt8]at ht;subst ht;rcases pt.loop it hit with h|h
  ·exact absurd h hl0
  ·exact pt.next _ (pt.at_ it.loop h.1 h.2).1
 split at ht
 ·next h8=>
  rw[if_pos (.inr h8)]at B5;have hl0:it.loop≠0:=by simpa using B5
  simp only[dt8]at ht;subst ht;rcases pt.loop it hit with h|h
  ·exact absurd h hl0
  ·exact .inr h
 split at ht
 ·simp only[dt8]at ht;subst ht;exact .inl rfl
 split at ht
 ·next h7 h8 _ h10=>
  have hn:¬(it.s.kind=7∨it.s.kind=8):=fun h=>h.elim h7 h8;rw[if_neg hn,if_pos h10]at B5;simp only[dt8]at ht;subst ht;obtain⟨a,ha⟩:=dw6.1 B5;rw[ha];rw[bB2 p hw i hi it hit]at ha;exact cX6 pt ha
 ·simp only[dt8]at ht;subst ht;exact hnx
theorem aU2{α:Type}(eq:α→α→Bool){z:α}:∀(l:List α) (p:α),z∈ai4 eq p l→z∈l
 | [],p,h=>by simp[ai4]at h
 | x::l,p,h=>by
  rw[ai4]at h;split at h
  ·exact dx9 _ (aU2 eq l x h)
  ·rcases dt1.1 h with rfl|h
   ·simp
   ·exact dx9 _ (aU2 eq l x h)
theorem ci0{α:Type}(eq:α→α→Bool){z:α}:∀(l:List α),z∈ae8 eq l→z∈l
 | [],h=>by simp[ae8]at h
 | x::l,h=>by
  rw[ae8]at h;rcases dt1.1 h with rfl|h
  ·simp
  ·exact dx9 _ (aU2 eq l x h)
theorem bt0{α:Type}(eq:α→α→Bool):∀(l:List α) (p:α),(ai4 eq p l).length≤l.length
 | [],p=>by simp[ai4]
 | x::l,p=>by
  have:=bt0 eq l x;rw[ai4];split<;>simp only[dt2]<;>omega
theorem aM9{z:Sp}{l:List Sp}(h:z∈ar0 l):z∈l:=(G5 _ _).mem_iff.1 (ci0 _ _ h)
theorem aM8(l:List Sp):(ar0 l).length≤l.length:=by
 unfold ar0;rw[←(G5 cK8 l).length_eq];cases V9 cK8 l with
 | nil=>simp[ae8]
 | cons x m=>simp only[ae8,dt2];have:=bt0 aS1 m x;omega
def RgS(x y:Nat)(t:Sp):Prop:=(t.src=0∨((x:Int)<t.src∧t.src≤(y:Int)))∧Rg x y t.dst
theorem bG0{p:Pg}{i x y:Nat}(pt:at7 p i x y):Rg x y ((b9 p).first i):=by
 have h1:=pt.ok.lo;have h2:=pt.ok.hi;unfold Sh.first V1;simp only[dt5,List.getD,h1,h2,dw8];split
 ·right;omega
 ·exact .inl rfl
theorem bn3{p:Pg}(hr:E8 p)(hw:D1 p≤1000000){i x y:Nat}(hi:i<p.procs.length)(pt:at7 p i x y):∀t∈(b9 p).steps i,RgS x y t:=by
 intro t ht;have ht:=aM9 ht;rcases dt1.1 ht with rfl|ht
 ·exact⟨.inl rfl,bG0 pt⟩
 ·obtain⟨it,hit,ht⟩:=dw1.1 ht;obtain⟨a,ha,rfl⟩:=dt7.1 ht;exact⟨.inr (pt.ids it hit),ca6 hr hw hi pt it hit a ha⟩
theorem bH1(s:Sh)(it:It):(s.goes it).length≤2:=by
 unfold Sh.goes
 repeat' split
 all_goals simp
theorem aw7{h:Hp}{w:World}{v:Value}{xs:List Sp}(ho:B0 h w 186 v xs)(hl:xs.length≤1000000000)(hh:B5 h (i4 w))(hp:∀x∈xs,plc x.src∧plc x.dst):
  p7 prog 133 #[v] w fun u w'=>(B0 h w' 186 u (ar0 xs)∧t8 (A4 v) w w'∧∀b,A4 u b→A4 v b):=by
 refine p8 [v] func133 rfl ?_;simp only[n7,n8,simprocAttr];refine z7 (bL8 ho hl hp) ?_;rintro _ w2 ⟨ho2,hm2⟩;simp only[n7,simprocAttr];refine z7 (bP8 ho2 (by rw[(G5 _ _).length_eq];exact hl) (H9 hh hm2 fun b hb=>ho.free hb)) ?_;rintro u w3 ⟨ho3,hm3,hb3⟩;simp only[n7,simprocAttr];refine o6 results133 ?_;simp only[p6,simprocAttr];exact⟨ho3,hm2.chain hm3 fun _ _ h=>h,hb3⟩
theorem aU7(v:Value)(l:List St)(o:Int)(w:World)(hv:R (i4 w) v l):p7 prog 235 #[v,.int .i64 o] w fun u w'=>(u = .int .i64 (aA2 l o)∧w'=w):=by
 refine p8 [v,.int .i64 o] func235 rfl ?_;have hS:=hv.isS;have hn:=hv.vlen;cases l with
 | nil=>
  have h0:decide ((0:Int)<(([]:List St).length:Int))=false:=by simp
  simp only[n7,n8,simprocAttr,hS,hn,h0];refine o6 results235 ?_;simp only[p6,simprocAttr];exact⟨by trivial,by trivial⟩
 | cons t l=>
  have h0:decide ((0:Int)<((t::l).length:Int))=true:=du9 (by simp only[dt2];omega);have hin:=hv.inS (k:=0) (by simp);obtain⟨_,_,_,_,_,_,_,_,_,ldt,_⟩:=(hv.at_ (i:=0) rfl).st;have lt:=ldt w (d7 _);have hz:A3.sz St=13:=rfl;rw[hz,Nat.zero_mul]at lt;simp only[n7,n8,z6,simprocAttr,hS,hn,h0,hin,lt];refine o6 results235 ?_;simp only[p6,simprocAttr];exact⟨by trivial,by trivial⟩
theorem cu9(a:Addr)(vit:Value)(p:Pg)(it:It)(i x y:Nat)(w:World)(hs:At (i4 w) a (b9 p))(hit:SV (i4 w) vit it)(hr:E8 p)(hw:D1 p≤1000000)(hi:i<p.procs.length)(pt:at7 p i x y)(hmi:it∈(b9 p).of i):
  p7 prog 184 #[.pointer (some a),vit] w fun u w'=>(B0 (i4 w) w' 3 u ((b9 p).goes it)∧o7 w w'):=by
 refine p8 [.pointer (some a),vit] func184 rfl ?_;obtain⟨b,w1,hb1,hx1,hat⟩:=bY5 hit (d7 _);obtain⟨hats,ldi,sdi⟩:=hat.it;obtain⟨_,_,vth,vel,_,_,hth,hel,_,ldt,sdt⟩:=hats.st;have li:=ldi w1 (d7 _);have lt:=ldt w1 (d7 _);have hpr:=bB2 p hw i hi it hmi;rw[hpr]at li;have lit1:∀(t:Int) (w':World),B5 (i4 w) (i4 w')→∃v w'',(Instr.buildSlice 112 1 #[(0,.int .i64 t)]).run prog w' = .ok v w''∧B0 (i4 w) w'' 3 v [t]∧o7 w' w'':=fun t w' B5=>by
  obtain⟨v,w'',h1,h2,h3,_⟩:=lit (P:=prog) (w:=w') (h:=i4 w) (α:=Int) (xs:=[.int .i64 t]) (ys:=[t]) (parts:=#[(0,.int .i64 t)]) (n:=1) ae1 rfl (L8.2 rfl) (by simp[Value.cells]) rfl rfl (by simp) (by simp) B5;exact⟨v,w'',h1,h2,h3⟩
 have lit2:∀(t t2:Int) (w':World),B5 (i4 w) (i4 w')→∃v w'',(Instr.buildSlice 112 2 #[(0,.int .i64 t),(1,.int .i64 t2)]).run prog w' = .ok v w''∧B0 (i4 w) w'' 3 v [t,t2]∧o7 w' w'':=fun t t2 w' B5=>by
  obtain⟨v,w'',h1,h2,h3,_⟩:=lit (P:=prog) (w:=w') (h:=i4 w) (α:=Int) (xs:=[.int .i64 t,.int .i64 t2]) (ys:=[t,t2]) (parts:=#[(0,.int .i64 t),(1,.int .i64 t2)]) (n:=2) ae1 rfl (L8.2 rfl) (by simp[Value.cells]) rfl rfl (by simp) (by simp) B5;exact⟨v,w'',h1,h2,h3⟩
 have hx1d:=hx1.trans (o7.drew w1);have hst:∀w',o7 w1.drew w'→B5 (i4 w1) (i4 w'):=fun w' h=>b7 ((o7.drew w1).trans h);have si:=sdi (fun w'=>o7 w1.drew w') w1.drew (t8.refl _) hst;have st:=sdt (fun w'=>o7 w1.drew w') w1.drew (t8.refl _) hst;have hF:=show(b9 p).goes it=if it.s.kind=5 then[aA2 it.s.thn it.next,aA2 it.s.els it.next]else if it.s.kind=6 then[aA2 it.s.thn it.s.id,it.next]else if it.s.kind=7 then[((b9 p).it it.loop).next]else if it.s.kind=8 then[it.loop]else if it.s.kind=9 then[-1]else if it.s.kind=10 then[((b9 p).at it.proc it.s.name).getD 0]else[it.next]from rfl;rcases dq8 (decide (it.s.kind=5))with k5|k5
 ·rw[if_pos (dr0 k5)]at hF;obtain⟨vr,w2,hl,ho,hx2⟩:=lit2 (aA2 it.s.thn it.next) (aA2 it.s.els it.next) w1.drew (b7 hx1d);simp only[n7,n8,simprocAttr,hb1,lt,k5];refine C0 (fun w'=>o7 w1.drew w') 11 (A9 [0,1,2,3,4,6,7,8,9,10,5]) ?_;simp only[D2,A9,n7,n8,simprocAttr,si,st];refine C7 (aU7 vth it.s.thn it.next w1.drew (A3.mono (b7 (o7.drew w1)) hth)) ⟨t8.refl _,?_⟩;simp only[D2,n7,simprocAttr];refine C7 (aU7 vel it.s.els it.next w1.drew (A3.mono (b7 (o7.drew w1)) hel)) ?_;simp only[n7,simprocAttr,hl];refine o6 results184 ?_;simp only[p6,simprocAttr];exact⟨by rw[hF];exact ho,hx1d.trans hx2⟩
 rw[if_neg (dr2 k5)]at hF;rcases dq8 (decide (it.s.kind=6))with k6|k6
 ·rw[if_pos (dr0 k6)]at hF;obtain⟨vr,w2,hl,ho,hx2⟩:=lit2 (aA2 it.s.thn it.s.id) it.next w1.drew (b7 hx1d);simp only[n7,n8,simprocAttr,hb1,lt,k5,k6];refine C0 (fun w'=>o7 w1.drew w') 9 (A9 [0,1,2,3,4,5,7,8,6]) ?_;simp only[D2,A9,n7,n8,simprocAttr,si,st];refine C7 (aU7 vth it.s.thn it.s.id w1.drew (A3.mono (b7 (o7.drew w1)) hth)) ⟨t8.refl _,?_⟩;simp only[D2,n7,simprocAttr,hl];refine o6 results184 ?_;simp only[p6,simprocAttr];exact⟨by rw[hF];exact ho,hx1d.trans hx2⟩
 rw[if_neg (dr2 k6)]at hF;have B5:=hr.leads hi it hmi;unfold ap8 at B5;rcases dq8 (decide (it.s.kind=7))with k7|k7
 ·rw[if_pos (dr0 k7)]at hF;rw[if_pos (.inl (dr0 k7))]at B5;have hlp:(x:Int)<it.loop∧it.loop≤(y:Int):=by
   rcases pt.loop it hmi with h|h
   ·rw[h]at B5;simp at B5
   ·exact h
  obtain⟨_,_,hget⟩:=pt.at_ it.loop hlp.1 hlp.2;obtain⟨vr,w2,hl,ho,hx2⟩:=lit1 ((b9 p).it it.loop).next w1.drew (b7 hx1d);obtain⟨vL,vlo,vhi,hL,_,_,_,_,sds⟩:=(hs.mono (b7 hx1)).sh;have ss:=sds (fun w'=>o7 w1.drew w') w1.drew (t8.refl _) hst;obtain⟨_,_,sdl⟩:=(hL.at_ hget).it;have sl:=sdl (fun w'=>o7 w1.drew w') w1.drew (t8.refl _) hst;have hz:A3.sz It=17:=rfl;rw[hz]at sl;have hlt:=(dr4.1 hget).1;have hin:=hL.inS hlt;have hfit:=pt.ok.fit;have hlen:=pt.ok.len;have hwl:IntKind.i64.wrap (it.loop-1)=(((it.loop-1).toNat:Nat):Int):=by rw[K6 _ (by omega)];omega
  generalize(it.loop-1).toNat=q at hin sl hwl;simp only[n7,n8,simprocAttr,hb1,lt,k5,k6,k7];refine C0 (fun w'=>o7 w1.drew w') 12 (A9 [0,1,2,3,4,5,6,7,8,9,10,11]) ?_;simp only[D2,A9,n7,n8,z6,simprocAttr,si,ss,sl,hin,hwl,hl,F1];refine⟨hx2,?_⟩;refine o6 results184 ?_;simp only[p6,simprocAttr];exact⟨by rw[hF];exact ho,hx1d.trans hx2⟩
 rw[if_neg (dr2 k7)]at hF;rcases dq8 (decide (it.s.kind=8))with k8|k8
 ·rw[if_pos (dr0 k8)]at hF;obtain⟨vr,w2,hl,ho,hx2⟩:=lit1 it.loop w1 (b7 hx1);simp only[n7,n8,simprocAttr,hb1,li,lt,k5,k6,k7,k8,hl];refine o6 results184 ?_;simp only[p6,simprocAttr];exact⟨by rw[hF];exact ho,hx1.trans hx2⟩
 rw[if_neg (dr2 k8)]at hF;rcases dq8 (decide (it.s.kind=9))with k9|k9
 ·rw[if_pos (dr0 k9)]at hF;obtain⟨vr,w2,hl,ho,hx2⟩:=lit1 (-1) w1 (b7 hx1);simp only[n7,n8,simprocAttr,hb1,lt,k5,k6,k7,k8,k9,hl];refine o6 results184 ?_;simp only[p6,simprocAttr];exact⟨by rw[hF];exact ho,hx1.trans hx2⟩
 rw[if_neg (dr2 k9)]at hF;rcases dq8 (decide (it.s.kind=10))with k10|k10
 ·rw[if_pos (dr0 k10),hpr]at hF;simp only[n7,n8,simprocAttr,hb1,li,lt,k5,k6,k7,k8,k9,k10];refine B2 (bL0 a (b9 p) i x y it.s.name w1 (hs.mono (b7 hx1)) pt.ok (by rw[J0];exact hi) (Z5 p hw) (by rw[J0];exact aq7 p hw)) (fun w2 hx2=>?_);cases hq:(b9 p).at i it.s.name with
  | none=>
   obtain⟨vr,w3,hl,ho,hx3⟩:=lit1 0 w2 (b7 (hx1.trans hx2));simp only[n7,simprocAttr,bJ4,hl];refine o6 results184 ?_;simp only[p6,simprocAttr];exact⟨by rw[hF,hq];exact ho,hx1.trans (hx2.trans hx3)⟩
  | some q=>
   obtain⟨vr,w3,hl,ho,hx3⟩:=lit1 q w2 (b7 (hx1.trans hx2));simp only[n7,simprocAttr,bJ4,hl];refine o6 results184 ?_;simp only[p6,simprocAttr];exact⟨by rw[hF,hq];exact ho,hx1.trans (hx2.trans hx3)⟩
 ·rw[if_neg (dr2 k10)]at hF;obtain⟨vr,w2,hl,ho,hx2⟩:=lit1 it.next w1 (b7 hx1);simp only[n7,n8,simprocAttr,hb1,li,lt,k5,k6,k7,k8,k9,k10,hl];refine o6 results184 ?_;simp only[p6,simprocAttr];exact⟨by rw[hF];exact ho,hx1.trans hx2⟩
theorem ai3(a b c:Int):B8 prog 186 [(0,.int .i64 a),(1,.int .i64 b),(2,.int .i64 c)]=some (.agg (A6.cells (⟨a,b,c⟩:Sp)).toArray):=by
 simp[B8,cU3,J5,Instr.fill,Value.cells,A6.cells,Sp.cells]
theorem bF3{α:Type}[A3 α][A6 α]{h:Hp}(x:α):A3.enc h (Value.cells (.agg (A6.cells x).toArray)).toList x:=(A6.iff_ _ _ _).2 (by simp[Value.cells])
theorem bU0{x y:Nat}(hy:y≤1000000){a:Int}(h:Rg x y a):plc a:=by
 unfold plc;rcases h with h|h<;>omega
theorem co1{p:Pg}(hr:E8 p)(hw:D1 p≤1000000){i x y:Nat}(hi:i<p.procs.length)(pt:at7 p i x y):∀t∈((⟨0,(b9 p).first i,1⟩:Sp)::((b9 p).of i).flatMap fun it=>((b9 p).goes it).map fun t=>⟨it.s.id,t,1⟩),plc t.src∧plc t.dst:=by
 intro t ht;have hy:y≤1000000:=dr7 pt.ok.len pt.ok.fit;rcases dt1.1 ht with rfl|ht
 ·exact⟨by unfold plc;simp,bU0 hy (bG0 pt)⟩
 ·obtain⟨it,hit,ht⟩:=dw1.1 ht;obtain⟨a,ha,rfl⟩:=dt7.1 ht;have:=pt.ids it hit;exact⟨by unfold plc;simp only[];omega,bU0 hy (ca6 hr hw hi pt it hit a ha)⟩
theorem cg1(a:Addr)(p:Pg)(i x y:Nat)(w:World)(hs:At (i4 w) a (b9 p))(hr:E8 p)(hw:D1 p≤1000000)(hi:i<p.procs.length)(pt:at7 p i x y):
  p7 prog 122 #[.pointer (some a),.int .i64 i] w fun u w'=>(B0 (i4 w) w' 186 u ((b9 p).steps i)∧o7 w w'):=by
 refine p8 [.pointer (some a),.int .i64 i] func122 rfl ?_;obtain⟨hmem,hlen⟩:=bb2 p hw i hi;have hgl:=bH1 (b9 p);have hF:(b9 p).steps i=ar0 (⟨0,(b9 p).first i,1⟩::((b9 p).of i).flatMap fun it=>((b9 p).goes it).map fun t=>⟨it.s.id,t,1⟩):=rfl;have hall:=co1 hr hw hi pt;simp only[n7,n8,simprocAttr];refine B2 (bL1 a (b9 p) i x y w hs pt.ok) (fun w1 hx1=>?_);obtain⟨v0,w2,hlit,ho2,hx2,_⟩:=lit (P:=prog) (w:=w1) (h:=i4 w) (α:=Sp) (xs:=[.agg (A6.cells (⟨0,(b9 p).first i,1⟩:Sp)).toArray]) (ys:=[⟨0,(b9 p).first i,1⟩]) (parts:=#[(0,.agg (A6.cells (⟨0,(b9 p).first i,1⟩:Sp)).toArray)]) (n:=1) bm7 rfl (V3.2 (by simp[Value.cells])) (by simp[Value.cells,A6.cells,Sp.cells]) rfl rfl (by simp) (by simp) (b7 hx1);have hx02:=hx1.trans hx2;simp only[n7,simprocAttr,ai3,hlit];refine z7 (aF3 (i4 w) a (b9 p) i x y w2 hs (b7 hx02) pt.ok) ?_;rintro ui w3 ⟨hui,hx3⟩;have hgo:=fun it vit w' (h1:it∈(b9 p).of i) (h2:SV (i4 w') vit it) (h3:At (i4 w') a (b9 p))=>cu9 a vit p it i x y w' h3 h2 hr hw hi pt h1;generalize hl:(b9 p).of i=l at hui hlen hF hgo hall;have hx03:=hx02.trans hx3;have hS2:=hui.isS;have hn2:=hui.vlen;generalize hB:(fun it:It=>((b9 p).goes it).map fun t=>(⟨it.s.id,t,1⟩:Sp))=B at hF hall;have hBl:∀it,(B it).length≤2:=fun it=>by rw[←hB];simp only[dr9];exact hgl it
 generalize hfs:(⟨0,(b9 p).first i,1⟩:Sp)=s0 at ho2 hF hall;have hbt:∀k,((l.take k).flatMap B).length≤800000:=fun k=>by
  refine dr7 (S1 B 2 _ fun x _=>hBl x) ?_;rw[ds3];omega
 simp only[n7,n8,simprocAttr,hS2,hn2];refine n9 [0,17,18] (σ:=Nat×Value) (fun s f w'=>f 19 = .int .i64 s.1∧f 5=s.2∧s.1≤l.length∧B0 (i4 w) w' 186 s.2 (s0::(l.take s.1).flatMap B)∧o7 w w') (fun s=>l.length-s.1) (0,v0) ?_ ?_
 ·simp only[p6,simprocAttr];exact⟨by trivial,by trivial,dr8 _,by simpa using ho2.ext hx3,hx03⟩
 rintro⟨j,u⟩ f w5 hk ⟨h19,h5,hjl,ho,hx5⟩;simp only at h19 h5 hjl ho;simp only[dq9,p6,simprocAttr]at hk;obtain⟨e0,e17,e18,_⟩:=hk;have hpre:=hbt j;simp only[n7,n8,simprocAttr,h19,e18];refine m8 (fun hc=>?_) (fun hc=>?_);rotate_left
 ·have hge:j=l.length:=by simp at hc;omega
  subst hge;rw[ds2]at ho hpre;simp only[n7,simprocAttr,h5];refine z7 (aw7 ho (by simp only[dt2];omega) (b7 hx5) hall) ?_;rintro u6 w6 ⟨ho6,hm6,_⟩;simp only[n7,simprocAttr];refine o6 results122 ?_;simp only[p6,simprocAttr];exact⟨by rw[hF];exact ho6,ho.ext2 hx5 hm6⟩
 have hlt:j<l.length:=by simpa using hc
 have hin:=hui.inS hlt;obtain⟨sv,hsv,hld⟩:=E4 (P:=prog) (t:=121) hui (b7 hx5) (dq7 hlt) ab1 ab2 Z1 I7;rw[I7]at hld;have htk:=I9 B l hlt;have hmi:=dr5 hlt;generalize l[j]=it at hsv htk hmi;obtain⟨c,wz,w6,hal,hst,hx6,hati⟩:=aI8 (w:=w5) (A4 u) hsv (fun b hb=>ho.lt hb);obtain⟨ldI,_⟩:=I2.it_v hsv hati;obtain⟨us,hus,hats,_,_⟩:=I2.it hsv hati;obtain⟨_,_,_,_,_,_,_,_,_,_,_,ldt,_⟩:=I2.st hus hats;have k1:=ldI w6 (B3 _ _);have hx56:=hx5.trans hx6;simp only[n7,n8,z6,simprocAttr,h19,e0,e17,hin,hld,hal,hst,k1];refine z7 (hgo it sv w6 hmi (hsv.mono (b7 hx56)) (hs.mono (b7 hx56))) ?_;rintro ug w7 ⟨hog,hx7⟩;have ho6:=ho.ext hx6;have hug:R (B7 w7 (A4 u)) ug ((b9 p).goes it):=hog.flatR fun b hb=>D3 fun hbu=>by
  have h1:=ho6.lt hbu;have h2:=D0 (hog.free hb);omega
 have ho7:=ho6.ext hx7;have hx57:=hx56.trans hx7;have hBit:B it=((b9 p).goes it).map fun t=>(⟨it.s.id,t,1⟩:Sp):=by rw[←hB]
 have hgit:=hgl it;generalize(b9 p).goes it=gl at hug hBit hgit;generalize(l.take j).flatMap B=pre at ho7 hpre htk;have hS3:=hug.isS;have hn3:=hug.vlen;simp only[n7,n8,simprocAttr,hS3,hn3];refine n9 [0,7,17,18,19,25,26] (σ:=Nat×Value) (fun s f w'=>f 27 = .int .i64 s.1∧f 5=s.2∧s.1≤gl.length∧B0 (i4 w) w' 186 s.2 (s0::(pre++(gl.take s.1).map fun t=>(⟨it.s.id,t,1⟩:Sp)))∧t8 (A4 u) w7 w'∧D7 w7 u s.2) (fun s=>gl.length-s.1) (0,u) ?_ ?_
 ·simp only[p6,simprocAttr];exact⟨by trivial,h5,dr8 _,by simpa using ho7,t8.refl _,fun b hb=>.inl hb⟩
 rintro⟨k,u8⟩ f8 w8 hk ⟨h27,h58,hkl,ho8,hm8,hmv8⟩;simp only at h27 h58 hkl ho8 hmv8;simp only[dq9,p6,simprocAttr]at hk;obtain⟨q0,q7,q17,q18,q19,q25,q26,_⟩:=hk;have hx08:=ho7.ext2 hx57 hm8;simp only[n7,n8,simprocAttr,h27,q26];refine m8 (fun hc=>?_) (fun hc=>?_);rotate_left
 ·have hge:k=gl.length:=by simp at hc;omega
  subst hge;rw[ds2,←hBit]at ho8;simp only[n7,n8,simprocAttr,q19,h19];refine⟨(j+1,u8),by simp only[];omega,by simp only[];rw[A8 j (by omega)],h58,by simp only[];omega,?_,hx08⟩;simp only[];rw[htk];exact ho8
 have hlt8:k<gl.length:=by simpa using hc
 clear hin hld;have hin:=hug.inS hlt8;have hld:=aJ6 hug (C8 hm8) hlt8;have htk8:(gl.take (k+1)).map (fun t=>(⟨it.s.id,t,1⟩:Sp))=(gl.take k).map (fun t=>(⟨it.s.id,t,1⟩:Sp))++[⟨it.s.id,gl[k],1⟩]:=by
  rw[dr6 hlt8,du1];rfl
 generalize gl[k]=y1 at hld htk8;have k2:=ldt w8 (C8 (t8.chain (t8.up hx7) hm8 fun _ _ h=>h));obtain⟨p1,u9,w9,p2,p3,p4,p5⟩:=push (e:=144) bm7 rfl ho8 (x:=.agg (A6.cells (⟨it.s.id,y1,1⟩:Sp)).toArray) (y:=⟨it.s.id,y1,1⟩) (bF3 _) (by simp only[dt2,dr1,dr9,ds3];omega) (by simp only[dt2,dr1,dr9,ds3];omega) (b7 hx08);simp only[n7,n8,z6,simprocAttr,h27,h58,q7,q25,hin,hld,k2,ai3,p1,p2];refine⟨(k+1,u9),by simp only[];omega,by simp only[];rw[A8 k (by omega)],by trivial,by simp only[];omega,?_,hm8.chain p4 fun b hb hbu=>?_,fun b hb=>?_⟩
 ·simp only[];rw[htk8,←dt4,←dC0];exact p3
 ·rcases hmv8 b hbu with h|h
  ·exact h
  ·omega
 ·rcases p5 b hb with h|h
  ·exact hmv8 b h
  ·exact .inr (dr7 hm8.size h)
def Wy.sp(w:Wy):Ptr Sh:=⟨w.s⟩
instance:A3 Wy where
 sz:=5
 pos:=by omega
 enc h cs x:=∃v1 v2 v3,cs=[v1,.int .i64 x.proc,.int .i64 x.n,v2,v3]∧R h v1 x.sp∧R h v2 x.real∧R h v3 x.live
 len:=by rintro h cs a ⟨v1,v2,v3,rfl,_⟩;rfl
 mono:=by rintro h k cs a hk ⟨v1,v2,v3,rfl,h1,h2,h3⟩;exact⟨v1,v2,v3,rfl,A3.mono hk h1,A3.mono hk h2,A3.mono hk h3⟩
 one:=by
  rintro h cs a ⟨v1,v2,v3,rfl,h1,h2,h3⟩ v hv;simp only[dt1,dw3,dC5]at hv;rcases hv with rfl|rfl|rfl|rfl|rfl
  ·exact X8 h1
  ·rfl
  ·rfl
  ·exact X8 h2
  ·exact X8 h3
structure Bk where
 s:Sh
 ways:List Wy
 defs:List (List A7)
 uses:List (List A7)
 ins:List (List A7)
 outs:List (List A7)
def Bk.sp(b:Bk):Ptr Sh:=⟨b.s⟩
def Bk.wp(b:Bk):List (Ptr Wy):=b.ways.map fun w=>⟨w⟩
instance:A3 Bk where
 sz:=6
 pos:=by omega
 enc h cs x:=∃v1 v2 v3 v4 v5 v6,cs=[v1,v2,v3,v4,v5,v6]∧R h v1 x.sp∧R h v2 x.wp∧R h v3 x.defs∧R h v4 x.uses∧R h v5 x.ins∧R h v6 x.outs
 len:=by rintro h cs a ⟨v1,v2,v3,v4,v5,v6,rfl,_⟩;rfl
 mono:=by rintro h k cs a hk ⟨v1,v2,v3,v4,v5,v6,rfl,h1,h2,h3,h4,h5,h6⟩;exact⟨v1,v2,v3,v4,v5,v6,rfl,A3.mono hk h1,A3.mono hk h2,A3.mono hk h3,A3.mono hk h4,A3.mono hk h5,A3.mono hk h6⟩
 one:=by
  rintro h cs a ⟨v1,v2,v3,v4,v5,v6,rfl,h1,h2,h3,h4,h5,h6⟩ v hv;simp only[dt1,dw3,dC5]at hv;rcases hv with rfl|rfl|rfl|rfl|rfl|rfl
  ·exact X8 h1
  ·exact X8 h2
  ·exact X8 h3
  ·exact X8 h4
  ·exact X8 h5
  ·exact X8 h6
theorem cH9{h:Hp}{cs:List Value}{x:Wy}:A3.enc h cs x→∃v_sp v_real v_live,cs=([v_sp]:List Value)++([.int .i64 x.proc]:List Value)++([.int .i64 x.n]:List Value)++([v_real]:List Value)++([v_live]:List Value)∧R h v_sp x.sp∧R h v_real x.real∧R h v_live x.live:=by
 rintro⟨v1,v2,v3,rfl,h1,h2,h3⟩;exact⟨v1,v2,v3,rfl,h1,h2,h3⟩
theorem At.wy{h:Hp}{a:Addr}{x:Wy}(ha:At h a x):∃v_sp v_real v_live,R h v_sp x.sp∧R h v_real x.real∧R h v_live x.live∧(∀w,B5 h (i4 w)→N4 prog w 89 a v_sp∧N4 prog w 3 (a.add 1) (.int .i64 x.proc)∧N4 prog w 3 (a.add 2) (.int .i64 x.n)∧N4 prog w 144 (a.add 3) v_real∧N4 prog w 149 (a.add 4) v_live)∧(∀(S:World→Prop) (w0:World),S w0→(∀w,S w→B5 h (i4 w))→N5 prog S 89 a v_sp∧N5 prog S 3 (a.add 1) (.int .i64 x.proc)∧N5 prog S 3 (a.add 2) (.int .i64 x.n)∧N5 prog S 144 (a.add 3) v_real∧N5 prog S 149 (a.add 4) v_live):=by
 obtain⟨cs,he,hc⟩:=ha;obtain⟨v_sp,v_real,v_live,rfl,h_sp,h_real,h_live⟩:=cH9 he;exact⟨_,_,_,h_sp,h_real,h_live,fun w hw=>⟨E0 hc rfl bn6 w hw,v8 hc (o:=1) rfl F3 w hw,v8 hc (o:=2) rfl F3 w hw,v8 hc (o:=3) rfl bW0 w hw,v8 hc (o:=4) rfl aj9 w hw⟩,fun S w0 hS hw=>⟨R4 hS fun w' hw'=>E0 hc rfl bn6 w' (hw w' hw'),R4 hS fun w' hw'=>v8 hc (o:=1) rfl F3 w' (hw w' hw'),R4 hS fun w' hw'=>v8 hc (o:=2) rfl F3 w' (hw w' hw'),R4 hS fun w' hw'=>v8 hc (o:=3) rfl bW0 w' (hw w' hw'),R4 hS fun w' hw'=>v8 hc (o:=4) rfl aj9 w' (hw w' hw')⟩⟩
theorem cH2{h:Hp}{cs:List Value}{x:Bk}:A3.enc h cs x→∃v_sp v_wp v_defs v_uses v_ins v_outs,cs=([v_sp]:List Value)++([v_wp]:List Value)++([v_defs]:List Value)++([v_uses]:List Value)++([v_ins]:List Value)++([v_outs]:List Value)∧R h v_sp x.sp∧R h v_wp x.wp∧R h v_defs x.defs∧R h v_uses x.uses∧R h v_ins x.ins∧R h v_outs x.outs:=by
 rintro⟨v1,v2,v3,v4,v5,v6,rfl,h1,h2,h3,h4,h5,h6⟩;exact⟨v1,v2,v3,v4,v5,v6,rfl,h1,h2,h3,h4,h5,h6⟩
theorem At.bk{h:Hp}{a:Addr}{x:Bk}(ha:At h a x):∃v_sp v_wp v_defs v_uses v_ins v_outs,R h v_sp x.sp∧R h v_wp x.wp∧R h v_defs x.defs∧R h v_uses x.uses∧R h v_ins x.ins∧R h v_outs x.outs∧(∀w,B5 h (i4 w)→N4 prog w 89 a v_sp∧N4 prog w 90 (a.add 1) v_wp∧N4 prog w 91 (a.add 2) v_defs∧N4 prog w 91 (a.add 3) v_uses∧N4 prog w 91 (a.add 4) v_ins∧N4 prog w 91 (a.add 5) v_outs)∧(∀(S:World→Prop) (w0:World),S w0→(∀w,S w→B5 h (i4 w))→N5 prog S 89 a v_sp∧N5 prog S 90 (a.add 1) v_wp∧N5 prog S 91 (a.add 2) v_defs∧N5 prog S 91 (a.add 3) v_uses∧N5 prog S 91 (a.add 4) v_ins∧N5 prog S 91 (a.add 5) v_outs):=by
 obtain⟨cs,he,hc⟩:=ha;obtain⟨v_sp,v_wp,v_defs,v_uses,v_ins,v_outs,rfl,h_sp,h_wp,h_defs,h_uses,h_ins,h_outs⟩:=cH2 he;exact⟨_,_,_,_,_,_,h_sp,h_wp,h_defs,h_uses,h_ins,h_outs,fun w hw=>⟨E0 hc rfl bn6 w hw,v8 hc (o:=1) rfl cB4 w hw,v8 hc (o:=2) rfl al1 w hw,v8 hc (o:=3) rfl al1 w hw,v8 hc (o:=4) rfl al1 w hw,v8 hc (o:=5) rfl al1 w hw⟩,fun S w0 hS hw=>⟨R4 hS fun w' hw'=>E0 hc rfl bn6 w' (hw w' hw'),R4 hS fun w' hw'=>v8 hc (o:=1) rfl cB4 w' (hw w' hw'),R4 hS fun w' hw'=>v8 hc (o:=2) rfl al1 w' (hw w' hw'),R4 hS fun w' hw'=>v8 hc (o:=3) rfl al1 w' (hw w' hw'),R4 hS fun w' hw'=>v8 hc (o:=4) rfl al1 w' (hw w' hw'),R4 hS fun w' hw'=>v8 hc (o:=5) rfl al1 w' (hw w' hw')⟩⟩
structure WyOk (p:Pg) (i x y:Nat) (wy:Wy):Prop where
 s:wy.s=b9 p
 proc:wy.proc=(i:Int)
 n:wy.n=(y:Int)-(x:Int)+2
 part:at7 p i x y
theorem WyOk.index{p:Pg}{i x y:Nat}{wy:Wy}(h:WyOk p i x y wy)(a:Int):wy.index a=if a=0 then 0 else if a = -1 then wy.n-1 else if(x:Int)+1≤a∧a<(y:Int)+1 then a-((x:Int)+1)+1 else -1:=by
 have h1:=h.part.ok.lo;have h2:=h.part.ok.hi;unfold Wy.index V1;simp only[h.s,h.proc,dt5,List.getD,h1,h2,dw8]
theorem WyOk.place{p:Pg}{i x y:Nat}{wy:Wy}(h:WyOk p i x y wy)(a:Int):wy.place a=if a=0 then 0 else if a=wy.n-1 then -1 else(x:Int)+1+a-1:=by
 have h1:=h.part.ok.lo;unfold Wy.place V1;simp only[h.s,h.proc,dt5,List.getD,h1,dw8]
theorem aT2(a:Addr)(wy:Wy)(p:Pg)(i x y:Nat)(pl:Int)(w:World)(ha:At (i4 w) a wy)(hok:WyOk p i x y wy)(hpl : -1≤pl∧pl≤2000000):
  p7 prog 132 #[.pointer (some a),.int .i64 pl] w fun u w'=>(u = .int .i64 (wy.index pl)∧o7 w w'):=by
 refine p8 [.pointer (some a),.int .i64 pl] func132 rfl ?_;obtain⟨vs,_,_,hvs,_,_,ldw,sdw⟩:=ha.wy;obtain⟨sh,rfl,has⟩:=Ptr.at_ hvs;have hss:At (i4 w) sh (b9 p):=by rw[←hok.s];exact has
 obtain⟨vL,vlo,vhi,hL,hlo,hhi,hap,lds,sds⟩:=hss.sh;have lw:=ldw w (d7 _);rw[hok.proc]at lw;have hF:=hok.index pl;have hN:=hok.n;have hle':=hok.part.ok.le;have hlen:=hok.part.ok.len;have hfit:=hok.part.ok.fit;have hst:∀w',o7 w.drew w'→B5 (i4 w) (i4 w'):=fun w' h=>b7 ((o7.drew w).trans h);have s1:=sdw (fun w'=>o7 w.drew w') w.drew (t8.refl _) hst;rw[hok.proc]at s1;have s2:=sds (fun w'=>o7 w.drew w') w.drew (t8.refl _) hst;have hi1:=hlo.inS (dr4.1 hok.part.ok.lo).1;have hi2:=hhi.inS (dr4.1 hok.part.ok.hi).1;have k1:∀K f d w0,I1 prog (fun w'=>o7 w.drew w') (Instr.loadAt 3 (.pointer (some (H2 vlo i)))) K f d w0=K (C4 f d (.int .i64 ((x:Int)+1))) w0:=fun K f d w0=>D5 (w0:=w.drew) (t8.refl _) fun w' h=>ldI hlo (hst w' h) hok.part.ok.lo;have k2:∀K f d w0,I1 prog (fun w'=>o7 w.drew w') (Instr.loadAt 3 (.pointer (some (H2 vhi i)))) K f d w0=K (C4 f d (.int .i64 ((y:Int)+1))) w0:=fun K f d w0=>D5 (w0:=w.drew) (t8.refl _) fun w' h=>ldI hhi (hst w' h) hok.part.ok.hi;have hwn:IntKind.i64.wrap (wy.n-1)=wy.n-1:=K6 _ (by omega);rcases dq8 (decide (pl=0))with q0|q0
 ·simp only[n7,n8,simprocAttr,q0];refine o6 results132 ?_;simp only[p6,simprocAttr];exact⟨by rw[hF,if_pos (dr0 q0)],t8.refl _⟩
 rw[if_neg (dr2 q0)]at hF;rcases dq8 (decide (pl = -1))with q1|q1
 ·simp only[n7,n8,simprocAttr,q0,q1,lw,hwn];refine o6 results132 ?_;simp only[p6,simprocAttr];exact⟨by rw[hF,if_pos (dr0 q1)],t8.refl _⟩
 rw[if_neg (dr2 q1)]at hF;have hw1:IntKind.i64.wrap (pl-((x:Int)+1))=pl-((x:Int)+1):=K6 _ (by omega);have hw2:IntKind.i64.wrap (pl-((x:Int)+1)+1)=pl-((x:Int)+1)+1:=K6 _ (by omega);generalize hX:(x:Int)+1=X at k1 hF hw1 hw2;generalize hY:(y:Int)+1=Y at k2 hF;simp only[n7,n8,simprocAttr,q0,q1];refine C0 (fun w'=>o7 w.drew w') 33 (A9 [0,1,2,3,4,5,6,7,8,9,10,11,12,13,14,15,16,17,18,19,20,21,22,23,24,25,26,27,28,29,30,31,32]) ?_;rcases dq8 (decide (X≤pl))with q2|q2
 ·rcases dq8 (decide (pl<Y))with q3|q3
  ·have hst2:∀w',o7 w.drew.drew w'→B5 (i4 w) (i4 w'):=fun w' h=>b7 ((o7.drew w).trans ((o7.drew w.drew).trans h));have t1:=sdw (fun w'=>o7 w.drew.drew w') w.drew.drew (t8.refl _) hst2;rw[hok.proc]at t1;have t2:=sds (fun w'=>o7 w.drew.drew w') w.drew.drew (t8.refl _) hst2;have t3:∀K f d w0,I1 prog (fun w'=>o7 w.drew.drew w') (Instr.loadAt 3 (.pointer (some (H2 vlo i)))) K f d w0=K (C4 f d (.int .i64 X)) w0:=fun K f d w0=>D5 (w0:=w.drew.drew) (t8.refl _) fun w' h=>by rw[←hX];exact ldI hlo (hst2 w' h) hok.part.ok.lo
   simp only[D2,A9,n7,n8,z6,simprocAttr,s1,s2,k1,k2,hi1,hi2,q2,q3];refine C0 (fun w'=>o7 w.drew.drew w') 17 (A9 [0,1,2,3,4,5,6,7,8,9,10,11,12,13,14,15,16]) ?_;simp only[D2,A9,n7,n8,z6,simprocAttr,t1,t2,t3,hi1,hw1,hw2];refine o6 results132 ?_;simp only[p6,simprocAttr];exact⟨by rw[hF,if_pos ⟨dr0 q2,dr0 q3⟩],(o7.drew w).trans (o7.drew _)⟩
  ·simp only[D2,A9,n7,n8,z6,simprocAttr,s1,s2,k1,k2,hi1,hi2,q2,q3];refine o6 results132 ?_;simp only[p6,simprocAttr];exact⟨by rw[hF,if_neg (fun h=>dr2 q3 h.2)],o7.drew w⟩
 ·simp only[D2,A9,n7,n8,z6,simprocAttr,s1,s2,k1,hi1,q2];refine o6 results132 ?_;simp only[p6,simprocAttr];exact⟨by rw[hF,if_neg (fun h=>dr2 q2 h.1)],o7.drew w⟩
theorem ab5(a:Addr)(wy:Wy)(p:Pg)(i x y:Nat)(k:Int)(w:World)(ha:At (i4 w) a wy)(hok:WyOk p i x y wy)(hk:0≤k∧k≤2000000):
  p7 prog 88 #[.pointer (some a),.int .i64 k] w fun u w'=>(u = .int .i64 (wy.place k)∧o7 w w'):=by
 refine p8 [.pointer (some a),.int .i64 k] func88 rfl ?_;obtain⟨vs,_,_,hvs,_,_,ldw,sdw⟩:=ha.wy;obtain⟨sh,rfl,has⟩:=Ptr.at_ hvs;have hss:At (i4 w) sh (b9 p):=by rw[←hok.s];exact has
 obtain⟨vL,vlo,vhi,hL,hlo,hhi,hap,lds,sds⟩:=hss.sh;have lw:=ldw w (d7 _);have hF:=hok.place k;have hN:=hok.n;have hle':=hok.part.ok.le;have hlen:=hok.part.ok.len;have hfit:=hok.part.ok.fit;have hst:∀w',o7 w.drew w'→B5 (i4 w) (i4 w'):=fun w' h=>b7 ((o7.drew w).trans h);have s1:=sdw (fun w'=>o7 w.drew w') w.drew (t8.refl _) hst;rw[hok.proc]at s1;have s2:=sds (fun w'=>o7 w.drew w') w.drew (t8.refl _) hst;have hi1:=hlo.inS (dr4.1 hok.part.ok.lo).1;have k1:∀K f d w0,I1 prog (fun w'=>o7 w.drew w') (Instr.loadAt 3 (.pointer (some (H2 vlo i)))) K f d w0=K (C4 f d (.int .i64 ((x:Int)+1))) w0:=fun K f d w0=>D5 (w0:=w.drew) (t8.refl _) fun w' h=>ldI hlo (hst w' h) hok.part.ok.lo;have hwn:IntKind.i64.wrap (wy.n-1)=wy.n-1:=K6 _ (by omega);have hw1:IntKind.i64.wrap ((x:Int)+1+k)=(x:Int)+1+k:=K6 _ (by omega);have hw2:IntKind.i64.wrap ((x:Int)+1+k-1)=(x:Int)+1+k-1:=K6 _ (by omega);rcases dq8 (decide (k=0))with q0|q0
 ·simp only[n7,n8,simprocAttr,q0];refine o6 results88 ?_;simp only[p6,simprocAttr];exact⟨by rw[hF,if_pos (dr0 q0)],t8.refl _⟩
 rw[if_neg (dr2 q0)]at hF;rcases dq8 (decide (k=wy.n-1))with q1|q1
 ·simp only[n7,n8,simprocAttr,q0,q1,lw,hwn];refine o6 results88 ?_;simp only[p6,simprocAttr];exact⟨by rw[hF,if_pos (dr0 q1)],t8.refl _⟩
 rw[if_neg (dr2 q1)]at hF;generalize hX:(x:Int)+1=X at k1 hF hw1 hw2;simp only[n7,n8,simprocAttr,q0,q1,lw,hwn];refine C0 (fun w'=>o7 w.drew w') 17 (A9 [0,1,2,3,4,5,6,7,8,9,10,11,12,13,14,15,16]) ?_;simp only[D2,A9,n7,n8,z6,simprocAttr,s1,s2,k1,hi1,hw1,hw2];refine o6 results88 ?_;simp only[p6,simprocAttr];exact⟨by rw[hF],o7.drew w⟩
theorem WyOk.index_rg{p:Pg}{i x y:Nat}{wy:Wy}(h:WyOk p i x y wy){a:Int}(ha:a=0∨Rg x y a):0≤wy.index a∧wy.index a<wy.n:=by
 have h1:=h.n;have h2:=h.part.ok.le;rw[h.index];rcases ha with ha|ha|ha
 ·rw[if_pos ha];omega
 ·rw[if_neg (by omega),if_pos ha];omega
 ·rw[if_neg (by omega),if_neg (by omega),if_pos (by omega)];omega
theorem cf7(a:Addr)(wy:Wy)(p:Pg)(i x y:Nat)(pl:Int)(w:World)(ha:At (i4 w) a wy)(hok:WyOk p i x y wy)(hpl:(x:Int)<pl∧pl≤(y:Int))(hl:(wy.live.length:Int)=wy.n):
  p7 prog 127 #[.pointer (some a),.int .i64 pl] w fun u w'=>(u = .bool (wy.lives pl)∧o7 w w'):=by
 refine p8 [.pointer (some a),.int .i64 pl] func127 rfl ?_;obtain⟨_,_,vl,_,_,hvl,ldw,sdw⟩:=ha.wy;have hfit:=hok.part.ok.fit;have hlen:=hok.part.ok.len;have hst:∀w',o7 w.drew w'→B5 (i4 w) (i4 w'):=fun w' h=>b7 ((o7.drew w).trans h);have s1:=sdw (fun w'=>o7 w.drew w') w.drew (t8.refl _) hst;have hrg:=hok.index_rg (.inr (.inr hpl));have hlt:(wy.index pl).toNat<wy.live.length:=by omega
 have hin:=hvl.inS hlt;have hcast:wy.index pl=(((wy.index pl).toNat:Nat):Int):=by omega
 have hF:wy.lives pl=wy.live[(wy.index pl).toNat]:=by
  unfold Wy.lives atB;rw[List.getD,dq7 hlt];rfl
 simp only[n7,n8,simprocAttr];refine C0 (fun w'=>o7 w.drew w') 7 (A9 [0,1,2,3,4,5,6]) ?_;simp only[D2,A9,n7,n8,simprocAttr,s1];refine B2 (aT2 a wy p i x y pl w.drew (ha.mono (b7 (o7.drew w))) hok (by omega)) (fun w2 hx2=>⟨hx2,?_⟩);have hx02:=(o7.drew w).trans hx2;have hld:=ldB hvl (b7 hx02) hlt;rw[hcast];generalize(wy.index pl).toNat=q at hlt hin hld hF;simp only[D2,n7,n8,z6,simprocAttr,hin,hld];refine o6 results127 ?_;simp only[p6,simprocAttr];exact⟨by rw[hF],hx02⟩
def GR(h:Hp)(pg:Value)(nx pv:List (List Int)):Prop:=
 ∃gb vn vp,pg = .pointer (some ⟨gb,0,none⟩)∧I5 h ⟨gb,0,none⟩=some vn∧I5 h ⟨gb,1,none⟩=some vp∧R h vn nx∧R h vp pv
theorem GR.mono{h k:Hp}{pg:Value}{nx pv:List (List Int)}(hg:GR h pg nx pv)(hk:B5 h k):GR k pg nx pv:=by
 obtain⟨gb,vn,vp,e,h1,h2,h3,h4⟩:=hg;exact⟨gb,vn,vp,e,F6 hk h1,F6 hk h2,A3.mono hk h3,A3.mono hk h4⟩
theorem cZ3(a:Int)(w:World):p7 prog 186 #[.pointer none,.int .i64 a] w fun u w'=>(u = .bool false∧w'=w):=by
 refine p8 [.pointer none,.int .i64 a] func186 rfl ?_;simp only[J7,O2,B6,simprocAttr];refine o6 results186 ?_;simp only[p6,simprocAttr];exact⟨by trivial,by trivial⟩
theorem aP0(pg:Value)(nx pv:List (List Int))(a:Int)(w:World)(hg:GR (i4 w) pg nx pv):
  p7 prog 186 #[pg,.int .i64 a] w fun u w'=>(u = .bool (H1 nx.length a)∧w'=w):=by
 obtain⟨gb,vn,vp,rfl,h1,h2,h3,h4⟩:=hg;refine p8 [.pointer (some ⟨gb,0,none⟩),.int .i64 a] func186 rfl ?_;have hld:=G1 (P:=prog) (t:=153) h1 (d7 _) T6;have hS:=h3.isS;have hn:=h3.vlen;by_cases ha:0≤a
 ·have ha':decide (0≤a)=true:=by simpa using ha
  simp only[J7,O2,B6,E5,P9,simprocAttr,ha',hld,hS,hn];refine o6 results186 ?_;simp only[p6,simprocAttr];exact⟨by simp[H1,ha'],by trivial⟩
 ·have ha':decide (0≤a)=false:=by simpa using ha
  simp only[J7,O2,B6,E5,simprocAttr,ha'];refine o6 results186 ?_;simp only[p6,simprocAttr];exact⟨by simp[H1,ha'],by trivial⟩
theorem cF2(pg:Value)(nx pv:List (List Int))(w:World)(hg:GR (i4 w) pg nx pv):
  p7 prog 241 #[pg] w fun u w'=>(u = .int .i64 (nx.length:Nat)∧w'=w):=by
 obtain⟨gb,vn,vp,rfl,h1,h2,h3,h4⟩:=hg;refine p8 [.pointer (some ⟨gb,0,none⟩)] func241 rfl ?_;have hld:=G1 (P:=prog) (t:=153) h1 (d7 _) T6;have hS:=h3.isS;have hn:=h3.vlen;simp only[J7,O2,B6,P9,simprocAttr,hld,hS,hn];refine o6 results241 ?_;simp only[p6,simprocAttr];exact⟨by trivial,by trivial⟩
theorem cp3(pg:Value)(nx pv:List (List Int))(a:Int)(w:World)(hg:GR (i4 w) pg nx pv)(hlen:pv.length=nx.length)(hl:∀x∈nx,x.length≤1000000000):
  p7 prog 242 #[pg,.int .i64 a] w fun u w'=>(B0 (i4 w) w' 3 u (C1 nx a)∧o7 w w'):=by
 have hg':=hg;obtain⟨gb,vn,vp,rfl,h1,h2,h3,h4⟩:=hg;refine p8 [.pointer (some ⟨gb,0,none⟩),.int .i64 a] func242 rfl ?_;have hld:=G1 (P:=prog) (t:=153) h1 (d7 _) T6;have hS:=h3.isS;have hn:=h3.vlen;simp only[J7,O2,simprocAttr];refine z7 (aP0 _ nx pv a w hg') ?_;rintro u w' ⟨rfl,rfl⟩;have hll:nx.length=nx.length:=rfl;by_cases ha:H1 nx.length a=true
 ·have ha2:H1 nx.length a=true:=by rw[hll];exact ha
  obtain⟨hx1,hx2⟩:=al9 ha2;have hin:=h3.inS hx2;have h0:decide (0≤a)=true:=by simpa using(C3.1 ha).1
  obtain⟨x,hx3,hx4⟩:=h3.row hx1;have hld2:=G1 (P:=prog) (t:=112) hx4 (d7 _) R0;simp only[J7,O2,unV,z6,simprocAttr,ha,hld,hin,h0,hld2];refine z7 (bP3 x _ w' hx3 (hl _ (ds9 hx1))) ?_;rintro r w2 ⟨hr,hx⟩;simp only[J7,simprocAttr];refine o6 results242 ?_;simp only[p6,simprocAttr];exact⟨hr,hx⟩
 ·have ha':H1 nx.length a=false:=by simpa using ha
  simp only[J7,O2,unV,simprocAttr,ha'];refine o6 results242 ?_;simp only[p6,simprocAttr];rw[aR3 (by rw[hll];exact ha')];exact⟨B0.nil _ _ _,t8.refl _⟩
structure GX (h:Hp) (w:World) (gb:Nat) (cs:Array Value) (vn:Value) (us:List Z3) (nx:List (List Int)) (vp:Value) (us':List Z3) (pv:List (List Int)):Prop where
 free:h gb=none
 cell:w.heap[gb]?=some (.cells cs 234 (0,0))
 rn:K9 h w 112 3 vn us nx
 rp:K9 h w 112 3 vp us' pv
 gn:¬L3 vn us gb
 gp:¬L3 vp us' gb
 dis:∀b,L3 vn us b→¬L3 vp us' b
section
variable {h:Hp} {w:World} {gb:Nat} {cs:Array Value} {vn vp:Value} {us us':List Z3} {nx pv:List (List Int)}
theorem GX.swap(hx:GX h w gb cs vn us nx vp us' pv):GX h w gb cs vp us' pv vn us nx:=
 ⟨hx.free,hx.cell,hx.rp,hx.rn,hx.gp,hx.gn,fun b h1 h2=>hx.dis b h2 h1⟩
theorem GX.lt(hx:GX h w gb cs vn us nx vp us' pv):gb<w.heap.size:=(dr3.1 hx.cell).1
theorem GX.mod{M:Nat→Prop}{w':World}(hx:GX h w gb cs vn us nx vp us' pv)(hm:t8 M w w')(hM:∀b,(b=gb∨L3 vn us b∨L3 vp us' b)→¬M b):GX h w' gb cs vn us nx vp us' pv:=
 ⟨hx.free,(hm.block gb hx.lt (hM gb (.inl rfl))).trans hx.cell,hx.rn.mod hm fun b hb=>hM b (.inr (.inl hb)),hx.rp.mod hm fun b hb=>hM b (.inr (.inr hb)),hx.gn,hx.gp,hx.dis⟩
theorem GX.set{w' w'':World}(hx:GX h w gb cs vn us nx vp us' pv){i:Nat}{u:Z3}(hi:us[i]?=some u){u':Value}{xs:List Int}
  (hm:t8 (A4 u.v) w w') (ho:B0 h w' 3 u' xs) (hv:D7 w u.v u') (hm2:t8 (A4 vn) w' w'') (ho2:B0 h w'' 112 vn (us.set i ⟨u'⟩)) :
  GX h w'' gb cs vn (us.set i ⟨u'⟩) (nx.set i xs) vp us' pv:=by
 have hui:u∈us:=ds9 hi;have hnew:∀b,L3 vn (us.set i ⟨u'⟩) b→L3 vn us b∨w.heap.size≤b:=by
  rintro b (hb|⟨x,hx1,hb⟩)
  ·exact .inl (.inl hb)
  ·rcases dz1 hx1 with h1|h1
   ·exact .inl (.inr ⟨x,h1,hb⟩)
   ·subst h1;rcases hv b hb with h2|h2
    ·exact .inl (.inr ⟨u,hui,h2⟩)
    ·exact .inr h2
 have k1:∀b,A4 u.v b→L3 vn us b:=fun b hb=>.inr ⟨u,hui,hb⟩;have k2:∀b,A4 vn b→L3 vn us b:=fun b hb=>.inl hb;refine⟨hx.free,?_,hx.rn.set hi hm ho hv hm2 ho2,?_,?_,hx.gp,?_⟩
 ·have h1:=hm.block gb hx.lt (fun hb=>hx.gn (k1 _ hb));have h2:=hm2.block gb (dw9 hx.lt hm.size) (fun hb=>hx.gn (k2 _ hb));exact h2.trans (h1.trans hx.cell)
 ·exact(hx.rp.mod hm fun b hb hb2=>hx.dis b (k1 b hb2) hb).mod hm2 fun b hb hb2=>hx.dis b (k2 b hb2) hb
 ·intro hb;rcases hnew gb hb with h1|h1
  ·exact hx.gn h1
  ·have:=hx.lt;omega
 ·intro b hb hb2;rcases hnew b hb with h1|h1
  ·exact hx.dis b h1 hb2
  ·have:=hx.rp.lt hb2;omega
theorem GX.read(hx:GX h w gb #[vn,vp] vn us nx vp us' pv)(hw:B5 h (i4 w)):GR (i4 w) (.pointer (some ⟨gb,0,none⟩)) nx pv:=by
 refine⟨gb,vn,vp,rfl,?_,?_,hx.rn.ro hw,hx.rp.ro hw⟩
 ·rw[←al4,dy8 w gb 0 _ _ (0,0) hx.cell];rfl
 ·rw[←al4,dy8 w gb 1 _ _ (0,0) hx.cell];rfl
end
theorem aI2{P:Program}{α:Type}[A3 α]{h:Hp}{w:World}{T T' t:TypeId}{v:Value}{us:List Z3}{xss:List (List α)}(hr:K9 h w T T' v us xss){i:Nat}{u:Z3}(hi:us[i]?=some u)(ht:H6 P t=false):
  (Instr.loadAt t (.pointer (some (H2 v i)))).run P w = .ok u.v w:=by
 obtain⟨es,⟨he,_⟩,hc⟩:=hr.outer.get hi;have:=hc 0 u.v (by rw[he];rfl);rw[K0]at this;have h1:(i*A3.sz Z3)=i:=dA7 i;rw[h1]at this;exact R8 ht this
theorem bw0{P:Program}{h:Hp}{w:World}{t:TypeId}{v u':Value}{us:List Z3}(ho:B0 h w 112 v us){i:Nat}(hi:i<us.length)(hu:isS u'=true){inf:TypeInfo}(hinf:P.info? t=some inf)(hs:inf.size=1):
  ∃w',(Instr.storeAt t (.pointer (some (H2 v i))) u').run P w = .ok () w'∧B0 h w' 112 v (us.set i ⟨u'⟩)∧t8 (A4 v) w w'∧w'.heap.size=w.heap.size:=
 D9 ho rfl hi (y:=(⟨u'⟩:Z3)) ⟨rfl,W9 hu⟩ (D8 hu) hinf hs
def GO(h:Hp)(w:World)(pg:Value)(nx pv:List (List Int))(M:Nat→Prop):Prop:=
 ∃gb vn us vp us',pg = .pointer (some ⟨gb,0,none⟩)∧GX h w gb #[vn,vp] vn us nx vp us' pv∧∀b,M b↔b=gb∨L3 vn us b∨L3 vp us' b
theorem GO.read{h:Hp}{w:World}{pg:Value}{nx pv:List (List Int)}{M:Nat→Prop}(hg:GO h w pg nx pv M)(hw:B5 h (i4 w)):GR (i4 w) pg nx pv:=by
 obtain⟨gb,vn,us,vp,us',rfl,hx,_⟩:=hg;exact hx.read hw
theorem GO.free{h:Hp}{w:World}{pg:Value}{nx pv:List (List Int)}{M:Nat→Prop}(hg:GO h w pg nx pv M):∀b,M b→h b=none:=by
 obtain⟨gb,vn,us,vp,us',rfl,hx,hM⟩:=hg;intro b hb;rcases(hM b).1 hb with rfl|hb|hb
 ·exact hx.free
 ·exact hx.rn.free hb
 ·exact hx.rp.free hb
theorem GO.mod{h:Hp}{w w':World}{pg:Value}{nx pv:List (List Int)}{M N:Nat→Prop}(hg:GO h w pg nx pv M)(hm:t8 N w w')(hN:∀b,M b→¬N b):GO h w' pg nx pv M:=by
 obtain⟨gb,vn,us,vp,us',rfl,hx,hM⟩:=hg;exact⟨gb,vn,us,vp,us',rfl,hx.mod hm fun b hb=>hN b ((hM b).2 hb),hM⟩
structure bf6 (l:List (List Int)):Prop where
 le:∀x∈l,x.Pairwise (· < ·)
 len:∀x∈l,x.length≤100000000
theorem bf6.le'{l:List (List Int)}(h:bf6 l){x:List Int}(hx:x∈l):x.Pairwise (· ≤ ·):=(h.le x hx).imp fun h=>Int.le_of_lt h
theorem cF8(h:Hp)(pg:Value)(nx pv:List (List Int))(M:Nat→Prop)(a b:Int)(w:World)(hg:GO h w pg nx pv M)(hw:B5 h (i4 w))(hl:pv.length=nx.length)(hr1:bf6 nx)(hr2:bf6 pv):
  p7 prog 236 #[pg,.int .i64 a,.int .i64 b] w fun u w'=>(u = .bool (ak5 nx a b)∧∃M',GO h w' pg (bO3 nx a b) (bO4 nx pv a b) M'∧t8 M w w'∧∀b,M' b→M b∨w.heap.size≤b):=by
 have hgr:=hg.read hw;obtain⟨gb,vn,us,vp,us',rfl,hx,hM⟩:=hg;refine p8 [.pointer (some ⟨gb,0,none⟩),.int .i64 a,.int .i64 b] func236 rfl ?_;simp only[J7,O2,simprocAttr];refine z7 (aP0 _ nx pv a w hgr) ?_;rintro u w' ⟨rfl,rfl⟩;have same:ak5 nx a b=false→∀w2,o7 w' w2→∃M',GO h w2 (.pointer (some ⟨gb,0,none⟩)) (bO3 nx a b) (bO4 nx pv a b) M'∧t8 M w' w2∧∀b,M' b→M b∨w'.heap.size≤b:=by
  intro hno w2 he;refine⟨M,?_,he.weaken fun _ _ h=>h.elim,fun b hb=>.inl hb⟩;unfold bO3 bO4;rw[hno];exact⟨gb,vn,us,vp,us',rfl,hx.mod he fun _ _ h=>h.elim,hM⟩
 by_cases ha:H1 nx.length a=true
 ·have hna:(!H1 nx.length a)=false:=by rw[ha];rfl
  simp only[J7,unV,simprocAttr,hna];refine z7 (aP0 _ nx pv b w' hgr) ?_;rintro u w ⟨rfl,rfl⟩;by_cases hb:H1 nx.length b=true
  ·have hnb:(!H1 nx.length b)=false:=by rw[hb];rfl
   have c0:w.cell? ⟨gb,0,none⟩=some vn:=by rw[dy8 w gb 0 _ _ (0,0) hx.cell];rfl
   have l0:=R8 (P:=prog) (t:=153) T6 c0;have hSn:=hx.rn.outer.isS;obtain⟨hx1,hx2⟩:=al9 ha;have hlu:us.length=nx.length:=hx.rn.len;have hin:=hx.rn.outer.inS (k:=a.toNat) (by omega);have d0:decide (0≤a)=true:=by simpa using(C3.1 ha).1
   obtain⟨ua,hua⟩:∃ua,us[a.toNat]?=some ua:=⟨us[a.toNat]'(by omega),dq7 (by omega)⟩;have hown:=hx.rn.row _ _ _ hua hx1;have la:=aI2 (P:=prog) (t:=112) hx.rn hua R0;have hmem:=ds9 hx1;simp only[J7,O2,unV,z6,simprocAttr,hnb,l0,hin,d0,la];refine z7 (bm1 b hown (dr7 (hr1.len _ hmem) (by omega)) (hr1.le' hmem)) ?_;rintro u w1 ⟨rfl,he1⟩;by_cases hc:(C1 nx a).contains b=true
   ·simp only[J7,simprocAttr,hc];refine o6 results236 ?_;simp only[p6,simprocAttr];have hno:ak5 nx a b=false:=by simp only[ak5,hc,Bool.not_true,Bool.and_false]
    exact⟨by rw[hno],same hno w1 he1⟩
   ·have hc':(C1 nx a).contains b=false:=by simpa using hc
    have hyes:ak5 nx a b=true:=by simp only[ak5,hc',ha,hb,Bool.not_false,Bool.and_true]
    have hw1:B5 h (i4 w1):=p9 hw (b7 he1);have hx':=hx.mod he1 fun _ _ h=>h.elim;simp only[J7,simprocAttr,hc'];refine C0 (fun w2=>t8 (A4 ua.v) w1.drew w2) 16 (A9 [0,1,2,3,4,5,6,7,8,9,10,11,12,13,14,15]) ?_;have hx2':=hx'.mod (o7.drew w1) fun _ _ h=>h.elim;have hru:∀b,A4 ua.v b→L3 vn us b:=fun b hb=>.inr ⟨ua,ds9 hua,hb⟩;have l0':∀w2,t8 (A4 ua.v) w1.drew w2→(Instr.loadAt 153 (.pointer (some ⟨gb,0,none⟩))).run prog w2 = .ok vn w2:=fun w2 hm2=>by
     refine R8 T6 ?_;rw[dy8 w2 gb 0 _ _ (0,0) ((hm2.block gb hx2'.lt (fun hb=>hx2'.gn (hru _ hb))).trans hx2'.cell)];rfl
    have la':∀w2,t8 (A4 ua.v) w1.drew w2→(Instr.loadAt 112 (.pointer (some (H2 vn a.toNat)))).run prog w2 = .ok ua.v w2:=fun w2 hm2=>by
     have ho:=hx2'.rn.outer.mod hm2 (fun b hb hb2=>hx2'.rn.off _ _ hua b hb2 hb);obtain⟨es,⟨he,_⟩,hcc⟩:=ho.get hua;have:=hcc 0 ua.v (by rw[he];rfl);rw[K0]at this;have h1:(a.toNat*A3.sz Z3)=a.toNat:=dA7 _;rw[h1]at this;exact R8 R0 this
    simp only[D2,A9,J7,O2,simprocAttr];refine⟨vn,l0',?_⟩;simp only[D2,J7,O2,simprocAttr];refine⟨vn,l0',?_⟩;simp only[D2,J7,O2,z6,simprocAttr,hin,d0];refine⟨ua.v,la',?_⟩;have hbs:=aj8 (P:=prog) (w:=w1.drew) (t:=112) bV9 az5 (by rw[aS8];omega) (by rw[aS8];omega) (x:=.int .i64 b) (by rw[aS8];rfl);simp only[D2,J7,simprocAttr,hbs,F1,Value.cells];refine⟨t8.alloc _ _,?_⟩;have hown2:=hx2'.rn.row _ _ _ hua hx1;refine z7 (bj3 b _ 1 w1.drew rfl hown2 List.countP_le_length (dr7 (hr1.len _ hmem) (by omega)) (p9 hw1 (b7 (o7.drew w1)))) ?_;rintro u1 w3 ⟨ho3,hm3,hv3⟩;refine⟨hm3,?_⟩;have hx3o:=hx2'.rn.outer.mod hm3 (fun b hb hb2=>hx2'.rn.off _ _ hua b hb2 hb);obtain⟨w4,s1,s2,s3,s4⟩:=bw0 (P:=prog) (t:=112) hx3o (i:=a.toNat) (by omega) ho3.isS (A0 T7).choose_spec.1 (by rw[←C5 (A0 T7).choose_spec.1];exact aF5);have hx4:=hx2'.set hua hm3 ho3 hv3 s3 s2;have hw4:t8 M w1.drew w4:=(hm3.weaken fun k _ hk=>(hM k).2 (.inr (.inl (hru k hk)))).trans (s3.weaken fun k _ hk=>(hM k).2 (.inr (.inl (.inl hk))));have hwh4:B5 h (i4 w4):=H9 (p9 hw1 (b7 (o7.drew w1))) hw4 fun k hk=>by
     rcases(hM k).1 hk with rfl|hk|hk
     ·exact hx.free
     ·exact hx.rn.free hk
     ·exact hx.rp.free hk
    have e1:w4.cell? ⟨gb,1,none⟩=some vp:=by rw[dy8 w4 gb 1 _ _ (0,0) hx4.cell];rfl
    have m0:=R8 (P:=prog) (t:=153) T6 e1;have hSp:=hx4.rp.outer.isS;have hb2:H1 pv.length b=true:=by rw[hl];exact hb
    obtain⟨hy1,hy2⟩:=al9 hb2;have hlu':us'.length=pv.length:=hx4.rp.len;have hinp:=hx4.rp.outer.inS (k:=b.toNat) (by omega);have d1:decide (0≤b)=true:=by simpa using(C3.1 hb).1
    obtain⟨ub,hub⟩:∃ub,us'[b.toNat]?=some ub:=⟨us'[b.toNat]'(by omega),dq7 (by omega)⟩;have hownp:=hx4.rp.row _ _ _ hub hy1;have lb:=aI2 (P:=prog) (t:=112) hx4.rp hub R0;have hmemp:=ds9 hy1;simp only[D2,J7,O2,z6,simprocAttr,hin,d0,s1,m0,hinp,d1,lb];refine z7 (bm1 a hownp (dr7 (hr2.len _ hmemp) (by omega)) (hr2.le' hmemp)) ?_;rintro u w5 ⟨rfl,he5⟩;have hw5:B5 h (i4 w5):=p9 hwh4 (b7 he5);have hx5:=hx4.mod he5 fun _ _ h=>h.elim;simp only[J7,simprocAttr];refine C0 (fun w2=>t8 (A4 ub.v) w5.drew w2) 16 (A9 [0,1,2,3,4,5,6,7,8,9,10,11,12,13,14,15]) ?_;have hx6:=hx5.mod (o7.drew w5) fun _ _ h=>h.elim;have hru':∀b,A4 ub.v b→L3 vp us' b:=fun b hb=>.inr ⟨ub,ds9 hub,hb⟩;have m0':∀w2,t8 (A4 ub.v) w5.drew w2→(Instr.loadAt 153 (.pointer (some ⟨gb,1,none⟩))).run prog w2 = .ok vp w2:=fun w2 hm2=>by
     refine R8 T6 ?_;rw[dy8 w2 gb 1 _ _ (0,0) ((hm2.block gb hx6.lt (fun hb=>hx6.gp (hru' _ hb))).trans hx6.cell)];rfl
    have lb':∀w2,t8 (A4 ub.v) w5.drew w2→(Instr.loadAt 112 (.pointer (some (H2 vp b.toNat)))).run prog w2 = .ok ub.v w2:=fun w2 hm2=>by
     have ho:=hx6.rp.outer.mod hm2 (fun b hb hb2=>hx6.rp.off _ _ hub b hb2 hb);obtain⟨es,⟨he,_⟩,hcc⟩:=ho.get hub;have:=hcc 0 ub.v (by rw[he];rfl);rw[K0]at this;have h1:(b.toNat*A3.sz Z3)=b.toNat:=dA7 _;rw[h1]at this;exact R8 R0 this
    simp only[D2,A9,J7,O2,simprocAttr];refine⟨vp,m0',?_⟩;simp only[D2,J7,O2,simprocAttr];refine⟨vp,m0',?_⟩;simp only[D2,J7,O2,z6,simprocAttr,hinp,d1];refine⟨ub.v,lb',?_⟩;have hbs2:=aj8 (P:=prog) (w:=w5.drew) (t:=112) bV9 az5 (by rw[aS8];omega) (by rw[aS8];omega) (x:=.int .i64 a) (by rw[aS8];rfl);simp only[D2,J7,simprocAttr,hbs2,F1,Value.cells];refine⟨t8.alloc _ _,?_⟩;have hownp2:=hx6.rp.row _ _ _ hub hy1;refine z7 (bj3 a _ 1 w5.drew rfl hownp2 List.countP_le_length (dr7 (hr2.len _ hmemp) (by omega)) (p9 hw5 (b7 (o7.drew w5)))) ?_;rintro u2 w7 ⟨ho7,hm7,hv7⟩;refine⟨hm7,?_⟩;have hx7o:=hx6.rp.outer.mod hm7 (fun b hb hb2=>hx6.rp.off _ _ hub b hb2 hb);obtain⟨w8,t1,t2,t3,t4⟩:=bw0 (P:=prog) (t:=112) hx7o (i:=b.toNat) (by omega) ho7.isS (A0 T7).choose_spec.1 (by rw[←C5 (A0 T7).choose_spec.1];exact aF5);have hx8:=(hx6.swap.set hub hm7 ho7 hv7 t3 t2).swap;simp only[D2,J7,O2,z6,simprocAttr,hinp,d1,t1];refine o6 results236 ?_;simp only[p6,simprocAttr];refine⟨by rw[hyes],fun k=>k=gb∨L3 vn (us.set a.toNat ⟨u1⟩) k∨L3 vp (us'.set b.toNat ⟨u2⟩) k,⟨gb,vn,us.set a.toNat ⟨u1⟩,vp,us'.set b.toNat ⟨u2⟩,rfl,?_,fun _=>dy2⟩,?_,?_⟩
    ·unfold bO3 bO4;rw[hyes];exact hx8
    ·have k1:t8 M w w1.drew:=(he1.trans (o7.drew w1)).weaken fun _ _ h=>h.elim;have k2:t8 M w4 w5.drew:=(he5.trans (o7.drew w5)).weaken fun _ _ h=>h.elim;have k3:t8 M w5.drew w8:=(hm7.weaken fun k _ hk=>(hM k).2 (.inr (.inr (hru' k hk)))).trans (t3.weaken fun k _ hk=>(hM k).2 (.inr (.inr (.inl hk))));exact(k1.trans hw4).trans (k2.trans k3)
    ·have z1:w.heap.size≤w1.drew.heap.size:=(he1.trans (o7.drew w1)).size;have z2:w1.drew.heap.size≤w5.drew.heap.size:=dr7 hw4.size (he5.trans (o7.drew w5)).size;have q:∀(us:List Z3) (i:Nat) (u:Value) (v:Z3) (W:World),us[i]?=some v→D7 W v.v u→w.heap.size≤W.heap.size→∀(vn:Value) (k:Nat),L3 vn (us.set i ⟨u⟩) k→L3 vn us k∨w.heap.size≤k:=by
      intro us i u v W hi hv hW vn k hk;rcases hk with hk|⟨x,hx1,hk⟩
      ·exact .inl (.inl hk)
      ·rcases dz1 hx1 with h1|h1
       ·exact .inl (.inr ⟨x,h1,hk⟩)
       ·subst h1;rcases hv k hk with h2|h2
        ·exact .inl (.inr ⟨v,ds9 hi,h2⟩)
        ·exact .inr (by omega)
     rintro k (rfl|hk|hk)
     ·exact .inl ((hM _).2 (.inl rfl))
     ·rcases q _ _ _ _ _ hua hv3 z1 _ _ hk with h1|h1
      ·exact .inl ((hM _).2 (.inr (.inl h1)))
      ·exact .inr h1
     ·rcases q _ _ _ _ _ hub hv7 (by omega) _ _ hk with h1|h1
      ·exact .inl ((hM _).2 (.inr (.inr h1)))
      ·exact .inr h1
  ·have hb':H1 nx.length b=false:=by simpa using hb
   have hnb:(!H1 nx.length b)=true:=by rw[hb'];rfl
   simp only[J7,unV,simprocAttr,hnb];refine o6 results236 ?_;simp only[p6,simprocAttr];have hno:ak5 nx a b=false:=by simp only[ak5,hb',Bool.and_false,Bool.false_and]
   exact⟨by rw[hno],same hno w (t8.refl _)⟩
 ·have ha':H1 nx.length a=false:=by simpa using ha
  have hna:(!H1 nx.length a)=true:=by rw[ha'];rfl
  simp only[J7,unV,simprocAttr,hna];refine o6 results236 ?_;simp only[p6,simprocAttr];have hno:ak5 nx a b=false:=by simp only[ak5,ha',Bool.false_and]
  exact⟨by rw[hno],same hno _ (t8.refl _)⟩
theorem D6.rising{n:Nat}{l:List (List Int)}(h:D6 n l)(hn:n≤100000000):bf6 l:=
 ⟨h.le,fun x hx=>dr7 (h.row_len hx) hn⟩
def E1:Z3:=⟨.slice none 0 0⟩
theorem bK6{h:Hp}{w:World}{T T':TypeId}{v:Value}{n:Nat}(ho:B0 h w T v (List.replicate n E1)):K9 h w T T' v (List.replicate n E1) (List.replicate n ([]:List Int)):=by
 have hn:∀(i:Nat) (u:Z3),(List.replicate n E1)[i]?=some u→u=E1:=fun i u hu=>dx2 (ds9 hu);refine⟨ho,by simp,fun i u xs hu hx=>?_,fun i j u u' _ hu _ b hb=>?_,fun i u hu b hb=>?_⟩
 ·rw[hn i u hu,dx2 (ds9 hx)];exact B0.nil _ _ _
 ·rw[hn i u hu]at hb;exact absurd hb C6
 ·rw[hn i u hu]at hb;exact absurd hb C6
theorem aF1{v:Value}{n b:Nat}:L3 v (List.replicate n E1) b→A4 v b:=by
 rintro(hb|⟨u,hu,hb⟩)
 ·exact hb
 ·rw[dx2 hu]at hb;exact absurd hb C6
theorem GO.fresh{h:Hp}{w:World}{va vb:Value}{n:Nat}(hw:B5 h (i4 w))(h1:B0 h w 112 va (List.replicate n E1))(h2:B0 h w 112 vb (List.replicate n E1))(hd:∀b,A4 va b→¬A4 vb b):
  GO h (w.alloc (.cells #[va,vb] 234)) (.pointer (some ⟨w.heap.size,0,none⟩)) (List.replicate n []) (List.replicate n []) (fun b=>b=w.heap.size∨L3 va (List.replicate n E1) b∨L3 vb (List.replicate n E1) b):=by
 have he:=o7.alloc w (.cells #[va,vb] 234);refine⟨w.heap.size,va,List.replicate n E1,vb,List.replicate n E1,rfl,⟨ax2 hw (ds5 _),dv4 w _,bK6 (h1.ext he),bK6 (h2.ext he),fun hb=>?_,fun hb=>?_,fun b hb hb2=>hd b (aF1 hb) (aF1 hb2)⟩,fun _=>dy2⟩
 ·have:=h1.lt (aF1 hb);omega
 ·have:=h2.lt (aF1 hb);omega
theorem cr2{va vb:Value}(h1:isS va=true)(h2:isS vb=true):B8 prog 234 [(0,va),(1,vb)]=some (.agg #[va,vb]):=by
 simp[B8,cU6,J5,Instr.fill,D8 h1,D8 h2]
theorem bR4(edges:List (Int×Int))(k:Nat)(g:List (List Int)×List (List Int))(hk:k<edges.length):(edges.take (k+1)).foldl ak9 g=ak9 ((edges.take k).foldl ak9 g) edges[k]:=bi2 ak9 g edges k hk
theorem dm0(n:Int)(v:Value)(w:World)(hn:n<0∨5000<n):p7 prog 185 #[.int .i64 n,v] w fun u w'=>(u = .pointer none∧w'=w):=by
 refine p8 [.int .i64 n,v] func185 rfl ?_;by_cases h0:n<0
 ·have h0':decide (n<0)=true:=by simpa using h0
  simp only[J7,O2,B6,E5,simprocAttr,h0'];refine o6 results185 ?_;simp only[p6,simprocAttr];exact⟨by trivial,by trivial⟩
 ·have h0':decide (n<0)=false:=by simpa using h0
  have h1':decide (n>5000)=true:=by simp;omega
  simp only[J7,O2,B6,E5,simprocAttr,h0',h1'];refine o6 results185 ?_;simp only[p6,simprocAttr];exact⟨by trivial,by trivial⟩
theorem cc7(n:Nat)(v:Value)(edges:List (Int×Int))(w:World)(hn:n≤5000)(hv:R (i4 w) v edges)(hl:edges.length≤1000000000000):
  p7 prog 185 #[.int .i64 n,v] w fun u w'=>((∃M,GO (i4 w) w' u (ai9 n edges).1 (ai9 n edges).2 M)∧o7 w w'):=by
 refine p8 [.int .i64 n,v] func185 rfl ?_;have h0':decide ((n:Int)<0)=false:=by simp
 have h1':decide ((n:Int)>5000)=false:=by simp;omega
 have hS:=hv.isS;have hvn:=hv.vlen;simp only[J7,O2,B6,E5,simprocAttr,h0',h1'];refine ct6 [1] (fun w2=>o7 w w2) 4 (.op 0 (.op 2 (.fork [1,3] (fun i=>if i=1 then A9 [3]else A9 [1]))))
  (fun f' w'=>B0 (i4 w) w' 112 (f' 15) (List.replicate n E1)∧B0 (i4 w) w' 112 (f' 17) (List.replicate n E1)∧(∀b,A4 (f' 15) b→¬A4 (f' 17) b)∧o7 w w') (by decide +kernel) (by decide +kernel) (o7.drew w) ?_ ?_
 ·simp only[D2,A9,J7,simprocAttr];have hz:A3.enc (i4 w) (Value.slice none 0 0).cells.toList E1:=⟨rfl,rfl⟩;have two:∀w1,o7 w w1→∃va w2 vb w3,(Instr.makeSlice 153 (.int .i64 n) (.int .i64 n)).run prog w1 = .ok va w2∧(Instr.makeSlice 153 (.int .i64 n) (.int .i64 n)).run prog w2 = .ok vb w3 ∧
    B0 (i4 w) w3 112 va (List.replicate n E1)∧B0 (i4 w) w3 112 vb (List.replicate n E1)∧(∀b,A4 va b→¬A4 vb b)∧o7 w w2∧o7 w w3:=by
   intro w1 he;obtain⟨va,w2,h1,h2,h3,h4,_⟩:=mk (P:=prog) (w:=w1) (h:=i4 w) bU6 T7 (α:=Z3) (y:=E1) hz (n:=n) (by omega) (by omega) (b7 he);obtain⟨vb,w3,k1,k2,k3,k4,_⟩:=mk (P:=prog) (w:=w2) (h:=i4 w) bU6 T7 (α:=Z3) (y:=E1) hz (n:=n) (by omega) (by omega) (b7 (he.trans h3));exact⟨va,w2,vb,w3,h1,k1,h2.ext k3,k2,fun b hb hb2=>by have:=k4 b hb2;have:=h2.lt hb;omega,he.trans h3,(he.trans h3).trans k3⟩
  obtain⟨va,w2,vb,w3,m1,m2,o1,o2,dj,e2,e3⟩:=two w.drew (o7.drew w);refine av7 (by decide +kernel) (fun i hi=>?_);simp only[dt1,dw3,dC5]at hi;rcases hi with rfl|rfl
  ·simp only[D2,J7,simprocAttr,m1,m2,F1];exact⟨e2,e3,o1,o2,dj,e3⟩
  ·simp only[D2,J7,simprocAttr,m1,m2,F1];exact⟨e2,e3,o2,o1,fun b h1 h2=>dj b h2 h1,e3⟩
 ·rintro f w1 hk ⟨o1,o2,dj,he⟩;simp only[dq9,p6,simprocAttr]at hk;obtain⟨e1,_⟩:=hk;have hS1:=o1.isS;have hS2:=o2.isS;have hbd:=cr2 hS1 hS2;have hbox:(Instr.box 234 (.agg #[f 15,f 17])).run prog w1 = .ok (.pointer (some ⟨w1.heap.size,0,none⟩)) (w1.alloc (.cells #[f 15,f 17] 234)):=rfl;have hgo:=GO.fresh (b7 he) o1 o2 dj;have he2:=he.trans (o7.alloc w1 (.cells #[f 15,f 17] 234));generalize hpg:Value.pointer (some ⟨w1.heap.size,0,none⟩)=pg at hbox hgo;generalize w1.alloc (.cells #[f 15,f 17] 234)=w2 at hbox hgo he2;simp only[D2,J7,O2,P9,simprocAttr,hbd,hbox,e1,hS,hvn];refine n9 [5,20,21] (σ:=Nat) (fun k f w'=>f 22 = .int .i64 k∧k≤edges.length∧(∃M,GO (i4 w) w' pg ((edges.take k).foldl ak9 (List.replicate n [],List.replicate n [])).1 ((edges.take k).foldl ak9 (List.replicate n [],List.replicate n [])).2 M)∧o7 w w') (fun k=>edges.length-k) 0 ?_ ?_
  ·simp only[p6,simprocAttr];exact⟨by trivial,dr8 _,⟨_,hgo⟩,he2⟩
  ·rintro k f3 w3 hk ⟨h22,hkl,⟨M,hg⟩,hx⟩;simp only[dq9,p6,simprocAttr]at hk;obtain⟨g5,g20,g21,_⟩:=hk;have hgood:=((ba7 n).grows (edges.take k)).1;have hstep:=bR4 edges k (List.replicate n [],List.replicate n []);generalize hG:(edges.take k).foldl ak9 (List.replicate n [],List.replicate n [])=g at hg hgood hstep;simp only[J7,B6,E5,simprocAttr,h22,g21];refine m8 (fun hc=>?_) (fun hc=>?_)
   ·have hlt:k<edges.length:=by simpa using hc
    have hin:=hv.inS hlt;have hld:=ldP hv (b7 hx) (dq7 hlt);have hst:=hstep hlt;generalize edges[k]=e at hld hst;obtain⟨x,y⟩:=e;simp only at hld hst;obtain⟨p1,p2⟩:=cO8 w3 x y;have q0:=cO6 w3 x y;have q1:=cO7 w3 x y;have hxe:=o7.alloc w3 (.cells #[.int .i64 x,.int .i64 y] 128);have hx1:=hx.trans hxe;have hg1:=hg.mod hxe fun _ _ h=>h.elim;generalize w3.alloc (.cells #[.int .i64 x,.int .i64 y] 128)=w4 at *;simp only[J7,O2,z6,simprocAttr,h22,g20,g5,hin,hld,p1,p2,q0,q1];refine z7 (cF8 (i4 w) pg g.1 g.2 M x y w4 hg1 (b7 hx1) (by rw[hgood.pv.len,hgood.nx.len]) (hgood.nx.rising (by omega)) (hgood.pv.rising (by omega))) ?_;rintro u w5 ⟨rfl,M',hg2,hm,hM'⟩;simp only[J7,B6,E5,simprocAttr,h22];refine⟨k+1,by omega,by rw[A8 k (by omega)],by omega,⟨M',?_⟩,?_⟩
    ·rw[hst];exact hg2
    ·refine t8.ext_of hx1 hm fun b hb=>?_;rcases dv3 b w.heap.size with hlt|hge
     ·have:=hg1.free b hb;simp[i4,hlt]at this
     ·exact hge
   ·have hge:k=edges.length:=by simp at hc;omega
    subst hge;rw[ds2]at hG;simp only[J7,simprocAttr,g5];refine o6 results185 ?_;simp only[p6,simprocAttr];have:ai9 n edges=g:=hG;rw[this];exact⟨⟨M,hg⟩,hx⟩
def dD3:=@List.getElem_cons_zero
def B4(l:List Bool)(b:Int):Bool:=H1 l.length b&&l.getD b.toNat false
theorem M2{l:List Bool}{b:Int}(h:H1 l.length b=true):b.toNat<l.length∧B4 l b=l.getD b.toNat false:=by
 have:=C3.1 h;exact⟨by omega,by simp[B4,h]⟩
theorem ao4{l:List Bool}{b:Int}(h:B4 l b=true):H1 l.length b=true:=by
 simp[B4]at h;exact h.1
theorem M6{l:List Bool}{a b:Int}{v:Bool}(ha:H1 l.length a=true):B4 (l.set a.toNat v) b=if b=a then v else B4 l b:=by
 have ha':=C3.1 ha;unfold B4;simp only[dy4];by_cases h:b=a
 ·subst h;rw[if_pos rfl,ha];have:b.toNat<l.length:=by omega
  simp[List.getD,this]
 ·rw[if_neg h];by_cases hb:H1 l.length b=true
  ·have hb':=C3.1 hb;have:a.toNat≠b.toNat:=by omega
   simp[List.getD,this]
  ·simp[hb]
theorem au0{n:Nat}{b:Int}:B4 (List.replicate n false) b=false:=by
 simp only[B4,dv9,Bool.and_eq_false_iff];right;simp[List.getD,dB1];split<;>rfl
inductive Via (nx:List (List Int)) (seen:List Bool) (todo:List Int):Int→Prop
 | base {a:Int}:a∈todo→Via nx seen todo a
 | step {a b:Int}:Via nx seen todo a→b∈C1 nx a→B4 seen b=false→Via nx seen todo b
structure cp9 (nx:List (List Int)) (seen:List Bool) (todo:List Int) (seen':List Bool) (todo':List Int):Prop where
 len:seen'.length=seen.length
 via:∀b,b∈todo'↔Via nx seen todo b
 mark:∀b,B4 seen' b=true↔B4 seen b=true∨b∈todo'
 size:todo'.length≤todo.length+seen.length
structure WI (nx:List (List Int)) (seen:List Bool) (todo:List Int) (td:List Int) (sn:List Bool) (i:Nat):Prop where
 len:sn.length=seen.length
 via:∀b∈td,Via nx seen todo b
 old:∀b∈todo,b∈td
 mark:∀b,B4 sn b=true↔B4 seen b=true∨b∈td
 count:td.length+sn.count false=todo.length+seen.count false
 done:∀k a,k<i→td[k]?=some a→∀b∈C1 nx a,B4 sn b=true
 le:i≤td.length
section
variable {nx:List (List Int)} {seen:List Bool} {todo td:List Int} {sn:List Bool} {i:Nat}
theorem WI.start(h:∀a∈todo,B4 seen a=true):WI nx seen todo todo seen 0:=
 ⟨rfl,fun _ hb=>.base hb,fun _ hb=>hb,fun b=>⟨.inl,fun hh=>hh.elim id (h b)⟩,rfl,fun k a hk=>by omega,dr8 _⟩
theorem ad2{l:List Bool}{k:Nat}(hk:k<l.length)(h:l[k]=false):(l.set k true).count false+1=l.count false:=by
 induction l generalizing k with
 | nil=>simp at hk
 | cons x l ih=>
  cases k with
  | zero=>
   simp only[dD3]at h;subst h;simp
  | succ k=>
   simp only[dB5]at h;have:=ih (by simpa using hk) h;simp only[List.set_cons_succ,List.count_cons];omega
theorem WI.push(h:WI nx seen todo td sn i){b:Int}(hb:H1 seen.length b=true)(hn:B4 sn b=false)(hv:Via nx seen todo b):WI nx seen todo (td++[b]) (sn.set b.toNat true) i:=by
 have hb2:H1 sn.length b=true:=by rw[h.len];exact hb
 have hset:∀c,B4 (sn.set b.toNat true) c=if c=b then true else B4 sn c:=fun c=>M6 hb2;have hlt:=(M2 hb2).1;have hget:sn[b.toNat]=false:=by
  have:=(M2 hb2).2;rw[hn]at this;simp[List.getD,hlt]at this;exact this
 refine⟨by simp[h.len],fun c hc=>?_,fun c hc=>dw4 _ (h.old c hc),fun c=>?_,?_,fun k a hk ha c hc=>?_,?_⟩
 ·rcases ds4.1 hc with hc|hc
  ·exact h.via c hc
  ·simp at hc;subst hc;exact hv
 ·rw[hset];by_cases hcb:c=b
  ·subst hcb;simp
  ·simp[hcb,h.mark c]
 ·have:=h.count;have:=ad2 hlt hget;simp only[dr1,du0];omega
 ·rw[hset];split
  ·rfl
  ·have B5:=h.le;rw[dw2 (by omega)]at ha;exact h.done k a hk ha c hc
 ·have:=h.le;simp;omega
theorem aI1{b c:Int}(hb:H1 sn.length b=true)(hc:B4 sn c=true):B4 (sn.set b.toNat true) c=true:=by
 rw[M6 hb];split
 ·rfl
 ·exact hc
theorem WI.next(h:WI nx seen todo td sn i){a:Int}(ha:td[i]?=some a)(hr:∀b∈C1 nx a,B4 sn b=true):WI nx seen todo td sn (i+1):=by
 refine⟨h.len,h.via,h.old,h.mark,h.count,fun k c hk hc b hb=>?_,(dr4.1 ha).1⟩;by_cases hki:k=i
 ·subst hki;rw[ha]at hc;obtain rfl:=ds8 hc;exact hr b hb
 ·exact h.done k c (by omega) hc b hb
theorem WI.fin(h:WI nx seen todo td sn td.length):cp9 nx seen todo sn td:=by
 refine⟨h.len,fun b=>⟨h.via b,fun hv=>?_⟩,h.mark,?_⟩
 ·induction hv with
  | base ha=>exact h.old _ ha
  | step _ hb hn ih=>
   obtain⟨k,hk⟩:=dB7.1 ih;have:=h.done k _ (dr4.1 hk).1 hk _ hb;rcases(h.mark _).1 this with h1|h1
   ·rw[hn]at h1;cases h1
   ·exact h1
 ·have:=h.count;have:=List.count_le_length (a:=false) (l:=seen);omega
end
theorem bN6(h:Hp)(vn vs vt:Value)(nx:List (List Int))(seen:List Bool)(todo:List Int)(w:World)(hw:B5 h (i4 w))(hn:R h vn nx)(hg:D6 nx.length nx)(hs:B0 h w 4 vs seen)(ht:B0 h w 3 vt todo)
  (hd:∀b,A4 vs b→¬A4 vt b) (hlen:seen.length=nx.length) (hto:∀a∈todo,B4 seen a=true) (hb1:nx.length≤5000) (hb2:todo.length≤1000000) :
  p7 prog 187 #[vn,vs,vt] w fun u w'=>∃todo' seen',B0 h w' 3 u todo'∧B0 h w' 4 vs seen'∧(∀b,A4 vs b→¬A4 u b)∧t8 (fun b=>A4 vs b∨A4 vt b) w w'∧D7 w vt u∧cp9 nx seen todo seen' todo':=by
 refine p8 [vn,vs,vt] func187 rfl ?_;simp only[J7,O2,simprocAttr];have hSn:=hn.isS;refine n9 [0,1] (σ:=List Int×List Bool×Nat) (fun s f w'=>f 7 = .int .i64 s.2.2∧B0 h w' 3 (f 2) s.1∧B0 h w' 4 vs s.2.1∧(∀b,A4 vs b→¬A4 (f 2) b)∧t8 (fun b=>A4 vs b∨A4 vt b) w w'∧D7 w vt (f 2)∧WI nx seen todo s.1 s.2.1 s.2.2)
  (fun s=>todo.length+seen.count false-s.2.2) (todo,seen,0) ?_ ?_
 ·simp only[p6,simprocAttr];exact⟨by trivial,ht,hs,hd,t8.refl _,fun b hb=>.inl hb,WI.start hto⟩
 ·rintro⟨td,sn,i⟩ f w1 hk ⟨h7,hot,hos,hds,hm,hmv,hi⟩;simp only at h7 hot hos hi;simp only[dq9,p6,simprocAttr]at hk;obtain⟨e0,e1,_⟩:=hk;have hStd:=hot.isS;have hltd:=hot.vlen;have hcnt:=hi.count;have hsc:=List.count_le_length (a:=false) (l:=seen);have hmh:∀b,(A4 vs b∨A4 vt b)→h b=none:=fun b hb=>hb.elim hs.free ht.free;simp only[J7,O2,B6,E5,P9,simprocAttr,h7,hStd,hltd];refine m8 (fun hc=>?_) (fun hc=>?_)
  ·have hlt:i<td.length:=by simpa using hc
   have hint:=hot.inS hlt;have hldt:=D4 (P:=prog) (t:=3) hot (dq7 hlt) F3;generalize hta:td[i]=a at hldt;have hta':td[i]?=some a:=by rw[dq7 hlt,hta]
   have ham:a∈td:=ds9 hta';have hak:H1 nx.length a=true:=by
    have:=ao4 ((hi.mark a).2 (.inr ham));rw[hi.len,hlen]at this;exact this
   obtain⟨hx1,hx2⟩:=al9 hak;have hina:=hn.inS hx2;have d0:decide (0≤a)=true:=by simpa using(C3.1 hak).1
   obtain⟨x,hx3,hx4⟩:=hn.row hx1;have hww:B5 h (i4 w1):=H9 hw hm hmh;have hldx:=G1 (P:=prog) (t:=112) hx4 hww R0;have hxS:=hx3.isS;have hxn:=hx3.vlen;have hxm:=aq4 hak;have hxl:=hg.row_len hxm;simp only[J7,O2,z6,P9,I8.val,simprocAttr,h7,e0,hint,hldt,hina,d0,hldx,hxS,hxn];refine n9 [0,1,7,22,23] (σ:=List Int×List Bool×Nat) (fun s f w'=>f 24 = .int .i64 s.2.2∧s.2.2≤(C1 nx a).length∧B0 h w' 3 (f 2) s.1∧B0 h w' 4 vs s.2.1∧(∀b,A4 vs b→¬A4 (f 2) b)∧t8 (fun b=>A4 vs b∨A4 vt b) w w'∧D7 w vt (f 2)∧WI nx seen todo s.1 s.2.1 i∧s.1[i]?=some a∧∀b∈(C1 nx a).take s.2.2,B4 s.2.1 b=true)
    (fun s=>(C1 nx a).length-s.2.2) (td,sn,0) ?_ ?_
   ·simp only[p6,simprocAttr];exact⟨by trivial,dr8 _,hot,hos,hds,hm,hmv,hi,hta',fun b hb=>by simp at hb⟩
   ·rintro⟨td2,sn2,j⟩ f2 w2 hk2 ⟨h24,hjl,hot2,hos2,hds2,hm2,hmv2,hi2,hta2,hrow⟩;simp only at h24 hjl hot2 hos2 hi2 hta2 hrow;simp only[dq9,p6,↓reduceIte,Nat.reduceEqDiff]at hk2;obtain⟨g0,g1,g7,g22,g23,_⟩:=hk2;rw[e0]at g0;rw[e1]at g1;rw[h7]at g7;simp only[J7,B6,E5,simprocAttr,h24,g23];refine m8 (fun hc2=>?_) (fun hc2=>?_)
    ·have hj:j<(C1 nx a).length:=by simpa using hc2
     have hinx:=hx3.inS hj;have hww2:B5 h (i4 w2):=H9 hw hm2 hmh;have hldb:=M8 (P:=prog) (t:=3) hx3 hww2 (dq7 hj) F3;have hbm:(C1 nx a)[j]∈C1 nx a:=dr5 hj;have htk:=dr6 hj;generalize hbb:(C1 nx a)[j]=b at hldb hbm htk;have hbk:H1 nx.length b=true:=hg.ok _ hxm b hbm;have hbk2:H1 sn2.length b=true:=by rw[hi2.len,hlen];exact hbk
     obtain⟨hblt,hbg⟩:=M2 hbk2;have hins:=hos2.inS hblt;have d1:decide (0≤b)=true:=by simpa using(C3.1 hbk).1
     have hlds:=D4 (P:=prog) (t:=4) hos2 (k:=b.toNat) (x:=B4 sn2 b) (by rw[hbg];simp[List.getD,hblt]) ak1;have hSs:=hos2.isS;by_cases hbs:B4 sn2 b=true
     ·have hbs':(!B4 sn2 b)=false:=by rw[hbs];rfl
      simp only[J7,O2,B6,E5,unV,z6,I8.val,simprocAttr,h24,g22,g1,hinx,hldb,hins,d1,hlds,hbs'];refine⟨(td2,sn2,j+1),by simp only[];omega,by simp only[];rw[A8 j (by omega)],by simp only[];omega,hot2,hos2,hds2,hm2,hmv2,hi2,hta2,?_⟩;simp only[];rw[htk];intro c hc;rcases ds4.1 hc with hc|hc
      ·exact hrow c hc
      ·simp at hc;subst hc;exact hbs
     ·have hbf:B4 sn2 b=false:=by simpa using hbs
      have hbs':(!B4 sn2 b)=true:=by rw[hbf];rfl
      have hcnt2:=hi2.count;obtain⟨w3,s1,s2,s3,s4⟩:=D9 (P:=prog) (t:=4) hos2 rfl (k:=b.toNat) hblt (x:=.bool true) (y:=true) rfl rfl (A0 U1).choose_spec.1 (by rw[←C5 (A0 U1).choose_spec.1];exact aF6);have hot3:=hot2.mod s3 fun b hb hb2=>hds2 b hb2 hb;have hm3:t8 (fun b=>A4 vs b∨A4 vt b) w w3:=hm2.trans (s3.weaken fun b _ hb=>.inl hb);have hww3:B5 h (i4 w3):=H9 hw hm3 hmh;obtain⟨p1,u',w4,p2,p3,p4,p5⟩:=push (e:=112) ae1 rfl hot3 (x:=.int .i64 b) (y:=b) rfl (by omega) (by omega) hww3;simp only[Value.cells]at p1 p2;simp only[J7,O2,B6,E5,unV,z6,I8.val,simprocAttr,h24,g22,g1,hinx,hldb,hins,d1,hlds,hbs',s1,p1,p2];have hsz:w.heap.size≤w3.heap.size:=hm3.size;have hfresh:∀b,A4 (f2 2) b→A4 vt b∨w.heap.size≤b:=hmv2;refine⟨(td2++[b],sn2.set b.toNat true,j+1),by simp only[];omega,by simp only[];rw[A8 j (by omega)],by simp only[];omega,p3,s2.mod p4 (fun b hb hb2=>hds2 b hb hb2),?_,?_,?_,?_,?_,?_⟩
      ·intro c hc1 hc2;rcases p5 c hc2 with h1|h1
       ·exact hds2 c hc1 h1
       ·have:=s2.lt hc1;omega
      ·refine⟨p4.os.trans hm3.os,p4.tape.trans hm3.tape,p4.output.trans hm3.output,dr7 hm3.size p4.size,fun k hk hn=>?_⟩;refine(p4.block k (dw9 hk hm3.size) fun hb=>?_).trans (hm3.block k hk hn);rcases hmv2 k hb with h1|h1
       ·exact hn (.inr h1)
       ·omega
      ·intro c hc;rcases p5 c hc with h1|h1
       ·exact hmv2 c h1
       ·exact .inr (by omega)
      ·refine hi2.push (by rw[hlen];exact hbk) hbf (.step (hi2.via a (ds9 hta2)) hbm ?_);rw[dB2];intro hh;rw[(hi2.mark b).2 (.inl hh)]at hbf;cases hbf
      ·simp only[];rw[dw2 (dr4.1 hta2).1];exact hta2
      ·simp only[];rw[htk];intro c hc;rcases ds4.1 hc with hc|hc
       ·exact aI1 hbk2 (hrow c hc)
       ·simp at hc;subst hc;rw[M6 hbk2,if_pos rfl]
    ·have hge:j=(C1 nx a).length:=by simp at hc2;omega
     subst hge;rw[ds2]at hrow;simp only[J7,B6,E5,simprocAttr,g7];have hcnt2:=hi2.count;refine⟨(td2,sn2,i+1),by simp only[];omega,by simp only[];rw[A8 i (by omega)],hot2,hos2,hds2,hm2,hmv2,hi2.next hta2 hrow⟩
  ·have hge:i=td.length:=by have:=hi.le;simp at hc;omega
   subst hge;simp only[J7,simprocAttr];refine o6 results187 ?_;simp only[p6,simprocAttr];exact⟨td,sn,hot,hos,hds,hm,hmv,hi.fin⟩
def dv0:=@List.mem_range
inductive Rch (nx:List (List Int)) (from_:List Int):Int→Prop
 | base {a:Int}:a∈from_→H1 nx.length a=true→Rch nx from_ a
 | step {a b:Int}:Rch nx from_ a→b∈C1 nx a→Rch nx from_ b
theorem Rch.ok{nx:List (List Int)}{l:List Int}(hg:D6 nx.length nx){b:Int}(h:Rch nx l b):H1 nx.length b=true:=by
 cases h with
 | base _ h=>exact h
 | step _ hb=>exact(hg.row _).2 _ hb
theorem cM0{nx:List (List Int)}{sn:List Bool}{td l:List Int}(hm:∀b,B4 sn b=true↔b∈td)(ht:∀b,b∈td↔b∈l∧H1 nx.length b=true)(b:Int):Via nx sn td b↔Rch nx l b:=by
 constructor
 ·intro h
  induction h with
  | base ha=>exact .base ((ht _).1 ha).1 ((ht _).1 ha).2
  | step _ hb _ ih=>exact .step ih hb
 ·intro h
  induction h with
  | base h1 h2=>exact .base ((ht _).2 ⟨h1,h2⟩)
  | @step a b _ hb ih=>
   cases hs:B4 sn b with
   | true=>exact .base ((hm b).1 hs)
   | false=>exact .step ih hb hs
theorem bI7{l:List Bool}{b:Int}:b∈aa1 l l.length↔B4 l b=true:=by
 unfold aa1;rw[dt7];constructor
 ·rintro⟨i,hi,rfl⟩;rw[dv2,dv0]at hi;have hk:H1 l.length (i:Int)=true:=C3.2 ⟨by omega,by omega⟩;rw[(M2 hk).2];simpa[List.getD]using hi.2
 ·intro h;have hk:=ao4 h;obtain⟨h1,h2⟩:=M2 hk;have h3:=C3.1 hk;refine⟨b.toNat,?_,by omega⟩;rw[dv2,dv0];rw[h2]at h;exact⟨h1,by simpa[List.getD]using h⟩
theorem bk1(l:List Bool)(k:Nat):(aa1 l k).Pairwise (· < ·):=by
 unfold aa1;rw[List.pairwise_map];refine List.Pairwise.filter _ ?_;exact(List.pairwise_lt_range (n:=k)).imp fun h=>by omega
structure cM9 (l:List Int) (p:Int→Prop):Prop where
 le:l.Pairwise (· < ·)
 mem:∀b,b∈l↔p b
theorem cV3(v:Value)(w:World):p7 prog 124 #[.pointer none,v] w fun u w'=>(u = .slice none 0 0∧w'=w):=by
 refine p8 [.pointer none,v] func124 rfl ?_;simp only[J7,O2,B6,simprocAttr];refine o6 results124 ?_;simp only[p6,simprocAttr];exact⟨by trivial,by trivial⟩
structure FI (n:Nat) (l:List Int) (td:List Int) (sn:List Bool):Prop where
 len:sn.length=n
 mark:∀b,B4 sn b=true↔b∈td
 mem:∀b,b∈td↔b∈l∧H1 n b=true
 count:td.length+sn.count false=n
theorem FI.start(n:Nat):FI n [] [] (List.replicate n false):=
 ⟨by simp,fun b=>by simp[au0],fun b=>by simp,by simp⟩
theorem FI.old{n:Nat}{l td:List Int}{sn:List Bool}(h:FI n l td sn){a:Int}(ha:H1 n a=false∨B4 sn a=true):FI n (l++[a]) td sn:=by
 refine⟨h.len,h.mark,fun b=>?_,h.count⟩;rw[h.mem,ds4,dt8];constructor
 ·rintro⟨h1,h2⟩;exact⟨.inl h1,h2⟩
 ·rintro⟨h1|h1,h2⟩
  ·exact⟨h1,h2⟩
  ·subst h1;rcases ha with ha|ha
   ·rw[h2]at ha;cases ha
   ·exact(h.mem b).1 ((h.mark b).1 ha)
theorem FI.new{n:Nat}{l td:List Int}{sn:List Bool}(h:FI n l td sn){a:Int}(ha:H1 n a=true)(hs:B4 sn a=false):FI n (l++[a]) (td++[a]) (sn.set a.toNat true):=by
 have ha2:H1 sn.length a=true:=by rw[h.len];exact ha
 have hlt:=(M2 ha2).1;have hget:sn[a.toNat]=false:=by
  have:=(M2 ha2).2;rw[hs]at this;simp[List.getD,hlt]at this;exact this
 refine⟨by simp[h.len],fun b=>?_,fun b=>?_,?_⟩
 ·rw[M6 ha2,ds4,dt8];by_cases hb:b=a
  ·subst hb;simp
  ·simp[hb,h.mark b]
 ·rw[ds4,ds4,dt8,h.mem];constructor
  ·rintro(⟨h1,h2⟩|rfl)
   ·exact⟨.inl h1,h2⟩
   ·exact⟨.inr rfl,ha⟩
  ·rintro⟨h1|h1,h2⟩
   ·exact .inl ⟨h1,h2⟩
   ·exact .inr h1
 ·have:=h.count;have:=ad2 hlt hget;simp only[dr1,du0];omega
theorem cg0(pg:Value)(nx pv:List (List Int))(v:Value)(l:List Int)(w:World)(hgr:GR (i4 w) pg nx pv)(hg:D6 nx.length nx)(hn5:nx.length≤5000)(hv:R (i4 w) v l)(hl:l.length≤1000000000):
  p7 prog 124 #[pg,v] w fun u w'=>((∃r,B0 (i4 w) w' 3 u r∧cM9 r (Rch nx l))∧o7 w w'):=by
 have hgr':=hgr;obtain⟨gb,vn,vp,rfl,h1,h2,h3,h4⟩:=hgr;refine p8 [.pointer (some ⟨gb,0,none⟩),v] func124 rfl ?_;have hld:=G1 (P:=prog) (t:=153) h1 (d7 _) T6;have hSn:=h3.isS;have hnn:=h3.vlen;have hS:=hv.isS;have hvn:=hv.vlen;obtain⟨u0,w0,hmk,ho0,hx0,hf0,_⟩:=mk (P:=prog) (w:=w) (h:=i4 w) bq9 U1 (α:=Bool) (y:=false) rfl (n:=nx.length) (by omega) (by omega) (d7 _);simp only[J7,O2,B6,P9,simprocAttr,hld,hSn,hnn,hmk,hS,hvn];refine n9 [0,1,5,17,18] (σ:=List Int×List Bool×Nat) (fun s f w'=>f 19 = .int .i64 s.2.2∧s.2.2≤l.length∧B0 (i4 w) w' 3 (f 6) s.1∧B0 (i4 w) w' 4 u0 s.2.1∧(∀b,A4 u0 b→¬A4 (f 6) b)∧o7 w w'∧FI nx.length (l.take s.2.2) s.1 s.2.1)
  (fun s=>l.length-s.2.2) ([],List.replicate nx.length false,0) ?_ ?_
 ·simp only[p6,simprocAttr];exact⟨by trivial,dr8 _,B0.nil _ _ _,ho0,fun b _ hb=>C6 hb,hx0,FI.start _⟩
 ·rintro⟨td,sn,k⟩ f w1 hk ⟨h19,hkl,hot,hos,hds,hx,hi⟩;simp only at h19 hkl hot hos hi;simp only[dq9,p6,simprocAttr]at hk;obtain⟨e0,e1,e5,e17,e18,_⟩:=hk;have hcnt:=hi.count;simp only[J7,B6,E5,simprocAttr,h19,e18];refine m8 (fun hc=>?_) (fun hc=>?_)
  ·have hlt:k<l.length:=by simpa using hc
   have hin:=hv.inS hlt;have hlda:=M8 (P:=prog) (t:=3) hv (b7 hx) (dq7 hlt) F3;have htk:=dr6 hlt;generalize hla:l[k]=a at hlda htk;simp only[J7,O2,z6,I8.val,simprocAttr,h19,e17,e0,hin,hlda];refine z7 (aP0 _ nx pv a w1 (hgr'.mono (b7 hx))) ?_;rintro u w1 ⟨rfl,rfl⟩;by_cases ha:H1 nx.length a=true
   ·have hak2:H1 sn.length a=true:=by rw[hi.len];exact ha
    obtain⟨halt,hag⟩:=M2 hak2;have hins:=hos.inS halt;have d1:decide (0≤a)=true:=by simpa using(C3.1 ha).1
    have hlds:=D4 (P:=prog) (t:=4) hos (k:=a.toNat) (x:=B4 sn a) (by rw[hag];simp[List.getD,halt]) ak1;have hSs:=hos.isS;by_cases hbs:B4 sn a=true
    ·have hbs':(!B4 sn a)=false:=by rw[hbs];rfl
     simp only[J7,O2,B6,E5,unV,z6,I8.val,simprocAttr,ha,h19,e5,hins,d1,hlds,hbs'];refine⟨(td,sn,k+1),by simp only[];omega,by simp only[];rw[A8 k (by omega)],by simp only[];omega,hot,hos,hds,hx,?_⟩;simp only[];rw[htk];exact hi.old (.inr hbs)
    ·have hbf:B4 sn a=false:=by simpa using hbs
     have hbs':(!B4 sn a)=true:=by rw[hbf];rfl
     obtain⟨w3,s1,s2,s3,s4⟩:=D9 (P:=prog) (t:=4) hos rfl (k:=a.toNat) halt (x:=.bool true) (y:=true) rfl rfl (A0 U1).choose_spec.1 (by rw[←C5 (A0 U1).choose_spec.1];exact aF6);have hot3:=hot.mod s3 fun b hb hb2=>hds b hb2 hb;have hx3:=hos.ext2 hx s3;obtain⟨p1,u',w4,p2,p3,p4,p5⟩:=push (e:=112) ae1 rfl hot3 (x:=.int .i64 a) (y:=a) rfl (by omega) (by omega) (b7 hx3);simp only[Value.cells]at p1 p2;simp only[J7,O2,B6,E5,unV,z6,I8.val,simprocAttr,ha,h19,e5,hins,d1,hlds,hbs',s1,p1,p2];refine⟨(td++[a],sn.set a.toNat true,k+1),by simp only[];omega,by simp only[];rw[A8 k (by omega)],by simp only[];omega,p3,s2.mod p4 (fun b hb hb2=>hds b hb hb2),?_,hot3.ext2 hx3 p4,?_⟩
     ·intro c hc1 hc2;rcases p5 c hc2 with h1|h1
      ·exact hds c hc1 h1
      ·have:=s2.lt hc1;omega
     ·simp only[];rw[htk];exact hi.new ha hbf
   ·have ha':H1 nx.length a=false:=by simpa using ha
    simp only[J7,B6,E5,simprocAttr,ha',h19];refine⟨(td,sn,k+1),by simp only[];omega,by simp only[];rw[A8 k (by omega)],by simp only[];omega,hot,hos,hds,hx,?_⟩;simp only[];rw[htk];exact hi.old (.inl ha')
  ·have hge:k=l.length:=by simp at hc;omega
   subst hge;rw[ds2]at hi;have hld1:=G1 (P:=prog) (t:=153) h1 (b7 hx) T6;simp only[J7,O2,simprocAttr,e0,e5,hld1];refine z7 (bN6 (i4 w) vn u0 (f 6) nx sn td w1 (b7 hx) h3 hg hos hot hds hi.len (fun a ha=>(hi.mark a).2 ha) hn5 (by omega)) ?_;rintro u w2 ⟨td2,sn2,hot2,hos2,hds2,hm2,hmv2,hok⟩;have hx2:o7 w w2:=t8.ext_of hx hm2 fun b hb=>by
    rcases dv3 b w.heap.size with hlt|hge
    ·have:(i4 w) b=none:=hb.elim hos.free hot.free;simp[i4,hlt]at this
    ·exact hge
   have hl2:sn2.length=nx.length:=by rw[hok.len,hi.len]
   simp only[J7,simprocAttr,e5];refine z7 (bS7 u0 sn2 w2 (hos2.rw_ (b7 hx2)) (by omega)) ?_;rintro r w3 ⟨hr,hx3⟩;simp only[J7,simprocAttr];refine o6 results124 ?_;simp only[p6,simprocAttr];refine⟨⟨_,hr.back hx2,bk1 _ _,fun b=>?_⟩,hx2.trans hx3⟩;rw[bI7,hok.mark,←cM0 hi.mark hi.mem];constructor
   ·rintro(hb|hb)
    ·exact .base ((hi.mark b).1 hb)
    ·exact(hok.via b).1 hb
   ·exact fun hb=>.inr ((hok.via b).2 hb)
theorem bZ1(a b:Int):B8 prog 128 [(0,.int .i64 a),(1,.int .i64 b)]=some (.agg #[.int .i64 a,.int .i64 b]):=by
 simp[B8,cU1,J5,Instr.fill,Value.cells]
theorem cN6{h:Hp}(a b:Int):A3.enc h (Value.cells (.agg #[.int .i64 a,.int .i64 b])).toList ((a,b):Int×Int):=⟨[.int .i64 a],[.int .i64 b],rfl,rfl,rfl⟩
theorem am5(a:Addr)(wy:Wy)(p:Pg)(i x y:Nat)(v:Value)(l:List Sp)(w:World)(ha:At (i4 w) a wy)(hok:WyOk p i x y wy)(hv:R (i4 w) v l)(hl:∀t∈l,RgS x y t)(hll:l.length≤10000000):
  p7 prog 82 #[.pointer (some a),v] w fun u w'=>(B0 (i4 w) w' 128 u (wy.pairs l)∧o7 w w'):=by
 refine p8 [.pointer (some a),v] func82 rfl ?_;have hS:=hv.isS;have hn:=hv.vlen;have hfit:=hok.part.ok.fit;have hlen:=hok.part.ok.len;have hF:wy.pairs l=l.map fun t=>(wy.index t.src,wy.index t.dst):=rfl;simp only[n7,n8,simprocAttr,hS,hn];refine n9 [0,8,9] (σ:=Nat×Value) (fun s f w'=>f 10 = .int .i64 s.1∧f 5=s.2∧s.1≤l.length∧B0 (i4 w) w' 128 s.2 ((l.take s.1).map fun t=>(wy.index t.src,wy.index t.dst))∧o7 w w') (fun s=>l.length-s.1) (0,.slice none 0 0) ?_ ?_
 ·simp only[p6,simprocAttr];exact⟨by trivial,by trivial,dr8 _,by simpa using B0.nil _ _ _,t8.refl _⟩
 rintro⟨k,u⟩ f w2 hk ⟨h10,h5,hkl,ho,hx2⟩;simp only at h10 h5 hkl ho;simp only[dq9,p6,simprocAttr]at hk;obtain⟨e0,e8,e9,_⟩:=hk;simp only[n7,n8,simprocAttr,h10,e9];refine m8 (fun hc=>?_) (fun hc=>?_);rotate_left
 ·have hge:k=l.length:=by simp at hc;omega
  subst hge;rw[ds2]at ho;simp only[n7,simprocAttr,h5];refine o6 results82 ?_;simp only[p6,simprocAttr];exact⟨by rw[hF];exact ho,hx2⟩
 have hlt:k<l.length:=by simpa using hc
 have hin:=hv.inS hlt;obtain⟨sv,hsv,hld⟩:=E4 (P:=prog) (t:=186) hv (b7 hx2) (dq7 hlt) bW1 bW5 bn7 aN1;rw[aN1]at hld;have htk:(l.take (k+1)).map (fun t=>(wy.index t.src,wy.index t.dst))=(l.take k).map (fun t=>(wy.index t.src,wy.index t.dst))++[(wy.index l[k].src,wy.index l[k].dst)]:=by
  rw[dr6 hlt,du1];rfl
 have hrg:=hl _ (dr5 hlt);generalize l[k]=s at hsv htk hrg;obtain⟨c,wz,w4,hal,hst,hx4,hat⟩:=cL7 (hsv.mono (b7 hx2)) (d7 _);obtain⟨_,sds⟩:=hat.sp;have s1:=sds (fun w'=>o7 w4.drew w') w4.drew (t8.refl _) fun w' h=>b7 ((o7.drew w4).trans h);have hx4d:=hx2.trans (hx4.trans (o7.drew w4));have hb1 : -1≤s.src∧s.src≤2000000:=by
  rcases hrg.1 with h|h<;>omega
 have hb2 : -1≤s.dst∧s.dst≤2000000:=by
  rcases hrg.2 with h|h<;>omega
 simp only[n7,n8,z6,simprocAttr,h10,e8,hin,hld,hal,hst];refine C0 (fun w'=>o7 w4.drew w') 11 (A9 [0,1,2,3,5,6,7,4,8,9,10]) ?_;simp only[D2,A9,n7,n8,simprocAttr,s1,e0];refine B2 (aT2 a wy p i x y s.src w4.drew (ha.mono (b7 hx4d)) hok hb1) (fun w5 hx5=>⟨hx5,?_⟩);simp only[D2,n7,simprocAttr];refine B2 (aT2 a wy p i x y s.dst w5 (ha.mono (b7 (hx4d.trans hx5))) hok hb2) (fun w6 hx6=>⟨hx5.trans hx6,?_⟩);have hx06:=hx4d.trans (hx5.trans hx6);have ho6:=ho.ext (hx4.trans ((o7.drew w4).trans (hx5.trans hx6)));obtain⟨p1,u7,w7,p2,p3,p4,p5⟩:=push (e:=125) dd2 rfl ho6 (x:=.agg #[.int .i64 (wy.index s.src),.int .i64 (wy.index s.dst)]) (y:=(wy.index s.src,wy.index s.dst)) (cN6 _ _) (by simp only[dr9,ds3];omega) (by simp only[dr9,ds3];omega) (b7 hx06);simp only[D2,n7,simprocAttr,bZ1,p1,F1];refine⟨hx5.trans (hx6.trans (o7.alloc _ _)),?_⟩;simp only[n7,n8,simprocAttr,h5,h10,p2];exact⟨(k+1,u7),by simp only[];omega,by simp only[];rw[A8 k (by omega)],by trivial,by simp only[];omega,by simp only[];rw[htk];exact p3,ho6.ext2 hx06 p4⟩
theorem bi7(a:Addr)(wy:Wy)(p:Pg)(i x y:Nat)(v:Value)(l:List Sp)(w:World)(ha:At (i4 w) a wy)(hok:WyOk p i x y wy)(hm200:(b9 p).l.length≤200)(hv:R (i4 w) v l)(hl:∀t∈l,RgS x y t)(hll:l.length≤10000000):
  p7 prog 123 #[.pointer (some a),v] w fun u w'=>(GR (i4 w') u (ai9 wy.n.toNat (wy.pairs l)).1 (ai9 wy.n.toNat (wy.pairs l)).2∧o7 w w'):=by
 refine p8 [.pointer (some a),v] func123 rfl ?_;obtain⟨_,_,_,_,_,_,ldw,sdw⟩:=ha.wy;have hst:∀w',o7 w.drew w'→B5 (i4 w) (i4 w'):=fun w' h=>b7 ((o7.drew w).trans h);have s1:=sdw (fun w'=>o7 w.drew w') w.drew (t8.refl _) hst;have hlen:=hok.part.ok.len;have hn:=hok.n;have hle':=hok.part.ok.le;have hnn:wy.n=((wy.n.toNat:Nat):Int):=by omega
 have hpl:(wy.pairs l).length=l.length:=dr9 _;simp only[n7,n8,simprocAttr];refine C0 (fun w'=>o7 w.drew w') 7 (A9 [0,1,2,3,4,5,6]) ?_;simp only[D2,A9,n7,n8,simprocAttr,s1];refine z7 (am5 a wy p i x y v l w.drew (ha.mono (b7 (o7.drew w))) hok (A3.mono (b7 (o7.drew w)) hv) hl hll) ?_;rintro u w2 ⟨ho2,hx2⟩;refine⟨hx2,?_⟩;rw[hnn];simp only[D2,n7,n8,simprocAttr];refine z7 (cc7 wy.n.toNat u (wy.pairs l) w2 (by omega) (ho2.rw_ (b7 hx2)) (by omega)) ?_;rintro u3 w3 ⟨⟨M,hg⟩,hx3⟩;have hx02:=(o7.drew w).trans hx2;simp only[n7,simprocAttr];refine o6 results123 ?_;simp only[p6,simprocAttr];exact⟨hg.read (b7 hx3),hx02.trans hx3⟩
mutual
theorem cw9:∀(t:St) (d:Nat) (n m:Int),n≤200→((G8 d t.thn n).bind fun m=>G8 d t.els m)=some m→m≤200
 | .mk id kind labels name proc x has args thn els,d,n,m,hn,h=>by
  simp only[St.thn,St.els]at h;obtain⟨m1,h1,h2⟩:=dx0.1 h;exact aH4 els d m1 m (aH4 thn d n m1 hn h1) h2
theorem aH4:∀(l:List St) (d:Nat) (n m:Int),n≤200→G8 d l n=some m→m≤200
 | [],d,n,m,hn,h=>by
  cases d with
  | zero=>simp[G8]at h;omega
  | succ d=>rw[G8]at h;simp at h;omega
 | t::l,0,n,m,hn,h=>by simp[G8]at h
 | t::l,d+1,n,m,hn,h=>by
  rw[ay5]at h;obtain⟨m1,h1,h2⟩:=dx0.1 h;split at h1
  ·cases h1
  ·next hc=>
   have h3:n+1≤200:=by
    rcases Int.lt_or_le 200 (n+1)with h|h
    ·exact absurd (.inl h) hc
    ·exact h
   exact aH4 l (d+1) m1 m (cw9 t d (n+1) m1 h3 h1) h2
end
theorem bJ9:∀(l:List Pr) (n:Int),n≤200→(l.foldlM (fun n f=>R3 f n) n).isSome=true→n+((l.map fun f=>A5 f.body).sum:Nat)≤200
 | [],n,hn,_=>by simpa using hn
 | f::l,n,hn,h=>by
  rw[List.foldlM_cons]at h;obtain⟨k,hk⟩:=dw6.1 h;obtain⟨m,hm,hm2⟩:=dx0.1 hk;unfold R3 at hm;split at hm
  ·cases hm
  ·have e:=(aP4 f.body 12 n m hm).1;have h2:=aH4 f.body 12 n m hn hm;have:=bJ9 l m h2 (by rw[hm2];rfl);rw[dv6,dB6];omega
theorem G9{p:Pg}(hm:J6 p=true):(b9 p).l.length≤200:=by
 rw[an6];simp only[J6,dt0]at hm;have:=bJ9 p.procs 0 (by omega) hm.2;unfold bp5;omega
def dD4:=@List.take_add_one
inductive Way (nx:List (List Int)) (a:Int):Int→Prop
 | refl:Way nx a a
 | step {b c:Int}:Way nx a b→c∈C1 nx b→Way nx a c
theorem Way.trans{nx:List (List Int)}{a b c:Int}(h:Way nx a b)(k:Way nx b c):Way nx a c:=by
 induction k with
 | refl=>exact h
 | step _ hc ih=>exact .step ih hc
theorem Way.one{nx:List (List Int)}{a b:Int}(h:b∈C1 nx a):Way nx a b:=.step .refl h
def al3(nx:List (List Int))(a b:Int):Prop:=Way nx a b∧Way nx b a
theorem al3.refl{nx:List (List Int)}(a:Int):al3 nx a a:=⟨.refl,.refl⟩
theorem al3.symm{nx:List (List Int)}{a b:Int}(h:al3 nx a b):al3 nx b a:=⟨h.2,h.1⟩
theorem al3.trans{nx:List (List Int)}{a b c:Int}(h:al3 nx a b)(k:al3 nx b c):al3 nx a c:=⟨h.1.trans k.1,k.2.trans h.2⟩
def ai(l:List Int)(a:Int):Int:=l.getD a.toNat 0
theorem aT4{l:List Int}{n:Nat}(hl:l.length=n){a b v:Int}(ha:H1 n a=true)(hb:H1 n b=true):ai (l.set a.toNat v) b=if b=a then v else ai l b:=by
 have ha':=C3.1 ha;have hb':=C3.1 hb;unfold ai;by_cases h:b=a
 ·subst h;rw[if_pos rfl];have:b.toNat<l.length:=by omega
  simp[List.getD,this]
 ·rw[if_neg h];have:a.toNat≠b.toNat:=by omega
  simp[List.getD,this]
theorem cN8{nx:List (List Int)}{out stack:List Int}(hb:∀x∈out,∀y∈C1 nx x,y∈out∨y∈stack){x r:Int}(hx:x∈out)(hw:Way nx x r)(hr:r∉out):∃g∈stack,Way nx x g:=by
 induction hw with
 | refl=>exact absurd hx hr
 | @step b c hw hc ih=>
  by_cases h:b∈out
  ·rcases hb b h c hc with h1|h1
   ·exact absurd h1 hr
   ·exact⟨c,h1,.step hw hc⟩
  ·exact ih h
structure DI (nx:List (List Int)) (n:Nat) (out stack:List Int) (seen:List Bool) (at_:List Int):Prop where
 slen:seen.length=n
 alen:at_.length=n
 mark:∀b,B4 seen b=true↔b∈out∨b∈stack
 count:out.length+stack.length+seen.count false=n
 apart:∀b∈out,b∉stack
 onod:out.Nodup
 snod:stack.Nodup
 path:stack.Pairwise (Way nx)
 black:∀x∈out,∀y∈C1 nx x,y∈out∨y∈stack
 atok:∀a,H1 n a=true→0≤ai at_ a∧ai at_ a≤(C1 nx a).length
 white:∀a,H1 n a=true→B4 seen a=false→ai at_ a=0
 grey:∀g∈stack,∀y∈(C1 nx g).take (ai at_ g).toNat,B4 seen y=true
 low:∀x∈out,∀g∈stack,Way nx x g→∃c∈stack,al3 nx c x
 cut:∀k,∀x∈out.take k,∀r,r∉out.take k→Way nx x r→∃c,c∉out.take k∧al3 nx c x
section
variable {nx:List (List Int)} {n:Nat} {out stack:List Int} {seen:List Bool} {at_:List Int}
theorem DI.start(hn:nx.length=n):DI nx n [] [] (List.replicate n false) (List.replicate n 0):=by
 have h0:∀a,ai (List.replicate n 0) a=0:=fun a=>by
  simp[ai,List.getD,dB1];split<;>rfl
 have no:∀(x:Int) {p:Prop},x∈([]:List Int)→p:=fun x p h=>absurd h (dw3);exact⟨by simp,by simp,fun b=>by simp[au0],by simp,fun b hb=>no b hb,List.nodup_nil,List.nodup_nil,List.Pairwise.nil,fun x hx=>no x hx,
  fun a _=>(by rw[h0];omega),fun a _ _=>h0 a,fun g hg=>no g hg,fun x hx=>no x hx,fun k x hx=>no x (by simpa using hx)⟩
theorem DI.ok(h:DI nx n out stack seen at_){b:Int}(hb:b∈out∨b∈stack):H1 n b=true:=by
 have:=ao4 ((h.mark b).2 hb)
 rwa [h.slen]at this
theorem DI.push(h:DI nx n out stack seen at_){y:Int}(hy:H1 n y=true)(hs:B4 seen y=false)(hw:∀g∈stack,Way nx g y):DI nx n out (stack++[y]) (seen.set y.toNat true) at_:=by
 have hy2:H1 seen.length y=true:=by rw[h.slen];exact hy
 have hset:∀c,B4 (seen.set y.toNat true) c=if c=y then true else B4 seen c:=fun c=>M6 hy2;have hlt:=(M2 hy2).1;have hget:seen[y.toNat]=false:=by
  have:=(M2 hy2).2;rw[hs]at this;simp[List.getD,hlt]at this;exact this
 have hno:y∉out:=fun hh=>by rw[(h.mark y).2 (.inl hh)]at hs;cases hs
 have hns:y∉stack:=fun hh=>by rw[(h.mark y).2 (.inr hh)]at hs;cases hs
 refine⟨by simp[h.slen],h.alen,fun c=>?_,?_,fun b hb hb2=>?_,h.onod,?_,?_,fun x hx z hz=>?_,h.atok,fun a ha hsa=>?_,fun g hg z hz=>?_,fun x hx g hg hwx=>?_,h.cut⟩
 ·rw[hset,ds4,dt8];by_cases hc:c=y
  ·subst hc;simp
  ·simp[hc,h.mark c]
 ·have:=h.count;have:=ad2 hlt hget;simp only[dr1,du0];omega
 ·rcases ds4.1 hb2 with h1|h1
  ·exact h.apart b hb h1
  ·simp at h1;subst h1;exact hno hb
 ·rw[dw0];refine⟨h.snod,by simp,fun a ha b hb=>?_⟩;simp at hb;subst hb;rintro rfl;exact hns ha
 ·rw[List.pairwise_append];refine⟨h.path,by simp,fun a ha b hb=>?_⟩;simp at hb;subst hb;exact hw a ha
 ·rcases h.black x hx z hz with h1|h1
  ·exact .inl h1
  ·exact .inr (dw4 _ h1)
 ·rw[hset]at hsa;split at hsa
  ·cases hsa
  ·exact h.white a ha hsa
 ·rcases ds4.1 hg with h1|h1
  ·exact aI1 hy2 (h.grey g h1 z hz)
  ·simp at h1;subst h1;rw[h.white g hy hs]at hz;simp at hz
 ·have key:∃g∈stack,Way nx x g:=by
   rcases ds4.1 hg with h1|h1
   ·exact⟨g,h1,hwx⟩
   ·simp at h1;subst h1;exact cN8 h.black hx hwx hno
  obtain⟨g',hg',hwg⟩:=key;obtain⟨c,hc,hb⟩:=h.low x hx g' hg' hwg;exact⟨c,dw4 _ hc,hb⟩
theorem DI.adv(h:DI nx n out stack seen at_){a y:Int}(ha:H1 n a=true){k:Nat}(hk:ai at_ a=k)(hy:(C1 nx a)[k]?=some y)(hs:B4 seen y=true)(hsa:B4 seen a=true):DI nx n out stack seen (at_.set a.toNat (k+1:Nat)):=by
 have hlt:=(dr4.1 hy).1;refine⟨h.slen,by simp[h.alen],h.mark,h.count,h.apart,h.onod,h.snod,h.path,h.black,fun b hb=>?_,fun b hb hsb=>?_,fun g hg z hz=>?_,h.low,h.cut⟩
 ·rw[aT4 h.alen ha hb];split
  ·rename_i e;subst e;omega
  ·exact h.atok b hb
 ·rw[aT4 h.alen ha hb];split
  ·rename_i e;subst e;rw[hsa]at hsb;cases hsb
  ·exact h.white b hb hsb
 ·have hgk:=h.ok (.inr hg);rw[aT4 h.alen ha hgk]at hz;split at hz
  ·rename_i e;subst e;rw[dt5,dD4,hy]at hz;rcases ds4.1 hz with h1|h1
   ·refine h.grey g hg z ?_;rw[hk,dt5];exact h1
   ·simp at h1;subst h1;exact hs
  ·exact h.grey g hg z hz
theorem DI.pop{s:List Int}{a:Int}(h:DI nx n out (s++[a]) seen at_)(hk:ai at_ a=(C1 nx a).length):DI nx n (out++[a]) s seen at_:=by
 have has:a∈s++[a]:=by simp
 have hno:a∉out:=fun hh=>h.apart a hh has;have hnd:=dw0.1 h.snod;have hnas:a∉s:=fun hh=>hnd.2.2 a hh a (by simp) rfl;have hpa:=List.pairwise_append.1 h.path;have hga:∀g∈s,Way nx g a:=fun g hg=>hpa.2.2 g hg a (by simp);have hblack:∀x∈out++[a],∀y∈C1 nx x,y∈out++[a]∨y∈s:=by
  intro x hx y hy;have hm:y∈out∨y∈s++[a]:=by
   rcases ds4.1 hx with h1|h1
   ·exact h.black x h1 y hy
   ·simp at h1;subst h1;refine(h.mark y).1 (h.grey x has y ?_);rw[hk,dt5,ds2];exact hy
  rcases hm with h1|h1
  ·exact .inl (dw4 _ h1)
  ·rcases ds4.1 h1 with h2|h2
   ·exact .inr h2
   ·exact .inl (dC9 _ h2)
 have hlow:∀x∈out++[a],∀g∈s,Way nx x g→∃c∈s,al3 nx c x:=by
  intro x hx g hg hw;rcases ds4.1 hx with h1|h1
  ·obtain⟨c,hc,hb⟩:=h.low x h1 g (dw4 _ hg) hw;rcases ds4.1 hc with h2|h2
   ·exact⟨c,h2,hb⟩
   ·simp at h2;subst h2;exact⟨g,hg,⟨(hga g hg).trans hb.1,hw⟩⟩
  ·simp at h1;subst h1;exact⟨g,hg,⟨hga g hg,hw⟩⟩
 have hap:∀b∈out++[a],b∉s:=by
  intro b hb hs;rcases ds4.1 hb with h1|h1
  ·exact h.apart b h1 (dw4 _ hs)
  ·simp at h1;subst h1;exact hnas hs
 refine⟨h.slen,h.alen,fun b=>?_,?_,hap,?_,hnd.1,hpa.1,hblack,h.atok,h.white,fun g hg=>h.grey g (dw4 _ hg),hlow,fun k x hx r hr hw=>?_⟩
 ·rw[h.mark,ds4,ds4];constructor
  ·rintro(h1|h1|h1)
   ·exact .inl (.inl h1)
   ·exact .inr h1
   ·exact .inl (.inr h1)
  ·rintro((h1|h1)|h1)
   ·exact .inl h1
   ·exact .inr (.inr h1)
   ·exact .inr (.inl h1)
 ·have:=h.count;simp only[dr1,du0]at this ⊢;omega
 ·rw[dw0];refine⟨h.onod,by simp,fun x hx y hy=>?_⟩;simp at hy;subst hy;rintro rfl;exact hno hx
 ·by_cases hkl:k≤out.length
  ·rw[dz7 hkl]at hx hr ⊢;exact h.cut k x hx r hr hw
  ·rw[dv8 (by simp;omega)]at hx hr ⊢;obtain⟨g,hg,hwg⟩:=cN8 hblack hx hw hr;obtain⟨c,hc,hb⟩:=hlow x hx g hg hwg;exact⟨c,fun hh=>hap c hh hc,hb⟩
end
structure aN8 (nx:List (List Int)) (n:Nat) (out:List Int):Prop where
 nod:out.Nodup
 mem:∀b,b∈out↔H1 n b=true
 cut:∀k,∀x∈out.take k,∀r,r∉out.take k→Way nx x r→∃c,c∉out.take k∧al3 nx c x
 len:out.length=n
theorem DI.fin{nx:List (List Int)}{n:Nat}{out:List Int}{seen:List Bool}{at_:List Int}(h:DI nx n out [] seen at_)(hall:∀b,H1 n b=true→B4 seen b=true):aN8 nx n out:=by
 have hm:∀b,b∈out↔H1 n b=true:=fun b=>⟨fun hb=>h.ok (.inl hb),fun hb=>by
  rcases(h.mark b).1 (hall b hb)with h1|h1
  ·exact h1
  ·cases h1⟩
 refine⟨h.onod,hm,h.cut,?_⟩;have hc:seen.count false=0:=by
  rw[List.count_eq_zero];intro hf;obtain⟨i,hi,he⟩:=List.getElem_of_mem hf;have hk:H1 seen.length (i:Int)=true:=C3.2 ⟨by omega,by omega⟩;have h1:=hall i (by rw[←h.slen];exact hk);rw[(M2 hk).2]at h1;simp[List.getD,hi,he]at h1
 have:=h.count;simp only[dx8]at this;omega
def cb7(nx:List (List Int))(at_:List Int)(n:Nat):Nat:=((List.range n).map fun(i:Nat)=>(C1 nx (i:Int)).length-(ai at_ (i:Int)).toNat).sum
theorem cB0{f g:Nat→Nat}{i:Nat}:∀{n:Nat},i<n→(∀j,j<n→j≠i→f j=g j)→f i<g i→((List.range n).map f).sum<((List.range n).map g).sum
 | 0,h,_,_=>by omega
 | n+1,h,he,hl=>by
  have B5:∀m,(∀j,j<m→j≠i→f j=g j)→((List.range m).map f).sum≤((List.range m).map g).sum:=by
   intro m
   induction m with
   | zero=>intro _;simp
   | succ m ih=>
    intro hh;have:=ih fun j hj=>hh j (by omega);rw[dB9];simp only[du1,List.sum_append,dv6,List.map_nil,dB6,List.sum_nil];by_cases hm:m=i
    ·subst hm;omega
    ·have:=hh m (by omega) hm;omega
  rw[dB9];simp only[du1,List.sum_append,dv6,List.map_nil,dB6,List.sum_nil];by_cases hn:n=i
  ·subst hn;have:=B5 n fun j hj=>he j (by omega);omega
  ·have:=cB0 (n:=n) (by omega) (fun j hj=>he j (by omega)) hl;have:=he n (by omega) hn;omega
theorem ck9{nx:List (List Int)}{at_:List Int}{n:Nat}(hl:at_.length=n){a:Int}(ha:H1 n a=true){k:Nat}(hk:ai at_ a=k)(hlt:k<(C1 nx a).length):cb7 nx (at_.set a.toNat (k+1:Nat)) n<cb7 nx at_ n:=by
 have ha':=C3.1 ha;refine cB0 (i:=a.toNat) (by omega) (fun j hj hne=>?_) ?_
 ·have hj':H1 n (j:Int)=true:=C3.2 ⟨by omega,by omega⟩;rw[aT4 hl ha hj',if_neg (by omega)]
 ·have e:((a.toNat:Nat):Int)=a:=by omega
  rw[e,aT4 hl ha ha,if_pos rfl,hk];omega
def aB9(nx:List (List Int))(b m:Int):Prop:=al3 nx b m∧∀c,al3 nx b c→m≤c
theorem aB9.uniq{nx:List (List Int)}{b m m':Int}(h:aB9 nx b m)(h':aB9 nx b m'):m=m':=
 Int.le_antisymm (h.2 _ h'.1) (h'.2 _ h.1)
theorem bX0{n:Nat}{nx:List (List Int)}(hg:D6 n nx){a b:Int}(h:Way nx a b)(ha:H1 n a=true):H1 n b=true:=by
 cases h with
 | refl=>exact ha
 | step _ hb=>exact(hg.row _).2 _ hb
inductive bo9 (nx:List (List Int)):Int→Int→Prop
 | refl {a:Int}:bo9 nx a a
 | head {a b c:Int}:b∈C1 nx a→bo9 nx b c→bo9 nx a c
theorem bo9.snoc{nx:List (List Int)}{a b c:Int}(h:bo9 nx a b)(hc:c∈C1 nx b):bo9 nx a c:=by
 induction h with
 | refl=>exact .head hc .refl
 | head h1 _ ih=>exact .head h1 (ih hc)
theorem Way.toL{nx:List (List Int)}{a b:Int}(h:Way nx a b):bo9 nx a b:=by
 induction h with
 | refl=>exact .refl
 | step _ hc ih=>exact ih.snoc hc
theorem bo9.way{nx:List (List Int)}{a b:Int}(h:bo9 nx a b):Way nx a b:=by
 induction h with
 | refl=>exact .refl
 | head h1 _ ih=>exact(Way.one h1).trans ih
structure PI (nx:List (List Int)) (n:Nat) (order:List Int) (seen:List Bool) (part:List Int) (k:Nat):Prop where
 slen:seen.length=n
 plen:part.length=n
 mark:∀b,B4 seen b=true↔∃c∈order.drop k,al3 nx c b
 part:∀b,B4 seen b=true→aB9 nx b (ai part b)
section
variable {nx pv:List (List Int)} {n:Nat} {order:List Int} {seen:List Bool} {part:List Int} {k:Nat}
theorem PI.start(ho:aN8 nx n order):PI nx n order (List.replicate n false) (List.replicate n 0) n:=
 ⟨by simp,by simp,fun b=>by simp[au0,←ho.len],fun b hb=>by rw[au0]at hb;cases hb⟩
theorem bz3{l:List Int}{k:Nat}{r:Int}(h:l[k]?=some r):l.drop k=r::l.drop (k+1):=by
 obtain⟨hlt,e⟩:=dr4.1 h;rw[du8 hlt,e]
theorem PI.old(h:PI nx n order seen part (k+1)){r:Int}(hr:order[k]?=some r)(hs:B4 seen r=true):PI nx n order seen part k:=by
 refine⟨h.slen,h.plen,fun b=>?_,h.part⟩;rw[h.mark,bz3 hr];constructor
 ·rintro⟨c,hc,hb⟩;exact⟨c,dx9 _ hc,hb⟩
 ·rintro⟨c,hc,hb⟩;rcases dt1.1 hc with rfl|hc
  ·obtain⟨d,hd,hdb⟩:=(h.mark c).1 hs;exact⟨d,hd,hdb.trans hb⟩
  ·exact⟨c,hc,hb⟩
theorem PI.walk(h:PI nx n order seen part (k+1))(ho:aN8 nx n order)(hg:D6 n nx)(hb:∀a b,b∈C1 nx a↔a∈C1 pv b){r:Int}(hr:order[k]?=some r)(hs:B4 seen r=false)(b:Int):
  Via pv (seen.set r.toNat true) [r] b↔al3 nx r b:=by
 have hro:r∈order:=ds9 hr;have hrk:=(ho.mem r).1 hro;have hrk2:H1 seen.length r=true:=by rw[h.slen];exact hrk
 have hset:∀c,B4 (seen.set r.toNat true) c=if c=r then true else B4 seen c:=fun c=>M6 hrk2;have hsplit:order=order.take k++r::order.drop (k+1):=by rw[←bz3 hr,dv5]
 have hnd:r∉order.take k:=by
  have:=ho.nod;rw[hsplit,dw0]at this;exact fun hh=>this.2.2 r hh r (by simp) rfl
 constructor
 ·intro hv
  induction hv with
  | base ha=>simp at ha;subst ha;exact .refl _
  | @step a b _ hba hsb ih=>
   have hab:a∈C1 nx b:=(hb b a).2 hba;have hwr:Way nx b r:=(Way.one hab).trans ih.2;have hne:b≠r:=by
    rintro rfl;rw[hset,if_pos rfl]at hsb;cases hsb
   rw[hset,if_neg hne]at hsb;have hbk:H1 n b=true:=by
    cases hq:H1 n b with
    | true=>rfl
    | false=>
     rw[aR3 (by rw[hg.len];exact hq)]at hab;cases hab
   have hnot:∀c∈order.drop (k+1),¬al3 nx c b:=fun c hc hcb=>by
    rw[(h.mark b).2 ⟨c,hc,hcb⟩]at hsb;cases hsb
   have hbo:=(ho.mem b).2 hbk;rw[hsplit]at hbo;have hbt:b∈order.take k:=by
    rcases ds4.1 hbo with h1|h1
    ·exact h1
    ·rcases dt1.1 h1 with h1|h1
     ·exact absurd h1 hne
     ·exact absurd (al3.refl b) (hnot b h1)
   obtain⟨c,hc,hcb⟩:=ho.cut k b hbt r hnd hwr;have hck:H1 n c=true:=bX0 hg hcb.2 hbk;have hco:=(ho.mem c).2 hck;rw[hsplit]at hco;rcases ds4.1 hco with h1|h1
   ·exact absurd h1 hc
   ·rcases dt1.1 h1 with h1|h1
    ·subst h1;exact hcb
    ·exact absurd hcb (hnot c h1)
 ·rintro⟨h1,h2⟩;have key:∀x y,bo9 nx x y→y=r→Way nx r x→Via pv (seen.set r.toNat true) [r] x:=by
   intro x y hxy
   induction hxy with
   | refl=>rintro rfl _;exact .base (by simp)
   | @head x b y hxb hby ih=>
    rintro rfl hrx;by_cases hxr:x=y
    ·subst hxr;exact .base (by simp)
    ·have hv:=ih rfl (hrx.trans (Way.one hxb));refine .step hv ((hb x b).1 hxb) ?_;rw[hset,if_neg hxr];rw[dB2];intro hsx;obtain⟨c,hc,hcx⟩:=(h.mark x).1 hsx;have hyx:al3 nx x y:=⟨(Way.one hxb).trans hby.way,hrx⟩;rw[(h.mark y).2 ⟨c,hc,hcx.trans hyx⟩]at hs;cases hs
  exact key b r h2.toL rfl h1
theorem PI.new(h:PI nx n order seen part (k+1)){r:Int}(hr:order[k]?=some r){seen':List Bool}{part':List Int}{m:Int}(hl:seen'.length=n)(hpl:part'.length=n)
  (hm:∀b,B4 seen' b=true↔B4 seen b=true∨al3 nx r b) (hleast:aB9 nx r m) (hp:∀b,B4 seen' b=true→ai part' b=if B4 seen b=true then ai part b else m):PI nx n order seen' part' k:=by
 refine⟨hl,hpl,fun b=>?_,fun b hb=>?_⟩
 ·rw[hm,h.mark,bz3 hr];constructor
  ·rintro(⟨c,hc,hb⟩|hb)
   ·exact⟨c,dx9 _ hc,hb⟩
   ·exact⟨r,by simp,hb⟩
  ·rintro⟨c,hc,hb⟩;rcases dt1.1 hc with rfl|hc
   ·exact .inr hb
   ·exact .inl ⟨c,hc,hb⟩
 ·rw[hp b hb];split
  ·rename_i hs;exact h.part b hs
  ·rename_i hs;rcases(hm b).1 hb with h1|h1
   ·exact absurd h1 hs
   ·exact⟨h1.symm.trans hleast.1,fun c hc=>hleast.2 c (h1.trans hc)⟩
theorem PI.fin(h:PI nx n order seen part 0)(ho:aN8 nx n order):part.length=n∧∀b,H1 n b=true→aB9 nx b (ai part b):=
 ⟨h.plen,fun b hb=>h.part b ((h.mark b).2 ⟨b,by rw[dA1];exact(ho.mem b).2 hb,.refl b⟩)⟩
theorem cj5(l:List Int):∀x:Int,l.foldl min x≤x∧(∀y∈l,l.foldl min x≤y)∧(l.foldl min x=x∨l.foldl min x∈l):=by
 induction l with
 | nil=>intro x;exact⟨Int.le_refl _,fun y hy=>absurd hy dw3,.inl rfl⟩
 | cons z l ih=>
  intro x;obtain⟨h1,h2,h3⟩:=ih (min x z);rw[List.foldl_cons];refine⟨by omega,fun y hy=>?_,?_⟩
  ·rcases dt1.1 hy with rfl|hy
   ·omega
   ·exact h2 y hy
  ·rcases h3 with h3|h3
   ·rw[h3];rcases Int.le_total x z with h|h
    ·exact .inl (Int.min_eq_left h)
    ·exact .inr (by rw[Int.min_eq_right h];simp)
   ·exact .inr (dx9 _ h3)
end
def dE4:=@List.getElem_range
theorem aE6:∀(n:Nat) (l:List Int),l.length≤n→l.eraseDups.Nodup
 | _,[],_=>by simp
 | 0,x::l,h=>by simp at h
 | n+1,x::l,h=>by
  rw[List.eraseDups_cons,dD6];refine⟨fun hm=>?_,aE6 n _ (dr7 (dt9 _ _) (by simpa using h))⟩;rw[List.mem_eraseDups,dv2]at hm;simp at hm
def aA6(nx:List (List Int))(l:List Int):List Int:=((l.flatMap (C1 nx)).filter fun b=>!l.contains b).eraseDups
theorem ap9{nx:List (List Int)}{l:List Int}{b:Int}:b∈aA6 nx l↔(∃a∈l,b∈C1 nx a)∧b∉l:=by
 unfold aA6;rw[List.mem_eraseDups,dv2,dw1];simp
theorem az0{nx:List (List Int)}{a:Int}:∀(m:Nat) (l:List Int),(∀b∈l,Way nx a b)→∀b∈O9 nx m l,Way nx a b
 | 0,l,h,b,hb=>h b hb
 | m+1,l,h,b,hb=>by
  rw[O9]at hb;refine az0 m _ (fun c hc=>?_) b hb;rcases ds4.1 hc with hc|hc
  ·exact h c hc
  ·obtain⟨⟨d,hd,hc⟩,_⟩:=ap9.1 hc;exact .step (h d hd) hc
theorem aW9{nx:List (List Int)}:∀(m:Nat) (l:List Int),∀b∈l,b∈O9 nx m l
 | 0,l,b,hb=>hb
 | m+1,l,b,hb=>by
  rw[O9];exact aW9 m _ b (dw4 _ hb)
theorem aK6{n:Nat}{nx:List (List Int)}(hg:D6 n nx):∀(m:Nat) (l:List Int),l.Nodup→(∀b∈l,H1 n b=true)→n≤l.length+m→∀a∈O9 nx m l,∀b∈C1 nx a,b∈O9 nx m l
 | 0,l,hn,hk,hl,a,ha,b,hb=>by
  rw[O9]at ha ⊢;refine dB3 fun hnb=>?_;have h1:(b::l).Nodup:=dD6.2 ⟨hnb,hn⟩;have h2:=M9 (m:=(List.range n).map fun(i:Nat)=>(i:Int)) h1 fun c hc=>by
   have hkc:H1 n c=true:=by
    rcases dt1.1 hc with rfl|hc
    ·exact(hg.row _).2 _ hb
    ·exact hk c hc
   have:=C3.1 hkc;exact dt7.2 ⟨c.toNat,dv0.2 (by omega),by omega⟩
  simp only[dt2,dr9,dw7]at h2;omega
 | m+1,l,hn,hk,hl,a,ha,b,hb=>by
  rw[O9]at ha ⊢;by_cases he:aA6 nx l=[]
  ·have e:l++((l.flatMap (C1 nx)).filter fun b=>!l.contains b).eraseDups=l:=by
    show l++aA6 nx l=l;rw[he,du2]
   rw[e]at ha ⊢;have hcl:∀c∈l,∀d∈C1 nx c,d∈l:=fun c hc d hd=>dB3 fun hnd=>by
    have:d∈aA6 nx l:=ap9.2 ⟨⟨c,hc,hd⟩,hnd⟩;rw[he]at this;simp at this
   have hst:∀(k:Nat),O9 nx k l=l:=by
    intro k
    induction k with
    | zero=>rfl
    | succ k ih=>rw[O9,e,ih]
   rw[hst]at ha ⊢;exact hcl a ha b hb
  ·have hpos:0<(aA6 nx l).length:=List.length_pos_iff.2 he;refine aK6 hg m (l++aA6 nx l) ?_ (fun c hc=>?_) (by rw[dr1];omega) a ha b hb
   ·rw[dw0];refine⟨hn,aE6 _ _ (ds5 _),fun c hc d hd e=>?_⟩;subst e;exact(ap9.1 hd).2 hc
   ·rcases ds4.1 hc with h|h
    ·exact hk c h
    ·obtain⟨⟨d,_,hc⟩,_⟩:=ap9.1 h;exact(hg.row _).2 _ hc
theorem av6{nx:List (List Int)}(hg:D6 nx.length nx){a b:Int}(ha:H1 nx.length a=true):T4 nx a b=true↔Way nx a b:=by
 unfold T4;rw[ha,dy1,dt6];constructor
 ·exact fun h=>az0 nx.length [a] (fun c hc=>by simp at hc;subst hc;exact .refl) b h
 ·intro h
  induction h with
  | refl=>exact aW9 _ _ _ (by simp)
  | step _ hc ih=>exact aK6 hg nx.length [a] (by simp) (fun c hc=>by simp at hc;subst hc;exact ha) (by simp) _ ih _ hc
theorem cK3{nx:List (List Int)}{a b:Int}(ha:H1 nx.length a=true):Rch nx [a] b↔Way nx a b:=by
 constructor
 ·intro h
  induction h with
  | base h1 h2=>simp at h1;subst h1;exact .refl
  | step _ hb ih=>exact .step ih hb
 ·intro h
  induction h with
  | refl=>exact .base (by simp) ha
  | step _ hb ih=>exact .step ih hb
theorem cI9{nx:List (List Int)}(hg:D6 nx.length nx)(h0:H1 nx.length 0=true){r:List Int}(hr:cM9 r (Rch nx [0])):bu2 nx=(List.range nx.length).map fun(b:Nat)=>r.contains (b:Int):=by
 unfold bu2;refine List.map_congr_left fun b _=>?_;rw[dD8,av6 hg h0,←cK3 h0,←hr.mem,dt6]
theorem cK1{nx:List (List Int)}(hg:D6 nx.length nx){q:List Int}(hl:q.length=nx.length)(hq:∀b,H1 nx.length b=true→aB9 nx b (ai q b)):q=ad6 nx:=by
 apply dy6
 ·simp[ad6,hl]
 intro k h1 h2;have hk:H1 nx.length (k:Int)=true:=C3.2 ⟨by omega,by omega⟩;have hp:=hq k hk;have hak:ai q (k:Int)=q[k]:=by
  unfold ai;rw[dt5,List.getD,dq7 h1];rfl
 rw[hak]at hp;refine hp.uniq ?_;have hkm:=bX0 hg hp.1.1 hk;obtain⟨hm1,hm2⟩:=C3.1 hkm;have hqk:q[k]=((q[k].toNat:Nat):Int):=by omega
 have hpk:(ad6 nx)[k]=((((List.range nx.length).find? fun b=>T4 nx (k:Nat) (b:Nat)&&T4 nx (b:Nat) (k:Nat)).getD 0:Nat):Int):=by
  simp only[ad6,dA2,dE4]
 rw[hpk];have hfind:(List.range nx.length).find? (fun b=>T4 nx (k:Nat) (b:Nat)&&T4 nx (b:Nat) (k:Nat))=some q[k].toNat:=by
  rw[dz3];refine⟨?_,q[k].toNat,by simp;omega,by simp,fun j hj=>?_⟩
  ·rw[dt0,av6 hg hk,av6 hg (C3.2 ⟨by omega,by omega⟩),←hqk];exact hp.1
  ·have hjl:j<nx.length:=by omega
   have hjk:H1 nx.length (j:Int)=true:=C3.2 ⟨by omega,by omega⟩;cases hz:(T4 nx (k:Nat) ((List.range nx.length)[j]'(by simp;omega):Nat)&&T4 nx ((List.range nx.length)[j]'(by simp;omega):Nat) (k:Nat))
   ·rfl
   ·exfalso
    simp only[dE4]at hz;rw[dt0,av6 hg hk,av6 hg hjk]at hz;have:=hp.2 j hz;omega
 rw[hfind];simp only[dw8];rw[←hqk];exact hp
theorem dg1{w:World}{gb:Nat}{sh:Addr}{wy:Wy}{vr vl:Value}(hh:w.heap[gb]?=some (.cells #[.pointer (some sh),.int .i64 wy.proc,.int .i64 wy.n,vr,vl] 151 (0,0)))(hs:At (i4 w) sh wy.s)(hr:R (i4 w) vr wy.real)(hl:R (i4 w) vl wy.live):At (i4 w) ⟨gb,0,none⟩ wy:=by
 refine⟨[.pointer (some sh),.int .i64 wy.proc,.int .i64 wy.n,vr,vl],⟨_,_,_,rfl,hs.ptr,hr,hl⟩,fun j u hj=>?_⟩;rw[←al4,add_lit,du4,dy8 w gb j _ 151 (0,0) hh];simpa using hj
theorem cr8(s v:Value)(i n:Int)(hs:s.cells=#[s])(hv:v.cells=#[v]):B8 prog 151 [(0,s),(1,.int .i64 i),(2,.int .i64 n),(3,v)]=some (.agg #[s,.int .i64 i,.int .i64 n,v,.slice none 0 0]):=by
 have h1:(Value.int .i64 i).cells=#[.int .i64 i]:=rfl;have h2:(Value.int .i64 n).cells=#[.int .i64 n]:=rfl;simp[B8,cU2,J5,Instr.fill,hs,hv,h1,h2]
def ae7(s:Sh)(i:Nat):Wy:=⟨s,i,V1 s.hi i-V1 s.lo i+2,s.steps i,List.replicate (V1 s.hi i-V1 s.lo i+2).toNat false⟩
theorem cM3{p:Pg}{i x y:Nat}(pt:at7 p i x y):WyOk p i x y (ae7 (b9 p) i):=by
 refine⟨rfl,rfl,?_,pt⟩;unfold ae7 V1;simp only[dt5,List.getD,pt.ok.lo,pt.ok.hi,dw8];omega
theorem ce9{p:Pg}{i x y:Nat}(pt:at7 p i x y):WyOk p i x y (E2 (b9 p) i):=by
 refine⟨rfl,rfl,?_,pt⟩;unfold E2 V1;simp only[dt5,List.getD,pt.ok.lo,pt.ok.hi,dw8];omega
theorem bx2(s:Sh)(i:Nat):(E2 s i).live=bu2 (ai9 (ae7 s i).n.toNat ((ae7 s i).pairs (s.steps i))).1:=rfl
theorem br0{p:Pg}{i x y:Nat}(pt:at7 p i x y):((E2 (b9 p) i).live.length:Int)=(E2 (b9 p) i).n:=by
 have h1:=(ce9 pt).n;have h2:=pt.ok.le;have h3:(E2 (b9 p) i).n=(ae7 (b9 p) i).n:=rfl;rw[bx2,h3];unfold bu2;rw[dr9,dw7,(ag1 _ _).nx.len];omega
theorem aX0{p:Pg}(hw:D1 p≤1000000){i:Nat}(hi:i<p.procs.length):((b9 p).steps i).length≤800001:=by
 obtain⟨_,hlen⟩:=bb2 p hw i hi;refine dr7 (aM8 _) ?_;rw[dt2];have:=S1 (fun it:It=>((b9 p).goes it).map fun t=>(⟨it.s.id,t,1⟩:Sp)) 2 ((b9 p).of i) fun it _=>by rw[dr9];exact bH1 _ _
 omega
theorem bW9(a:Addr)(p:Pg)(i x y:Nat)(w:World)(hs:At (i4 w) a (b9 p))(hr:E8 p)(hw:D1 p≤1000000)(hi:i<p.procs.length)(pt:at7 p i x y):p7 prog 73 #[.pointer (some a),.int .i64 i] w fun u w'=>(∃gb vr vl,u = .pointer (some ⟨gb,0,none⟩)∧w'.heap[gb]?=some (.cells #[.pointer (some a),.int .i64 i,.int .i64 (E2 (b9 p) i).n,vr,vl] 151 (0,0))∧w.heap.size≤gb∧B0 (i4 w) w' 186 vr ((b9 p).steps i)∧B0 (i4 w) w' 4 vl (E2 (b9 p) i).live∧o7 w w'):=by
 refine p8 [.pointer (some a),.int .i64 i] func73 rfl ?_;have h200:=G9 hr.may;have hlen:=pt.ok.len;have hle':=pt.ok.le;obtain⟨vL,vlo,vhi,hL,hlo,hhi,hap,lds,sds⟩:=hs.sh;have hst:∀w',o7 w.drew w'→B5 (i4 w) (i4 w'):=fun w' h=>b7 ((o7.drew w).trans h);have s2:=sds (fun w'=>o7 w.drew w') w.drew (t8.refl _) hst;have hi1:=hlo.inS (dr4.1 pt.ok.lo).1;have hi2:=hhi.inS (dr4.1 pt.ok.hi).1;have k1:∀K f d w0,I1 prog (fun w'=>o7 w.drew w') (Instr.loadAt 3 (.pointer (some (H2 vlo i)))) K f d w0=K (C4 f d (.int .i64 ((x:Int)+1))) w0:=fun K f d w0=>D5 (w0:=w.drew) (t8.refl _) fun w' h=>ldI hlo (hst w' h) pt.ok.lo;have k2:∀K f d w0,I1 prog (fun w'=>o7 w.drew w') (Instr.loadAt 3 (.pointer (some (H2 vhi i)))) K f d w0=K (C4 f d (.int .i64 ((y:Int)+1))) w0:=fun K f d w0=>D5 (w0:=w.drew) (t8.refl _) fun w' h=>ldI hhi (hst w' h) pt.ok.hi;have hok:=cM3 pt;have hn:=hok.n;have hw1:IntKind.i64.wrap ((y:Int)+1-((x:Int)+1))=(y:Int)+1-((x:Int)+1):=K6 _ (by omega);have hw2:IntKind.i64.wrap ((y:Int)+1-((x:Int)+1)+2)=(ae7 (b9 p) i).n:=by rw[K6 _ (by omega)];omega
 have hnn:(ae7 (b9 p) i).n=(((ae7 (b9 p) i).n.toNat:Nat):Int):=by omega
 generalize hX:(x:Int)+1=X at k1 hw1 hw2;generalize hY:(y:Int)+1=Y at k2 hw1 hw2;simp only[n7,n8,simprocAttr];refine C0 (fun w'=>o7 w.drew w') 21 (A9 [0,1,2,3,4,5,6,7,8,9,10,11,12,13,14,15,16,17,18,19,20]) ?_;simp only[D2,A9,n7,n8,z6,simprocAttr,s2,k1,k2,hi1,hi2,hw1,hw2];refine z7 (cg1 a p i x y w.drew (hs.mono (b7 (o7.drew w))) hr hw hi pt) ?_;rintro vr w2 ⟨hor,hx2⟩;refine⟨hx2,?_⟩;have hx02:=(o7.drew w).trans hx2;have hSr:=hor.isS;obtain⟨gb,w3,hbox,hx3,hc3,hge3⟩:∃gb w3,(Instr.box 151 (.agg #[.pointer (some a),.int .i64 i,.int .i64 (ae7 (b9 p) i).n,vr,.slice none 0 0])).run prog w2 = .ok (.pointer (some ⟨gb,0,none⟩)) w3∧o7 w2 w3∧w3.heap[gb]?=some (.cells #[.pointer (some a),.int .i64 i,.int .i64 (ae7 (b9 p) i).n,vr,.slice none 0 0] 151 (0,0))∧w2.heap.size≤gb:=
  ⟨_,_,rfl,o7.alloc _ _,dv4 w2 _,ds5 _⟩
 have hx03:=hx02.trans hx3;have hgblt:gb<w3.heap.size:=(dr3.1 hc3).1;obtain⟨vl,w4,hmk,hol,hx4,hfr,_⟩:=mk (P:=prog) (w:=w3) (h:=i4 w3) (α:=Bool) bq9 U1 (y:=false) rfl (n:=(ae7 (b9 p) i).n.toNat) (by omega) (by omega) (d7 _);rw[←hnn]at hmk;have hc4:w4.heap[gb]?=some (.cells #[.pointer (some a),.int .i64 i,.int .i64 (ae7 (b9 p) i).n,vr,.slice none 0 0] 151 (0,0)):=(hx4.block gb hgblt id).trans hc3;have hgl:∀b,A4 vl b→b≠gb:=fun b hb e=>by have:=hfr b hb;omega
 obtain⟨w5,s5,hc5,hm5⟩:=aj6 (P:=prog) (t:=149) (i:=4) (x:=vl) hc4 (by simp) (D8 hol.isS) (W9 hol.isS) (A0 aX6).choose_spec.1 (by rw[←C5 (A0 aX6).choose_spec.1];exact bC7);have hc5':w5.heap[gb]?=some (.cells #[.pointer (some a),.int .i64 i,.int .i64 (ae7 (b9 p) i).n,vr,vl] 151 (0,0)):=by simpa using hc5
 have hx05:o7 w w5:=t8.ext_of (hx03.trans hx4) hm5 fun b hb=>by subst hb;exact dr7 hx02.size hge3
 have hol5:B0 (i4 w) w5 4 vl (List.replicate (ae7 (b9 p) i).n.toNat false):=(hol.back hx03).mod hm5 fun b hb=>hgl b hb;have hor5:B0 (i4 w) w5 186 vr ((b9 p).steps i):=(((hor.backN (o7.drew w)).ext hx3).ext hx4).mod hm5 fun b hb e=>by
  subst e;have:=hor.lt hb;omega
 have l5n:(Instr.loadAt 3 (.pointer (some ⟨gb,2,none⟩))).run prog w3 = .ok (.int .i64 (ae7 (b9 p) i).n) w3:=E9 (i:=2) hc3 rfl F3;have l5r:(Instr.loadAt 144 (.pointer (some ⟨gb,3,none⟩))).run prog w5 = .ok vr w5:=E9 (i:=3) hc5' rfl bW0;have hat5:At (i4 w5) ⟨gb,0,none⟩ (ae7 (b9 p) i):=dg1 hc5' (hs.mono (b7 hx05)) (hor5.rw_ (b7 hx05)) (hol5.rw_ (b7 hx05));have hsrg:=bn3 hr hw hi pt;have hsl:=aX0 hw hi;simp only[D2,n7,n8,simprocAttr,cr8 (.pointer (some a)) vr i (ae7 (b9 p) i).n rfl (D8 hSr),hbox,l5n,hmk,s5,l5r];refine z7 (bi7 ⟨gb,0,none⟩ (ae7 (b9 p) i) p i x y vr _ w5 hat5 hok h200 (hor5.rw_ (b7 hx05)) hsrg (by omega)) ?_;rintro ug w6 ⟨hgr,hx6⟩;obtain⟨vz,w7,hlit,hoz,hx7,_⟩:=lit (P:=prog) (w:=w6) (h:=i4 w6) (α:=Int) (xs:=[.int .i64 0]) (ys:=[0]) (parts:=#[(0,.int .i64 0)]) (n:=1) ae1 rfl (L8.2 rfl) (by simp[Value.cells]) rfl rfl (by simp) (by simp) (d7 _);have hgood:=(ag1 (ae7 (b9 p) i).n.toNat ((ae7 (b9 p) i).pairs ((b9 p).steps i))).nx;have hlive:(E2 (b9 p) i).live=bu2 (ai9 (ae7 (b9 p) i).n.toNat ((ae7 (b9 p) i).pairs ((b9 p).steps i))).1:=bx2 _ _;generalize(ai9 (ae7 (b9 p) i).n.toNat ((ae7 (b9 p) i).pairs ((b9 p).steps i))).1=nx at hgr hgood hlive;generalize(ai9 (ae7 (b9 p) i).n.toNat ((ae7 (b9 p) i).pairs ((b9 p).steps i))).2=pv at hgr;have hnl:=hgood.len;have hgood':D6 nx.length nx:=by rw[hnl];exact hgood
 have hok0:H1 nx.length 0=true:=C3.2 ⟨by omega,by omega⟩;simp only[n7,simprocAttr,hlit];refine z7 (cg0 ug nx pv vz [0] w7 (hgr.mono (b7 hx7)) hgood' (by omega) (hoz.rw_ (b7 hx7)) (by simp)) ?_;rintro ur w8 ⟨⟨r,hor8,hset⟩,hx8⟩;have hx58:=hx6.trans (hx7.trans hx8);have hol8:=hol5.ext hx58;have hur:R (B7 w8 (A4 vl)) ur r:=hor8.flatR fun b hb=>D3 fun hbu=>by
  have h1:=hol5.lt hbu;have h2:=D0 (hor8.free hb);have:=(hx6.trans hx7).size;omega
 have hrk:∀b∈r,H1 nx.length b=true:=fun b hb=>((hset.mem b).1 hb).ok hgood';have hrl:r.length≤nx.length:=by
  have:=ay8 (n:=nx.length) (m:=0) hset.le (fun b hb=>C3.1 (hrk b hb)) (by omega);omega
 have hlv:=cI9 hgood' hok0 hset;rw[hlv]at hlive;have hSr8:=hur.isS;have hnr8:=hur.vlen;have hc8:∀w',t8 (A4 vl) w8 w'→w'.heap[gb]?=some (.cells #[.pointer (some a),.int .i64 i,.int .i64 (ae7 (b9 p) i).n,vr,vl] 151 (0,0)):=fun w' hm=>by
  have hg5:gb<w5.heap.size:=(dr3.1 hc5').1;have hg8:gb<w8.heap.size:=dw9 hg5 hx58.size;rw[hm.block gb hg8 fun hb=>hgl gb hb rfl,hx58.block gb hg5 id,hc5']
 have hrep:List.replicate (ae7 (b9 p) i).n.toNat false=(List.range nx.length).map fun(b:Nat)=>(([]:List Int)).contains (b:Int):=by
  rw[hnl];apply dy6
  ·simp
  ·intro j h1 h2;simp
 rw[hrep]at hol8;simp only[n7,n8,simprocAttr,hSr8,hnr8];refine n9 [5,46,47] (σ:=Nat) (fun k f w'=>f 48 = .int .i64 k∧k≤r.length∧B0 (i4 w) w' 4 vl ((List.range nx.length).map fun(b:Nat)=>(r.take k).contains (b:Int))∧t8 (A4 vl) w8 w') (fun k=>r.length-k) 0 ?_ ?_
 ·simp only[p6,simprocAttr];exact⟨by trivial,dr8 _,by simpa using hol8,t8.refl _⟩
 rintro k f w9 hk ⟨h48,hkl,hol9,hm9⟩;simp only[dq9,p6,simprocAttr]at hk;obtain⟨e5,e46,e47,_⟩:=hk;have hc9:=hc8 w9 hm9;simp only[n7,n8,simprocAttr,h48,e47];refine m8 (fun hc=>?_) (fun hc=>?_)
 ·have hlt:k<r.length:=by simpa using hc
  have hin:=hur.inS hlt;have hld:=aJ6 hur (C8 hm9) hlt;have hkk:=C3.1 (hrk _ (dr5 hlt));have hcast:r[k]=((r[k].toNat:Nat):Int):=by omega
  have htk:∀b:Int,(r.take (k+1)).contains b=((r.take k).contains b||decide (b=r[k])):=fun b=>by
   rw[dr6 hlt,dD8,dD2,dt6,dt6,ds4,dt8,decide_eq_true_iff]
  have hqlt:r[k].toNat<nx.length:=by omega
  rw[hcast]at hld htk;generalize r[k].toNat=q at hld htk hqlt;have l9:(Instr.loadAt 149 (.pointer (some ⟨gb,4,none⟩))).run prog w9 = .ok vl w9:=E9 (i:=4) hc9 rfl aj9;have hin9:=hol9.inS (k:=q) (by simpa using hqlt);obtain⟨w10,s1,s2,s3,s4⟩:=D9 (P:=prog) (t:=4) hol9 rfl (k:=q) (by simpa using hqlt) (x:=.bool true) (y:=true) rfl rfl (A0 U1).choose_spec.1 (by rw[←C5 (A0 U1).choose_spec.1];exact aF6);simp only[n7,n8,z6,simprocAttr,h48,e5,e46,hin,hld,l9,hin9,s1];refine⟨k+1,by omega,by rw[A8 k (by omega)],by omega,?_,hm9.chain s3 fun _ _ h=>h⟩;have heq:((List.range nx.length).map fun(b:Nat)=>(r.take k).contains (b:Int)).set q true=(List.range nx.length).map fun(b:Nat)=>(r.take (k+1)).contains (b:Int):=by
   apply dy6
   ·simp
   ·intro j h1 h2;rw[List.getElem_set];simp only[dA2,dE4,htk];by_cases hjq:q=j
    ·subst hjq;simp
    ·rw[if_neg hjq];have:decide ((j:Int)=(q:Int))=false:=by simp;omega
     rw[this,Bool.or_false]
  rw[←heq];exact s2
 ·have hge:k=r.length:=by simp at hc;omega
  subst hge;rw[ds2,←hlive]at hol9;simp only[n7,simprocAttr,e5];refine o6 results73 ?_;simp only[p6,simprocAttr];have hx09:o7 w w9:=t8.ext_of (hx05.trans hx58) hm9 fun b hb=>D0 (hol5.free hb);have hor8:B0 (i4 w) w8 186 vr ((b9 p).steps i):=hor5.ext hx58;refine⟨gb,vr,vl,by trivial,hc9,dr7 hx02.size hge3,hor8.mod hm9 fun b hb hbl=>?_,hol9,hx09⟩;have h1:=hfr b hbl;have h2:=hor.lt hb;omega
def Dj(u v:Value):Prop:=∀b,A4 u b→¬A4 v b
theorem Dj.symm{u v:Value}(h:Dj u v):Dj v u:=fun b h1 h2=>h b h2 h1
theorem Dj.nil(u:Value):Dj u (.slice none 0 0):=fun b _ h=>C6 h
section
variable {α:Type} [A3 α] {h:Hp} {w:World} {T:TypeId} {x y y' v:Value} {xs:List α}
theorem Dj.move(h1:Dj x y)(hx:B0 h w T x xs)(hm:D7 w y y'):Dj x y':=fun b hb hb2=>by
 rcases hm b hb2 with h2|h2
 ·exact h1 b hb h2
 ·have:=hx.lt hb;omega
theorem Dj.fresh(hx:B0 h w T x xs)(hf:∀b,A4 y b→w.heap.size≤b):Dj x y:=fun b hb hb2=>by
 have:=hx.lt hb;have:=hf b hb2;omega
theorem B0.apart{w':World}(hx:B0 h w T x xs)(hm:t8 (A4 y) w w')(hd:Dj x y):B0 h w' T x xs:=hx.mod hm fun b hb hb2=>hd b hb hb2
theorem cK4{v:Value}{k sz:Nat}(hS:isS v=true)(hc:0<vcap v):∃a n c,v = .slice a n c∧reS v 0 k sz = .slice a k c:=by
 cases v<;>simp[Go.Proofs.YtcbnbgpphippoaaGreat.isS]at hS;rename_i a n c;refine⟨a,n,c,rfl,?_⟩;simp only[vcap]at hc;have hc0:¬c=0:=by omega
 cases a<;>simp[reS,K0,hc0]
theorem B0.pre(ho:B0 h w T v xs){k:Nat}(hk:k≤xs.length)(h0:0<xs.length):B0 h w T (reS v 0 k (A3.sz α)) (xs.take k)∧∀b,A4 (reS v 0 k (A3.sz α)) b↔A4 v b:=by
 rcases ho with⟨rfl,rfl⟩|⟨b,c,cur,rfl,h1,h2,h3,h4,h5,h6⟩
 ·simp at h0
 ·obtain⟨a,n,c',e,er⟩:=cK4 (v:=.slice (some ⟨b,0,none⟩) xs.length c) (k:=k) (sz:=A3.sz α) rfl (by show 0<c;omega);cases e;rw[er];refine⟨.inr ⟨b,c,cur,by rw[ds3,dy0 hk],h1,h2,by rw[ds3];omega,h4,h5,?_⟩,fun b'=>by simp[A4,Value.ownBlock]⟩;rw[ds3,dy0 hk];have hx:xs=xs.take k++xs.drop k:=(dv5 k xs).symm;rw[hx]at h6;obtain⟨c1,c2,e1,e2,e3⟩:=aa4 _ _ h6;have hl:=J9 e2;rw[ds3,dy0 hk]at hl;rw[←hx]at e1;have:cur.toList.take (k*A3.sz α)=c1:=by
   have h7:=ds7 (List.take (k*A3.sz α)) e1;rw[List.take_take,dy0 (dz4 _ hk),←hl,dA3]at h7;rw[←hl];exact h7
  rw[this];exact e2
end
theorem bJ3{α:Type}(l:List α):l=[]∨∃s a,l=s++[a]:=by
 rcases List.eq_nil_or_concat l with h|⟨s,a,h⟩
 ·exact .inl h
 ·exact .inr ⟨s,a,by rw[h,List.concat_eq_append]⟩
theorem ci6(pg:Value)(nx pv:List (List Int))(w:World)(hgr:GR (i4 w) pg nx pv)(hg:D6 nx.length nx)(hn5:nx.length≤5000):
  p7 prog 271 #[pg] w fun u w'=>((∃r,B0 (i4 w) w' 3 u r∧aN8 nx nx.length r)∧o7 w w'):=by
 have hgr':=hgr;obtain⟨gb,vn,vp,rfl,h1,h2,h3,h4⟩:=hgr;refine p8 [.pointer (some ⟨gb,0,none⟩)] func271 rfl ?_;have hld:=G1 (P:=prog) (t:=153) h1 (d7 _) T6;have hSn:=h3.isS;have hnn:=h3.vlen;obtain⟨u0,w0,hmk,ho0,hx0,hf0,_⟩:=mk (P:=prog) (w:=w) (h:=i4 w) bq9 U1 (α:=Bool) (y:=false) rfl (n:=nx.length) (by omega) (by omega) (d7 _);have hld0:=G1 (P:=prog) (t:=153) h1 (b7 hx0) T6;obtain⟨u1,w1,hmk1,ho1,hx1,hf1,_⟩:=mk (P:=prog) (w:=w0) (h:=i4 w) ae1 az5 (α:=Int) (y:=0) rfl (n:=nx.length) (by omega) (by omega) (b7 hx0);have hx01:=hx0.trans hx1;have hld1:=G1 (P:=prog) (t:=153) h1 (b7 hx01) T6;have hd01:Dj u0 u1:=Dj.fresh ho0 hf1;simp only[J7,O2,P9,simprocAttr,hld,hSn,hnn,hmk,hld0,hmk1,hld1];refine n9 [0,5,6,26] (σ:=List Int×List Bool×List Int×Nat) (fun s f w'=>f 27 = .int .i64 s.2.2.2∧s.2.2.2≤nx.length∧B0 (i4 w) w' 3 (f 3) s.1∧B0 (i4 w) w' 3 (f 4) ([]:List Int)∧B0 (i4 w) w' 4 u0 s.2.1∧B0 (i4 w) w' 3 u1 s.2.2.1 ∧
   Dj (f 3) (f 4)∧Dj u0 (f 3)∧Dj u0 (f 4)∧Dj u1 (f 3)∧Dj u1 (f 4)∧o7 w w'∧DI nx nx.length s.1 [] s.2.1 s.2.2.1∧∀r:Nat,r<s.2.2.2→B4 s.2.1 r=true)
  (fun s=>nx.length-s.2.2.2) ([],List.replicate nx.length false,List.replicate nx.length 0,0) ?_ ?_
 ·simp only[p6,simprocAttr];exact⟨by trivial,dr8 _,B0.nil _ _ _,B0.nil _ _ _,ho0.ext hx1,ho1,Dj.nil _,Dj.nil _,Dj.nil _,Dj.nil _,Dj.nil _,hx01,DI.start rfl,fun r hr=>by omega⟩
 ·rintro⟨out,sn,at_,r⟩ f w2 hk ⟨h27,hrl,hoo,hst,hos,hoa,d34,d03,d04,d13,d14,hx,hi,hlow⟩;simp only at h27 hrl hoo hst hos hoa hi hlow;simp only[dq9,p6,simprocAttr]at hk;obtain⟨e0,e5,e6,e26,_⟩:=hk;simp only[J7,B6,E5,simprocAttr,h27,e26];refine m8 (fun hc=>?_) (fun hc=>?_)
  ·have hlt:r<nx.length:=by simpa using hc
   have hrk:H1 nx.length (r:Int)=true:=C3.2 ⟨by omega,by omega⟩;have hrk2:H1 sn.length (r:Int)=true:=by rw[hi.slen];exact hrk
   obtain⟨hrlt,hrg⟩:=M2 hrk2;simp only[dt5]at hrlt hrg;have hins:=hos.inS hrlt;have hlds:=D4 (P:=prog) (t:=4) hos (k:=r) (x:=B4 sn r) (by rw[hrg];simp[List.getD,hrlt]) ak1;have hSs:=hos.isS;rcases dq8 (B4 sn r)with hbs|hbs
   case' inl=>
    have hbs':(!B4 sn r)=false:=by rw[hbs];rfl
    simp only[J7,O2,unV,z6,I8.val,simprocAttr,h27,e5,hins,hlds,hbs'];refine n9 [0,5,6,26,27] (σ:=List Int×List Int×List Bool×List Int) (fun s f w'=>B0 (i4 w) w' 3 (f 3) s.1∧B0 (i4 w) w' 3 (f 4) s.2.1∧B0 (i4 w) w' 4 u0 s.2.2.1∧B0 (i4 w) w' 3 u1 s.2.2.2 ∧
      Dj (f 3) (f 4)∧Dj u0 (f 3)∧Dj u0 (f 4)∧Dj u1 (f 3)∧Dj u1 (f 4)∧o7 w w'∧DI nx nx.length s.1 s.2.1 s.2.2.1 s.2.2.2∧∀r':Nat,r'<r+1→B4 s.2.2.1 r'=true)
     (fun s=>cb7 nx s.2.2.2 nx.length+(nx.length-s.1.length)) (out,[],sn,at_) ?_ ?_
    ·simp only[p6,simprocAttr];refine⟨hoo,hst,hos,hoa,d34,d03,d04,d13,d14,hx,hi,fun r' hr'=>?_⟩;by_cases hrr:r'=r
     ·subst hrr;exact hbs
     ·exact hlow r' (by omega)
   case' inr=>
    have hbs':(!B4 sn r)=true:=by rw[hbs];rfl
    obtain⟨w3,s1,s2,s3,s4⟩:=D9 (P:=prog) (t:=4) hos rfl (k:=r) hrlt (x:=.bool true) (y:=true) rfl rfl (A0 U1).choose_spec.1 (by rw[←C5 (A0 U1).choose_spec.1];exact aF6);have hx3:=hos.ext2 hx s3;have hoo3:=hoo.apart s3 d03.symm;have hst3:=hst.apart s3 d04.symm;have hoa3:=hoa.apart s3 hd01.symm;obtain⟨p1,u',w4,p2,p3,p4,p5⟩:=push (e:=112) ae1 rfl hst3 (x:=.int .i64 r) (y:=(r:Int)) rfl (by simp) (by simp) (b7 hx3);simp only[Value.cells]at p1 p2;have hx4:=hst3.ext2 hx3 p4;simp only[J7,O2,unV,z6,I8.val,simprocAttr,h27,e5,hins,hlds,hbs',s1,p1,p2];refine n9 [0,5,6,26,27] (σ:=List Int×List Int×List Bool×List Int) (fun s f w'=>B0 (i4 w) w' 3 (f 3) s.1∧B0 (i4 w) w' 3 (f 4) s.2.1∧B0 (i4 w) w' 4 u0 s.2.2.1∧B0 (i4 w) w' 3 u1 s.2.2.2 ∧
      Dj (f 3) (f 4)∧Dj u0 (f 3)∧Dj u0 (f 4)∧Dj u1 (f 3)∧Dj u1 (f 4)∧o7 w w'∧DI nx nx.length s.1 s.2.1 s.2.2.1 s.2.2.2∧∀r':Nat,r'<r+1→B4 s.2.2.1 r'=true)
     (fun s=>cb7 nx s.2.2.2 nx.length+(nx.length-s.1.length)) (out,[(r:Int)],sn.set r true,at_) ?_ ?_
    ·simp only[p6,simprocAttr];have hset:∀c,B4 (sn.set r true) c=if c=(r:Int)then true else B4 sn c:=fun c=>by
      have:=M6 (v:=true) (b:=c) hrk2;simpa only[dt5]using this
     refine⟨hoo3.apart p4 d34,by simpa using p3,s2.apart p4 d04,hoa3.apart p4 d14,d34.move hoo3 p5,d03,d04.move s2 p5,d13,d14.move hoa3 p5,hx4,?_,fun r' hr'=>?_⟩
     ·have:=hi.push hrk hbs (fun g hg=>by cases hg);simpa using this
     ·rw[hset];by_cases hrr:r'=r
      ·subst hrr;simp
      ·rw[if_neg (by omega)];exact hlow r' (by omega)
   all_goals
    rintro⟨out2,st2,sn2,at2⟩ f2 w5 hk2 ⟨hoo,hst,hos,hoa,d34,d03,d04,d13,d14,hx,hi,hlow⟩;simp only at hoo hst hos hoa hi hlow;simp only[dq9,p6,↓reduceIte,Nat.reduceEqDiff]at hk2;obtain⟨g0,g5,g6,g26,g27,_⟩:=hk2;rw[e0]at g0;rw[h27]at g27;rw[e5]at g5;rw[e6]at g6;rw[e26]at g26;have hSst:=hst.isS;have hlst:=hst.vlen;have hcnt:=hi.count;simp only[J7,O2,B6,E5,P9,simprocAttr,hSst,hlst];refine m8 (fun hc2=>?_) (fun hc2=>?_)
    ·rcases bJ3 st2 with rfl|⟨s,a,rfl⟩
     ·simp at hc2
     rw[show(s++[a]).length=s.length+1 by simp]at hlst hcnt;have hw1:IntKind.i64.wrap (((s.length+1:Nat):Int)-1)=(s.length:Int):=by rw[K6 _ (by omega)];omega
     have hins2:=hst.inS (k:=s.length) (by simp);have hlda:=D4 (P:=prog) (t:=3) hst (k:=s.length) (x:=a) (by simp) F3;have hak:H1 nx.length a=true:=hi.ok (.inr (by simp));have hak':=C3.1 hak;have d0:decide (0≤a)=true:=by simpa using hak'.1
     obtain⟨hx1,hx2⟩:=al9 hak;have hat:=hi.atok a hak;have hSa:=hoa.isS;have hina:=hoa.inS (k:=a.toNat) (by rw[hi.alen];exact hx2);have hldk:=D4 (P:=prog) (t:=3) hoa (k:=a.toNat) (x:=ai at2 a) (by simp[ai,List.getD,hi.alen,hx2]) F3;obtain⟨k,hkk⟩:∃k:Nat,ai at2 a=k:=⟨(ai at2 a).toNat,by omega⟩;rw[hkk]at hldk hat;have hkl:k≤(C1 nx a).length:=by omega
     have hinr:=h3.inS hx2;obtain⟨x,hx3,hx4⟩:=h3.row hx1;have hxS:=hx3.isS;have hxn:=hx3.vlen;have hrl2:=hg.row_len (aq4 hak);simp only[J7,O2,B6,E5,z6,P9,I8.val,simprocAttr,hSst,hlst,hw1,hins2,hlda];refine C0 (fun w2=>w2=w5.drew) 12 (A9 [0,1,2,3,4,5,6,7,8,9,10,11]) ?_;have hxd:=hx.trans (o7.drew w5);have hldk':=D4 (P:=prog) (t:=3) (hoa.ext (o7.drew w5)) (k:=a.toNat) (x:=(k:Int)) (by rw[←hkk];simp[ai,List.getD,hi.alen,hx2]) F3;simp only[D2,A9,J7,O2,z6,simprocAttr,g6,hina,d0];refine⟨.int .i64 k,fun w2 e=>by subst e;exact hldk',?_⟩;simp only[D2,J7,O2,simprocAttr,g0];refine⟨vn,fun w2 e=>by subst e;exact G1 h1 (b7 hxd) T6,?_⟩;simp only[D2,J7,O2,z6,simprocAttr,hinr,d0];refine⟨x,fun w2 e=>by subst e;exact G1 hx4 (b7 hxd) R0,?_⟩;have hoo5:=hoo.ext (o7.drew w5);have hst5:=hst.ext (o7.drew w5);have hos5:=hos.ext (o7.drew w5);have hoa5:=hoa.ext (o7.drew w5);by_cases hke:k=(C1 nx a).length
     ·have hke':((k:Int)==((C1 nx a).length:Int))=true:=by simp[hke]
      obtain⟨p1,u',w6,p2,p3,p4,p5⟩:=push (e:=112) ae1 rfl hoo5 (x:=.int .i64 a) (y:=a) rfl (by omega) (by omega) (b7 hxd);simp only[Value.cells]at p1 p2;have hvc:=hst.vcap;simp only[dr1,du0]at hvc;have hcap:decide ((s.length:Int)≤((vcap (f2 4):Nat):Int))=true:=by simp;omega
      simp only[D2,J7,O2,B6,E5,I0,P9,simprocAttr,hxS,hxn,hke',p1,p2,hSst,hlst,hw1,hcap];obtain⟨q1,q2⟩:=(hst5.apart p4 d34.symm).pre (k:=s.length) (by simp) (by simp);have q1':B0 (i4 w) w6 3 (reS (f2 4) 0 s.length 1) s:=by
       have h9:(s++[a]).take s.length=s:=dA3;rw[h9]at q1;exact q1
      have hmove:∀v:Value,Dj v (f2 4)→Dj v (reS (f2 4) 0 s.length 1):=fun v hd b hb hb2=>hd b hb ((q2 b).1 hb2);refine⟨(out2++[a],s,sn2,at2),?_,p3,q1',hos5.apart p4 d03,hoa5.apart p4 d13,(hmove _ (d34.symm.move hst5 p5).symm),d03.move hos5 p5,hmove _ d04,d13.move hoa5 p5,hmove _ d14,hoo5.ext2 hxd p4,hi.pop (by rw[hkk,hke]),hlow⟩;simp only[dr1,du0];omega
     ·have hke':((k:Int)==((C1 nx a).length:Int))=false:=by simp;omega
      have hklt:k<(C1 nx a).length:=by omega
      simp only[D2,J7,O2,B6,E5,P9,simprocAttr,hxS,hxn,hke'];refine C0 (fun w2=>w2=w5.drew.drew) 11 (A9 [0,1,2,3,4,5,6,7,8,9,10]) ?_;have hxd2:=hxd.trans (o7.drew w5.drew);have hoo6:=hoo5.ext (o7.drew w5.drew);have hst6:=hst5.ext (o7.drew w5.drew);have hos6:=hos5.ext (o7.drew w5.drew);have hoa6:=hoa5.ext (o7.drew w5.drew);have hldk2:=D4 (P:=prog) (t:=3) hoa6 (k:=a.toNat) (x:=(k:Int)) (by rw[←hkk];simp[ai,List.getD,hi.alen,hx2]) F3;simp only[D2,A9,J7,O2,simprocAttr,g0];refine⟨vn,fun w2 e=>by subst e;exact G1 h1 (b7 hxd2) T6,?_⟩;simp only[D2,J7,O2,z6,simprocAttr,hinr,d0];refine⟨x,fun w2 e=>by subst e;exact G1 hx4 (b7 hxd2) R0,?_⟩;simp only[D2,J7,O2,z6,simprocAttr,g6,hina,d0];refine⟨.int .i64 k,fun w2 e=>by subst e;exact hldk2,?_⟩;have hinx:=hx3.inS hklt;have hldy:=M8 (P:=prog) (t:=3) hx3 (b7 hxd2) (dq7 hklt) F3;have hyk:(C1 nx a)[k]?=some (C1 nx a)[k]:=dq7 hklt;have hym:(C1 nx a)[k]∈C1 nx a:=dr5 hklt;generalize(C1 nx a)[k]=y at hldy hyk hym;have hyo:H1 nx.length y=true:=hg.ok _ (aq4 hak) y hym;have hyo2:H1 sn2.length y=true:=by rw[hi.slen];exact hyo
      obtain⟨hylt,hyg⟩:=M2 hyo2;have dy:decide (0≤y)=true:=by simpa using(C3.1 hyo).1
      have hwk:IntKind.i64.wrap ((k:Int)+1)=((k+1:Nat):Int):=A8 k (by omega);obtain⟨w7,t1,t2,t3,t4⟩:=D9 (P:=prog) (t:=3) hoa6 rfl (k:=a.toNat) (by rw[hi.alen];exact hx2) (x:=.int .i64 ((k+1:Nat):Int)) (y:=((k+1:Nat):Int)) rfl rfl (A0 az5).choose_spec.1 (by rw[←C5 (A0 az5).choose_spec.1];exact aS8);have hx7:=hoa6.ext2 hxd2 t3;have hoo7:=hoo6.apart t3 d13.symm;have hst7:=hst6.apart t3 d14.symm;have hos7:=hos6.apart t3 hd01;have hiny:=hos7.inS hylt;have hldS:=D4 (P:=prog) (t:=4) hos7 (k:=y.toNat) (x:=B4 sn2 y) (by rw[hyg];simp[List.getD,hylt]) ak1;have hlf:=ck9 (nx:=nx) hi.alen hak hkk hklt;have hsa:B4 sn2 a=true:=(hi.mark a).2 (.inr (by simp));have hrk3:y∈C1 nx a:=hym;rcases dq8 (B4 sn2 y)with hby|hby
      ·have hby':(!B4 sn2 y)=false:=by rw[hby];rfl
       simp only[D2,J7,O2,B6,E5,unV,z6,I8.val,simprocAttr,hinx,hldy,g6,g5,hina,d0,hldk2,hwk,t1,hiny,dy,hldS,hby'];exact⟨(out2,s++[a],sn2,at2.set a.toNat ((k+1:Nat):Int)),by simp only[];omega,hoo7,hst7,hos7,t2,d34,d03,d04,d13,d14,hx7,hi.adv hak hkk hyk hby hsa,hlow⟩
      ·have hby':(!B4 sn2 y)=true:=by rw[hby];rfl
       obtain⟨w8,v1,v2,v3,v4⟩:=D9 (P:=prog) (t:=4) hos7 rfl (k:=y.toNat) hylt (x:=.bool true) (y:=true) rfl rfl (A0 U1).choose_spec.1 (by rw[←C5 (A0 U1).choose_spec.1];exact aF6);have hx8:=hos7.ext2 hx7 v3;have hoo8:=hoo7.apart v3 d03.symm;have hst8:=hst7.apart v3 d04.symm;have hoa8:=t2.apart v3 hd01.symm;obtain⟨p1,u',w9,p2,p3,p4,p5⟩:=push (e:=112) ae1 rfl hst8 (x:=.int .i64 y) (y:=y) rfl (by simp;omega) (by simp;omega) (b7 hx8);simp only[Value.cells]at p1 p2;simp only[D2,J7,O2,B6,E5,unV,z6,I8.val,simprocAttr,hinx,hldy,g6,g5,hina,d0,hldk2,hwk,t1,hiny,dy,hldS,hby',v1,p1,p2];refine⟨(out2,(s++[a])++[y],sn2.set y.toNat true,at2.set a.toNat ((k+1:Nat):Int)),by simp only[];omega,hoo8.apart p4 d34,p3,v2.apart p4 d04,hoa8.apart p4 d14,d34.move hoo8 p5,d03,d04.move v2 p5,d13,d14.move hoa8 p5,hst8.ext2 hx8 p4,?_,fun r' hr'=>?_⟩
       ·have hpu:=hi.push hyo hby fun g hgs=>by
         rcases ds4.1 hgs with h9|h9
         ·exact .step ((List.pairwise_append.1 hi.path).2.2 g h9 a (by simp)) hym
         ·simp at h9;subst h9;exact Way.one hym
        refine hpu.adv hak hkk hyk ?_ (aI1 hyo2 hsa);rw[M6 hyo2,if_pos rfl]
       ·exact aI1 hyo2 (hlow r' hr')
    ·have hst0:st2=[]:=by
      simp at hc2;exact hc2
     subst hst0;simp only[J7,B6,E5,simprocAttr,g27];refine⟨(out2,sn2,at2,r+1),by simp only[];omega,by simp only[];rw[A8 r (by omega)],by simp only[];omega,hoo,hst,hos,hoa,d34,d03,d04,d13,d14,hx,hi,hlow⟩
  ·have hge:r=nx.length:=by simp at hc;omega
   subst hge;simp only[J7,simprocAttr];refine o6 results271 ?_;simp only[p6,simprocAttr];refine⟨⟨out,hoo,hi.fin fun b hb=>?_⟩,hx⟩;have hb':=C3.1 hb;have:=hlow b.toNat (by omega)
   rwa [show((b.toNat:Nat):Int)=b by omega]at this
theorem cV2(w:World):p7 prog 239 #[.pointer none] w fun u w'=>(u = .slice none 0 0∧w'=w):=by
 refine p8 [.pointer none] func239 rfl ?_;simp only[J7,O2,B6,simprocAttr];refine o6 results239 ?_;simp only[p6,simprocAttr];exact⟨by trivial,by trivial⟩
theorem cf9(pg:Value)(nx pv:List (List Int))(w:World)(hgr:GR (i4 w) pg nx pv)(hgg:aB6 nx.length (nx,pv))(hn5:nx.length≤5000):
  p7 prog 239 #[pg] w fun u w'=>((∃p,B0 (i4 w) w' 3 u p∧p.length=nx.length∧∀b,H1 nx.length b=true→aB9 nx b (ai p b))∧o7 w w'):=by
 have hgr':=hgr;have hg:D6 nx.length nx:=hgg.nx;have hgp:D6 nx.length pv:=hgg.pv;have hgp':D6 pv.length pv:=by rw[hgp.len];exact hgp
 have hplen:pv.length=nx.length:=hgp.len;obtain⟨gb,vn,vp,rfl,h1,h2,h3,h4⟩:=hgr;refine p8 [.pointer (some ⟨gb,0,none⟩)] func239 rfl ?_;have hld:=G1 (P:=prog) (t:=153) h1 (d7 _) T6;have hSn:=h3.isS;have hnn:=h3.vlen;obtain⟨u0,w0,hmk,ho0,hx0,hf0,_⟩:=mk (P:=prog) (w:=w) (h:=i4 w) ae1 az5 (α:=Int) (y:=0) rfl (n:=nx.length) (by omega) (by omega) (d7 _);have hld0:=G1 (P:=prog) (t:=153) h1 (b7 hx0) T6;obtain⟨u1,w1,hmk1,ho1,hx1,hf1,_⟩:=mk (P:=prog) (w:=w0) (h:=i4 w) bq9 U1 (α:=Bool) (y:=false) rfl (n:=nx.length) (by omega) (by omega) (b7 hx0);have hx01:=hx0.trans hx1;have hd01:Dj u0 u1:=Dj.fresh ho0 hf1;simp only[J7,O2,B6,P9,simprocAttr,hld,hSn,hnn,hmk,hld0,hmk1];refine z7 (ci6 _ nx pv w1 (hgr'.mono (b7 hx01)) hg hn5) ?_;rintro u2 w2 ⟨⟨order,hoo,hord⟩,hx2⟩;have hx02:=hx01.trans hx2;have hoo2:=hoo.back hx01;have hS2:=hoo.isS;have hl2:=hoo.vlen;have hol:=hord.len;rw[hol]at hl2;have hnb:∀b,A4 u2 b→w1.heap.size≤b:=fun b hb=>by
  have:=hoo.free hb;simpa[i4]using this
 have hd02:Dj u0 u2:=Dj.fresh (ho0.ext hx1) hnb;have hd12:Dj u1 u2:=Dj.fresh ho1 hnb;have hwl:IntKind.i64.wrap ((nx.length:Int)-1)=(nx.length:Int)-1:=K6 _ (by omega);simp only[J7,O2,B6,E5,P9,simprocAttr,hS2,hl2,hwl];refine n9 [0,3,4,5] (σ:=List Bool×List Int×Nat) (fun s f w'=>f 6 = .int .i64 ((s.2.2:Int)-1)∧s.2.2≤nx.length∧B0 (i4 w) w' 4 u1 s.1∧B0 (i4 w) w' 3 u0 s.2.1∧B0 (i4 w) w' 3 u2 order∧o7 w w'∧PI nx nx.length order s.1 s.2.1 s.2.2)
  (fun s=>s.2.2) (List.replicate nx.length false,List.replicate nx.length 0,nx.length) ?_ ?_
 ·simp only[p6,simprocAttr];exact⟨by trivial,ds5 _,ho1.ext hx2,(ho0.ext hx1).ext hx2,hoo2,hx02,PI.start hord⟩
 ·rintro⟨sn,pt,k⟩ f w3 hk ⟨h6,hkl,hos,hop,hoo,hx,hi⟩;simp only at h6 hkl hos hop hi;simp only[dq9,p6,simprocAttr]at hk;obtain⟨e0,e3,e4,e5,_⟩:=hk;simp only[J7,B6,E5,simprocAttr,h6];refine m8 (fun hc=>?_) (fun hc=>?_)
  ·obtain⟨k,rfl⟩:∃j,k=j+1:=⟨k-1,by simp at hc;omega⟩;have hk1:((k+1:Nat):Int)-1=(k:Int):=by omega
   rw[hk1]at h6;have hklt:k<order.length:=by omega
   have hino:=hoo.inS hklt;have hldr:=D4 (P:=prog) (t:=3) hoo (dq7 hklt) F3;have hro:order[k]?=some order[k]:=dq7 hklt;generalize order[k]=r at hldr hro;have hrk:H1 nx.length r=true:=(hord.mem r).1 (ds9 hro);have hrk2:H1 sn.length r=true:=by rw[hi.slen];exact hrk
   obtain⟨hrlt,hrg⟩:=M2 hrk2;have dr:decide (0≤r)=true:=by simpa using(C3.1 hrk).1
   have hins:=hos.inS hrlt;have hlds:=D4 (P:=prog) (t:=4) hos (k:=r.toNat) (x:=B4 sn r) (by rw[hrg];simp[List.getD,hrlt]) ak1;have hSs:=hos.isS;have hSo:=hoo.isS;have hwk:IntKind.i64.wrap ((k:Int)-1)=(k:Int)-1:=K6 _ (by omega);rcases dq8 (B4 sn r)with hbs|hbs
   ·simp only[J7,O2,B6,E5,z6,I8.val,simprocAttr,h6,e4,e5,hino,hldr,hins,dr,hlds,hbs,hwk];exact⟨(sn,pt,k),by simp only[];omega,by trivial,by simp only[];omega,hos,hop,hoo,hx,hi.old hro hbs⟩
   ·obtain⟨w4,s1,s2,s3,s4⟩:=D9 (P:=prog) (t:=4) hos rfl (k:=r.toNat) hrlt (x:=.bool true) (y:=true) rfl rfl (A0 U1).choose_spec.1 (by rw[←C5 (A0 U1).choose_spec.1];exact aF6);have hx4:=hos.ext2 hx s3;have hop4:=hop.apart s3 hd01;have hoo4:=hoo.apart s3 hd12.symm;have hldr4:=D4 (P:=prog) (t:=3) hoo4 hro F3;simp only[J7,O2,z6,I8.val,simprocAttr,h6,e4,e5,hino,hldr,hins,dr,hlds,hbs,s1];refine C0 (fun w2=>o7 w4.drew w2) 10 (A9 [0,1,2,3,4,5,6,7,8,9]) ?_;have hxd:=hx4.trans (o7.drew w4);have hoo5:=hoo4.ext (o7.drew w4);simp only[D2,A9,J7,O2,simprocAttr,e0];refine⟨vp,fun w2 e=>G1 h2 (b7 (hxd.trans e)) T6,?_⟩;simp only[D2,J7,O2,z6,simprocAttr,e4,e5,h6,hino];refine⟨.int .i64 r,fun w2 e=>D4 (hoo5.ext e) hro F3,?_⟩;obtain⟨vt,w5,hlit,hot,hxt,hft⟩:=lit (P:=prog) (w:=w4.drew) (h:=i4 w) (α:=Int) (xs:=[.int .i64 r]) (ys:=[r]) (parts:=#[(0,.int .i64 r)]) (n:=1) ae1 rfl (L8.2 rfl) (by simp[Value.cells]) rfl rfl (by simp) (by simp) (b7 hxd);have hos5:=s2.ext ((o7.drew w4).trans hxt);have hdst:Dj u1 vt:=Dj.fresh (s2.ext (o7.drew w4)) hft;have hsetr:∀c,B4 (sn.set r.toNat true) c=if c=r then true else B4 sn c:=fun c=>M6 hrk2;simp only[D2,J7,simprocAttr,hlit,F1];refine⟨hxt,?_⟩;refine z7 (bN6 (i4 w) vp u1 vt pv (sn.set r.toNat true) [r] w5 (b7 (hxd.trans hxt)) h4 hgp' hos5 hot hdst (by simp[hi.slen,hplen]) (fun a ha=>by simp at ha;subst ha;rw[hsetr,if_pos rfl]) (by omega) (by simp)) ?_;rintro u3 w6 ⟨td,sn',hot6,hos6,hds6,hm6,hmv6,hok⟩;have hxt4:=hxd.trans hxt;have hvtn:∀b,A4 vt b→w.heap.size≤b:=fun b hb=>by
     have:=hot.free hb;exact dE1 fun hlt=>by simp[i4,hlt]at this
    have hx6:o7 w w6:=t8.ext_of hxt4 hm6 fun b hb=>by
     rcases hb with hb|hb
     ·have:=hos5.free hb;exact dE1 fun hlt=>by simp[i4,hlt]at this
     ·exact hvtn b hb
    have hop5:=hop4.ext ((o7.drew w4).trans hxt);have hoo5':=hoo4.ext ((o7.drew w4).trans hxt);have hd0t:Dj u0 vt:=Dj.fresh (hop4.ext (o7.drew w4)) hft;have hd2t:Dj u2 vt:=Dj.fresh (hoo4.ext (o7.drew w4)) hft;have hop6:=hop5.mod hm6 fun b hb hb2=>hb2.elim (hd01 b hb) (hd0t b hb);have hoo6:=hoo5'.mod hm6 fun b hb hb2=>hb2.elim (fun h=>hd12 b h hb) (hd2t b hb);have hd0u3:Dj u0 u3:=hd0t.move hop5 hmv6;have hwalk:=hi.walk hord hg hgg.both hro hbs;have htd:∀b,b∈td↔al3 nx r b:=fun b=>by rw[hok.via,hwalk]
    have hrtd:r∈td:=(htd r).2 (.refl r);have htl:=hok.size;simp only[du0,dy4]at htl;have hsl:=hi.slen;obtain⟨x,l,rfl⟩:∃x l,td=x::l:=by
     cases td with
     | nil=>cases hrtd
     | cons x l=>exact⟨x,l,rfl⟩
    simp only[dt2]at htl;simp only[J7,simprocAttr];refine z7 (cJ0 u3 x l w6 (hot6.rw_ (b7 hx6)) (by omega)) ?_;rintro u4 w7 ⟨rfl,rfl⟩;obtain⟨mn1,mn2,mn3⟩:=cj5 l x;generalize l.foldl min x=m at mn1 mn2 mn3;have hS3:=hot6.isS;have hl3:=hot6.vlen;simp only[J7,O2,P9,simprocAttr,hS3,hl3];refine n9 [0,3,4,5,6,8,60,61] (σ:=List Int×Nat) (fun s f w'=>f 62 = .int .i64 s.2∧s.2≤(x::l).length∧B0 (i4 w) w' 3 u0 s.1∧B0 (i4 w) w' 4 u1 sn'∧B0 (i4 w) w' 3 u2 order∧B0 (i4 w) w' 3 u3 (x::l)∧o7 w w'∧s.1.length=nx.length ∧
      ∀b,H1 nx.length b=true→ai s.1 b=if b∈(x::l).take s.2 then m else ai pt b)
     (fun s=>(x::l).length-s.2) (pt,0) ?_ ?_
    ·simp only[p6,simprocAttr];exact⟨by trivial,dr8 _,hop6,hos6,hoo6,hot6,hx6,hi.plen,fun b _=>by simp⟩
    ·rintro⟨pt2,j⟩ f2 w8 hk2 ⟨h62,hjl,hop8,hos8,hoo8,hot8,hx8,hpl2,hpt2⟩;simp only at h62 hjl hop8 hpl2 hpt2;simp only[dq9,p6,↓reduceIte,Nat.reduceEqDiff]at hk2;obtain⟨g0,g3,g4,g5,g6,g8,g60,g61,_⟩:=hk2;rw[e0]at g0;rw[e3]at g3;rw[e4]at g4;rw[e5]at g5;rw[h6]at g6;simp only[J7,B6,E5,simprocAttr,h62,g61];refine m8 (fun hc2=>?_) (fun hc2=>?_)
     ·have hj:j<(x::l).length:=by simp only[du7]at hc2;omega
      have hinj:=hot8.inS hj;have hlda:=D4 (P:=prog) (t:=3) hot8 (dq7 hj) F3;have htk:=dr6 hj;have ham:(x::l)[j]∈(x::l):=dr5 hj;generalize(x::l)[j]=a at hlda htk ham;have hak:H1 nx.length a=true:=bX0 hg ((htd a).1 ham).1 hrk;have hak':=C3.1 hak;have da:decide (0≤a)=true:=by simpa using hak'.1
      have hSp:=hop8.isS;have hinp:=hop8.inS (k:=a.toNat) (by omega);obtain⟨w9,t1,t2,t3,t4⟩:=D9 (P:=prog) (t:=3) hop8 rfl (k:=a.toNat) (by omega) (x:=.int .i64 m) (y:=m) rfl rfl (A0 az5).choose_spec.1 (by rw[←C5 (A0 az5).choose_spec.1];exact aS8);simp only[J7,O2,B6,E5,z6,I8.val,simprocAttr,h62,g60,g3,g8,hinj,hlda,hinp,da,t1];refine⟨(pt2.set a.toNat m,j+1),by simp only[];omega,by simp only[];rw[A8 j (by simp at hj;omega)],by simp only[];omega,t2,hos8.apart t3 hd01.symm,hoo8.apart t3 hd02.symm,hot8.apart t3 hd0u3.symm,hop8.ext2 hx8 t3,by simp[hpl2],fun b hb=>?_⟩;simp only[];rw[aT4 hpl2 hak hb,htk];by_cases hba:b=a
      ·subst hba;simp
      ·rw[if_neg hba,hpt2 b hb];simp[hba]
     ·have hge:j=(x::l).length:=by
       simp only[dE2]at hc2;omega
      subst hge;rw[ds2]at hpt2;simp only[J7,B6,E5,simprocAttr,g6,hwk];have hmem:∀b,B4 sn' b=true↔B4 sn b=true∨al3 nx r b:=fun b=>by
       rw[hok.mark,hsetr,htd];by_cases hbr:b=r
       ·subst hbr;simp[al3.refl]
       ·simp[hbr]
      refine⟨(sn',pt2,k),by simp only[];omega,by trivial,by simp only[];omega,hos8,hop8,hoo8,hx8,hi.new hro (by rw[hok.len];simp[hi.slen]) hpl2 hmem (m:=m) ⟨(htd m).1 ?_,fun c hc=>?_⟩ fun b hb=>?_⟩
      ·rcases mn3 with h|h
       ·rw[h];simp
       ·exact dx9 _ h
      ·rcases dt1.1 ((htd c).2 hc)with h|h
       ·rw[h];exact mn1
       ·exact mn2 c h
      ·have hbk:H1 nx.length b=true:=by
        have:=ao4 hb;rw[hok.len]at this;simpa[hi.slen]using this
       rw[hpt2 b hbk];by_cases hsb:B4 sn b=true
       ·rw[if_pos hsb,if_neg];intro hbt;have hrb:=(htd b).1 hbt;obtain⟨c,hc,hcb⟩:=(hi.mark b).1 hsb;rw[(hi.mark r).2 ⟨c,hc,hcb.trans hrb.symm⟩]at hbs;cases hbs
       ·rw[if_neg hsb,if_pos];rcases(hmem b).1 hb with h|h
        ·exact absurd h hsb
        ·exact(htd b).2 h
  ·have hge:k=0:=by simp at hc;omega
   subst hge;simp only[J7,O2,simprocAttr];refine o6 results239 ?_;simp only[p6,simprocAttr];obtain⟨q1,q2⟩:=hi.fin hord;rw[e3];exact⟨⟨pt,hop,q1,q2⟩,hx⟩
instance:A6 (Int×Int):=⟨fun p=>[.int .i64 p.1,.int .i64 p.2],fun h cs x=>by
 constructor
 ·rintro⟨c1,c2,rfl,h1,h2⟩;have e1:c1=[Value.int .i64 x.1]:=h1;have e2:c2=[Value.int .i64 x.2]:=h2;rw[e1,e2];rfl
 ·rintro rfl;exact⟨[.int .i64 x.1],[.int .i64 x.2],rfl,rfl,rfl⟩⟩
theorem K9.nil{α:Type}[A3 α](h:Hp)(w:World)(T T':TypeId):K9 h w T T' (.slice none 0 0) ([]:List Z3) ([]:List (List α)):=
 ⟨B0.nil _ _ _,rfl,fun i u xs h=>by simp at h,fun i j u u' _ h=>by simp at h,fun i u h=>by simp at h⟩
theorem K9.push{α:Type}[A3 α]{h:Hp}{w w':World}{T T':TypeId}{v v':Value}{us:List Z3}{xss:List (List α)}(hr:K9 h w T T' v us xss){u':Value}{xs:List α}(ho:B0 h w T' u' xs)(hd:∀b,A4 u' b→¬L3 v us b)
  (ho2:B0 h w' T v' (us++[⟨u'⟩])) (hm:t8 (A4 v) w w') (hmv:D7 w v v'):K9 h w' T T' v' (us++[⟨u'⟩]) (xss++[xs]):=by
 have hget:∀(j:Nat) (x:Z3),(us++[(⟨u'⟩:Z3)])[j]?=some x→(j=us.length∧x=⟨u'⟩)∨us[j]?=some x:=by
  intro j x hj;rcases dv3 j us.length with hlt|hge
  ·rw[dw2 hlt]at hj;exact .inr hj
  ·rw[dv7 hge]at hj;cases hq:j-us.length with
   | zero=>rw[hq]at hj;simp at hj;exact .inl ⟨by omega,hj.symm⟩
   | succ q=>rw[hq]at hj;simp at hj
 have hold:∀(j:Nat) (x:Z3),us[j]?=some x→∀b,A4 x.v b→b<w.heap.size∧¬A4 v b:=fun j x hj b hb=>⟨hr.lt (.inr ⟨x,ds9 hj,hb⟩),hr.off j x hj b hb⟩;have hv':∀b,A4 v' b→A4 v b∨w.heap.size≤b:=hmv;refine⟨ho2,by simp[hr.len],?_,?_,?_⟩
 ·intro j x ys hj hy;rcases hget j x hj with⟨rfl,rfl⟩|hj'
  ·rw[hr.len,dv7 (ds5 _)]at hy;simp at hy;subst hy;exact ho.mod hm fun b hb hb2=>hd b hb (.inl hb2)
  ·have hlt:j<xss.length:=by rw[←hr.len];exact(dr4.1 hj').1
   rw[dw2 hlt]at hy;exact(hr.row j x ys hj' hy).mod hm fun b hb=>hr.off j x hj' b hb
 ·intro j k x y hjk hj hk b hb hb2;rcases hget j x hj with⟨rfl,rfl⟩|hj'<;>rcases hget k y hk with⟨rfl,rfl⟩|hk'
  ·exact hjk rfl
  ·exact hd b hb (.inr ⟨y,ds9 hk',hb2⟩)
  ·exact hd b hb2 (.inr ⟨x,ds9 hj',hb⟩)
  ·exact hr.apart j k x y hjk hj' hk' b hb hb2
 ·intro j x hj b hb hb2;rcases hget j x hj with⟨rfl,rfl⟩|hj'
  ·rcases hv' b hb2 with h1|h1
   ·exact hd b hb (.inl h1)
   ·have:=ho.lt hb;omega
  ·obtain⟨h1,h2⟩:=hold j x hj' b hb;rcases hv' b hb2 with h3|h3
   ·exact h2 h3
   ·omega
def X9(n:Nat)(l:List Int):List Bool:=(List.range n).map fun(b:Nat)=>l.contains (b:Int)
theorem U3(n:Nat)(l:List Int):(X9 n l).length=n:=by simp[X9]
theorem aE4{n:Nat}{l m:List Int}(h:∀x,x∈l↔x∈m):X9 n l=X9 n m:=by
 refine List.map_congr_left fun b _=>?_;rw[dD8,dt6,dt6];exact h _
theorem cl9(n:Nat):X9 n []=List.replicate n false:=by
 apply dy6
 ·simp[X9]
 ·intro j h1 h2;simp[X9]
theorem aV4{n:Nat}(l:List Int){q:Nat}(hq:q<n):(X9 n l).set q true=X9 n ((q:Int)::l):=by
 apply dy6
 ·simp[X9]
 ·intro j h1 h2;rw[List.getElem_set];simp only[X9,dA2,dE4];by_cases hjq:q=j
  ·subst hjq;simp
  ·rw[if_neg hjq,List.contains_cons];have:((j:Int)==(q:Int))=false:=by simp;omega
   rw[this,dC4]
theorem cl8{n:Nat}(l:List Int){q:Nat}(hq:q<n):(X9 n l)[q]?=some (l.contains (q:Int)):=by
 simp[X9,hq]
structure ao2 (p:Pg) (i x y:Nat) (wy:Wy):Prop extends WyOk p i x y wy where
 real:wy.real=(b9 p).steps i
 live:(wy.live.length:Int)=wy.n
theorem V0{p:Pg}{i x y:Nat}(pt:at7 p i x y):ao2 p i x y (E2 (b9 p) i):=⟨ce9 pt,rfl,br0 pt⟩
theorem aQ4{p:Pg}{i x y:Nat}{wy:Wy}(h:WyOk p i x y wy){l:List Sp}(hl:∀t∈l,RgS x y t):∀t∈wy.pairs l,(0≤t.1∧t.1<wy.n)∧(0≤t.2∧t.2<wy.n):=by
 intro t ht;obtain⟨s,hs,rfl⟩:=dt7.1 ht;have h1:=hl s hs;refine⟨h.index_rg ?_,h.index_rg (.inr h1.2)⟩;rcases h1.1 with h2|h2
 ·exact .inl h2
 ·exact .inr (.inr h2)
theorem cy9{nx:List (List Int)}(hg:D6 nx.length nx):∀k,k<nx.length→0≤V1 (ad6 nx) (k:Nat)∧V1 (ad6 nx) (k:Nat)<(nx.length:Int):=by
 intro k hk;have:V1 (ad6 nx) (k:Nat)=((((List.range nx.length).find? fun b=>T4 nx (k:Nat) (b:Nat)&&T4 nx (b:Nat) (k:Nat)).getD 0:Nat):Int):=by
  unfold V1;rw[dt5,List.getD,dq7 (by simp[ad6,hk])];simp[ad6]
 rw[this];cases hf:(List.range nx.length).find? fun b=>T4 nx (k:Nat) (b:Nat)&&T4 nx (b:Nat) (k:Nat)with
 | none=>simp;omega
 | some q=>
  have:=List.mem_of_find?_eq_some hf;rw[dv0]at this;simp;omega
theorem aw5{l:List Int}{k:Nat}(hk:k<l.length):V1 l (k:Nat)=l[k]:=by
 unfold V1;rw[dt5,List.getD,dq7 hk];rfl
theorem cw7{h:Hp}{v:Value}{l:List (Int×Int)}{w:World}(hv:R h v l)(hw:B5 h (i4 w)){k:Nat}{x:Int×Int}(hk:l[k]?=some x):(Instr.loadAt 128 (.pointer (some (H2 v (k*2))))).run prog w = .ok (.agg #[.int .i64 x.1,.int .i64 x.2]) w:=
 cb6 (P:=prog) (t:=128) hv hw hk cB2 cC7 bW2 bn8
theorem cD7{w:World}(a b:Int):∃c wz w',(Instr.alloc 128 true (.tuple #[])).run prog w = .ok (.pointer (some ⟨c,0,none⟩)) wz∧(Instr.storeAt 128 (.pointer (some ⟨c,0,none⟩)) (.agg #[.int .i64 a,.int .i64 b])).run prog wz = .ok () w'∧o7 w w'∧w'.heap[c]?=some (.cells #[.int .i64 a,.int .i64 b] 128 (0,0))∧w.heap.size≤c:=by
 obtain⟨h1,h2⟩:=aJ7 (P:=prog) (w:=w) (T:=128) cD1 rfl (cs:=#[.int .i64 a,.int .i64 b]) rfl (by simp[Value.oneCell']);exact⟨_,_,_,h1,h2,o7.alloc _ _,dv4 w _,ds5 _⟩
theorem am2{w w':World}{c:Nat}{a b:Int}(h:w.heap[c]?=some (.cells #[.int .i64 a,.int .i64 b] 128 (0,0))){M:Nat→Prop}(hm:t8 M w w')(hc:¬M c):
  (Instr.loadAt 3 (.pointer (some ⟨c,0,none⟩))).run prog w' = .ok (.int .i64 a) w'∧(Instr.loadAt 3 (.pointer (some ⟨c,1,none⟩))).run prog w' = .ok (.int .i64 b) w':=by
 have h':=(hm.block c (dr3.1 h).1 hc).trans h;exact⟨E9 (i:=0) h' rfl F3,E9 (i:=1) h' rfl F3⟩
def aq1(part:List Int)(n:Int)(ps:List (Int×Int)):List Int:=V1 part 0::V1 part (n-1)::(ps.filter fun t=>!decide (V1 part t.1=V1 part t.2)).map fun t=>V1 part t.1
theorem bT2(part:List Int)(n:Int)(ps:List (Int×Int))(t:Int×Int)(x:Int):x∈aq1 part n (ps++[t])↔x∈aq1 part n ps∨(decide (V1 part t.1=V1 part t.2)=false∧x=V1 part t.1):=by
 unfold aq1;rw[dy3,du1];by_cases h:V1 part t.1=V1 part t.2
 ·simp[h]
 ·simp[h,or_assoc]
theorem cg3(a:Addr)(wy:Wy)(p:Pg)(i x y:Nat)(w:World)(ha:At (i4 w) a wy)(hr:E8 p)(hw:D1 p≤1000000)(hi:i<p.procs.length)(hok:ao2 p i x y wy):
  p7 prog 196 #[.pointer (some a)] w fun u w'=>(R (i4 w') u wy.traps∧o7 w w'):=by
 refine p8 [.pointer (some a)] func196 rfl ?_;obtain⟨_,vr,_,_,hvr,_,ldw,sdw⟩:=ha.wy;have lw:=ldw w (d7 _);rw[hok.real]at hvr;have h200:=G9 hr.may;have hlen:=hok.part.ok.len;have hle':=hok.part.ok.le;have hn:=hok.n;have hsrg:=bn3 hr hw hi hok.part;have hsl:=aX0 hw hi;have hprg:=aQ4 hok.toWyOk hsrg;have hpl:(wy.pairs ((b9 p).steps i)).length=((b9 p).steps i).length:=dr9 _;have hF:wy.traps=((List.range (ad6 (ai9 wy.n.toNat (wy.pairs ((b9 p).steps i))).1).length).filter fun(i':Nat)=>decide (V1 (ad6 (ai9 wy.n.toNat (wy.pairs ((b9 p).steps i))).1) (i':Int)=(i':Int)) && !(aq1 (ad6 (ai9 wy.n.toNat (wy.pairs ((b9 p).steps i))).1) wy.n (wy.pairs ((b9 p).steps i))).contains (i':Int)).map fun(i':Nat)=>((List.range (ad6 (ai9 wy.n.toNat (wy.pairs ((b9 p).steps i))).1).length).filter fun(j:Nat)=>decide (V1 (ad6 (ai9 wy.n.toNat (wy.pairs ((b9 p).steps i))).1) (j:Int)=(i':Int))).map fun(j:Nat)=>wy.place (j:Int):=by
  unfold Wy.traps;rw[hok.real];rfl
 simp only[n7,n8,simprocAttr,lw];refine z7 (bi7 a wy p i x y vr _ w ha hok.toWyOk h200 hvr hsrg (by omega)) ?_;rintro ug w2 ⟨hgr,hx2⟩;have hgraph:=ag1 wy.n.toNat (wy.pairs ((b9 p).steps i));generalize hps:wy.pairs ((b9 p).steps i)=ps at hprg hpl hF hgr hgraph;have hgl:=hgraph.nx.len;simp only[n7,simprocAttr];refine z7 (cf9 ug _ _ w2 hgr (by rw[hgl];exact hgraph) (by omega)) ?_;rintro up w4 ⟨⟨q,hoq,hql,hqp⟩,hx4⟩;have hgood:D6 (ai9 wy.n.toNat ps).1.length (ai9 wy.n.toNat ps).1:=by rw[hgl];exact hgraph.nx
 have hpe:=cK1 hgood hql hqp;subst hpe;have hpok:=cy9 hgood;rw[hql,hgl]at hF;rw[hgl]at hql hpok;generalize ad6 (ai9 wy.n.toNat ps).1=part at hoq hF hpok hql;clear hqp hgood hgl hgraph hgr;have hx04:=hx2.trans hx4;have hup:R (i4 w4) up part:=hoq.rw_ (b7 hx4);have hSp:=hup.isS;have hnp:=hup.vlen;have lw4:=ldw w4 (b7 hx04);have hnn:wy.n=((wy.n.toNat:Nat):Int):=by omega
 have hN2:2≤wy.n.toNat:=by omega
 obtain⟨vo,w5,hmk,hoo,hx5,_,_⟩:=mk (P:=prog) (w:=w4) (h:=i4 w4) (α:=Bool) bq9 U1 (y:=false) rfl (n:=wy.n.toNat) (by omega) (by omega) (d7 _);rw[←hnn]at hmk;generalize hM:wy.n.toNat=M at hmk hoo hF hpok hql hN2;have hM2:wy.n=(M:Int):=by omega
 rw[←cl9]at hoo;have hp0:=hpok 0 (by omega);have hp1:=hpok (M-1) (by omega);rw[aw5 (by omega)]at hp0 hp1;have hin0:=hup.inS (k:=0) (by omega);have hin1:=hup.inS (k:=M-1) (by omega);have ho0:=hoo.inS (k:=part[0].toNat) (by rw[U3];omega);have ho1:=hoo.inS (k:=part[M-1].toNat) (by rw[U3];omega);have hwn:IntKind.i64.wrap (wy.n-1)=((M-1:Nat):Int):=by rw[K6 _ (by omega)];omega
 have hoo5:=hoo.ext (o7.drew w5);obtain⟨w6,s1,ho6,hm6,_⟩:=D9 (P:=prog) (t:=4) hoo5 rfl (k:=part[0].toNat) (by rw[U3];omega) (x:=.bool true) (y:=true) rfl rfl (A0 U1).choose_spec.1 (by rw[←C5 (A0 U1).choose_spec.1];exact aF6);rw[aV4 _ (by omega)]at ho6;obtain⟨w7,s2,ho7,hm7,_⟩:=D9 (P:=prog) (t:=4) ho6 rfl (k:=part[M-1].toNat) (by rw[U3];omega) (x:=.bool true) (y:=true) rfl rfl (A0 U1).choose_spec.1 (by rw[←C5 (A0 U1).choose_spec.1];exact aF6);rw[aV4 _ (by omega)]at ho7;have hcm:X9 M [((part[M-1].toNat:Nat):Int),((part[0].toNat:Nat):Int)]=X9 M (aq1 part wy.n []):=by
  refine aE4 fun z=>?_;unfold aq1;have e0:V1 part 0=part[0]:=by have:=aw5 (l:=part) (k:=0) (by omega);simpa using this
  have e1:V1 part (wy.n-1)=part[M-1]:=by rw[show wy.n-1=((M-1:Nat):Int) by omega,aw5 (by omega)]
  rw[e0,e1];simp only[List.filter_nil,List.map_nil,dt1,dw3,dC5];rw[show((part[M-1].toNat:Nat):Int)=part[M-1] by omega,show((part[0].toNat:Nat):Int)=part[0] by omega,or_comm]
 rw[hcm]at ho7;have hm57:t8 (A4 vo) w5.drew w7:=hm6.chain hm7 fun _ _ h=>h;have hst:∀w',t8 (A4 vo) w5.drew w'→B5 (i4 w4) (i4 w'):=fun w' h=>H9 (b7 (hx5.trans (o7.drew w5))) h fun b hb=>hoo.free hb;have k0:∀K f d w0,I1 prog (fun w'=>t8 (A4 vo) w5.drew w') (Instr.loadAt 3 (.pointer (some (H2 up 0)))) K f d w0=K (C4 f d (.int .i64 part[0])) w0:=fun K f d w0=>D5 (w0:=w5.drew) (t8.refl _) fun w' h=>aJ6 hup (hst w' h) (k:=0) (by omega);have k1:∀K f d w0,I1 prog (fun w'=>t8 (A4 vo) w5.drew w') (Instr.loadAt 3 (.pointer (some (H2 up (M-1))))) K f d w0=K (C4 f d (.int .i64 part[M-1])) w0:=fun K f d w0=>D5 (w0:=w5.drew) (t8.refl _) fun w' h=>aJ6 hup (hst w' h) (k:=M-1) (by omega);have swy:=sdw (fun w'=>t8 (A4 vo) w5.drew w') w5.drew (t8.refl _) fun w' h=>p9 (b7 hx04) (hst w' h);have hc0:part[0]=((part[0].toNat:Nat):Int):=by omega
 have hc1:part[M-1]=((part[M-1].toNat:Nat):Int):=by omega
 rw[hc0]at k0;rw[hc1]at k1;generalize part[0].toNat=P0 at k0 ho0 s1;generalize part[M-1].toNat=P1 at k1 ho1 s2;simp only[n7,n8,simprocAttr,lw4,hmk];refine C0 (fun w'=>t8 (A4 vo) w5.drew w') 17 (A9 [0,1,2,3,4,5,6,7,8,9,10,11,12,13,14,15,16]) ?_;simp only[D2,A9,n7,n8,z6,simprocAttr,k0,k1,swy,hin0,hin1,hwn,ho0,ho1,s1,s2,F1];refine⟨hm6,hm57,?_⟩;have hx47:o7 w4 w7:=t8.ext_of (hx5.trans (o7.drew w5)) hm57 fun b hb=>D0 (hoo.free hb);have hx07:=hx04.trans hx47;have lw7:=ldw w7 (b7 hx07);simp only[n7,simprocAttr,lw7];refine z7 (am5 a wy p i x y vr _ w7 (ha.mono (b7 hx07)) hok.toWyOk (A3.mono (b7 hx07) hvr) hsrg (by omega)) ?_;rw[hps];rintro uq w8 ⟨hoq8,hx8⟩;have ho8:=ho7.ext hx8;have huq:R (B7 w8 (A4 vo)) uq ps:=hoq8.flatRN fun b hb=>D3 fun hbu=>by
  have h1:=ho7.lt hbu;have h2:=D0 (hoq8.free hb);omega
 have hx48:=hx47.trans hx8;have hSq:=huq.isS;have hnq:=huq.vlen;simp only[n7,n8,simprocAttr,hSq,hnq];refine n9 [0,3,4,43,44] (σ:=Nat) (fun k f w'=>f 45 = .int .i64 k∧k≤ps.length∧B0 (i4 w4) w' 4 vo (X9 M (aq1 part wy.n (ps.take k)))∧t8 (A4 vo) w8 w') (fun k=>ps.length-k) 0 ?_ ?_
 ·simp only[p6,simprocAttr];exact⟨by trivial,dr8 _,by simpa using ho8,t8.refl _⟩
 rintro k f w9 hk ⟨h45,hkl,ho9,hm9⟩;simp only[dq9,p6,simprocAttr]at hk;obtain⟨e0,e3,e4,e43,e44,_⟩:=hk;have hx49:=ho8.ext2 hx48 hm9;simp only[n7,n8,simprocAttr,h45,e44];refine m8 (fun hc=>?_) (fun hc=>?_)
 ·have hlt:k<ps.length:=by simpa using hc
  have hin:=huq.inS hlt;have hld:=cw7 huq (C8 hm9) (dq7 hlt);have htk:=dr6 hlt;obtain⟨hr1,hr2⟩:=hprg _ (dr5 hlt);generalize ps[k]=t at hld htk hr1 hr2;obtain⟨z1,z2⟩:=t;simp only at hr1 hr2 hld;obtain⟨Q1,rfl⟩:∃Q:Nat,z1=(Q:Int):=⟨z1.toNat,by omega⟩;obtain⟨Q2,rfl⟩:∃Q:Nat,z2=(Q:Int):=⟨z2.toNat,by omega⟩;obtain⟨c,wz,w10,hal,hst10,hx10,hh10,hge10⟩:=cD7 (w:=w9) (Q1:Int) (Q2:Int);have hx410:=hx49.trans (hx10.trans (o7.drew w10));have hld2:=fun w' (h:o7 w10.drew w')=>am2 hh10 (M:=fun _=>False) ((o7.drew w10).trans h) id;have t0:∀K f d w0,I1 prog (fun w'=>o7 w10.drew w') (Instr.loadAt 3 (.pointer (some ⟨c,0,none⟩))) K f d w0=K (C4 f d (.int .i64 (Q1:Int))) w0:=fun K f d w0=>D5 (w0:=w10.drew) (t8.refl _) fun w' h=>(hld2 w' h).1;have t1:∀K f d w0,I1 prog (fun w'=>o7 w10.drew w') (Instr.loadAt 3 (.pointer (some ⟨c,1,none⟩))) K f d w0=K (C4 f d (.int .i64 (Q2:Int))) w0:=fun K f d w0=>D5 (w0:=w10.drew) (t8.refl _) fun w' h=>(hld2 w' h).2;have hl1:Q1<part.length:=by omega
  have hl2:Q2<part.length:=by omega
  have hi1:=hup.inS hl1;have hi2:=hup.inS hl2;have g1:=aw5 hl1;have g2:=aw5 hl2;have u1:∀K f d w0,I1 prog (fun w'=>o7 w10.drew w') (Instr.loadAt 3 (.pointer (some (H2 up Q1)))) K f d w0=K (C4 f d (.int .i64 (V1 part Q1))) w0:=fun K f d w0=>D5 (w0:=w10.drew) (t8.refl _) fun w' h=>by rw[g1];exact aJ6 hup (b7 (hx410.trans h)) hl1
  have u2:∀K f d w0,I1 prog (fun w'=>o7 w10.drew w') (Instr.loadAt 3 (.pointer (some (H2 up Q2)))) K f d w0=K (C4 f d (.int .i64 (V1 part Q2))) w0:=fun K f d w0=>D5 (w0:=w10.drew) (t8.refl _) fun w' h=>by rw[g2];exact aJ6 hup (b7 (hx410.trans h)) hl2
  have v1:(Instr.loadAt 3 (.pointer (some (H2 up Q1)))).run prog w10.drew = .ok (.int .i64 (V1 part Q1)) w10.drew:=by rw[g1];exact aJ6 hup (b7 hx410) hl1
  have hpk:=hpok Q1 (by omega);have ho10:=ho9.ext (hx10.trans (o7.drew w10));have hlv:=(hld2 w10.drew (t8.refl _)).1;have hsn:=fun z=>bT2 part wy.n (ps.take k) ((Q1:Int),(Q2:Int)) z;rw[←htk]at hsn;simp only at hsn;generalize V1 part (Q1:Int)=A1 at u1 v1 hpk hsn;generalize V1 part (Q2:Int)=A2 at u2 hsn;obtain⟨A1,rfl⟩:∃Q:Nat,A1=(Q:Int):=⟨A1.toNat,by omega⟩;have hmod:t8 (A4 vo) w8 w10.drew:=hm9.chain (t8.up (hx10.trans (o7.drew w10))) fun _ _ h=>h;rcases dq8 (decide ((A1:Int)=A2))with hq|hq
  ·simp only[n7,n8,z6,simprocAttr,h45,e43,hin,hld,hal,hst10];refine C0 (fun w'=>o7 w10.drew w') 11 (A9 [0,1,2,3,4,5,6,7,8,9,10]) ?_;simp only[D2,A9,n7,n8,z6,simprocAttr,e3,t0,t1,u1,u2,hi1,hi2,hq,h45];refine⟨k+1,by omega,by rw[A8 k (by omega)],by omega,?_,hmod⟩;have:X9 M (aq1 part wy.n (ps.take (k+1)))=X9 M (aq1 part wy.n (ps.take k)):=aE4 fun z=>by rw[hsn z,hq];simp
   rw[this];exact ho10
  ·have hino:=ho10.inS (k:=A1) (by rw[U3];omega);obtain⟨w11,s1,ho11,hm11,_⟩:=D9 (P:=prog) (t:=4) ho10 rfl (k:=A1) (by rw[U3];omega) (x:=.bool true) (y:=true) rfl rfl (A0 U1).choose_spec.1 (by rw[←C5 (A0 U1).choose_spec.1];exact aF6);rw[aV4 _ (by omega)]at ho11;simp only[n7,n8,z6,simprocAttr,h45,e43,hin,hld,hal,hst10];refine C0 (fun w'=>o7 w10.drew w') 11 (A9 [0,1,2,3,4,5,6,7,8,9,10]) ?_;simp only[D2,A9,n7,n8,z6,simprocAttr,e3,t0,t1,u1,u2,hi1,hi2,hq];simp only[n7,n8,z6,simprocAttr,e4,h45,hlv,v1,hi1,hino,s1];refine⟨k+1,by omega,by rw[A8 k (by omega)],by omega,?_,hmod.chain hm11 fun _ _ h=>h⟩;have:X9 M (aq1 part wy.n (ps.take (k+1)))=X9 M ((A1:Int)::aq1 part wy.n (ps.take k)):=aE4 fun z=>by rw[hsn z,hq,dt1];simp[or_comm]
   rw[this];exact ho11
 have hge:k=ps.length:=by simp at hc;omega
 subst hge;rw[ds2]at ho9;generalize hop:aq1 part wy.n ps=op at ho9 hF;have huo:R (i4 w9) vo (X9 M op):=ho9.rw_ (b7 hx49);have hx09:=hx04.trans hx49;have hup9:R (i4 w9) up part:=A3.mono (b7 hx49) hup;have ha9:=ha.mono (b7 hx09);generalize hPr:(fun(i':Nat)=>decide (V1 part (i':Int)=(i':Int)) && !op.contains (i':Int))=Pr at hF;generalize hRw:(fun(i':Nat)=>((List.range M).filter fun(j:Nat)=>decide (V1 part (j:Int)=(i':Int))).map fun(j:Nat)=>wy.place (j:Int))=Rw at hF;clear ho9 ho8 ho7 ho6 hoo5 hoo huq hoq8;simp only[i5,n8,simprocAttr,e3,hSp,hnp];refine n9 [0,3,4,68,69] (σ:=Nat×Value×List Z3) (fun s f w'=>f 70 = .int .i64 s.1∧f 7=s.2.1∧s.1≤M∧K9 (i4 w9) w' 112 3 s.2.1 s.2.2 (((List.range s.1).filter Pr).map Rw)∧o7 w9 w') (fun s=>M-s.1) (0,.slice none 0 0,[]) ?_ ?_
 ·simp only[p6,simprocAttr];exact⟨by trivial,by trivial,dr8 _,by simpa using K9.nil _ _ _ _,t8.refl _⟩
 rintro⟨m,v,us⟩ f2 w11 hk ⟨h70,h7,hml,hrows,hx11⟩;simp only at h70 h7 hml hrows;simp only[dq9,p6,simprocAttr]at hk;obtain⟨g0,g3,g4,g68,g69,_⟩:=hk;rw[e0]at g0;rw[e3]at g3;rw[e4]at g4;rw[hql]at g69;have hx011:=hx09.trans hx11;have hstep:∀q:Nat,((List.range (q+1)).filter Pr).map Rw=((List.range q).filter Pr).map Rw++if Pr q then[Rw q]else[]:=fun q=>by
  rw[dB9,dy3,du1]
  congr 1
  by_cases h:Pr q=true<;>simp[h]
 simp only[i5,n8,simprocAttr,h70,g69];refine m8 (fun hc=>?_) (fun hc=>?_);rotate_left
 ·have hge:m=M:=by simp at hc;omega
  subst hge;simp only[i5,simprocAttr,h7];refine o6 results196 ?_;simp only[p6,simprocAttr];exact⟨by rw[hF];exact hrows.ro (b7 hx11),hx011⟩
 have hlt:m<M:=by simpa using hc
 have hlm:m<part.length:=by omega
 have him:=hup.inS hlm;have hlm9:=fun w' (h:o7 w9 w')=>aJ6 hup9 (b7 h) hlm;rw[←aw5 hlm]at hlm9;have hpm:=hlm9 w11 hx11;have hPrm:Pr m=(decide (V1 part (m:Int)=(m:Int)) && !op.contains (m:Int)):=by rw[←hPr]
 have hskip:Pr m=false→∃s:Nat×Value×List Z3,M-s.1<M-m∧(Value.int .i64 (IntKind.i64.wrap ((m:Int)+1))) = .int .i64 s.1∧v=s.2.1∧s.1≤M∧K9 (i4 w9) w11 112 3 s.2.1 s.2.2 (((List.range s.1).filter Pr).map Rw)∧o7 w9 w11:=fun h=>by
  refine⟨(m+1,v,us),by simp only[];omega,by simp only[];rw[A8 m (by omega)],by trivial,by simp only[];omega,?_,hx11⟩;simp only[];rw[hstep,h,if_neg (by simp),du2];exact hrows
 generalize hAm:V1 part (m:Int)=Am at hpm hPrm;rcases dq8 (decide (Am=(m:Int)))with q1|q1;rotate_left
 ·simp only[i5,n8,z6,simprocAttr,h70,h7,g3,him,hpm,q1];exact hskip (by rw[hPrm,q1];rfl)
 have hio:=huo.inS (k:=m) (by rw[U3];exact hlt);have hlo:=ldB huo (b7 hx11) (k:=m) (by rw[U3];exact hlt);have hgo:(X9 M op)[m]'(by rw[U3];exact hlt)=op.contains (m:Int):=by
  have:=cl8 op hlt;rw[dq7 (by rw[U3];exact hlt)]at this;exact ds8 this
 rw[hgo]at hlo;rcases dq8 (op.contains (m:Int))with q2|q2
 ·simp only[i5,n8,z6,simprocAttr,h70,h7,g3,g4,him,hpm,q1,hio,hlo,q2];exact hskip (by rw[hPrm,q1,q2];rfl)
 have hPt:Pr m=true:=by rw[hPrm,q1,q2];rfl
 have hRm:Rw m=((List.range M).filter fun(j:Nat)=>decide (V1 part (j:Int)=(m:Int))).map fun(j:Nat)=>wy.place (j:Int):=by rw[←hRw]
 simp only[i5,n8,z6,simprocAttr,h70,g3,g4,him,hpm,q1,hio,hlo,q2,hSp,hnp];refine n9 [0,3,4,7,8,68,69,70,85,86] (σ:=Nat×Value) (fun s f w'=>f 87 = .int .i64 s.1∧f 9=s.2∧s.1≤M∧B0 (i4 w9) w' 3 s.2 (((List.range s.1).filter fun(j:Nat)=>decide (V1 part (j:Int)=(m:Int))).map fun(j:Nat)=>wy.place (j:Int))∧(∀b,A4 s.2 b→¬L3 v us b)∧K9 (i4 w9) w' 112 3 v us (((List.range m).filter Pr).map Rw)∧o7 w9 w') (fun s=>M-s.1) (0,.slice none 0 0) ?_ ?_
 ·simp only[p6,simprocAttr];exact⟨by trivial,by trivial,dr8 _,by simpa using B0.nil _ _ _,fun b hb=>absurd hb C6,hrows,hx11⟩
 rintro⟨j,ul⟩ f3 w12 hk ⟨h87,h9,hjl,hol,hdl,hrows12,hx12⟩;simp only at h87 h9 hjl hol hdl;simp only[dq9,p6,simprocAttr]at hk;obtain⟨r0,r3,r4,r7,r8,r68,r69,r70,r85,r86,_⟩:=hk;rw[hql]at r86;rw[g0]at r0;rw[g3]at r3;rw[h7]at r7;have hcnt:(((List.range j).filter fun(j:Nat)=>decide (V1 part (j:Int)=(m:Int))).map fun(j:Nat)=>wy.place (j:Int)).length≤j:=by
  rw[dr9];exact dr7 (dt9 _ _) (by simp)
 have hcnt2:us.length≤m:=by
  rw[hrows12.len,dr9];exact dr7 (dt9 _ _) (by simp)
 simp only[i5,n8,simprocAttr,h87,r86];refine m8 (fun hc=>?_) (fun hc=>?_)
 ·have hltj:j<M:=by simpa using hc
  have hlj:j<part.length:=by omega
  have hij:=hup.inS hlj;have hpj:=aJ6 hup9 (b7 hx12) hlj;rw[←aw5 hlj]at hpj;have hst2:(((List.range (j+1)).filter fun(j:Nat)=>decide (V1 part (j:Int)=(m:Int))).map fun(j:Nat)=>wy.place (j:Int))=(((List.range j).filter fun(j:Nat)=>decide (V1 part (j:Int)=(m:Int))).map fun(j:Nat)=>wy.place (j:Int))++if decide (V1 part (j:Int)=(m:Int))then[wy.place (j:Int)]else[]:=by
   rw[dB9,dy3,du1]
   congr 1
   cases h:decide (V1 part (j:Int)=(m:Int))<;>simp[h]
  generalize V1 part (j:Int)=Aj at hpj hst2;rcases dq8 (decide (Aj=(m:Int)))with q3|q3
  ·simp only[i5,n8,z6,simprocAttr,h87,r0,r3,r8,hij,hpj,q3];refine B2 (ab5 a wy p i x y (j:Int) w12 (ha9.mono (b7 hx12)) hok.toWyOk (by omega)) (fun w13 hx13=>?_);have hx913:=hx12.trans hx13;obtain⟨p1,ul',w14,p2,p3,p4,p5⟩:=push (e:=112) ae1 rfl (hol.ext hx13) (x:=.int .i64 (wy.place (j:Int))) (y:=wy.place (j:Int)) rfl (by omega) (by omega) (b7 hx913);simp only[Value.cells]at p1 p2;have hr13:=hrows12.ext hx13;have hr14:=hr13.mod p4 fun b hb hbl=>hdl b hbl hb;simp only[i5,n8,simprocAttr,h87,h9,p1,p2];refine⟨(j+1,ul'),by simp only[];omega,by simp only[];rw[A8 j (by omega)],by trivial,by simp only[];omega,?_,fun b hb hbr=>?_,hr14,(hol.ext hx13).ext2 hx913 p4⟩
   ·simp only[];rw[hst2,q3,if_pos rfl];exact p3
   ·rcases p5 b hb with h|h
    ·exact hdl b h hbr
    ·have:=hr13.lt hbr;omega
  ·simp only[i5,n8,z6,simprocAttr,h87,r3,r8,hij,hpj,q3];refine⟨(j+1,ul),by simp only[];omega,by simp only[];rw[A8 j (by omega)],h9,by simp only[];omega,?_,hdl,hrows12,hx12⟩;simp only[];rw[hst2,q3,if_neg (by simp),du2];exact hol
 ·have hge:j=M:=by simp at hc;omega
  subst hge;rw[←hRm]at hol;obtain⟨p1,v',w13,p2,p3,p4,p5⟩:=push (e:=153) bU6 rfl hrows12.outer (x:=ul) (y:=(⟨ul⟩:Z3)) (by rw[D8 hol.isS];exact⟨rfl,W9 hol.isS⟩) (by omega) (by omega) (b7 hx12);simp only[i5,n8,simprocAttr,h9,r7,r70,h70,p1,p2];refine⟨(m+1,v',us++[⟨ul⟩]),by simp only[];omega,by simp only[];rw[A8 m (by omega)],by trivial,by simp only[];omega,?_,hrows12.outer.ext2 hx12 p4⟩;simp only[];rw[hstep,hPt,if_pos rfl];exact hrows12.push hol hdl p3 p4 p5
theorem bM6{p:Pg}{i x y:Nat}{wy:Wy}(hok:ao2 p i x y wy):∃part op:List Int,wy.traps=((List.range part.length).filter fun(i':Nat)=>decide (V1 part (i':Int)=(i':Int)) && !op.contains (i':Int)).map (fun(i':Nat)=>((List.range part.length).filter fun(j:Nat)=>decide (V1 part (j:Int)=(i':Int))).map fun(j:Nat)=>wy.place (j:Int))∧(part.length:Int)=wy.n∧V1 part 0∈op∧V1 part (wy.n-1)∈op:=by
 refine⟨ad6 (ai9 wy.n.toNat (wy.pairs wy.real)).1,aq1 (ad6 (ai9 wy.n.toNat (wy.pairs wy.real)).1) wy.n (wy.pairs wy.real),rfl,?_,?_,?_⟩
 ·have h1:=(ag1 wy.n.toNat (wy.pairs wy.real)).nx.len;have h2:=hok.n;have h3:=hok.part.ok.le;unfold ad6;rw[dr9,dw7,h1];omega
 ·simp[aq1]
 ·simp[aq1]
theorem bM7{p:Pg}{i x y:Nat}{wy:Wy}(hok:ao2 p i x y wy):∀l∈wy.traps,∀id∈l,(x:Int)<id∧id≤(y:Int):=by
 obtain⟨part,op,e,hl,h0,h1⟩:=bM6 hok;intro l hm id hid;rw[e]at hm;obtain⟨k,hk,rfl⟩:=dt7.1 hm;obtain⟨j,hj,rfl⟩:=dt7.1 hid;rw[dv2,dv0]at hk hj;have hj2:=dr0 hj.2;have hkno:(k:Int)∉op:=by
  have:=hk.2;rw[dt0]at this;intro hm;have h2:=dt6.2 hm;rw[h2]at this;simp at this
 have hn:=hok.n;have hle':=hok.part.ok.le;rw[hok.toWyOk.place];have hj0:j≠0:=fun e=>by
  subst e;apply hkno;rw[←hj2];simpa using h0
 have hjn:(j:Int)≠wy.n-1:=fun e=>by
  apply hkno;rw[←hj2,e];exact h1
 rw[if_neg (by omega),if_neg hjn];omega
theorem bw6{p:Pg}{i x y:Nat}{wy:Wy}(hok:ao2 p i x y wy):(wy.traps.length:Int)≤wy.n∧∀l∈wy.traps,(l.length:Int)≤wy.n:=by
 obtain⟨part,op,e,hl,h0,h1⟩:=bM6 hok;rw[e];constructor
 ·rw[dr9];have:=dt9 (fun(i':Nat)=>decide (V1 part (i':Int)=(i':Int)) && !op.contains (i':Int)) (List.range part.length);rw[dw7]at this;omega
 ·intro l hm;obtain⟨k,hk,rfl⟩:=dt7.1 hm;rw[dr9];have:=dt9 (fun(j:Nat)=>decide (V1 part (j:Int)=(k:Int))) (List.range part.length);rw[dw7]at this;omega
theorem cM1{p:Pg}{i x y:Nat}{wy:Wy}(hok:ao2 p i x y wy):∀t∈wy.virtual,RgS x y t:=by
 intro t ht;obtain⟨l,hl,ht⟩:=dw1.1 ht;obtain⟨id,hid,rfl⟩:=dt7.1 ht;exact⟨.inr (bM7 hok l hl id (dv2.1 hid).1),.inl rfl⟩
theorem cD8{p:Pg}{i x y:Nat}{wy:Wy}(hok:ao2 p i x y wy)(h200:(b9 p).l.length≤200):wy.virtual.length≤202*202:=by
 obtain⟨h1,h2⟩:=bw6 hok;have hn:=hok.n;have hlen:=hok.part.ok.len;have:=S1 (fun l:List Int=>(l.filter fun id=>decide ((wy.s.it id).s.kind=10)).map fun id=>(⟨id,-1,3⟩:Sp)) 202 wy.traps fun l hl=>by
  rw[dr9];refine dr7 (dt9 _ _) ?_;have:=h2 l hl;omega
 refine dr7 this ?_;exact dz4 _ (by omega)
theorem bd3(a:Addr)(wy:Wy)(p:Pg)(i x y:Nat)(w:World)(ha:At (i4 w) a wy)(hr:E8 p)(hw:D1 p≤1000000)(hi:i<p.procs.length)(hok:ao2 p i x y wy):
  p7 prog 134 #[.pointer (some a)] w fun u w'=>(B0 (i4 w) w' 186 u wy.virtual∧o7 w w'):=by
 refine p8 [.pointer (some a)] func134 rfl ?_;obtain⟨vs,_,_,hvs,_,_,ldw,_⟩:=ha.wy;obtain⟨sh,rfl,has⟩:=Ptr.at_ hvs;have hss:At (i4 w) sh (b9 p):=by rw[←hok.s];exact has
 obtain⟨vL,_,_,hL,_,_,_,lds,_⟩:=hss.sh;have h200:=G9 hr.may;have hlen:=hok.part.ok.len;have hn:=hok.n;have hrg:=bM7 hok;obtain⟨htl,htl2⟩:=bw6 hok;have hF:wy.virtual=wy.traps.flatMap fun l=>(l.filter fun id=>decide (((b9 p).it id).s.kind=10)).map fun id=>(⟨id,-1,3⟩:Sp):=by unfold Wy.virtual;rw[hok.s]
 simp only[i5,n8,simprocAttr];refine z7 (cg3 a wy p i x y w ha hr hw hi hok) ?_;rintro ut w2 ⟨hut,hx2⟩;generalize wy.traps=tr at hut hF hrg htl htl2;have hSt:=hut.isS;have hnt:=hut.vlen;generalize hB:(fun l:List Int=>(l.filter fun id=>decide (((b9 p).it id).s.kind=10)).map fun id=>(⟨id,-1,3⟩:Sp))=B at hF;have hBl:∀l∈tr,(B l).length≤202:=fun l hl=>by
  rw[←hB,dr9];refine dr7 (dt9 _ _) ?_;have:=htl2 l hl;omega
 have hbt:∀k,((tr.take k).flatMap B).length≤202*202:=fun k=>by
  refine dr7 (S1 B 202 _ fun l hl=>hBl l (dz5 hl)) (dz4 _ ?_);rw[ds3];omega
 simp only[i5,n8,simprocAttr,hSt,hnt];refine n9 [0,9,10] (σ:=Nat×Value) (fun s f w'=>f 11 = .int .i64 s.1∧f 3=s.2∧s.1≤tr.length∧B0 (i4 w2) w' 186 s.2 ((tr.take s.1).flatMap B)∧o7 w2 w') (fun s=>tr.length-s.1) (0,.slice none 0 0) ?_ ?_
 ·simp only[p6,simprocAttr];exact⟨by trivial,by trivial,dr8 _,by simpa using B0.nil _ _ _,t8.refl _⟩
 rintro⟨j,u⟩ f w5 hk ⟨h11,h3,hjl,ho,hx5⟩;simp only at h11 h3 hjl ho;simp only[dq9,p6,simprocAttr]at hk;obtain⟨e0,e9,e10,_⟩:=hk;have hpre:=hbt j;simp only[i5,n8,simprocAttr,h11,e10];refine m8 (fun hc=>?_) (fun hc=>?_);rotate_left
 ·have hge:j=tr.length:=by simp at hc;omega
  subst hge;rw[ds2]at ho;simp only[i5,simprocAttr,h3];refine o6 results134 ?_;simp only[p6,simprocAttr];exact⟨by rw[hF];exact ho.backN hx2,hx2.trans hx5⟩
 have hlt:j<tr.length:=by simpa using hc
 have hin:=hut.inS hlt;obtain⟨ul,hul,hcl⟩:=R.row hut (dq7 hlt);have hld:=G1 (P:=prog) (t:=112) hcl (b7 hx5) R0;have htk:=I9 B tr hlt;have hrgl:=hrg _ (dr5 hlt);have hll:=htl2 _ (dr5 hlt);generalize tr[j]=l at hul htk hrgl hll;have hBl2:B l=(l.filter fun id=>decide (((b9 p).it id).s.kind=10)).map fun id=>(⟨id,-1,3⟩:Sp):=by rw[←hB]
 generalize(tr.take j).flatMap B=pre at ho hpre htk;have hSl:=hul.isS;have hnl:=hul.vlen;simp only[i5,n8,z6,simprocAttr,h11,e9,hin,hld,hSl,hnl];refine n9 [0,9,10,11,15,16] (σ:=Nat×Value) (fun s f w'=>f 17 = .int .i64 s.1∧f 3=s.2∧s.1≤l.length∧B0 (i4 w2) w' 186 s.2 (pre++((l.take s.1).filter fun id=>decide (((b9 p).it id).s.kind=10)).map fun id=>(⟨id,-1,3⟩:Sp))∧o7 w2 w') (fun s=>l.length-s.1) (0,u) ?_ ?_
 ·simp only[p6,simprocAttr];exact⟨by trivial,h3,dr8 _,by simpa using ho,hx5⟩
 rintro⟨k,u6⟩ f6 w6 hk ⟨h17,h36,hkl,ho6,hx6⟩;simp only at h17 h36 hkl ho6;simp only[dq9,p6,simprocAttr]at hk;obtain⟨q0,q9,q10,q11,q15,q16,_⟩:=hk;rw[e0]at q0;have hx06:=hx2.trans hx6;have hcnt:((l.take k).filter fun id=>decide (((b9 p).it id).s.kind=10)).length≤k:=dr7 (dt9 _ _) (by rw[ds3];omega);simp only[i5,n8,simprocAttr,h17,q16];refine m8 (fun hc=>?_) (fun hc=>?_);rotate_left
 ·have hge:k=l.length:=by simp at hc;omega
  subst hge;rw[ds2,←hBl2]at ho6;simp only[i5,n8,simprocAttr,q11,h11];refine⟨(j+1,u6),by simp only[];omega,by simp only[];rw[A8 j (by omega)],h36,by simp only[];omega,?_,hx6⟩;simp only[];rw[htk];exact ho6
 have hlt6:k<l.length:=by simpa using hc
 clear hin hld;have hin:=hul.inS hlt6;have hld:=aJ6 hul (b7 hx6) hlt6;have hid:=hrgl _ (dr5 hlt6);have htk6:((l.take (k+1)).filter fun id=>decide (((b9 p).it id).s.kind=10)).map (fun id=>(⟨id,-1,3⟩:Sp))=((l.take k).filter fun id=>decide (((b9 p).it id).s.kind=10)).map (fun id=>(⟨id,-1,3⟩:Sp))++if decide (((b9 p).it l[k]).s.kind=10)then[⟨l[k],-1,3⟩]else[]:=by
  rw[dr6 hlt6,dy3,du1]
  congr 1
  cases h:decide (((b9 p).it l[k]).s.kind=10)<;>simp[h]
 generalize l[k]=id at hld hid htk6;obtain⟨_,_,hget⟩:=hok.part.at_ id hid.1 hid.2;have lw6:=ldw w6 (b7 hx06);have ls6:=lds w6 (b7 hx06);obtain⟨hats,_,_⟩:=(hL.at_ hget).it;obtain⟨_,_,_,_,_,_,_,_,_,ldt,_⟩:=hats.st;have lt6:=ldt w6 (b7 hx06);have hz:A3.sz It=17:=rfl;rw[hz]at lt6;have hltL:=(dr4.1 hget).1;have hinL:=hL.inS hltL;have hwid:IntKind.i64.wrap (id-1)=(((id-1).toNat:Nat):Int):=by rw[K6 _ (by omega)];omega
 generalize(id-1).toNat=qq at lt6 hinL hwid;generalize((b9 p).it id).s.kind=kk at lt6 htk6;rcases dq8 (decide (kk=10))with hq|hq
 ·obtain⟨p1,u7,w7,p2,p3,p4,p5⟩:=push (e:=144) bm7 rfl ho6 (x:=.agg (A6.cells (⟨id,-1,3⟩:Sp)).toArray) (y:=⟨id,-1,3⟩) (bF3 _) (by simp only[dr1,dr9];omega) (by simp only[dr1,dr9];omega) (b7 hx6);simp only[i5,n8,z6,simprocAttr,h17,h36,q0,q15,hin,hld,lw6,ls6,hwid,hinL,lt6,hq,ai3,p1,p2];refine⟨(k+1,u7),by simp only[];omega,by simp only[];rw[A8 k (by omega)],by trivial,by simp only[];omega,?_,ho6.ext2 hx6 p4⟩;simp only[];rw[htk6,hq,if_pos rfl,←dt4];exact p3
 ·simp only[i5,n8,z6,simprocAttr,h17,h36,q0,q15,hin,hld,lw6,ls6,hwid,hinL,lt6,hq];refine⟨(k+1,u6),by simp only[];omega,by simp only[];rw[A8 k (by omega)],by trivial,by simp only[];omega,?_,hx6⟩;simp only[];rw[htk6,hq,if_neg (by simp),du2];exact ho6
theorem cd0{x y:Nat}(hy:y≤1000000){t:Sp}(h:RgS x y t):plc t.src∧plc t.dst:=
 ⟨by rcases h.1 with h|h<;>unfold plc<;>omega,bU0 hy h.2⟩
theorem cZ4{p:Pg}{i x y:Nat}(pt:at7 p i x y):y≤1000000:=dr7 pt.ok.len pt.ok.fit
theorem cD9{p:Pg}{i x y:Nat}{wy:Wy}(hr:E8 p)(hw:D1 p≤1000000)(hi:i<p.procs.length)(hok:ao2 p i x y wy):∀t∈wy.virtual++wy.real,RgS x y t:=by
 intro t ht;rcases ds4.1 ht with ht|ht
 ·exact cM1 hok t ht
 ·rw[hok.real]at ht;exact bn3 hr hw hi hok.part t ht
theorem bD1{p:Pg}{i x y:Nat}{wy:Wy}(hr:E8 p)(hw:D1 p≤1000000)(hi:i<p.procs.length)(hok:ao2 p i x y wy):wy.virtual.length+wy.real.length≤1000000:=by
 have h1:=cD8 hok (G9 hr.may);have h2:=aX0 hw hi;rw[hok.real];omega
theorem bz2{p:Pg}{i x y:Nat}{wy:Wy}(hr:E8 p)(hw:D1 p≤1000000)(hi:i<p.procs.length)(hok:ao2 p i x y wy):∀t∈wy.data,RgS x y t:=fun t ht=>cD9 hr hw hi hok t (aM9 ht)
theorem aO3{p:Pg}{i x y:Nat}{wy:Wy}(hr:E8 p)(hw:D1 p≤1000000)(hi:i<p.procs.length)(hok:ao2 p i x y wy):wy.data.length≤1000000:=by
 have h:=bD1 hr hw hi hok;refine dr7 (aM8 _) ?_;rw[dr1];exact h
theorem bD5(a:Addr)(wy:Wy)(p:Pg)(i x y:Nat)(w:World)(ha:At (i4 w) a wy)(hr:E8 p)(hw:D1 p≤1000000)(hi:i<p.procs.length)(hok:ao2 p i x y wy):
  p7 prog 83 #[.pointer (some a)] w fun u w'=>(B0 (i4 w) w' 186 u wy.data∧o7 w w'):=by
 refine p8 [.pointer (some a)] func83 rfl ?_;obtain⟨_,vr,_,_,hvr,_,ldw,sdw⟩:=ha.wy;obtain⟨_,_,_,sr,_⟩:=sdw (fun w'=>o7 w.drew w') w.drew (t8.refl _) fun w' h=>b7 ((o7.drew w).trans h);have hlen:=bD1 hr hw hi hok;have hrg:=cD9 hr hw hi hok;have hy:=cZ4 hok.part;simp only[i5,n8,simprocAttr];refine C0 (fun w'=>o7 w.drew w') 6 (A9 [0,2,3,4,5,1]) ?_;simp only[D2,A9,i5,n8,simprocAttr,sr];refine z7 (bd3 a wy p i x y w.drew (ha.mono (b7 (o7.drew w))) hr hw hi hok) ?_;rintro u w2 ⟨ho,hx2⟩;refine⟨hx2,?_⟩;obtain⟨u3,w3,p1,p2,p3,p4⟩:=ag3 (P:=prog) (t:=144) (e:=144) bm7 rfl ho (A3.mono (b7 (o7.drew w)) hvr) (by omega) (by omega) (b7 hx2);simp only[D2,i5,simprocAttr,p1];refine z7 (aw7 p2 (by simp only[dr1];omega) (b7 (ho.ext2 hx2 p3)) fun t ht=>cd0 hy (hrg t ht)) ?_;rintro u4 w4 ⟨ho4,hm4,_⟩;simp only[i5,simprocAttr];refine o6 results83 ?_;simp only[p6,simprocAttr];exact⟨ho4.backN (o7.drew w),(o7.drew w).trans (p2.ext2 (ho.ext2 hx2 p3) hm4)⟩
theorem cq5{p:Pg}{i x y:Nat}{wy:Wy}(hr:E8 p)(hw:D1 p≤1000000)(hi:i<p.procs.length)(hok:ao2 p i x y wy):∀t∈wy.virtual++wy.real++[⟨0,-1,2⟩]++((b9 p).of i).flatMap U7,RgS x y t:=by
 intro t ht;rcases ds4.1 ht with ht|ht
 ·rcases ds4.1 ht with ht|ht
  ·exact cD9 hr hw hi hok t ht
  ·obtain rfl:=dt8.1 ht;exact⟨.inl rfl,.inl rfl⟩
 ·obtain⟨it,hit,ht⟩:=dw1.1 ht;unfold U7 at ht;split at ht
  ·obtain rfl:=dt8.1 ht;exact⟨.inr (hok.part.ids it hit),hok.part.next it hit⟩
  ·simp at ht
theorem bj4(it:It):(U7 it).length≤1:=by
 unfold U7;split<;>simp
theorem bX2(a:Addr)(wy:Wy)(p:Pg)(i x y:Nat)(w:World)(ha:At (i4 w) a wy)(hr:E8 p)(hw:D1 p≤1000000)(hi:i<p.procs.length)(hok:ao2 p i x y wy):
  p7 prog 107 #[.pointer (some a)] w fun u w'=>(B0 (i4 w) w' 186 u wy.aug∧o7 w w'):=by
 refine p8 [.pointer (some a)] func107 rfl ?_;obtain⟨vs,vr,_,hvs,hvr,_,_,sdw⟩:=ha.wy;obtain⟨sh,rfl,has⟩:=Ptr.at_ hvs;have hss:At (i4 w) sh (b9 p):=by rw[←hok.s];exact has
 obtain⟨_,_,_,sr,_⟩:=sdw (fun w'=>o7 w.drew w') w.drew (t8.refl _) fun w' h=>b7 ((o7.drew w).trans h);have hlen:=bD1 hr hw hi hok;have hrg:=cq5 hr hw hi hok;have hy:=cZ4 hok.part;have hF:wy.aug=ar0 (wy.virtual++wy.real++[⟨0,-1,2⟩]++((b9 p).of i).flatMap U7):=by unfold Wy.aug;rw[hok.s,hok.proc]
 simp only[i5,n8,simprocAttr];refine C0 (fun w'=>o7 w.drew w') 6 (A9 [0,2,3,4,5,1]) ?_;simp only[D2,A9,i5,n8,simprocAttr,sr];refine z7 (bd3 a wy p i x y w.drew (ha.mono (b7 (o7.drew w))) hr hw hi hok) ?_;rintro u w2 ⟨ho,hx2⟩;refine⟨hx2,?_⟩;obtain⟨u3,w3,p1,p2,p3,p4⟩:=ag3 (P:=prog) (t:=144) (e:=144) bm7 rfl ho (A3.mono (b7 (o7.drew w)) hvr) (by omega) (by omega) (b7 hx2);have hx3:=ho.ext2 hx2 p3;obtain⟨q1,u4,w4,q2,q3,q4,q5⟩:=push (e:=144) bm7 rfl p2 (x:=.agg (A6.cells (⟨0,-1,2⟩:Sp)).toArray) (y:=⟨0,-1,2⟩) (bF3 _) (by simp only[dr1];omega) (by simp only[dr1];omega) (b7 hx3);have hx4:=(o7.drew w).trans (p2.ext2 hx3 q4);have ho4:=q3.backN (o7.drew w);have hbase:(wy.virtual++wy.real++[(⟨0,-1,2⟩:Sp)]).length≤1000001:=by simp only[dr1,du0];omega
 generalize wy.virtual++wy.real++[(⟨0,-1,2⟩:Sp)]=base at ho4 hF hrg hbase;obtain⟨z1,z2,_,_,_⟩:=sdw (fun w'=>o7 w4.drew w') w4.drew (t8.refl _) fun w' h=>b7 (hx4.trans ((o7.drew w4).trans h));simp only[D2,i5,simprocAttr,p1,ai3,q1,q2];refine C0 (fun w'=>o7 w4.drew w') 11 (A9 [0,1,2,3,4,5,6,7,10,8,9]) ?_;simp only[D2,A9,i5,n8,simprocAttr,z1,z2];have hx4d:=hx4.trans (o7.drew w4);rw[hok.proc];refine z7 (aF3 (i4 w) sh (b9 p) i x y w4.drew hss (b7 hx4d) hok.part.ok) ?_;rintro ui w5 ⟨hui,hx5⟩;refine⟨hx5,?_⟩;have hS2:=hui.isS;have hn2:=hui.vlen;have hil:=(bb2 p hw i hi).2;generalize hl:(b9 p).of i=l at hui hF hrg hn2 hil;have hx05:=hx4d.trans hx5;have ho5:=ho4.ext ((o7.drew w4).trans hx5);have hbt:∀k,((l.take k).flatMap U7).length≤400000:=fun k=>by
  refine dr7 (S1 U7 1 _ fun x _=>bj4 x) ?_;rw[ds3];omega
 simp only[D2,i5,n8,simprocAttr,hS2,hn2];refine n9 [0,25,26] (σ:=Nat×Value) (fun s f w'=>f 27 = .int .i64 s.1∧f 3=s.2∧s.1≤l.length∧B0 (i4 w) w' 186 s.2 (base++(l.take s.1).flatMap U7)∧o7 w w') (fun s=>l.length-s.1) (0,u4) ?_ ?_
 ·simp only[p6,simprocAttr];exact⟨by trivial,by trivial,dr8 _,by simpa using ho5,hx05⟩
 rintro⟨j,u⟩ f w6 hk ⟨h27,h3,hjl,ho,hx6⟩;simp only at h27 h3 hjl ho;simp only[dq9,p6,simprocAttr]at hk;obtain⟨e0,e25,e26,_⟩:=hk;have hpre:=hbt j;simp only[i5,n8,simprocAttr,h27,e26];refine m8 (fun hc=>?_) (fun hc=>?_);rotate_left
 ·have hge:j=l.length:=by simp at hc;omega
  subst hge;rw[ds2]at ho hpre;simp only[i5,simprocAttr,h3];refine z7 (aw7 ho (by simp only[dr1];omega) (b7 hx6) fun t ht=>cd0 hy (hrg t ht)) ?_;rintro u6 w7 ⟨ho6,hm6,_⟩;simp only[i5,simprocAttr];refine o6 results107 ?_;simp only[p6,simprocAttr];exact⟨by rw[hF];exact ho6,ho.ext2 hx6 hm6⟩
 have hlt:j<l.length:=by simpa using hc
 have hin:=hui.inS hlt;obtain⟨sv,hsv,hld⟩:=E4 (P:=prog) (t:=121) hui (b7 hx6) (dq7 hlt) ab1 ab2 Z1 I7;rw[I7]at hld;have htk:=I9 U7 l hlt;generalize l[j]=it at hsv htk;obtain⟨c,wz,w7,hal,hst,hx7,hati⟩:=aI8 (w:=w6) (A4 u) hsv (fun b hb=>ho.lt hb);obtain⟨us,hus,hats,ldI,_⟩:=I2.it hsv hati;obtain⟨_,_,_,_,_,_,_,_,_,_,_,ldt,_⟩:=I2.st hus hats;have hx67:=hx6.trans hx7;have k1:=ldt w7 (B3 _ _);have k2:=ldI w7 (B3 _ _);have hjt:(it.s.kind=7∨it.s.kind=8∨it.s.kind=9∨it.s.kind=10)→U7 it=[⟨it.s.id,it.next,2⟩]:=fun h=>by unfold U7;rw[if_pos h]
 have hpl:(base++(l.take j).flatMap U7).length≤2000000:=by rw[dr1];omega
 obtain⟨p1,u7,w8,p2,p3,p4,p5⟩:=push (e:=144) bm7 rfl (ho.ext hx7) (x:=.agg (A6.cells (⟨it.s.id,it.next,2⟩:Sp)).toArray) (y:=⟨it.s.id,it.next,2⟩) (bF3 _) (by omega) (by omega) (b7 hx67);rcases dq8 (decide (it.s.kind=7))with k7|k7
 ·simp only[i5,n8,z6,simprocAttr,h27,h3,e25,hin,hld,hal,hst,k1,k2,k7,ai3,p1,p2];refine⟨(j+1,u7),by simp only[];omega,by simp only[];rw[A8 j (by omega)],by trivial,by simp only[];omega,?_,(ho.ext hx7).ext2 hx67 p4⟩;simp only[];rw[htk,hjt (by have:=dr0 k7;omega),←dt4];exact p3
 rcases dq8 (decide (it.s.kind=8))with k8|k8
 ·simp only[i5,n8,z6,simprocAttr,h27,h3,e25,hin,hld,hal,hst,k1,k2,k7,k8,ai3,p1,p2];refine⟨(j+1,u7),by simp only[];omega,by simp only[];rw[A8 j (by omega)],by trivial,by simp only[];omega,?_,(ho.ext hx7).ext2 hx67 p4⟩;simp only[];rw[htk,hjt (by have:=dr0 k8;omega),←dt4];exact p3
 rcases dq8 (decide (it.s.kind=9))with k9|k9
 ·simp only[i5,n8,z6,simprocAttr,h27,h3,e25,hin,hld,hal,hst,k1,k2,k7,k8,k9,ai3,p1,p2];refine⟨(j+1,u7),by simp only[];omega,by simp only[];rw[A8 j (by omega)],by trivial,by simp only[];omega,?_,(ho.ext hx7).ext2 hx67 p4⟩;simp only[];rw[htk,hjt (by have:=dr0 k9;omega),←dt4];exact p3
 rcases dq8 (decide (it.s.kind=10))with k10|k10
 ·simp only[i5,n8,z6,simprocAttr,h27,h3,e25,hin,hld,hal,hst,k1,k2,k7,k8,k9,k10,ai3,p1,p2];refine⟨(j+1,u7),by simp only[];omega,by simp only[];rw[A8 j (by omega)],by trivial,by simp only[];omega,?_,(ho.ext hx7).ext2 hx67 p4⟩;simp only[];rw[htk,hjt (by have:=dr0 k10;omega),←dt4];exact p3
 simp only[i5,n8,z6,simprocAttr,h27,h3,e25,hin,hld,hal,hst,k1,k7,k8,k9,k10];refine⟨(j+1,u),by simp only[];omega,by simp only[];rw[A8 j (by omega)],by trivial,by simp only[];omega,?_,hx67⟩;simp only[];have hj0:U7 it=[]:=by
  unfold U7;rw[if_neg];have:=dr2 k7;have:=dr2 k8;have:=dr2 k9;have:=dr2 k10;omega
 rw[htk,hj0,du2];exact ho.ext hx7
def bp3(n:Int)(e:Int×Int):Bool:=decide (e.1<0)||decide (e.1≥n)||decide (e.2<0)||decide (e.2≥n)
theorem bO5{n:Nat}{e:Int×Int}:bp3 n e=false↔aY0 n e:=by
 simp[bp3,aY0];omega
theorem aW5{P:Program}{t:TypeId}(ht:H6 P t=false)(hu:(P.underlying t).isSome=true){cs:Array Value}{i:Nat}{v:Value}(h:cs[i]?=some v)(w:World):(part t cs i).run P w = .ok v w:=by
 unfold part;simp only[dt3,X2 t hu,ds6,ht,dx4,dy5,h,du6]
theorem cg5(m x y:Int):(decide (x<0)=true∧bp3 m (x,y)=true)∨(decide (x<0)=false∧decide (x≥m)=true∧bp3 m (x,y)=true) ∨
  (decide (x<0)=false∧decide (x≥m)=false∧decide (y<0)=true∧bp3 m (x,y)=true)∨(decide (x<0)=false∧decide (x≥m)=false∧decide (y<0)=false∧decide (y≥m)=true∧bp3 m (x,y)=true) ∨
  (decide (x<0)=false∧decide (x≥m)=false∧decide (y<0)=false∧decide (y≥m)=false∧bp3 m (x,y)=false):=by
 unfold bp3;cases decide (x<0)<;>cases decide (x≥m)<;>cases decide (y<0)<;>cases decide (y≥m)<;>simp
end Go.Proofs.YtcbnbgpphippoaaGreat
